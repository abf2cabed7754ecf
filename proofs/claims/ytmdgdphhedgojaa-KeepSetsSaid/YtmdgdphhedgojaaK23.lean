import Derived.Test.YtmdgdphhedgojaaK20
import Derived.Test.YtmdgdphhedgojaaK22
namespace Go.Proofs.Ytmdgdphhedgojaa
open Go.RowKit Go.Maps

section
variable {w W : World} {p : Nat} {F : Nat → Prop} {ls ws : List Int} {ns : List (Int × Int × Int)} {work : Int}
theorem KP.bp (h : KP w p F ls ws ns work) : ∃ cs, Bk w p 70 cs := by
  obtain ⟨_, _, _, _, C, c, A, a, B, b, D, d, h3, _⟩ := h
  exact ⟨_, h3⟩
theorem KP.bk (h : KP w p F ls ws ns work) {g : Nat} {t : TypeId} {cs : Array Value} (hb : Bk w g t cs) (ht : t ≠ 70) (hW : w.grownBy W (some p)) : Bk W g t cs := by
  obtain ⟨cs', h3⟩ := h.bp
  exact hb.grown hW (fun e => Bk.ne_ hb h3 ht (by injection e))
theorem KP.own (h : KP w p F ls ws ns work) {base size n : Nat} {e : TypeId} {v : Value} {xs : List Value} (ho : w.ownsRow base e size v n xs) (he : e ≠ 70) (hW : w.grownBy W (some p)) : W.ownsRow base e size v n xs := by
  obtain ⟨cs', h3⟩ := h.bp
  exact own_grown ho hW (.inr (Ne.symm (h3.ne_own ho he)))
theorem far_p {B : Nat} {a : World} (hb : Below B a w) (hz : B ≤ w.heap.size) (hp : B ≤ p) (hW : w.grownBy W (some p)) : Below B a W := hb.grown hW hz (fun k hk => by injection hk with hk; omega)
end
theorem KP.siB {w : World} {p g : Nat} {F : Nat → Prop} {ls ws l : List Int} {ns : List (Int × Int × Int)} {work : Int} (h : KP w p F ls ws ns work) (hb : Bk w g 3 (rowI l)) : ∀ W, w.grownBy W (some p) → SI W (some ⟨g, 0, none⟩) l := fun _ hW => sl_bk (h.bk hb (by decide) hW)
theorem KP.stB {w : World} {p g : Nat} {F : Nat → Prop} {ls ws : List Int} {l ns : List (Int × Int × Int)} {work : Int} (h : KP w p F ls ws ns work) (hb : Bk w g 52 (triC l).toArray) : ∀ W, w.grownBy W (some p) → ST W (some ⟨g, 0, none⟩) l := fun _ hW => sl_bk (h.bk hb (by decide) hW)
theorem KP.siO {w : World} {p n c base : Nat} {F : Nat → Prop} {A : Option Addr} {ls ws l : List Int} {ns : List (Int × Int × Int)} {work : Int} (h : KP w p F ls ws ns work) (ho : w.ownsRow base 3 1 (.slice A n c) n (l.map (Value.int .i64))) : ∀ W, w.grownBy W (some p) → SI W A l := fun _ hW => SL.of_own (h.own ho (by decide) hW)
theorem KP.stO {w : World} {p n c base : Nat} {F : Nat → Prop} {A : Option Addr} {ls ws : List Int} {l ns : List (Int × Int × Int)} {work : Int} (h : KP w p F ls ws ns work) (ho : w.ownsRow base 52 3 (.slice A n c) n (triC l)) : ∀ W, w.grownBy W (some p) → ST W A l := fun _ hW => SL.of_own (h.own ho (by decide) hW)
/-- A cell that is not of the hierarchy is written. -/
theorem KP.set_ {w : World} {p g : Nat} {F : Nat → Prop} {ls ws : List Int} {ns : List (Int × Int × Int)} {work : Int} (h : KP w p F ls ws ns work) (hg : ¬ F g) (hp : p ≠ g) (i : Nat) (u : Value) : KP (w.setCell ⟨g, i, none⟩ u) p F ls ws ns work :=
  h.kf ⟨by simp [World.setCell], fun k hk _ => Below.heap_setCell w _ u k (fun e => hg (by
    have e' : k = g := e
    exact e' ▸ hk))⟩ (Below.heap_setCell w _ u p hp)
theorem own_rowT {w : World} {base g : Nat} {l : List (Int × Int × Int)} (h : Bk w g 52 (triC l).toArray) (hb : base ≤ g) (hl : l.length ≤ 1099511627776) : w.ownsRow base 52 3 (.slice (some ⟨g, 0, none⟩) l.length l.length) l.length (triC l) :=
  ⟨by rw [triC_len], .inr ⟨g, l.length, (triC l).toArray, rfl, hb, h, Nat.le_refl _, by unfold maxLen; omega, by simp [triC_len], by simp [List.take_of_length_le, triC_len]⟩⟩

def kW : List Int := [0, 1, 2, 3, 4]
def kW2 : List Int := [0, 1, 5, 3, 4]
def kN : List (Int × Int × Int) := [(0, 2, 1), (1, 3, 1)]
set_option maxRecDepth 100000 in
theorem k_v : validE kW kN = 0 ∧ validE kW2 kN = 0 ∧ thrE [3] = 0 := by decide +kernel
set_option maxRecDepth 100000 in
theorem k_f : facesOf (partsD kW kN) = [[1, 3], [2], [4]] := by decide +kernel
set_option maxRecDepth 100000 in
theorem k_n : (newsD (partsD [] []) (partsD kW kN)).length = 3 ∧ (newsD (partsD kW kN) (partsD kW kN)).length = 0 ∧ (newsD (partsD kW kN) (partsD kW2 kN)).length = 1 := by decide +kernel
set_option maxRecDepth 100000 in
theorem k_i : incD (newsD (partsD [] []) (partsD kW kN)) = 4 ∧ incD (newsD (partsD kW kN) (partsD kW kN)) = 0 ∧ incD (newsD (partsD kW kN) (partsD kW2 kN)) = 1 := by decide +kernel
set_option maxRecDepth 100000 in
theorem k_l : lists kW2 kN [3] = [[0, 1, 2, 1, 3]] := by decide +kernel

set_option linter.unusedSimpArgs false in
set_option maxHeartbeats 8000000 in
set_option maxRecDepth 100000 in
theorem lives_any (w : World) : Calls Try.prog 18 #[] w fun e w' => e = .returned (.bool true) ∧ Below w.heap.size w w' := by
  go_enter Try.func18, Try.ntmps18
  go_wp2_with fail
  have Hb0 := Lib.hid ((Below.refl w.heap.size w).alloc (Nat.le_refl _) (.cells #[.int .i64 3] 3))
  have hsi : SI (w.alloc (.cells #[.int .i64 3] 3)) (some ⟨w.heap.size, 0, none⟩) [3] := sl_bk (Bk.new w 3 #[.int .i64 3])
  refine (new_any _ 1 [3] _ hsi (by simp)).mono ?_
  rintro e w1 ⟨hb1, hok, _⟩
  obtain ⟨p, F, rfl, hpz, hKP, _⟩ := hok k_v.2.2
  have hSp : w.heap.size ≤ p := by simp at hpz; omega
  have HK1 := Lib.hid hKP
  have Hb1 := Lib.hid (Hb0.out.trans (hb1.mono Hb0.out.size))
  have hz1 := Hb1.out.size
  clear hsi Hb0 hb1 hok hKP hpz
  obtain ⟨S, hS⟩ : ∃ S, Hid (w.heap.size = S) := ⟨_, Lib.hid rfl⟩
  rw [hS.out] at hSp Hb1 hz1
  have Hbz := Lib.hid (fun (W : World) (hW : Below S w W) => (show S ≤ W.heap.size by have := hW.size; have := hS.out; omega))
  have q0 : (((w1.alloc (.cells #[.int .i64 0, .int .i64 1, .int .i64 2, .int .i64 3, .int .i64 4] 3)).alloc (.cells #[.int .i64 0, .int .i64 2, .int .i64 1, .int .i64 1, .int .i64 3, .int .i64 1] 52)).alloc (.cells #[.slice (some ⟨w1.heap.size, 0, none⟩) 5 5, .slice (some ⟨w1.heap.size + 1, 0, none⟩) 2 2] 36)).cell? ⟨w1.heap.size + 1 + 1, 0, none⟩ = some (.slice (some ⟨w1.heap.size, 0, none⟩) 5 5) := (Bk.new' _ 36 #[.slice (some ⟨w1.heap.size, 0, none⟩) 5 5, .slice (some ⟨w1.heap.size + 1, 0, none⟩) 2 2] (by simp)).cell 0
  have q1 : (((w1.alloc (.cells #[.int .i64 0, .int .i64 1, .int .i64 2, .int .i64 3, .int .i64 4] 3)).alloc (.cells #[.int .i64 0, .int .i64 2, .int .i64 1, .int .i64 1, .int .i64 3, .int .i64 1] 52)).alloc (.cells #[.slice (some ⟨w1.heap.size, 0, none⟩) 5 5, .slice (some ⟨w1.heap.size + 1, 0, none⟩) 2 2] 36)).cell? ⟨w1.heap.size + 1 + 1, 1, none⟩ = some (.slice (some ⟨w1.heap.size + 1, 0, none⟩) 2 2) := (Bk.new' _ 36 #[.slice (some ⟨w1.heap.size, 0, none⟩) 5 5, .slice (some ⟨w1.heap.size + 1, 0, none⟩) 2 2] (by simp)).cell 1
  go_wp2_with fail
  clear q0 q1
  have hGW := ((Bk.new w1 3 (rowI kW)).alloc (.cells (triC kN).toArray 52)).alloc (.cells #[.slice (some ⟨w1.heap.size, 0, none⟩) 5 5, .slice (some ⟨w1.heap.size + 1, 0, none⟩) 2 2] 36)
  have hGN := (Bk.new' (w1.alloc (.cells (rowI kW) 3)) 52 (triC kN).toArray (g := w1.heap.size + 1) (by simp)).alloc (.cells #[.slice (some ⟨w1.heap.size, 0, none⟩) 5 5, .slice (some ⟨w1.heap.size + 1, 0, none⟩) 2 2] 36)
  have hGG := Bk.new' ((w1.alloc (.cells (rowI kW) 3)).alloc (.cells (triC kN).toArray 52)) 36 #[.slice (some ⟨w1.heap.size, 0, none⟩) 5 5, .slice (some ⟨w1.heap.size + 1, 0, none⟩) 2 2] (g := w1.heap.size + 1 + 1) (by simp)
  have hbg := ((Below.refl w1.heap.size w1).alloc (Nat.le_refl _) (.cells (rowI kW) 3)).alloc (by simp) (.cells (triC kN).toArray 52) |>.alloc (by simp; omega) (.cells #[.slice (some ⟨w1.heap.size, 0, none⟩) 5 5, .slice (some ⟨w1.heap.size + 1, 0, none⟩) 2 2] 36)
  have hF1 : ¬ F w1.heap.size := fun h => Nat.lt_irrefl _ (HK1.out.fl _ h)
  have hpW : p ≠ w1.heap.size := by have := HK1.out.lt; omega
  have HF1 := Lib.hid hF1
  clear hF1
  change Calls _ _ _ (((w1.alloc (.cells (rowI kW) 3)).alloc (.cells (triC kN).toArray 52)).alloc (.cells #[.slice (some ⟨w1.heap.size, 0, none⟩) 5 5, .slice (some ⟨w1.heap.size + 1, 0, none⟩) 2 2] 36)) _
  have HK2 := Lib.hid (HK1.out.below hbg)
  have Hb2 := Lib.hid (Hb1.out.trans (hbg.mono hz1))
  have HW2 := Lib.hid hGW
  have HN2 := Lib.hid hGN
  have HG2 := Lib.hid hGG
  clear hGW hGN hGG hbg HK1 Hb1
  generalize ((w1.alloc (.cells (rowI kW) 3)).alloc (.cells (triC kN).toArray 52)).alloc (.cells #[.slice (some ⟨w1.heap.size, 0, none⟩) 5 5, .slice (some ⟨w1.heap.size + 1, 0, none⟩) 2 2] 36) = W2 at *
  have hgW0 : w1.heap.size + 1 + 1 ≠ w1.heap.size := by omega
  generalize w1.heap.size + 1 + 1 = gG at *
  generalize w1.heap.size + 1 = gN at *
  generalize w1.heap.size = gW at *
  refine (partsX_any (some ⟨gW, 0, none⟩) (some ⟨gN, 0, none⟩) 5 2 kW kN W2 (sl_bk HW2.out) (sl_bk HN2.out) (by decide) (by decide)).mono ?_
  rintro e w3 ⟨hb3, hok, _⟩
  obtain ⟨DL, mL, rfl, hL⟩ := hok k_v.1
  rw [k_f] at hL ⊢
  have hgWz : gW < W2.heap.size := HW2.out.lt
  have hpWz : p < W2.heap.size := HK2.out.lt
  have hz23 := hb3.size
  have HL3 := Lib.hid hL
  have HK3 := Lib.hid (HK2.out.below hb3)
  have Hb3 := Lib.hid (Hb2.out.trans (hb3.mono (Hbz.out _ Hb2.out)))
  have HW3 := Lib.hid (HW2.out.below hb3 HW2.out.lt)
  have HN3 := Lib.hid (HN2.out.below hb3 HN2.out.lt)
  have HG3 := Lib.hid (HG2.out.below hb3 HG2.out.lt)
  have q0 : w3.cell? ⟨gG, 0, none⟩ = some (.slice (some ⟨gW, 0, none⟩) 5 5) := HG3.out.cell 0
  have q1 : w3.cell? ⟨gG, 1, none⟩ = some (.slice (some ⟨gN, 0, none⟩) 2 2) := HG3.out.cell 1
  clear hb3 hok hL HK2 Hb2 HW2 HN2 HG2
  go_wp2_with fail
  clear q0 q1
  refine (set_any p F (some ⟨gW, 0, none⟩) (some ⟨gN, 0, none⟩) 5 2 [3] [] kW [] kN 0 w3 HK3.out (HK3.out.siB HW3.out) (HK3.out.stB HN3.out) (by decide) (by decide) (by omega)).mono ?_
  rintro e w4 ⟨_, hok⟩
  obtain ⟨he, hg, F2, hK, hF2⟩ := hok k_v.1
  rw [k_n.1] at he
  rw [k_i.1] at hK
  have HF2 := Lib.hid (show ¬ F2 gW from fun h => (hF2 gW h).elim HF1.out (fun h => by omega))
  subst he
  have HK4 := Lib.hid hK
  have Hb4 := Lib.hid (far_p Hb3.out (Hbz.out _ Hb3.out) hSp hg)
  have HW4 := Lib.hid (HK3.out.bk HW3.out (by decide) hg)
  have HN4 := Lib.hid (HK3.out.bk HN3.out (by decide) hg)
  have HG4 := Lib.hid (HK3.out.bk HG3.out (by decide) hg)
  have HgL4 := Lib.hid hg
  have q0 : w4.cell? ⟨gG, 0, none⟩ = some (.slice (some ⟨gW, 0, none⟩) 5 5) := HG4.out.cell 0
  have q1 : w4.cell? ⟨gG, 1, none⟩ = some (.slice (some ⟨gN, 0, none⟩) 2 2) := HG4.out.cell 1
  clear hok hK hg HK3 Hb3 HW3 HN3 HG3
  go_wp2_with fail
  clear q0 q1
  refine (set_any p F2 (some ⟨gW, 0, none⟩) (some ⟨gN, 0, none⟩) 5 2 [3] kW kW kN kN (0 + 4) w4 HK4.out (HK4.out.siB HW4.out) (HK4.out.stB HN4.out) (by decide) (by decide) (by omega)).mono ?_
  rintro e w5 ⟨_, hok⟩
  obtain ⟨he, hg, F3, hK, hF3⟩ := hok k_v.1
  rw [k_n.2.1] at he
  rw [k_i.2.1] at hK
  have hz34 := HgL4.out.size
  have HF3 := Lib.hid (show ¬ F3 gW from fun h => (hF3 gW h).elim HF2.out (fun h => by omega))
  subst he
  have HK5 := Lib.hid hK
  have Hb5 := Lib.hid (far_p Hb4.out (Hbz.out _ Hb4.out) hSp hg)
  have HW5 := Lib.hid (HK4.out.bk HW4.out (by decide) hg)
  have HN5 := Lib.hid (HK4.out.bk HN4.out (by decide) hg)
  have HG5 := Lib.hid (HK4.out.bk HG4.out (by decide) hg)
  have HgL5 := Lib.hid (HgL4.out.trans hg)
  have q0 : w5.cell? ⟨gG, 0, none⟩ = some (.slice (some ⟨gW, 0, none⟩) 5 5) := HG5.out.cell 0
  have q2 : w5.cell? ⟨gW, 2, none⟩ = some (.int .i64 2) := HW5.out.cell 2
  have q3 := HW5.out.frozen 2
  have hGW5 : gG ≠ gW := hgW0
  have HW6 := Lib.hid (show Bk (w5.setCell ⟨gW, 2, none⟩ (.int .i64 5)) gW 3 (rowI kW2) from HW5.out.set_ 2 (.int .i64 5))
  have HN6 := Lib.hid (HN5.out.far (p := ⟨gW, 2, none⟩) (Bk.ne_ HN5.out HW5.out (by decide)) (.int .i64 5))
  have HG6 := Lib.hid (HG5.out.far (p := ⟨gW, 2, none⟩) (Bk.ne_ HG5.out HW5.out (by decide)) (.int .i64 5))
  have q4 : (w5.setCell ⟨gW, 2, none⟩ (.int .i64 5)).cell? ⟨gG, 0, none⟩ = some (.slice (some ⟨gW, 0, none⟩) 5 5) := HG6.out.cell 0
  have q5 : (w5.setCell ⟨gW, 2, none⟩ (.int .i64 5)).cell? ⟨gG, 1, none⟩ = some (.slice (some ⟨gN, 0, none⟩) 2 2) := HG6.out.cell 1
  clear hok hK hg HK4 Hb4 HW4 HN4 HG4
  go_wp2_with fail
  clear q0 q2 q3 q4 q5
  have HK6 := Lib.hid (HK5.out.set_ HF3.out hpW 2 (.int .i64 5))
  have Hb6 := Lib.hid (Hb5.out.setCell (p := ⟨gW, 2, none⟩) hz1 (.int .i64 5))
  refine (set_any p F3 (some ⟨gW, 0, none⟩) (some ⟨gN, 0, none⟩) 5 2 [3] kW kW2 kN kN (0 + 4 + 0) _ HK6.out (HK6.out.siB HW6.out) (HK6.out.stB HN6.out) (by decide) (by decide) (by omega)).mono ?_
  rintro e w7 ⟨_, hok⟩
  obtain ⟨he, hg, F4, hK, _⟩ := hok k_v.2.1
  rw [k_n.2.2] at he
  rw [k_i.2.2] at hK
  subst he
  have HK7 := Lib.hid hK
  have Hb7 := Lib.hid (far_p Hb6.out (Hbz.out _ Hb6.out) hSp hg)
  have hup : Up W2.heap.size w3 w7 := ((Up.of_grown HgL5.out hpWz).trans ⟨by simp [World.setCell], fun k hk _ => Below.heap_setCell w5 _ _ k (by show k ≠ gW; omega)⟩).trans (Up.of_grown hg hpWz)
  have HL7 := Lib.hid (fun (W : World) (hW : Below w7.heap.size w7 W) => HL3.out W (hup.trans (Up.of_below hW)))
  have hz7 := Hbz.out _ Hb7.out
  clear hok hK hg hup HL3 HK5 Hb5 HW5 HN5 HG5 HK6 Hb6 HW6 HN6 HG6 HgL4 HgL5
  have hbx := Below.alloc (Below.alloc (Below.alloc (Below.alloc (Below.refl w7.heap.size w7) (Nat.le_refl _) (.cells #[.int .i64 1, .int .i64 3] 3)) (by simp) (.cells #[.int .i64 2] 3)) (by simp; omega) (.cells #[.int .i64 4] 3)) (by simp; omega) (.cells #[.slice (some ⟨w7.heap.size, 0, none⟩) 2 2, .slice (some ⟨w7.heap.size + 1, 0, none⟩) 1 1, .slice (some ⟨w7.heap.size + 1 + 1, 0, none⟩) 1 1] 22)
  have e1 := (((Bk.new w7 3 #[.int .i64 1, .int .i64 3]).alloc (.cells #[.int .i64 2] 3)).alloc (.cells #[.int .i64 4] 3)).alloc (.cells #[.slice (some ⟨w7.heap.size, 0, none⟩) 2 2, .slice (some ⟨w7.heap.size + 1, 0, none⟩) 1 1, .slice (some ⟨w7.heap.size + 1 + 1, 0, none⟩) 1 1] 22)
  have e2 := ((Bk.new' (w7.alloc (.cells #[.int .i64 1, .int .i64 3] 3)) 3 #[.int .i64 2] (g := w7.heap.size + 1) (by simp)).alloc (.cells #[.int .i64 4] 3)).alloc (.cells #[.slice (some ⟨w7.heap.size, 0, none⟩) 2 2, .slice (some ⟨w7.heap.size + 1, 0, none⟩) 1 1, .slice (some ⟨w7.heap.size + 1 + 1, 0, none⟩) 1 1] 22)
  have e3 := (Bk.new' ((w7.alloc (.cells #[.int .i64 1, .int .i64 3] 3)).alloc (.cells #[.int .i64 2] 3)) 3 #[.int .i64 4] (g := w7.heap.size + 1 + 1) (by simp)).alloc (.cells #[.slice (some ⟨w7.heap.size, 0, none⟩) 2 2, .slice (some ⟨w7.heap.size + 1, 0, none⟩) 1 1, .slice (some ⟨w7.heap.size + 1 + 1, 0, none⟩) 1 1] 22)
  have e4 := Bk.new' (((w7.alloc (.cells #[.int .i64 1, .int .i64 3] 3)).alloc (.cells #[.int .i64 2] 3)).alloc (.cells #[.int .i64 4] 3)) 22 #[.slice (some ⟨w7.heap.size, 0, none⟩) 2 2, .slice (some ⟨w7.heap.size + 1, 0, none⟩) 1 1, .slice (some ⟨w7.heap.size + 1 + 1, 0, none⟩) 1 1] (g := w7.heap.size + 1 + 1 + 1) (by simp)
  have HX := Lib.hid hbx
  have He := Lib.hid (And.intro e1 (And.intro e2 (And.intro e3 e4)))
  clear hbx e1 e2 e3 e4
  go_wp2_with fail
  have HK8 := Lib.hid (HK7.out.below HX.out)
  have Hb8 := Lib.hid (Hb7.out.trans (HX.out.mono hz7))
  have HL8 := Lib.hid (HL7.out _ HX.out)
  clear HK7 Hb7 HL7 HX
  generalize (((w7.alloc (.cells #[.int .i64 1, .int .i64 3] 3)).alloc (.cells #[.int .i64 2] 3)).alloc (.cells #[.int .i64 4] 3)).alloc (.cells #[.slice (some ⟨w7.heap.size, 0, none⟩) 2 2, .slice (some ⟨w7.heap.size + 1, 0, none⟩) 1 1, .slice (some ⟨w7.heap.size + 1 + 1, 0, none⟩) 1 1] 22) = W8 at *
  obtain ⟨e1, e2, e3, e4⟩ := He.out
  have hR : SLL W8 (some ⟨w7.heap.size + 1 + 1 + 1, 0, none⟩) [[1, 3], [2], [4]] := ⟨[.slice (some ⟨w7.heap.size, 0, none⟩) 2 2, .slice (some ⟨w7.heap.size + 1, 0, none⟩) 1 1, .slice (some ⟨w7.heap.size + 1 + 1, 0, none⟩) 1 1], sl_bk e4, rfl, fun j v l hv hl => by
    have hj := (List.getElem?_eq_some_iff.1 hl).1
    simp at hj
    rcases (by omega : j = 0 ∨ j = 1 ∨ j = 2) with rfl | rfl | rfl <;> simp at hv hl <;> subst hv hl
    · exact ⟨_, _, rfl, sl_bk e1⟩
    · exact ⟨_, _, rfl, sl_bk e2⟩
    · exact ⟨_, _, rfl, sl_bk e3⟩⟩
  refine (sameLists_any DL (some ⟨w7.heap.size + 1 + 1 + 1, 0, none⟩) mL 3 [[1, 3], [2], [4]] [[1, 3], [2], [4]] W8 HL8.out hR (by simp) (by simp) (by simp)).mono ?_
  rintro e w9 ⟨rfl, hq⟩
  have HK9 := Lib.hid (HK8.out.below (hq.below _))
  have Hb9 := Lib.hid (hq.bl Hb8.out)
  have hz9 := Hbz.out _ Hb9.out
  clear e1 e2 e3 e4 hR hq HK8 Hb8 HL8 He
  go_wp2_with fail
  refine (chain_any p F4 [3] kW2 kN _ w9 HK9.out).mono ?_
  rintro e w10 ⟨DC, mC, vs, rfl, hown, hLL, hb10⟩
  rw [k_l] at hLL
  have HC10 := Lib.hid (SLL.of_rows hown hLL.ll (by simp))
  have Hb10 := Lib.hid (Hb9.out.trans (hb10.mono hz9))
  have hz10 := Hbz.out _ Hb10.out
  have hbx := Below.alloc (Below.alloc (Below.refl w10.heap.size w10) (Nat.le_refl _) (.cells #[.int .i64 0, .int .i64 1, .int .i64 2, .int .i64 1, .int .i64 3] 3)) (by simp) (.cells #[.slice (some ⟨w10.heap.size, 0, none⟩) 5 5] 22)
  have e1 := (Bk.new w10 3 #[.int .i64 0, .int .i64 1, .int .i64 2, .int .i64 1, .int .i64 3]).alloc (.cells #[.slice (some ⟨w10.heap.size, 0, none⟩) 5 5] 22)
  have e2 := Bk.new' (w10.alloc (.cells #[.int .i64 0, .int .i64 1, .int .i64 2, .int .i64 1, .int .i64 3] 3)) 22 #[.slice (some ⟨w10.heap.size, 0, none⟩) 5 5] (g := w10.heap.size + 1) (by simp)
  have HX := Lib.hid hbx
  have He := Lib.hid (And.intro e1 e2)
  have hfd : ∀ W : World, (Instr.field 40 (.agg #[.slice DC 1 mC]) 0).run Try.prog W = .ok (.slice DC 1 mC) W := fun _ => by kernel_rfl
  clear hown hLL hb10 hbx e1 e2 HK9 Hb9
  go_wp2_with fail
  have HL := Lib.hid (HC10.out.below HX.out)
  have Hb11 := Lib.hid (Hb10.out.trans (HX.out.mono hz10))
  obtain ⟨e1, e2⟩ := He.out
  have hR : SLL ((w10.alloc (.cells #[.int .i64 0, .int .i64 1, .int .i64 2, .int .i64 1, .int .i64 3] 3)).alloc (.cells #[.slice (some ⟨w10.heap.size, 0, none⟩) 5 5] 22)) (some ⟨w10.heap.size + 1, 0, none⟩) [[0, 1, 2, 1, 3]] := ⟨[.slice (some ⟨w10.heap.size, 0, none⟩) 5 5], sl_bk e2, rfl, fun j v l hv hl => by
    have hj := (List.getElem?_eq_some_iff.1 hl).1
    simp at hj
    subst hj
    simp at hv hl
    subst hv hl
    exact ⟨_, _, rfl, sl_bk e1⟩⟩
  refine (sameLists_any DC (some ⟨w10.heap.size + 1, 0, none⟩) mC 1 [[0, 1, 2, 1, 3]] [[0, 1, 2, 1, 3]] _ HL.out hR (by simp) (by simp) (by simp)).mono ?_
  rintro e w12 ⟨rfl, hq⟩
  have Hb12 := Lib.hid (hq.bl Hb11.out)
  clear e1 e2 hR hq HL He HX HC10
  go_wp2_with fail
  go_ret
  exact ⟨rfl, by rw [hS.out]; exact Hb12.out⟩
end Go.Proofs.Ytmdgdphhedgojaa
