import Derived.Test.YtgeciimakjfnfaaC4
namespace Go.Proofs.Ytgeciimakjfnfaa
open Go.RowKit Go.Maps

def saysL (o : Int) (L : List Cl) : Int := if L.any (pSay o 1) then -1 else if L.any (pSay o 0) then 1 else 0
def firstS (L : List Cl) : List Int → Bool
  | [] => false
  | o :: os => if saysL o L ≠ 0 then decide (saysL o L > 0) else firstS L os
/-- Is something shown of active claims? -/
def shownL (k : Int) (os : List Int) (L : List Cl) : Bool := if k = 2 then L.any pCtl else firstS L os
def shownD (k : Int) (os : List Int) (l : List Cl) (d : Int) : Bool := shownL k os (actL l d)
theorem saysL_3 (o : Int) (L : List Cl) : saysL o L = -1 ∨ saysL o L = 0 ∨ saysL o L = 1 := by unfold saysL; split <;> (try split) <;> simp
theorem firstS_at {L : List Cl} {os : List Int} {k : Nat} {o : Int} (h : os[k]? = some o) : firstS L (os.drop k) = if saysL o L ≠ 0 then decide (saysL o L > 0) else firstS L (os.drop (k + 1)) := by
  obtain ⟨hk, e⟩ := List.getElem?_eq_some_iff.1 h
  rw [List.drop_eq_getElem_cons hk, e, firstS]

set_option linter.unusedSimpArgs false in
set_option maxHeartbeats 2000000 in
set_option maxRecDepth 100000 in
theorem hasK_any (k o : Int) (X O : Nat) (A : Option Addr) (c : Nat) (l : List Cl) (w : World) (hX : w.cell? ⟨X, 0, none⟩ = some (.slice A l.length c)) (hO : w.cell? ⟨O, 0, none⟩ = some (.int .i64 o)) (lO : O < w.heap.size) (hA : SC w A l) (hl : l.length ≤ 1000000) :
    Calls Try.prog 102 #[.int .i64 k, .pointer (some ⟨X, 0, none⟩), .pointer (some ⟨O, 0, none⟩)] w fun e w' => e = .returned (.bool (l.any (pSay o k))) ∧ Below w.heap.size w w' := by
  have hb0 := (Below.refl w.heap.size w).alloc (Nat.le_refl _) (.cells #[.int .i64 k] 3)
  have hX0 := (cell_far hX hb0)
  have hO0 := (cell_far hO hb0)
  have hK := Bk.new w 3 #[.int .i64 k]
  have H := Lib.hid (hasSay_any A c l o k O w.heap.size _ (SC.below hA hb0) (by omega) hO0 (hK.cell 0) (by simp; omega) (by simp))
  have HB := Lib.hid hb0
  clear hA hb0 hX hO hK hO0
  go_enter Try.func102, Try.ntmps102
  go_wp2_with fail
  refine H.out.mono ?_
  rintro e w1 ⟨rfl, hb⟩
  have HB1 := Lib.hid (HB.out.trans (hb.mono HB.out.size))
  clear hb H
  go_wp2_with fail
  go_ret
  exact ⟨rfl, HB1.out⟩
set_option linter.unusedSimpArgs false in
set_option maxHeartbeats 2000000 in
set_option maxRecDepth 100000 in
theorem says_any (o : Int) (A : Option Addr) (c : Nat) (l : List Cl) (w : World) (hA : SC w A l) (hl : l.length ≤ 1000000) :
    Calls Try.prog 77 #[.int .i64 o, .slice A l.length c] w fun e w' => e = .returned (.int .i64 (saysL o l)) ∧ Below w.heap.size w w' := by
  have hb0 := ((Below.refl w.heap.size w).alloc (Nat.le_refl _) (.cells #[.int .i64 o] 3)).alloc (by simp) (.cells #[.slice A l.length c] 38)
  have hO := (Bk.new w 3 #[.int .i64 o]).alloc (.cells #[.slice A l.length c] 38)
  have hX := Bk.new' (w.alloc (.cells #[.int .i64 o] 3)) 38 #[.slice A l.length c] (g := w.heap.size + 1) (by simp)
  have H := Lib.hid (fun (k : Int) (W : World) (hW : Below ((w.alloc (.cells #[.int .i64 o] 3)).alloc (.cells #[.slice A l.length c] 38)).heap.size ((w.alloc (.cells #[.int .i64 o] 3)).alloc (.cells #[.slice A l.length c] 38)) W) =>
    hasK_any k o (w.heap.size + 1) w.heap.size A c l W ((hX.below hW hX.lt).cell 0) ((hO.below hW hO.lt).cell 0) (hO.below hW hO.lt).lt ((SC.below hA hb0).below hW) hl)
  have HB := Lib.hid hb0
  have HZ := Lib.hid (show w.heap.size ≤ ((w.alloc (.cells #[.int .i64 o] 3)).alloc (.cells #[.slice A l.length c] 38)).heap.size from by simp; omega)
  clear hA hb0 hX hO
  cases h1 : l.any (pSay o 1)
  · cases h2 : l.any (pSay o 0)
    · have HS := Lib.hid (show saysL o l = 0 from by rw [saysL, h1, h2]; rfl)
      have H1 := Lib.hid (fun W hW => h1 ▸ H.out 1 W hW)
      have H2 := Lib.hid (fun W hW => h2 ▸ H.out 0 W hW)
      clear h1 h2 H
      go_enter Try.func77, Try.ntmps77
      go_wp2_with fail
      refine (H1.out _ (Below.refl _ _)).mono ?_
      generalize (w.alloc (.cells #[.int .i64 o] 3)).alloc (.cells #[.slice A l.length c] 38) = W0 at *
      rintro e w1 ⟨rfl, hb⟩
      have Hb := Lib.hid hb
      clear hb H1
      go_wp2_with fail
      refine (H2.out _ Hb.out).mono ?_
      rintro e w2 ⟨rfl, hb⟩
      have HB1 := Lib.hid (HB.out.trans ((Hb.out.trans (hb.mono Hb.out.size)).mono HZ.out))
      clear hb H2
      go_wp2_with fail
      go_ret
      exact ⟨by rw [HS.out]; rfl, HB1.out⟩
    · have HS := Lib.hid (show saysL o l = 1 from by rw [saysL, h1, h2]; rfl)
      have H1 := Lib.hid (fun W hW => h1 ▸ H.out 1 W hW)
      have H2 := Lib.hid (fun W hW => h2 ▸ H.out 0 W hW)
      clear h1 h2 H
      go_enter Try.func77, Try.ntmps77
      go_wp2_with fail
      refine (H1.out _ (Below.refl _ _)).mono ?_
      generalize (w.alloc (.cells #[.int .i64 o] 3)).alloc (.cells #[.slice A l.length c] 38) = W0 at *
      rintro e w1 ⟨rfl, hb⟩
      have Hb := Lib.hid hb
      clear hb H1
      go_wp2_with fail
      refine (H2.out _ Hb.out).mono ?_
      rintro e w2 ⟨rfl, hb⟩
      have HB1 := Lib.hid (HB.out.trans ((Hb.out.trans (hb.mono Hb.out.size)).mono HZ.out))
      clear hb H2
      go_wp2_with fail
      go_ret
      exact ⟨by rw [HS.out]; rfl, HB1.out⟩
  · have HS := Lib.hid (show saysL o l = -1 from by rw [saysL, h1]; rfl)
    have H1 := Lib.hid (fun W hW => h1 ▸ H.out 1 W hW)
    clear h1 H
    go_enter Try.func77, Try.ntmps77
    go_wp2_with fail
    refine (H1.out _ (Below.refl _ _)).mono ?_
    generalize (w.alloc (.cells #[.int .i64 o] 3)).alloc (.cells #[.slice A l.length c] 38) = W0 at *
    rintro e w1 ⟨rfl, hb⟩
    have HB1 := Lib.hid (HB.out.trans (hb.mono HZ.out))
    clear hb H1
    go_wp2_with fail
    go_ret
    exact ⟨by rw [HS.out]; rfl, HB1.out⟩
set_option linter.unusedSimpArgs false in
set_option maxHeartbeats 4000000 in
set_option maxRecDepth 100000 in
theorem shows_any (k : Int) (B : Option Addr) (cb : Nat) (os : List Int) (A : Option Addr) (c : Nat) (l : List Cl) (w : World) (hB : SI w B os) (hos : os.length ≤ 1000000) (hA : SC w A l) (hl : l.length ≤ 1000000) :
    Calls Try.prog 53 #[.agg #[.int .i64 k, .slice B os.length cb], .slice A l.length c] w fun e w' => e = .returned (.bool (shownL k os l)) ∧ Below w.heap.size w w' := by
  have hb0 := (Below.refl w.heap.size w).alloc (Nat.le_refl _) (.cells #[.int .i64 k, .slice B os.length cb] 28)
  have hV := Bk.new w 28 #[.int .i64 k, .slice B os.length cb]
  have v0 : (w.alloc (.cells #[.int .i64 k, .slice B os.length cb] 28)).cell? ⟨w.heap.size, 0, none⟩ = some (.int .i64 k) := hV.cell 0
  have v1 : (w.alloc (.cells #[.int .i64 k, .slice B os.length cb] 28)).cell? ⟨w.heap.size, 1, none⟩ = some (.slice B os.length cb) := hV.cell 1
  have HA := Lib.hid (SC.below hA hb0)
  have HI := Lib.hid (SI.below hB hb0)
  have HB := Lib.hid hb0
  have HZ := Lib.hid (show w.heap.size ≤ (w.alloc (.cells #[.int .i64 k, .slice B os.length cb] 28)).heap.size from by simp)
  clear hA hB hV hb0
  by_cases hk : k = 2
  · subst hk
    have HS := Lib.hid (show shownL 2 os l = l.any pCtl from if_pos rfl)
    go_enter Try.func53, Try.ntmps53
    go_wp2_with fail
    refine (hasCtl_any A c l _ HA.out (by omega)).mono ?_
    rintro e w1 ⟨rfl, hb⟩
    have HB1 := Lib.hid (HB.out.trans (hb.mono HZ.out))
    clear hb v0 v1
    go_wp2_with fail
    go_ret
    exact ⟨by rw [HS.out]; rfl, HB1.out⟩
  · have HS := Lib.hid (show shownL k os l = firstS l os from if_neg hk)
    rw [HS.out]
    have hk2 : (k == 2) = false := by simp [hk]
    clear hk HS
    go_enter Try.func53, Try.ntmps53
    go_wp2_with fail
    generalize w.alloc (.cells #[.int .i64 k, .slice B os.length cb] 28) = W0 at *
    have HAf := Lib.hid (fun (W : World) (h : Below W0.heap.size W0 W) => (show SC W A l from HA.out.below h))
    have HIf := Lib.hid (fun (W : World) (h : Below W0.heap.size W0 W) => (show SI W B os from HI.out.below h))
    clear v0 v1 HA HI
    go_loopw [16] (fun i wr => ∃ j : Nat, j ≤ os.length ∧ i = .int .i64 (j : Int) ∧ Hid (firstS l os = firstS l (os.drop j)) ∧ Hid (Below W0.heap.size W0 wr)) (fun i _ => os.length - (intOf i).toNat)
    case atStart => exact ⟨0, by omega, rfl, Lib.hid rfl, Lib.hid (Below.refl _ _)⟩
    case round =>
      obtain ⟨j, hj, rfl, HF, HBr⟩ := hrel
      by_cases hlt : j < os.length
      · obtain ⟨b, of_, o, hBe, c0, hi⟩ := (HIf.out wr HBr.out).get (k := j) hlt
        have HX := Lib.hid (fun W h => says_any o A c l W (HAf.out W h) hl)
        have HF1 := Lib.hid (HF.out.trans (firstS_at (L := l) hi.out))
        rw [hBe]
        clear hBe hi HF
        rcases saysL_3 o l with hs | hs | hs
        · rw [hs] at HX HF1
          have HF2 := Lib.hid (show firstS l os = false from HF1.out)
          clear hs HF1
          go_wp2_with fail
          refine (HX.out _ HBr.out).mono ?_
          rintro e w1 ⟨rfl, hb⟩
          have HB1 := Lib.hid (HB.out.trans ((HBr.out.trans (hb.mono HBr.out.size)).mono HZ.out))
          clear hb HX c0
          go_wp2_with fail
          go_ret
          exact ⟨by rw [HF2.out]; rfl, HB1.out⟩
        · rw [hs] at HX HF1
          have HF2 := Lib.hid (show firstS l os = firstS l (os.drop (j + 1)) from HF1.out)
          clear hs HF1
          go_wp2_with fail
          refine (HX.out _ HBr.out).mono ?_
          rintro e w1 ⟨rfl, hb⟩
          have HB1 := Lib.hid (HBr.out.trans (hb.mono HBr.out.size))
          clear hb HX c0
          go_wp2_with fail
          go_roundw
          case rel => exact ⟨j + 1, by omega, by go_num, HF2, HB1⟩
          case measure => simp [intOf]; omega
        · rw [hs] at HX HF1
          have HF2 := Lib.hid (show firstS l os = true from HF1.out)
          clear hs HF1
          go_wp2_with fail
          refine (HX.out _ HBr.out).mono ?_
          rintro e w1 ⟨rfl, hb⟩
          have HB1 := Lib.hid (HB.out.trans ((HBr.out.trans (hb.mono HBr.out.size)).mono HZ.out))
          clear hb HX c0
          go_wp2_with fail
          go_ret
          exact ⟨by rw [HF2.out]; rfl, HB1.out⟩
      · have HF2 := Lib.hid (show firstS l os = false from by rw [HF.out, List.drop_of_length_le (by omega)]; rfl)
        have HB1 := Lib.hid (HB.out.trans (HBr.out.mono HZ.out))
        clear HF HBr
        go_wp2_with fail
        go_ret
        exact ⟨by rw [HF2.out]; rfl, HB1.out⟩
end Go.Proofs.Ytgeciimakjfnfaa
