import Derived.Test.YtaegfljpodhnhaaR34
import Derived.Test.YtaegfljpodhnhaaR40
namespace Go.Proofs.Ytaegfljpodhnhaa
open Go.RowKit Go.Maps

/-- List number i of the row in block g. -/
def LSk (w : World) (g i : Nat) (ls : List Int) : Prop :=
  ∃ A c, w.cell? ⟨g, i, none⟩ = some (.slice A ls.length c) ∧ SI w A ls ∧ ls.length ≤ c ∧ ls.length ≤ 4096
theorem LSk.below {w w' : World} {g i : Nat} {ls : List Int} (h : LSk w g i ls) (hb : Below w.heap.size w w') : LSk w' g i ls := by
  obtain ⟨A, c, h1, h2, h3, h4⟩ := h
  exact ⟨A, c, (hb.cell (World.block_lt_of_cell? _ _ h1)).trans h1, h2.below hb, h3, h4⟩
def LSs (w : World) (g n : Nat) (ks : Nat → List Int) : Prop := ∀ i, i < n → LSk w g i (ks i)
theorem LSs.below {w w' : World} {g n : Nat} {ks : Nat → List Int} (h : LSs w g n ks) (hb : Below w.heap.size w w') : LSs w' g n ks := fun i hi => (h i hi).below hb

theorem own_void {w : World} {base g : Nat} {e : TypeId} {size : Nat} (h : Bk w g e #[]) (hb : base ≤ g) : w.ownsRow base e size (.slice (some ⟨g, 0, none⟩) 0 0) 0 [] :=
  ⟨by simp, .inr ⟨g, 0, #[], rfl, hb, h, Nat.le_refl _, by unfold maxLen; omega, by simp, by simp⟩⟩

theorem tdiv5 {x : Int} (h : -9223372036854775808 ≤ x ∧ x ≤ 9223372036854775807) : -9223372036854775808 ≤ x.tdiv 5 ∧ x.tdiv 5 ≤ 9223372036854775807 := by
  rcases Int.le_total 0 x with h0 | h0
  · rw [Int.tdiv_eq_ediv_of_nonneg h0]; omega
  · have : x.tdiv 5 = -((-x).tdiv 5) := by rw [Int.neg_tdiv, Int.neg_neg]
    rw [this, Int.tdiv_eq_ediv_of_nonneg (by omega)]
    omega

set_option linter.unusedSimpArgs false in
set_option maxHeartbeats 400000 in
set_option maxRecDepth 100000 in
theorem leasts_any (A : Option Addr) (c : Nat) (k : List Int) (by_ : Int) (w : World) (hA : SI w A k) (hwk : W64 k) (h3 : -9223372036854775808 ≤ by_ ∧ by_ ≤ 9223372036854775807) :
    Calls Try.prog 11 #[.slice A k.length c, .int .i64 by_] w fun e w' => ∃ g ks, e = .returned (.slice (some ⟨g, 0, none⟩) 4 4) ∧ LSs w' g 4 ks ∧ Below w.heap.size w w' := by
  go_enter Try.func11, Try.ntmps11
  go_wp2_with fail
  refine (least_any A c k w hA hwk).mono ?_
  rintro e w1 ⟨v1, zs, rfl, hown1, hT, hb1⟩
  obtain ⟨A1, c1, rfl⟩ := own_slice hown1
  have hcap1 := own_cap hown1
  have n1 := hT.n1
  have n2 := hT.n2
  have hx := (Below.refl w1.heap.size w1).alloc (Nat.le_refl _) (.cells #[] 3)
  have hs1 := SI.below (own_si hown1) hx
  have hbb := hb1.trans (hx.mono hb1.size)
  have hv := own_void (base := w1.heap.size) (size := 1) (Bk.new w1 3 #[]) (Nat.le_refl _)
  have Hs1 := Lib.hid hs1
  have Hsi1 := Lib.hid (own_si hown1)
  have Hb1 := Lib.hid hb1
  have Hbb := Lib.hid hbb
  have Hx := Lib.hid hx
  have Hv := Lib.hid hv
  have hsz : w1.heap.size ≤ (w1.alloc (.cells #[] 3)).heap.size := by simp
  clear hown1 hb1 hx hs1 hbb hv
  go_upto_region 3 with (at_builtin; refine wpList_appM (w := w1.alloc (.cells #[] 3)) rfl _ _ rfl elt_int Hv.out hsz rfl rfl Hs1.out (by simp) (ints_all zs) (by omega) ?_; intro v2 W2 hown2 hg2; obtain ⟨A2, c2, rfl⟩ := own_slice hown2)
  simp only [Nat.zero_add, List.nil_append] at hown2
  try simp only [Nat.zero_add]
  have hb2 := Hx.out.grown hg2 hsz (fun k hk => by simp [Value.ownBlock] at hk; omega)
  have Hs2 := Lib.hid (Hsi1.out.below hb2)
  have Hb2 := Lib.hid (Hb1.out.trans (hb2.mono Hb1.out.size))
  obtain ⟨gW, cW', hv, hgb, hgl⟩ := hown2.form (by omega)
  injection hv with hv1 hv2 hv3
  subst hv1 hv3
  obtain ⟨cur, hcur, htk⟩ := own_bk hown2
  have hcap2 := own_cap hown2
  have Hown2 := Lib.hid hown2
  have hz2 := hb2.size
  have Hbm := Lib.hid hb2
  clear hown2 hg2 hb2 Hx Hv Hs1 Hbb
  have Har := Lib.hid (fun n W (hn : 1 ≤ n ∧ n ≤ 9223372036854775807) => around_any by_ n W h3.1 h3.2 hn.1 hn.2)
  obtain ⟨hk1, hk2⟩ := around_bd by_ zs.length (by omega)
  have Ha1 := Lib.hid (fun W => Har.out zs.length W (by omega))
  generalize around by_ zs.length = k' at *
  obtain ⟨i, rfl⟩ := Int.eq_ofNat_of_zero_le hk1
  have hil : i < zs.length := by omega
  have hq5 := tdiv5 h3
  have hwq : IntKind.i64.wrap (by_.tdiv 5) = by_.tdiv 5 := IntWalk.i64_in _ (by omega)
  obtain ⟨hs1, hs2⟩ := around_bd (by_.tdiv 5) 5 (by omega)
  have Has := Lib.hid (fun W => around_any (by_.tdiv 5) 5 W hq5.1 hq5.2 (by omega) (by omega))
  generalize around (by_.tdiv 5) 5 = s' at *
  obtain ⟨s, rfl⟩ := Int.eq_ofNat_of_zero_le hs1
  obtain ⟨xk, hxk⟩ : ∃ x, cur[i]? = some (.int .i64 x) := by
    have h1 : (cur.toList.take (zs.length * 1))[i]? = some (.int .i64 zs[i]) := by rw [htk]; simp [hil]
    rw [List.getElem?_take_of_lt (by omega)] at h1
    exact ⟨zs[i], by simpa using h1⟩
  have hcw : W2.cell? ⟨gW, i, none⟩ = some (.int .i64 xk) := (hcur.cell _).trans hxk
  have hfw := hcur.frozen i
  have hcura := hcur.alloc (.cells #[.int .i64 by_, .int .i64 (-1), .int .i64 0, .int .i64 1152921504606846976, .int .i64 1152921504606846977] 3)
  have hcwa : (W2.alloc (.cells #[.int .i64 by_, .int .i64 (-1), .int .i64 0, .int .i64 1152921504606846976, .int .i64 1152921504606846977] 3)).cell? ⟨gW, i, none⟩ = some (.int .i64 xk) := (hcura.cell _).trans hxk
  have hfwa := hcura.frozen i
  obtain ⟨val, hval⟩ : ∃ val, (W2.alloc (.cells #[.int .i64 by_, .int .i64 (-1), .int .i64 0, .int .i64 1152921504606846976, .int .i64 1152921504606846977] 3)).cell? ⟨W2.heap.size, s, none⟩ = some (.int .i64 val) := by
    have h := Bk.new W2 3 #[.int .i64 by_, .int .i64 (-1), .int .i64 0, .int .i64 1152921504606846976, .int .i64 1152921504606846977]
    rcases (by omega : s = 0 ∨ s = 1 ∨ s = 2 ∨ s = 3 ∨ s = 4) with rfl | rfl | rfl | rfl | rfl
    · exact ⟨_, h.cell 0⟩
    · exact ⟨_, h.cell 1⟩
    · exact ⟨_, h.cell 2⟩
    · exact ⟨_, h.cell 3⟩
    · exact ⟨_, h.cell 4⟩
  have j1 : (0 : Int) ≤ (s : Int) := by omega
  have j2 : (s : Int) < 5 := by omega
  have j3 : s < 5 := by omega
  have j6 : (0 : Int) ≤ (i : Int) := by omega
  clear hcur hcura hxk htk hk1 hs1
  go_upto_region 3 with fail
  go_wp2_with fail
  refine (Ha1.out _).mono ?_
  rintro e w' ⟨rfl, rfl⟩
  go_wp2_with fail
  refine (Has.out _).mono ?_
  rintro e w' ⟨rfl, rfl⟩
  go_upto_region 4 with fail
  have hown3 := (own_put (i := i) Hown2.out (.int .i64 val)).alloc (.cells #[.int .i64 by_, .int .i64 (-1), .int .i64 0, .int .i64 1152921504606846976, .int .i64 1152921504606846977] 3)
  rw [← List.map_set] at hown3
  have Hown3 := Lib.hid hown3
  have hb3 : Below w1.heap.size W2 ((W2.setCell ⟨gW, i, none⟩ (.int .i64 val)).alloc (.cells #[.int .i64 by_, .int .i64 (-1), .int .i64 0, .int .i64 1152921504606846976, .int .i64 1152921504606846977] 3)) := ((Below.refl w1.heap.size W2).setCell (p := ⟨gW, i, none⟩) hgb (.int .i64 val)).alloc (by simp [World.setCell]; omega) (.cells #[.int .i64 by_, .int .i64 (-1), .int .i64 0, .int .i64 1152921504606846976, .int .i64 1152921504606846977] 3)
  have Hb3 := Lib.hid (Hb2.out.trans (hb3.mono Hb1.out.size))
  have Hs3 := Lib.hid (Hsi1.out.below (Hbm.out.trans hb3))
  clear hb3 hown3 Hbm Hs2 Hown2 hcw hfw hcwa hfwa hval Ha1 Has
  generalize hWF : (W2.setCell ⟨gW, i, none⟩ (.int .i64 val)).alloc (.cells #[.int .i64 by_, .int .i64 (-1), .int .i64 0, .int .i64 1152921504606846976, .int .i64 1152921504606846977] 3) = WX at *
  clear hWF
  obtain ⟨hr1, hr2⟩ := around_bd by_ 3 (by omega)
  have Ha3 := Lib.hid (fun W => Har.out 3 W (by omega))
  clear Har
  generalize around by_ 3 = r' at *
  obtain ⟨r, rfl⟩ := Int.eq_ofNat_of_zero_le hr1
  obtain ⟨m, hm⟩ : ∃ m : Nat, Hid (23 + r = m) := ⟨_, rfl⟩
  have hwr : IntKind.i64.wrap (23 + (r : Int)) = (m : Int) := by rw [← hm.out, IntWalk.i64_in _ (by omega)]; omega
  have hm2 : m ≤ 25 := by have := hm.out; omega
  have hmk := make_int m (by omega)
  clear hm
  go_wp2_with fail
  refine (Ha3.out _).mono ?_
  rintro e w' ⟨rfl, rfl⟩
  go_wp2_with fail
  go_ret
  clear hmk
  have n1 := hT.n1
  have n2 := hT.n2
  have hl : (zs.set i val).length = zs.length := by simp
  have e1 := (Below.refl WX.heap.size WX).alloc (Nat.le_refl _) (.cells (rowI (List.replicate m 0)) 3)
  have e2 := (Below.refl (WX.alloc (.cells (rowI (List.replicate m 0)) 3)).heap.size (WX.alloc (.cells (rowI (List.replicate m 0)) 3))).alloc (Nat.le_refl _) (.cells #[.slice A1 zs.length c1, .slice (some ⟨gW, 0, none⟩) zs.length c2, .slice none 0 0, .slice (some ⟨WX.heap.size, 0, none⟩) m m] 22)
  have e3 := e1.trans (e2.mono e1.size)
  have hk1 := (Bk.new WX 3 (rowI (List.replicate m 0))).alloc (.cells #[.slice A1 zs.length c1, .slice (some ⟨gW, 0, none⟩) zs.length c2, .slice none 0 0, .slice (some ⟨WX.heap.size, 0, none⟩) m m] 22)
  have hn := Bk.new' (WX.alloc (.cells (rowI (List.replicate m 0)) 3)) 22 #[.slice A1 zs.length c1, .slice (some ⟨gW, 0, none⟩) zs.length c2, .slice none 0 0, .slice (some ⟨WX.heap.size, 0, none⟩) m m] (g := WX.heap.size + 1) (by simp)
  have hs4 : SI WX (some ⟨gW, 0, none⟩) (zs.set i val) := by
    have h := Hown3.out
    exact SL.of_own h
  refine ⟨WX.heap.size + 1, fun x => if x = 0 then zs else if x = 1 then zs.set i val else if x = 2 then [] else List.replicate m 0, rfl, fun x hx => ?_, Hb3.out.trans (e3.mono Hb3.out.size)⟩
  rcases (by omega : x = 0 ∨ x = 1 ∨ x = 2 ∨ x = 3) with rfl | rfl | rfl | rfl
  · exact ⟨A1, c1, hn.cell 0, Hs3.out.below e3, hcap1, by show zs.length ≤ _; omega⟩
  · exact ⟨some ⟨gW, 0, none⟩, c2, (hn.cell 1).trans (by simp), hs4.below e3, by show (zs.set i val).length ≤ _; omega, by show (zs.set i val).length ≤ _; omega⟩
  · exact ⟨none, 0, hn.cell 2, SL.nil_, Nat.le_refl _, Nat.zero_le _⟩
  · refine ⟨some ⟨WX.heap.size, 0, none⟩, m, (hn.cell 3).trans (by simp), zeros_si hk1 (by omega), ?_, ?_⟩
    · show (List.replicate m (0 : Int)).length ≤ _; simp
    · show (List.replicate m (0 : Int)).length ≤ _; simp; omega
end Go.Proofs.Ytaegfljpodhnhaa
