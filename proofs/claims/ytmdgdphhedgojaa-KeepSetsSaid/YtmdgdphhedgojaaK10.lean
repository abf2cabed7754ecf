import Derived.Test.YtmdgdphhedgojaaT3
import Derived.Deep.DeepCutAuto
namespace Go.Proofs.Ytmdgdphhedgojaa
open Go.RowKit Go.Maps

/-- A forest over the faces, and the least face of each tree. -/
structure RT (rt of : List Int) : Prop where
  len : rt.length = of.length
  cn : CN of
  el : ∀ f, f < of.length → ∃ r : Nat, rt.getD f 0 = r ∧ r ≤ f ∧ of.getD r 0 = of.getD f 0 ∧ (r = f → of.getD f 0 = f)
theorem getD_set {l : List Int} {k j : Nat} {v : Int} (hk : k < l.length) : (l.set k v).getD j 0 = if j = k then v else l.getD j 0 := by
  simp only [List.getD, List.getElem?_set]
  by_cases h : k = j
  · subst h; simp [hk]
  · rw [if_neg h, if_neg (fun e => h e.symm)]
theorem RT.alone (n : Nat) : RT (alone n) (alone n) := ⟨rfl, alone_cn n, fun f hf => by
  rw [alone_len] at hf
  exact ⟨f, alone_at hf, Nat.le_refl _, rfl, fun _ => alone_at hf⟩⟩
theorem RT.root {rt of : List Int} (h : RT rt of) {f : Nat} (hf : f < of.length) : ∃ r : Nat, of.getD f 0 = r ∧ r ≤ f ∧ of.getD r 0 = r := h.cn f hf
theorem RT.put {rt of : List Int} (h : RT rt of) {f : Nat} (hf : f < of.length) : RT (rt.set f (of.getD f 0)) of := by
  refine ⟨by rw [List.length_set, h.len], h.cn, fun j hj => ?_⟩
  rw [getD_set (by rw [h.len]; exact hf)]
  split
  · rename_i e
    subst e
    obtain ⟨r, h1, h2, h3⟩ := h.cn j hj
    exact ⟨r, h1, h2, by rw [h3, h1], fun e => by rw [h1, e]⟩
  · exact h.el j hj
theorem RT.merge {rt of : List Int} (h : RT rt of) {a b : Nat} (ha : a < of.length) (hb : b < of.length) (ra : of.getD a 0 = a) (rb : of.getD b 0 = b) : RT (rt.set (max a b) ((min a b : Nat) : Int)) (merged of (a, b)) := by
  have hm : ∀ j, j < of.length → (merged of (a, b)).getD j 0 = if of.getD j 0 = a ∨ of.getD j 0 = b then ((min a b : Nat) : Int) else of.getD j 0 := fun j hj => by
    rw [getD_merged _ _ _ hj]
    by_cases hc : of.getD j 0 = a ∨ of.getD j 0 = b
    · rw [if_pos hc, if_pos (by simp only [Bool.or_eq_true, beq_iff_eq]; exact hc)]
      dsimp only
      split <;> omega
    · rw [if_neg hc, if_neg (by simp only [Bool.or_eq_true, beq_iff_eq]; exact hc)]
  refine ⟨by rw [List.length_set, merged_len, h.len], h.cn.merge ha hb ra rb, fun j hj => ?_⟩
  rw [merged_len] at hj
  rw [getD_set (by rw [h.len]; omega)]
  split
  · rename_i e
    have hj' : of.getD j 0 = a ∨ of.getD j 0 = b := by
      rw [e]
      rcases Nat.le_total a b with h | h
      · rw [Nat.max_eq_right h]; exact .inr rb
      · rw [Nat.max_eq_left h]; exact .inl ra
    have hmn : of.getD (min a b) 0 = a ∨ of.getD (min a b) 0 = b := by
      rcases Nat.le_total a b with h | h
      · rw [Nat.min_eq_left h]; exact .inl ra
      · rw [Nat.min_eq_right h]; exact .inr rb
    rw [hm j hj, if_pos hj']
    exact ⟨min a b, rfl, by omega, by rw [hm _ (by omega), if_pos hmn], fun e2 => by rw [e2]⟩
  · rename_i e
    obtain ⟨r, h1, h2, h3, h4⟩ := h.el j hj
    refine ⟨r, h1, h2, by rw [hm r (by omega), hm j hj, h3], fun e2 => ?_⟩
    rw [hm j hj]
    have h5 := h4 e2
    by_cases hc : of.getD j 0 = a ∨ of.getD j 0 = b
    · rw [if_pos hc]; omega
    · rw [if_neg hc]; exact h5
theorem Turn.refl (w : World) (r : Nat) : Turn w w r := ⟨rfl, rfl, rfl, rfl, fun _ _ => rfl⟩
theorem Turn.setCell_ {w w' : World} {r : Nat} (h : Turn w w' r) (i : Nat) (u : Value) : Turn w (w'.setCell ⟨r, i, none⟩ u) r := by
  refine h.trans ⟨rfl, rfl, rfl, by simp [World.setCell], fun k hk => ?_⟩
  exact Below.heap_setCell _ _ _ _ hk

set_option linter.unusedSimpArgs false in
set_option maxHeartbeats 4000000 in
set_option maxRecDepth 100000 in
theorem find_any (of : List Int) (B G g : Nat) : ∀ (k : Nat) (rt : List Int) (w : World), k < of.length → RT rt of → Bk w B 22 #[.slice (some ⟨g, 0, none⟩) of.length of.length] →
    Bk w G 107 #[.func (.func 55) #[] #[.pointer (some ⟨B, 0, none⟩), .pointer (some ⟨G, 0, none⟩)]] → Bk w g 3 (rowI rt) →
    Calls Try.prog 55 #[.int .i64 k, .pointer (some ⟨B, 0, none⟩), .pointer (some ⟨G, 0, none⟩)] w fun e w' => e = .returned (.int .i64 (of.getD k 0)) ∧ ∃ rt', RT rt' of ∧ Bk w' g 3 (rowI rt') ∧ Turn w w' g := by
  intro k
  induction k using Nat.strongRecOn with
  | ind k ih =>
    intro rt w hk hR hB hG hg
    obtain ⟨r, hr, hrk, hor, hself⟩ := hR.el k hk
    have hBg : g ≠ B := hg.ne_ hB (by decide)
    have hGg : g ≠ G := hg.ne_ hG (by decide)
    have hrx : rt[k]? = some (r : Int) := by rw [← hr, List.getD, List.getElem?_eq_getElem (by rw [hR.len]; exact hk)]; rfl
    have cB : w.cell? ⟨B, 0, none⟩ = some (.slice (some ⟨g, 0, none⟩) of.length of.length) := hB.cell 0
    have cG : w.cell? ⟨G, 0, none⟩ = some (.func (.func 55) #[] #[.pointer (some ⟨B, 0, none⟩), .pointer (some ⟨G, 0, none⟩)]) := hG.cell 0
    have cg : w.cell? ⟨g, k, none⟩ = some (.int .i64 r) := (hg.cell k).trans (rowI_get hrx)
    have hk0 : (0 : Int) ≤ (k : Int) := by omega
    have hk1 : (k : Int) < of.length := by omega
    have HR := Lib.hid hR
    have HB := Lib.hid hB
    have HG := Lib.hid hG
    have Hg := Lib.hid hg
    have Hor := Lib.hid hor
    have Hself := Lib.hid hself
    clear hR hB hG hg hor hself hr hrx
    obtain ⟨z, hz⟩ : ∃ z, Hid (of.getD k 0 = z) := ⟨_, Lib.hid rfl⟩
    rw [hz.out]
    by_cases hrk' : r = k
    · subst hrk'
      have Hof := Lib.hid (hz.out.symm.trans (Hself.out rfl))
      go_enter Try.func55, Try.ntmps55
      go_wp2_with fail
      go_ret
      exact ⟨ret_int Hof.out.symm, rt, HR.out, Hg.out, Turn.refl w g⟩
    · have hne : ((r : Int) != (k : Int)) = true := by simp; omega
      have hlt : r < k := by omega
      clear hrk' hrk
      go_enter Try.func55, Try.ntmps55
      go_wp2_with fail
      have HS0 := Lib.hid (And.intro cB cG)
      have cg' : w.drew.cell? ⟨g, k, none⟩ = some (.int .i64 r) := cg
      refine wp_region_noPanic ?_
      refine region_H (S := fun W => W.cell? ⟨B, 0, none⟩ = some (.slice (some ⟨g, 0, none⟩) of.length of.length) ∧ W.cell? ⟨G, 0, none⟩ = some (.func (.func 55) #[] #[.pointer (some ⟨B, 0, none⟩), .pointer (some ⟨G, 0, none⟩)])) (by kernel_rfl) ?_
      change wpH _ _ _ _ 10 _ _ w.drew
      refine H_takeD (k := 0) (v := .slice (some ⟨g, 0, none⟩) of.length of.length) (d := some 11) rfl rfl (by decide +kernel) (fun _ _ _ h => h) (Or.inl ⟨by rfl, fun W hW => by obtain ⟨s0, s1⟩ := hW; go_simp⟩) HS0.out ?_
      try simp only [Act.put, List.setIfInBounds_toArray, List.set_cons_zero, List.set_cons_succ]
      refine H_takeD (k := 1) (v := .int .i64 k) (d := some 12) rfl rfl (by decide +kernel) (fun _ _ _ h => h) (Or.inl ⟨by rfl, fun W hW => by obtain ⟨s0, s1⟩ := hW; go_simp⟩) HS0.out ?_
      try simp only [Act.put, List.setIfInBounds_toArray, List.set_cons_zero, List.set_cons_succ]
      refine H_takeD (k := 2) (v := .func (.func 55) #[] #[.pointer (some ⟨B, 0, none⟩), .pointer (some ⟨G, 0, none⟩)]) (d := some 13) rfl rfl (by decide +kernel) (fun _ _ _ h => h) (Or.inl ⟨by rfl, fun W hW => by obtain ⟨s0, s1⟩ := hW; go_simp⟩) HS0.out ?_
      try simp only [Act.put, List.setIfInBounds_toArray, List.set_cons_zero, List.set_cons_succ]
      refine H_takeD (k := 3) (v := .slice (some ⟨g, 0, none⟩) of.length of.length) (d := some 14) rfl rfl (by decide +kernel) (fun _ _ _ h => h) (Or.inl ⟨by rfl, fun W hW => by obtain ⟨s0, s1⟩ := hW; go_simp⟩) HS0.out ?_
      try simp only [Act.put, List.setIfInBounds_toArray, List.set_cons_zero, List.set_cons_succ]
      refine H_takeD (k := 4) (v := .int .i64 k) (d := some 15) rfl rfl (by decide +kernel) (fun _ _ _ h => h) (Or.inl ⟨by rfl, fun W hW => by obtain ⟨s0, s1⟩ := hW; go_simp⟩) HS0.out ?_
      try simp only [Act.put, List.setIfInBounds_toArray, List.set_cons_zero, List.set_cons_succ]
      refine H_takeD (k := 5) (v := .pointer (some ⟨g, k, none⟩)) (d := some 16) rfl rfl (by decide +kernel) (fun _ _ _ h => h) (Or.inl ⟨by rfl, fun W hW => by obtain ⟨s0, s1⟩ := hW; go_simp⟩) HS0.out ?_
      try simp only [Act.put, List.setIfInBounds_toArray, List.set_cons_zero, List.set_cons_succ]
      refine H_one (i := 6) (by decide +kernel) (H_step rfl rfl (fun K hK6 => ?_))
      have hK6 := Lib.hid hK6
      go_simp
      refine hK6.out _ _ HS0.out ?_
      try simp only [Act.put, List.setIfInBounds_toArray, List.set_cons_zero, List.set_cons_succ]
      refine H_one (i := 7) (by decide +kernel) (H_step rfl rfl (fun K hK7 => ?_))
      have hK7 := Lib.hid hK7
      go_simp
      go_at_call 55
      refine (ih r hlt rt w.drew (by omega) HR.out HB.out HG.out Hg.out).mono ?_
      rintro e w1 ⟨he, rt1, hR1, hg1, ht1⟩
      obtain rfl : e = .returned (.int .i64 z) := by rw [he, Hor.out, hz.out]
      clear he
      have HR1 := Lib.hid hR1
      have Hg1 := Lib.hid hg1
      have Ht1 := Lib.hid ((Turn.drew (w := w) g).trans ht1)
      have HB1 := Lib.hid (Ht1.out.bk HB.out (Ne.symm hBg))
      have HG1 := Lib.hid (Ht1.out.bk HG.out (Ne.symm hGg))
      have HS1 := Lib.hid (And.intro ((HB1.out.cell 0)) (HG1.out.cell 0))
      clear hR1 hg1 ht1
      refine hK7.out _ _ HS1.out ?_
      try simp only [Act.put, List.setIfInBounds_toArray, List.set_cons_zero, List.set_cons_succ]
      refine H_takeD (k := 8) (v := .pointer (some ⟨g, k, none⟩)) (d := some 19) rfl rfl (by decide +kernel) (fun _ _ _ h => h) (Or.inl ⟨by rfl, fun W hW => by obtain ⟨s0, s1⟩ := hW; go_simp⟩) HS1.out ?_
      try simp only [Act.put, List.setIfInBounds_toArray, List.set_cons_zero, List.set_cons_succ]
      refine H_one (i := 9) (by decide +kernel) (H_step rfl rfl (fun K hK9 => ?_))
      have hK9 := Lib.hid hK9
      have hr1 : rt1[k]? = some (rt1[k]'(by rw [HR1.out.len]; exact hk)) := List.getElem?_eq_getElem _
      have hc1 : w1.cell? ⟨g, k, none⟩ = some (.int .i64 (rt1[k]'(by rw [HR1.out.len]; exact hk))) := (Hg1.out.cell k).trans (rowI_get hr1)
      have hf1 : w1.frozen? ⟨g, k, none⟩ = false := Hg1.out.frozen k
      have HS2 := Lib.hid (And.intro (((HB1.out.far (p := ⟨g, k, none⟩) (Ne.symm hBg) (.int .i64 z)).cell 0)) ((HG1.out.far (p := ⟨g, k, none⟩) (Ne.symm hGg) (.int .i64 z)).cell 0))
      clear hr1
      go_simp
      refine hK9.out _ _ HS2.out ?_
      try simp only [Act.put, List.setIfInBounds_toArray, List.set_cons_zero, List.set_cons_succ]
      refine H_end (by decide +kernel) (NoPanic.normal ?_)
      try simp only [Act.put, List.setIfInBounds_toArray, List.set_cons_zero, List.set_cons_succ]
      have hgF := Hg1.out.set_ k (.int .i64 z)
      have hcF : (w1.setCell ⟨g, k, none⟩ (.int .i64 z)).cell? ⟨g, k, none⟩ = some (.int .i64 z) := by
        rw [hgF.cell k]
        rw [Array.getElem?_setIfInBounds_self]
        rw [if_pos (by rw [rowI_size, HR1.out.len]; exact hk)]
      have hcB : (w1.setCell ⟨g, k, none⟩ (.int .i64 z)).cell? ⟨B, 0, none⟩ = some (.slice (some ⟨g, 0, none⟩) of.length of.length) := (HB1.out.far (p := ⟨g, k, none⟩) (Ne.symm hBg) (.int .i64 z)).cell 0
      have HgF := Lib.hid hgF
      clear hgF
      go_wp2_with fail
      go_ret
      refine ⟨rfl, rt1.set k (of.getD k 0), HR1.out.put hk, ?_, Ht1.out.setCell_ k _⟩
      have h := HgF.out
      rw [← hz.out] at h ⊢
      have e : rowI (rt1.set k (of.getD k 0)) = (rowI rt1).setIfInBounds k (.int .i64 (of.getD k 0)) := by simp [rowI, List.map_set]
      rw [e]
      exact h
end Go.Proofs.Ytmdgdphhedgojaa
