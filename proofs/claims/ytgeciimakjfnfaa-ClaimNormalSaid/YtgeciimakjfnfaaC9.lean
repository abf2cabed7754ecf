import Derived.Test.YtgeciimakjfnfaaC8
import Derived.Shelf.SlSortCmp.WholeK
import Derived.Shelf.SlSortCmp.NoneTotal
import Derived.Shelf.Lay
import Derived.Ground.SlsfProg
namespace Go.Proofs.Ytgeciimakjfnfaa
open Go.RowKit Go.Maps Go.Sort

instance : Inhabited Cl := ⟨⟨0, 0, 0, 0, 0⟩⟩
/-- The world has grown, and nothing else. -/
def Gr (w w' : World) : Prop := ∃ q os', w' = grow (w.drewN q) os'
theorem Gr.refl (w : World) : Gr w w := ⟨0, #[], by rw [grow_empty]; rfl⟩
theorem Gr.alloc {w w' : World} (h : Gr w w') (o : Obj) : Gr w (w'.alloc o) := by
  obtain ⟨q, os', rfl⟩ := h
  exact ⟨q, os' ++ #[o], by rw [alloc_eq_grow, grow_grow]⟩
theorem Gr.drew {w w' : World} (h : Gr w w') : Gr w w'.drew := by
  obtain ⟨q, os', rfl⟩ := h
  exact ⟨q + 1, os', rfl⟩
theorem Gr.below {w w' : World} (h : Gr w w') : Below w.heap.size w w' := by
  obtain ⟨q, os', rfl⟩ := h
  exact ⟨rfl, rfl, rfl, by unfold grow; simp, fun k hk => heap_grow_old _ _ hk⟩
def byC (a b : Cl) : Int := orE [cmpI a.kind b.kind, cmpI a.office b.office, cmpI a.dec b.dec, cmpI a.fr b.fr]
theorem byC_lt (a b : Cl) : ltOf byC a b = lessC a b := by
  have h : byC a b < 0 ↔ lessC a b = true := by
    rw [lessC_iff]
    unfold byC orE cmpI
    simp only [orE]
    split <;> split <;> (try split) <;> (try split) <;> (try split) <;> (try split) <;> (try split) <;> (try split) <;> (try split) <;> (try split) <;> simp_all <;> omega
  unfold ltOf
  cases hl : lessC a b
  · have : ¬ byC a b < 0 := fun k => by rw [h.1 k] at hl; cases hl
    simp; omega
  · simp; exact h.2 hl
theorem byC_swo : SWO (ltOf byC) where
  irrefl x := by rw [byC_lt]; exact lessC_irr x
  trans x y z h1 h2 := by rw [byC_lt] at *; exact lessC_trans h1 h2
  ntrans x y z h1 h2 := by
    rw [byC_lt] at *
    have a1 := lessC_not h1
    have a2 := lessC_not h2
    cases h : lessC x z
    · rfl
    · rw [lessC_iff] at h; omega
set_option linter.unusedSimpArgs false in
set_option maxHeartbeats 4000000 in
set_option maxRecDepth 100000 in
theorem compare_any (x y : Cl) (w : World) : Calls Try.prog 47 #[clV x, clV y] w fun e w' => e = .returned (.int .i64 (byC x y)) ∧ Gr w w' := by
  show Calls Try.prog 47 #[.agg #[.int .i64 x.kind, .int .i64 x.office, .int .i64 x.fr, .int .i64 x.til, .int .i64 x.dec], .agg #[.int .i64 y.kind, .int .i64 y.office, .int .i64 y.fr, .int .i64 y.til, .int .i64 y.dec]] w _
  have hk1 := (Bk.new w 24 #[.int .i64 x.kind, .int .i64 x.office, .int .i64 x.fr, .int .i64 x.til, .int .i64 x.dec]).alloc (.cells #[.int .i64 y.kind, .int .i64 y.office, .int .i64 y.fr, .int .i64 y.til, .int .i64 y.dec] 24)
  have hk2 := Bk.new' (w.alloc (.cells #[.int .i64 x.kind, .int .i64 x.office, .int .i64 x.fr, .int .i64 x.til, .int .i64 x.dec] 24)) 24 #[.int .i64 y.kind, .int .i64 y.office, .int .i64 y.fr, .int .i64 y.til, .int .i64 y.dec] (g := w.heap.size + 1) (by simp)
  have HG0 := Lib.hid (((Gr.refl w).alloc (.cells #[.int .i64 x.kind, .int .i64 x.office, .int .i64 x.fr, .int .i64 x.til, .int .i64 x.dec] 24)).alloc (.cells #[.int .i64 y.kind, .int .i64 y.office, .int .i64 y.fr, .int .i64 y.til, .int .i64 y.dec] 24))
  obtain ⟨R, hR⟩ : ∃ z, Hid (byC x y = z) := ⟨_, Lib.hid rfl⟩
  rw [hR.out]
  obtain ⟨r1, hr1⟩ : ∃ z, Hid (cmpI x.kind y.kind = z) := ⟨_, Lib.hid rfl⟩
  obtain ⟨r2, hr2⟩ : ∃ z, Hid (cmpI x.office y.office = z) := ⟨_, Lib.hid rfl⟩
  obtain ⟨r3, hr3⟩ : ∃ z, Hid (cmpI x.dec y.dec = z) := ⟨_, Lib.hid rfl⟩
  obtain ⟨r4, hr4⟩ : ∃ z, Hid (cmpI x.fr y.fr = z) := ⟨_, Lib.hid rfl⟩
  have hRe := Lib.hid (show orE [r1, r2, r3, r4] = R from by rw [← hR.out, ← hr1.out, ← hr2.out, ← hr3.out, ← hr4.out]; rfl)
  have K1 := Lib.hid (fun W => hr1.out ▸ compare_int x.kind y.kind W)
  have K2 := Lib.hid (fun W => hr2.out ▸ compare_int x.office y.office W)
  have K3 := Lib.hid (fun W => hr3.out ▸ compare_int x.dec y.dec W)
  have K4 := Lib.hid (fun W => hr4.out ▸ compare_int x.fr y.fr W)
  go_enter Try.func47, Try.ntmps47
  go_wp2_with fail
  generalize (w.alloc (.cells #[.int .i64 x.kind, .int .i64 x.office, .int .i64 x.fr, .int .i64 x.til, .int .i64 x.dec] 24)).alloc (.cells #[.int .i64 y.kind, .int .i64 y.office, .int .i64 y.fr, .int .i64 y.til, .int .i64 y.dec] 24) = W0 at *
  generalize hs : w.heap.size = s at *
  have Hs := Lib.hid hs
  clear hs
  have HSf := Lib.hid (fun (W : World) (hW : Below W0.heap.size W0 W) => show W.cell? ⟨s, 0, none⟩ = some (.int .i64 x.kind) ∧ W.cell? ⟨s, 1, none⟩ = some (.int .i64 x.office) ∧ W.cell? ⟨s, 4, none⟩ = some (.int .i64 x.dec) ∧ W.cell? ⟨s, 2, none⟩ = some (.int .i64 x.fr) ∧ W.cell? ⟨s + 1, 0, none⟩ = some (.int .i64 y.kind) ∧ W.cell? ⟨s + 1, 1, none⟩ = some (.int .i64 y.office) ∧ W.cell? ⟨s + 1, 4, none⟩ = some (.int .i64 y.dec) ∧ W.cell? ⟨s + 1, 2, none⟩ = some (.int .i64 y.fr) from
    ⟨(hk1.below hW hk1.lt).cell 0, (hk1.below hW hk1.lt).cell 1, (hk1.below hW hk1.lt).cell 4, (hk1.below hW hk1.lt).cell 2, (hk2.below hW hk2.lt).cell 0, (hk2.below hW hk2.lt).cell 1, (hk2.below hW hk2.lt).cell 4, (hk2.below hW hk2.lt).cell 2⟩)
  have HB0 := Lib.hid ((Below.refl W0.heap.size W0).drew)
  have HG1 := Lib.hid (HG0.out.drew)
  clear hk1 hk2

  refine wp_region_noPanic ?_
  refine region_H (S := fun W => W.cell? ⟨s, 0, none⟩ = some (.int .i64 x.kind) ∧ W.cell? ⟨s, 1, none⟩ = some (.int .i64 x.office) ∧ W.cell? ⟨s, 4, none⟩ = some (.int .i64 x.dec) ∧ W.cell? ⟨s, 2, none⟩ = some (.int .i64 x.fr) ∧ W.cell? ⟨s + 1, 0, none⟩ = some (.int .i64 y.kind) ∧ W.cell? ⟨s + 1, 1, none⟩ = some (.int .i64 y.office) ∧ W.cell? ⟨s + 1, 4, none⟩ = some (.int .i64 y.dec) ∧ W.cell? ⟨s + 1, 2, none⟩ = some (.int .i64 y.fr)) (by kernel_rfl) ?_
  change wpH _ _ _ _ 23 _ _ W0.drew
  generalize W0.drew = X0 at *
  refine H_takeD (k := 0) (v := .pointer (some ⟨s, 0, none⟩)) (d := some 5) rfl rfl (by decide +kernel) (fun _ _ _ h => h) (Or.inl ⟨by rfl, fun W hW => by obtain ⟨s0, s1, s2, s3, s4, s5, s6, s7⟩ := hW; go_simp⟩) (HSf.out _ HB0.out) ?_
  try simp only [Act.put, List.setIfInBounds_toArray, List.set_cons_zero, List.set_cons_succ]
  refine H_takeD (k := 1) (v := .int .i64 x.kind) (d := some 6) rfl rfl (by decide +kernel) (fun _ _ _ h => h) (Or.inl ⟨by rfl, fun W hW => by obtain ⟨s0, s1, s2, s3, s4, s5, s6, s7⟩ := hW; go_simp⟩) (HSf.out _ HB0.out) ?_
  try simp only [Act.put, List.setIfInBounds_toArray, List.set_cons_zero, List.set_cons_succ]
  refine H_takeD (k := 2) (v := .pointer (some ⟨s + 1, 0, none⟩)) (d := some 7) rfl rfl (by decide +kernel) (fun _ _ _ h => h) (Or.inl ⟨by rfl, fun W hW => by obtain ⟨s0, s1, s2, s3, s4, s5, s6, s7⟩ := hW; go_simp⟩) (HSf.out _ HB0.out) ?_
  try simp only [Act.put, List.setIfInBounds_toArray, List.set_cons_zero, List.set_cons_succ]
  refine H_takeD (k := 3) (v := .int .i64 y.kind) (d := some 8) rfl rfl (by decide +kernel) (fun _ _ _ h => h) (Or.inl ⟨by rfl, fun W hW => by obtain ⟨s0, s1, s2, s3, s4, s5, s6, s7⟩ := hW; go_simp⟩) (HSf.out _ HB0.out) ?_
  try simp only [Act.put, List.setIfInBounds_toArray, List.set_cons_zero, List.set_cons_succ]
  refine H_takeD (k := 5) (v := .pointer (some ⟨s, 1, none⟩)) (d := some 10) rfl rfl (by decide +kernel) (fun _ _ _ h => h) (Or.inl ⟨by rfl, fun W hW => by obtain ⟨s0, s1, s2, s3, s4, s5, s6, s7⟩ := hW; go_simp⟩) (HSf.out _ HB0.out) ?_
  try simp only [Act.put, List.setIfInBounds_toArray, List.set_cons_zero, List.set_cons_succ]
  refine H_takeD (k := 6) (v := .int .i64 x.office) (d := some 11) rfl rfl (by decide +kernel) (fun _ _ _ h => h) (Or.inl ⟨by rfl, fun W hW => by obtain ⟨s0, s1, s2, s3, s4, s5, s6, s7⟩ := hW; go_simp⟩) (HSf.out _ HB0.out) ?_
  try simp only [Act.put, List.setIfInBounds_toArray, List.set_cons_zero, List.set_cons_succ]
  refine H_takeD (k := 7) (v := .pointer (some ⟨s + 1, 1, none⟩)) (d := some 12) rfl rfl (by decide +kernel) (fun _ _ _ h => h) (Or.inl ⟨by rfl, fun W hW => by obtain ⟨s0, s1, s2, s3, s4, s5, s6, s7⟩ := hW; go_simp⟩) (HSf.out _ HB0.out) ?_
  try simp only [Act.put, List.setIfInBounds_toArray, List.set_cons_zero, List.set_cons_succ]
  refine H_takeD (k := 8) (v := .int .i64 y.office) (d := some 13) rfl rfl (by decide +kernel) (fun _ _ _ h => h) (Or.inl ⟨by rfl, fun W hW => by obtain ⟨s0, s1, s2, s3, s4, s5, s6, s7⟩ := hW; go_simp⟩) (HSf.out _ HB0.out) ?_
  try simp only [Act.put, List.setIfInBounds_toArray, List.set_cons_zero, List.set_cons_succ]
  refine H_takeD (k := 10) (v := .pointer (some ⟨s, 4, none⟩)) (d := some 15) rfl rfl (by decide +kernel) (fun _ _ _ h => h) (Or.inl ⟨by rfl, fun W hW => by obtain ⟨s0, s1, s2, s3, s4, s5, s6, s7⟩ := hW; go_simp⟩) (HSf.out _ HB0.out) ?_
  try simp only [Act.put, List.setIfInBounds_toArray, List.set_cons_zero, List.set_cons_succ]
  refine H_takeD (k := 11) (v := .int .i64 x.dec) (d := some 16) rfl rfl (by decide +kernel) (fun _ _ _ h => h) (Or.inl ⟨by rfl, fun W hW => by obtain ⟨s0, s1, s2, s3, s4, s5, s6, s7⟩ := hW; go_simp⟩) (HSf.out _ HB0.out) ?_
  try simp only [Act.put, List.setIfInBounds_toArray, List.set_cons_zero, List.set_cons_succ]
  refine H_takeD (k := 12) (v := .pointer (some ⟨s + 1, 4, none⟩)) (d := some 17) rfl rfl (by decide +kernel) (fun _ _ _ h => h) (Or.inl ⟨by rfl, fun W hW => by obtain ⟨s0, s1, s2, s3, s4, s5, s6, s7⟩ := hW; go_simp⟩) (HSf.out _ HB0.out) ?_
  try simp only [Act.put, List.setIfInBounds_toArray, List.set_cons_zero, List.set_cons_succ]
  refine H_takeD (k := 13) (v := .int .i64 y.dec) (d := some 18) rfl rfl (by decide +kernel) (fun _ _ _ h => h) (Or.inl ⟨by rfl, fun W hW => by obtain ⟨s0, s1, s2, s3, s4, s5, s6, s7⟩ := hW; go_simp⟩) (HSf.out _ HB0.out) ?_
  try simp only [Act.put, List.setIfInBounds_toArray, List.set_cons_zero, List.set_cons_succ]
  refine H_takeD (k := 15) (v := .pointer (some ⟨s, 2, none⟩)) (d := some 20) rfl rfl (by decide +kernel) (fun _ _ _ h => h) (Or.inl ⟨by rfl, fun W hW => by obtain ⟨s0, s1, s2, s3, s4, s5, s6, s7⟩ := hW; go_simp⟩) (HSf.out _ HB0.out) ?_
  try simp only [Act.put, List.setIfInBounds_toArray, List.set_cons_zero, List.set_cons_succ]
  refine H_takeD (k := 16) (v := .int .i64 x.fr) (d := some 21) rfl rfl (by decide +kernel) (fun _ _ _ h => h) (Or.inl ⟨by rfl, fun W hW => by obtain ⟨s0, s1, s2, s3, s4, s5, s6, s7⟩ := hW; go_simp⟩) (HSf.out _ HB0.out) ?_
  try simp only [Act.put, List.setIfInBounds_toArray, List.set_cons_zero, List.set_cons_succ]
  refine H_takeD (k := 17) (v := .pointer (some ⟨s + 1, 2, none⟩)) (d := some 22) rfl rfl (by decide +kernel) (fun _ _ _ h => h) (Or.inl ⟨by rfl, fun W hW => by obtain ⟨s0, s1, s2, s3, s4, s5, s6, s7⟩ := hW; go_simp⟩) (HSf.out _ HB0.out) ?_
  try simp only [Act.put, List.setIfInBounds_toArray, List.set_cons_zero, List.set_cons_succ]
  refine H_takeD (k := 18) (v := .int .i64 y.fr) (d := some 23) rfl rfl (by decide +kernel) (fun _ _ _ h => h) (Or.inl ⟨by rfl, fun W hW => by obtain ⟨s0, s1, s2, s3, s4, s5, s6, s7⟩ := hW; go_simp⟩) (HSf.out _ HB0.out) ?_
  try simp only [Act.put, List.setIfInBounds_toArray, List.set_cons_zero, List.set_cons_succ]
  refine H_one (i := 4) (by decide +kernel) (H_step rfl rfl (fun K hK16 => ?_))
  have hK16 := Lib.hid hK16
  go_simp
  go_at_call 69
  refine (K1.out _).mono ?_
  rintro e wv ⟨rfl, rfl⟩
  refine hK16.out _ _ (HSf.out _ HB0.out) ?_
  try simp only [Act.put, List.setIfInBounds_toArray, List.set_cons_zero, List.set_cons_succ]
  refine H_one (i := 9) (by decide +kernel) (H_step rfl rfl (fun K hK17 => ?_))
  have hK17 := Lib.hid hK17
  go_simp
  go_at_call 69
  refine (K2.out _).mono ?_
  rintro e wv ⟨rfl, rfl⟩
  refine hK17.out _ _ (HSf.out _ HB0.out) ?_
  try simp only [Act.put, List.setIfInBounds_toArray, List.set_cons_zero, List.set_cons_succ]
  refine H_one (i := 14) (by decide +kernel) (H_step rfl rfl (fun K hK18 => ?_))
  have hK18 := Lib.hid hK18
  go_simp
  go_at_call 69
  refine (K3.out _).mono ?_
  rintro e wv ⟨rfl, rfl⟩
  refine hK18.out _ _ (HSf.out _ HB0.out) ?_
  try simp only [Act.put, List.setIfInBounds_toArray, List.set_cons_zero, List.set_cons_succ]
  refine H_one (i := 19) (by decide +kernel) (H_step rfl rfl (fun K hK19 => ?_))
  have hK19 := Lib.hid hK19
  go_simp
  go_at_call 69
  refine (K4.out _).mono ?_
  rintro e wv ⟨rfl, rfl⟩
  refine hK19.out _ _ (HSf.out _ HB0.out) ?_
  try simp only [Act.put, List.setIfInBounds_toArray, List.set_cons_zero, List.set_cons_succ]
  refine H_one (i := 20) (by decide +kernel) (H_step rfl rfl (fun K hK20 => ?_))
  have hK20 := Lib.hid hK20
  go_simp
  have HB1 := Lib.hid (HB0.out.alloc HB0.out.size (.cells #[.int .i64 r1, .int .i64 r2, .int .i64 r3, .int .i64 r4] 3))
  have HG2 := Lib.hid (HG1.out.alloc (.cells #[.int .i64 r1, .int .i64 r2, .int .i64 r3, .int .i64 r4] 3))
  have hsi := Lib.hid (show SI (X0.alloc (.cells #[.int .i64 r1, .int .i64 r2, .int .i64 r3, .int .i64 r4] 3)) (some ⟨X0.heap.size, 0, none⟩) [r1, r2, r3, r4] from sl_bk (Bk.new X0 3 #[.int .i64 r1, .int .i64 r2, .int .i64 r3, .int .i64 r4]))
  refine hK20.out _ _ (HSf.out _ HB1.out) ?_
  try simp only [Act.put, List.setIfInBounds_toArray, List.set_cons_zero, List.set_cons_succ]
  generalize X0.alloc (.cells #[.int .i64 r1, .int .i64 r2, .int .i64 r3, .int .i64 r4] 3) = X1 at *
  generalize X0.heap.size = h1 at *
  refine H_one (i := 21) (by decide +kernel) (H_step rfl rfl (fun K hK21 => ?_))
  have hK21 := Lib.hid hK21
  go_simp
  go_at_call 68
  refine (orI_any (some ⟨h1, 0, none⟩) 4 [r1, r2, r3, r4] X1 hsi.out (by simp)).mono ?_
  rintro e wv ⟨he, rfl⟩
  rw [hRe.out] at he
  subst he
  refine hK21.out _ _ (HSf.out _ HB1.out) ?_
  try simp only [Act.put, List.setIfInBounds_toArray, List.set_cons_zero, List.set_cons_succ]
  refine H_takeD (k := 22) (v := .int .i64 R) (d := some 4) rfl rfl (by decide +kernel) (fun _ _ _ h => h) (Or.inl ⟨by rfl, fun W hW => by obtain ⟨s0, s1, s2, s3, s4, s5, s6, s7⟩ := hW; go_simp⟩) (HSf.out _ HB1.out) ?_
  try simp only [Act.put, List.setIfInBounds_toArray, List.set_cons_zero, List.set_cons_succ]
  refine H_end (by decide +kernel) (NoPanic.normal ?_)
  try simp only [Act.put, List.setIfInBounds_toArray, List.set_cons_zero, List.set_cons_succ]
  clear HB0 HB1 HSf K1 K2 K3 K4 hsi
  go_wp2_with fail
  go_ret
  exact ⟨rfl, HG2.out⟩
end Go.Proofs.Ytgeciimakjfnfaa
namespace Go.Proofs.Ytgeciimakjfnfaa
open Go.Shelf Go.RowKit Go.Lib Go.Sort
shelf_lay_g SlLaysF0.n6 Slsf 6 at Try 49 as Try.sortCl
end Go.Proofs.Ytgeciimakjfnfaa
namespace Go.Proofs.Ytgeciimakjfnfaa
open Go.RowKit Go.Maps Go.Sort Go.Shelf

theorem flatC_get (d : Array Cl) (j : Nat) (hj : j < d.size * 5) : (flatK clC 5 d)[j]! = ((d.toList.flatMap clC)[j]?).getD default := by
  rw [get_flatK _ _ _ _ (by omega)]
  have hd : j / 5 < d.size := by omega
  obtain ⟨h0, h1, h2, h3, h4⟩ := clC_at d.toList (j / 5) d[j / 5] (by simp [hd])
  have e : j = j / 5 * 5 + j % 5 := by omega
  have e2 : d[j / 5]! = d[j / 5] := getElem!_pos d _ hd
  rw [e2]
  have : j % 5 = 0 ∨ j % 5 = 1 ∨ j % 5 = 2 ∨ j % 5 = 3 ∨ j % 5 = 4 := by omega
  rcases this with h | h | h | h | h
  · rw [h] at e ⊢
    rw [show (d.toList.flatMap clC)[j]? = some (.int .i64 d[j / 5].kind) by rw [← h0]; congr 1]
    rfl
  · rw [h] at e ⊢
    rw [show (d.toList.flatMap clC)[j]? = some (.int .i64 d[j / 5].office) by rw [← h1]; congr 1]
    rfl
  · rw [h] at e ⊢
    rw [show (d.toList.flatMap clC)[j]? = some (.int .i64 d[j / 5].fr) by rw [← h2]; congr 1]
    rfl
  · rw [h] at e ⊢
    rw [show (d.toList.flatMap clC)[j]? = some (.int .i64 d[j / 5].til) by rw [← h3]; congr 1]
    rfl
  · rw [h] at e ⊢
    rw [show (d.toList.flatMap clC)[j]? = some (.int .i64 d[j / 5].dec) by rw [← h4]; congr 1]
    rfl
theorem cmpLaysC (blk off size : Nat) (w : World) : CmpLays Try.prog 47 #[] clC 5 byC blk off size w := fun _ _ _ _ x y => compare_any x y _
theorem holdsC {w : World} {base g c : Nat} {l : List Cl} (h : w.ownsRow base 24 5 (.slice (some ⟨g, 0, none⟩) l.length c) l.length (l.flatMap clC)) : HoldsK clC 5 w g 0 l.toArray := by
  obtain ⟨cur, hb, hc⟩ := own_bk2 h
  intro j hj
  rw [size_flatK, List.size_toArray] at hj
  refine ⟨?_, hb.frozen _⟩
  rw [Nat.zero_add, hb.cell j, flatC_get _ _ (by simpa using hj)]
  have hj2 : j < (l.flatMap clC).length := by rw [cC_len]; omega
  have h1 : (l.flatMap clC)[j]? = cur[j]? := by rw [← hc, List.getElem?_take_of_lt (by omega)]; simp
  rw [← h1, List.getElem?_eq_getElem hj2]
  simp
theorem own_sortC {w : World} {base g n c q : Nat} {l : List Cl} {d' : Array Cl} (h : w.ownsRow base 24 5 (.slice (some ⟨g, 0, none⟩) n c) n (l.flatMap clC)) (hd : d'.size = n) (os : Array Obj) :
    (sortWorldK clC 5 w g 0 q d' os).ownsRow base 24 5 (.slice (some ⟨g, 0, none⟩) n c) n (d'.toList.flatMap clC) ∧ w.grownBy (sortWorldK clC 5 w g 0 q d' os) (some g) := by
  rcases h.2 with ⟨e0, _⟩ | ⟨g', cap', cur, e0, hb, hg, hn, hm, hs, ht⟩
  · cases e0
  · injection e0 with e1 _ e3
    injection e1 with e1
    injection e1 with e1
    subst e1; subst e3
    have hlt : g < w.heap.size := (Array.getElem?_eq_some_iff.1 hg).1
    have hF : (flatK clC 5 d').size = n * 5 := by rw [size_flatK, hd]
    have hh : ∀ k, k < w.heap.size → (sortWorldK clC 5 w g 0 q d' os).heap[k]? = (putRow id (Sort.ahead w q) g 0 (flatK clC 5 d')).heap[k]? := fun k hk => by
      unfold sortWorldK
      rw [heap_grow_old _ _ (by unfold putRowK; rw [size_putRow]; exact hk)]
      rfl
    refine ⟨⟨by rw [cC_len, Array.length_toList, hd], .inr ⟨g, c, putCells id 0 (flatK clC 5 d') cur, rfl, hb, ?_, hn, hm, by simpa [putCells] using hs, ?_⟩⟩, ⟨rfl, rfl, rfl, ?_, fun k hk hne => ?_⟩⟩
    · rw [hh g hlt]
      simp [putRow, mapBlock, Sort.ahead, Array.getElem?_modify, hg, onCells]
    · apply List.ext_getElem?
      intro j
      rw [List.getElem?_take, Array.getElem?_toList]
      by_cases hj : j < n * 5
      · have hjc : j < cur.size := by omega
        have hjd : j < (d'.toList.flatMap clC).length := by rw [cC_len, Array.length_toList, hd]; exact hj
        simp only [if_pos hj, putCells, Array.getElem?_mapIdx, Array.getElem?_eq_getElem hjc, Option.map_some]
        rw [if_pos ⟨Nat.zero_le _, by rw [hF]; omega⟩, Nat.sub_zero, flatC_get d' j (by rw [hd]; exact hj), List.getElem?_eq_getElem hjd]
        rfl
      · rw [if_neg hj, List.getElem?_eq_none (by rw [cC_len, Array.length_toList, hd]; omega)]
    · unfold sortWorldK grow putRowK
      simp
    · rw [hh k hk]
      have hk2 : ¬ g = k := fun e => hne (by rw [e])
      simp [putRow, mapBlock, Sort.ahead, Array.getElem?_modify, hk2]
/-- slices.SortFunc with claim.compare at a row of one's own. -/
theorem sortC_any {base n : Nat} {v : Value} {l : List Cl} {w : World} (hown : w.ownsRow base 24 5 v n (l.flatMap clC)) (hl : n ≤ 1000000) :
    Calls Try.prog 49 #[v, .func (.func 47) #[] #[]] w fun e w' => e = .returned (.tuple #[]) ∧ ∃ l', l'.Perm l ∧ SoC l' ∧ w'.ownsRow base 24 5 v n (l'.flatMap clC) ∧ w.grownBy w' v.ownBlock := by
  have hln := own_lenC hown
  subst hln
  obtain ⟨A, c, rfl⟩ := own_slice hown
  rcases hown.2 with ⟨e0, h0⟩ | ⟨g, _, _, he, _⟩
  · injection e0 with e1 e2 e3
    subst e1 e3
    have hl0 : l = [] := List.eq_nil_of_length_eq_zero (by omega)
    subst hl0
    refine (AnyF.slices_SortFunc_none { Try.sortCl with } none 0 (.func (.func 47) #[] #[]) w).mono ?_
    rintro e w' ⟨rfl, rfl⟩
    exact ⟨rfl, [], List.Perm.refl _, .nil, hown, ⟨rfl, rfl, rfl, Nat.le_refl _, fun _ _ _ => rfl⟩⟩
  · injection he with he _ _
    subst he
    have eg : ∀ args w, (callFunc 47 args).run Try.prog w = .ok (.enter 47 args) w := enters_of Try.func47 (by kernel_rfl) rfl
    obtain ⟨cur0, hb, _⟩ := own_bk2 hown
    have hH := holdsC hown
    have hcon := AnyQ.slices_SortFunc Try.sortCl 5 Try.isAgg24 Try.sizeOf24 clC (fun _ => rfl) (fun x v hv => by simp [clC] at hv; rcases hv with rfl | rfl | rfl | rfl | rfl <;> rfl) byC byC_swo 47 #[] g 0 c l.toArray w eg (cmpLaysC g 0 l.toArray.size w) hH hb.lt (by simp; omega)
    rw [List.size_toArray] at hcon
    refine hcon.mono ?_
    rintro e w' ⟨rfl, d', n, os, hp, hs, rfl⟩
    have hsz : d'.size = l.length := by simpa using hp.1
    have hperm : d'.toList.Perm l := by
      have h1 := hp.2.2
      have e1 : (d'.extract 0 l.length).toList = d'.toList := by rw [← hsz]; simp
      rw [e1] at h1
      simpa using h1
    have hs' : SortedIn (ltOf byC) 0 d'.size d' := by rw [hsz]; exact hs
    obtain ⟨h1, h2⟩ := own_sortC hown hsz (q := n) os
    refine ⟨rfl, d'.toList, hperm, ?_, h1, h2⟩
    unfold SoC
    rw [List.pairwise_iff_getElem]
    intro i j hi hj hij
    rw [Array.length_toList] at hi hj
    have h3 := hs' i j (Nat.zero_le _) hij hj
    rw [byC_lt, getElem!_pos d' j hj, getElem!_pos d' i hi] at h3
    rw [Array.getElem_toList, Array.getElem_toList]
    exact h3
end Go.Proofs.Ytgeciimakjfnfaa
