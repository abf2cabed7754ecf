import Derived.Test.YtnapnkmehnabfaaGreatP06
namespace Go.Proofs.YtnapnkmehnabfaaGreat
open Go.RowKit Go.Maps

theorem isNaN_u64 (x : Int) (w : World) : Calls Tryz.prog 180 #[.int .u64 x] w fun e w' => e = .returned (.bool false) ∧ w = w' := by
  go_enter Tryz.func180, Tryz.ntmps180
  go_wp2
  go_ret
  exact ⟨ret_bool (by simp), rfl⟩
theorem compare_u64 (a b : Int) (w : World) : Calls Tryz.prog 157 #[.int .u64 a, .int .u64 b] w fun e w' => e = .returned (.int .i64 (cmpI a b)) ∧ w = w' := by
  by_cases h1 : a < b
  · have hs : Hid (cmpI a b = -1) := by show _ = _; rw [cmpI, if_pos h1]
    go_enter Tryz.func157, Tryz.ntmps157
    go_wp2_with (go_at_call 180; refine (isNaN_u64 _ _).mono ?_; rintro e w' ⟨rfl, rfl⟩)
    go_ret
    exact ⟨ret_int hs.out.symm, rfl⟩
  · by_cases h2 : b < a
    · have hs : Hid (cmpI a b = 1) := by show _ = _; rw [cmpI, if_neg h1, if_pos h2]
      go_enter Tryz.func157, Tryz.ntmps157
      go_wp2_with (go_at_call 180; refine (isNaN_u64 _ _).mono ?_; rintro e w' ⟨rfl, rfl⟩)
      go_ret
      exact ⟨ret_int hs.out.symm, rfl⟩
    · have hs : Hid (cmpI a b = 0) := by show _ = _; rw [cmpI, if_neg h1, if_neg h2]
      go_enter Tryz.func157, Tryz.ntmps157
      go_wp2_with (go_at_call 180; refine (isNaN_u64 _ _).mono ?_; rintro e w' ⟨rfl, rfl⟩)
      go_ret
      exact ⟨ret_int hs.out.symm, rfl⟩
set_option maxHeartbeats 1000000 in
set_option maxRecDepth 100000 in
theorem orI_any (A : Option Addr) (c : Nat) (l : List Int) (w : World) (hA : SI w A l) (hl : l.length ≤ 1099511627776) :
    Calls Tryz.prog 156 #[.slice A l.length c] w fun e w' => e = .returned (.int .i64 (orE l)) ∧ w = w' := by
  obtain ⟨R, hR⟩ : ∃ z, Hid (orE l = z) := ⟨_, Lib.hid rfl⟩
  rw [hR.out]
  go_enter Tryz.func156, Tryz.ntmps156
  go_wp2_with fail
  go_loopw [8] (fun v wr => ∃ k : Nat, k ≤ l.length ∧ v = .int .i64 k ∧ Hid (orE (l.drop k) = R) ∧ w = wr) (fun v _ => l.length - (intOf v).toNat)
  case atStart => exact ⟨0, by omega, rfl, Lib.hid (by rw [List.drop_zero]; exact hR.out), rfl⟩
  case round =>
    obtain ⟨k, hk, rfl, hd, rfl⟩ := hrel
    by_cases hlt : k < l.length
    · obtain ⟨b, o, y, rfl, hc, hy⟩ := hA.get hlt
      have k0 : (0 : Int) ≤ (k : Int) := by omega
      have hd2 := hd.out
      rw [orE_drop hy.out] at hd2
      by_cases hy0 : y = 0
      · have hb : (y != 0) = false := by simp [hy0]
        rw [if_neg (by simp [hy0])] at hd2
        have Hd2 := Lib.hid hd2
        clear hd hd2 hy hy0 hA
        go_wp2_with fail
        go_roundw
        case rel => exact ⟨k + 1, by omega, by go_num, Hd2, by first | trivial | rfl⟩
        case measure => simp [intOf]; omega
      · have hb : (y != 0) = true := by simp [hy0]
        rw [if_pos hy0] at hd2
        have Hd2 := Lib.hid hd2
        clear hd hd2 hy hy0 hA
        go_wp2_with fail
        go_ret
        exact ⟨by rw [← Hd2.out]; rfl, rfl⟩
    · have Hd2 := Lib.hid (show R = 0 from by rw [← hd.out, List.drop_eq_nil_of_le (by omega)]; rfl)
      clear hd hA
      go_wp2_with fail
      go_ret
      exact ⟨by rw [Hd2.out]; rfl, rfl⟩

/-- The order of names. -/
def byN (a b : Int × Int) : Int := orE [cmpI a.1 b.1, cmpI a.2 b.2]
theorem byN_ge {a b : Int × Int} : decide (0 ≤ byN a b) = !lessI a b := by
  unfold byN lessI orE orE orE cmpI
  by_cases h1 : a.1 < b.1
  · simp [h1]
  · by_cases h2 : b.1 < a.1
    · have h3 : ¬ a.1 = b.1 := by omega
      simp [h1, h2, h3]
    · have h3 : a.1 = b.1 := by omega
      by_cases h4 : a.2 < b.2
      · simp [h3, h4]
      · by_cases h5 : b.2 < a.2
        · simp [h3, h4, h5]
        · simp [h3, h4, h5]
set_option linter.unusedSimpArgs false in
set_option maxHeartbeats 4000000 in
set_option maxRecDepth 100000 in
theorem byName_any (p i q j : Int) (w : World) : Calls Tryz.prog 102 #[.agg #[.int .u64 p, .int .i64 i], .agg #[.int .u64 q, .int .i64 j]] w fun e w' => e = .returned (.int .i64 (byN (p, i) (q, j))) ∧ Below w.heap.size w w' := by
  have hb := ((Below.refl w.heap.size w).alloc (Nat.le_refl _) (.cells #[.int .u64 p, .int .i64 i] 77)).alloc (by simp) (.cells #[.int .u64 q, .int .i64 j] 77)
  have hk1 := (Bk.new w 77 #[.int .u64 p, .int .i64 i]).alloc (.cells #[.int .u64 q, .int .i64 j] 77)
  have hk2 := Bk.new' (w.alloc (.cells #[.int .u64 p, .int .i64 i] 77)) 77 #[.int .u64 q, .int .i64 j] (g := w.heap.size + 1) (by simp)
  obtain ⟨R, hR⟩ : ∃ z, Hid (byN (p, i) (q, j) = z) := ⟨_, Lib.hid rfl⟩
  rw [hR.out]
  obtain ⟨r1, hr1⟩ : ∃ z, Hid (cmpI p q = z) := ⟨_, Lib.hid rfl⟩
  obtain ⟨r2, hr2⟩ : ∃ z, Hid (cmpI i j = z) := ⟨_, Lib.hid rfl⟩
  have hRe := Lib.hid (show orE [r1, r2] = R from by rw [← hR.out, ← hr1.out, ← hr2.out]; rfl)
  have K1 := Lib.hid (fun W => hr1.out ▸ compare_u64 p q W)
  have K2 := Lib.hid (fun W => hr2.out ▸ compare_int i j W)
  go_enter Tryz.func102, Tryz.ntmps102
  go_wp2_with fail
  generalize (w.alloc (.cells #[.int .u64 p, .int .i64 i] 77)).alloc (.cells #[.int .u64 q, .int .i64 j] 77) = W0 at *
  generalize hs : w.heap.size = s at *
  have Hs := Lib.hid hs
  clear hs
  have Hb := Lib.hid hb
  have HSf := Lib.hid (fun (W : World) (hW : Below W0.heap.size W0 W) => show W.cell? ⟨s, 0, none⟩ = some (.int .u64 p) ∧ W.cell? ⟨s, 1, none⟩ = some (.int .i64 i) ∧ W.cell? ⟨s + 1, 0, none⟩ = some (.int .u64 q) ∧ W.cell? ⟨s + 1, 1, none⟩ = some (.int .i64 j) from ⟨(hk1.below hW hk1.lt).cell 0, (hk1.below hW hk1.lt).cell 1, (hk2.below hW hk2.lt).cell 0, (hk2.below hW hk2.lt).cell 1⟩)
  have HB0 := Lib.hid ((Below.refl W0.heap.size W0).drew)
  have hz0 : s ≤ W0.heap.size := by have := hk2.lt; omega
  clear hb hk1 hk2
  refine wp_region_noPanic ?_
  refine region_H (S := fun W => W.cell? ⟨s, 0, none⟩ = some (.int .u64 p) ∧ W.cell? ⟨s, 1, none⟩ = some (.int .i64 i) ∧ W.cell? ⟨s + 1, 0, none⟩ = some (.int .u64 q) ∧ W.cell? ⟨s + 1, 1, none⟩ = some (.int .i64 j)) (by kernel_rfl) ?_
  change wpH _ _ _ _ 13 _ _ W0.drew
  generalize W0.drew = X0 at *
  refine H_takeD (k := 0) (v := .pointer (some ⟨s, 0, none⟩)) (d := some 5) rfl rfl (by decide +kernel) (fun _ _ _ h => h) (Or.inl ⟨by rfl, fun W hW => by obtain ⟨s0, s1, s2, s3⟩ := hW; go_simp⟩) (HSf.out _ HB0.out) ?_
  try simp only [Act.put, List.setIfInBounds_toArray, List.set_cons_zero, List.set_cons_succ]
  refine H_takeD (k := 1) (v := .int .u64 p) (d := some 6) rfl rfl (by decide +kernel) (fun _ _ _ h => h) (Or.inl ⟨by rfl, fun W hW => by obtain ⟨s0, s1, s2, s3⟩ := hW; go_simp⟩) (HSf.out _ HB0.out) ?_
  try simp only [Act.put, List.setIfInBounds_toArray, List.set_cons_zero, List.set_cons_succ]
  refine H_takeD (k := 2) (v := .pointer (some ⟨s + 1, 0, none⟩)) (d := some 7) rfl rfl (by decide +kernel) (fun _ _ _ h => h) (Or.inl ⟨by rfl, fun W hW => by obtain ⟨s0, s1, s2, s3⟩ := hW; go_simp⟩) (HSf.out _ HB0.out) ?_
  try simp only [Act.put, List.setIfInBounds_toArray, List.set_cons_zero, List.set_cons_succ]
  refine H_takeD (k := 3) (v := .int .u64 q) (d := some 8) rfl rfl (by decide +kernel) (fun _ _ _ h => h) (Or.inl ⟨by rfl, fun W hW => by obtain ⟨s0, s1, s2, s3⟩ := hW; go_simp⟩) (HSf.out _ HB0.out) ?_
  try simp only [Act.put, List.setIfInBounds_toArray, List.set_cons_zero, List.set_cons_succ]
  refine H_takeD (k := 5) (v := .pointer (some ⟨s, 1, none⟩)) (d := some 10) rfl rfl (by decide +kernel) (fun _ _ _ h => h) (Or.inl ⟨by rfl, fun W hW => by obtain ⟨s0, s1, s2, s3⟩ := hW; go_simp⟩) (HSf.out _ HB0.out) ?_
  try simp only [Act.put, List.setIfInBounds_toArray, List.set_cons_zero, List.set_cons_succ]
  refine H_takeD (k := 6) (v := .int .i64 i) (d := some 11) rfl rfl (by decide +kernel) (fun _ _ _ h => h) (Or.inl ⟨by rfl, fun W hW => by obtain ⟨s0, s1, s2, s3⟩ := hW; go_simp⟩) (HSf.out _ HB0.out) ?_
  try simp only [Act.put, List.setIfInBounds_toArray, List.set_cons_zero, List.set_cons_succ]
  refine H_takeD (k := 7) (v := .pointer (some ⟨s + 1, 1, none⟩)) (d := some 12) rfl rfl (by decide +kernel) (fun _ _ _ h => h) (Or.inl ⟨by rfl, fun W hW => by obtain ⟨s0, s1, s2, s3⟩ := hW; go_simp⟩) (HSf.out _ HB0.out) ?_
  try simp only [Act.put, List.setIfInBounds_toArray, List.set_cons_zero, List.set_cons_succ]
  refine H_takeD (k := 8) (v := .int .i64 j) (d := some 13) rfl rfl (by decide +kernel) (fun _ _ _ h => h) (Or.inl ⟨by rfl, fun W hW => by obtain ⟨s0, s1, s2, s3⟩ := hW; go_simp⟩) (HSf.out _ HB0.out) ?_
  try simp only [Act.put, List.setIfInBounds_toArray, List.set_cons_zero, List.set_cons_succ]
  refine H_one (i := 4) (by decide +kernel) (H_step rfl rfl (fun K hK8 => ?_))
  have hK8 := Lib.hid hK8
  go_simp
  go_at_call 157
  refine (K1.out _).mono ?_
  rintro e wv ⟨rfl, rfl⟩
  refine hK8.out _ _ (HSf.out _ HB0.out) ?_
  try simp only [Act.put, List.setIfInBounds_toArray, List.set_cons_zero, List.set_cons_succ]
  refine H_one (i := 9) (by decide +kernel) (H_step rfl rfl (fun K hK9 => ?_))
  have hK9 := Lib.hid hK9
  go_simp
  go_at_call 69
  refine (K2.out _).mono ?_
  rintro e wv ⟨rfl, rfl⟩
  refine hK9.out _ _ (HSf.out _ HB0.out) ?_
  try simp only [Act.put, List.setIfInBounds_toArray, List.set_cons_zero, List.set_cons_succ]
  refine H_one (i := 10) (by decide +kernel) (H_step rfl rfl (fun K hK10 => ?_))
  have hK10 := Lib.hid hK10
  go_simp
  have HB1 := Lib.hid (HB0.out.alloc HB0.out.size (.cells #[.int .i64 r1, .int .i64 r2] 3))
  have hsi := Lib.hid (show SI (X0.alloc (.cells #[.int .i64 r1, .int .i64 r2] 3)) (some ⟨X0.heap.size, 0, none⟩) [r1, r2] from sl_bk (Bk.new X0 3 #[.int .i64 r1, .int .i64 r2]))
  refine hK10.out _ _ (HSf.out _ HB1.out) ?_
  try simp only [Act.put, List.setIfInBounds_toArray, List.set_cons_zero, List.set_cons_succ]
  generalize X0.alloc (.cells #[.int .i64 r1, .int .i64 r2] 3) = X1 at *
  generalize X0.heap.size = h1 at *
  refine H_one (i := 11) (by decide +kernel) (H_step rfl rfl (fun K hK11 => ?_))
  have hK11 := Lib.hid hK11
  go_simp
  go_at_call 156
  refine (orI_any (some ⟨h1, 0, none⟩) 2 [r1, r2] X1 hsi.out (by simp)).mono ?_
  rintro e wv ⟨he, rfl⟩
  rw [hRe.out] at he
  subst he
  refine hK11.out _ _ (HSf.out _ HB1.out) ?_
  try simp only [Act.put, List.setIfInBounds_toArray, List.set_cons_zero, List.set_cons_succ]
  refine H_takeD (k := 12) (v := .int .i64 R) (d := some 4) rfl rfl (by decide +kernel) (fun _ _ _ h => h) (Or.inl ⟨by rfl, fun W hW => by obtain ⟨s0, s1, s2, s3⟩ := hW; go_simp⟩) (HSf.out _ HB1.out) ?_
  try simp only [Act.put, List.setIfInBounds_toArray, List.set_cons_zero, List.set_cons_succ]
  refine H_end (by decide +kernel) (NoPanic.normal ?_)
  try simp only [Act.put, List.setIfInBounds_toArray, List.set_cons_zero, List.set_cons_succ]
  have Hb2 := Lib.hid (Hb.out.trans (HB1.out.mono hz0))
  clear HB0 HB1 HSf K1 K2 hsi
  go_wp2_with fail
  go_ret
  exact ⟨rfl, by rw [Hs.out]; exact Hb2.out⟩
end Go.Proofs.YtnapnkmehnabfaaGreat
