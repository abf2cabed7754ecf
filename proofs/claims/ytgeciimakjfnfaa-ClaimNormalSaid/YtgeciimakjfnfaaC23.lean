import Derived.Test.YtgeciimakjfnfaaC1
namespace Go.Proofs.Ytgeciimakjfnfaa
open Go.RowKit Go.Maps

set_option linter.unusedSimpArgs false in
set_option maxHeartbeats 2000000 in
set_option maxRecDepth 100000 in
theorem claimR_any (n : Int) (w : World) (hn : i64 n) :
    Calls Try.prog 10 #[.int .i64 n] w fun e w' => ∃ c : Cl, e = .returned (clV c) ∧ clE c = 0 ∧ Below w.heap.size w w' := by
  have hbd := around_bd n 1073741824 (by decide)
  have HA := Lib.hid (fun W => around_any n 1073741824 W hn.1 hn.2 (by decide) (by decide))
  generalize around n 1073741824 = k at *
  obtain ⟨j, hj⟩ : ∃ j : Nat, k % 5 = (j : Int) := ⟨(k % 5).toNat, by omega⟩
  have hj5 : j < 5 := by omega
  have e1 : k.tmod 5 = (j : Int) := by rw [Int.tmod_eq_emod_of_nonneg (by omega), hj]
  obtain ⟨kd, hkd⟩ : ∃ kd : Int, (0 ≤ kd ∧ kd ≤ 2) ∧ #[Value.int .i64 0, .int .i64 0, .int .i64 0, .int .i64 1, .int .i64 2][j]? = some (.int .i64 kd) := by
    have h : j = 0 ∨ j = 1 ∨ j = 2 ∨ j = 3 ∨ j = 4 := by omega
    rcases h with rfl | rfl | rfl | rfl | rfl
    · exact ⟨0, by decide, rfl⟩
    · exact ⟨0, by decide, rfl⟩
    · exact ⟨0, by decide, rfl⟩
    · exact ⟨1, by decide, rfl⟩
    · exact ⟨2, by decide, rfl⟩
  obtain ⟨a5, ha5⟩ : ∃ z, Hid (k / 5 % 3 = z) := ⟨_, Lib.hid rfl⟩
  obtain ⟨a15, ha15⟩ : ∃ z, Hid (k / 15 % 40 = z) := ⟨_, Lib.hid rfl⟩
  obtain ⟨a600, ha600⟩ : ∃ z, Hid (k / 600 % 3 = z) := ⟨_, Lib.hid rfl⟩
  obtain ⟨a18, ha18⟩ : ∃ z, Hid (k / 1800 % 25 = z) := ⟨_, Lib.hid rfl⟩
  obtain ⟨a7, ha7⟩ : ∃ z, Hid (k / 45000 % 7 = z) := ⟨_, Lib.hid rfl⟩
  obtain ⟨a11, ha11⟩ : ∃ z, Hid (k / 45000 % 11 = z) := ⟨_, Lib.hid rfl⟩
  have e2 : k.tdiv 5 = k / 5 := Int.tdiv_eq_ediv_of_nonneg (by omega)
  have e3 : k.tdiv 15 = k / 15 := Int.tdiv_eq_ediv_of_nonneg (by omega)
  have e4 : k.tdiv 600 = k / 600 := Int.tdiv_eq_ediv_of_nonneg (by omega)
  have e5 : k.tdiv 1800 = k / 1800 := Int.tdiv_eq_ediv_of_nonneg (by omega)
  have e6 : k.tdiv 45000 = k / 45000 := Int.tdiv_eq_ediv_of_nonneg (by omega)
  have f2 : (k / 5).tmod 3 = a5 := by rw [Int.tmod_eq_emod_of_nonneg (by omega), ha5.out]
  have f3 : (k / 15).tmod 40 = a15 := by rw [Int.tmod_eq_emod_of_nonneg (by omega), ha15.out]
  have f4 : (k / 600).tmod 3 = a600 := by rw [Int.tmod_eq_emod_of_nonneg (by omega), ha600.out]
  have f5 : (k / 1800).tmod 25 = a18 := by rw [Int.tmod_eq_emod_of_nonneg (by omega), ha18.out]
  have f6 : (k / 45000).tmod 7 = a7 := by rw [Int.tmod_eq_emod_of_nonneg (by omega), ha7.out]
  have f7 : (k / 45000).tmod 11 = a11 := by rw [Int.tmod_eq_emod_of_nonneg (by omega), ha11.out]
  have r5 : 0 ≤ a5 ∧ a5 ≤ 2 := by have := ha5.out; omega
  have r15 : 0 ≤ a15 ∧ a15 ≤ 39 := by have := ha15.out; omega
  have r600 : 0 ≤ a600 ∧ a600 ≤ 2 := by have := ha600.out; omega
  have r18 : 0 ≤ a18 ∧ a18 ≤ 24 := by have := ha18.out; omega
  have w1 : ∀ z : Int, 0 ≤ z → z ≤ 1073741824 → IntKind.i64.wrap z = z := fun z h1 h2 => IntWalk.i64_in _ ⟨by omega, by omega⟩
  have g1 := w1 (k / 5) (by omega) (by omega)
  have g2 := w1 (k / 15) (by omega) (by omega)
  have g3 := w1 (k / 600) (by omega) (by omega)
  have g4 := w1 (k / 1800) (by omega) (by omega)
  have g5 := w1 (k / 45000) (by omega) (by omega)
  have g6 := w1 a5 (by omega) (by omega)
  have g7 := w1 a15 (by omega) (by omega)
  have g8 := w1 a600 (by omega) (by omega)
  have g9 := w1 a18 (by omega) (by omega)
  have g10 := w1 a7 (by have := ha7.out; omega) (by have := ha7.out; omega)
  have g11 := w1 a11 (by have := ha11.out; omega) (by have := ha11.out; omega)
  have g12 := w1 (100 + a15 + a18) (by omega) (by omega)
  have g13 := w1 (j : Int) (by omega) (by omega)
  have g14 := w1 (100 + a15) (by omega) (by omega)
  have hgl : ∀ h, ([Value.int .i64 0, .int .i64 0, .int .i64 0, .int .i64 1, .int .i64 2] : List Value)[j]'h = .int .i64 kd := fun h => by
    have h2 := hkd.2
    simp only [List.getElem?_toArray] at h2
    rw [List.getElem?_eq_getElem h] at h2
    injection h2
  have HBz := Lib.hid (fun (A B : Array Value) => (((Below.refl w.heap.size w).alloc (Nat.le_refl _) (.cells A 24)).alloc (by simp) (.cells #[.int .i64 0, .int .i64 0, .int .i64 0, .int .i64 1, .int .i64 2] 3)).alloc (by simp; omega) (.cells B 24))
  have hk1 := hkd.1
  clear hj w1
  go_enter Try.func10, Try.ntmps10
  go_wp2_with fail
  refine (HA.out _).mono ?_
  rintro e w1 ⟨rfl, rfl⟩
  go_wp2_with fail
  · exact bodyPost_ret (v := .agg #[.int .i64 kd, .int .i64 a5, .int .i64 (0), .int .i64 (73048), .int .i64 a600]) (by simp [results, Try.results10, go_sem]) rfl ⟨⟨kd, a5, 0, 73048, a600⟩, rfl, clE_iff.2 (by dsimp only; omega), HBz.out _ _⟩
  · exact bodyPost_ret (v := .agg #[.int .i64 kd, .int .i64 a5, .int .i64 (100 + a15), .int .i64 (73048), .int .i64 a600]) (by simp [results, Try.results10, go_sem]) rfl ⟨⟨kd, a5, 100 + a15, 73048, a600⟩, rfl, clE_iff.2 (by dsimp only; omega), HBz.out _ _⟩
  · exact bodyPost_ret (v := .agg #[.int .i64 kd, .int .i64 a5, .int .i64 (0), .int .i64 (100 + a15 + a18), .int .i64 a600]) (by simp [results, Try.results10, go_sem]) rfl ⟨⟨kd, a5, 0, 100 + a15 + a18, a600⟩, rfl, clE_iff.2 (by dsimp only; omega), HBz.out _ _⟩
  · exact bodyPost_ret (v := .agg #[.int .i64 kd, .int .i64 a5, .int .i64 (100 + a15), .int .i64 (100 + a15 + a18), .int .i64 a600]) (by simp [results, Try.results10, go_sem]) rfl ⟨⟨kd, a5, 100 + a15, 100 + a15 + a18, a600⟩, rfl, clE_iff.2 (by dsimp only; omega), HBz.out _ _⟩
theorem pick_list {l : List Value} {m : Nat} (n : Int) (hm : 0 < m) (hl : l.length = m) (hz : ∀ v ∈ l, ∃ z : Int, v = .int .i64 z) : ∃ (j : Nat) (z : Int), around n m = (j : Int) ∧ j < m ∧ (∀ h, l[j]'h = .int .i64 z) ∧ l[j]? = some (.int .i64 z) := by
  have hb := around_bd n m (by omega)
  obtain ⟨j, hj⟩ : ∃ j : Nat, around n m = (j : Int) := ⟨(around n m).toNat, by omega⟩
  have hjl : j < l.length := by omega
  obtain ⟨z, hz2⟩ := hz l[j] (List.getElem_mem hjl)
  exact ⟨j, z, hj, by omega, fun _ => hz2, by rw [List.getElem?_eq_getElem hjl, hz2]⟩
set_option linter.unusedSimpArgs false in
set_option maxHeartbeats 4000000 in
set_option maxRecDepth 100000 in
theorem spoiltC_any (k o f t d how by_ : Int) (w : World) (hh : i64 how) (hb : i64 by_) :
    Calls Try.prog 11 #[.agg #[.int .i64 k, .int .i64 o, .int .i64 f, .int .i64 t, .int .i64 d], .int .i64 how, .int .i64 by_] w fun e w' => ∃ c : Cl, e = .returned (clV c) ∧ Below w.heap.size w w' := by
  have hbd := around_bd how 5 (by decide)
  have HA := Lib.hid (fun W => around_any how 5 W hh.1 hh.2 (by decide) (by decide))
  have HA3 := Lib.hid (fun W => around_any by_ 3 W hb.1 hb.2 (by decide) (by decide))
  have HA4 := Lib.hid (fun W => around_any by_ 4 W hb.1 hb.2 (by decide) (by decide))
  generalize around how 5 = r at *
  have hr : r = 0 ∨ r = 1 ∨ r = 2 ∨ r = 3 ∨ r = 4 := by omega
  have HBz := Lib.hid (fun (A B C : Array Value) => (((Below.refl w.heap.size w).alloc (Nat.le_refl _) (.cells A 24)).alloc (by simp) (.cells B 24)).alloc (by simp; omega) (.cells C 3))
  clear hbd hh hb
  rcases hr with rfl | rfl | rfl | rfl | rfl
  · obtain ⟨j, z, hj, hjm, hgl, _⟩ := pick_list (l := [.int .i64 by_, .int .i64 (-1), .int .i64 3]) by_ (m := 3) (by decide) rfl (by intro v hv; simp at hv; rcases hv with rfl | rfl | rfl <;> exact ⟨_, rfl⟩)
    have HA3' := Lib.hid (fun W => show Calls Try.prog 26 #[.int .i64 by_, .int .i64 3] W fun e w' => e = .returned (.int .i64 (j : Int)) ∧ W = w' from by have h := HA3.out W; rw [show around by_ 3 = (j : Int) from hj] at h; exact h)
    clear hj
    go_enter Try.func11, Try.ntmps11
    go_wp2_with fail
    refine (HA.out _).mono ?_
    rintro e w1 ⟨rfl, rfl⟩
    go_wp2_with fail
    refine (HA3'.out _).mono ?_
    rintro e w1 ⟨rfl, rfl⟩
    go_wp2_with fail
    exact bodyPost_ret (v := .agg #[.int .i64 z, .int .i64 o, .int .i64 f, .int .i64 t, .int .i64 d]) (by simp [results, Try.results11, go_sem]) rfl ⟨⟨z, o, f, t, d⟩, rfl, HBz.out _ _ _⟩
  · obtain ⟨j, z, hj, hjm, hgl, _⟩ := pick_list (l := [.int .i64 by_, .int .i64 (-1), .int .i64 63, .int .i64 64]) by_ (m := 4) (by decide) rfl (by intro v hv; simp at hv; rcases hv with rfl | rfl | rfl | rfl <;> exact ⟨_, rfl⟩)
    have HA4' := Lib.hid (fun W => show Calls Try.prog 26 #[.int .i64 by_, .int .i64 4] W fun e w' => e = .returned (.int .i64 (j : Int)) ∧ W = w' from by have h := HA4.out W; rw [show around by_ 4 = (j : Int) from hj] at h; exact h)
    clear hj
    go_enter Try.func11, Try.ntmps11
    go_wp2_with fail
    refine (HA.out _).mono ?_
    rintro e w1 ⟨rfl, rfl⟩
    go_wp2_with fail
    refine (HA4'.out _).mono ?_
    rintro e w1 ⟨rfl, rfl⟩
    go_wp2_with fail
    exact bodyPost_ret (v := .agg #[.int .i64 k, .int .i64 z, .int .i64 f, .int .i64 t, .int .i64 d]) (by simp [results, Try.results11, go_sem]) rfl ⟨⟨k, z, f, t, d⟩, rfl, HBz.out _ _ _⟩
  · obtain ⟨y, hy⟩ : ∃ y, Hid (IntKind.i64.wrap (t + 1) = y) := ⟨_, Lib.hid rfl⟩
    have hyw := hy.out
    obtain ⟨j, z, hj, hjm, hgl, hgl2⟩ := pick_list (l := [.int .i64 by_, .int .i64 (-1), .int .i64 y, .int .i64 t]) by_ (m := 4) (by decide) rfl (by intro v hv; simp at hv; rcases hv with rfl | rfl | rfl | rfl <;> exact ⟨_, rfl⟩)
    have HA4' := Lib.hid (fun W => show Calls Try.prog 26 #[.int .i64 by_, .int .i64 4] W fun e w' => e = .returned (.int .i64 (j : Int)) ∧ W = w' from by have h := HA4.out W; rw [show around by_ 4 = (j : Int) from hj] at h; exact h)
    clear hj
    have hnj : ¬ (4 ≤ (j : Int)) := by omega
    go_enter Try.func11, Try.ntmps11
    go_upto_region 8 with (refine (HA.out _).mono ?_; rintro e w1 ⟨rfl, rfl⟩)
    have HB0 := Lib.hid ((((Below.refl w.heap.size w).alloc (Nat.le_refl _) (.cells #[.int .i64 k, .int .i64 o, .int .i64 f, .int .i64 t, .int .i64 d] 24)).alloc (by simp) (.cells #[.int .i64 0, .int .i64 0, .int .i64 0, .int .i64 0, .int .i64 0] 24)).drew)
    have HK0 := Lib.hid (show Bk (((w.alloc (.cells #[.int .i64 k, .int .i64 o, .int .i64 f, .int .i64 t, .int .i64 d] 24)).alloc (.cells #[.int .i64 0, .int .i64 0, .int .i64 0, .int .i64 0, .int .i64 0] 24)).drew) w.heap.size 24 #[.int .i64 k, .int .i64 o, .int .i64 f, .int .i64 t, .int .i64 d] from (Bk.new w _ _).alloc _)
    have HZ0 := Lib.hid (show Bk (((w.alloc (.cells #[.int .i64 k, .int .i64 o, .int .i64 f, .int .i64 t, .int .i64 d] 24)).alloc (.cells #[.int .i64 0, .int .i64 0, .int .i64 0, .int .i64 0, .int .i64 0] 24)).drew) (w.heap.size + 1) 24 #[.int .i64 0, .int .i64 0, .int .i64 0, .int .i64 0, .int .i64 0] from Bk.new' _ _ _ (by simp))
    generalize hbb : w.heap.size = b at *
    have Hbb := Lib.hid hbb
    clear hbb
    refine wp_region_noPanic ?_
    refine region_H (S := fun W => W.cell? ⟨b, 3, none⟩ = some (.int .i64 t)) (by kernel_rfl) ?_
    change wpH _ _ _ _ 13 _ _ ((w.alloc (.cells #[.int .i64 k, .int .i64 o, .int .i64 f, .int .i64 t, .int .i64 d] 24)).alloc (.cells #[.int .i64 0, .int .i64 0, .int .i64 0, .int .i64 0, .int .i64 0] 24)).drew
    generalize ((w.alloc (.cells #[.int .i64 k, .int .i64 o, .int .i64 f, .int .i64 t, .int .i64 d] 24)).alloc (.cells #[.int .i64 0, .int .i64 0, .int .i64 0, .int .i64 0, .int .i64 0] 24)).drew = X0 at *
    refine H_takeD (k := 0) (v := .int .i64 by_) (d := some 36) rfl rfl (by decide +kernel) (fun _ _ _ h => h) (Or.inl ⟨by rfl, fun W hW => by have s0 := hW; go_simp⟩) (HK0.out.cell 3) ?_
    try simp only [Act.put, List.setIfInBounds_toArray, List.set_cons_zero, List.set_cons_succ]
    refine H_takeD (k := 1) (v := .pointer (some ⟨b, 3, none⟩)) (d := some 37) rfl rfl (by decide +kernel) (fun _ _ _ h => h) (Or.inl ⟨by rfl, fun W hW => by have s0 := hW; go_simp⟩) (HK0.out.cell 3) ?_
    try simp only [Act.put, List.setIfInBounds_toArray, List.set_cons_zero, List.set_cons_succ]
    refine H_takeD (k := 2) (v := .int .i64 t) (d := some 38) rfl rfl (by decide +kernel) (fun _ _ _ h => h) (Or.inl ⟨by rfl, fun W hW => by have s0 := hW; go_simp⟩) (HK0.out.cell 3) ?_
    try simp only [Act.put, List.setIfInBounds_toArray, List.set_cons_zero, List.set_cons_succ]
    refine H_takeD (k := 3) (v := .int .i64 y) (d := some 39) rfl rfl (by decide +kernel) (fun _ _ _ h => h) (Or.inl ⟨by rfl, fun W hW => by have s0 := hW; go_simp⟩) (HK0.out.cell 3) ?_
    try simp only [Act.put, List.setIfInBounds_toArray, List.set_cons_zero, List.set_cons_succ]
    refine H_takeD (k := 4) (v := .pointer (some ⟨b, 3, none⟩)) (d := some 40) rfl rfl (by decide +kernel) (fun _ _ _ h => h) (Or.inl ⟨by rfl, fun W hW => by have s0 := hW; go_simp⟩) (HK0.out.cell 3) ?_
    try simp only [Act.put, List.setIfInBounds_toArray, List.set_cons_zero, List.set_cons_succ]
    refine H_takeD (k := 5) (v := .int .i64 t) (d := some 41) rfl rfl (by decide +kernel) (fun _ _ _ h => h) (Or.inl ⟨by rfl, fun W hW => by have s0 := hW; go_simp⟩) (HK0.out.cell 3) ?_
    try simp only [Act.put, List.setIfInBounds_toArray, List.set_cons_zero, List.set_cons_succ]
    refine H_takeD (k := 7) (v := .int .i64 by_) (d := some 43) rfl rfl (by decide +kernel) (fun _ _ _ h => h) (Or.inl ⟨by rfl, fun W hW => by have s0 := hW; go_simp⟩) (HK0.out.cell 3) ?_
    try simp only [Act.put, List.setIfInBounds_toArray, List.set_cons_zero, List.set_cons_succ]
    refine H_two (i := 6) (j := 8) (by decide +kernel) (H_step rfl rfl (fun K hK7 => ?_)) (H_step rfl rfl (fun K hK7 => ?_))
    · have hK7 := Lib.hid hK7
      go_simp
      have HK1 := Lib.hid (HK0.out.alloc (.cells #[.int .i64 by_, .int .i64 (-1), .int .i64 y, .int .i64 t] 3))
      have HZ1 := Lib.hid (HZ0.out.alloc (.cells #[.int .i64 by_, .int .i64 (-1), .int .i64 y, .int .i64 t] 3))
      have HB1 := Lib.hid (HB0.out.alloc (Hbb.out ▸ HB0.out.size) (.cells #[.int .i64 by_, .int .i64 (-1), .int .i64 y, .int .i64 t] 3))
      refine hK7.out _ _ (HK1.out.cell 3) ?_
      try simp only [Act.put, List.setIfInBounds_toArray, List.set_cons_zero, List.set_cons_succ]
      refine H_one (i := 8) (by decide +kernel) (H_step rfl rfl (fun K hK8 => ?_))
      have hK8 := Lib.hid hK8
      go_simp
      go_at_call 26
      refine (HA4'.out _).mono ?_
      rintro e wv ⟨rfl, rfl⟩
      refine hK8.out _ _ (HK1.out.cell 3) ?_
      try simp only [Act.put, List.setIfInBounds_toArray, List.set_cons_zero, List.set_cons_succ]
      refine H_takeD (k := 9) (v := .pointer (some ⟨X0.heap.size, j, none⟩)) (d := some 45) rfl rfl (by decide +kernel) (fun _ _ _ h => h) (Or.inl ⟨by rfl, fun W hW => by have s0 := hW; go_simp⟩) (HK1.out.cell 3) ?_
      try simp only [Act.put, List.setIfInBounds_toArray, List.set_cons_zero, List.set_cons_succ]
      refine H_one (i := 10) (by decide +kernel) (H_step rfl rfl (fun K hK10 => ?_))
      have hK10 := Lib.hid hK10
      go_simp
      refine hK10.out _ _ (HK1.out.cell 3) ?_
      try simp only [Act.put, List.setIfInBounds_toArray, List.set_cons_zero, List.set_cons_succ]
      refine H_takeD (k := 11) (v := .pointer (some ⟨b, 2, none⟩)) (d := some 47) rfl rfl (by decide +kernel) (fun _ _ _ h => h) (Or.inl ⟨by rfl, fun W hW => by have s0 := hW; go_simp⟩) (HK1.out.cell 3) ?_
      try simp only [Act.put, List.setIfInBounds_toArray, List.set_cons_zero, List.set_cons_succ]
      refine H_one (i := 12) (by decide +kernel) (H_step rfl rfl (fun K hK12 => ?_))
      have hK12 := Lib.hid hK12
      go_simp
      have d0 := HK1.out.frozen 2
      have d1 : (X0.alloc (.cells #[.int .i64 by_, .int .i64 (-1), .int .i64 y, .int .i64 t] 3)).cell? ⟨b, 2, none⟩ = some (.int .i64 f) := HK1.out.cell 2
      go_simp
      have HK2 := Lib.hid (show Bk ((X0.alloc (.cells #[.int .i64 by_, .int .i64 (-1), .int .i64 y, .int .i64 t] 3)).setCell ⟨b, 2, none⟩ (.int .i64 z)) b 24 #[.int .i64 k, .int .i64 o, .int .i64 z, .int .i64 t, .int .i64 d] from HK1.out.set_ 2 _)
      have HZ2 := Lib.hid (HZ1.out.far (p := ⟨b, 2, none⟩) (by show b + 1 ≠ b; omega) (.int .i64 z))
      have HB2 := Lib.hid (HB1.out.setCell (p := ⟨b, 2, none⟩) (by show b ≤ b; omega) (.int .i64 z))
      refine hK12.out _ _ (HK2.out.cell 3) ?_
      try simp only [Act.put, List.setIfInBounds_toArray, List.set_cons_zero, List.set_cons_succ]
      refine H_end (by decide +kernel) (NoPanic.normal ?_)
      try simp only [Act.put, List.setIfInBounds_toArray, List.set_cons_zero, List.set_cons_succ]
      generalize (X0.alloc (.cells #[.int .i64 by_, .int .i64 (-1), .int .i64 y, .int .i64 t] 3)).setCell ⟨b, 2, none⟩ (.int .i64 z) = X3 at *
      have k0 : X3.cell? ⟨b, 0, none⟩ = some (.int .i64 k) := HK2.out.cell 0
      have k1 : X3.cell? ⟨b, 1, none⟩ = some (.int .i64 o) := HK2.out.cell 1
      have k2 : X3.cell? ⟨b, 2, none⟩ = some (.int .i64 z) := HK2.out.cell 2
      have k3 : X3.cell? ⟨b, 3, none⟩ = some (.int .i64 t) := HK2.out.cell 3
      have k4 : X3.cell? ⟨b, 4, none⟩ = some (.int .i64 d) := HK2.out.cell 4
      have z0 : X3.cell? ⟨b + 1, 0, none⟩ = some (.int .i64 0) := HZ2.out.cell 0
      have z1 : X3.cell? ⟨b + 1, 1, none⟩ = some (.int .i64 0) := HZ2.out.cell 1
      have z2 : X3.cell? ⟨b + 1, 2, none⟩ = some (.int .i64 0) := HZ2.out.cell 2
      have z3 : X3.cell? ⟨b + 1, 3, none⟩ = some (.int .i64 0) := HZ2.out.cell 3
      have z4 : X3.cell? ⟨b + 1, 4, none⟩ = some (.int .i64 0) := HZ2.out.cell 4
      have q0 := HZ2.out.frozen 0
      have q1 := HZ2.out.frozen 1
      have q2 := HZ2.out.frozen 2
      have q3 := HZ2.out.frozen 3
      have q4 := HZ2.out.frozen 4
      have HZa0 := HZ2.out
      have HZa1 := HZa0.set_ 0 (.int .i64 k)
      have HZa2 := HZa1.set_ 1 (.int .i64 o)
      have HZa3 := HZa2.set_ 2 (.int .i64 z)
      have HZa4 := HZa3.set_ 3 (.int .i64 t)
      have HZa5 := HZa4.set_ 4 (.int .i64 d)
      have HZz := Lib.hid (show Bk _ (b + 1) 24 #[.int .i64 k, .int .i64 o, .int .i64 z, .int .i64 t, .int .i64 d] from HZa5)
      have HBa0 := HB2.out
      have HBa1 := HBa0.setCell (p := ⟨b + 1, 0, none⟩) (by show b ≤ b + 1; omega) (.int .i64 k)
      have HBa2 := HBa1.setCell (p := ⟨b + 1, 1, none⟩) (by show b ≤ b + 1; omega) (.int .i64 o)
      have HBa3 := HBa2.setCell (p := ⟨b + 1, 2, none⟩) (by show b ≤ b + 1; omega) (.int .i64 z)
      have HBa4 := HBa3.setCell (p := ⟨b + 1, 3, none⟩) (by show b ≤ b + 1; omega) (.int .i64 t)
      have HBa5 := HBa4.setCell (p := ⟨b + 1, 4, none⟩) (by show b ≤ b + 1; omega) (.int .i64 d)
      have HBf := Lib.hid HBa5
      clear HZa0 HZa1 HZa2 HZa3 HZa4 HZa5 HBa0 HBa1 HBa2 HBa3 HBa4 HBa5
      go_wp2_with fail
      have r0 := HZz.out.cell 0
      have r1 := HZz.out.cell 1
      have r2 := HZz.out.cell 2
      have r3 := HZz.out.cell 3
      have r4 := HZz.out.cell 4
      simp only [List.getElem?_toArray, List.getElem?_cons_zero, List.getElem?_cons_succ] at r0 r1 r2 r3 r4
      exact bodyPost_ret (v := .agg #[.int .i64 k, .int .i64 o, .int .i64 z, .int .i64 t, .int .i64 d]) (by simp [results, Try.results11, go_sem, r0, r1, r2, r3, r4]) rfl ⟨⟨k, o, z, t, d⟩, rfl, by rw [Hbb.out]; exact HBf.out⟩
    · have hK7 := Lib.hid hK7
      go_simp
      go_at_call 26
      refine (HA4'.out _).mono ?_
      rintro e wv ⟨rfl, rfl⟩
      refine hK7.out _ _ (HK0.out.cell 3) ?_
      try simp only [Act.put, List.setIfInBounds_toArray, List.set_cons_zero, List.set_cons_succ]
      refine H_one (i := 6) (by decide +kernel) (H_step rfl rfl (fun K hK8 => ?_))
      have hK8 := Lib.hid hK8
      go_simp
      have HK1 := Lib.hid (HK0.out.alloc (.cells #[.int .i64 by_, .int .i64 (-1), .int .i64 y, .int .i64 t] 3))
      have HZ1 := Lib.hid (HZ0.out.alloc (.cells #[.int .i64 by_, .int .i64 (-1), .int .i64 y, .int .i64 t] 3))
      have HB1 := Lib.hid (HB0.out.alloc (Hbb.out ▸ HB0.out.size) (.cells #[.int .i64 by_, .int .i64 (-1), .int .i64 y, .int .i64 t] 3))
      refine hK8.out _ _ (HK1.out.cell 3) ?_
      try simp only [Act.put, List.setIfInBounds_toArray, List.set_cons_zero, List.set_cons_succ]
      refine H_takeD (k := 9) (v := .pointer (some ⟨X0.heap.size, j, none⟩)) (d := some 45) rfl rfl (by decide +kernel) (fun _ _ _ h => h) (Or.inl ⟨by rfl, fun W hW => by have s0 := hW; go_simp⟩) (HK1.out.cell 3) ?_
      try simp only [Act.put, List.setIfInBounds_toArray, List.set_cons_zero, List.set_cons_succ]
      refine H_one (i := 10) (by decide +kernel) (H_step rfl rfl (fun K hK10 => ?_))
      have hK10 := Lib.hid hK10
      go_simp
      refine hK10.out _ _ (HK1.out.cell 3) ?_
      try simp only [Act.put, List.setIfInBounds_toArray, List.set_cons_zero, List.set_cons_succ]
      refine H_takeD (k := 11) (v := .pointer (some ⟨b, 2, none⟩)) (d := some 47) rfl rfl (by decide +kernel) (fun _ _ _ h => h) (Or.inl ⟨by rfl, fun W hW => by have s0 := hW; go_simp⟩) (HK1.out.cell 3) ?_
      try simp only [Act.put, List.setIfInBounds_toArray, List.set_cons_zero, List.set_cons_succ]
      refine H_one (i := 12) (by decide +kernel) (H_step rfl rfl (fun K hK12 => ?_))
      have hK12 := Lib.hid hK12
      go_simp
      have d0 := HK1.out.frozen 2
      have d1 : (X0.alloc (.cells #[.int .i64 by_, .int .i64 (-1), .int .i64 y, .int .i64 t] 3)).cell? ⟨b, 2, none⟩ = some (.int .i64 f) := HK1.out.cell 2
      go_simp
      have HK2 := Lib.hid (show Bk ((X0.alloc (.cells #[.int .i64 by_, .int .i64 (-1), .int .i64 y, .int .i64 t] 3)).setCell ⟨b, 2, none⟩ (.int .i64 z)) b 24 #[.int .i64 k, .int .i64 o, .int .i64 z, .int .i64 t, .int .i64 d] from HK1.out.set_ 2 _)
      have HZ2 := Lib.hid (HZ1.out.far (p := ⟨b, 2, none⟩) (by show b + 1 ≠ b; omega) (.int .i64 z))
      have HB2 := Lib.hid (HB1.out.setCell (p := ⟨b, 2, none⟩) (by show b ≤ b; omega) (.int .i64 z))
      refine hK12.out _ _ (HK2.out.cell 3) ?_
      try simp only [Act.put, List.setIfInBounds_toArray, List.set_cons_zero, List.set_cons_succ]
      refine H_end (by decide +kernel) (NoPanic.normal ?_)
      try simp only [Act.put, List.setIfInBounds_toArray, List.set_cons_zero, List.set_cons_succ]
      generalize (X0.alloc (.cells #[.int .i64 by_, .int .i64 (-1), .int .i64 y, .int .i64 t] 3)).setCell ⟨b, 2, none⟩ (.int .i64 z) = X3 at *
      have k0 : X3.cell? ⟨b, 0, none⟩ = some (.int .i64 k) := HK2.out.cell 0
      have k1 : X3.cell? ⟨b, 1, none⟩ = some (.int .i64 o) := HK2.out.cell 1
      have k2 : X3.cell? ⟨b, 2, none⟩ = some (.int .i64 z) := HK2.out.cell 2
      have k3 : X3.cell? ⟨b, 3, none⟩ = some (.int .i64 t) := HK2.out.cell 3
      have k4 : X3.cell? ⟨b, 4, none⟩ = some (.int .i64 d) := HK2.out.cell 4
      have z0 : X3.cell? ⟨b + 1, 0, none⟩ = some (.int .i64 0) := HZ2.out.cell 0
      have z1 : X3.cell? ⟨b + 1, 1, none⟩ = some (.int .i64 0) := HZ2.out.cell 1
      have z2 : X3.cell? ⟨b + 1, 2, none⟩ = some (.int .i64 0) := HZ2.out.cell 2
      have z3 : X3.cell? ⟨b + 1, 3, none⟩ = some (.int .i64 0) := HZ2.out.cell 3
      have z4 : X3.cell? ⟨b + 1, 4, none⟩ = some (.int .i64 0) := HZ2.out.cell 4
      have q0 := HZ2.out.frozen 0
      have q1 := HZ2.out.frozen 1
      have q2 := HZ2.out.frozen 2
      have q3 := HZ2.out.frozen 3
      have q4 := HZ2.out.frozen 4
      have HZa0 := HZ2.out
      have HZa1 := HZa0.set_ 0 (.int .i64 k)
      have HZa2 := HZa1.set_ 1 (.int .i64 o)
      have HZa3 := HZa2.set_ 2 (.int .i64 z)
      have HZa4 := HZa3.set_ 3 (.int .i64 t)
      have HZa5 := HZa4.set_ 4 (.int .i64 d)
      have HZz := Lib.hid (show Bk _ (b + 1) 24 #[.int .i64 k, .int .i64 o, .int .i64 z, .int .i64 t, .int .i64 d] from HZa5)
      have HBa0 := HB2.out
      have HBa1 := HBa0.setCell (p := ⟨b + 1, 0, none⟩) (by show b ≤ b + 1; omega) (.int .i64 k)
      have HBa2 := HBa1.setCell (p := ⟨b + 1, 1, none⟩) (by show b ≤ b + 1; omega) (.int .i64 o)
      have HBa3 := HBa2.setCell (p := ⟨b + 1, 2, none⟩) (by show b ≤ b + 1; omega) (.int .i64 z)
      have HBa4 := HBa3.setCell (p := ⟨b + 1, 3, none⟩) (by show b ≤ b + 1; omega) (.int .i64 t)
      have HBa5 := HBa4.setCell (p := ⟨b + 1, 4, none⟩) (by show b ≤ b + 1; omega) (.int .i64 d)
      have HBf := Lib.hid HBa5
      clear HZa0 HZa1 HZa2 HZa3 HZa4 HZa5 HBa0 HBa1 HBa2 HBa3 HBa4 HBa5
      go_wp2_with fail
      have r0 := HZz.out.cell 0
      have r1 := HZz.out.cell 1
      have r2 := HZz.out.cell 2
      have r3 := HZz.out.cell 3
      have r4 := HZz.out.cell 4
      simp only [List.getElem?_toArray, List.getElem?_cons_zero, List.getElem?_cons_succ] at r0 r1 r2 r3 r4
      exact bodyPost_ret (v := .agg #[.int .i64 k, .int .i64 o, .int .i64 z, .int .i64 t, .int .i64 d]) (by simp [results, Try.results11, go_sem, r0, r1, r2, r3, r4]) rfl ⟨⟨k, o, z, t, d⟩, rfl, by rw [Hbb.out]; exact HBf.out⟩
  · obtain ⟨y, hy⟩ : ∃ y, Hid (IntKind.i64.wrap (f - 1) = y) := ⟨_, Lib.hid rfl⟩
    have hyw := hy.out
    obtain ⟨j, z, hj, hjm, hgl, hgl2⟩ := pick_list (l := [.int .i64 by_, .int .i64 73048, .int .i64 73049, .int .i64 y]) by_ (m := 4) (by decide) rfl (by intro v hv; simp at hv; rcases hv with rfl | rfl | rfl | rfl <;> exact ⟨_, rfl⟩)
    have HA4' := Lib.hid (fun W => show Calls Try.prog 26 #[.int .i64 by_, .int .i64 4] W fun e w' => e = .returned (.int .i64 (j : Int)) ∧ W = w' from by have h := HA4.out W; rw [show around by_ 4 = (j : Int) from hj] at h; exact h)
    clear hj
    have hnj : ¬ (4 ≤ (j : Int)) := by omega
    go_enter Try.func11, Try.ntmps11
    go_upto_region 10 with (refine (HA.out _).mono ?_; rintro e w1 ⟨rfl, rfl⟩)
    have HB0 := Lib.hid ((((Below.refl w.heap.size w).alloc (Nat.le_refl _) (.cells #[.int .i64 k, .int .i64 o, .int .i64 f, .int .i64 t, .int .i64 d] 24)).alloc (by simp) (.cells #[.int .i64 0, .int .i64 0, .int .i64 0, .int .i64 0, .int .i64 0] 24)).drew)
    have HK0 := Lib.hid (show Bk (((w.alloc (.cells #[.int .i64 k, .int .i64 o, .int .i64 f, .int .i64 t, .int .i64 d] 24)).alloc (.cells #[.int .i64 0, .int .i64 0, .int .i64 0, .int .i64 0, .int .i64 0] 24)).drew) w.heap.size 24 #[.int .i64 k, .int .i64 o, .int .i64 f, .int .i64 t, .int .i64 d] from (Bk.new w _ _).alloc _)
    have HZ0 := Lib.hid (show Bk (((w.alloc (.cells #[.int .i64 k, .int .i64 o, .int .i64 f, .int .i64 t, .int .i64 d] 24)).alloc (.cells #[.int .i64 0, .int .i64 0, .int .i64 0, .int .i64 0, .int .i64 0] 24)).drew) (w.heap.size + 1) 24 #[.int .i64 0, .int .i64 0, .int .i64 0, .int .i64 0, .int .i64 0] from Bk.new' _ _ _ (by simp))
    generalize hbb : w.heap.size = b at *
    have Hbb := Lib.hid hbb
    clear hbb
    refine wp_region_noPanic ?_
    refine region_H (S := fun W => W.cell? ⟨b, 2, none⟩ = some (.int .i64 f)) (by kernel_rfl) ?_
    change wpH _ _ _ _ 11 _ _ ((w.alloc (.cells #[.int .i64 k, .int .i64 o, .int .i64 f, .int .i64 t, .int .i64 d] 24)).alloc (.cells #[.int .i64 0, .int .i64 0, .int .i64 0, .int .i64 0, .int .i64 0] 24)).drew
    generalize ((w.alloc (.cells #[.int .i64 k, .int .i64 o, .int .i64 f, .int .i64 t, .int .i64 d] 24)).alloc (.cells #[.int .i64 0, .int .i64 0, .int .i64 0, .int .i64 0, .int .i64 0] 24)).drew = X0 at *
    refine H_takeD (k := 0) (v := .int .i64 by_) (d := some 50) rfl rfl (by decide +kernel) (fun _ _ _ h => h) (Or.inl ⟨by rfl, fun W hW => by have s0 := hW; go_simp⟩) (HK0.out.cell 2) ?_
    try simp only [Act.put, List.setIfInBounds_toArray, List.set_cons_zero, List.set_cons_succ]
    refine H_takeD (k := 1) (v := .pointer (some ⟨b, 2, none⟩)) (d := some 51) rfl rfl (by decide +kernel) (fun _ _ _ h => h) (Or.inl ⟨by rfl, fun W hW => by have s0 := hW; go_simp⟩) (HK0.out.cell 2) ?_
    try simp only [Act.put, List.setIfInBounds_toArray, List.set_cons_zero, List.set_cons_succ]
    refine H_takeD (k := 2) (v := .int .i64 f) (d := some 52) rfl rfl (by decide +kernel) (fun _ _ _ h => h) (Or.inl ⟨by rfl, fun W hW => by have s0 := hW; go_simp⟩) (HK0.out.cell 2) ?_
    try simp only [Act.put, List.setIfInBounds_toArray, List.set_cons_zero, List.set_cons_succ]
    refine H_takeD (k := 3) (v := .int .i64 y) (d := some 53) rfl rfl (by decide +kernel) (fun _ _ _ h => h) (Or.inl ⟨by rfl, fun W hW => by have s0 := hW; go_simp⟩) (HK0.out.cell 2) ?_
    try simp only [Act.put, List.setIfInBounds_toArray, List.set_cons_zero, List.set_cons_succ]
    refine H_takeD (k := 5) (v := .int .i64 by_) (d := some 55) rfl rfl (by decide +kernel) (fun _ _ _ h => h) (Or.inl ⟨by rfl, fun W hW => by have s0 := hW; go_simp⟩) (HK0.out.cell 2) ?_
    try simp only [Act.put, List.setIfInBounds_toArray, List.set_cons_zero, List.set_cons_succ]
    refine H_two (i := 4) (j := 6) (by decide +kernel) (H_step rfl rfl (fun K hK5 => ?_)) (H_step rfl rfl (fun K hK5 => ?_))
    · have hK5 := Lib.hid hK5
      go_simp
      have HK1 := Lib.hid (HK0.out.alloc (.cells #[.int .i64 by_, .int .i64 73048, .int .i64 73049, .int .i64 y] 3))
      have HZ1 := Lib.hid (HZ0.out.alloc (.cells #[.int .i64 by_, .int .i64 73048, .int .i64 73049, .int .i64 y] 3))
      have HB1 := Lib.hid (HB0.out.alloc (Hbb.out ▸ HB0.out.size) (.cells #[.int .i64 by_, .int .i64 73048, .int .i64 73049, .int .i64 y] 3))
      refine hK5.out _ _ (HK1.out.cell 2) ?_
      try simp only [Act.put, List.setIfInBounds_toArray, List.set_cons_zero, List.set_cons_succ]
      refine H_one (i := 6) (by decide +kernel) (H_step rfl rfl (fun K hK6 => ?_))
      have hK6 := Lib.hid hK6
      go_simp
      go_at_call 26
      refine (HA4'.out _).mono ?_
      rintro e wv ⟨rfl, rfl⟩
      refine hK6.out _ _ (HK1.out.cell 2) ?_
      try simp only [Act.put, List.setIfInBounds_toArray, List.set_cons_zero, List.set_cons_succ]
      refine H_takeD (k := 7) (v := .pointer (some ⟨X0.heap.size, j, none⟩)) (d := some 57) rfl rfl (by decide +kernel) (fun _ _ _ h => h) (Or.inl ⟨by rfl, fun W hW => by have s0 := hW; go_simp⟩) (HK1.out.cell 2) ?_
      try simp only [Act.put, List.setIfInBounds_toArray, List.set_cons_zero, List.set_cons_succ]
      refine H_one (i := 8) (by decide +kernel) (H_step rfl rfl (fun K hK8 => ?_))
      have hK8 := Lib.hid hK8
      go_simp
      refine hK8.out _ _ (HK1.out.cell 2) ?_
      try simp only [Act.put, List.setIfInBounds_toArray, List.set_cons_zero, List.set_cons_succ]
      refine H_takeD (k := 9) (v := .pointer (some ⟨b, 3, none⟩)) (d := some 59) rfl rfl (by decide +kernel) (fun _ _ _ h => h) (Or.inl ⟨by rfl, fun W hW => by have s0 := hW; go_simp⟩) (HK1.out.cell 2) ?_
      try simp only [Act.put, List.setIfInBounds_toArray, List.set_cons_zero, List.set_cons_succ]
      refine H_one (i := 10) (by decide +kernel) (H_step rfl rfl (fun K hK10 => ?_))
      have hK10 := Lib.hid hK10
      go_simp
      have d0 := HK1.out.frozen 3
      have d1 : (X0.alloc (.cells #[.int .i64 by_, .int .i64 73048, .int .i64 73049, .int .i64 y] 3)).cell? ⟨b, 3, none⟩ = some (.int .i64 t) := HK1.out.cell 3
      go_simp
      have HK2 := Lib.hid (show Bk ((X0.alloc (.cells #[.int .i64 by_, .int .i64 73048, .int .i64 73049, .int .i64 y] 3)).setCell ⟨b, 3, none⟩ (.int .i64 z)) b 24 #[.int .i64 k, .int .i64 o, .int .i64 f, .int .i64 z, .int .i64 d] from HK1.out.set_ 3 _)
      have HZ2 := Lib.hid (HZ1.out.far (p := ⟨b, 3, none⟩) (by show b + 1 ≠ b; omega) (.int .i64 z))
      have HB2 := Lib.hid (HB1.out.setCell (p := ⟨b, 3, none⟩) (by show b ≤ b; omega) (.int .i64 z))
      refine hK10.out _ _ (HK2.out.cell 2) ?_
      try simp only [Act.put, List.setIfInBounds_toArray, List.set_cons_zero, List.set_cons_succ]
      refine H_end (by decide +kernel) (NoPanic.normal ?_)
      try simp only [Act.put, List.setIfInBounds_toArray, List.set_cons_zero, List.set_cons_succ]
      generalize (X0.alloc (.cells #[.int .i64 by_, .int .i64 73048, .int .i64 73049, .int .i64 y] 3)).setCell ⟨b, 3, none⟩ (.int .i64 z) = X3 at *
      have k0 : X3.cell? ⟨b, 0, none⟩ = some (.int .i64 k) := HK2.out.cell 0
      have k1 : X3.cell? ⟨b, 1, none⟩ = some (.int .i64 o) := HK2.out.cell 1
      have k2 : X3.cell? ⟨b, 2, none⟩ = some (.int .i64 f) := HK2.out.cell 2
      have k3 : X3.cell? ⟨b, 3, none⟩ = some (.int .i64 z) := HK2.out.cell 3
      have k4 : X3.cell? ⟨b, 4, none⟩ = some (.int .i64 d) := HK2.out.cell 4
      have z0 : X3.cell? ⟨b + 1, 0, none⟩ = some (.int .i64 0) := HZ2.out.cell 0
      have z1 : X3.cell? ⟨b + 1, 1, none⟩ = some (.int .i64 0) := HZ2.out.cell 1
      have z2 : X3.cell? ⟨b + 1, 2, none⟩ = some (.int .i64 0) := HZ2.out.cell 2
      have z3 : X3.cell? ⟨b + 1, 3, none⟩ = some (.int .i64 0) := HZ2.out.cell 3
      have z4 : X3.cell? ⟨b + 1, 4, none⟩ = some (.int .i64 0) := HZ2.out.cell 4
      have q0 := HZ2.out.frozen 0
      have q1 := HZ2.out.frozen 1
      have q2 := HZ2.out.frozen 2
      have q3 := HZ2.out.frozen 3
      have q4 := HZ2.out.frozen 4
      have HZa0 := HZ2.out
      have HZa1 := HZa0.set_ 0 (.int .i64 k)
      have HZa2 := HZa1.set_ 1 (.int .i64 o)
      have HZa3 := HZa2.set_ 2 (.int .i64 f)
      have HZa4 := HZa3.set_ 3 (.int .i64 z)
      have HZa5 := HZa4.set_ 4 (.int .i64 d)
      have HZz := Lib.hid (show Bk _ (b + 1) 24 #[.int .i64 k, .int .i64 o, .int .i64 f, .int .i64 z, .int .i64 d] from HZa5)
      have HBa0 := HB2.out
      have HBa1 := HBa0.setCell (p := ⟨b + 1, 0, none⟩) (by show b ≤ b + 1; omega) (.int .i64 k)
      have HBa2 := HBa1.setCell (p := ⟨b + 1, 1, none⟩) (by show b ≤ b + 1; omega) (.int .i64 o)
      have HBa3 := HBa2.setCell (p := ⟨b + 1, 2, none⟩) (by show b ≤ b + 1; omega) (.int .i64 f)
      have HBa4 := HBa3.setCell (p := ⟨b + 1, 3, none⟩) (by show b ≤ b + 1; omega) (.int .i64 z)
      have HBa5 := HBa4.setCell (p := ⟨b + 1, 4, none⟩) (by show b ≤ b + 1; omega) (.int .i64 d)
      have HBf := Lib.hid HBa5
      clear HZa0 HZa1 HZa2 HZa3 HZa4 HZa5 HBa0 HBa1 HBa2 HBa3 HBa4 HBa5
      go_wp2_with fail
      have r0 := HZz.out.cell 0
      have r1 := HZz.out.cell 1
      have r2 := HZz.out.cell 2
      have r3 := HZz.out.cell 3
      have r4 := HZz.out.cell 4
      simp only [List.getElem?_toArray, List.getElem?_cons_zero, List.getElem?_cons_succ] at r0 r1 r2 r3 r4
      exact bodyPost_ret (v := .agg #[.int .i64 k, .int .i64 o, .int .i64 f, .int .i64 z, .int .i64 d]) (by simp [results, Try.results11, go_sem, r0, r1, r2, r3, r4]) rfl ⟨⟨k, o, f, z, d⟩, rfl, by rw [Hbb.out]; exact HBf.out⟩
    · have hK5 := Lib.hid hK5
      go_simp
      go_at_call 26
      refine (HA4'.out _).mono ?_
      rintro e wv ⟨rfl, rfl⟩
      refine hK5.out _ _ (HK0.out.cell 2) ?_
      try simp only [Act.put, List.setIfInBounds_toArray, List.set_cons_zero, List.set_cons_succ]
      refine H_one (i := 4) (by decide +kernel) (H_step rfl rfl (fun K hK6 => ?_))
      have hK6 := Lib.hid hK6
      go_simp
      have HK1 := Lib.hid (HK0.out.alloc (.cells #[.int .i64 by_, .int .i64 73048, .int .i64 73049, .int .i64 y] 3))
      have HZ1 := Lib.hid (HZ0.out.alloc (.cells #[.int .i64 by_, .int .i64 73048, .int .i64 73049, .int .i64 y] 3))
      have HB1 := Lib.hid (HB0.out.alloc (Hbb.out ▸ HB0.out.size) (.cells #[.int .i64 by_, .int .i64 73048, .int .i64 73049, .int .i64 y] 3))
      refine hK6.out _ _ (HK1.out.cell 2) ?_
      try simp only [Act.put, List.setIfInBounds_toArray, List.set_cons_zero, List.set_cons_succ]
      refine H_takeD (k := 7) (v := .pointer (some ⟨X0.heap.size, j, none⟩)) (d := some 57) rfl rfl (by decide +kernel) (fun _ _ _ h => h) (Or.inl ⟨by rfl, fun W hW => by have s0 := hW; go_simp⟩) (HK1.out.cell 2) ?_
      try simp only [Act.put, List.setIfInBounds_toArray, List.set_cons_zero, List.set_cons_succ]
      refine H_one (i := 8) (by decide +kernel) (H_step rfl rfl (fun K hK8 => ?_))
      have hK8 := Lib.hid hK8
      go_simp
      refine hK8.out _ _ (HK1.out.cell 2) ?_
      try simp only [Act.put, List.setIfInBounds_toArray, List.set_cons_zero, List.set_cons_succ]
      refine H_takeD (k := 9) (v := .pointer (some ⟨b, 3, none⟩)) (d := some 59) rfl rfl (by decide +kernel) (fun _ _ _ h => h) (Or.inl ⟨by rfl, fun W hW => by have s0 := hW; go_simp⟩) (HK1.out.cell 2) ?_
      try simp only [Act.put, List.setIfInBounds_toArray, List.set_cons_zero, List.set_cons_succ]
      refine H_one (i := 10) (by decide +kernel) (H_step rfl rfl (fun K hK10 => ?_))
      have hK10 := Lib.hid hK10
      go_simp
      have d0 := HK1.out.frozen 3
      have d1 : (X0.alloc (.cells #[.int .i64 by_, .int .i64 73048, .int .i64 73049, .int .i64 y] 3)).cell? ⟨b, 3, none⟩ = some (.int .i64 t) := HK1.out.cell 3
      go_simp
      have HK2 := Lib.hid (show Bk ((X0.alloc (.cells #[.int .i64 by_, .int .i64 73048, .int .i64 73049, .int .i64 y] 3)).setCell ⟨b, 3, none⟩ (.int .i64 z)) b 24 #[.int .i64 k, .int .i64 o, .int .i64 f, .int .i64 z, .int .i64 d] from HK1.out.set_ 3 _)
      have HZ2 := Lib.hid (HZ1.out.far (p := ⟨b, 3, none⟩) (by show b + 1 ≠ b; omega) (.int .i64 z))
      have HB2 := Lib.hid (HB1.out.setCell (p := ⟨b, 3, none⟩) (by show b ≤ b; omega) (.int .i64 z))
      refine hK10.out _ _ (HK2.out.cell 2) ?_
      try simp only [Act.put, List.setIfInBounds_toArray, List.set_cons_zero, List.set_cons_succ]
      refine H_end (by decide +kernel) (NoPanic.normal ?_)
      try simp only [Act.put, List.setIfInBounds_toArray, List.set_cons_zero, List.set_cons_succ]
      generalize (X0.alloc (.cells #[.int .i64 by_, .int .i64 73048, .int .i64 73049, .int .i64 y] 3)).setCell ⟨b, 3, none⟩ (.int .i64 z) = X3 at *
      have k0 : X3.cell? ⟨b, 0, none⟩ = some (.int .i64 k) := HK2.out.cell 0
      have k1 : X3.cell? ⟨b, 1, none⟩ = some (.int .i64 o) := HK2.out.cell 1
      have k2 : X3.cell? ⟨b, 2, none⟩ = some (.int .i64 f) := HK2.out.cell 2
      have k3 : X3.cell? ⟨b, 3, none⟩ = some (.int .i64 z) := HK2.out.cell 3
      have k4 : X3.cell? ⟨b, 4, none⟩ = some (.int .i64 d) := HK2.out.cell 4
      have z0 : X3.cell? ⟨b + 1, 0, none⟩ = some (.int .i64 0) := HZ2.out.cell 0
      have z1 : X3.cell? ⟨b + 1, 1, none⟩ = some (.int .i64 0) := HZ2.out.cell 1
      have z2 : X3.cell? ⟨b + 1, 2, none⟩ = some (.int .i64 0) := HZ2.out.cell 2
      have z3 : X3.cell? ⟨b + 1, 3, none⟩ = some (.int .i64 0) := HZ2.out.cell 3
      have z4 : X3.cell? ⟨b + 1, 4, none⟩ = some (.int .i64 0) := HZ2.out.cell 4
      have q0 := HZ2.out.frozen 0
      have q1 := HZ2.out.frozen 1
      have q2 := HZ2.out.frozen 2
      have q3 := HZ2.out.frozen 3
      have q4 := HZ2.out.frozen 4
      have HZa0 := HZ2.out
      have HZa1 := HZa0.set_ 0 (.int .i64 k)
      have HZa2 := HZa1.set_ 1 (.int .i64 o)
      have HZa3 := HZa2.set_ 2 (.int .i64 f)
      have HZa4 := HZa3.set_ 3 (.int .i64 z)
      have HZa5 := HZa4.set_ 4 (.int .i64 d)
      have HZz := Lib.hid (show Bk _ (b + 1) 24 #[.int .i64 k, .int .i64 o, .int .i64 f, .int .i64 z, .int .i64 d] from HZa5)
      have HBa0 := HB2.out
      have HBa1 := HBa0.setCell (p := ⟨b + 1, 0, none⟩) (by show b ≤ b + 1; omega) (.int .i64 k)
      have HBa2 := HBa1.setCell (p := ⟨b + 1, 1, none⟩) (by show b ≤ b + 1; omega) (.int .i64 o)
      have HBa3 := HBa2.setCell (p := ⟨b + 1, 2, none⟩) (by show b ≤ b + 1; omega) (.int .i64 f)
      have HBa4 := HBa3.setCell (p := ⟨b + 1, 3, none⟩) (by show b ≤ b + 1; omega) (.int .i64 z)
      have HBa5 := HBa4.setCell (p := ⟨b + 1, 4, none⟩) (by show b ≤ b + 1; omega) (.int .i64 d)
      have HBf := Lib.hid HBa5
      clear HZa0 HZa1 HZa2 HZa3 HZa4 HZa5 HBa0 HBa1 HBa2 HBa3 HBa4 HBa5
      go_wp2_with fail
      have r0 := HZz.out.cell 0
      have r1 := HZz.out.cell 1
      have r2 := HZz.out.cell 2
      have r3 := HZz.out.cell 3
      have r4 := HZz.out.cell 4
      simp only [List.getElem?_toArray, List.getElem?_cons_zero, List.getElem?_cons_succ] at r0 r1 r2 r3 r4
      exact bodyPost_ret (v := .agg #[.int .i64 k, .int .i64 o, .int .i64 f, .int .i64 z, .int .i64 d]) (by simp [results, Try.results11, go_sem, r0, r1, r2, r3, r4]) rfl ⟨⟨k, o, f, z, d⟩, rfl, by rw [Hbb.out]; exact HBf.out⟩
  · obtain ⟨j, z, hj, hjm, hgl, _⟩ := pick_list (l := [.int .i64 by_, .int .i64 (-1), .int .i64 1048576, .int .i64 1048577]) by_ (m := 4) (by decide) rfl (by intro v hv; simp at hv; rcases hv with rfl | rfl | rfl | rfl <;> exact ⟨_, rfl⟩)
    have HA4' := Lib.hid (fun W => show Calls Try.prog 26 #[.int .i64 by_, .int .i64 4] W fun e w' => e = .returned (.int .i64 (j : Int)) ∧ W = w' from by have h := HA4.out W; rw [show around by_ 4 = (j : Int) from hj] at h; exact h)
    clear hj
    go_enter Try.func11, Try.ntmps11
    go_wp2_with fail
    refine (HA.out _).mono ?_
    rintro e w1 ⟨rfl, rfl⟩
    go_wp2_with fail
    refine (HA4'.out _).mono ?_
    rintro e w1 ⟨rfl, rfl⟩
    go_wp2_with fail
    exact bodyPost_ret (v := .agg #[.int .i64 k, .int .i64 o, .int .i64 f, .int .i64 t, .int .i64 z]) (by simp [results, Try.results11, go_sem]) rfl ⟨⟨k, o, f, t, z⟩, rfl, HBz.out _ _ _⟩
end Go.Proofs.Ytgeciimakjfnfaa
