import Derived.Test.YtgeciimakjfnfaaC16
namespace Go.Proofs.Ytgeciimakjfnfaa
open Go.RowKit Go.Maps

theorem badO_iff {x : Int} : badO x = false ↔ 0 ≤ x ∧ x ≤ 63 := by unfold badO inB; simp
theorem any_bad {os : List Int} {i : Nat} {x : Int} (h : os[i]? = some x) (hb : badO x = true) : os.any badO = true := List.any_eq_true.2 ⟨x, List.mem_of_getElem? h, hb⟩
theorem dup_at {os : List Int} {i j : Nat} {x : Int} (hij : j < i) (h : os[i]? = some x) (h2 : os[j]? = some x) : ¬ os.Nodup := fun hn => by
  obtain ⟨h1, e1⟩ := List.getElem?_eq_some_iff.1 h
  obtain ⟨h3, e3⟩ := List.getElem?_eq_some_iff.1 h2
  exact (List.pairwise_iff_getElem.1 hn) j i h3 h1 hij (e3.trans e1.symm)
theorem nodup_next {os : List Int} {i : Nat} {x : Int} (h : os[i]? = some x) (hn : (os.take i).Nodup) (ha : ∀ j, j < i → os[j]? ≠ some x) : (os.take (i + 1)).Nodup := by
  rw [take_snoc' h, List.nodup_append]
  refine ⟨hn, by simp, fun a ha' b hb => ?_⟩
  rw [List.mem_singleton.1 hb]
  rintro rfl
  obtain ⟨j, hj, e⟩ := List.mem_take_iff_getElem.1 ha'
  exact ha j (by omega) (by rw [List.getElem?_eq_getElem (by omega), e])

set_option linter.unusedSimpArgs false in
set_option maxHeartbeats 8000000 in
set_option maxRecDepth 100000 in
theorem refValidView_any (k : Int) (B : Option Addr) (cb : Nat) (os : List Int) (w : World) (hB : SI w B os) (hos : os.length ≤ 1000000) :
    Calls Try.prog 17 #[.agg #[.int .i64 k, .slice B os.length cb]] w fun e w' => e = .returned (.int .i64 (vwE k os)) ∧ Below w.heap.size w w' := by
  have hb0 := (Below.refl w.heap.size w).alloc (Nat.le_refl _) (.cells #[.int .i64 k, .slice B os.length cb] 28)
  have hb1 := (hb0.alloc (by simp) (.cells #[.int .i64 1, .int .i64 1, .int .i64 0] 3)).alloc (by simp; omega) (.cells #[.int .i64 1, .int .i64 8, .int .i64 0] 3)
  have HV := Lib.hid (((Bk.new w 28 #[.int .i64 k, .slice B os.length cb]).alloc (.cells #[.int .i64 1, .int .i64 1, .int .i64 0] 3)).alloc (.cells #[.int .i64 1, .int .i64 8, .int .i64 0] 3))
  have HL0 := Lib.hid ((Bk.new' (w.alloc (.cells #[.int .i64 k, .slice B os.length cb] 28)) 3 #[.int .i64 1, .int .i64 1, .int .i64 0] (g := w.heap.size + 1) (by simp)).alloc (.cells #[.int .i64 1, .int .i64 8, .int .i64 0] 3))
  have HL1 := Lib.hid (Bk.new' ((w.alloc (.cells #[.int .i64 k, .slice B os.length cb] 28)).alloc (.cells #[.int .i64 1, .int .i64 1, .int .i64 0] 3)) 3 #[.int .i64 1, .int .i64 8, .int .i64 0] (g := w.heap.size + 1 + 1) (by simp))
  have HI := Lib.hid (SI.below hB hb1)
  have HB := Lib.hid hb1
  clear hb0 hb1 hB
  go_enter Try.func17, Try.ntmps17
  go_upto_region 3 with fail
  generalize ((w.alloc (.cells #[.int .i64 k, .slice B os.length cb] 28)).alloc (.cells #[.int .i64 1, .int .i64 1, .int .i64 0] 3)).alloc (.cells #[.int .i64 1, .int .i64 8, .int .i64 0] 3) = W0 at *
  obtain ⟨N, hN⟩ : ∃ q, Hid (w.heap.size = q) := ⟨_, Lib.hid rfl⟩
  obtain ⟨m, hm⟩ : ∃ q, Hid (os.length = q) := ⟨_, Lib.hid rfl⟩
  rw [hm.out] at hos HV
  rw [hN.out] at HV HL0 HL1
  simp only [hN.out, hm.out]
  have v0 : W0.cell? ⟨N, 0, none⟩ = some (.int .i64 k) := HV.out.cell 0
  have v1 : W0.cell? ⟨N, 1, none⟩ = some (.slice B m cb) := HV.out.cell 1
  have l0 : W0.cell? ⟨N + 1, 0, none⟩ = some (.int .i64 1) := HL0.out.cell 0
  have l1 : W0.cell? ⟨N + 1, 1, none⟩ = some (.int .i64 1) := HL0.out.cell 1
  have l2 : W0.cell? ⟨N + 1, 2, none⟩ = some (.int .i64 0) := HL0.out.cell 2
  have m0 : W0.cell? ⟨N + 1 + 1, 0, none⟩ = some (.int .i64 1) := HL1.out.cell 0
  have m1 : W0.cell? ⟨N + 1 + 1, 1, none⟩ = some (.int .i64 8) := HL1.out.cell 1
  have m2 : W0.cell? ⟨N + 1 + 1, 2, none⟩ = some (.int .i64 0) := HL1.out.cell 2
  clear HL0 HL1
  have hcases : (k < 0) ∨ (k > 2) ∨ (k = 0 ∧ m < 1) ∨ (k = 0 ∧ 1 < m) ∨ (k = 0 ∧ m = 1) ∨ (k = 1 ∧ m < 1) ∨ (k = 1 ∧ 8 < m) ∨ (k = 1 ∧ 1 ≤ m ∧ m ≤ 8) ∨ (k = 2 ∧ 0 < m) ∨ (k = 2 ∧ m = 0) := by omega
  have hbadlen : (¬ (k = 0 ∧ m = 1 ∨ k = 1 ∧ 1 ≤ m ∧ m ≤ 8 ∨ k = 2 ∧ m = 0)) → vwE k os = 1 := fun h => vwE_len (by unfold lenOK; rw [hm.out]; exact decide_eq_false h)
  have HbL := Lib.hid hbadlen
  clear hbadlen
  rcases hcases with h0 | h0 | ⟨h0, h1⟩ | ⟨h0, h1⟩ | ⟨h0, h1⟩ | ⟨h0, h1⟩ | ⟨h0, h1⟩ | ⟨h0, h1, h2⟩ | ⟨h0, h1⟩ | ⟨h0, h1⟩
  · have HE := Lib.hid (HbL.out (by omega))
    clear HbL
    have HBd := Lib.hid (show Below w.heap.size w W0.drew from HB.out.drew)
    have y0 : W0.drew.cell? ⟨N, 0, none⟩ = some (.int .i64 k) := v0
    have y1 : W0.drew.cell? ⟨N, 1, none⟩ = some (.slice B m cb) := v1
    clear v0 v1 l0 l1 l2 m0 m1 m2
    refine wp_region_noPanic ?_
    refine region_H (S := fun W => W.cell? ⟨N, 0, none⟩ = some (.int .i64 k) ∧ W.cell? ⟨N, 1, none⟩ = some (.slice B m cb)) (by kernel_rfl) ?_
    change wpH _ _ _ _ 30 _ _ W0.drew
    generalize W0.drew = X0 at *
    refine H_takeD (k := 0) (v := .pointer (some ⟨N, 0, none⟩)) (d := some 9) rfl rfl (by decide +kernel) (fun _ _ _ h => h) (Or.inl ⟨by rfl, fun W hW => by obtain ⟨s0, s1⟩ := hW; go_simp⟩) ⟨y0, y1⟩ ?_
    try simp only [Act.put, List.setIfInBounds_toArray, List.set_cons_zero, List.set_cons_succ]
    refine H_takeD (k := 1) (v := .int .i64 k) (d := some 10) rfl rfl (by decide +kernel) (fun _ _ _ h => h) (Or.inl ⟨by rfl, fun W hW => by obtain ⟨s0, s1⟩ := hW; go_simp⟩) ⟨y0, y1⟩ ?_
    try simp only [Act.put, List.setIfInBounds_toArray, List.set_cons_zero, List.set_cons_succ]
    refine H_takeD (k := 2) (v := .bool true) (d := some 11) rfl rfl (by decide +kernel) (fun _ _ _ h => h) (Or.inl ⟨by rfl, fun W hW => by obtain ⟨s0, s1⟩ := hW; go_simp⟩) ⟨y0, y1⟩ ?_
    try simp only [Act.put, List.setIfInBounds_toArray, List.set_cons_zero, List.set_cons_succ]
    refine H_takeD (k := 3) (v := .bool true) (d := some 12) rfl rfl (by decide +kernel) (fun _ _ _ h => h) (Or.inl ⟨by rfl, fun W hW => by obtain ⟨s0, s1⟩ := hW; go_simp⟩) ⟨y0, y1⟩ ?_
    try simp only [Act.put, List.setIfInBounds_toArray, List.set_cons_zero, List.set_cons_succ]
    refine H_takeD (k := 4) (v := undef) (d := some 13) rfl rfl (by decide +kernel) (fun _ _ _ h => h) (Or.inr ⟨by simp [Region.wanted, yielded, undef], rfl⟩) ⟨y0, y1⟩ ?_
    try simp only [Act.put, List.setIfInBounds_toArray, List.set_cons_zero, List.set_cons_succ]
    refine H_takeD (k := 5) (v := undef) (d := some 14) rfl rfl (by decide +kernel) (fun _ _ _ h => h) (Or.inr ⟨by simp [Region.wanted, yielded, undef], rfl⟩) ⟨y0, y1⟩ ?_
    try simp only [Act.put, List.setIfInBounds_toArray, List.set_cons_zero, List.set_cons_succ]
    refine H_takeD (k := 6) (v := undef) (d := some 15) rfl rfl (by decide +kernel) (fun _ _ _ h => h) (Or.inr ⟨by simp [Region.wanted, yielded, undef], rfl⟩) ⟨y0, y1⟩ ?_
    try simp only [Act.put, List.setIfInBounds_toArray, List.set_cons_zero, List.set_cons_succ]
    refine H_takeD (k := 7) (v := .bool true) (d := some 16) rfl rfl (by decide +kernel) (fun _ _ _ h => h) (Or.inl ⟨by rfl, fun W hW => by obtain ⟨s0, s1⟩ := hW; go_simp⟩) ⟨y0, y1⟩ ?_
    try simp only [Act.put, List.setIfInBounds_toArray, List.set_cons_zero, List.set_cons_succ]
    refine H_takeD (k := 8) (v := .bool true) (d := some 17) rfl rfl (by decide +kernel) (fun _ _ _ h => h) (Or.inl ⟨by rfl, fun W hW => by obtain ⟨s0, s1⟩ := hW; go_simp⟩) ⟨y0, y1⟩ ?_
    try simp only [Act.put, List.setIfInBounds_toArray, List.set_cons_zero, List.set_cons_succ]
    refine H_takeD (k := 9) (v := undef) (d := some 18) rfl rfl (by decide +kernel) (fun _ _ _ h => h) (Or.inr ⟨by simp [Region.wanted, yielded, undef], rfl⟩) ⟨y0, y1⟩ ?_
    try simp only [Act.put, List.setIfInBounds_toArray, List.set_cons_zero, List.set_cons_succ]
    refine H_takeD (k := 10) (v := undef) (d := some 19) rfl rfl (by decide +kernel) (fun _ _ _ h => h) (Or.inr ⟨by simp [Region.wanted, yielded, undef], rfl⟩) ⟨y0, y1⟩ ?_
    try simp only [Act.put, List.setIfInBounds_toArray, List.set_cons_zero, List.set_cons_succ]
    refine H_takeD (k := 11) (v := undef) (d := some 20) rfl rfl (by decide +kernel) (fun _ _ _ h => h) (Or.inr ⟨by simp [Region.wanted, yielded, undef], rfl⟩) ⟨y0, y1⟩ ?_
    try simp only [Act.put, List.setIfInBounds_toArray, List.set_cons_zero, List.set_cons_succ]
    refine H_takeD (k := 12) (v := undef) (d := some 21) rfl rfl (by decide +kernel) (fun _ _ _ h => h) (Or.inr ⟨by simp [Region.wanted, yielded, undef], rfl⟩) ⟨y0, y1⟩ ?_
    try simp only [Act.put, List.setIfInBounds_toArray, List.set_cons_zero, List.set_cons_succ]
    refine H_takeD (k := 13) (v := undef) (d := some 22) rfl rfl (by decide +kernel) (fun _ _ _ h => h) (Or.inr ⟨by simp [Region.wanted, yielded, undef], rfl⟩) ⟨y0, y1⟩ ?_
    try simp only [Act.put, List.setIfInBounds_toArray, List.set_cons_zero, List.set_cons_succ]
    refine H_takeD (k := 14) (v := undef) (d := some 23) rfl rfl (by decide +kernel) (fun _ _ _ h => h) (Or.inr ⟨by simp [Region.wanted, yielded, undef], rfl⟩) ⟨y0, y1⟩ ?_
    try simp only [Act.put, List.setIfInBounds_toArray, List.set_cons_zero, List.set_cons_succ]
    refine H_takeD (k := 15) (v := undef) (d := some 24) rfl rfl (by decide +kernel) (fun _ _ _ h => h) (Or.inr ⟨by simp [Region.wanted, yielded, undef], rfl⟩) ⟨y0, y1⟩ ?_
    try simp only [Act.put, List.setIfInBounds_toArray, List.set_cons_zero, List.set_cons_succ]
    refine H_takeD (k := 16) (v := undef) (d := some 25) rfl rfl (by decide +kernel) (fun _ _ _ h => h) (Or.inr ⟨by simp [Region.wanted, yielded, undef], rfl⟩) ⟨y0, y1⟩ ?_
    try simp only [Act.put, List.setIfInBounds_toArray, List.set_cons_zero, List.set_cons_succ]
    refine H_takeD (k := 17) (v := undef) (d := some 26) rfl rfl (by decide +kernel) (fun _ _ _ h => h) (Or.inr ⟨by simp [Region.wanted, yielded, undef], rfl⟩) ⟨y0, y1⟩ ?_
    try simp only [Act.put, List.setIfInBounds_toArray, List.set_cons_zero, List.set_cons_succ]
    refine H_takeD (k := 18) (v := .bool true) (d := some 27) rfl rfl (by decide +kernel) (fun _ _ _ h => h) (Or.inl ⟨by rfl, fun W hW => by obtain ⟨s0, s1⟩ := hW; go_simp⟩) ⟨y0, y1⟩ ?_
    try simp only [Act.put, List.setIfInBounds_toArray, List.set_cons_zero, List.set_cons_succ]
    refine H_takeD (k := 19) (v := .bool true) (d := some 28) rfl rfl (by decide +kernel) (fun _ _ _ h => h) (Or.inl ⟨by rfl, fun W hW => by obtain ⟨s0, s1⟩ := hW; go_simp⟩) ⟨y0, y1⟩ ?_
    try simp only [Act.put, List.setIfInBounds_toArray, List.set_cons_zero, List.set_cons_succ]
    refine H_takeD (k := 20) (v := undef) (d := some 29) rfl rfl (by decide +kernel) (fun _ _ _ h => h) (Or.inr ⟨by simp [Region.wanted, yielded, undef], rfl⟩) ⟨y0, y1⟩ ?_
    try simp only [Act.put, List.setIfInBounds_toArray, List.set_cons_zero, List.set_cons_succ]
    refine H_takeD (k := 21) (v := undef) (d := some 30) rfl rfl (by decide +kernel) (fun _ _ _ h => h) (Or.inr ⟨by simp [Region.wanted, yielded, undef], rfl⟩) ⟨y0, y1⟩ ?_
    try simp only [Act.put, List.setIfInBounds_toArray, List.set_cons_zero, List.set_cons_succ]
    refine H_takeD (k := 22) (v := undef) (d := some 31) rfl rfl (by decide +kernel) (fun _ _ _ h => h) (Or.inr ⟨by simp [Region.wanted, yielded, undef], rfl⟩) ⟨y0, y1⟩ ?_
    try simp only [Act.put, List.setIfInBounds_toArray, List.set_cons_zero, List.set_cons_succ]
    refine H_takeD (k := 23) (v := undef) (d := some 32) rfl rfl (by decide +kernel) (fun _ _ _ h => h) (Or.inr ⟨by simp [Region.wanted, yielded, undef], rfl⟩) ⟨y0, y1⟩ ?_
    try simp only [Act.put, List.setIfInBounds_toArray, List.set_cons_zero, List.set_cons_succ]
    refine H_takeD (k := 24) (v := undef) (d := some 33) rfl rfl (by decide +kernel) (fun _ _ _ h => h) (Or.inr ⟨by simp [Region.wanted, yielded, undef], rfl⟩) ⟨y0, y1⟩ ?_
    try simp only [Act.put, List.setIfInBounds_toArray, List.set_cons_zero, List.set_cons_succ]
    refine H_takeD (k := 25) (v := undef) (d := some 34) rfl rfl (by decide +kernel) (fun _ _ _ h => h) (Or.inr ⟨by simp [Region.wanted, yielded, undef], rfl⟩) ⟨y0, y1⟩ ?_
    try simp only [Act.put, List.setIfInBounds_toArray, List.set_cons_zero, List.set_cons_succ]
    refine H_takeD (k := 26) (v := undef) (d := some 35) rfl rfl (by decide +kernel) (fun _ _ _ h => h) (Or.inr ⟨by simp [Region.wanted, yielded, undef], rfl⟩) ⟨y0, y1⟩ ?_
    try simp only [Act.put, List.setIfInBounds_toArray, List.set_cons_zero, List.set_cons_succ]
    refine H_takeD (k := 27) (v := undef) (d := some 36) rfl rfl (by decide +kernel) (fun _ _ _ h => h) (Or.inr ⟨by simp [Region.wanted, yielded, undef], rfl⟩) ⟨y0, y1⟩ ?_
    try simp only [Act.put, List.setIfInBounds_toArray, List.set_cons_zero, List.set_cons_succ]
    refine H_takeD (k := 28) (v := undef) (d := some 37) rfl rfl (by decide +kernel) (fun _ _ _ h => h) (Or.inr ⟨by simp [Region.wanted, yielded, undef], rfl⟩) ⟨y0, y1⟩ ?_
    try simp only [Act.put, List.setIfInBounds_toArray, List.set_cons_zero, List.set_cons_succ]
    refine H_takeD (k := 29) (v := .bool true) (d := some 38) rfl rfl (by decide +kernel) (fun _ _ _ h => h) (Or.inl ⟨by rfl, fun W hW => by obtain ⟨s0, s1⟩ := hW; go_simp⟩) ⟨y0, y1⟩ ?_
    try simp only [Act.put, List.setIfInBounds_toArray, List.set_cons_zero, List.set_cons_succ]
    refine H_end (by decide +kernel) (NoPanic.normal ?_)
    try simp only [Act.put, List.setIfInBounds_toArray, List.set_cons_zero, List.set_cons_succ]
    clear y0 y1
    go_wp2_with fail
    go_ret
    exact ⟨by rw [HE.out]; rfl, HBd.out⟩
  · have HE := Lib.hid (HbL.out (by omega))
    clear HbL
    have hk0 : ¬ k < 0 := by omega
    have HBd := Lib.hid (show Below w.heap.size w W0.drew from HB.out.drew)
    have y0 : W0.drew.cell? ⟨N, 0, none⟩ = some (.int .i64 k) := v0
    have y1 : W0.drew.cell? ⟨N, 1, none⟩ = some (.slice B m cb) := v1
    clear v0 v1 l0 l1 l2 m0 m1 m2
    refine wp_region_noPanic ?_
    refine region_H (S := fun W => W.cell? ⟨N, 0, none⟩ = some (.int .i64 k) ∧ W.cell? ⟨N, 1, none⟩ = some (.slice B m cb)) (by kernel_rfl) ?_
    change wpH _ _ _ _ 30 _ _ W0.drew
    generalize W0.drew = X0 at *
    refine H_takeD (k := 0) (v := .pointer (some ⟨N, 0, none⟩)) (d := some 9) rfl rfl (by decide +kernel) (fun _ _ _ h => h) (Or.inl ⟨by rfl, fun W hW => by obtain ⟨s0, s1⟩ := hW; go_simp⟩) ⟨y0, y1⟩ ?_
    try simp only [Act.put, List.setIfInBounds_toArray, List.set_cons_zero, List.set_cons_succ]
    refine H_takeD (k := 1) (v := .int .i64 k) (d := some 10) rfl rfl (by decide +kernel) (fun _ _ _ h => h) (Or.inl ⟨by rfl, fun W hW => by obtain ⟨s0, s1⟩ := hW; go_simp⟩) ⟨y0, y1⟩ ?_
    try simp only [Act.put, List.setIfInBounds_toArray, List.set_cons_zero, List.set_cons_succ]
    refine H_takeD (k := 2) (v := .bool false) (d := some 11) rfl rfl (by decide +kernel) (fun _ _ _ h => h) (Or.inl ⟨by rfl, fun W hW => by obtain ⟨s0, s1⟩ := hW; go_simp⟩) ⟨y0, y1⟩ ?_
    try simp only [Act.put, List.setIfInBounds_toArray, List.set_cons_zero, List.set_cons_succ]
    refine H_takeD (k := 3) (v := .bool false) (d := some 12) rfl rfl (by decide +kernel) (fun _ _ _ h => h) (Or.inl ⟨by rfl, fun W hW => by obtain ⟨s0, s1⟩ := hW; go_simp⟩) ⟨y0, y1⟩ ?_
    try simp only [Act.put, List.setIfInBounds_toArray, List.set_cons_zero, List.set_cons_succ]
    refine H_takeD (k := 4) (v := .pointer (some ⟨N, 0, none⟩)) (d := some 13) rfl rfl (by decide +kernel) (fun _ _ _ h => h) (Or.inl ⟨by simp [Region.wanted, yielded], fun W hW => by obtain ⟨s0, s1⟩ := hW; go_simp⟩) ⟨y0, y1⟩ ?_
    try simp only [Act.put, List.setIfInBounds_toArray, List.set_cons_zero, List.set_cons_succ]
    refine H_takeD (k := 5) (v := .int .i64 k) (d := some 14) rfl rfl (by decide +kernel) (fun _ _ _ h => h) (Or.inl ⟨by simp [Region.wanted, yielded], fun W hW => by obtain ⟨s0, s1⟩ := hW; go_simp⟩) ⟨y0, y1⟩ ?_
    try simp only [Act.put, List.setIfInBounds_toArray, List.set_cons_zero, List.set_cons_succ]
    refine H_takeD (k := 6) (v := .bool true) (d := some 15) rfl rfl (by decide +kernel) (fun _ _ _ h => h) (Or.inl ⟨by simp [Region.wanted, yielded], fun W hW => by obtain ⟨s0, s1⟩ := hW; go_simp⟩) ⟨y0, y1⟩ ?_
    try simp only [Act.put, List.setIfInBounds_toArray, List.set_cons_zero, List.set_cons_succ]
    refine H_takeD (k := 7) (v := .bool true) (d := some 16) rfl rfl (by decide +kernel) (fun _ _ _ h => h) (Or.inl ⟨by rfl, fun W hW => by obtain ⟨s0, s1⟩ := hW; go_simp⟩) ⟨y0, y1⟩ ?_
    try simp only [Act.put, List.setIfInBounds_toArray, List.set_cons_zero, List.set_cons_succ]
    refine H_takeD (k := 8) (v := .bool true) (d := some 17) rfl rfl (by decide +kernel) (fun _ _ _ h => h) (Or.inl ⟨by rfl, fun W hW => by obtain ⟨s0, s1⟩ := hW; go_simp⟩) ⟨y0, y1⟩ ?_
    try simp only [Act.put, List.setIfInBounds_toArray, List.set_cons_zero, List.set_cons_succ]
    refine H_takeD (k := 9) (v := undef) (d := some 18) rfl rfl (by decide +kernel) (fun _ _ _ h => h) (Or.inr ⟨by simp [Region.wanted, yielded, undef], rfl⟩) ⟨y0, y1⟩ ?_
    try simp only [Act.put, List.setIfInBounds_toArray, List.set_cons_zero, List.set_cons_succ]
    refine H_takeD (k := 10) (v := undef) (d := some 19) rfl rfl (by decide +kernel) (fun _ _ _ h => h) (Or.inr ⟨by simp [Region.wanted, yielded, undef], rfl⟩) ⟨y0, y1⟩ ?_
    try simp only [Act.put, List.setIfInBounds_toArray, List.set_cons_zero, List.set_cons_succ]
    refine H_takeD (k := 11) (v := undef) (d := some 20) rfl rfl (by decide +kernel) (fun _ _ _ h => h) (Or.inr ⟨by simp [Region.wanted, yielded, undef], rfl⟩) ⟨y0, y1⟩ ?_
    try simp only [Act.put, List.setIfInBounds_toArray, List.set_cons_zero, List.set_cons_succ]
    refine H_takeD (k := 12) (v := undef) (d := some 21) rfl rfl (by decide +kernel) (fun _ _ _ h => h) (Or.inr ⟨by simp [Region.wanted, yielded, undef], rfl⟩) ⟨y0, y1⟩ ?_
    try simp only [Act.put, List.setIfInBounds_toArray, List.set_cons_zero, List.set_cons_succ]
    refine H_takeD (k := 13) (v := undef) (d := some 22) rfl rfl (by decide +kernel) (fun _ _ _ h => h) (Or.inr ⟨by simp [Region.wanted, yielded, undef], rfl⟩) ⟨y0, y1⟩ ?_
    try simp only [Act.put, List.setIfInBounds_toArray, List.set_cons_zero, List.set_cons_succ]
    refine H_takeD (k := 14) (v := undef) (d := some 23) rfl rfl (by decide +kernel) (fun _ _ _ h => h) (Or.inr ⟨by simp [Region.wanted, yielded, undef], rfl⟩) ⟨y0, y1⟩ ?_
    try simp only [Act.put, List.setIfInBounds_toArray, List.set_cons_zero, List.set_cons_succ]
    refine H_takeD (k := 15) (v := undef) (d := some 24) rfl rfl (by decide +kernel) (fun _ _ _ h => h) (Or.inr ⟨by simp [Region.wanted, yielded, undef], rfl⟩) ⟨y0, y1⟩ ?_
    try simp only [Act.put, List.setIfInBounds_toArray, List.set_cons_zero, List.set_cons_succ]
    refine H_takeD (k := 16) (v := undef) (d := some 25) rfl rfl (by decide +kernel) (fun _ _ _ h => h) (Or.inr ⟨by simp [Region.wanted, yielded, undef], rfl⟩) ⟨y0, y1⟩ ?_
    try simp only [Act.put, List.setIfInBounds_toArray, List.set_cons_zero, List.set_cons_succ]
    refine H_takeD (k := 17) (v := undef) (d := some 26) rfl rfl (by decide +kernel) (fun _ _ _ h => h) (Or.inr ⟨by simp [Region.wanted, yielded, undef], rfl⟩) ⟨y0, y1⟩ ?_
    try simp only [Act.put, List.setIfInBounds_toArray, List.set_cons_zero, List.set_cons_succ]
    refine H_takeD (k := 18) (v := .bool true) (d := some 27) rfl rfl (by decide +kernel) (fun _ _ _ h => h) (Or.inl ⟨by rfl, fun W hW => by obtain ⟨s0, s1⟩ := hW; go_simp⟩) ⟨y0, y1⟩ ?_
    try simp only [Act.put, List.setIfInBounds_toArray, List.set_cons_zero, List.set_cons_succ]
    refine H_takeD (k := 19) (v := .bool true) (d := some 28) rfl rfl (by decide +kernel) (fun _ _ _ h => h) (Or.inl ⟨by rfl, fun W hW => by obtain ⟨s0, s1⟩ := hW; go_simp⟩) ⟨y0, y1⟩ ?_
    try simp only [Act.put, List.setIfInBounds_toArray, List.set_cons_zero, List.set_cons_succ]
    refine H_takeD (k := 20) (v := undef) (d := some 29) rfl rfl (by decide +kernel) (fun _ _ _ h => h) (Or.inr ⟨by simp [Region.wanted, yielded, undef], rfl⟩) ⟨y0, y1⟩ ?_
    try simp only [Act.put, List.setIfInBounds_toArray, List.set_cons_zero, List.set_cons_succ]
    refine H_takeD (k := 21) (v := undef) (d := some 30) rfl rfl (by decide +kernel) (fun _ _ _ h => h) (Or.inr ⟨by simp [Region.wanted, yielded, undef], rfl⟩) ⟨y0, y1⟩ ?_
    try simp only [Act.put, List.setIfInBounds_toArray, List.set_cons_zero, List.set_cons_succ]
    refine H_takeD (k := 22) (v := undef) (d := some 31) rfl rfl (by decide +kernel) (fun _ _ _ h => h) (Or.inr ⟨by simp [Region.wanted, yielded, undef], rfl⟩) ⟨y0, y1⟩ ?_
    try simp only [Act.put, List.setIfInBounds_toArray, List.set_cons_zero, List.set_cons_succ]
    refine H_takeD (k := 23) (v := undef) (d := some 32) rfl rfl (by decide +kernel) (fun _ _ _ h => h) (Or.inr ⟨by simp [Region.wanted, yielded, undef], rfl⟩) ⟨y0, y1⟩ ?_
    try simp only [Act.put, List.setIfInBounds_toArray, List.set_cons_zero, List.set_cons_succ]
    refine H_takeD (k := 24) (v := undef) (d := some 33) rfl rfl (by decide +kernel) (fun _ _ _ h => h) (Or.inr ⟨by simp [Region.wanted, yielded, undef], rfl⟩) ⟨y0, y1⟩ ?_
    try simp only [Act.put, List.setIfInBounds_toArray, List.set_cons_zero, List.set_cons_succ]
    refine H_takeD (k := 25) (v := undef) (d := some 34) rfl rfl (by decide +kernel) (fun _ _ _ h => h) (Or.inr ⟨by simp [Region.wanted, yielded, undef], rfl⟩) ⟨y0, y1⟩ ?_
    try simp only [Act.put, List.setIfInBounds_toArray, List.set_cons_zero, List.set_cons_succ]
    refine H_takeD (k := 26) (v := undef) (d := some 35) rfl rfl (by decide +kernel) (fun _ _ _ h => h) (Or.inr ⟨by simp [Region.wanted, yielded, undef], rfl⟩) ⟨y0, y1⟩ ?_
    try simp only [Act.put, List.setIfInBounds_toArray, List.set_cons_zero, List.set_cons_succ]
    refine H_takeD (k := 27) (v := undef) (d := some 36) rfl rfl (by decide +kernel) (fun _ _ _ h => h) (Or.inr ⟨by simp [Region.wanted, yielded, undef], rfl⟩) ⟨y0, y1⟩ ?_
    try simp only [Act.put, List.setIfInBounds_toArray, List.set_cons_zero, List.set_cons_succ]
    refine H_takeD (k := 28) (v := undef) (d := some 37) rfl rfl (by decide +kernel) (fun _ _ _ h => h) (Or.inr ⟨by simp [Region.wanted, yielded, undef], rfl⟩) ⟨y0, y1⟩ ?_
    try simp only [Act.put, List.setIfInBounds_toArray, List.set_cons_zero, List.set_cons_succ]
    refine H_takeD (k := 29) (v := .bool true) (d := some 38) rfl rfl (by decide +kernel) (fun _ _ _ h => h) (Or.inl ⟨by rfl, fun W hW => by obtain ⟨s0, s1⟩ := hW; go_simp⟩) ⟨y0, y1⟩ ?_
    try simp only [Act.put, List.setIfInBounds_toArray, List.set_cons_zero, List.set_cons_succ]
    refine H_end (by decide +kernel) (NoPanic.normal ?_)
    try simp only [Act.put, List.setIfInBounds_toArray, List.set_cons_zero, List.set_cons_succ]
    clear y0 y1
    go_wp2_with fail
    go_ret
    exact ⟨by rw [HE.out]; rfl, HBd.out⟩
  · have HE := Lib.hid (HbL.out (by omega))
    clear HbL
    subst h0
    have hI : (m : Int) < 1 := by omega
    have hN0 : m < 1 := by omega
    have HBd := Lib.hid (show Below w.heap.size w W0.drew from HB.out.drew)
    have y0 : W0.drew.cell? ⟨N, 0, none⟩ = some (.int .i64 0) := v0
    have y1 : W0.drew.cell? ⟨N, 1, none⟩ = some (.slice B m cb) := v1
    have y2 : W0.drew.cell? ⟨N + 1, 0, none⟩ = some (.int .i64 1) := l0
    have y3 : W0.drew.cell? ⟨N + 1 + 1, 0, none⟩ = some (.int .i64 1) := m0
    clear v0 v1 l0 l1 l2 m0 m1 m2
    refine wp_region_noPanic ?_
    refine region_H (S := fun W => W.cell? ⟨N, 0, none⟩ = some (.int .i64 0) ∧ W.cell? ⟨N, 1, none⟩ = some (.slice B m cb) ∧ W.cell? ⟨N + 1, 0, none⟩ = some (.int .i64 1) ∧ W.cell? ⟨N + 1 + 1, 0, none⟩ = some (.int .i64 1)) (by kernel_rfl) ?_
    change wpH _ _ _ _ 30 _ _ W0.drew
    generalize W0.drew = X0 at *
    refine H_takeD (k := 0) (v := .pointer (some ⟨N, 0, none⟩)) (d := some 9) rfl rfl (by decide +kernel) (fun _ _ _ h => h) (Or.inl ⟨by rfl, fun W hW => by obtain ⟨s0, s1, s2, s3⟩ := hW; go_simp⟩) ⟨y0, y1, y2, y3⟩ ?_
    try simp only [Act.put, List.setIfInBounds_toArray, List.set_cons_zero, List.set_cons_succ]
    refine H_takeD (k := 1) (v := .int .i64 0) (d := some 10) rfl rfl (by decide +kernel) (fun _ _ _ h => h) (Or.inl ⟨by rfl, fun W hW => by obtain ⟨s0, s1, s2, s3⟩ := hW; go_simp⟩) ⟨y0, y1, y2, y3⟩ ?_
    try simp only [Act.put, List.setIfInBounds_toArray, List.set_cons_zero, List.set_cons_succ]
    refine H_takeD (k := 2) (v := .bool false) (d := some 11) rfl rfl (by decide +kernel) (fun _ _ _ h => h) (Or.inl ⟨by rfl, fun W hW => by obtain ⟨s0, s1, s2, s3⟩ := hW; go_simp⟩) ⟨y0, y1, y2, y3⟩ ?_
    try simp only [Act.put, List.setIfInBounds_toArray, List.set_cons_zero, List.set_cons_succ]
    refine H_takeD (k := 3) (v := .bool false) (d := some 12) rfl rfl (by decide +kernel) (fun _ _ _ h => h) (Or.inl ⟨by rfl, fun W hW => by obtain ⟨s0, s1, s2, s3⟩ := hW; go_simp⟩) ⟨y0, y1, y2, y3⟩ ?_
    try simp only [Act.put, List.setIfInBounds_toArray, List.set_cons_zero, List.set_cons_succ]
    refine H_takeD (k := 4) (v := .pointer (some ⟨N, 0, none⟩)) (d := some 13) rfl rfl (by decide +kernel) (fun _ _ _ h => h) (Or.inl ⟨by simp [Region.wanted, yielded], fun W hW => by obtain ⟨s0, s1, s2, s3⟩ := hW; go_simp⟩) ⟨y0, y1, y2, y3⟩ ?_
    try simp only [Act.put, List.setIfInBounds_toArray, List.set_cons_zero, List.set_cons_succ]
    refine H_takeD (k := 5) (v := .int .i64 0) (d := some 14) rfl rfl (by decide +kernel) (fun _ _ _ h => h) (Or.inl ⟨by simp [Region.wanted, yielded], fun W hW => by obtain ⟨s0, s1, s2, s3⟩ := hW; go_simp⟩) ⟨y0, y1, y2, y3⟩ ?_
    try simp only [Act.put, List.setIfInBounds_toArray, List.set_cons_zero, List.set_cons_succ]
    refine H_takeD (k := 6) (v := .bool false) (d := some 15) rfl rfl (by decide +kernel) (fun _ _ _ h => h) (Or.inl ⟨by simp [Region.wanted, yielded], fun W hW => by obtain ⟨s0, s1, s2, s3⟩ := hW; go_simp⟩) ⟨y0, y1, y2, y3⟩ ?_
    try simp only [Act.put, List.setIfInBounds_toArray, List.set_cons_zero, List.set_cons_succ]
    refine H_takeD (k := 7) (v := .bool false) (d := some 16) rfl rfl (by decide +kernel) (fun _ _ _ h => h) (Or.inl ⟨by rfl, fun W hW => by obtain ⟨s0, s1, s2, s3⟩ := hW; go_simp⟩) ⟨y0, y1, y2, y3⟩ ?_
    try simp only [Act.put, List.setIfInBounds_toArray, List.set_cons_zero, List.set_cons_succ]
    refine H_takeD (k := 8) (v := .bool false) (d := some 17) rfl rfl (by decide +kernel) (fun _ _ _ h => h) (Or.inl ⟨by rfl, fun W hW => by obtain ⟨s0, s1, s2, s3⟩ := hW; go_simp⟩) ⟨y0, y1, y2, y3⟩ ?_
    try simp only [Act.put, List.setIfInBounds_toArray, List.set_cons_zero, List.set_cons_succ]
    refine H_takeD (k := 9) (v := .pointer (some ⟨N, 1, none⟩)) (d := some 18) rfl rfl (by decide +kernel) (fun _ _ _ h => h) (Or.inl ⟨by simp [Region.wanted, yielded], fun W hW => by obtain ⟨s0, s1, s2, s3⟩ := hW; go_simp⟩) ⟨y0, y1, y2, y3⟩ ?_
    try simp only [Act.put, List.setIfInBounds_toArray, List.set_cons_zero, List.set_cons_succ]
    refine H_takeD (k := 10) (v := .slice B m cb) (d := some 19) rfl rfl (by decide +kernel) (fun _ _ _ h => h) (Or.inl ⟨by simp [Region.wanted, yielded], fun W hW => by obtain ⟨s0, s1, s2, s3⟩ := hW; go_simp⟩) ⟨y0, y1, y2, y3⟩ ?_
    try simp only [Act.put, List.setIfInBounds_toArray, List.set_cons_zero, List.set_cons_succ]
    refine H_takeD (k := 11) (v := .int .i64 (m : Int)) (d := some 20) rfl rfl (by decide +kernel) (fun _ _ _ h => h) (Or.inl ⟨by simp [Region.wanted, yielded], fun W hW => by obtain ⟨s0, s1, s2, s3⟩ := hW; go_simp⟩) ⟨y0, y1, y2, y3⟩ ?_
    try simp only [Act.put, List.setIfInBounds_toArray, List.set_cons_zero, List.set_cons_succ]
    refine H_takeD (k := 12) (v := .slice (some ⟨N + 1, 0, none⟩) 3 3) (d := some 21) rfl rfl (by decide +kernel) (fun _ _ _ h => h) (Or.inl ⟨by simp [Region.wanted, yielded], fun W hW => by obtain ⟨s0, s1, s2, s3⟩ := hW; go_simp⟩) ⟨y0, y1, y2, y3⟩ ?_
    try simp only [Act.put, List.setIfInBounds_toArray, List.set_cons_zero, List.set_cons_succ]
    refine H_takeD (k := 13) (v := .pointer (some ⟨N, 0, none⟩)) (d := some 22) rfl rfl (by decide +kernel) (fun _ _ _ h => h) (Or.inl ⟨by simp [Region.wanted, yielded], fun W hW => by obtain ⟨s0, s1, s2, s3⟩ := hW; go_simp⟩) ⟨y0, y1, y2, y3⟩ ?_
    try simp only [Act.put, List.setIfInBounds_toArray, List.set_cons_zero, List.set_cons_succ]
    refine H_takeD (k := 14) (v := .int .i64 0) (d := some 23) rfl rfl (by decide +kernel) (fun _ _ _ h => h) (Or.inl ⟨by simp [Region.wanted, yielded], fun W hW => by obtain ⟨s0, s1, s2, s3⟩ := hW; go_simp⟩) ⟨y0, y1, y2, y3⟩ ?_
    try simp only [Act.put, List.setIfInBounds_toArray, List.set_cons_zero, List.set_cons_succ]
    refine H_takeD (k := 15) (v := .pointer (some ⟨N + 1, 0, none⟩)) (d := some 24) rfl rfl (by decide +kernel) (fun _ _ _ h => h) (Or.inl ⟨by simp [Region.wanted, yielded], fun W hW => by obtain ⟨s0, s1, s2, s3⟩ := hW; go_simp⟩) ⟨y0, y1, y2, y3⟩ ?_
    try simp only [Act.put, List.setIfInBounds_toArray, List.set_cons_zero, List.set_cons_succ]
    refine H_takeD (k := 16) (v := .int .i64 1) (d := some 25) rfl rfl (by decide +kernel) (fun _ _ _ h => h) (Or.inl ⟨by simp [Region.wanted, yielded], fun W hW => by obtain ⟨s0, s1, s2, s3⟩ := hW; go_simp⟩) ⟨y0, y1, y2, y3⟩ ?_
    try simp only [Act.put, List.setIfInBounds_toArray, List.set_cons_zero, List.set_cons_succ]
    refine H_takeD (k := 17) (v := .bool true) (d := some 26) rfl rfl (by decide +kernel) (fun _ _ _ h => h) (Or.inl ⟨by simp [Region.wanted, yielded], fun W hW => by obtain ⟨s0, s1, s2, s3⟩ := hW; go_simp⟩) ⟨y0, y1, y2, y3⟩ ?_
    try simp only [Act.put, List.setIfInBounds_toArray, List.set_cons_zero, List.set_cons_succ]
    refine H_takeD (k := 18) (v := .bool true) (d := some 27) rfl rfl (by decide +kernel) (fun _ _ _ h => h) (Or.inl ⟨by rfl, fun W hW => by obtain ⟨s0, s1, s2, s3⟩ := hW; go_simp⟩) ⟨y0, y1, y2, y3⟩ ?_
    try simp only [Act.put, List.setIfInBounds_toArray, List.set_cons_zero, List.set_cons_succ]
    refine H_takeD (k := 19) (v := .bool true) (d := some 28) rfl rfl (by decide +kernel) (fun _ _ _ h => h) (Or.inl ⟨by rfl, fun W hW => by obtain ⟨s0, s1, s2, s3⟩ := hW; go_simp⟩) ⟨y0, y1, y2, y3⟩ ?_
    try simp only [Act.put, List.setIfInBounds_toArray, List.set_cons_zero, List.set_cons_succ]
    refine H_takeD (k := 20) (v := undef) (d := some 29) rfl rfl (by decide +kernel) (fun _ _ _ h => h) (Or.inr ⟨by simp [Region.wanted, yielded, undef], rfl⟩) ⟨y0, y1, y2, y3⟩ ?_
    try simp only [Act.put, List.setIfInBounds_toArray, List.set_cons_zero, List.set_cons_succ]
    refine H_takeD (k := 21) (v := undef) (d := some 30) rfl rfl (by decide +kernel) (fun _ _ _ h => h) (Or.inr ⟨by simp [Region.wanted, yielded, undef], rfl⟩) ⟨y0, y1, y2, y3⟩ ?_
    try simp only [Act.put, List.setIfInBounds_toArray, List.set_cons_zero, List.set_cons_succ]
    refine H_takeD (k := 22) (v := undef) (d := some 31) rfl rfl (by decide +kernel) (fun _ _ _ h => h) (Or.inr ⟨by simp [Region.wanted, yielded, undef], rfl⟩) ⟨y0, y1, y2, y3⟩ ?_
    try simp only [Act.put, List.setIfInBounds_toArray, List.set_cons_zero, List.set_cons_succ]
    refine H_takeD (k := 23) (v := undef) (d := some 32) rfl rfl (by decide +kernel) (fun _ _ _ h => h) (Or.inr ⟨by simp [Region.wanted, yielded, undef], rfl⟩) ⟨y0, y1, y2, y3⟩ ?_
    try simp only [Act.put, List.setIfInBounds_toArray, List.set_cons_zero, List.set_cons_succ]
    refine H_takeD (k := 24) (v := undef) (d := some 33) rfl rfl (by decide +kernel) (fun _ _ _ h => h) (Or.inr ⟨by simp [Region.wanted, yielded, undef], rfl⟩) ⟨y0, y1, y2, y3⟩ ?_
    try simp only [Act.put, List.setIfInBounds_toArray, List.set_cons_zero, List.set_cons_succ]
    refine H_takeD (k := 25) (v := undef) (d := some 34) rfl rfl (by decide +kernel) (fun _ _ _ h => h) (Or.inr ⟨by simp [Region.wanted, yielded, undef], rfl⟩) ⟨y0, y1, y2, y3⟩ ?_
    try simp only [Act.put, List.setIfInBounds_toArray, List.set_cons_zero, List.set_cons_succ]
    refine H_takeD (k := 26) (v := undef) (d := some 35) rfl rfl (by decide +kernel) (fun _ _ _ h => h) (Or.inr ⟨by simp [Region.wanted, yielded, undef], rfl⟩) ⟨y0, y1, y2, y3⟩ ?_
    try simp only [Act.put, List.setIfInBounds_toArray, List.set_cons_zero, List.set_cons_succ]
    refine H_takeD (k := 27) (v := undef) (d := some 36) rfl rfl (by decide +kernel) (fun _ _ _ h => h) (Or.inr ⟨by simp [Region.wanted, yielded, undef], rfl⟩) ⟨y0, y1, y2, y3⟩ ?_
    try simp only [Act.put, List.setIfInBounds_toArray, List.set_cons_zero, List.set_cons_succ]
    refine H_takeD (k := 28) (v := undef) (d := some 37) rfl rfl (by decide +kernel) (fun _ _ _ h => h) (Or.inr ⟨by simp [Region.wanted, yielded, undef], rfl⟩) ⟨y0, y1, y2, y3⟩ ?_
    try simp only [Act.put, List.setIfInBounds_toArray, List.set_cons_zero, List.set_cons_succ]
    refine H_takeD (k := 29) (v := .bool true) (d := some 38) rfl rfl (by decide +kernel) (fun _ _ _ h => h) (Or.inl ⟨by rfl, fun W hW => by obtain ⟨s0, s1, s2, s3⟩ := hW; go_simp⟩) ⟨y0, y1, y2, y3⟩ ?_
    try simp only [Act.put, List.setIfInBounds_toArray, List.set_cons_zero, List.set_cons_succ]
    refine H_end (by decide +kernel) (NoPanic.normal ?_)
    try simp only [Act.put, List.setIfInBounds_toArray, List.set_cons_zero, List.set_cons_succ]
    clear y0 y1 y2 y3
    go_wp2_with fail
    go_ret
    exact ⟨by rw [HE.out]; rfl, HBd.out⟩
  · have HE := Lib.hid (HbL.out (by omega))
    clear HbL
    subst h0
    have hI : ¬ ((m : Int) < 1) := by omega
    have hN0 : ¬ (m < 1) := by omega
    have hJ : (m : Int) > 1 := by omega
    have hN1 : 1 < m := by omega
    have HBd := Lib.hid (show Below w.heap.size w W0.drew from HB.out.drew)
    have y0 : W0.drew.cell? ⟨N, 0, none⟩ = some (.int .i64 0) := v0
    have y1 : W0.drew.cell? ⟨N, 1, none⟩ = some (.slice B m cb) := v1
    have y2 : W0.drew.cell? ⟨N + 1, 0, none⟩ = some (.int .i64 1) := l0
    have y3 : W0.drew.cell? ⟨N + 1 + 1, 0, none⟩ = some (.int .i64 1) := m0
    clear v0 v1 l0 l1 l2 m0 m1 m2
    refine wp_region_noPanic ?_
    refine region_H (S := fun W => W.cell? ⟨N, 0, none⟩ = some (.int .i64 0) ∧ W.cell? ⟨N, 1, none⟩ = some (.slice B m cb) ∧ W.cell? ⟨N + 1, 0, none⟩ = some (.int .i64 1) ∧ W.cell? ⟨N + 1 + 1, 0, none⟩ = some (.int .i64 1)) (by kernel_rfl) ?_
    change wpH _ _ _ _ 30 _ _ W0.drew
    generalize W0.drew = X0 at *
    refine H_takeD (k := 0) (v := .pointer (some ⟨N, 0, none⟩)) (d := some 9) rfl rfl (by decide +kernel) (fun _ _ _ h => h) (Or.inl ⟨by rfl, fun W hW => by obtain ⟨s0, s1, s2, s3⟩ := hW; go_simp⟩) ⟨y0, y1, y2, y3⟩ ?_
    try simp only [Act.put, List.setIfInBounds_toArray, List.set_cons_zero, List.set_cons_succ]
    refine H_takeD (k := 1) (v := .int .i64 0) (d := some 10) rfl rfl (by decide +kernel) (fun _ _ _ h => h) (Or.inl ⟨by rfl, fun W hW => by obtain ⟨s0, s1, s2, s3⟩ := hW; go_simp⟩) ⟨y0, y1, y2, y3⟩ ?_
    try simp only [Act.put, List.setIfInBounds_toArray, List.set_cons_zero, List.set_cons_succ]
    refine H_takeD (k := 2) (v := .bool false) (d := some 11) rfl rfl (by decide +kernel) (fun _ _ _ h => h) (Or.inl ⟨by rfl, fun W hW => by obtain ⟨s0, s1, s2, s3⟩ := hW; go_simp⟩) ⟨y0, y1, y2, y3⟩ ?_
    try simp only [Act.put, List.setIfInBounds_toArray, List.set_cons_zero, List.set_cons_succ]
    refine H_takeD (k := 3) (v := .bool false) (d := some 12) rfl rfl (by decide +kernel) (fun _ _ _ h => h) (Or.inl ⟨by rfl, fun W hW => by obtain ⟨s0, s1, s2, s3⟩ := hW; go_simp⟩) ⟨y0, y1, y2, y3⟩ ?_
    try simp only [Act.put, List.setIfInBounds_toArray, List.set_cons_zero, List.set_cons_succ]
    refine H_takeD (k := 4) (v := .pointer (some ⟨N, 0, none⟩)) (d := some 13) rfl rfl (by decide +kernel) (fun _ _ _ h => h) (Or.inl ⟨by simp [Region.wanted, yielded], fun W hW => by obtain ⟨s0, s1, s2, s3⟩ := hW; go_simp⟩) ⟨y0, y1, y2, y3⟩ ?_
    try simp only [Act.put, List.setIfInBounds_toArray, List.set_cons_zero, List.set_cons_succ]
    refine H_takeD (k := 5) (v := .int .i64 0) (d := some 14) rfl rfl (by decide +kernel) (fun _ _ _ h => h) (Or.inl ⟨by simp [Region.wanted, yielded], fun W hW => by obtain ⟨s0, s1, s2, s3⟩ := hW; go_simp⟩) ⟨y0, y1, y2, y3⟩ ?_
    try simp only [Act.put, List.setIfInBounds_toArray, List.set_cons_zero, List.set_cons_succ]
    refine H_takeD (k := 6) (v := .bool false) (d := some 15) rfl rfl (by decide +kernel) (fun _ _ _ h => h) (Or.inl ⟨by simp [Region.wanted, yielded], fun W hW => by obtain ⟨s0, s1, s2, s3⟩ := hW; go_simp⟩) ⟨y0, y1, y2, y3⟩ ?_
    try simp only [Act.put, List.setIfInBounds_toArray, List.set_cons_zero, List.set_cons_succ]
    refine H_takeD (k := 7) (v := .bool false) (d := some 16) rfl rfl (by decide +kernel) (fun _ _ _ h => h) (Or.inl ⟨by rfl, fun W hW => by obtain ⟨s0, s1, s2, s3⟩ := hW; go_simp⟩) ⟨y0, y1, y2, y3⟩ ?_
    try simp only [Act.put, List.setIfInBounds_toArray, List.set_cons_zero, List.set_cons_succ]
    refine H_takeD (k := 8) (v := .bool false) (d := some 17) rfl rfl (by decide +kernel) (fun _ _ _ h => h) (Or.inl ⟨by rfl, fun W hW => by obtain ⟨s0, s1, s2, s3⟩ := hW; go_simp⟩) ⟨y0, y1, y2, y3⟩ ?_
    try simp only [Act.put, List.setIfInBounds_toArray, List.set_cons_zero, List.set_cons_succ]
    refine H_takeD (k := 9) (v := .pointer (some ⟨N, 1, none⟩)) (d := some 18) rfl rfl (by decide +kernel) (fun _ _ _ h => h) (Or.inl ⟨by simp [Region.wanted, yielded], fun W hW => by obtain ⟨s0, s1, s2, s3⟩ := hW; go_simp⟩) ⟨y0, y1, y2, y3⟩ ?_
    try simp only [Act.put, List.setIfInBounds_toArray, List.set_cons_zero, List.set_cons_succ]
    refine H_takeD (k := 10) (v := .slice B m cb) (d := some 19) rfl rfl (by decide +kernel) (fun _ _ _ h => h) (Or.inl ⟨by simp [Region.wanted, yielded], fun W hW => by obtain ⟨s0, s1, s2, s3⟩ := hW; go_simp⟩) ⟨y0, y1, y2, y3⟩ ?_
    try simp only [Act.put, List.setIfInBounds_toArray, List.set_cons_zero, List.set_cons_succ]
    refine H_takeD (k := 11) (v := .int .i64 (m : Int)) (d := some 20) rfl rfl (by decide +kernel) (fun _ _ _ h => h) (Or.inl ⟨by simp [Region.wanted, yielded], fun W hW => by obtain ⟨s0, s1, s2, s3⟩ := hW; go_simp⟩) ⟨y0, y1, y2, y3⟩ ?_
    try simp only [Act.put, List.setIfInBounds_toArray, List.set_cons_zero, List.set_cons_succ]
    refine H_takeD (k := 12) (v := .slice (some ⟨N + 1, 0, none⟩) 3 3) (d := some 21) rfl rfl (by decide +kernel) (fun _ _ _ h => h) (Or.inl ⟨by simp [Region.wanted, yielded], fun W hW => by obtain ⟨s0, s1, s2, s3⟩ := hW; go_simp⟩) ⟨y0, y1, y2, y3⟩ ?_
    try simp only [Act.put, List.setIfInBounds_toArray, List.set_cons_zero, List.set_cons_succ]
    refine H_takeD (k := 13) (v := .pointer (some ⟨N, 0, none⟩)) (d := some 22) rfl rfl (by decide +kernel) (fun _ _ _ h => h) (Or.inl ⟨by simp [Region.wanted, yielded], fun W hW => by obtain ⟨s0, s1, s2, s3⟩ := hW; go_simp⟩) ⟨y0, y1, y2, y3⟩ ?_
    try simp only [Act.put, List.setIfInBounds_toArray, List.set_cons_zero, List.set_cons_succ]
    refine H_takeD (k := 14) (v := .int .i64 0) (d := some 23) rfl rfl (by decide +kernel) (fun _ _ _ h => h) (Or.inl ⟨by simp [Region.wanted, yielded], fun W hW => by obtain ⟨s0, s1, s2, s3⟩ := hW; go_simp⟩) ⟨y0, y1, y2, y3⟩ ?_
    try simp only [Act.put, List.setIfInBounds_toArray, List.set_cons_zero, List.set_cons_succ]
    refine H_takeD (k := 15) (v := .pointer (some ⟨N + 1, 0, none⟩)) (d := some 24) rfl rfl (by decide +kernel) (fun _ _ _ h => h) (Or.inl ⟨by simp [Region.wanted, yielded], fun W hW => by obtain ⟨s0, s1, s2, s3⟩ := hW; go_simp⟩) ⟨y0, y1, y2, y3⟩ ?_
    try simp only [Act.put, List.setIfInBounds_toArray, List.set_cons_zero, List.set_cons_succ]
    refine H_takeD (k := 16) (v := .int .i64 1) (d := some 25) rfl rfl (by decide +kernel) (fun _ _ _ h => h) (Or.inl ⟨by simp [Region.wanted, yielded], fun W hW => by obtain ⟨s0, s1, s2, s3⟩ := hW; go_simp⟩) ⟨y0, y1, y2, y3⟩ ?_
    try simp only [Act.put, List.setIfInBounds_toArray, List.set_cons_zero, List.set_cons_succ]
    refine H_takeD (k := 17) (v := .bool false) (d := some 26) rfl rfl (by decide +kernel) (fun _ _ _ h => h) (Or.inl ⟨by simp [Region.wanted, yielded], fun W hW => by obtain ⟨s0, s1, s2, s3⟩ := hW; go_simp⟩) ⟨y0, y1, y2, y3⟩ ?_
    try simp only [Act.put, List.setIfInBounds_toArray, List.set_cons_zero, List.set_cons_succ]
    refine H_takeD (k := 18) (v := .bool false) (d := some 27) rfl rfl (by decide +kernel) (fun _ _ _ h => h) (Or.inl ⟨by rfl, fun W hW => by obtain ⟨s0, s1, s2, s3⟩ := hW; go_simp⟩) ⟨y0, y1, y2, y3⟩ ?_
    try simp only [Act.put, List.setIfInBounds_toArray, List.set_cons_zero, List.set_cons_succ]
    refine H_takeD (k := 19) (v := .bool false) (d := some 28) rfl rfl (by decide +kernel) (fun _ _ _ h => h) (Or.inl ⟨by rfl, fun W hW => by obtain ⟨s0, s1, s2, s3⟩ := hW; go_simp⟩) ⟨y0, y1, y2, y3⟩ ?_
    try simp only [Act.put, List.setIfInBounds_toArray, List.set_cons_zero, List.set_cons_succ]
    refine H_takeD (k := 20) (v := .pointer (some ⟨N, 1, none⟩)) (d := some 29) rfl rfl (by decide +kernel) (fun _ _ _ h => h) (Or.inl ⟨by simp [Region.wanted, yielded], fun W hW => by obtain ⟨s0, s1, s2, s3⟩ := hW; go_simp⟩) ⟨y0, y1, y2, y3⟩ ?_
    try simp only [Act.put, List.setIfInBounds_toArray, List.set_cons_zero, List.set_cons_succ]
    refine H_takeD (k := 21) (v := .slice B m cb) (d := some 30) rfl rfl (by decide +kernel) (fun _ _ _ h => h) (Or.inl ⟨by simp [Region.wanted, yielded], fun W hW => by obtain ⟨s0, s1, s2, s3⟩ := hW; go_simp⟩) ⟨y0, y1, y2, y3⟩ ?_
    try simp only [Act.put, List.setIfInBounds_toArray, List.set_cons_zero, List.set_cons_succ]
    refine H_takeD (k := 22) (v := .int .i64 (m : Int)) (d := some 31) rfl rfl (by decide +kernel) (fun _ _ _ h => h) (Or.inl ⟨by simp [Region.wanted, yielded], fun W hW => by obtain ⟨s0, s1, s2, s3⟩ := hW; go_simp⟩) ⟨y0, y1, y2, y3⟩ ?_
    try simp only [Act.put, List.setIfInBounds_toArray, List.set_cons_zero, List.set_cons_succ]
    refine H_takeD (k := 23) (v := .slice (some ⟨N + 1 + 1, 0, none⟩) 3 3) (d := some 32) rfl rfl (by decide +kernel) (fun _ _ _ h => h) (Or.inl ⟨by simp [Region.wanted, yielded], fun W hW => by obtain ⟨s0, s1, s2, s3⟩ := hW; go_simp⟩) ⟨y0, y1, y2, y3⟩ ?_
    try simp only [Act.put, List.setIfInBounds_toArray, List.set_cons_zero, List.set_cons_succ]
    refine H_takeD (k := 24) (v := .pointer (some ⟨N, 0, none⟩)) (d := some 33) rfl rfl (by decide +kernel) (fun _ _ _ h => h) (Or.inl ⟨by simp [Region.wanted, yielded], fun W hW => by obtain ⟨s0, s1, s2, s3⟩ := hW; go_simp⟩) ⟨y0, y1, y2, y3⟩ ?_
    try simp only [Act.put, List.setIfInBounds_toArray, List.set_cons_zero, List.set_cons_succ]
    refine H_takeD (k := 25) (v := .int .i64 0) (d := some 34) rfl rfl (by decide +kernel) (fun _ _ _ h => h) (Or.inl ⟨by simp [Region.wanted, yielded], fun W hW => by obtain ⟨s0, s1, s2, s3⟩ := hW; go_simp⟩) ⟨y0, y1, y2, y3⟩ ?_
    try simp only [Act.put, List.setIfInBounds_toArray, List.set_cons_zero, List.set_cons_succ]
    refine H_takeD (k := 26) (v := .pointer (some ⟨N + 1 + 1, 0, none⟩)) (d := some 35) rfl rfl (by decide +kernel) (fun _ _ _ h => h) (Or.inl ⟨by simp [Region.wanted, yielded], fun W hW => by obtain ⟨s0, s1, s2, s3⟩ := hW; go_simp⟩) ⟨y0, y1, y2, y3⟩ ?_
    try simp only [Act.put, List.setIfInBounds_toArray, List.set_cons_zero, List.set_cons_succ]
    refine H_takeD (k := 27) (v := .int .i64 1) (d := some 36) rfl rfl (by decide +kernel) (fun _ _ _ h => h) (Or.inl ⟨by simp [Region.wanted, yielded], fun W hW => by obtain ⟨s0, s1, s2, s3⟩ := hW; go_simp⟩) ⟨y0, y1, y2, y3⟩ ?_
    try simp only [Act.put, List.setIfInBounds_toArray, List.set_cons_zero, List.set_cons_succ]
    refine H_takeD (k := 28) (v := .bool true) (d := some 37) rfl rfl (by decide +kernel) (fun _ _ _ h => h) (Or.inl ⟨by simp [Region.wanted, yielded], fun W hW => by obtain ⟨s0, s1, s2, s3⟩ := hW; go_simp⟩) ⟨y0, y1, y2, y3⟩ ?_
    try simp only [Act.put, List.setIfInBounds_toArray, List.set_cons_zero, List.set_cons_succ]
    refine H_takeD (k := 29) (v := .bool true) (d := some 38) rfl rfl (by decide +kernel) (fun _ _ _ h => h) (Or.inl ⟨by rfl, fun W hW => by obtain ⟨s0, s1, s2, s3⟩ := hW; go_simp⟩) ⟨y0, y1, y2, y3⟩ ?_
    try simp only [Act.put, List.setIfInBounds_toArray, List.set_cons_zero, List.set_cons_succ]
    refine H_end (by decide +kernel) (NoPanic.normal ?_)
    try simp only [Act.put, List.setIfInBounds_toArray, List.set_cons_zero, List.set_cons_succ]
    clear y0 y1 y2 y3
    go_wp2_with fail
    go_ret
    exact ⟨by rw [HE.out]; rfl, HBd.out⟩
  · have HLn := Lib.hid (show lenOK k os.length = true from by unfold lenOK; rw [hm.out]; exact decide_eq_true (by omega))
    clear HbL
    subst h0
    have hI : ¬ ((m : Int) < 1) := by omega
    have hN0 : ¬ (m < 1) := by omega
    have hJ : ¬ ((m : Int) > 1) := by omega
    have hN1 : ¬ (1 < m) := by omega
    have H1 := Lib.hid h1
    clear h1
    have Hv := Lib.hid (show ∀ W, Qt W0 W → W.cell? ⟨N, 1, none⟩ = some (.slice B m cb) from fun W h => cell_qt v1 h)
    have Hq0 := Lib.hid (show Qt W0 W0.drew from ⟨1, rfl⟩)
    have HBd := Lib.hid (show Below w.heap.size w W0.drew from HB.out.drew)
    have y0 : W0.drew.cell? ⟨N, 0, none⟩ = some (.int .i64 0) := v0
    have y1 : W0.drew.cell? ⟨N, 1, none⟩ = some (.slice B m cb) := v1
    have y2 : W0.drew.cell? ⟨N + 1, 0, none⟩ = some (.int .i64 1) := l0
    have y3 : W0.drew.cell? ⟨N + 1 + 1, 0, none⟩ = some (.int .i64 1) := m0
    clear v0 v1 l0 l1 l2 m0 m1 m2
    refine wp_region_noPanic ?_
    refine region_H (S := fun W => W.cell? ⟨N, 0, none⟩ = some (.int .i64 0) ∧ W.cell? ⟨N, 1, none⟩ = some (.slice B m cb) ∧ W.cell? ⟨N + 1, 0, none⟩ = some (.int .i64 1) ∧ W.cell? ⟨N + 1 + 1, 0, none⟩ = some (.int .i64 1)) (by kernel_rfl) ?_
    change wpH _ _ _ _ 30 _ _ W0.drew
    generalize W0.drew = X0 at *
    refine H_takeD (k := 0) (v := .pointer (some ⟨N, 0, none⟩)) (d := some 9) rfl rfl (by decide +kernel) (fun _ _ _ h => h) (Or.inl ⟨by rfl, fun W hW => by obtain ⟨s0, s1, s2, s3⟩ := hW; go_simp⟩) ⟨y0, y1, y2, y3⟩ ?_
    try simp only [Act.put, List.setIfInBounds_toArray, List.set_cons_zero, List.set_cons_succ]
    refine H_takeD (k := 1) (v := .int .i64 0) (d := some 10) rfl rfl (by decide +kernel) (fun _ _ _ h => h) (Or.inl ⟨by rfl, fun W hW => by obtain ⟨s0, s1, s2, s3⟩ := hW; go_simp⟩) ⟨y0, y1, y2, y3⟩ ?_
    try simp only [Act.put, List.setIfInBounds_toArray, List.set_cons_zero, List.set_cons_succ]
    refine H_takeD (k := 2) (v := .bool false) (d := some 11) rfl rfl (by decide +kernel) (fun _ _ _ h => h) (Or.inl ⟨by rfl, fun W hW => by obtain ⟨s0, s1, s2, s3⟩ := hW; go_simp⟩) ⟨y0, y1, y2, y3⟩ ?_
    try simp only [Act.put, List.setIfInBounds_toArray, List.set_cons_zero, List.set_cons_succ]
    refine H_takeD (k := 3) (v := .bool false) (d := some 12) rfl rfl (by decide +kernel) (fun _ _ _ h => h) (Or.inl ⟨by rfl, fun W hW => by obtain ⟨s0, s1, s2, s3⟩ := hW; go_simp⟩) ⟨y0, y1, y2, y3⟩ ?_
    try simp only [Act.put, List.setIfInBounds_toArray, List.set_cons_zero, List.set_cons_succ]
    refine H_takeD (k := 4) (v := .pointer (some ⟨N, 0, none⟩)) (d := some 13) rfl rfl (by decide +kernel) (fun _ _ _ h => h) (Or.inl ⟨by simp [Region.wanted, yielded], fun W hW => by obtain ⟨s0, s1, s2, s3⟩ := hW; go_simp⟩) ⟨y0, y1, y2, y3⟩ ?_
    try simp only [Act.put, List.setIfInBounds_toArray, List.set_cons_zero, List.set_cons_succ]
    refine H_takeD (k := 5) (v := .int .i64 0) (d := some 14) rfl rfl (by decide +kernel) (fun _ _ _ h => h) (Or.inl ⟨by simp [Region.wanted, yielded], fun W hW => by obtain ⟨s0, s1, s2, s3⟩ := hW; go_simp⟩) ⟨y0, y1, y2, y3⟩ ?_
    try simp only [Act.put, List.setIfInBounds_toArray, List.set_cons_zero, List.set_cons_succ]
    refine H_takeD (k := 6) (v := .bool false) (d := some 15) rfl rfl (by decide +kernel) (fun _ _ _ h => h) (Or.inl ⟨by simp [Region.wanted, yielded], fun W hW => by obtain ⟨s0, s1, s2, s3⟩ := hW; go_simp⟩) ⟨y0, y1, y2, y3⟩ ?_
    try simp only [Act.put, List.setIfInBounds_toArray, List.set_cons_zero, List.set_cons_succ]
    refine H_takeD (k := 7) (v := .bool false) (d := some 16) rfl rfl (by decide +kernel) (fun _ _ _ h => h) (Or.inl ⟨by rfl, fun W hW => by obtain ⟨s0, s1, s2, s3⟩ := hW; go_simp⟩) ⟨y0, y1, y2, y3⟩ ?_
    try simp only [Act.put, List.setIfInBounds_toArray, List.set_cons_zero, List.set_cons_succ]
    refine H_takeD (k := 8) (v := .bool false) (d := some 17) rfl rfl (by decide +kernel) (fun _ _ _ h => h) (Or.inl ⟨by rfl, fun W hW => by obtain ⟨s0, s1, s2, s3⟩ := hW; go_simp⟩) ⟨y0, y1, y2, y3⟩ ?_
    try simp only [Act.put, List.setIfInBounds_toArray, List.set_cons_zero, List.set_cons_succ]
    refine H_takeD (k := 9) (v := .pointer (some ⟨N, 1, none⟩)) (d := some 18) rfl rfl (by decide +kernel) (fun _ _ _ h => h) (Or.inl ⟨by simp [Region.wanted, yielded], fun W hW => by obtain ⟨s0, s1, s2, s3⟩ := hW; go_simp⟩) ⟨y0, y1, y2, y3⟩ ?_
    try simp only [Act.put, List.setIfInBounds_toArray, List.set_cons_zero, List.set_cons_succ]
    refine H_takeD (k := 10) (v := .slice B m cb) (d := some 19) rfl rfl (by decide +kernel) (fun _ _ _ h => h) (Or.inl ⟨by simp [Region.wanted, yielded], fun W hW => by obtain ⟨s0, s1, s2, s3⟩ := hW; go_simp⟩) ⟨y0, y1, y2, y3⟩ ?_
    try simp only [Act.put, List.setIfInBounds_toArray, List.set_cons_zero, List.set_cons_succ]
    refine H_takeD (k := 11) (v := .int .i64 (m : Int)) (d := some 20) rfl rfl (by decide +kernel) (fun _ _ _ h => h) (Or.inl ⟨by simp [Region.wanted, yielded], fun W hW => by obtain ⟨s0, s1, s2, s3⟩ := hW; go_simp⟩) ⟨y0, y1, y2, y3⟩ ?_
    try simp only [Act.put, List.setIfInBounds_toArray, List.set_cons_zero, List.set_cons_succ]
    refine H_takeD (k := 12) (v := .slice (some ⟨N + 1, 0, none⟩) 3 3) (d := some 21) rfl rfl (by decide +kernel) (fun _ _ _ h => h) (Or.inl ⟨by simp [Region.wanted, yielded], fun W hW => by obtain ⟨s0, s1, s2, s3⟩ := hW; go_simp⟩) ⟨y0, y1, y2, y3⟩ ?_
    try simp only [Act.put, List.setIfInBounds_toArray, List.set_cons_zero, List.set_cons_succ]
    refine H_takeD (k := 13) (v := .pointer (some ⟨N, 0, none⟩)) (d := some 22) rfl rfl (by decide +kernel) (fun _ _ _ h => h) (Or.inl ⟨by simp [Region.wanted, yielded], fun W hW => by obtain ⟨s0, s1, s2, s3⟩ := hW; go_simp⟩) ⟨y0, y1, y2, y3⟩ ?_
    try simp only [Act.put, List.setIfInBounds_toArray, List.set_cons_zero, List.set_cons_succ]
    refine H_takeD (k := 14) (v := .int .i64 0) (d := some 23) rfl rfl (by decide +kernel) (fun _ _ _ h => h) (Or.inl ⟨by simp [Region.wanted, yielded], fun W hW => by obtain ⟨s0, s1, s2, s3⟩ := hW; go_simp⟩) ⟨y0, y1, y2, y3⟩ ?_
    try simp only [Act.put, List.setIfInBounds_toArray, List.set_cons_zero, List.set_cons_succ]
    refine H_takeD (k := 15) (v := .pointer (some ⟨N + 1, 0, none⟩)) (d := some 24) rfl rfl (by decide +kernel) (fun _ _ _ h => h) (Or.inl ⟨by simp [Region.wanted, yielded], fun W hW => by obtain ⟨s0, s1, s2, s3⟩ := hW; go_simp⟩) ⟨y0, y1, y2, y3⟩ ?_
    try simp only [Act.put, List.setIfInBounds_toArray, List.set_cons_zero, List.set_cons_succ]
    refine H_takeD (k := 16) (v := .int .i64 1) (d := some 25) rfl rfl (by decide +kernel) (fun _ _ _ h => h) (Or.inl ⟨by simp [Region.wanted, yielded], fun W hW => by obtain ⟨s0, s1, s2, s3⟩ := hW; go_simp⟩) ⟨y0, y1, y2, y3⟩ ?_
    try simp only [Act.put, List.setIfInBounds_toArray, List.set_cons_zero, List.set_cons_succ]
    refine H_takeD (k := 17) (v := .bool false) (d := some 26) rfl rfl (by decide +kernel) (fun _ _ _ h => h) (Or.inl ⟨by simp [Region.wanted, yielded], fun W hW => by obtain ⟨s0, s1, s2, s3⟩ := hW; go_simp⟩) ⟨y0, y1, y2, y3⟩ ?_
    try simp only [Act.put, List.setIfInBounds_toArray, List.set_cons_zero, List.set_cons_succ]
    refine H_takeD (k := 18) (v := .bool false) (d := some 27) rfl rfl (by decide +kernel) (fun _ _ _ h => h) (Or.inl ⟨by rfl, fun W hW => by obtain ⟨s0, s1, s2, s3⟩ := hW; go_simp⟩) ⟨y0, y1, y2, y3⟩ ?_
    try simp only [Act.put, List.setIfInBounds_toArray, List.set_cons_zero, List.set_cons_succ]
    refine H_takeD (k := 19) (v := .bool false) (d := some 28) rfl rfl (by decide +kernel) (fun _ _ _ h => h) (Or.inl ⟨by rfl, fun W hW => by obtain ⟨s0, s1, s2, s3⟩ := hW; go_simp⟩) ⟨y0, y1, y2, y3⟩ ?_
    try simp only [Act.put, List.setIfInBounds_toArray, List.set_cons_zero, List.set_cons_succ]
    refine H_takeD (k := 20) (v := .pointer (some ⟨N, 1, none⟩)) (d := some 29) rfl rfl (by decide +kernel) (fun _ _ _ h => h) (Or.inl ⟨by simp [Region.wanted, yielded], fun W hW => by obtain ⟨s0, s1, s2, s3⟩ := hW; go_simp⟩) ⟨y0, y1, y2, y3⟩ ?_
    try simp only [Act.put, List.setIfInBounds_toArray, List.set_cons_zero, List.set_cons_succ]
    refine H_takeD (k := 21) (v := .slice B m cb) (d := some 30) rfl rfl (by decide +kernel) (fun _ _ _ h => h) (Or.inl ⟨by simp [Region.wanted, yielded], fun W hW => by obtain ⟨s0, s1, s2, s3⟩ := hW; go_simp⟩) ⟨y0, y1, y2, y3⟩ ?_
    try simp only [Act.put, List.setIfInBounds_toArray, List.set_cons_zero, List.set_cons_succ]
    refine H_takeD (k := 22) (v := .int .i64 (m : Int)) (d := some 31) rfl rfl (by decide +kernel) (fun _ _ _ h => h) (Or.inl ⟨by simp [Region.wanted, yielded], fun W hW => by obtain ⟨s0, s1, s2, s3⟩ := hW; go_simp⟩) ⟨y0, y1, y2, y3⟩ ?_
    try simp only [Act.put, List.setIfInBounds_toArray, List.set_cons_zero, List.set_cons_succ]
    refine H_takeD (k := 23) (v := .slice (some ⟨N + 1 + 1, 0, none⟩) 3 3) (d := some 32) rfl rfl (by decide +kernel) (fun _ _ _ h => h) (Or.inl ⟨by simp [Region.wanted, yielded], fun W hW => by obtain ⟨s0, s1, s2, s3⟩ := hW; go_simp⟩) ⟨y0, y1, y2, y3⟩ ?_
    try simp only [Act.put, List.setIfInBounds_toArray, List.set_cons_zero, List.set_cons_succ]
    refine H_takeD (k := 24) (v := .pointer (some ⟨N, 0, none⟩)) (d := some 33) rfl rfl (by decide +kernel) (fun _ _ _ h => h) (Or.inl ⟨by simp [Region.wanted, yielded], fun W hW => by obtain ⟨s0, s1, s2, s3⟩ := hW; go_simp⟩) ⟨y0, y1, y2, y3⟩ ?_
    try simp only [Act.put, List.setIfInBounds_toArray, List.set_cons_zero, List.set_cons_succ]
    refine H_takeD (k := 25) (v := .int .i64 0) (d := some 34) rfl rfl (by decide +kernel) (fun _ _ _ h => h) (Or.inl ⟨by simp [Region.wanted, yielded], fun W hW => by obtain ⟨s0, s1, s2, s3⟩ := hW; go_simp⟩) ⟨y0, y1, y2, y3⟩ ?_
    try simp only [Act.put, List.setIfInBounds_toArray, List.set_cons_zero, List.set_cons_succ]
    refine H_takeD (k := 26) (v := .pointer (some ⟨N + 1 + 1, 0, none⟩)) (d := some 35) rfl rfl (by decide +kernel) (fun _ _ _ h => h) (Or.inl ⟨by simp [Region.wanted, yielded], fun W hW => by obtain ⟨s0, s1, s2, s3⟩ := hW; go_simp⟩) ⟨y0, y1, y2, y3⟩ ?_
    try simp only [Act.put, List.setIfInBounds_toArray, List.set_cons_zero, List.set_cons_succ]
    refine H_takeD (k := 27) (v := .int .i64 1) (d := some 36) rfl rfl (by decide +kernel) (fun _ _ _ h => h) (Or.inl ⟨by simp [Region.wanted, yielded], fun W hW => by obtain ⟨s0, s1, s2, s3⟩ := hW; go_simp⟩) ⟨y0, y1, y2, y3⟩ ?_
    try simp only [Act.put, List.setIfInBounds_toArray, List.set_cons_zero, List.set_cons_succ]
    refine H_takeD (k := 28) (v := .bool false) (d := some 37) rfl rfl (by decide +kernel) (fun _ _ _ h => h) (Or.inl ⟨by simp [Region.wanted, yielded], fun W hW => by obtain ⟨s0, s1, s2, s3⟩ := hW; go_simp⟩) ⟨y0, y1, y2, y3⟩ ?_
    try simp only [Act.put, List.setIfInBounds_toArray, List.set_cons_zero, List.set_cons_succ]
    refine H_takeD (k := 29) (v := .bool false) (d := some 38) rfl rfl (by decide +kernel) (fun _ _ _ h => h) (Or.inl ⟨by rfl, fun W hW => by obtain ⟨s0, s1, s2, s3⟩ := hW; go_simp⟩) ⟨y0, y1, y2, y3⟩ ?_
    try simp only [Act.put, List.setIfInBounds_toArray, List.set_cons_zero, List.set_cons_succ]
    refine H_end (by decide +kernel) (NoPanic.normal ?_)
    try simp only [Act.put, List.setIfInBounds_toArray, List.set_cons_zero, List.set_cons_succ]
    clear y0 y1 y2 y3 hI hN0 hJ hN1
    go_wp2_with fail
    go_loopw [5] (fun iv wr => ∃ i : Nat, i ≤ m ∧ iv = .int .i64 (i : Int) ∧ Hid (∀ j x, j < i → os[j]? = some x → badO x = false) ∧ Hid (os.take i).Nodup ∧ Hid (Qt W0 wr)) (fun iv _ => m - (intOf iv).toNat)
    case atStart => exact ⟨0, by omega, rfl, Lib.hid (fun j _ hj => by omega), Lib.hid (by simp), Hq0⟩
    case round =>
      clear Hq0
      obtain ⟨i, hi, rfl, Hb, Hn, Hq⟩ := hrel
      have v1 := Hv.out wr Hq.out
      by_cases hlt : i < m
      · obtain ⟨b, o, x, hBe, c0, hx⟩ := (HI.out.qt Hq.out).get (k := i) (by rw [hm.out]; exact hlt)
        have hmi : ¬ (m ≤ i) := by omega
        rw [hBe] at v1
        rw [hBe]
        clear hBe
        have hxc : x < 0 ∨ (¬ x < 0 ∧ x > 63) ∨ (¬ x < 0 ∧ ¬ x > 63) := by omega
        rcases hxc with h0 | ⟨h0, h1⟩ | ⟨h0, h1⟩
        · have HE := Lib.hid (vwE_bad (k := 0) (any_bad hx.out (by unfold badO inB; simp; omega)))
          go_wp2_with fail
          go_ret
          exact ⟨by rw [HE.out]; rfl, Hq.out.bl HB.out⟩
        · have HE := Lib.hid (vwE_bad (k := 0) (any_bad hx.out (by unfold badO inB; simp; omega)))
          go_wp2_with fail
          go_ret
          exact ⟨by rw [HE.out]; rfl, Hq.out.bl HB.out⟩
        · have Hb2 := Lib.hid (show ∀ j y, j < i + 1 → os[j]? = some y → badO y = false from fun j y hj hy => by
            by_cases e : j = i
            · subst e; rw [hx.out] at hy; injection hy with hy; rw [← hy]; exact badO_iff.2 (by omega)
            · exact Hb.out j y (by omega) hy)
          clear Hb
          go_wp2_with fail
          generalize wr = w1 at *
          go_loopw [6] (fun jv wr => ∃ j : Nat, j ≤ i ∧ jv = .int .i64 (j : Int) ∧ Hid (∀ q, q < j → os[q]? ≠ some x) ∧ Hid (Qt W0 wr)) (fun jv _ => i - (intOf jv).toNat)
          case atStart => exact ⟨0, by omega, rfl, Lib.hid (fun q hq => by omega), Hq⟩
          case round =>
            clear Hq v1 c0
            obtain ⟨j, hj, rfl, Ha, Hq⟩ := hrel
            have v1 := Hv.out wr Hq.out
            by_cases hlt2 : j < i
            · obtain ⟨b1, o1, y, hBe, d0, hy⟩ := (HI.out.qt Hq.out).get (k := j) (by rw [hm.out]; omega)
              obtain ⟨b2, o2, x', hBe2, c0, hx2⟩ := (HI.out.qt Hq.out).get (k := i) (by rw [hm.out]; omega)
              have hxx : x' = x := by have := hx2.out; rw [hx.out] at this; injection this with this; exact this.symm
              subst hxx
              have hmj : ¬ (m ≤ j) := by omega
              have hjm : j < m := by omega
              have hmi2 : ¬ (m ≤ i) := by omega
              rw [hBe] at hBe2
              injection hBe2 with hBe2
              injection hBe2 with e1 e2
              subst e1 e2
              rw [hBe] at v1
              clear hBe hx2
              go_wp2
              go_quiet (fail)
              have Hq2 := Lib.hid (Hq.out.drewN nq)
              clear Hq v1 c0 d0
              cases he : (y == x')
              · have Ha2 := Lib.hid (show ∀ q, q < j + 1 → os[q]? ≠ some x' from fun q hq => by
                  by_cases e : q = j
                  · subst e; rw [hy.out]; intro e; injection e with e; rw [e] at he; simp at he
                  · exact Ha.out q (by omega))
                clear he
                go_wp2_with fail
                go_roundw
                case rel => exact ⟨j + 1, by omega, by go_num, Ha2, Hq2⟩
                case measure => simp [intOf]; omega
              · have hyx : y = x' := by simpa using he
                have HE := Lib.hid (vwE_dup (k := 0) (dup_at hlt2 hx.out (hyx ▸ hy.out)))
                clear he hyx
                go_wp2_with fail
                go_ret
                exact ⟨by rw [HE.out]; rfl, Hq2.out.bl HB.out⟩
            · obtain rfl : j = i := by omega
              have Hn2 := Lib.hid (nodup_next hx.out Hn.out (fun q hq => Ha.out q hq))
              clear Ha Hn
              go_wp2_with fail
              go_roundw
              case rel => exact ⟨j + 1, by omega, by go_num, Hb2, Hn2, Hq⟩
              case measure => simp [intOf]; omega
      · obtain rfl : i = m := by omega
        have HE := Lib.hid (show vwE 0 os = 0 from vwE_ok HLn.out (by have h := Hn.out; rw [List.take_of_length_le (by rw [hm.out]; exact Nat.le_refl _)] at h; exact h) (by
          rw [List.any_eq_false]
          intro x hx
          obtain ⟨j, hj⟩ := List.mem_iff_getElem?.1 hx
          rw [Hb.out j x (by have := (List.getElem?_eq_some_iff.1 hj).1; rw [hm.out] at this; exact this) hj]
          decide))
        clear Hb Hn
        go_wp2_with fail
        go_ret
        exact ⟨by rw [HE.out]; rfl, Hq.out.bl HB.out⟩
  · have HE := Lib.hid (HbL.out (by omega))
    clear HbL
    subst h0
    have hI : (m : Int) < 1 := by omega
    have hN0 : m < 1 := by omega
    have HBd := Lib.hid (show Below w.heap.size w W0.drew from HB.out.drew)
    have y0 : W0.drew.cell? ⟨N, 0, none⟩ = some (.int .i64 1) := v0
    have y1 : W0.drew.cell? ⟨N, 1, none⟩ = some (.slice B m cb) := v1
    have y2 : W0.drew.cell? ⟨N + 1, 1, none⟩ = some (.int .i64 1) := l1
    have y3 : W0.drew.cell? ⟨N + 1 + 1, 1, none⟩ = some (.int .i64 8) := m1
    clear v0 v1 l0 l1 l2 m0 m1 m2
    refine wp_region_noPanic ?_
    refine region_H (S := fun W => W.cell? ⟨N, 0, none⟩ = some (.int .i64 1) ∧ W.cell? ⟨N, 1, none⟩ = some (.slice B m cb) ∧ W.cell? ⟨N + 1, 1, none⟩ = some (.int .i64 1) ∧ W.cell? ⟨N + 1 + 1, 1, none⟩ = some (.int .i64 8)) (by kernel_rfl) ?_
    change wpH _ _ _ _ 30 _ _ W0.drew
    generalize W0.drew = X0 at *
    refine H_takeD (k := 0) (v := .pointer (some ⟨N, 0, none⟩)) (d := some 9) rfl rfl (by decide +kernel) (fun _ _ _ h => h) (Or.inl ⟨by rfl, fun W hW => by obtain ⟨s0, s1, s2, s3⟩ := hW; go_simp⟩) ⟨y0, y1, y2, y3⟩ ?_
    try simp only [Act.put, List.setIfInBounds_toArray, List.set_cons_zero, List.set_cons_succ]
    refine H_takeD (k := 1) (v := .int .i64 1) (d := some 10) rfl rfl (by decide +kernel) (fun _ _ _ h => h) (Or.inl ⟨by rfl, fun W hW => by obtain ⟨s0, s1, s2, s3⟩ := hW; go_simp⟩) ⟨y0, y1, y2, y3⟩ ?_
    try simp only [Act.put, List.setIfInBounds_toArray, List.set_cons_zero, List.set_cons_succ]
    refine H_takeD (k := 2) (v := .bool false) (d := some 11) rfl rfl (by decide +kernel) (fun _ _ _ h => h) (Or.inl ⟨by rfl, fun W hW => by obtain ⟨s0, s1, s2, s3⟩ := hW; go_simp⟩) ⟨y0, y1, y2, y3⟩ ?_
    try simp only [Act.put, List.setIfInBounds_toArray, List.set_cons_zero, List.set_cons_succ]
    refine H_takeD (k := 3) (v := .bool false) (d := some 12) rfl rfl (by decide +kernel) (fun _ _ _ h => h) (Or.inl ⟨by rfl, fun W hW => by obtain ⟨s0, s1, s2, s3⟩ := hW; go_simp⟩) ⟨y0, y1, y2, y3⟩ ?_
    try simp only [Act.put, List.setIfInBounds_toArray, List.set_cons_zero, List.set_cons_succ]
    refine H_takeD (k := 4) (v := .pointer (some ⟨N, 0, none⟩)) (d := some 13) rfl rfl (by decide +kernel) (fun _ _ _ h => h) (Or.inl ⟨by simp [Region.wanted, yielded], fun W hW => by obtain ⟨s0, s1, s2, s3⟩ := hW; go_simp⟩) ⟨y0, y1, y2, y3⟩ ?_
    try simp only [Act.put, List.setIfInBounds_toArray, List.set_cons_zero, List.set_cons_succ]
    refine H_takeD (k := 5) (v := .int .i64 1) (d := some 14) rfl rfl (by decide +kernel) (fun _ _ _ h => h) (Or.inl ⟨by simp [Region.wanted, yielded], fun W hW => by obtain ⟨s0, s1, s2, s3⟩ := hW; go_simp⟩) ⟨y0, y1, y2, y3⟩ ?_
    try simp only [Act.put, List.setIfInBounds_toArray, List.set_cons_zero, List.set_cons_succ]
    refine H_takeD (k := 6) (v := .bool false) (d := some 15) rfl rfl (by decide +kernel) (fun _ _ _ h => h) (Or.inl ⟨by simp [Region.wanted, yielded], fun W hW => by obtain ⟨s0, s1, s2, s3⟩ := hW; go_simp⟩) ⟨y0, y1, y2, y3⟩ ?_
    try simp only [Act.put, List.setIfInBounds_toArray, List.set_cons_zero, List.set_cons_succ]
    refine H_takeD (k := 7) (v := .bool false) (d := some 16) rfl rfl (by decide +kernel) (fun _ _ _ h => h) (Or.inl ⟨by rfl, fun W hW => by obtain ⟨s0, s1, s2, s3⟩ := hW; go_simp⟩) ⟨y0, y1, y2, y3⟩ ?_
    try simp only [Act.put, List.setIfInBounds_toArray, List.set_cons_zero, List.set_cons_succ]
    refine H_takeD (k := 8) (v := .bool false) (d := some 17) rfl rfl (by decide +kernel) (fun _ _ _ h => h) (Or.inl ⟨by rfl, fun W hW => by obtain ⟨s0, s1, s2, s3⟩ := hW; go_simp⟩) ⟨y0, y1, y2, y3⟩ ?_
    try simp only [Act.put, List.setIfInBounds_toArray, List.set_cons_zero, List.set_cons_succ]
    refine H_takeD (k := 9) (v := .pointer (some ⟨N, 1, none⟩)) (d := some 18) rfl rfl (by decide +kernel) (fun _ _ _ h => h) (Or.inl ⟨by simp [Region.wanted, yielded], fun W hW => by obtain ⟨s0, s1, s2, s3⟩ := hW; go_simp⟩) ⟨y0, y1, y2, y3⟩ ?_
    try simp only [Act.put, List.setIfInBounds_toArray, List.set_cons_zero, List.set_cons_succ]
    refine H_takeD (k := 10) (v := .slice B m cb) (d := some 19) rfl rfl (by decide +kernel) (fun _ _ _ h => h) (Or.inl ⟨by simp [Region.wanted, yielded], fun W hW => by obtain ⟨s0, s1, s2, s3⟩ := hW; go_simp⟩) ⟨y0, y1, y2, y3⟩ ?_
    try simp only [Act.put, List.setIfInBounds_toArray, List.set_cons_zero, List.set_cons_succ]
    refine H_takeD (k := 11) (v := .int .i64 (m : Int)) (d := some 20) rfl rfl (by decide +kernel) (fun _ _ _ h => h) (Or.inl ⟨by simp [Region.wanted, yielded], fun W hW => by obtain ⟨s0, s1, s2, s3⟩ := hW; go_simp⟩) ⟨y0, y1, y2, y3⟩ ?_
    try simp only [Act.put, List.setIfInBounds_toArray, List.set_cons_zero, List.set_cons_succ]
    refine H_takeD (k := 12) (v := .slice (some ⟨N + 1, 0, none⟩) 3 3) (d := some 21) rfl rfl (by decide +kernel) (fun _ _ _ h => h) (Or.inl ⟨by simp [Region.wanted, yielded], fun W hW => by obtain ⟨s0, s1, s2, s3⟩ := hW; go_simp⟩) ⟨y0, y1, y2, y3⟩ ?_
    try simp only [Act.put, List.setIfInBounds_toArray, List.set_cons_zero, List.set_cons_succ]
    refine H_takeD (k := 13) (v := .pointer (some ⟨N, 0, none⟩)) (d := some 22) rfl rfl (by decide +kernel) (fun _ _ _ h => h) (Or.inl ⟨by simp [Region.wanted, yielded], fun W hW => by obtain ⟨s0, s1, s2, s3⟩ := hW; go_simp⟩) ⟨y0, y1, y2, y3⟩ ?_
    try simp only [Act.put, List.setIfInBounds_toArray, List.set_cons_zero, List.set_cons_succ]
    refine H_takeD (k := 14) (v := .int .i64 1) (d := some 23) rfl rfl (by decide +kernel) (fun _ _ _ h => h) (Or.inl ⟨by simp [Region.wanted, yielded], fun W hW => by obtain ⟨s0, s1, s2, s3⟩ := hW; go_simp⟩) ⟨y0, y1, y2, y3⟩ ?_
    try simp only [Act.put, List.setIfInBounds_toArray, List.set_cons_zero, List.set_cons_succ]
    refine H_takeD (k := 15) (v := .pointer (some ⟨N + 1, 1, none⟩)) (d := some 24) rfl rfl (by decide +kernel) (fun _ _ _ h => h) (Or.inl ⟨by simp [Region.wanted, yielded], fun W hW => by obtain ⟨s0, s1, s2, s3⟩ := hW; go_simp⟩) ⟨y0, y1, y2, y3⟩ ?_
    try simp only [Act.put, List.setIfInBounds_toArray, List.set_cons_zero, List.set_cons_succ]
    refine H_takeD (k := 16) (v := .int .i64 1) (d := some 25) rfl rfl (by decide +kernel) (fun _ _ _ h => h) (Or.inl ⟨by simp [Region.wanted, yielded], fun W hW => by obtain ⟨s0, s1, s2, s3⟩ := hW; go_simp⟩) ⟨y0, y1, y2, y3⟩ ?_
    try simp only [Act.put, List.setIfInBounds_toArray, List.set_cons_zero, List.set_cons_succ]
    refine H_takeD (k := 17) (v := .bool true) (d := some 26) rfl rfl (by decide +kernel) (fun _ _ _ h => h) (Or.inl ⟨by simp [Region.wanted, yielded], fun W hW => by obtain ⟨s0, s1, s2, s3⟩ := hW; go_simp⟩) ⟨y0, y1, y2, y3⟩ ?_
    try simp only [Act.put, List.setIfInBounds_toArray, List.set_cons_zero, List.set_cons_succ]
    refine H_takeD (k := 18) (v := .bool true) (d := some 27) rfl rfl (by decide +kernel) (fun _ _ _ h => h) (Or.inl ⟨by rfl, fun W hW => by obtain ⟨s0, s1, s2, s3⟩ := hW; go_simp⟩) ⟨y0, y1, y2, y3⟩ ?_
    try simp only [Act.put, List.setIfInBounds_toArray, List.set_cons_zero, List.set_cons_succ]
    refine H_takeD (k := 19) (v := .bool true) (d := some 28) rfl rfl (by decide +kernel) (fun _ _ _ h => h) (Or.inl ⟨by rfl, fun W hW => by obtain ⟨s0, s1, s2, s3⟩ := hW; go_simp⟩) ⟨y0, y1, y2, y3⟩ ?_
    try simp only [Act.put, List.setIfInBounds_toArray, List.set_cons_zero, List.set_cons_succ]
    refine H_takeD (k := 20) (v := undef) (d := some 29) rfl rfl (by decide +kernel) (fun _ _ _ h => h) (Or.inr ⟨by simp [Region.wanted, yielded, undef], rfl⟩) ⟨y0, y1, y2, y3⟩ ?_
    try simp only [Act.put, List.setIfInBounds_toArray, List.set_cons_zero, List.set_cons_succ]
    refine H_takeD (k := 21) (v := undef) (d := some 30) rfl rfl (by decide +kernel) (fun _ _ _ h => h) (Or.inr ⟨by simp [Region.wanted, yielded, undef], rfl⟩) ⟨y0, y1, y2, y3⟩ ?_
    try simp only [Act.put, List.setIfInBounds_toArray, List.set_cons_zero, List.set_cons_succ]
    refine H_takeD (k := 22) (v := undef) (d := some 31) rfl rfl (by decide +kernel) (fun _ _ _ h => h) (Or.inr ⟨by simp [Region.wanted, yielded, undef], rfl⟩) ⟨y0, y1, y2, y3⟩ ?_
    try simp only [Act.put, List.setIfInBounds_toArray, List.set_cons_zero, List.set_cons_succ]
    refine H_takeD (k := 23) (v := undef) (d := some 32) rfl rfl (by decide +kernel) (fun _ _ _ h => h) (Or.inr ⟨by simp [Region.wanted, yielded, undef], rfl⟩) ⟨y0, y1, y2, y3⟩ ?_
    try simp only [Act.put, List.setIfInBounds_toArray, List.set_cons_zero, List.set_cons_succ]
    refine H_takeD (k := 24) (v := undef) (d := some 33) rfl rfl (by decide +kernel) (fun _ _ _ h => h) (Or.inr ⟨by simp [Region.wanted, yielded, undef], rfl⟩) ⟨y0, y1, y2, y3⟩ ?_
    try simp only [Act.put, List.setIfInBounds_toArray, List.set_cons_zero, List.set_cons_succ]
    refine H_takeD (k := 25) (v := undef) (d := some 34) rfl rfl (by decide +kernel) (fun _ _ _ h => h) (Or.inr ⟨by simp [Region.wanted, yielded, undef], rfl⟩) ⟨y0, y1, y2, y3⟩ ?_
    try simp only [Act.put, List.setIfInBounds_toArray, List.set_cons_zero, List.set_cons_succ]
    refine H_takeD (k := 26) (v := undef) (d := some 35) rfl rfl (by decide +kernel) (fun _ _ _ h => h) (Or.inr ⟨by simp [Region.wanted, yielded, undef], rfl⟩) ⟨y0, y1, y2, y3⟩ ?_
    try simp only [Act.put, List.setIfInBounds_toArray, List.set_cons_zero, List.set_cons_succ]
    refine H_takeD (k := 27) (v := undef) (d := some 36) rfl rfl (by decide +kernel) (fun _ _ _ h => h) (Or.inr ⟨by simp [Region.wanted, yielded, undef], rfl⟩) ⟨y0, y1, y2, y3⟩ ?_
    try simp only [Act.put, List.setIfInBounds_toArray, List.set_cons_zero, List.set_cons_succ]
    refine H_takeD (k := 28) (v := undef) (d := some 37) rfl rfl (by decide +kernel) (fun _ _ _ h => h) (Or.inr ⟨by simp [Region.wanted, yielded, undef], rfl⟩) ⟨y0, y1, y2, y3⟩ ?_
    try simp only [Act.put, List.setIfInBounds_toArray, List.set_cons_zero, List.set_cons_succ]
    refine H_takeD (k := 29) (v := .bool true) (d := some 38) rfl rfl (by decide +kernel) (fun _ _ _ h => h) (Or.inl ⟨by rfl, fun W hW => by obtain ⟨s0, s1, s2, s3⟩ := hW; go_simp⟩) ⟨y0, y1, y2, y3⟩ ?_
    try simp only [Act.put, List.setIfInBounds_toArray, List.set_cons_zero, List.set_cons_succ]
    refine H_end (by decide +kernel) (NoPanic.normal ?_)
    try simp only [Act.put, List.setIfInBounds_toArray, List.set_cons_zero, List.set_cons_succ]
    clear y0 y1 y2 y3
    go_wp2_with fail
    go_ret
    exact ⟨by rw [HE.out]; rfl, HBd.out⟩
  · have HE := Lib.hid (HbL.out (by omega))
    clear HbL
    subst h0
    have hI : ¬ ((m : Int) < 1) := by omega
    have hN0 : ¬ (m < 1) := by omega
    have hJ : (m : Int) > 8 := by omega
    have hN1 : 8 < m := by omega
    have HBd := Lib.hid (show Below w.heap.size w W0.drew from HB.out.drew)
    have y0 : W0.drew.cell? ⟨N, 0, none⟩ = some (.int .i64 1) := v0
    have y1 : W0.drew.cell? ⟨N, 1, none⟩ = some (.slice B m cb) := v1
    have y2 : W0.drew.cell? ⟨N + 1, 1, none⟩ = some (.int .i64 1) := l1
    have y3 : W0.drew.cell? ⟨N + 1 + 1, 1, none⟩ = some (.int .i64 8) := m1
    clear v0 v1 l0 l1 l2 m0 m1 m2
    refine wp_region_noPanic ?_
    refine region_H (S := fun W => W.cell? ⟨N, 0, none⟩ = some (.int .i64 1) ∧ W.cell? ⟨N, 1, none⟩ = some (.slice B m cb) ∧ W.cell? ⟨N + 1, 1, none⟩ = some (.int .i64 1) ∧ W.cell? ⟨N + 1 + 1, 1, none⟩ = some (.int .i64 8)) (by kernel_rfl) ?_
    change wpH _ _ _ _ 30 _ _ W0.drew
    generalize W0.drew = X0 at *
    refine H_takeD (k := 0) (v := .pointer (some ⟨N, 0, none⟩)) (d := some 9) rfl rfl (by decide +kernel) (fun _ _ _ h => h) (Or.inl ⟨by rfl, fun W hW => by obtain ⟨s0, s1, s2, s3⟩ := hW; go_simp⟩) ⟨y0, y1, y2, y3⟩ ?_
    try simp only [Act.put, List.setIfInBounds_toArray, List.set_cons_zero, List.set_cons_succ]
    refine H_takeD (k := 1) (v := .int .i64 1) (d := some 10) rfl rfl (by decide +kernel) (fun _ _ _ h => h) (Or.inl ⟨by rfl, fun W hW => by obtain ⟨s0, s1, s2, s3⟩ := hW; go_simp⟩) ⟨y0, y1, y2, y3⟩ ?_
    try simp only [Act.put, List.setIfInBounds_toArray, List.set_cons_zero, List.set_cons_succ]
    refine H_takeD (k := 2) (v := .bool false) (d := some 11) rfl rfl (by decide +kernel) (fun _ _ _ h => h) (Or.inl ⟨by rfl, fun W hW => by obtain ⟨s0, s1, s2, s3⟩ := hW; go_simp⟩) ⟨y0, y1, y2, y3⟩ ?_
    try simp only [Act.put, List.setIfInBounds_toArray, List.set_cons_zero, List.set_cons_succ]
    refine H_takeD (k := 3) (v := .bool false) (d := some 12) rfl rfl (by decide +kernel) (fun _ _ _ h => h) (Or.inl ⟨by rfl, fun W hW => by obtain ⟨s0, s1, s2, s3⟩ := hW; go_simp⟩) ⟨y0, y1, y2, y3⟩ ?_
    try simp only [Act.put, List.setIfInBounds_toArray, List.set_cons_zero, List.set_cons_succ]
    refine H_takeD (k := 4) (v := .pointer (some ⟨N, 0, none⟩)) (d := some 13) rfl rfl (by decide +kernel) (fun _ _ _ h => h) (Or.inl ⟨by simp [Region.wanted, yielded], fun W hW => by obtain ⟨s0, s1, s2, s3⟩ := hW; go_simp⟩) ⟨y0, y1, y2, y3⟩ ?_
    try simp only [Act.put, List.setIfInBounds_toArray, List.set_cons_zero, List.set_cons_succ]
    refine H_takeD (k := 5) (v := .int .i64 1) (d := some 14) rfl rfl (by decide +kernel) (fun _ _ _ h => h) (Or.inl ⟨by simp [Region.wanted, yielded], fun W hW => by obtain ⟨s0, s1, s2, s3⟩ := hW; go_simp⟩) ⟨y0, y1, y2, y3⟩ ?_
    try simp only [Act.put, List.setIfInBounds_toArray, List.set_cons_zero, List.set_cons_succ]
    refine H_takeD (k := 6) (v := .bool false) (d := some 15) rfl rfl (by decide +kernel) (fun _ _ _ h => h) (Or.inl ⟨by simp [Region.wanted, yielded], fun W hW => by obtain ⟨s0, s1, s2, s3⟩ := hW; go_simp⟩) ⟨y0, y1, y2, y3⟩ ?_
    try simp only [Act.put, List.setIfInBounds_toArray, List.set_cons_zero, List.set_cons_succ]
    refine H_takeD (k := 7) (v := .bool false) (d := some 16) rfl rfl (by decide +kernel) (fun _ _ _ h => h) (Or.inl ⟨by rfl, fun W hW => by obtain ⟨s0, s1, s2, s3⟩ := hW; go_simp⟩) ⟨y0, y1, y2, y3⟩ ?_
    try simp only [Act.put, List.setIfInBounds_toArray, List.set_cons_zero, List.set_cons_succ]
    refine H_takeD (k := 8) (v := .bool false) (d := some 17) rfl rfl (by decide +kernel) (fun _ _ _ h => h) (Or.inl ⟨by rfl, fun W hW => by obtain ⟨s0, s1, s2, s3⟩ := hW; go_simp⟩) ⟨y0, y1, y2, y3⟩ ?_
    try simp only [Act.put, List.setIfInBounds_toArray, List.set_cons_zero, List.set_cons_succ]
    refine H_takeD (k := 9) (v := .pointer (some ⟨N, 1, none⟩)) (d := some 18) rfl rfl (by decide +kernel) (fun _ _ _ h => h) (Or.inl ⟨by simp [Region.wanted, yielded], fun W hW => by obtain ⟨s0, s1, s2, s3⟩ := hW; go_simp⟩) ⟨y0, y1, y2, y3⟩ ?_
    try simp only [Act.put, List.setIfInBounds_toArray, List.set_cons_zero, List.set_cons_succ]
    refine H_takeD (k := 10) (v := .slice B m cb) (d := some 19) rfl rfl (by decide +kernel) (fun _ _ _ h => h) (Or.inl ⟨by simp [Region.wanted, yielded], fun W hW => by obtain ⟨s0, s1, s2, s3⟩ := hW; go_simp⟩) ⟨y0, y1, y2, y3⟩ ?_
    try simp only [Act.put, List.setIfInBounds_toArray, List.set_cons_zero, List.set_cons_succ]
    refine H_takeD (k := 11) (v := .int .i64 (m : Int)) (d := some 20) rfl rfl (by decide +kernel) (fun _ _ _ h => h) (Or.inl ⟨by simp [Region.wanted, yielded], fun W hW => by obtain ⟨s0, s1, s2, s3⟩ := hW; go_simp⟩) ⟨y0, y1, y2, y3⟩ ?_
    try simp only [Act.put, List.setIfInBounds_toArray, List.set_cons_zero, List.set_cons_succ]
    refine H_takeD (k := 12) (v := .slice (some ⟨N + 1, 0, none⟩) 3 3) (d := some 21) rfl rfl (by decide +kernel) (fun _ _ _ h => h) (Or.inl ⟨by simp [Region.wanted, yielded], fun W hW => by obtain ⟨s0, s1, s2, s3⟩ := hW; go_simp⟩) ⟨y0, y1, y2, y3⟩ ?_
    try simp only [Act.put, List.setIfInBounds_toArray, List.set_cons_zero, List.set_cons_succ]
    refine H_takeD (k := 13) (v := .pointer (some ⟨N, 0, none⟩)) (d := some 22) rfl rfl (by decide +kernel) (fun _ _ _ h => h) (Or.inl ⟨by simp [Region.wanted, yielded], fun W hW => by obtain ⟨s0, s1, s2, s3⟩ := hW; go_simp⟩) ⟨y0, y1, y2, y3⟩ ?_
    try simp only [Act.put, List.setIfInBounds_toArray, List.set_cons_zero, List.set_cons_succ]
    refine H_takeD (k := 14) (v := .int .i64 1) (d := some 23) rfl rfl (by decide +kernel) (fun _ _ _ h => h) (Or.inl ⟨by simp [Region.wanted, yielded], fun W hW => by obtain ⟨s0, s1, s2, s3⟩ := hW; go_simp⟩) ⟨y0, y1, y2, y3⟩ ?_
    try simp only [Act.put, List.setIfInBounds_toArray, List.set_cons_zero, List.set_cons_succ]
    refine H_takeD (k := 15) (v := .pointer (some ⟨N + 1, 1, none⟩)) (d := some 24) rfl rfl (by decide +kernel) (fun _ _ _ h => h) (Or.inl ⟨by simp [Region.wanted, yielded], fun W hW => by obtain ⟨s0, s1, s2, s3⟩ := hW; go_simp⟩) ⟨y0, y1, y2, y3⟩ ?_
    try simp only [Act.put, List.setIfInBounds_toArray, List.set_cons_zero, List.set_cons_succ]
    refine H_takeD (k := 16) (v := .int .i64 1) (d := some 25) rfl rfl (by decide +kernel) (fun _ _ _ h => h) (Or.inl ⟨by simp [Region.wanted, yielded], fun W hW => by obtain ⟨s0, s1, s2, s3⟩ := hW; go_simp⟩) ⟨y0, y1, y2, y3⟩ ?_
    try simp only [Act.put, List.setIfInBounds_toArray, List.set_cons_zero, List.set_cons_succ]
    refine H_takeD (k := 17) (v := .bool false) (d := some 26) rfl rfl (by decide +kernel) (fun _ _ _ h => h) (Or.inl ⟨by simp [Region.wanted, yielded], fun W hW => by obtain ⟨s0, s1, s2, s3⟩ := hW; go_simp⟩) ⟨y0, y1, y2, y3⟩ ?_
    try simp only [Act.put, List.setIfInBounds_toArray, List.set_cons_zero, List.set_cons_succ]
    refine H_takeD (k := 18) (v := .bool false) (d := some 27) rfl rfl (by decide +kernel) (fun _ _ _ h => h) (Or.inl ⟨by rfl, fun W hW => by obtain ⟨s0, s1, s2, s3⟩ := hW; go_simp⟩) ⟨y0, y1, y2, y3⟩ ?_
    try simp only [Act.put, List.setIfInBounds_toArray, List.set_cons_zero, List.set_cons_succ]
    refine H_takeD (k := 19) (v := .bool false) (d := some 28) rfl rfl (by decide +kernel) (fun _ _ _ h => h) (Or.inl ⟨by rfl, fun W hW => by obtain ⟨s0, s1, s2, s3⟩ := hW; go_simp⟩) ⟨y0, y1, y2, y3⟩ ?_
    try simp only [Act.put, List.setIfInBounds_toArray, List.set_cons_zero, List.set_cons_succ]
    refine H_takeD (k := 20) (v := .pointer (some ⟨N, 1, none⟩)) (d := some 29) rfl rfl (by decide +kernel) (fun _ _ _ h => h) (Or.inl ⟨by simp [Region.wanted, yielded], fun W hW => by obtain ⟨s0, s1, s2, s3⟩ := hW; go_simp⟩) ⟨y0, y1, y2, y3⟩ ?_
    try simp only [Act.put, List.setIfInBounds_toArray, List.set_cons_zero, List.set_cons_succ]
    refine H_takeD (k := 21) (v := .slice B m cb) (d := some 30) rfl rfl (by decide +kernel) (fun _ _ _ h => h) (Or.inl ⟨by simp [Region.wanted, yielded], fun W hW => by obtain ⟨s0, s1, s2, s3⟩ := hW; go_simp⟩) ⟨y0, y1, y2, y3⟩ ?_
    try simp only [Act.put, List.setIfInBounds_toArray, List.set_cons_zero, List.set_cons_succ]
    refine H_takeD (k := 22) (v := .int .i64 (m : Int)) (d := some 31) rfl rfl (by decide +kernel) (fun _ _ _ h => h) (Or.inl ⟨by simp [Region.wanted, yielded], fun W hW => by obtain ⟨s0, s1, s2, s3⟩ := hW; go_simp⟩) ⟨y0, y1, y2, y3⟩ ?_
    try simp only [Act.put, List.setIfInBounds_toArray, List.set_cons_zero, List.set_cons_succ]
    refine H_takeD (k := 23) (v := .slice (some ⟨N + 1 + 1, 0, none⟩) 3 3) (d := some 32) rfl rfl (by decide +kernel) (fun _ _ _ h => h) (Or.inl ⟨by simp [Region.wanted, yielded], fun W hW => by obtain ⟨s0, s1, s2, s3⟩ := hW; go_simp⟩) ⟨y0, y1, y2, y3⟩ ?_
    try simp only [Act.put, List.setIfInBounds_toArray, List.set_cons_zero, List.set_cons_succ]
    refine H_takeD (k := 24) (v := .pointer (some ⟨N, 0, none⟩)) (d := some 33) rfl rfl (by decide +kernel) (fun _ _ _ h => h) (Or.inl ⟨by simp [Region.wanted, yielded], fun W hW => by obtain ⟨s0, s1, s2, s3⟩ := hW; go_simp⟩) ⟨y0, y1, y2, y3⟩ ?_
    try simp only [Act.put, List.setIfInBounds_toArray, List.set_cons_zero, List.set_cons_succ]
    refine H_takeD (k := 25) (v := .int .i64 1) (d := some 34) rfl rfl (by decide +kernel) (fun _ _ _ h => h) (Or.inl ⟨by simp [Region.wanted, yielded], fun W hW => by obtain ⟨s0, s1, s2, s3⟩ := hW; go_simp⟩) ⟨y0, y1, y2, y3⟩ ?_
    try simp only [Act.put, List.setIfInBounds_toArray, List.set_cons_zero, List.set_cons_succ]
    refine H_takeD (k := 26) (v := .pointer (some ⟨N + 1 + 1, 1, none⟩)) (d := some 35) rfl rfl (by decide +kernel) (fun _ _ _ h => h) (Or.inl ⟨by simp [Region.wanted, yielded], fun W hW => by obtain ⟨s0, s1, s2, s3⟩ := hW; go_simp⟩) ⟨y0, y1, y2, y3⟩ ?_
    try simp only [Act.put, List.setIfInBounds_toArray, List.set_cons_zero, List.set_cons_succ]
    refine H_takeD (k := 27) (v := .int .i64 8) (d := some 36) rfl rfl (by decide +kernel) (fun _ _ _ h => h) (Or.inl ⟨by simp [Region.wanted, yielded], fun W hW => by obtain ⟨s0, s1, s2, s3⟩ := hW; go_simp⟩) ⟨y0, y1, y2, y3⟩ ?_
    try simp only [Act.put, List.setIfInBounds_toArray, List.set_cons_zero, List.set_cons_succ]
    refine H_takeD (k := 28) (v := .bool true) (d := some 37) rfl rfl (by decide +kernel) (fun _ _ _ h => h) (Or.inl ⟨by simp [Region.wanted, yielded], fun W hW => by obtain ⟨s0, s1, s2, s3⟩ := hW; go_simp⟩) ⟨y0, y1, y2, y3⟩ ?_
    try simp only [Act.put, List.setIfInBounds_toArray, List.set_cons_zero, List.set_cons_succ]
    refine H_takeD (k := 29) (v := .bool true) (d := some 38) rfl rfl (by decide +kernel) (fun _ _ _ h => h) (Or.inl ⟨by rfl, fun W hW => by obtain ⟨s0, s1, s2, s3⟩ := hW; go_simp⟩) ⟨y0, y1, y2, y3⟩ ?_
    try simp only [Act.put, List.setIfInBounds_toArray, List.set_cons_zero, List.set_cons_succ]
    refine H_end (by decide +kernel) (NoPanic.normal ?_)
    try simp only [Act.put, List.setIfInBounds_toArray, List.set_cons_zero, List.set_cons_succ]
    clear y0 y1 y2 y3
    go_wp2_with fail
    go_ret
    exact ⟨by rw [HE.out]; rfl, HBd.out⟩
  · have HLn := Lib.hid (show lenOK k os.length = true from by unfold lenOK; rw [hm.out]; exact decide_eq_true (by omega))
    clear HbL
    subst h0
    have hI : ¬ ((m : Int) < 1) := by omega
    have hN0 : ¬ (m < 1) := by omega
    have hJ : ¬ ((m : Int) > 8) := by omega
    have hN1 : ¬ (8 < m) := by omega
    have Hv := Lib.hid (show ∀ W, Qt W0 W → W.cell? ⟨N, 1, none⟩ = some (.slice B m cb) from fun W h => cell_qt v1 h)
    have Hq0 := Lib.hid (show Qt W0 W0.drew from ⟨1, rfl⟩)
    have HBd := Lib.hid (show Below w.heap.size w W0.drew from HB.out.drew)
    have y0 : W0.drew.cell? ⟨N, 0, none⟩ = some (.int .i64 1) := v0
    have y1 : W0.drew.cell? ⟨N, 1, none⟩ = some (.slice B m cb) := v1
    have y2 : W0.drew.cell? ⟨N + 1, 1, none⟩ = some (.int .i64 1) := l1
    have y3 : W0.drew.cell? ⟨N + 1 + 1, 1, none⟩ = some (.int .i64 8) := m1
    clear v0 v1 l0 l1 l2 m0 m1 m2
    refine wp_region_noPanic ?_
    refine region_H (S := fun W => W.cell? ⟨N, 0, none⟩ = some (.int .i64 1) ∧ W.cell? ⟨N, 1, none⟩ = some (.slice B m cb) ∧ W.cell? ⟨N + 1, 1, none⟩ = some (.int .i64 1) ∧ W.cell? ⟨N + 1 + 1, 1, none⟩ = some (.int .i64 8)) (by kernel_rfl) ?_
    change wpH _ _ _ _ 30 _ _ W0.drew
    generalize W0.drew = X0 at *
    refine H_takeD (k := 0) (v := .pointer (some ⟨N, 0, none⟩)) (d := some 9) rfl rfl (by decide +kernel) (fun _ _ _ h => h) (Or.inl ⟨by rfl, fun W hW => by obtain ⟨s0, s1, s2, s3⟩ := hW; go_simp⟩) ⟨y0, y1, y2, y3⟩ ?_
    try simp only [Act.put, List.setIfInBounds_toArray, List.set_cons_zero, List.set_cons_succ]
    refine H_takeD (k := 1) (v := .int .i64 1) (d := some 10) rfl rfl (by decide +kernel) (fun _ _ _ h => h) (Or.inl ⟨by rfl, fun W hW => by obtain ⟨s0, s1, s2, s3⟩ := hW; go_simp⟩) ⟨y0, y1, y2, y3⟩ ?_
    try simp only [Act.put, List.setIfInBounds_toArray, List.set_cons_zero, List.set_cons_succ]
    refine H_takeD (k := 2) (v := .bool false) (d := some 11) rfl rfl (by decide +kernel) (fun _ _ _ h => h) (Or.inl ⟨by rfl, fun W hW => by obtain ⟨s0, s1, s2, s3⟩ := hW; go_simp⟩) ⟨y0, y1, y2, y3⟩ ?_
    try simp only [Act.put, List.setIfInBounds_toArray, List.set_cons_zero, List.set_cons_succ]
    refine H_takeD (k := 3) (v := .bool false) (d := some 12) rfl rfl (by decide +kernel) (fun _ _ _ h => h) (Or.inl ⟨by rfl, fun W hW => by obtain ⟨s0, s1, s2, s3⟩ := hW; go_simp⟩) ⟨y0, y1, y2, y3⟩ ?_
    try simp only [Act.put, List.setIfInBounds_toArray, List.set_cons_zero, List.set_cons_succ]
    refine H_takeD (k := 4) (v := .pointer (some ⟨N, 0, none⟩)) (d := some 13) rfl rfl (by decide +kernel) (fun _ _ _ h => h) (Or.inl ⟨by simp [Region.wanted, yielded], fun W hW => by obtain ⟨s0, s1, s2, s3⟩ := hW; go_simp⟩) ⟨y0, y1, y2, y3⟩ ?_
    try simp only [Act.put, List.setIfInBounds_toArray, List.set_cons_zero, List.set_cons_succ]
    refine H_takeD (k := 5) (v := .int .i64 1) (d := some 14) rfl rfl (by decide +kernel) (fun _ _ _ h => h) (Or.inl ⟨by simp [Region.wanted, yielded], fun W hW => by obtain ⟨s0, s1, s2, s3⟩ := hW; go_simp⟩) ⟨y0, y1, y2, y3⟩ ?_
    try simp only [Act.put, List.setIfInBounds_toArray, List.set_cons_zero, List.set_cons_succ]
    refine H_takeD (k := 6) (v := .bool false) (d := some 15) rfl rfl (by decide +kernel) (fun _ _ _ h => h) (Or.inl ⟨by simp [Region.wanted, yielded], fun W hW => by obtain ⟨s0, s1, s2, s3⟩ := hW; go_simp⟩) ⟨y0, y1, y2, y3⟩ ?_
    try simp only [Act.put, List.setIfInBounds_toArray, List.set_cons_zero, List.set_cons_succ]
    refine H_takeD (k := 7) (v := .bool false) (d := some 16) rfl rfl (by decide +kernel) (fun _ _ _ h => h) (Or.inl ⟨by rfl, fun W hW => by obtain ⟨s0, s1, s2, s3⟩ := hW; go_simp⟩) ⟨y0, y1, y2, y3⟩ ?_
    try simp only [Act.put, List.setIfInBounds_toArray, List.set_cons_zero, List.set_cons_succ]
    refine H_takeD (k := 8) (v := .bool false) (d := some 17) rfl rfl (by decide +kernel) (fun _ _ _ h => h) (Or.inl ⟨by rfl, fun W hW => by obtain ⟨s0, s1, s2, s3⟩ := hW; go_simp⟩) ⟨y0, y1, y2, y3⟩ ?_
    try simp only [Act.put, List.setIfInBounds_toArray, List.set_cons_zero, List.set_cons_succ]
    refine H_takeD (k := 9) (v := .pointer (some ⟨N, 1, none⟩)) (d := some 18) rfl rfl (by decide +kernel) (fun _ _ _ h => h) (Or.inl ⟨by simp [Region.wanted, yielded], fun W hW => by obtain ⟨s0, s1, s2, s3⟩ := hW; go_simp⟩) ⟨y0, y1, y2, y3⟩ ?_
    try simp only [Act.put, List.setIfInBounds_toArray, List.set_cons_zero, List.set_cons_succ]
    refine H_takeD (k := 10) (v := .slice B m cb) (d := some 19) rfl rfl (by decide +kernel) (fun _ _ _ h => h) (Or.inl ⟨by simp [Region.wanted, yielded], fun W hW => by obtain ⟨s0, s1, s2, s3⟩ := hW; go_simp⟩) ⟨y0, y1, y2, y3⟩ ?_
    try simp only [Act.put, List.setIfInBounds_toArray, List.set_cons_zero, List.set_cons_succ]
    refine H_takeD (k := 11) (v := .int .i64 (m : Int)) (d := some 20) rfl rfl (by decide +kernel) (fun _ _ _ h => h) (Or.inl ⟨by simp [Region.wanted, yielded], fun W hW => by obtain ⟨s0, s1, s2, s3⟩ := hW; go_simp⟩) ⟨y0, y1, y2, y3⟩ ?_
    try simp only [Act.put, List.setIfInBounds_toArray, List.set_cons_zero, List.set_cons_succ]
    refine H_takeD (k := 12) (v := .slice (some ⟨N + 1, 0, none⟩) 3 3) (d := some 21) rfl rfl (by decide +kernel) (fun _ _ _ h => h) (Or.inl ⟨by simp [Region.wanted, yielded], fun W hW => by obtain ⟨s0, s1, s2, s3⟩ := hW; go_simp⟩) ⟨y0, y1, y2, y3⟩ ?_
    try simp only [Act.put, List.setIfInBounds_toArray, List.set_cons_zero, List.set_cons_succ]
    refine H_takeD (k := 13) (v := .pointer (some ⟨N, 0, none⟩)) (d := some 22) rfl rfl (by decide +kernel) (fun _ _ _ h => h) (Or.inl ⟨by simp [Region.wanted, yielded], fun W hW => by obtain ⟨s0, s1, s2, s3⟩ := hW; go_simp⟩) ⟨y0, y1, y2, y3⟩ ?_
    try simp only [Act.put, List.setIfInBounds_toArray, List.set_cons_zero, List.set_cons_succ]
    refine H_takeD (k := 14) (v := .int .i64 1) (d := some 23) rfl rfl (by decide +kernel) (fun _ _ _ h => h) (Or.inl ⟨by simp [Region.wanted, yielded], fun W hW => by obtain ⟨s0, s1, s2, s3⟩ := hW; go_simp⟩) ⟨y0, y1, y2, y3⟩ ?_
    try simp only [Act.put, List.setIfInBounds_toArray, List.set_cons_zero, List.set_cons_succ]
    refine H_takeD (k := 15) (v := .pointer (some ⟨N + 1, 1, none⟩)) (d := some 24) rfl rfl (by decide +kernel) (fun _ _ _ h => h) (Or.inl ⟨by simp [Region.wanted, yielded], fun W hW => by obtain ⟨s0, s1, s2, s3⟩ := hW; go_simp⟩) ⟨y0, y1, y2, y3⟩ ?_
    try simp only [Act.put, List.setIfInBounds_toArray, List.set_cons_zero, List.set_cons_succ]
    refine H_takeD (k := 16) (v := .int .i64 1) (d := some 25) rfl rfl (by decide +kernel) (fun _ _ _ h => h) (Or.inl ⟨by simp [Region.wanted, yielded], fun W hW => by obtain ⟨s0, s1, s2, s3⟩ := hW; go_simp⟩) ⟨y0, y1, y2, y3⟩ ?_
    try simp only [Act.put, List.setIfInBounds_toArray, List.set_cons_zero, List.set_cons_succ]
    refine H_takeD (k := 17) (v := .bool false) (d := some 26) rfl rfl (by decide +kernel) (fun _ _ _ h => h) (Or.inl ⟨by simp [Region.wanted, yielded], fun W hW => by obtain ⟨s0, s1, s2, s3⟩ := hW; go_simp⟩) ⟨y0, y1, y2, y3⟩ ?_
    try simp only [Act.put, List.setIfInBounds_toArray, List.set_cons_zero, List.set_cons_succ]
    refine H_takeD (k := 18) (v := .bool false) (d := some 27) rfl rfl (by decide +kernel) (fun _ _ _ h => h) (Or.inl ⟨by rfl, fun W hW => by obtain ⟨s0, s1, s2, s3⟩ := hW; go_simp⟩) ⟨y0, y1, y2, y3⟩ ?_
    try simp only [Act.put, List.setIfInBounds_toArray, List.set_cons_zero, List.set_cons_succ]
    refine H_takeD (k := 19) (v := .bool false) (d := some 28) rfl rfl (by decide +kernel) (fun _ _ _ h => h) (Or.inl ⟨by rfl, fun W hW => by obtain ⟨s0, s1, s2, s3⟩ := hW; go_simp⟩) ⟨y0, y1, y2, y3⟩ ?_
    try simp only [Act.put, List.setIfInBounds_toArray, List.set_cons_zero, List.set_cons_succ]
    refine H_takeD (k := 20) (v := .pointer (some ⟨N, 1, none⟩)) (d := some 29) rfl rfl (by decide +kernel) (fun _ _ _ h => h) (Or.inl ⟨by simp [Region.wanted, yielded], fun W hW => by obtain ⟨s0, s1, s2, s3⟩ := hW; go_simp⟩) ⟨y0, y1, y2, y3⟩ ?_
    try simp only [Act.put, List.setIfInBounds_toArray, List.set_cons_zero, List.set_cons_succ]
    refine H_takeD (k := 21) (v := .slice B m cb) (d := some 30) rfl rfl (by decide +kernel) (fun _ _ _ h => h) (Or.inl ⟨by simp [Region.wanted, yielded], fun W hW => by obtain ⟨s0, s1, s2, s3⟩ := hW; go_simp⟩) ⟨y0, y1, y2, y3⟩ ?_
    try simp only [Act.put, List.setIfInBounds_toArray, List.set_cons_zero, List.set_cons_succ]
    refine H_takeD (k := 22) (v := .int .i64 (m : Int)) (d := some 31) rfl rfl (by decide +kernel) (fun _ _ _ h => h) (Or.inl ⟨by simp [Region.wanted, yielded], fun W hW => by obtain ⟨s0, s1, s2, s3⟩ := hW; go_simp⟩) ⟨y0, y1, y2, y3⟩ ?_
    try simp only [Act.put, List.setIfInBounds_toArray, List.set_cons_zero, List.set_cons_succ]
    refine H_takeD (k := 23) (v := .slice (some ⟨N + 1 + 1, 0, none⟩) 3 3) (d := some 32) rfl rfl (by decide +kernel) (fun _ _ _ h => h) (Or.inl ⟨by simp [Region.wanted, yielded], fun W hW => by obtain ⟨s0, s1, s2, s3⟩ := hW; go_simp⟩) ⟨y0, y1, y2, y3⟩ ?_
    try simp only [Act.put, List.setIfInBounds_toArray, List.set_cons_zero, List.set_cons_succ]
    refine H_takeD (k := 24) (v := .pointer (some ⟨N, 0, none⟩)) (d := some 33) rfl rfl (by decide +kernel) (fun _ _ _ h => h) (Or.inl ⟨by simp [Region.wanted, yielded], fun W hW => by obtain ⟨s0, s1, s2, s3⟩ := hW; go_simp⟩) ⟨y0, y1, y2, y3⟩ ?_
    try simp only [Act.put, List.setIfInBounds_toArray, List.set_cons_zero, List.set_cons_succ]
    refine H_takeD (k := 25) (v := .int .i64 1) (d := some 34) rfl rfl (by decide +kernel) (fun _ _ _ h => h) (Or.inl ⟨by simp [Region.wanted, yielded], fun W hW => by obtain ⟨s0, s1, s2, s3⟩ := hW; go_simp⟩) ⟨y0, y1, y2, y3⟩ ?_
    try simp only [Act.put, List.setIfInBounds_toArray, List.set_cons_zero, List.set_cons_succ]
    refine H_takeD (k := 26) (v := .pointer (some ⟨N + 1 + 1, 1, none⟩)) (d := some 35) rfl rfl (by decide +kernel) (fun _ _ _ h => h) (Or.inl ⟨by simp [Region.wanted, yielded], fun W hW => by obtain ⟨s0, s1, s2, s3⟩ := hW; go_simp⟩) ⟨y0, y1, y2, y3⟩ ?_
    try simp only [Act.put, List.setIfInBounds_toArray, List.set_cons_zero, List.set_cons_succ]
    refine H_takeD (k := 27) (v := .int .i64 8) (d := some 36) rfl rfl (by decide +kernel) (fun _ _ _ h => h) (Or.inl ⟨by simp [Region.wanted, yielded], fun W hW => by obtain ⟨s0, s1, s2, s3⟩ := hW; go_simp⟩) ⟨y0, y1, y2, y3⟩ ?_
    try simp only [Act.put, List.setIfInBounds_toArray, List.set_cons_zero, List.set_cons_succ]
    refine H_takeD (k := 28) (v := .bool false) (d := some 37) rfl rfl (by decide +kernel) (fun _ _ _ h => h) (Or.inl ⟨by simp [Region.wanted, yielded], fun W hW => by obtain ⟨s0, s1, s2, s3⟩ := hW; go_simp⟩) ⟨y0, y1, y2, y3⟩ ?_
    try simp only [Act.put, List.setIfInBounds_toArray, List.set_cons_zero, List.set_cons_succ]
    refine H_takeD (k := 29) (v := .bool false) (d := some 38) rfl rfl (by decide +kernel) (fun _ _ _ h => h) (Or.inl ⟨by rfl, fun W hW => by obtain ⟨s0, s1, s2, s3⟩ := hW; go_simp⟩) ⟨y0, y1, y2, y3⟩ ?_
    try simp only [Act.put, List.setIfInBounds_toArray, List.set_cons_zero, List.set_cons_succ]
    refine H_end (by decide +kernel) (NoPanic.normal ?_)
    try simp only [Act.put, List.setIfInBounds_toArray, List.set_cons_zero, List.set_cons_succ]
    clear y0 y1 y2 y3 hI hN0 hJ hN1
    go_wp2_with fail
    go_loopw [5] (fun iv wr => ∃ i : Nat, i ≤ m ∧ iv = .int .i64 (i : Int) ∧ Hid (∀ j x, j < i → os[j]? = some x → badO x = false) ∧ Hid (os.take i).Nodup ∧ Hid (Qt W0 wr)) (fun iv _ => m - (intOf iv).toNat)
    case atStart => exact ⟨0, by omega, rfl, Lib.hid (fun j _ hj => by omega), Lib.hid (by simp), Hq0⟩
    case round =>
      clear Hq0
      obtain ⟨i, hi, rfl, Hb, Hn, Hq⟩ := hrel
      have v1 := Hv.out wr Hq.out
      by_cases hlt : i < m
      · obtain ⟨b, o, x, hBe, c0, hx⟩ := (HI.out.qt Hq.out).get (k := i) (by rw [hm.out]; exact hlt)
        have hmi : ¬ (m ≤ i) := by omega
        rw [hBe] at v1
        rw [hBe]
        clear hBe
        have hxc : x < 0 ∨ (¬ x < 0 ∧ x > 63) ∨ (¬ x < 0 ∧ ¬ x > 63) := by omega
        rcases hxc with h0 | ⟨h0, h1⟩ | ⟨h0, h1⟩
        · have HE := Lib.hid (vwE_bad (k := 1) (any_bad hx.out (by unfold badO inB; simp; omega)))
          go_wp2_with fail
          go_ret
          exact ⟨by rw [HE.out]; rfl, Hq.out.bl HB.out⟩
        · have HE := Lib.hid (vwE_bad (k := 1) (any_bad hx.out (by unfold badO inB; simp; omega)))
          go_wp2_with fail
          go_ret
          exact ⟨by rw [HE.out]; rfl, Hq.out.bl HB.out⟩
        · have Hb2 := Lib.hid (show ∀ j y, j < i + 1 → os[j]? = some y → badO y = false from fun j y hj hy => by
            by_cases e : j = i
            · subst e; rw [hx.out] at hy; injection hy with hy; rw [← hy]; exact badO_iff.2 (by omega)
            · exact Hb.out j y (by omega) hy)
          clear Hb
          go_wp2_with fail
          generalize wr = w1 at *
          go_loopw [6] (fun jv wr => ∃ j : Nat, j ≤ i ∧ jv = .int .i64 (j : Int) ∧ Hid (∀ q, q < j → os[q]? ≠ some x) ∧ Hid (Qt W0 wr)) (fun jv _ => i - (intOf jv).toNat)
          case atStart => exact ⟨0, by omega, rfl, Lib.hid (fun q hq => by omega), Hq⟩
          case round =>
            clear Hq v1 c0
            obtain ⟨j, hj, rfl, Ha, Hq⟩ := hrel
            have v1 := Hv.out wr Hq.out
            by_cases hlt2 : j < i
            · obtain ⟨b1, o1, y, hBe, d0, hy⟩ := (HI.out.qt Hq.out).get (k := j) (by rw [hm.out]; omega)
              obtain ⟨b2, o2, x', hBe2, c0, hx2⟩ := (HI.out.qt Hq.out).get (k := i) (by rw [hm.out]; omega)
              have hxx : x' = x := by have := hx2.out; rw [hx.out] at this; injection this with this; exact this.symm
              subst hxx
              have hmj : ¬ (m ≤ j) := by omega
              have hjm : j < m := by omega
              have hmi2 : ¬ (m ≤ i) := by omega
              rw [hBe] at hBe2
              injection hBe2 with hBe2
              injection hBe2 with e1 e2
              subst e1 e2
              rw [hBe] at v1
              clear hBe hx2
              go_wp2
              go_quiet (fail)
              have Hq2 := Lib.hid (Hq.out.drewN nq)
              clear Hq v1 c0 d0
              cases he : (y == x')
              · have Ha2 := Lib.hid (show ∀ q, q < j + 1 → os[q]? ≠ some x' from fun q hq => by
                  by_cases e : q = j
                  · subst e; rw [hy.out]; intro e; injection e with e; rw [e] at he; simp at he
                  · exact Ha.out q (by omega))
                clear he
                go_wp2_with fail
                go_roundw
                case rel => exact ⟨j + 1, by omega, by go_num, Ha2, Hq2⟩
                case measure => simp [intOf]; omega
              · have hyx : y = x' := by simpa using he
                have HE := Lib.hid (vwE_dup (k := 1) (dup_at hlt2 hx.out (hyx ▸ hy.out)))
                clear he hyx
                go_wp2_with fail
                go_ret
                exact ⟨by rw [HE.out]; rfl, Hq2.out.bl HB.out⟩
            · obtain rfl : j = i := by omega
              have Hn2 := Lib.hid (nodup_next hx.out Hn.out (fun q hq => Ha.out q hq))
              clear Ha Hn
              go_wp2_with fail
              go_roundw
              case rel => exact ⟨j + 1, by omega, by go_num, Hb2, Hn2, Hq⟩
              case measure => simp [intOf]; omega
      · obtain rfl : i = m := by omega
        have HE := Lib.hid (show vwE 1 os = 0 from vwE_ok HLn.out (by have h := Hn.out; rw [List.take_of_length_le (by rw [hm.out]; exact Nat.le_refl _)] at h; exact h) (by
          rw [List.any_eq_false]
          intro x hx
          obtain ⟨j, hj⟩ := List.mem_iff_getElem?.1 hx
          rw [Hb.out j x (by have := (List.getElem?_eq_some_iff.1 hj).1; rw [hm.out] at this; exact this) hj]
          decide))
        clear Hb Hn
        go_wp2_with fail
        go_ret
        exact ⟨by rw [HE.out]; rfl, Hq.out.bl HB.out⟩
  · have HE := Lib.hid (HbL.out (by omega))
    clear HbL
    subst h0
    have hI : ¬ ((m : Int) < 0) := by omega
    have hN0 : ¬ (m < 0) := by omega
    have hJ : (m : Int) > 0 := by omega
    have hN1 : 0 < m := by omega
    have HBd := Lib.hid (show Below w.heap.size w W0.drew from HB.out.drew)
    have y0 : W0.drew.cell? ⟨N, 0, none⟩ = some (.int .i64 2) := v0
    have y1 : W0.drew.cell? ⟨N, 1, none⟩ = some (.slice B m cb) := v1
    have y2 : W0.drew.cell? ⟨N + 1, 2, none⟩ = some (.int .i64 0) := l2
    have y3 : W0.drew.cell? ⟨N + 1 + 1, 2, none⟩ = some (.int .i64 0) := m2
    clear v0 v1 l0 l1 l2 m0 m1 m2
    refine wp_region_noPanic ?_
    refine region_H (S := fun W => W.cell? ⟨N, 0, none⟩ = some (.int .i64 2) ∧ W.cell? ⟨N, 1, none⟩ = some (.slice B m cb) ∧ W.cell? ⟨N + 1, 2, none⟩ = some (.int .i64 0) ∧ W.cell? ⟨N + 1 + 1, 2, none⟩ = some (.int .i64 0)) (by kernel_rfl) ?_
    change wpH _ _ _ _ 30 _ _ W0.drew
    generalize W0.drew = X0 at *
    refine H_takeD (k := 0) (v := .pointer (some ⟨N, 0, none⟩)) (d := some 9) rfl rfl (by decide +kernel) (fun _ _ _ h => h) (Or.inl ⟨by rfl, fun W hW => by obtain ⟨s0, s1, s2, s3⟩ := hW; go_simp⟩) ⟨y0, y1, y2, y3⟩ ?_
    try simp only [Act.put, List.setIfInBounds_toArray, List.set_cons_zero, List.set_cons_succ]
    refine H_takeD (k := 1) (v := .int .i64 2) (d := some 10) rfl rfl (by decide +kernel) (fun _ _ _ h => h) (Or.inl ⟨by rfl, fun W hW => by obtain ⟨s0, s1, s2, s3⟩ := hW; go_simp⟩) ⟨y0, y1, y2, y3⟩ ?_
    try simp only [Act.put, List.setIfInBounds_toArray, List.set_cons_zero, List.set_cons_succ]
    refine H_takeD (k := 2) (v := .bool false) (d := some 11) rfl rfl (by decide +kernel) (fun _ _ _ h => h) (Or.inl ⟨by rfl, fun W hW => by obtain ⟨s0, s1, s2, s3⟩ := hW; go_simp⟩) ⟨y0, y1, y2, y3⟩ ?_
    try simp only [Act.put, List.setIfInBounds_toArray, List.set_cons_zero, List.set_cons_succ]
    refine H_takeD (k := 3) (v := .bool false) (d := some 12) rfl rfl (by decide +kernel) (fun _ _ _ h => h) (Or.inl ⟨by rfl, fun W hW => by obtain ⟨s0, s1, s2, s3⟩ := hW; go_simp⟩) ⟨y0, y1, y2, y3⟩ ?_
    try simp only [Act.put, List.setIfInBounds_toArray, List.set_cons_zero, List.set_cons_succ]
    refine H_takeD (k := 4) (v := .pointer (some ⟨N, 0, none⟩)) (d := some 13) rfl rfl (by decide +kernel) (fun _ _ _ h => h) (Or.inl ⟨by simp [Region.wanted, yielded], fun W hW => by obtain ⟨s0, s1, s2, s3⟩ := hW; go_simp⟩) ⟨y0, y1, y2, y3⟩ ?_
    try simp only [Act.put, List.setIfInBounds_toArray, List.set_cons_zero, List.set_cons_succ]
    refine H_takeD (k := 5) (v := .int .i64 2) (d := some 14) rfl rfl (by decide +kernel) (fun _ _ _ h => h) (Or.inl ⟨by simp [Region.wanted, yielded], fun W hW => by obtain ⟨s0, s1, s2, s3⟩ := hW; go_simp⟩) ⟨y0, y1, y2, y3⟩ ?_
    try simp only [Act.put, List.setIfInBounds_toArray, List.set_cons_zero, List.set_cons_succ]
    refine H_takeD (k := 6) (v := .bool false) (d := some 15) rfl rfl (by decide +kernel) (fun _ _ _ h => h) (Or.inl ⟨by simp [Region.wanted, yielded], fun W hW => by obtain ⟨s0, s1, s2, s3⟩ := hW; go_simp⟩) ⟨y0, y1, y2, y3⟩ ?_
    try simp only [Act.put, List.setIfInBounds_toArray, List.set_cons_zero, List.set_cons_succ]
    refine H_takeD (k := 7) (v := .bool false) (d := some 16) rfl rfl (by decide +kernel) (fun _ _ _ h => h) (Or.inl ⟨by rfl, fun W hW => by obtain ⟨s0, s1, s2, s3⟩ := hW; go_simp⟩) ⟨y0, y1, y2, y3⟩ ?_
    try simp only [Act.put, List.setIfInBounds_toArray, List.set_cons_zero, List.set_cons_succ]
    refine H_takeD (k := 8) (v := .bool false) (d := some 17) rfl rfl (by decide +kernel) (fun _ _ _ h => h) (Or.inl ⟨by rfl, fun W hW => by obtain ⟨s0, s1, s2, s3⟩ := hW; go_simp⟩) ⟨y0, y1, y2, y3⟩ ?_
    try simp only [Act.put, List.setIfInBounds_toArray, List.set_cons_zero, List.set_cons_succ]
    refine H_takeD (k := 9) (v := .pointer (some ⟨N, 1, none⟩)) (d := some 18) rfl rfl (by decide +kernel) (fun _ _ _ h => h) (Or.inl ⟨by simp [Region.wanted, yielded], fun W hW => by obtain ⟨s0, s1, s2, s3⟩ := hW; go_simp⟩) ⟨y0, y1, y2, y3⟩ ?_
    try simp only [Act.put, List.setIfInBounds_toArray, List.set_cons_zero, List.set_cons_succ]
    refine H_takeD (k := 10) (v := .slice B m cb) (d := some 19) rfl rfl (by decide +kernel) (fun _ _ _ h => h) (Or.inl ⟨by simp [Region.wanted, yielded], fun W hW => by obtain ⟨s0, s1, s2, s3⟩ := hW; go_simp⟩) ⟨y0, y1, y2, y3⟩ ?_
    try simp only [Act.put, List.setIfInBounds_toArray, List.set_cons_zero, List.set_cons_succ]
    refine H_takeD (k := 11) (v := .int .i64 (m : Int)) (d := some 20) rfl rfl (by decide +kernel) (fun _ _ _ h => h) (Or.inl ⟨by simp [Region.wanted, yielded], fun W hW => by obtain ⟨s0, s1, s2, s3⟩ := hW; go_simp⟩) ⟨y0, y1, y2, y3⟩ ?_
    try simp only [Act.put, List.setIfInBounds_toArray, List.set_cons_zero, List.set_cons_succ]
    refine H_takeD (k := 12) (v := .slice (some ⟨N + 1, 0, none⟩) 3 3) (d := some 21) rfl rfl (by decide +kernel) (fun _ _ _ h => h) (Or.inl ⟨by simp [Region.wanted, yielded], fun W hW => by obtain ⟨s0, s1, s2, s3⟩ := hW; go_simp⟩) ⟨y0, y1, y2, y3⟩ ?_
    try simp only [Act.put, List.setIfInBounds_toArray, List.set_cons_zero, List.set_cons_succ]
    refine H_takeD (k := 13) (v := .pointer (some ⟨N, 0, none⟩)) (d := some 22) rfl rfl (by decide +kernel) (fun _ _ _ h => h) (Or.inl ⟨by simp [Region.wanted, yielded], fun W hW => by obtain ⟨s0, s1, s2, s3⟩ := hW; go_simp⟩) ⟨y0, y1, y2, y3⟩ ?_
    try simp only [Act.put, List.setIfInBounds_toArray, List.set_cons_zero, List.set_cons_succ]
    refine H_takeD (k := 14) (v := .int .i64 2) (d := some 23) rfl rfl (by decide +kernel) (fun _ _ _ h => h) (Or.inl ⟨by simp [Region.wanted, yielded], fun W hW => by obtain ⟨s0, s1, s2, s3⟩ := hW; go_simp⟩) ⟨y0, y1, y2, y3⟩ ?_
    try simp only [Act.put, List.setIfInBounds_toArray, List.set_cons_zero, List.set_cons_succ]
    refine H_takeD (k := 15) (v := .pointer (some ⟨N + 1, 2, none⟩)) (d := some 24) rfl rfl (by decide +kernel) (fun _ _ _ h => h) (Or.inl ⟨by simp [Region.wanted, yielded], fun W hW => by obtain ⟨s0, s1, s2, s3⟩ := hW; go_simp⟩) ⟨y0, y1, y2, y3⟩ ?_
    try simp only [Act.put, List.setIfInBounds_toArray, List.set_cons_zero, List.set_cons_succ]
    refine H_takeD (k := 16) (v := .int .i64 0) (d := some 25) rfl rfl (by decide +kernel) (fun _ _ _ h => h) (Or.inl ⟨by simp [Region.wanted, yielded], fun W hW => by obtain ⟨s0, s1, s2, s3⟩ := hW; go_simp⟩) ⟨y0, y1, y2, y3⟩ ?_
    try simp only [Act.put, List.setIfInBounds_toArray, List.set_cons_zero, List.set_cons_succ]
    refine H_takeD (k := 17) (v := .bool false) (d := some 26) rfl rfl (by decide +kernel) (fun _ _ _ h => h) (Or.inl ⟨by simp [Region.wanted, yielded], fun W hW => by obtain ⟨s0, s1, s2, s3⟩ := hW; go_simp⟩) ⟨y0, y1, y2, y3⟩ ?_
    try simp only [Act.put, List.setIfInBounds_toArray, List.set_cons_zero, List.set_cons_succ]
    refine H_takeD (k := 18) (v := .bool false) (d := some 27) rfl rfl (by decide +kernel) (fun _ _ _ h => h) (Or.inl ⟨by rfl, fun W hW => by obtain ⟨s0, s1, s2, s3⟩ := hW; go_simp⟩) ⟨y0, y1, y2, y3⟩ ?_
    try simp only [Act.put, List.setIfInBounds_toArray, List.set_cons_zero, List.set_cons_succ]
    refine H_takeD (k := 19) (v := .bool false) (d := some 28) rfl rfl (by decide +kernel) (fun _ _ _ h => h) (Or.inl ⟨by rfl, fun W hW => by obtain ⟨s0, s1, s2, s3⟩ := hW; go_simp⟩) ⟨y0, y1, y2, y3⟩ ?_
    try simp only [Act.put, List.setIfInBounds_toArray, List.set_cons_zero, List.set_cons_succ]
    refine H_takeD (k := 20) (v := .pointer (some ⟨N, 1, none⟩)) (d := some 29) rfl rfl (by decide +kernel) (fun _ _ _ h => h) (Or.inl ⟨by simp [Region.wanted, yielded], fun W hW => by obtain ⟨s0, s1, s2, s3⟩ := hW; go_simp⟩) ⟨y0, y1, y2, y3⟩ ?_
    try simp only [Act.put, List.setIfInBounds_toArray, List.set_cons_zero, List.set_cons_succ]
    refine H_takeD (k := 21) (v := .slice B m cb) (d := some 30) rfl rfl (by decide +kernel) (fun _ _ _ h => h) (Or.inl ⟨by simp [Region.wanted, yielded], fun W hW => by obtain ⟨s0, s1, s2, s3⟩ := hW; go_simp⟩) ⟨y0, y1, y2, y3⟩ ?_
    try simp only [Act.put, List.setIfInBounds_toArray, List.set_cons_zero, List.set_cons_succ]
    refine H_takeD (k := 22) (v := .int .i64 (m : Int)) (d := some 31) rfl rfl (by decide +kernel) (fun _ _ _ h => h) (Or.inl ⟨by simp [Region.wanted, yielded], fun W hW => by obtain ⟨s0, s1, s2, s3⟩ := hW; go_simp⟩) ⟨y0, y1, y2, y3⟩ ?_
    try simp only [Act.put, List.setIfInBounds_toArray, List.set_cons_zero, List.set_cons_succ]
    refine H_takeD (k := 23) (v := .slice (some ⟨N + 1 + 1, 0, none⟩) 3 3) (d := some 32) rfl rfl (by decide +kernel) (fun _ _ _ h => h) (Or.inl ⟨by simp [Region.wanted, yielded], fun W hW => by obtain ⟨s0, s1, s2, s3⟩ := hW; go_simp⟩) ⟨y0, y1, y2, y3⟩ ?_
    try simp only [Act.put, List.setIfInBounds_toArray, List.set_cons_zero, List.set_cons_succ]
    refine H_takeD (k := 24) (v := .pointer (some ⟨N, 0, none⟩)) (d := some 33) rfl rfl (by decide +kernel) (fun _ _ _ h => h) (Or.inl ⟨by simp [Region.wanted, yielded], fun W hW => by obtain ⟨s0, s1, s2, s3⟩ := hW; go_simp⟩) ⟨y0, y1, y2, y3⟩ ?_
    try simp only [Act.put, List.setIfInBounds_toArray, List.set_cons_zero, List.set_cons_succ]
    refine H_takeD (k := 25) (v := .int .i64 2) (d := some 34) rfl rfl (by decide +kernel) (fun _ _ _ h => h) (Or.inl ⟨by simp [Region.wanted, yielded], fun W hW => by obtain ⟨s0, s1, s2, s3⟩ := hW; go_simp⟩) ⟨y0, y1, y2, y3⟩ ?_
    try simp only [Act.put, List.setIfInBounds_toArray, List.set_cons_zero, List.set_cons_succ]
    refine H_takeD (k := 26) (v := .pointer (some ⟨N + 1 + 1, 2, none⟩)) (d := some 35) rfl rfl (by decide +kernel) (fun _ _ _ h => h) (Or.inl ⟨by simp [Region.wanted, yielded], fun W hW => by obtain ⟨s0, s1, s2, s3⟩ := hW; go_simp⟩) ⟨y0, y1, y2, y3⟩ ?_
    try simp only [Act.put, List.setIfInBounds_toArray, List.set_cons_zero, List.set_cons_succ]
    refine H_takeD (k := 27) (v := .int .i64 0) (d := some 36) rfl rfl (by decide +kernel) (fun _ _ _ h => h) (Or.inl ⟨by simp [Region.wanted, yielded], fun W hW => by obtain ⟨s0, s1, s2, s3⟩ := hW; go_simp⟩) ⟨y0, y1, y2, y3⟩ ?_
    try simp only [Act.put, List.setIfInBounds_toArray, List.set_cons_zero, List.set_cons_succ]
    refine H_takeD (k := 28) (v := .bool true) (d := some 37) rfl rfl (by decide +kernel) (fun _ _ _ h => h) (Or.inl ⟨by simp [Region.wanted, yielded], fun W hW => by obtain ⟨s0, s1, s2, s3⟩ := hW; go_simp⟩) ⟨y0, y1, y2, y3⟩ ?_
    try simp only [Act.put, List.setIfInBounds_toArray, List.set_cons_zero, List.set_cons_succ]
    refine H_takeD (k := 29) (v := .bool true) (d := some 38) rfl rfl (by decide +kernel) (fun _ _ _ h => h) (Or.inl ⟨by rfl, fun W hW => by obtain ⟨s0, s1, s2, s3⟩ := hW; go_simp⟩) ⟨y0, y1, y2, y3⟩ ?_
    try simp only [Act.put, List.setIfInBounds_toArray, List.set_cons_zero, List.set_cons_succ]
    refine H_end (by decide +kernel) (NoPanic.normal ?_)
    try simp only [Act.put, List.setIfInBounds_toArray, List.set_cons_zero, List.set_cons_succ]
    clear y0 y1 y2 y3
    go_wp2_with fail
    go_ret
    exact ⟨by rw [HE.out]; rfl, HBd.out⟩
  · have HLn := Lib.hid (show lenOK k os.length = true from by unfold lenOK; rw [hm.out]; exact decide_eq_true (by omega))
    clear HbL
    subst h0
    have hI : ¬ ((m : Int) < 0) := by omega
    have hN0 : ¬ (m < 0) := by omega
    have hJ : ¬ ((m : Int) > 0) := by omega
    have hN1 : ¬ (0 < m) := by omega
    have H1 := Lib.hid h1
    clear h1
    have Hv := Lib.hid (show ∀ W, Qt W0 W → W.cell? ⟨N, 1, none⟩ = some (.slice B m cb) from fun W h => cell_qt v1 h)
    have Hq0 := Lib.hid (show Qt W0 W0.drew from ⟨1, rfl⟩)
    have HBd := Lib.hid (show Below w.heap.size w W0.drew from HB.out.drew)
    have y0 : W0.drew.cell? ⟨N, 0, none⟩ = some (.int .i64 2) := v0
    have y1 : W0.drew.cell? ⟨N, 1, none⟩ = some (.slice B m cb) := v1
    have y2 : W0.drew.cell? ⟨N + 1, 2, none⟩ = some (.int .i64 0) := l2
    have y3 : W0.drew.cell? ⟨N + 1 + 1, 2, none⟩ = some (.int .i64 0) := m2
    clear v0 v1 l0 l1 l2 m0 m1 m2
    refine wp_region_noPanic ?_
    refine region_H (S := fun W => W.cell? ⟨N, 0, none⟩ = some (.int .i64 2) ∧ W.cell? ⟨N, 1, none⟩ = some (.slice B m cb) ∧ W.cell? ⟨N + 1, 2, none⟩ = some (.int .i64 0) ∧ W.cell? ⟨N + 1 + 1, 2, none⟩ = some (.int .i64 0)) (by kernel_rfl) ?_
    change wpH _ _ _ _ 30 _ _ W0.drew
    generalize W0.drew = X0 at *
    refine H_takeD (k := 0) (v := .pointer (some ⟨N, 0, none⟩)) (d := some 9) rfl rfl (by decide +kernel) (fun _ _ _ h => h) (Or.inl ⟨by rfl, fun W hW => by obtain ⟨s0, s1, s2, s3⟩ := hW; go_simp⟩) ⟨y0, y1, y2, y3⟩ ?_
    try simp only [Act.put, List.setIfInBounds_toArray, List.set_cons_zero, List.set_cons_succ]
    refine H_takeD (k := 1) (v := .int .i64 2) (d := some 10) rfl rfl (by decide +kernel) (fun _ _ _ h => h) (Or.inl ⟨by rfl, fun W hW => by obtain ⟨s0, s1, s2, s3⟩ := hW; go_simp⟩) ⟨y0, y1, y2, y3⟩ ?_
    try simp only [Act.put, List.setIfInBounds_toArray, List.set_cons_zero, List.set_cons_succ]
    refine H_takeD (k := 2) (v := .bool false) (d := some 11) rfl rfl (by decide +kernel) (fun _ _ _ h => h) (Or.inl ⟨by rfl, fun W hW => by obtain ⟨s0, s1, s2, s3⟩ := hW; go_simp⟩) ⟨y0, y1, y2, y3⟩ ?_
    try simp only [Act.put, List.setIfInBounds_toArray, List.set_cons_zero, List.set_cons_succ]
    refine H_takeD (k := 3) (v := .bool false) (d := some 12) rfl rfl (by decide +kernel) (fun _ _ _ h => h) (Or.inl ⟨by rfl, fun W hW => by obtain ⟨s0, s1, s2, s3⟩ := hW; go_simp⟩) ⟨y0, y1, y2, y3⟩ ?_
    try simp only [Act.put, List.setIfInBounds_toArray, List.set_cons_zero, List.set_cons_succ]
    refine H_takeD (k := 4) (v := .pointer (some ⟨N, 0, none⟩)) (d := some 13) rfl rfl (by decide +kernel) (fun _ _ _ h => h) (Or.inl ⟨by simp [Region.wanted, yielded], fun W hW => by obtain ⟨s0, s1, s2, s3⟩ := hW; go_simp⟩) ⟨y0, y1, y2, y3⟩ ?_
    try simp only [Act.put, List.setIfInBounds_toArray, List.set_cons_zero, List.set_cons_succ]
    refine H_takeD (k := 5) (v := .int .i64 2) (d := some 14) rfl rfl (by decide +kernel) (fun _ _ _ h => h) (Or.inl ⟨by simp [Region.wanted, yielded], fun W hW => by obtain ⟨s0, s1, s2, s3⟩ := hW; go_simp⟩) ⟨y0, y1, y2, y3⟩ ?_
    try simp only [Act.put, List.setIfInBounds_toArray, List.set_cons_zero, List.set_cons_succ]
    refine H_takeD (k := 6) (v := .bool false) (d := some 15) rfl rfl (by decide +kernel) (fun _ _ _ h => h) (Or.inl ⟨by simp [Region.wanted, yielded], fun W hW => by obtain ⟨s0, s1, s2, s3⟩ := hW; go_simp⟩) ⟨y0, y1, y2, y3⟩ ?_
    try simp only [Act.put, List.setIfInBounds_toArray, List.set_cons_zero, List.set_cons_succ]
    refine H_takeD (k := 7) (v := .bool false) (d := some 16) rfl rfl (by decide +kernel) (fun _ _ _ h => h) (Or.inl ⟨by rfl, fun W hW => by obtain ⟨s0, s1, s2, s3⟩ := hW; go_simp⟩) ⟨y0, y1, y2, y3⟩ ?_
    try simp only [Act.put, List.setIfInBounds_toArray, List.set_cons_zero, List.set_cons_succ]
    refine H_takeD (k := 8) (v := .bool false) (d := some 17) rfl rfl (by decide +kernel) (fun _ _ _ h => h) (Or.inl ⟨by rfl, fun W hW => by obtain ⟨s0, s1, s2, s3⟩ := hW; go_simp⟩) ⟨y0, y1, y2, y3⟩ ?_
    try simp only [Act.put, List.setIfInBounds_toArray, List.set_cons_zero, List.set_cons_succ]
    refine H_takeD (k := 9) (v := .pointer (some ⟨N, 1, none⟩)) (d := some 18) rfl rfl (by decide +kernel) (fun _ _ _ h => h) (Or.inl ⟨by simp [Region.wanted, yielded], fun W hW => by obtain ⟨s0, s1, s2, s3⟩ := hW; go_simp⟩) ⟨y0, y1, y2, y3⟩ ?_
    try simp only [Act.put, List.setIfInBounds_toArray, List.set_cons_zero, List.set_cons_succ]
    refine H_takeD (k := 10) (v := .slice B m cb) (d := some 19) rfl rfl (by decide +kernel) (fun _ _ _ h => h) (Or.inl ⟨by simp [Region.wanted, yielded], fun W hW => by obtain ⟨s0, s1, s2, s3⟩ := hW; go_simp⟩) ⟨y0, y1, y2, y3⟩ ?_
    try simp only [Act.put, List.setIfInBounds_toArray, List.set_cons_zero, List.set_cons_succ]
    refine H_takeD (k := 11) (v := .int .i64 (m : Int)) (d := some 20) rfl rfl (by decide +kernel) (fun _ _ _ h => h) (Or.inl ⟨by simp [Region.wanted, yielded], fun W hW => by obtain ⟨s0, s1, s2, s3⟩ := hW; go_simp⟩) ⟨y0, y1, y2, y3⟩ ?_
    try simp only [Act.put, List.setIfInBounds_toArray, List.set_cons_zero, List.set_cons_succ]
    refine H_takeD (k := 12) (v := .slice (some ⟨N + 1, 0, none⟩) 3 3) (d := some 21) rfl rfl (by decide +kernel) (fun _ _ _ h => h) (Or.inl ⟨by simp [Region.wanted, yielded], fun W hW => by obtain ⟨s0, s1, s2, s3⟩ := hW; go_simp⟩) ⟨y0, y1, y2, y3⟩ ?_
    try simp only [Act.put, List.setIfInBounds_toArray, List.set_cons_zero, List.set_cons_succ]
    refine H_takeD (k := 13) (v := .pointer (some ⟨N, 0, none⟩)) (d := some 22) rfl rfl (by decide +kernel) (fun _ _ _ h => h) (Or.inl ⟨by simp [Region.wanted, yielded], fun W hW => by obtain ⟨s0, s1, s2, s3⟩ := hW; go_simp⟩) ⟨y0, y1, y2, y3⟩ ?_
    try simp only [Act.put, List.setIfInBounds_toArray, List.set_cons_zero, List.set_cons_succ]
    refine H_takeD (k := 14) (v := .int .i64 2) (d := some 23) rfl rfl (by decide +kernel) (fun _ _ _ h => h) (Or.inl ⟨by simp [Region.wanted, yielded], fun W hW => by obtain ⟨s0, s1, s2, s3⟩ := hW; go_simp⟩) ⟨y0, y1, y2, y3⟩ ?_
    try simp only [Act.put, List.setIfInBounds_toArray, List.set_cons_zero, List.set_cons_succ]
    refine H_takeD (k := 15) (v := .pointer (some ⟨N + 1, 2, none⟩)) (d := some 24) rfl rfl (by decide +kernel) (fun _ _ _ h => h) (Or.inl ⟨by simp [Region.wanted, yielded], fun W hW => by obtain ⟨s0, s1, s2, s3⟩ := hW; go_simp⟩) ⟨y0, y1, y2, y3⟩ ?_
    try simp only [Act.put, List.setIfInBounds_toArray, List.set_cons_zero, List.set_cons_succ]
    refine H_takeD (k := 16) (v := .int .i64 0) (d := some 25) rfl rfl (by decide +kernel) (fun _ _ _ h => h) (Or.inl ⟨by simp [Region.wanted, yielded], fun W hW => by obtain ⟨s0, s1, s2, s3⟩ := hW; go_simp⟩) ⟨y0, y1, y2, y3⟩ ?_
    try simp only [Act.put, List.setIfInBounds_toArray, List.set_cons_zero, List.set_cons_succ]
    refine H_takeD (k := 17) (v := .bool false) (d := some 26) rfl rfl (by decide +kernel) (fun _ _ _ h => h) (Or.inl ⟨by simp [Region.wanted, yielded], fun W hW => by obtain ⟨s0, s1, s2, s3⟩ := hW; go_simp⟩) ⟨y0, y1, y2, y3⟩ ?_
    try simp only [Act.put, List.setIfInBounds_toArray, List.set_cons_zero, List.set_cons_succ]
    refine H_takeD (k := 18) (v := .bool false) (d := some 27) rfl rfl (by decide +kernel) (fun _ _ _ h => h) (Or.inl ⟨by rfl, fun W hW => by obtain ⟨s0, s1, s2, s3⟩ := hW; go_simp⟩) ⟨y0, y1, y2, y3⟩ ?_
    try simp only [Act.put, List.setIfInBounds_toArray, List.set_cons_zero, List.set_cons_succ]
    refine H_takeD (k := 19) (v := .bool false) (d := some 28) rfl rfl (by decide +kernel) (fun _ _ _ h => h) (Or.inl ⟨by rfl, fun W hW => by obtain ⟨s0, s1, s2, s3⟩ := hW; go_simp⟩) ⟨y0, y1, y2, y3⟩ ?_
    try simp only [Act.put, List.setIfInBounds_toArray, List.set_cons_zero, List.set_cons_succ]
    refine H_takeD (k := 20) (v := .pointer (some ⟨N, 1, none⟩)) (d := some 29) rfl rfl (by decide +kernel) (fun _ _ _ h => h) (Or.inl ⟨by simp [Region.wanted, yielded], fun W hW => by obtain ⟨s0, s1, s2, s3⟩ := hW; go_simp⟩) ⟨y0, y1, y2, y3⟩ ?_
    try simp only [Act.put, List.setIfInBounds_toArray, List.set_cons_zero, List.set_cons_succ]
    refine H_takeD (k := 21) (v := .slice B m cb) (d := some 30) rfl rfl (by decide +kernel) (fun _ _ _ h => h) (Or.inl ⟨by simp [Region.wanted, yielded], fun W hW => by obtain ⟨s0, s1, s2, s3⟩ := hW; go_simp⟩) ⟨y0, y1, y2, y3⟩ ?_
    try simp only [Act.put, List.setIfInBounds_toArray, List.set_cons_zero, List.set_cons_succ]
    refine H_takeD (k := 22) (v := .int .i64 (m : Int)) (d := some 31) rfl rfl (by decide +kernel) (fun _ _ _ h => h) (Or.inl ⟨by simp [Region.wanted, yielded], fun W hW => by obtain ⟨s0, s1, s2, s3⟩ := hW; go_simp⟩) ⟨y0, y1, y2, y3⟩ ?_
    try simp only [Act.put, List.setIfInBounds_toArray, List.set_cons_zero, List.set_cons_succ]
    refine H_takeD (k := 23) (v := .slice (some ⟨N + 1 + 1, 0, none⟩) 3 3) (d := some 32) rfl rfl (by decide +kernel) (fun _ _ _ h => h) (Or.inl ⟨by simp [Region.wanted, yielded], fun W hW => by obtain ⟨s0, s1, s2, s3⟩ := hW; go_simp⟩) ⟨y0, y1, y2, y3⟩ ?_
    try simp only [Act.put, List.setIfInBounds_toArray, List.set_cons_zero, List.set_cons_succ]
    refine H_takeD (k := 24) (v := .pointer (some ⟨N, 0, none⟩)) (d := some 33) rfl rfl (by decide +kernel) (fun _ _ _ h => h) (Or.inl ⟨by simp [Region.wanted, yielded], fun W hW => by obtain ⟨s0, s1, s2, s3⟩ := hW; go_simp⟩) ⟨y0, y1, y2, y3⟩ ?_
    try simp only [Act.put, List.setIfInBounds_toArray, List.set_cons_zero, List.set_cons_succ]
    refine H_takeD (k := 25) (v := .int .i64 2) (d := some 34) rfl rfl (by decide +kernel) (fun _ _ _ h => h) (Or.inl ⟨by simp [Region.wanted, yielded], fun W hW => by obtain ⟨s0, s1, s2, s3⟩ := hW; go_simp⟩) ⟨y0, y1, y2, y3⟩ ?_
    try simp only [Act.put, List.setIfInBounds_toArray, List.set_cons_zero, List.set_cons_succ]
    refine H_takeD (k := 26) (v := .pointer (some ⟨N + 1 + 1, 2, none⟩)) (d := some 35) rfl rfl (by decide +kernel) (fun _ _ _ h => h) (Or.inl ⟨by simp [Region.wanted, yielded], fun W hW => by obtain ⟨s0, s1, s2, s3⟩ := hW; go_simp⟩) ⟨y0, y1, y2, y3⟩ ?_
    try simp only [Act.put, List.setIfInBounds_toArray, List.set_cons_zero, List.set_cons_succ]
    refine H_takeD (k := 27) (v := .int .i64 0) (d := some 36) rfl rfl (by decide +kernel) (fun _ _ _ h => h) (Or.inl ⟨by simp [Region.wanted, yielded], fun W hW => by obtain ⟨s0, s1, s2, s3⟩ := hW; go_simp⟩) ⟨y0, y1, y2, y3⟩ ?_
    try simp only [Act.put, List.setIfInBounds_toArray, List.set_cons_zero, List.set_cons_succ]
    refine H_takeD (k := 28) (v := .bool false) (d := some 37) rfl rfl (by decide +kernel) (fun _ _ _ h => h) (Or.inl ⟨by simp [Region.wanted, yielded], fun W hW => by obtain ⟨s0, s1, s2, s3⟩ := hW; go_simp⟩) ⟨y0, y1, y2, y3⟩ ?_
    try simp only [Act.put, List.setIfInBounds_toArray, List.set_cons_zero, List.set_cons_succ]
    refine H_takeD (k := 29) (v := .bool false) (d := some 38) rfl rfl (by decide +kernel) (fun _ _ _ h => h) (Or.inl ⟨by rfl, fun W hW => by obtain ⟨s0, s1, s2, s3⟩ := hW; go_simp⟩) ⟨y0, y1, y2, y3⟩ ?_
    try simp only [Act.put, List.setIfInBounds_toArray, List.set_cons_zero, List.set_cons_succ]
    refine H_end (by decide +kernel) (NoPanic.normal ?_)
    try simp only [Act.put, List.setIfInBounds_toArray, List.set_cons_zero, List.set_cons_succ]
    clear y0 y1 y2 y3 hI hN0 hJ hN1
    go_wp2_with fail
    go_loopw [5] (fun iv wr => ∃ i : Nat, i ≤ m ∧ iv = .int .i64 (i : Int) ∧ Hid (∀ j x, j < i → os[j]? = some x → badO x = false) ∧ Hid (os.take i).Nodup ∧ Hid (Qt W0 wr)) (fun iv _ => m - (intOf iv).toNat)
    case atStart => exact ⟨0, by omega, rfl, Lib.hid (fun j _ hj => by omega), Lib.hid (by simp), Hq0⟩
    case round =>
      clear Hq0
      obtain ⟨i, hi, rfl, Hb, Hn, Hq⟩ := hrel
      have v1 := Hv.out wr Hq.out
      by_cases hlt : i < m
      · obtain ⟨b, o, x, hBe, c0, hx⟩ := (HI.out.qt Hq.out).get (k := i) (by rw [hm.out]; exact hlt)
        have hmi : ¬ (m ≤ i) := by omega
        rw [hBe] at v1
        rw [hBe]
        clear hBe
        have hxc : x < 0 ∨ (¬ x < 0 ∧ x > 63) ∨ (¬ x < 0 ∧ ¬ x > 63) := by omega
        rcases hxc with h0 | ⟨h0, h1⟩ | ⟨h0, h1⟩
        · have HE := Lib.hid (vwE_bad (k := 2) (any_bad hx.out (by unfold badO inB; simp; omega)))
          go_wp2_with fail
          go_ret
          exact ⟨by rw [HE.out]; rfl, Hq.out.bl HB.out⟩
        · have HE := Lib.hid (vwE_bad (k := 2) (any_bad hx.out (by unfold badO inB; simp; omega)))
          go_wp2_with fail
          go_ret
          exact ⟨by rw [HE.out]; rfl, Hq.out.bl HB.out⟩
        · have Hb2 := Lib.hid (show ∀ j y, j < i + 1 → os[j]? = some y → badO y = false from fun j y hj hy => by
            by_cases e : j = i
            · subst e; rw [hx.out] at hy; injection hy with hy; rw [← hy]; exact badO_iff.2 (by omega)
            · exact Hb.out j y (by omega) hy)
          clear Hb
          go_wp2_with fail
          generalize wr = w1 at *
          go_loopw [6] (fun jv wr => ∃ j : Nat, j ≤ i ∧ jv = .int .i64 (j : Int) ∧ Hid (∀ q, q < j → os[q]? ≠ some x) ∧ Hid (Qt W0 wr)) (fun jv _ => i - (intOf jv).toNat)
          case atStart => exact ⟨0, by omega, rfl, Lib.hid (fun q hq => by omega), Hq⟩
          case round =>
            clear Hq v1 c0
            obtain ⟨j, hj, rfl, Ha, Hq⟩ := hrel
            have v1 := Hv.out wr Hq.out
            by_cases hlt2 : j < i
            · obtain ⟨b1, o1, y, hBe, d0, hy⟩ := (HI.out.qt Hq.out).get (k := j) (by rw [hm.out]; omega)
              obtain ⟨b2, o2, x', hBe2, c0, hx2⟩ := (HI.out.qt Hq.out).get (k := i) (by rw [hm.out]; omega)
              have hxx : x' = x := by have := hx2.out; rw [hx.out] at this; injection this with this; exact this.symm
              subst hxx
              have hmj : ¬ (m ≤ j) := by omega
              have hjm : j < m := by omega
              have hmi2 : ¬ (m ≤ i) := by omega
              rw [hBe] at hBe2
              injection hBe2 with hBe2
              injection hBe2 with e1 e2
              subst e1 e2
              rw [hBe] at v1
              clear hBe hx2
              go_wp2
              go_quiet (fail)
              have Hq2 := Lib.hid (Hq.out.drewN nq)
              clear Hq v1 c0 d0
              cases he : (y == x')
              · have Ha2 := Lib.hid (show ∀ q, q < j + 1 → os[q]? ≠ some x' from fun q hq => by
                  by_cases e : q = j
                  · subst e; rw [hy.out]; intro e; injection e with e; rw [e] at he; simp at he
                  · exact Ha.out q (by omega))
                clear he
                go_wp2_with fail
                go_roundw
                case rel => exact ⟨j + 1, by omega, by go_num, Ha2, Hq2⟩
                case measure => simp [intOf]; omega
              · have hyx : y = x' := by simpa using he
                have HE := Lib.hid (vwE_dup (k := 2) (dup_at hlt2 hx.out (hyx ▸ hy.out)))
                clear he hyx
                go_wp2_with fail
                go_ret
                exact ⟨by rw [HE.out]; rfl, Hq2.out.bl HB.out⟩
            · obtain rfl : j = i := by omega
              have Hn2 := Lib.hid (nodup_next hx.out Hn.out (fun q hq => Ha.out q hq))
              clear Ha Hn
              go_wp2_with fail
              go_roundw
              case rel => exact ⟨j + 1, by omega, by go_num, Hb2, Hn2, Hq⟩
              case measure => simp [intOf]; omega
      · obtain rfl : i = m := by omega
        have HE := Lib.hid (show vwE 2 os = 0 from vwE_ok HLn.out (by have h := Hn.out; rw [List.take_of_length_le (by rw [hm.out]; exact Nat.le_refl _)] at h; exact h) (by
          rw [List.any_eq_false]
          intro x hx
          obtain ⟨j, hj⟩ := List.mem_iff_getElem?.1 hx
          rw [Hb.out j x (by have := (List.getElem?_eq_some_iff.1 hj).1; rw [hm.out] at this; exact this) hj]
          decide))
        clear Hb Hn
        go_wp2_with fail
        go_ret
        exact ⟨by rw [HE.out]; rfl, Hq.out.bl HB.out⟩

end Go.Proofs.Ytgeciimakjfnfaa
