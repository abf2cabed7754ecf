import Derived.Test.YtnapnkmehnabfaaGreatP01
namespace Go.Proofs.YtnapnkmehnabfaaGreat
open Go.RowKit Go.Maps

set_option maxHeartbeats 4000000 in
theorem claim_any (c : Cl) (w : World) : Calls Tryz.prog 25 #[clV c] w fun e w' => e = .returned (.int .i64 (clE c)) ∧ Below w.heap.size w w' := by
  obtain ⟨kind, office, fr, til, dec⟩ := c
  show Calls Tryz.prog 25 #[.agg #[.int .i64 kind, .int .i64 office, .int .i64 fr, .int .i64 til, .int .i64 dec]] w _
  have hb := (Below.refl w.heap.size w).alloc (Nat.le_refl _) (.cells #[.int .i64 kind, .int .i64 office, .int .i64 fr, .int .i64 til, .int .i64 dec] 41)
  have k0 : (w.alloc (.cells #[.int .i64 kind, .int .i64 office, .int .i64 fr, .int .i64 til, .int .i64 dec] 41)).cell? ⟨w.heap.size, 0, none⟩ = some (.int .i64 kind) := (Bk.new w 41 #[.int .i64 kind, .int .i64 office, .int .i64 fr, .int .i64 til, .int .i64 dec]).cell 0
  have k1 : (w.alloc (.cells #[.int .i64 kind, .int .i64 office, .int .i64 fr, .int .i64 til, .int .i64 dec] 41)).cell? ⟨w.heap.size, 1, none⟩ = some (.int .i64 office) := (Bk.new w 41 #[.int .i64 kind, .int .i64 office, .int .i64 fr, .int .i64 til, .int .i64 dec]).cell 1
  have k2 : (w.alloc (.cells #[.int .i64 kind, .int .i64 office, .int .i64 fr, .int .i64 til, .int .i64 dec] 41)).cell? ⟨w.heap.size, 2, none⟩ = some (.int .i64 fr) := (Bk.new w 41 #[.int .i64 kind, .int .i64 office, .int .i64 fr, .int .i64 til, .int .i64 dec]).cell 2
  have k3 : (w.alloc (.cells #[.int .i64 kind, .int .i64 office, .int .i64 fr, .int .i64 til, .int .i64 dec] 41)).cell? ⟨w.heap.size, 3, none⟩ = some (.int .i64 til) := (Bk.new w 41 #[.int .i64 kind, .int .i64 office, .int .i64 fr, .int .i64 til, .int .i64 dec]).cell 3
  have k4 : (w.alloc (.cells #[.int .i64 kind, .int .i64 office, .int .i64 fr, .int .i64 til, .int .i64 dec] 41)).cell? ⟨w.heap.size, 4, none⟩ = some (.int .i64 dec) := (Bk.new w 41 #[.int .i64 kind, .int .i64 office, .int .i64 fr, .int .i64 til, .int .i64 dec]).cell 4
  by_cases hok : 0 ≤ kind ∧ kind ≤ 2 ∧ 0 ≤ office ∧ office ≤ 63 ∧ 0 ≤ dec ∧ dec ≤ 1048576 ∧ 0 ≤ fr ∧ fr ≤ til ∧ til ≤ 73048
  · have he := Lib.hid (show clE ⟨kind, office, fr, til, dec⟩ = 0 from if_pos hok)
    have t0 : 0 ≤ kind ∧ kind ≤ 2 := by omega
    have t1 : 0 ≤ office ∧ office ≤ 63 := by omega
    have t2 : 0 ≤ fr ∧ fr ≤ 73048 := by omega
    have t3 : 0 ≤ til ∧ til ≤ 73048 := by omega
    have t4 : fr ≤ til := by omega
    have t5 : 0 ≤ dec ∧ dec ≤ 1048576 := by omega
    clear hok
    go_enter Tryz.func25, Tryz.ntmps25
    go_wp2_with fail
    refine (in_any kind 0 2 _).mono ?_
    rintro e wx ⟨rfl, rfl⟩
    rw [inB_true t0]
    go_wp2_with fail
    refine (isOffice_any office _).mono ?_
    rintro e wx ⟨rfl, rfl⟩
    rw [inB_true t1]
    go_wp2_with fail
    refine (isDay_any fr _).mono ?_
    rintro e wx ⟨rfl, rfl⟩
    rw [inB_true t2]
    go_wp2_with fail
    refine (isDay_any til _).mono ?_
    rintro e wx ⟨rfl, rfl⟩
    rw [inB_true t3]
    go_wp2_with fail
    refine (in_any dec 0 1048576 _).mono ?_
    rintro e wx ⟨rfl, rfl⟩
    rw [inB_true t5]
    go_wp2_with fail
    go_ret
    exact ⟨by rw [he.out]; rfl, hb⟩
  · have he := Lib.hid (show clE ⟨kind, office, fr, til, dec⟩ = 1 from if_neg hok)
    have hc : (¬ (0 ≤ kind ∧ kind ≤ 2)) ∨ ((0 ≤ kind ∧ kind ≤ 2) ∧ ¬ (0 ≤ office ∧ office ≤ 63)) ∨ ((0 ≤ kind ∧ kind ≤ 2) ∧ (0 ≤ office ∧ office ≤ 63) ∧ ¬ (0 ≤ fr ∧ fr ≤ 73048)) ∨ ((0 ≤ kind ∧ kind ≤ 2) ∧ (0 ≤ office ∧ office ≤ 63) ∧ (0 ≤ fr ∧ fr ≤ 73048) ∧ ¬ (0 ≤ til ∧ til ≤ 73048)) ∨ ((0 ≤ kind ∧ kind ≤ 2) ∧ (0 ≤ office ∧ office ≤ 63) ∧ (0 ≤ fr ∧ fr ≤ 73048) ∧ (0 ≤ til ∧ til ≤ 73048) ∧ ¬ fr ≤ til) ∨ ((0 ≤ kind ∧ kind ≤ 2) ∧ (0 ≤ office ∧ office ≤ 63) ∧ (0 ≤ fr ∧ fr ≤ 73048) ∧ (0 ≤ til ∧ til ≤ 73048) ∧ fr ≤ til ∧ ¬ (0 ≤ dec ∧ dec ≤ 1048576)) := by omega
    clear hok
    rcases hc with t0 | ⟨t0, t1⟩ | ⟨t0, t1, t2⟩ | ⟨t0, t1, t2, t3⟩ | ⟨t0, t1, t2, t3, t4⟩ | ⟨t0, t1, t2, t3, t4, t5⟩
    · skip
      go_enter Tryz.func25, Tryz.ntmps25
      go_wp2_with fail
      refine (in_any kind 0 2 _).mono ?_
      rintro e wx ⟨rfl, rfl⟩
      rw [inB_false t0]
      go_wp2_with fail
      go_ret
      exact ⟨by rw [he.out]; rfl, hb⟩
    · skip
      go_enter Tryz.func25, Tryz.ntmps25
      go_wp2_with fail
      refine (in_any kind 0 2 _).mono ?_
      rintro e wx ⟨rfl, rfl⟩
      rw [inB_true t0]
      go_wp2_with fail
      refine (isOffice_any office _).mono ?_
      rintro e wx ⟨rfl, rfl⟩
      rw [inB_false t1]
      go_wp2_with fail
      go_ret
      exact ⟨by rw [he.out]; rfl, hb⟩
    · skip
      go_enter Tryz.func25, Tryz.ntmps25
      go_wp2_with fail
      refine (in_any kind 0 2 _).mono ?_
      rintro e wx ⟨rfl, rfl⟩
      rw [inB_true t0]
      go_wp2_with fail
      refine (isOffice_any office _).mono ?_
      rintro e wx ⟨rfl, rfl⟩
      rw [inB_true t1]
      go_wp2_with fail
      refine (isDay_any fr _).mono ?_
      rintro e wx ⟨rfl, rfl⟩
      rw [inB_false t2]
      go_wp2_with fail
      go_ret
      exact ⟨by rw [he.out]; rfl, hb⟩
    · skip
      go_enter Tryz.func25, Tryz.ntmps25
      go_wp2_with fail
      refine (in_any kind 0 2 _).mono ?_
      rintro e wx ⟨rfl, rfl⟩
      rw [inB_true t0]
      go_wp2_with fail
      refine (isOffice_any office _).mono ?_
      rintro e wx ⟨rfl, rfl⟩
      rw [inB_true t1]
      go_wp2_with fail
      refine (isDay_any fr _).mono ?_
      rintro e wx ⟨rfl, rfl⟩
      rw [inB_true t2]
      go_wp2_with fail
      refine (isDay_any til _).mono ?_
      rintro e wx ⟨rfl, rfl⟩
      rw [inB_false t3]
      go_wp2_with fail
      go_ret
      exact ⟨by rw [he.out]; rfl, hb⟩
    · skip
      go_enter Tryz.func25, Tryz.ntmps25
      go_wp2_with fail
      refine (in_any kind 0 2 _).mono ?_
      rintro e wx ⟨rfl, rfl⟩
      rw [inB_true t0]
      go_wp2_with fail
      refine (isOffice_any office _).mono ?_
      rintro e wx ⟨rfl, rfl⟩
      rw [inB_true t1]
      go_wp2_with fail
      refine (isDay_any fr _).mono ?_
      rintro e wx ⟨rfl, rfl⟩
      rw [inB_true t2]
      go_wp2_with fail
      refine (isDay_any til _).mono ?_
      rintro e wx ⟨rfl, rfl⟩
      rw [inB_true t3]
      go_wp2_with fail
      go_ret
      exact ⟨by rw [he.out]; rfl, hb⟩
    · skip
      go_enter Tryz.func25, Tryz.ntmps25
      go_wp2_with fail
      refine (in_any kind 0 2 _).mono ?_
      rintro e wx ⟨rfl, rfl⟩
      rw [inB_true t0]
      go_wp2_with fail
      refine (isOffice_any office _).mono ?_
      rintro e wx ⟨rfl, rfl⟩
      rw [inB_true t1]
      go_wp2_with fail
      refine (isDay_any fr _).mono ?_
      rintro e wx ⟨rfl, rfl⟩
      rw [inB_true t2]
      go_wp2_with fail
      refine (isDay_any til _).mono ?_
      rintro e wx ⟨rfl, rfl⟩
      rw [inB_true t3]
      go_wp2_with fail
      refine (in_any dec 0 1048576 _).mono ?_
      rintro e wx ⟨rfl, rfl⟩
      rw [inB_false t5]
      go_wp2_with fail
      go_ret
      exact ⟨by rw [he.out]; rfl, hb⟩
end Go.Proofs.YtnapnkmehnabfaaGreat
