import Derived.Test.YtnapnkmehnabfaaGreatP16
namespace Go.Proofs.YtnapnkmehnabfaaGreat
open Go.RowKit Go.Maps

set_option linter.unusedSimpArgs false in
set_option maxHeartbeats 4000000 in
set_option maxRecDepth 100000 in
theorem rule4_any (S : Nat) (p : Pa) (a : Pw) (w : World) (hk : Bk w S 34 (paC p a)) :
    Calls Tryz.prog 116 #[.pointer (some ⟨S, 0, none⟩)] w fun e w' => e = .returned (.int .i64 (argE p)) ∧ w = w' := by
  have g0 : w.cell? ⟨S, 0, none⟩ = some (.int .i64 p.office) := hk.cell 0
  have g1 : w.cell? ⟨S, 1, none⟩ = some (.int .i64 p.num) := hk.cell 1
  obtain ⟨R, hR⟩ : ∃ z, Hid (argE p = z) := ⟨_, Lib.hid rfl⟩
  rw [hR.out]
  clear hk
  by_cases e1 : (0 ≤ p.office ∧ p.office ≤ 63) ∧ (0 ≤ p.num ∧ p.num ≤ 1099511627776)
  · have hr := Lib.hid (show R = 0 from by rw [← hR.out]; exact if_pos e1)
    have t1 : ¬ p.office < 0 := by omega
    have t2 : ¬ 63 < p.office := by omega
    have t3 : ¬ p.num < 0 := by omega
    have t4 : ¬ 1099511627776 < p.num := by omega
    clear e1 hR
    go_enter Tryz.func116, Tryz.ntmps116
    go_wp2_with fail
    refine (when_any false 1 w).mono ?_
    rintro e w1 ⟨rfl, rfl⟩
    go_wp2_with fail
    go_ret
    exact ⟨by rw [hr.out]; rfl, rfl⟩
  · have hr := Lib.hid (show R = 1 from by rw [← hR.out]; exact if_neg e1)
    have hc : p.office < 0 ∨ (¬ p.office < 0 ∧ 63 < p.office) ∨ (¬ p.office < 0 ∧ ¬ 63 < p.office ∧ p.num < 0) ∨ (¬ p.office < 0 ∧ ¬ 63 < p.office ∧ ¬ p.num < 0 ∧ 1099511627776 < p.num) := by omega
    clear e1 hR
    rcases hc with t1 | ⟨t1, t2⟩ | ⟨t1, t2, t3⟩ | ⟨t1, t2, t3, t4⟩
    all_goals
      go_enter Tryz.func116, Tryz.ntmps116
      go_wp2_with fail
      refine (when_any true 1 w).mono ?_
      rintro e w1 ⟨rfl, rfl⟩
      go_wp2_with fail
      go_ret
      exact ⟨by rw [hr.out]; rfl, rfl⟩
set_option linter.unusedSimpArgs false in
set_option maxHeartbeats 4000000 in
set_option maxRecDepth 100000 in
theorem rule6_any (S : Nat) (p : Pa) (a : Pw) (w : World) (hk : Bk w S 34 (paC p a)) (hT : SU w a.n p.needs) (hl : p.needs.length ≤ 1099511627776) :
    Calls Tryz.prog 118 #[.pointer (some ⟨S, 0, none⟩)] w fun e w' => e = .returned (.int .i64 (eachE (ndW p.needs) p.needs.length)) ∧ w = w' := by
  have g2 : w.cell? ⟨S, 2, none⟩ = some (.slice a.n p.needs.length a.cn) := hk.cell 2
  have hC := eachU_any S p a w hk hT hl
  obtain ⟨R, hR⟩ : ∃ z, Hid (eachE (ndW p.needs) p.needs.length = z) := ⟨_, Lib.hid rfl⟩
  rw [hR.out] at hC ⊢
  clear hk hT hR
  go_enter Tryz.func118, Tryz.ntmps118
  go_wp2_with fail
  refine hC.mono ?_
  rintro e w1 ⟨rfl, rfl⟩
  go_wp2_with fail
  go_ret
  exact ⟨rfl, rfl⟩
end Go.Proofs.YtnapnkmehnabfaaGreat
