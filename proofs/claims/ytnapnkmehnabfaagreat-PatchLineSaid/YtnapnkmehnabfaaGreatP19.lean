import Derived.Test.YtnapnkmehnabfaaGreatP18
namespace Go.Proofs.YtnapnkmehnabfaaGreat
open Go.RowKit Go.Maps

set_option linter.unusedSimpArgs false in
set_option maxHeartbeats 4000000 in
set_option maxRecDepth 100000 in
theorem rule1_any (S : Nat) (p : Pa) (a : Pw) (i : Int) (c : Cl) (w : World) (hk : Bk w S 34 (paC p a)) :
    Calls Tryz.prog 109 #[.int .i64 i, clV c, .pointer (some ⟨S, 0, none⟩)] w fun e w' => e = .returned (.int .i64 (if clE c ≠ 0 ∨ c.office ≠ p.office then 1 else 0)) ∧ Below w.heap.size w w' := by
  obtain ⟨kind, office, fr, til, dec⟩ := c
  obtain ⟨R, hR⟩ : ∃ z, Hid ((if clE ⟨kind, office, fr, til, dec⟩ ≠ 0 ∨ office ≠ p.office then (1 : Int) else 0) = z) := ⟨_, Lib.hid rfl⟩
  have hR' : (if clE ⟨kind, office, fr, til, dec⟩ ≠ 0 ∨ (⟨kind, office, fr, til, dec⟩ : Cl).office ≠ p.office then (1 : Int) else 0) = R := hR.out
  rw [hR']
  clear hR'
  show Calls Tryz.prog 109 #[.int .i64 i, .agg #[.int .i64 kind, .int .i64 office, .int .i64 fr, .int .i64 til, .int .i64 dec], .pointer (some ⟨S, 0, none⟩)] w _
  have HC := Lib.hid (fun W => show Calls Tryz.prog 25 #[.agg #[.int .i64 kind, .int .i64 office, .int .i64 fr, .int .i64 til, .int .i64 dec]] W _ from claim_any ⟨kind, office, fr, til, dec⟩ W)
  have hb := (Below.refl w.heap.size w).alloc (Nat.le_refl _) (.cells #[.int .i64 kind, .int .i64 office, .int .i64 fr, .int .i64 til, .int .i64 dec] 41)
  have hk1 := Bk.new w 41 #[.int .i64 kind, .int .i64 office, .int .i64 fr, .int .i64 til, .int .i64 dec]
  have hk2 := hk.alloc (.cells #[.int .i64 kind, .int .i64 office, .int .i64 fr, .int .i64 til, .int .i64 dec] 41)
  go_enter Tryz.func109, Tryz.ntmps109
  go_upto_region 1 with fail
  generalize w.alloc (.cells #[.int .i64 kind, .int .i64 office, .int .i64 fr, .int .i64 til, .int .i64 dec] 41) = W0 at *
  generalize hs : w.heap.size = s at *
  have Hs := Lib.hid hs
  clear hs hk
  have Hb := Lib.hid hb
  have g0 : W0.cell? ⟨s, 0, none⟩ = some (.int .i64 kind) := hk1.cell 0
  have g1 : W0.cell? ⟨s, 1, none⟩ = some (.int .i64 office) := hk1.cell 1
  have g2 : W0.cell? ⟨s, 2, none⟩ = some (.int .i64 fr) := hk1.cell 2
  have g3 : W0.cell? ⟨s, 3, none⟩ = some (.int .i64 til) := hk1.cell 3
  have g4 : W0.cell? ⟨s, 4, none⟩ = some (.int .i64 dec) := hk1.cell 4
  have Hk1 := Lib.hid hk1
  have Hk2 := Lib.hid hk2
  have hz0 : s ≤ W0.heap.size := by have := hk1.lt; omega
  clear hb hk1 hk2
  go_wp2_with fail
  refine (HC.out W0).mono ?_
  rintro e w1 ⟨rfl, hb1⟩
  have Hb1 := Lib.hid (Hb.out.trans (hb1.mono hz0))
  have k1 : w1.cell? ⟨s, 1, none⟩ = some (.int .i64 office) := (Hk1.out.below hb1 Hk1.out.lt).cell 1
  have k0 : w1.cell? ⟨S, 0, none⟩ = some (.int .i64 p.office) := (Hk2.out.below hb1 Hk2.out.lt).cell 0
  clear g0 g1 g2 g3 g4 hb1 Hb Hk1 Hk2 HC
  by_cases f1 : clE ⟨kind, office, fr, til, dec⟩ = 0
  · have b1 : (clE ⟨kind, office, fr, til, dec⟩ != 0) = false := by simp [f1]
    by_cases f2 : office = p.office
    · have b2 : (office != p.office) = false := by simp [f2]
      have hr := Lib.hid (show R = 0 from by rw [← hR.out, if_neg (fun h => h.elim (fun h => h f1) (fun h => h f2))])
      clear f1 f2 hR
      go_wp2_with fail
      refine (when_any false 1 w1).mono ?_
      rintro e w2 ⟨rfl, rfl⟩
      go_wp2_with fail
      go_ret
      exact ⟨by rw [hr.out]; rfl, Hs.out ▸ Hb1.out⟩
    · have b2 : (office != p.office) = true := by simp [f2]
      have hr := Lib.hid (show R = 1 from by rw [← hR.out, if_pos (.inr f2)])
      clear f1 f2 hR
      go_wp2_with fail
      refine (when_any true 1 w1).mono ?_
      rintro e w2 ⟨rfl, rfl⟩
      go_wp2_with fail
      go_ret
      exact ⟨by rw [hr.out]; rfl, Hs.out ▸ Hb1.out⟩
  · have b1 : (clE ⟨kind, office, fr, til, dec⟩ != 0) = true := by simp [f1]
    have hr := Lib.hid (show R = 1 from by rw [← hR.out, if_pos (.inl f1)])
    clear f1 hR
    go_wp2_with fail
    refine (when_any true 1 w1).mono ?_
    rintro e w2 ⟨rfl, rfl⟩
    go_wp2_with fail
    go_ret
    exact ⟨by rw [hr.out]; rfl, Hs.out ▸ Hb1.out⟩
theorem rule2_any (n : Int) (w : World) :
    Calls Tryz.prog 111 #[.int .i64 n] w fun e w' => e = .returned (.bool (decide (¬ (0 ≤ n ∧ n ≤ 4095)))) ∧ w = w' := by
  obtain ⟨R, hR⟩ : ∃ z, Hid (decide (¬ (0 ≤ n ∧ n ≤ 4095)) = z) := ⟨_, Lib.hid rfl⟩
  rw [hR.out]
  by_cases h1 : n < 0
  · have hr := Lib.hid (show R = true from by rw [← hR.out]; exact decide_eq_true (by omega))
    go_enter Tryz.func111, Tryz.ntmps111
    go_wp2_with fail
    go_ret
    exact ⟨by rw [hr.out]; rfl, rfl⟩
  · by_cases h2 : 4096 ≤ n
    · have hr := Lib.hid (show R = true from by rw [← hR.out]; exact decide_eq_true (by omega))
      go_enter Tryz.func111, Tryz.ntmps111
      go_wp2_with fail
      go_ret
      exact ⟨by rw [hr.out]; rfl, rfl⟩
    · have hr := Lib.hid (show R = false from by rw [← hR.out]; exact decide_eq_false (by omega))
      go_enter Tryz.func111, Tryz.ntmps111
      go_wp2_with fail
      go_ret
      exact ⟨by rw [hr.out]; rfl, rfl⟩
set_option linter.unusedSimpArgs false in
set_option maxHeartbeats 4000000 in
theorem rule12c_any (i x y : Int) (w : World) :
    Calls Tryz.prog 138 #[.int .i64 i, .agg #[.int .i64 x, .int .i64 y]] w fun e w' => e = .returned (.int .i64 (if (0 ≤ x ∧ x ≤ 1048576) ∧ (0 ≤ y ∧ y ≤ 73048) then 0 else 1)) ∧ Below w.heap.size w w' := by
  obtain ⟨R, hR⟩ : ∃ z, Hid ((if (0 ≤ x ∧ x ≤ 1048576) ∧ (0 ≤ y ∧ y ≤ 73048) then (0 : Int) else 1) = z) := ⟨_, Lib.hid rfl⟩
  rw [hR.out]
  have hb := (Below.refl w.heap.size w).alloc (Nat.le_refl _) (.cells #[.int .i64 x, .int .i64 y] 92)
  have hk1 := Bk.new w 92 #[.int .i64 x, .int .i64 y]
  have hc0 := hk1.cell 0
  have hc1 := hk1.cell 1
  clear hk1
  have c0 : (w.alloc (.cells #[.int .i64 x, .int .i64 y] 92)).cell? ⟨w.heap.size, 0, none⟩ = some (.int .i64 x) := hc0
  have c1 : (w.alloc (.cells #[.int .i64 x, .int .i64 y] 92)).cell? ⟨w.heap.size, 1, none⟩ = some (.int .i64 y) := hc1
  clear hc0 hc1
  have Hb := Lib.hid hb
  clear hb
  by_cases h1 : x < 0
  · have hr := Lib.hid (show R = 1 from by rw [← hR.out]; exact if_neg (by omega))
    go_enter Tryz.func138, Tryz.ntmps138
    go_wp2_with fail
    refine (when_any true 1 _).mono ?_
    rintro e w2 ⟨rfl, rfl⟩
    go_wp2_with fail
    go_ret
    exact ⟨by rw [hr.out]; rfl, Hb.out⟩
  · by_cases h2 : 1048576 < x
    · have hr := Lib.hid (show R = 1 from by rw [← hR.out]; exact if_neg (by omega))
      go_enter Tryz.func138, Tryz.ntmps138
      go_wp2_with fail
      refine (when_any true 1 _).mono ?_
      rintro e w2 ⟨rfl, rfl⟩
      go_wp2_with fail
      go_ret
      exact ⟨by rw [hr.out]; rfl, Hb.out⟩
    · by_cases h3 : 0 ≤ y ∧ y ≤ 73048
      · have hr := Lib.hid (show R = 0 from by rw [← hR.out]; exact if_pos (by omega))
        go_enter Tryz.func138, Tryz.ntmps138
        go_wp2_with fail
        refine (pday_any y _).mono ?_
        rintro e w2 ⟨rfl, rfl⟩
        rw [inB_true h3]
        go_wp2_with fail
        refine (when_any false 1 _).mono ?_
        rintro e w2 ⟨rfl, rfl⟩
        go_wp2_with fail
        go_ret
        exact ⟨by rw [hr.out]; rfl, Hb.out⟩
      · have hr := Lib.hid (show R = 1 from by rw [← hR.out]; exact if_neg (by omega))
        go_enter Tryz.func138, Tryz.ntmps138
        go_wp2_with fail
        refine (pday_any y _).mono ?_
        rintro e w2 ⟨rfl, rfl⟩
        rw [inB_false h3]
        go_wp2_with fail
        refine (when_any true 1 _).mono ?_
        rintro e w2 ⟨rfl, rfl⟩
        go_wp2_with fail
        go_ret
        exact ⟨by rw [hr.out]; rfl, Hb.out⟩
end Go.Proofs.YtnapnkmehnabfaaGreat
