import Derived.Test.YtnapnkmehnabfaaGreatP10
namespace Go.Proofs.YtnapnkmehnabfaaGreat
open Go.RowKit Go.Maps

/-- A place. -/
structure Plc where
  x : Int
  y : Int
  nm : ByteArray
  office : Int
  fr : Int
  til : Int
/-- The error of a place. -/
def plE (o : Int) (p : Plc) : Int := if ptE p.x p.y ≠ 0 then 5 else if namB p.nm = false then 6 else if p.office = o ∧ (0 ≤ p.fr ∧ p.fr ≤ 73048) ∧ (0 ≤ p.til ∧ p.til ≤ 73048) ∧ p.fr ≤ p.til then 0 else 1

set_option linter.unusedSimpArgs false in
set_option maxHeartbeats 4000000 in
set_option maxRecDepth 100000 in
theorem refPlace_any (x y : Int) (nm : ByteArray) (of fr til o : Int) (w : World) :
    Calls Tryz.prog 141 #[.agg #[.int .i64 x, .int .i64 y, .string nm, .int .i64 of, .int .i64 fr, .int .i64 til], .int .i64 o] w fun e w' => e = .returned (.int .i64 (plE o ⟨x, y, nm, of, fr, til⟩)) ∧ Below w.heap.size w w' := by
  obtain ⟨S, hSz⟩ : ∃ S, Hid (w.heap.size = S) := ⟨_, Lib.hid rfl⟩
  obtain ⟨R, hR⟩ : ∃ z, Hid (plE o ⟨x, y, nm, of, fr, til⟩ = z) := ⟨_, Lib.hid rfl⟩
  rw [hR.out]
  have hb0 : Below S w (w.alloc (.cells #[.int .i64 x, .int .i64 y, .string nm, .int .i64 of, .int .i64 fr, .int .i64 til] 114)) := hSz.out ▸ (Below.refl _ _).alloc (Nat.le_refl _) _
  have hbk : Bk (w.alloc (.cells #[.int .i64 x, .int .i64 y, .string nm, .int .i64 of, .int .i64 fr, .int .i64 til] 114)) S 114 #[.int .i64 x, .int .i64 y, .string nm, .int .i64 of, .int .i64 fr, .int .i64 til] := Bk.new' _ _ _ hSz.out
  go_enter Tryz.func141, Tryz.ntmps141
  go_upto_region 1 with fail
  rw [hSz.out]
  generalize w.alloc (.cells #[.int .i64 x, .int .i64 y, .string nm, .int .i64 of, .int .i64 fr, .int .i64 til] 114) = W0 at *
  have Hb0 := Lib.hid hb0
  have Hk0 := Lib.hid hbk
  have k0 : W0.cell? ⟨S, 0, none⟩ = some (.int .i64 x) := hbk.cell 0
  have k1 : W0.cell? ⟨S, 1, none⟩ = some (.int .i64 y) := hbk.cell 1
  have hz0 : S ≤ W0.heap.size := by have := hbk.lt; omega
  clear hb0 hbk
  by_cases e1 : ptE x y = 0
  · have b1 : (ptE x y != 0) = false := by simp [e1]
    go_wp2_with fail
    refine (refGood_any x y W0).mono ?_
    rintro e w1 ⟨rfl, hb1⟩
    have Hb1 := Lib.hid (Hb0.out.trans (hb1.mono hz0))
    have hk1 := Hk0.out.below hb1 Hk0.out.lt
    have k2 : w1.cell? ⟨S, 2, none⟩ = some (.string nm) := hk1.cell 2
    have k3 : w1.cell? ⟨S, 3, none⟩ = some (.int .i64 of) := hk1.cell 3
    have k4 : w1.cell? ⟨S, 4, none⟩ = some (.int .i64 fr) := hk1.cell 4
    have k5 : w1.cell? ⟨S, 5, none⟩ = some (.int .i64 til) := hk1.cell 5
    clear hb1 Hb0 Hk0 k0 k1 hk1
    cases e2 : namB nm with
    | true =>
      have HN := Lib.hid (e2 ▸ refNamed_any nm w1)
      by_cases hok : of = o ∧ (0 ≤ fr ∧ fr ≤ 73048) ∧ (0 ≤ til ∧ til ≤ 73048) ∧ fr ≤ til
      · have hr := Lib.hid (show R = 0 from by rw [← hR.out, plE, if_neg (by simp [e1]), if_neg (by simp [e2]), if_pos hok])
        obtain ⟨t2, t3, t4, t5⟩ := hok
        have b2 : (of != o) = false := by simp [t2]
        clear t2 e1 e2
        go_wp2_with fail
        refine (HN.out).mono ?_
        rintro e w2 ⟨rfl, rfl⟩
        go_wp2_with fail
        refine (day_any fr _).mono ?_
        rintro e wx ⟨rfl, rfl⟩
        rw [inB_true t3]
        go_wp2_with fail
        refine (day_any til _).mono ?_
        rintro e wx ⟨rfl, rfl⟩
        rw [inB_true t4]
        go_wp2_with fail
        go_ret
        exact ⟨by rw [hr.out]; rfl, hSz.out ▸ Hb1.out⟩
      · have hr := Lib.hid (show R = 1 from by rw [← hR.out, plE, if_neg (by simp [e1]), if_neg (by simp [e2]), if_neg hok])
        have hc : ¬ of = o ∨ (of = o ∧ ¬ (0 ≤ fr ∧ fr ≤ 73048)) ∨ (of = o ∧ (0 ≤ fr ∧ fr ≤ 73048) ∧ ¬ (0 ≤ til ∧ til ≤ 73048)) ∨ (of = o ∧ (0 ≤ fr ∧ fr ≤ 73048) ∧ (0 ≤ til ∧ til ≤ 73048) ∧ ¬ fr ≤ til) := by omega
        clear hok e1 e2
        rcases hc with t2 | ⟨t2, t3⟩ | ⟨t2, t3, t4⟩ | ⟨t2, t3, t4, t5⟩
        · have b2 : (of != o) = true := by simp [t2]
          clear t2
          go_wp2_with fail
          refine (HN.out).mono ?_
          rintro e w2 ⟨rfl, rfl⟩
          go_wp2_with fail
          go_ret
          exact ⟨by rw [hr.out]; rfl, hSz.out ▸ Hb1.out⟩
        · have b2 : (of != o) = false := by simp [t2]
          clear t2
          go_wp2_with fail
          refine (HN.out).mono ?_
          rintro e w2 ⟨rfl, rfl⟩
          go_wp2_with fail
          refine (day_any fr _).mono ?_
          rintro e wx ⟨rfl, rfl⟩
          rw [inB_false t3]
          go_wp2_with fail
          go_ret
          exact ⟨by rw [hr.out]; rfl, hSz.out ▸ Hb1.out⟩
        · have b2 : (of != o) = false := by simp [t2]
          clear t2
          go_wp2_with fail
          refine (HN.out).mono ?_
          rintro e w2 ⟨rfl, rfl⟩
          go_wp2_with fail
          refine (day_any fr _).mono ?_
          rintro e wx ⟨rfl, rfl⟩
          rw [inB_true t3]
          go_wp2_with fail
          refine (day_any til _).mono ?_
          rintro e wx ⟨rfl, rfl⟩
          rw [inB_false t4]
          go_wp2_with fail
          go_ret
          exact ⟨by rw [hr.out]; rfl, hSz.out ▸ Hb1.out⟩
        · have b2 : (of != o) = false := by simp [t2]
          clear t2
          go_wp2_with fail
          refine (HN.out).mono ?_
          rintro e w2 ⟨rfl, rfl⟩
          go_wp2_with fail
          refine (day_any fr _).mono ?_
          rintro e wx ⟨rfl, rfl⟩
          rw [inB_true t3]
          go_wp2_with fail
          refine (day_any til _).mono ?_
          rintro e wx ⟨rfl, rfl⟩
          rw [inB_true t4]
          go_wp2_with fail
          go_ret
          exact ⟨by rw [hr.out]; rfl, hSz.out ▸ Hb1.out⟩
    | false =>
      have HN := Lib.hid (e2 ▸ refNamed_any nm w1)
      have hr := Lib.hid (show R = 6 from by rw [← hR.out, plE, if_neg (by simp [e1]), if_pos e2])
      clear e1 e2
      go_wp2_with fail
      refine (HN.out).mono ?_
      rintro e w2 ⟨rfl, rfl⟩
      go_wp2_with fail
      go_ret
      exact ⟨by rw [hr.out]; rfl, hSz.out ▸ Hb1.out⟩
  · have b1 : (ptE x y != 0) = true := by simp [e1]
    have hr := Lib.hid (show R = 5 from by rw [← hR.out, plE, if_pos e1])
    go_wp2_with fail
    refine (refGood_any x y W0).mono ?_
    rintro e w1 ⟨rfl, hb1⟩
    have Hb1 := Lib.hid (Hb0.out.trans (hb1.mono hz0))
    clear hb1
    go_wp2_with fail
    go_ret
    exact ⟨by rw [hr.out]; rfl, hSz.out ▸ Hb1.out⟩
end Go.Proofs.YtnapnkmehnabfaaGreat
