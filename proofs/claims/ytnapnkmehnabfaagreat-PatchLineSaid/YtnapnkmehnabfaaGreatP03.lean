import Derived.Test.YtnapnkmehnabfaaGreatP02
namespace Go.Proofs.YtnapnkmehnabfaaGreat
open Go.RowKit Go.Maps

theorem isNaN_int (x : Int) (w : World) : Calls Tryz.prog 148 #[.int .i64 x] w fun e w' => e = .returned (.bool false) ∧ w = w' := by
  go_enter Tryz.func148, Tryz.ntmps148
  go_wp2
  go_ret
  exact ⟨ret_bool (by simp), rfl⟩
def cmpI (a b : Int) : Int := if a < b then -1 else if b < a then 1 else 0
theorem compare_int (a b : Int) (w : World) : Calls Tryz.prog 69 #[.int .i64 a, .int .i64 b] w fun e w' => e = .returned (.int .i64 (cmpI a b)) ∧ w = w' := by
  by_cases h1 : a < b
  · have hs : Hid (cmpI a b = -1) := by show _ = _; rw [cmpI, if_pos h1]
    go_enter Tryz.func69, Tryz.ntmps69
    go_wp2_with (go_at_call 148; refine (isNaN_int _ _).mono ?_; rintro e w' ⟨rfl, rfl⟩)
    go_ret
    exact ⟨ret_int hs.out.symm, rfl⟩
  · by_cases h2 : b < a
    · have hs : Hid (cmpI a b = 1) := by show _ = _; rw [cmpI, if_neg h1, if_pos h2]
      go_enter Tryz.func69, Tryz.ntmps69
      go_wp2_with (go_at_call 148; refine (isNaN_int _ _).mono ?_; rintro e w' ⟨rfl, rfl⟩)
      go_ret
      exact ⟨ret_int hs.out.symm, rfl⟩
    · have hs : Hid (cmpI a b = 0) := by show _ = _; rw [cmpI, if_neg h1, if_neg h2]
      go_enter Tryz.func69, Tryz.ntmps69
      go_wp2_with (go_at_call 148; refine (isNaN_int _ _).mono ?_; rintro e w' ⟨rfl, rfl⟩)
      go_ret
      exact ⟨ret_int hs.out.symm, rfl⟩
theorem cmpI_le {a b : Int} : (cmpI a b ≤ 0) ↔ a ≤ b := by unfold cmpI; split <;> (try split) <;> omega

set_option maxHeartbeats 1000000 in
theorem day_any (n : Int) (w : World) : Calls Tryz.prog 47 #[.int .i64 n] w fun e w' => e = .returned (.bool (inB n 0 73048)) ∧ w = w' := by
  by_cases h : 0 ≤ n ∧ n ≤ 73048
  · rw [inB_true h]
    obtain ⟨h1, h2⟩ := h
    go_enter Tryz.func47, Tryz.ntmps47
    go_wp2_with fail
    go_ret
    exact ⟨rfl, rfl⟩
  · rw [inB_false h]
    have hc : ¬ 0 ≤ n ∨ (0 ≤ n ∧ ¬ n ≤ 73048) := by omega
    clear h
    rcases hc with h1 | ⟨h1, h2⟩
    all_goals
      go_enter Tryz.func47, Tryz.ntmps47
      go_wp2_with fail
      go_ret
      exact ⟨rfl, rfl⟩
set_option maxHeartbeats 1000000 in
theorem pday_any (n : Int) (w : World) : Calls Tryz.prog 129 #[.int .i64 n] w fun e w' => e = .returned (.bool (inB n 0 73048)) ∧ w = w' := by
  by_cases h : 0 ≤ n ∧ n ≤ 73048
  · rw [inB_true h]
    obtain ⟨h1, h2⟩ := h
    go_enter Tryz.func129, Tryz.ntmps129
    go_wp2_with fail
    go_ret
    exact ⟨rfl, rfl⟩
  · rw [inB_false h]
    have hc : ¬ 0 ≤ n ∨ (0 ≤ n ∧ ¬ n ≤ 73048) := by omega
    clear h
    rcases hc with h1 | ⟨h1, h2⟩
    all_goals
      go_enter Tryz.func129, Tryz.ntmps129
      go_wp2_with fail
      go_ret
      exact ⟨rfl, rfl⟩
/-- The error of a point of the grid. -/
def ptE (x y : Int) : Int := if (-1073741824 ≤ x ∧ x ≤ 1073741824) ∧ (-1073741824 ≤ y ∧ y ≤ 1073741824) then 0 else 5
set_option maxHeartbeats 2000000 in
theorem refGood_any (x y : Int) (w : World) : Calls Tryz.prog 164 #[.agg #[.int .i64 x, .int .i64 y]] w fun e w' => e = .returned (.int .i64 (ptE x y)) ∧ Below w.heap.size w w' := by
  have hb := (Below.refl w.heap.size w).alloc (Nat.le_refl _) (.cells #[.int .i64 x, .int .i64 y] 58)
  have k0 : (w.alloc (.cells #[.int .i64 x, .int .i64 y] 58)).cell? ⟨w.heap.size, 0, none⟩ = some (.int .i64 x) := (Bk.new w 58 #[.int .i64 x, .int .i64 y]).cell 0
  have k1 : (w.alloc (.cells #[.int .i64 x, .int .i64 y] 58)).cell? ⟨w.heap.size, 1, none⟩ = some (.int .i64 y) := (Bk.new w 58 #[.int .i64 x, .int .i64 y]).cell 1
  by_cases hok : (-1073741824 ≤ x ∧ x ≤ 1073741824) ∧ (-1073741824 ≤ y ∧ y ≤ 1073741824)
  · have he := Lib.hid (show ptE x y = 0 from if_pos hok)
    obtain ⟨⟨a0, a1⟩, a2, a3⟩ := hok
    go_enter Tryz.func164, Tryz.ntmps164
    go_wp2_with fail
    go_ret
    exact ⟨by rw [he.out]; rfl, hb⟩
  · have he := Lib.hid (show ptE x y = 5 from if_neg hok)
    have hc : (x < -1073741824) ∨ (¬ x < -1073741824 ∧ x > 1073741824) ∨ (¬ x < -1073741824 ∧ ¬ x > 1073741824 ∧ y < -1073741824) ∨ (¬ x < -1073741824 ∧ ¬ x > 1073741824 ∧ ¬ y < -1073741824 ∧ y > 1073741824) := by omega
    clear hok
    rcases hc with h0 | ⟨h0, h1⟩ | ⟨h0, h1, h2⟩ | ⟨h0, h1, h2, h3⟩
    all_goals
      go_enter Tryz.func164, Tryz.ntmps164
      go_wp2_with fail
      go_ret
      exact ⟨by rw [he.out]; rfl, hb⟩
set_option maxHeartbeats 2000000 in
theorem within_any (x : Int) (w : World) : Calls Tryz.prog 68 #[.int .i64 (-1073741824), .int .i64 x, .int .i64 1073741824, .func (.func 69) #[] #[]] w fun e w' => e = .returned (.bool (inB x (-1073741824) 1073741824)) ∧ w = w' := by
  by_cases h : -1073741824 ≤ x ∧ x ≤ 1073741824
  · rw [inB_true h]
    obtain ⟨h1, h2⟩ := h
    have c1 : decide (cmpI (-1073741824) x ≤ 0) = true := decide_eq_true (cmpI_le.2 h1)
    have c2 : decide (cmpI x 1073741824 ≤ 0) = true := decide_eq_true (cmpI_le.2 h2)
    go_enter Tryz.func68, Tryz.ntmps68
    go_wp2_with fail
    refine (compare_int _ _ w).mono ?_
    rintro e wx ⟨rfl, rfl⟩
    go_wp2_with fail
    refine (compare_int _ _ w).mono ?_
    rintro e wx ⟨rfl, rfl⟩
    go_wp2_with fail
    go_ret
    exact ⟨rfl, rfl⟩
  · rw [inB_false h]
    have hc : ¬ -1073741824 ≤ x ∨ (-1073741824 ≤ x ∧ ¬ x ≤ 1073741824) := by omega
    clear h
    rcases hc with h1 | ⟨h1, h2⟩
    · have c1 : decide (cmpI (-1073741824) x ≤ 0) = false := decide_eq_false (fun h => h1 (cmpI_le.1 h))
      go_enter Tryz.func68, Tryz.ntmps68
      go_wp2_with fail
      refine (compare_int _ _ w).mono ?_
      rintro e wx ⟨rfl, rfl⟩
      go_wp2_with fail
      go_ret
      exact ⟨rfl, rfl⟩
    · have c1 : decide (cmpI (-1073741824) x ≤ 0) = true := decide_eq_true (cmpI_le.2 h1)
      have c2 : decide (cmpI x 1073741824 ≤ 0) = false := decide_eq_false (fun h => h2 (cmpI_le.1 h))
      go_enter Tryz.func68, Tryz.ntmps68
      go_wp2_with fail
      refine (compare_int _ _ w).mono ?_
      rintro e wx ⟨rfl, rfl⟩
      go_wp2_with fail
      refine (compare_int _ _ w).mono ?_
      rintro e wx ⟨rfl, rfl⟩
      go_wp2_with fail
      go_ret
      exact ⟨rfl, rfl⟩
set_option maxHeartbeats 2000000 in
set_option maxRecDepth 100000 in
theorem point_any (x y : Int) (w : World) : Calls Tryz.prog 24 #[.agg #[.int .i64 x, .int .i64 y]] w fun e w' => e = .returned (.int .i64 (ptE x y)) ∧ Below w.heap.size w w' := by
  have hb := (Below.refl w.heap.size w).alloc (Nat.le_refl _) (.cells #[.int .i64 x, .int .i64 y] 58)
  have k0 : (w.alloc (.cells #[.int .i64 x, .int .i64 y] 58)).cell? ⟨w.heap.size, 0, none⟩ = some (.int .i64 x) := (Bk.new w 58 #[.int .i64 x, .int .i64 y]).cell 0
  have k1 : (w.alloc (.cells #[.int .i64 x, .int .i64 y] 58)).cell? ⟨w.heap.size, 1, none⟩ = some (.int .i64 y) := (Bk.new w 58 #[.int .i64 x, .int .i64 y]).cell 1
  have hi0 : ∀ W : World, (Instr.index 124 (.agg #[.int .i64 x, .int .i64 y]) (.int .i64 0)).run Tryz.prog W = .ok (.int .i64 x) W := fun _ => by kernel_rfl
  have hi1 : ∀ W : World, (Instr.index 124 (.agg #[.int .i64 x, .int .i64 y]) (.int .i64 1)).run Tryz.prog W = .ok (.int .i64 y) W := fun _ => by kernel_rfl
  go_enter Tryz.func24, Tryz.ntmps24
  go_wp2_with fail
  clear k0 k1
  generalize w.alloc (.cells #[.int .i64 x, .int .i64 y] 58) = W0 at *
  go_loopw [10] (fun v wr => ∃ k : Nat, k ≤ 2 ∧ v = .int .i64 k ∧ Hid ((1 ≤ k → -1073741824 ≤ x ∧ x ≤ 1073741824) ∧ (2 ≤ k → -1073741824 ≤ y ∧ y ≤ 1073741824)) ∧ wr = W0) (fun v _ => 2 - (intOf v).toNat)
  case atStart => exact ⟨0, by omega, rfl, Lib.hid ⟨fun h => by omega, fun h => by omega⟩, by first | trivial | rfl⟩
  case round =>
    obtain ⟨k, hk, rfl, hp, rfl⟩ := hrel
    have hk3 : k = 0 ∨ k = 1 ∨ k = 2 := by omega
    rcases hk3 with rfl | rfl | rfl
    · by_cases hc : -1073741824 ≤ x ∧ x ≤ 1073741824
      · go_wp2_with fail
        refine (within_any x wr).mono ?_
        rintro e wx ⟨rfl, rfl⟩
        rw [inB_true hc]
        have Hc := Lib.hid hc
        clear hc
        go_wp2_with fail
        go_roundw
        case rel => exact ⟨1, by omega, by go_num, Lib.hid ⟨fun _ => Hc.out, fun h => by omega⟩, by first | trivial | rfl⟩
        case measure => simp [intOf]
      · have he := Lib.hid (show ptE x y = 5 from if_neg (fun h => hc h.1))
        go_wp2_with fail
        refine (within_any x wr).mono ?_
        rintro e wx ⟨rfl, rfl⟩
        rw [inB_false hc]
        clear hc
        go_wp2_with fail
        go_ret
        exact ⟨by rw [he.out]; rfl, hb⟩
    · by_cases hc : -1073741824 ≤ y ∧ y ≤ 1073741824
      · go_wp2_with fail
        refine (within_any y wr).mono ?_
        rintro e wx ⟨rfl, rfl⟩
        rw [inB_true hc]
        have Hc := Lib.hid hc
        clear hc
        go_wp2_with fail
        go_roundw
        case rel => exact ⟨2, by omega, by go_num, Lib.hid ⟨fun _ => hp.out.1 (by omega), fun _ => Hc.out⟩, by first | trivial | rfl⟩
        case measure => simp [intOf]
      · have he := Lib.hid (show ptE x y = 5 from if_neg (fun h => hc h.2))
        go_wp2_with fail
        refine (within_any y wr).mono ?_
        rintro e wx ⟨rfl, rfl⟩
        rw [inB_false hc]
        clear hc
        go_wp2_with fail
        go_ret
        exact ⟨by rw [he.out]; rfl, hb⟩
    · have he := Lib.hid (show ptE x y = 0 from if_pos ⟨hp.out.1 (by omega), hp.out.2 (by omega)⟩)
      clear hp
      go_wp2_with fail
      go_ret
      exact ⟨by rw [he.out]; rfl, hb⟩
end Go.Proofs.YtnapnkmehnabfaaGreat
