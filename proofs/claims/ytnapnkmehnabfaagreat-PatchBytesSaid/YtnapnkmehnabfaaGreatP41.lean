import Derived.Test.YtnapnkmehnabfaaGreatP30
set_option linter.unusedSimpArgs false
set_option maxHeartbeats 2000000
set_option maxRecDepth 100000
namespace Go.Proofs.YtnapnkmehnabfaaGreat
open Go.RowKit Go.Maps
theorem grid_any (n : Int) (w : World) (hn : i64 n) :
  Calls Tryz.prog 48 #[.int .i64 n] w fun e w' => ∃ x y : Int, e = .returned (.agg #[.int .i64 x, .int .i64 y]) ∧ (0 ≤ x ∧ x ≤ 100) ∧ (0 ≤ y ∧ y ≤ 100) ∧ Below w.heap.size w w' := by
 have hbd := around_bd n 1048576 (by decide);have HA := q9 (fun W => around_any n 1048576 W hn.1 hn.2 (by decide) (by decide));generalize around n 1048576 = k at *;have HB := fun x y : Int => (Below.refl w.heap.size w).alloc (Nat.le_refl _) (.cells #[.int .i64 x, .int .i64 y] 58);have HBz := q9 HB;have e1 : k.tmod 3 = k % 3 := Int.tmod_eq_emod_of_nonneg (by omega);have e2 : k.tdiv 3 = k / 3 := Int.tdiv_eq_ediv_of_nonneg (by omega);have e3 : k.tdiv 15 = k / 15 := Int.tdiv_eq_ediv_of_nonneg (by omega);have e4 : k.tdiv 99 = k / 99 := Int.tdiv_eq_ediv_of_nonneg (by omega);have e5 : (k / 3).tmod 5 = k / 3 % 5 := Int.tmod_eq_emod_of_nonneg (by omega);have e6 : (k / 15).tmod 5 = k / 15 % 5 := Int.tmod_eq_emod_of_nonneg (by omega);have e7 : (k / 3).tmod 33 = k / 3 % 33 := Int.tmod_eq_emod_of_nonneg (by omega);have e8 : (k / 99).tmod 33 = k / 99 % 33 := Int.tmod_eq_emod_of_nonneg (by omega);have w1 : ∀ z : Int, 0 ≤ z → z ≤ 1048576 → IntKind.i64.wrap z = z := fun z h1 h2 => IntWalk.i64_in _ ⟨by omega, by omega⟩;have w2 := w1 (k / 3) (by omega) (by omega);have w3 := w1 (k / 15) (by omega) (by omega);have w4 := w1 (k / 99) (by omega) (by omega);have w5 := w1 (8 * (k / 3 % 5)) (by omega) (by omega);have w6 := w1 (8 * (k / 15 % 5)) (by omega) (by omega);have w7 := w1 (k / 3 % 33) (by omega) (by omega);have w8 := w1 (k / 99 % 33) (by omega) (by omega);have w9 := w1 (k % 3) (by omega) (by omega);have w10 := w1 (k / 3 % 5) (by omega) (by omega)
 have w11 := w1 (k / 15 % 5) (by omega) (by omega);have r1 := q9 (show (0 ≤ 8 * (k / 3 % 5) ∧ 8 * (k / 3 % 5) ≤ 100) ∧ (0 ≤ 8 * (k / 15 % 5) ∧ 8 * (k / 15 % 5) ≤ 100) from by omega);have r2 := q9 (show (0 ≤ k / 3 % 33 ∧ k / 3 % 33 ≤ 100) ∧ (0 ≤ k / 99 % 33 ∧ k / 99 % 33 ≤ 100) from by omega);clear w1 HB;by_cases h3 : k % 3 = 0
 ·have b1 : (k % 3 == 0) = true := by simp [h3]
  clear h3;go_enter Tryz.func48, Tryz.ntmps48
  go_wp2_with fail
  refine (HA.out _).mono ?_;rintro e w1 ⟨rfl, rfl⟩;go_wp2_with fail
  exact bodyPost_ret (v := .agg #[.int .i64 (8 * (k / 3 % 5)), .int .i64 (8 * (k / 15 % 5))]) (by simp [results, Tryz.results48, go_sem]) rfl ⟨_, _, rfl, r1.out.1, r1.out.2, HBz.out _ _⟩
 have b1 : (k % 3 == 0) = false := by simp [h3]
 clear h3;go_enter Tryz.func48, Tryz.ntmps48
 go_wp2_with fail
 refine (HA.out _).mono ?_;rintro e w1 ⟨rfl, rfl⟩;go_wp2_with fail
 exact bodyPost_ret (v := .agg #[.int .i64 (k / 3 % 33), .int .i64 (k / 99 % 33)]) (by simp [results, Tryz.results48, go_sem]) rfl ⟨_, _, rfl, r2.out.1, r2.out.2, HBz.out _ _⟩
theorem wrap_i64 (x : Int) : i64 (IntKind.i64.wrap x) := by
 unfold i64;rw [IntKind.wrap_i64];omega
theorem claimR_any (n : Int) (w : World) (hn : i64 n) :
  Calls Tryz.prog 16 #[.int .i64 n] w fun e w' => ∃ c : Cl, e = .returned (clV c) ∧ clW64 c ∧ Below w.heap.size w w' := by
 have hbd := around_bd n 1073741824 (by decide);have HA := q9 (fun W => around_any n 1073741824 W hn.1 hn.2 (by decide) (by decide));generalize around n 1073741824 = k at *;obtain ⟨j, hj⟩ : ∃ j : Nat, k % 5 = (j : Int) := ⟨(k % 5).toNat, by omega⟩;have hj5 : j < 5 := by omega
 have e1 : k.tmod 5 = (j : Int) := by rw [Int.tmod_eq_emod_of_nonneg (by omega), hj]
 obtain ⟨kd, hkd⟩ : ∃ kd : Int, (0 ≤ kd ∧ kd ≤ 2) ∧ #[Value.int .i64 0, .int .i64 0, .int .i64 0, .int .i64 1, .int .i64 2][j]? = some (.int .i64 kd) := by
  have h : j = 0 ∨ j = 1 ∨ j = 2 ∨ j = 3 ∨ j = 4 := by omega
  rcases h with rfl | rfl | rfl | rfl | rfl
  ·exact ⟨0, by decide, rfl⟩
  ·exact ⟨0, by decide, rfl⟩
  ·exact ⟨0, by decide, rfl⟩
  ·exact ⟨1, by decide, rfl⟩
  exact ⟨2, by decide, rfl⟩
 obtain ⟨a5, ha5⟩ : ∃ z, Hid (k / 5 % 3 = z) := ⟨_, q9 rfl⟩;obtain ⟨a15, ha15⟩ : ∃ z, Hid (k / 15 % 40 = z) := ⟨_, q9 rfl⟩;obtain ⟨a600, ha600⟩ : ∃ z, Hid (k / 600 % 3 = z) := ⟨_, q9 rfl⟩;obtain ⟨a18, ha18⟩ : ∃ z, Hid (k / 1800 % 25 = z) := ⟨_, q9 rfl⟩;obtain ⟨a7, ha7⟩ : ∃ z, Hid (k / 45000 % 7 = z) := ⟨_, q9 rfl⟩;obtain ⟨a11, ha11⟩ : ∃ z, Hid (k / 45000 % 11 = z) := ⟨_, q9 rfl⟩;have e2 : k.tdiv 5 = k / 5 := Int.tdiv_eq_ediv_of_nonneg (by omega);have e3 : k.tdiv 15 = k / 15 := Int.tdiv_eq_ediv_of_nonneg (by omega);have e4 : k.tdiv 600 = k / 600 := Int.tdiv_eq_ediv_of_nonneg (by omega);have e5 : k.tdiv 1800 = k / 1800 := Int.tdiv_eq_ediv_of_nonneg (by omega);have e6 : k.tdiv 45000 = k / 45000 := Int.tdiv_eq_ediv_of_nonneg (by omega);have f2 : (k / 5).tmod 3 = a5 := by rw [Int.tmod_eq_emod_of_nonneg (by omega), ha5.out]
 have f3 : (k / 15).tmod 40 = a15 := by rw [Int.tmod_eq_emod_of_nonneg (by omega), ha15.out]
 have f4 : (k / 600).tmod 3 = a600 := by rw [Int.tmod_eq_emod_of_nonneg (by omega), ha600.out]
 have f5 : (k / 1800).tmod 25 = a18 := by rw [Int.tmod_eq_emod_of_nonneg (by omega), ha18.out]
 have f6 : (k / 45000).tmod 7 = a7 := by rw [Int.tmod_eq_emod_of_nonneg (by omega), ha7.out]
 have f7 : (k / 45000).tmod 11 = a11 := by rw [Int.tmod_eq_emod_of_nonneg (by omega), ha11.out]
 have r5 : 0 ≤ a5 ∧ a5 ≤ 2 := by have := ha5.out; omega
 have r15 : 0 ≤ a15 ∧ a15 ≤ 39 := by have := ha15.out; omega
 have r600 : 0 ≤ a600 ∧ a600 ≤ 2 := by have := ha600.out; omega
 have r18 : 0 ≤ a18 ∧ a18 ≤ 24 := by have := ha18.out; omega
 have w1 : ∀ z : Int, 0 ≤ z → z ≤ 1073741824 → IntKind.i64.wrap z = z := fun z h1 h2 => IntWalk.i64_in _ ⟨by omega, by omega⟩;have g1 := w1 (k / 5) (by omega) (by omega);have g2 := w1 (k / 15) (by omega) (by omega);have g3 := w1 (k / 600) (by omega) (by omega);have g4 := w1 (k / 1800) (by omega) (by omega);have g5 := w1 (k / 45000) (by omega) (by omega);have g6 := w1 a5 (by omega) (by omega);have g7 := w1 a15 (by omega) (by omega);have g8 := w1 a600 (by omega) (by omega);have g9 := w1 a18 (by omega) (by omega);have g10 := w1 a7 (by have := ha7.out; omega) (by have := ha7.out; omega);have g11 := w1 a11 (by have := ha11.out; omega) (by have := ha11.out; omega);have g12 := w1 (100 + a15 + a18) (by omega) (by omega);have g13 := w1 (j : Int) (by omega) (by omega);have g14 := w1 (100 + a15) (by omega) (by omega);have hgl : ∀ h, ([Value.int .i64 0, .int .i64 0, .int .i64 0, .int .i64 1, .int .i64 2] : List Value)[j]'h = .int .i64 kd := fun h => by
  have h2 := hkd.2;simp only [List.getElem?_toArray] at h2;rw [List.getElem?_eq_getElem h] at h2;injection h2
 have HBz := q9 (fun (A B : Array Value) => (((Below.refl w.heap.size w).alloc (Nat.le_refl _) (.cells A 41)).alloc (by simp) (.cells #[.int .i64 0, .int .i64 0, .int .i64 0, .int .i64 1, .int .i64 2] 3)).alloc (by simp; omega) (.cells B 41));clear hj w1;go_enter Tryz.func16, Tryz.ntmps16
 go_wp2_with fail
 refine (HA.out _).mono ?_;rintro e w1 ⟨rfl, rfl⟩;go_wp2_with fail
 ·exact bodyPost_ret (v := .agg #[.int .i64 kd, .int .i64 a5, .int .i64 (0), .int .i64 (73048), .int .i64 a600]) (by simp [results, Tryz.results16, go_sem]) rfl ⟨⟨kd, a5, 0, 73048, a600⟩, rfl, ⟨by unfold i64; dsimp only; omega, by unfold i64; dsimp only; omega, by unfold i64; dsimp only; omega, by unfold i64; dsimp only; omega, by unfold i64; dsimp only; omega⟩, HBz.out _ _⟩
 ·exact bodyPost_ret (v := .agg #[.int .i64 kd, .int .i64 a5, .int .i64 (100 + a15), .int .i64 (73048), .int .i64 a600]) (by simp [results, Tryz.results16, go_sem]) rfl ⟨⟨kd, a5, 100 + a15, 73048, a600⟩, rfl, ⟨by unfold i64; dsimp only; omega, by unfold i64; dsimp only; omega, by unfold i64; dsimp only; omega, by unfold i64; dsimp only; omega, by unfold i64; dsimp only; omega⟩, HBz.out _ _⟩
 ·exact bodyPost_ret (v := .agg #[.int .i64 kd, .int .i64 a5, .int .i64 (0), .int .i64 (100 + a15 + a18), .int .i64 a600]) (by simp [results, Tryz.results16, go_sem]) rfl ⟨⟨kd, a5, 0, 100 + a15 + a18, a600⟩, rfl, ⟨by unfold i64; dsimp only; omega, by unfold i64; dsimp only; omega, by unfold i64; dsimp only; omega, by unfold i64; dsimp only; omega, by unfold i64; dsimp only; omega⟩, HBz.out _ _⟩
 exact bodyPost_ret (v := .agg #[.int .i64 kd, .int .i64 a5, .int .i64 (100 + a15), .int .i64 (100 + a15 + a18), .int .i64 a600]) (by simp [results, Tryz.results16, go_sem]) rfl ⟨⟨kd, a5, 100 + a15, 100 + a15 + a18, a600⟩, rfl, ⟨by unfold i64; dsimp only; omega, by unfold i64; dsimp only; omega, by unfold i64; dsimp only; omega, by unfold i64; dsimp only; omega, by unfold i64; dsimp only; omega⟩, HBz.out _ _⟩
end Go.Proofs.YtnapnkmehnabfaaGreat
