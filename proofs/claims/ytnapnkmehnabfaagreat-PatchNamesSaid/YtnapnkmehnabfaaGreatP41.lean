import Derived.Test.YtnapnkmehnabfaaGreatP40
namespace Go.Proofs.YtnapnkmehnabfaaGreat
open Go.RowKit Go.Maps

set_option linter.unusedSimpArgs false in
set_option maxHeartbeats 2000000 in
set_option maxRecDepth 100000 in
theorem grid_any (n : Int) (w : World) (hn : i64 n) :
  Calls Tryz.prog 48 #[.int .i64 n] w fun e w' => ∃ x y : Int, e = .returned (.agg #[.int .i64 x, .int .i64 y]) ∧ (0 ≤ x ∧ x ≤ 100) ∧ (0 ≤ y ∧ y ≤ 100) ∧ Below w.heap.size w w' := by
 have hbd := around_bd n 1048576 (by decide)
 have HA := Lib.hid (fun W => around_any n 1048576 W hn.1 hn.2 (by decide) (by decide))
 generalize around n 1048576 = k at *
 have HB := fun x y : Int => (Below.refl w.heap.size w).alloc (Nat.le_refl _) (.cells #[.int .i64 x, .int .i64 y] 58)
 have HBz := Lib.hid HB
 have e1 : k.tmod 3 = k % 3 := Int.tmod_eq_emod_of_nonneg (by omega)
 have e2 : k.tdiv 3 = k / 3 := Int.tdiv_eq_ediv_of_nonneg (by omega)
 have e3 : k.tdiv 15 = k / 15 := Int.tdiv_eq_ediv_of_nonneg (by omega)
 have e4 : k.tdiv 99 = k / 99 := Int.tdiv_eq_ediv_of_nonneg (by omega)
 have e5 : (k / 3).tmod 5 = k / 3 % 5 := Int.tmod_eq_emod_of_nonneg (by omega)
 have e6 : (k / 15).tmod 5 = k / 15 % 5 := Int.tmod_eq_emod_of_nonneg (by omega)
 have e7 : (k / 3).tmod 33 = k / 3 % 33 := Int.tmod_eq_emod_of_nonneg (by omega)
 have e8 : (k / 99).tmod 33 = k / 99 % 33 := Int.tmod_eq_emod_of_nonneg (by omega)
 have w1 : ∀ z : Int, 0 ≤ z → z ≤ 1048576 → IntKind.i64.wrap z = z := fun z h1 h2 => IntWalk.i64_in _ ⟨by omega, by omega⟩
 have w2 := w1 (k / 3) (by omega) (by omega)
 have w3 := w1 (k / 15) (by omega) (by omega)
 have w4 := w1 (k / 99) (by omega) (by omega)
 have w5 := w1 (8 * (k / 3 % 5)) (by omega) (by omega)
 have w6 := w1 (8 * (k / 15 % 5)) (by omega) (by omega)
 have w7 := w1 (k / 3 % 33) (by omega) (by omega)
 have w8 := w1 (k / 99 % 33) (by omega) (by omega)
 have w9 := w1 (k % 3) (by omega) (by omega)
 have w10 := w1 (k / 3 % 5) (by omega) (by omega)
 have w11 := w1 (k / 15 % 5) (by omega) (by omega)
 have r1 := Lib.hid (show (0 ≤ 8 * (k / 3 % 5) ∧ 8 * (k / 3 % 5) ≤ 100) ∧ (0 ≤ 8 * (k / 15 % 5) ∧ 8 * (k / 15 % 5) ≤ 100) from by omega)
 have r2 := Lib.hid (show (0 ≤ k / 3 % 33 ∧ k / 3 % 33 ≤ 100) ∧ (0 ≤ k / 99 % 33 ∧ k / 99 % 33 ≤ 100) from by omega)
 clear w1 HB
 by_cases h3 : k % 3 = 0
 ·have b1 : (k % 3 == 0) = true := by simp [h3]
  clear h3
  go_enter Tryz.func48, Tryz.ntmps48
  go_wp2_with fail
  refine (HA.out _).mono ?_
  rintro e w1 ⟨rfl, rfl⟩
  go_wp2_with fail
  exact bodyPost_ret (v := .agg #[.int .i64 (8 * (k / 3 % 5)), .int .i64 (8 * (k / 15 % 5))]) (by simp [results, Tryz.results48, go_sem]) rfl ⟨_, _, rfl, r1.out.1, r1.out.2, HBz.out _ _⟩
 ·have b1 : (k % 3 == 0) = false := by simp [h3]
  clear h3
  go_enter Tryz.func48, Tryz.ntmps48
  go_wp2_with fail
  refine (HA.out _).mono ?_
  rintro e w1 ⟨rfl, rfl⟩
  go_wp2_with fail
  exact bodyPost_ret (v := .agg #[.int .i64 (k / 3 % 33), .int .i64 (k / 99 % 33)]) (by simp [results, Tryz.results48, go_sem]) rfl ⟨_, _, rfl, r2.out.1, r2.out.2, HBz.out _ _⟩
def ptC (l : List (Int × Int)) : List Value := l.flatMap fun t => [.int .i64 t.1, .int .i64 t.2]
theorem elt_pt : Elt Tryz.prog 37 58 (.agg #[.int .i64 0, .int .i64 0]) 2 16 := Elt.mk' Tryz.underlying37 (by kernel_rfl) (by decide) (by decide) rfl
set_option linter.unusedSimpArgs false in
set_option maxHeartbeats 2000000 in
set_option maxRecDepth 100000 in
theorem points_any (A : Option Addr) (c : Nat) (l : List Int) (m : Int) (w : World) (hA : SI w A l) (hl : W64 l) (hm : m ≤ 100) :
  Calls Tryz.prog 14 #[.slice A l.length c, .int .i64 m] w fun e w' => ∃ (pts : List (Int × Int)) (B : Option Addr) (d : Nat), e = .returned (.slice B pts.length d) ∧ pts.length ≤ 100 ∧ w'.ownsRow w.heap.size 58 2 (.slice B pts.length d) pts.length (ptC pts) ∧ (∀ t ∈ pts, (0 ≤ t.1 ∧ t.1 ≤ 100) ∧ (0 ≤ t.2 ∧ t.2 ≤ 100)) ∧ Below w.heap.size w w' := by
 have HAs := Lib.hid (fun (W : World) (h : Below w.heap.size w W) => (show SI W A l from hA.below h))
 have Hl := Lib.hid hl
 clear hA hl
 go_enter Tryz.func14, Tryz.ntmps14
 go_wp2_with fail
 go_loopw [5, 6] (fun o i wr => ∃ (k : Nat) (pts : List (Int × Int)), (k : Int) ≤ max m 0 ∧ k ≤ l.length ∧ i = .int .i64 (k : Int) ∧ Hid (pts.length = k) ∧ Hid (wr.ownsRow w.heap.size 58 2 o k (ptC pts)) ∧ Hid (∀ t ∈ pts, (0 ≤ t.1 ∧ t.1 ≤ 100) ∧ (0 ≤ t.2 ∧ t.2 ≤ 100)) ∧ Hid (Below w.heap.size w wr)) (fun _ i _ => l.length - (intOf i).toNat)
 case atStart => exact ⟨0, [], by omega, by omega, rfl, Lib.hid rfl, Lib.hid (World.ownsRow_nil _ _ _ _), Lib.hid (by simp), Lib.hid (Below.refl _ _)⟩
 case round =>
  obtain ⟨k, pts, hkm, hk, rfl, hpl, HO, HP, HB⟩ := hrel
  have k0 : (0 : Int) ≤ (k : Int) := by omega
  by_cases hlt : k < l.length ∧ (k : Int) < m
  ·obtain ⟨hl1, hl2⟩ := hlt
   obtain ⟨b1, o1, x, hae, c0, hx⟩ := (HAs.out wr HB.out).get (k := k) hl1
   have hxw := Hl.out _ (List.mem_of_getElem? hx.out)
   rw [hae]
   clear hx
   go_wp2_with fail
   refine (grid_any x wr hxw).mono ?_
   rintro e w2 ⟨px, py, rfl, hpx, hpy, hb2⟩
   have hown := own_below HO.out hb2
   have HB2 := Lib.hid (HB.out.trans (hb2.mono HB.out.size))
   have hbs := HB2.out.size
   have Hp := Lib.hid (show ∀ t ∈ pts ++ [(px, py)], (0 ≤ t.1 ∧ t.1 ≤ 100) ∧ (0 ≤ t.2 ∧ t.2 ≤ 100) from fun t ht => (List.mem_append.1 ht).elim (HP.out t) (fun h => by rw [List.mem_singleton.1 h]; exact ⟨hpx, hpy⟩))
   clear hb2 HO HB HP hpx hpy
   go_wp2_with (at_builtin; refine wpList_app2 (w := w2) rfl _ _ rfl elt_pt hown hbs rfl rfl (by simp) rfl rfl (by omega) ?_; intro v2 w3 hown2 hg2 hz2)
   go_roundw
   case rel => exact ⟨k + 1, pts ++ [(px, py)], by omega, by omega, by go_num, Lib.hid (by rw [List.length_append, hpl.out]; rfl), Lib.hid (by rw [show ptC (pts ++ [(px, py)]) = ptC pts ++ [.int .i64 px, .int .i64 py] from by simp [ptC]]; exact hown2), Hp, Lib.hid (HB2.out.grown hg2 hbs (fun j hj => (hown.lt j hj).1))⟩
   case measure => simp [intOf]; omega
  ·have hp100 : pts.length ≤ 100 := by have := hpl.out; omega
   obtain ⟨B, d, rfl⟩ := own_slice HO.out
   have Hk := Lib.hid hpl.out.symm
   by_cases hl1 : k < l.length
   ·have hl2 : ¬ (k : Int) < m := fun h => hlt ⟨hl1, h⟩
    clear hlt hpl
    go_wp2_with fail
    go_ret
    exact ⟨pts, B, d, by rw [← Hk.out]; rfl, hp100, by rw [← Hk.out]; exact HO.out, by first | exact HP.out | exact fun a b h => HP.out (a, b) h, HB.out⟩
   ·clear hlt hpl
    go_wp2_with fail
    go_ret
    exact ⟨pts, B, d, by rw [← Hk.out]; rfl, hp100, by rw [← Hk.out]; exact HO.out, by first | exact HP.out | exact fun a b h => HP.out (a, b) h, HB.out⟩

theorem wrap_i64 (x : Int) : i64 (IntKind.i64.wrap x) := by
 unfold i64
 rw [IntKind.wrap_i64]
 omega
set_option linter.unusedSimpArgs false in
set_option maxHeartbeats 2000000 in
set_option maxRecDepth 100000 in
theorem claimR_any (n : Int) (w : World) (hn : i64 n) :
  Calls Tryz.prog 16 #[.int .i64 n] w fun e w' => ∃ c : Cl, e = .returned (clV c) ∧ clW64 c ∧ Below w.heap.size w w' := by
 have hbd := around_bd n 1073741824 (by decide)
 have HA := Lib.hid (fun W => around_any n 1073741824 W hn.1 hn.2 (by decide) (by decide))
 generalize around n 1073741824 = k at *
 obtain ⟨j, hj⟩ : ∃ j : Nat, k % 5 = (j : Int) := ⟨(k % 5).toNat, by omega⟩
 have hj5 : j < 5 := by omega
 have e1 : k.tmod 5 = (j : Int) := by rw [Int.tmod_eq_emod_of_nonneg (by omega), hj]
 obtain ⟨kd, hkd⟩ : ∃ kd : Int, (0 ≤ kd ∧ kd ≤ 2) ∧ #[Value.int .i64 0, .int .i64 0, .int .i64 0, .int .i64 1, .int .i64 2][j]? = some (.int .i64 kd) := by
  have h : j = 0 ∨ j = 1 ∨ j = 2 ∨ j = 3 ∨ j = 4 := by omega
  rcases h with rfl | rfl | rfl | rfl | rfl
  ·exact ⟨0, by decide, rfl⟩
  ·exact ⟨0, by decide, rfl⟩
  ·exact ⟨0, by decide, rfl⟩
  ·exact ⟨1, by decide, rfl⟩
  ·exact ⟨2, by decide, rfl⟩
 obtain ⟨a5, ha5⟩ : ∃ z, Hid (k / 5 % 3 = z) := ⟨_, Lib.hid rfl⟩
 obtain ⟨a15, ha15⟩ : ∃ z, Hid (k / 15 % 40 = z) := ⟨_, Lib.hid rfl⟩
 obtain ⟨a600, ha600⟩ : ∃ z, Hid (k / 600 % 3 = z) := ⟨_, Lib.hid rfl⟩
 obtain ⟨a18, ha18⟩ : ∃ z, Hid (k / 1800 % 25 = z) := ⟨_, Lib.hid rfl⟩
 obtain ⟨a7, ha7⟩ : ∃ z, Hid (k / 45000 % 7 = z) := ⟨_, Lib.hid rfl⟩
 obtain ⟨a11, ha11⟩ : ∃ z, Hid (k / 45000 % 11 = z) := ⟨_, Lib.hid rfl⟩
 have e2 : k.tdiv 5 = k / 5 := Int.tdiv_eq_ediv_of_nonneg (by omega)
 have e3 : k.tdiv 15 = k / 15 := Int.tdiv_eq_ediv_of_nonneg (by omega)
 have e4 : k.tdiv 600 = k / 600 := Int.tdiv_eq_ediv_of_nonneg (by omega)
 have e5 : k.tdiv 1800 = k / 1800 := Int.tdiv_eq_ediv_of_nonneg (by omega)
 have e6 : k.tdiv 45000 = k / 45000 := Int.tdiv_eq_ediv_of_nonneg (by omega)
 have f2 : (k / 5).tmod 3 = a5 := by rw [Int.tmod_eq_emod_of_nonneg (by omega), ha5.out]
 have f3 : (k / 15).tmod 40 = a15 := by rw [Int.tmod_eq_emod_of_nonneg (by omega), ha15.out]
 have f4 : (k / 600).tmod 3 = a600 := by rw [Int.tmod_eq_emod_of_nonneg (by omega), ha600.out]
 have f5 : (k / 1800).tmod 25 = a18 := by rw [Int.tmod_eq_emod_of_nonneg (by omega), ha18.out]
 have f6 : (k / 45000).tmod 7 = a7 := by rw [Int.tmod_eq_emod_of_nonneg (by omega), ha7.out]
 have f7 : (k / 45000).tmod 11 = a11 := by rw [Int.tmod_eq_emod_of_nonneg (by omega), ha11.out]
 have r5 : 0 ≤ a5 ∧ a5 ≤ 2 := by have := ha5.out; omega
 have r15 : 0 ≤ a15 ∧ a15 ≤ 39 := by have := ha15.out; omega
 have r600 : 0 ≤ a600 ∧ a600 ≤ 2 := by have := ha600.out; omega
 have r18 : 0 ≤ a18 ∧ a18 ≤ 24 := by have := ha18.out; omega
 have w1 : ∀ z : Int, 0 ≤ z → z ≤ 1073741824 → IntKind.i64.wrap z = z := fun z h1 h2 => IntWalk.i64_in _ ⟨by omega, by omega⟩
 have g1 := w1 (k / 5) (by omega) (by omega)
 have g2 := w1 (k / 15) (by omega) (by omega)
 have g3 := w1 (k / 600) (by omega) (by omega)
 have g4 := w1 (k / 1800) (by omega) (by omega)
 have g5 := w1 (k / 45000) (by omega) (by omega)
 have g6 := w1 a5 (by omega) (by omega)
 have g7 := w1 a15 (by omega) (by omega)
 have g8 := w1 a600 (by omega) (by omega)
 have g9 := w1 a18 (by omega) (by omega)
 have g10 := w1 a7 (by have := ha7.out; omega) (by have := ha7.out; omega)
 have g11 := w1 a11 (by have := ha11.out; omega) (by have := ha11.out; omega)
 have g12 := w1 (100 + a15 + a18) (by omega) (by omega)
 have g13 := w1 (j : Int) (by omega) (by omega)
 have g14 := w1 (100 + a15) (by omega) (by omega)
 have hgl : ∀ h, ([Value.int .i64 0, .int .i64 0, .int .i64 0, .int .i64 1, .int .i64 2] : List Value)[j]'h = .int .i64 kd := fun h => by
  have h2 := hkd.2
  simp only [List.getElem?_toArray] at h2
  rw [List.getElem?_eq_getElem h] at h2
  injection h2
 have HBz := Lib.hid (fun (A B : Array Value) => (((Below.refl w.heap.size w).alloc (Nat.le_refl _) (.cells A 41)).alloc (by simp) (.cells #[.int .i64 0, .int .i64 0, .int .i64 0, .int .i64 1, .int .i64 2] 3)).alloc (by simp; omega) (.cells B 41))
 clear hj w1
 go_enter Tryz.func16, Tryz.ntmps16
 go_wp2_with fail
 refine (HA.out _).mono ?_
 rintro e w1 ⟨rfl, rfl⟩
 go_wp2_with fail
 ·exact bodyPost_ret (v := .agg #[.int .i64 kd, .int .i64 a5, .int .i64 (0), .int .i64 (73048), .int .i64 a600]) (by simp [results, Tryz.results16, go_sem]) rfl ⟨⟨kd, a5, 0, 73048, a600⟩, rfl, ⟨by unfold i64; dsimp only; omega, by unfold i64; dsimp only; omega, by unfold i64; dsimp only; omega, by unfold i64; dsimp only; omega, by unfold i64; dsimp only; omega⟩, HBz.out _ _⟩
 ·exact bodyPost_ret (v := .agg #[.int .i64 kd, .int .i64 a5, .int .i64 (100 + a15), .int .i64 (73048), .int .i64 a600]) (by simp [results, Tryz.results16, go_sem]) rfl ⟨⟨kd, a5, 100 + a15, 73048, a600⟩, rfl, ⟨by unfold i64; dsimp only; omega, by unfold i64; dsimp only; omega, by unfold i64; dsimp only; omega, by unfold i64; dsimp only; omega, by unfold i64; dsimp only; omega⟩, HBz.out _ _⟩
 ·exact bodyPost_ret (v := .agg #[.int .i64 kd, .int .i64 a5, .int .i64 (0), .int .i64 (100 + a15 + a18), .int .i64 a600]) (by simp [results, Tryz.results16, go_sem]) rfl ⟨⟨kd, a5, 0, 100 + a15 + a18, a600⟩, rfl, ⟨by unfold i64; dsimp only; omega, by unfold i64; dsimp only; omega, by unfold i64; dsimp only; omega, by unfold i64; dsimp only; omega, by unfold i64; dsimp only; omega⟩, HBz.out _ _⟩
 ·exact bodyPost_ret (v := .agg #[.int .i64 kd, .int .i64 a5, .int .i64 (100 + a15), .int .i64 (100 + a15 + a18), .int .i64 a600]) (by simp [results, Tryz.results16, go_sem]) rfl ⟨⟨kd, a5, 100 + a15, 100 + a15 + a18, a600⟩, rfl, ⟨by unfold i64; dsimp only; omega, by unfold i64; dsimp only; omega, by unfold i64; dsimp only; omega, by unfold i64; dsimp only; omega, by unfold i64; dsimp only; omega⟩, HBz.out _ _⟩
end Go.Proofs.YtnapnkmehnabfaaGreat
