import Derived.Test.YtnapnkmehnabfaaGreatU1
namespace Go.Proofs.YtnapnkmehnabfaaGreat
open Go.RowKit Go.Maps

/-- What has been put together after k of the two lists. -/
def catP (l m : List (Int × Int)) (k : Nat) : List (Int × Int) := if k = 0 then [] else if k = 1 then l else l ++ m
theorem idC_one : ∀ l : List (Int × Int), (idC l).all (·.oneCell') = true
 | [] => rfl
 | t :: l => by
  show (Value.int .u64 t.1 :: .int .i64 t.2 :: idC l).all (·.oneCell') = true
  rw [List.all_cons, List.all_cons, idC_one l]
  rfl
set_option linter.unusedSimpArgs false in
set_option maxHeartbeats 4000000 in
set_option maxRecDepth 100000 in
theorem concat_any (A B : Option Addr) (cA cB : Nat) (l m : List (Int × Int)) (H : Nat) (w : World) (hA : SD w A l) (hB : SD w B m) (hl : l.length ≤ 100000) (hm : m.length ≤ 100000) (hH : Bk w H 31 #[.slice A l.length cA, .slice B m.length cB]) :
  Calls Tryz.prog 100 #[.slice (some ⟨H, 0, none⟩) 2 2] w fun e w' => ∃ X cX, e = .returned (.slice X (l ++ m).length cX) ∧ w'.ownsRow w.heap.size 77 2 (.slice X (l ++ m).length cX) (l ++ m).length (idC (l ++ m)) ∧ Below w.heap.size w w' := by
 have h0 : w.cell? ⟨H, 0, none⟩ = some (.slice A l.length cA) := hH.cell 0
 have h1 : w.cell? ⟨H, 1, none⟩ = some (.slice B m.length cB) := hH.cell 1
 have HH := Lib.hid (fun W (hW : Below w.heap.size w W) => hH.below hW hH.lt)
 have HA := Lib.hid (fun W (hW : Below w.heap.size w W) => (show SL W A (idC l) from SL.below hA hW))
 have HBs := Lib.hid (fun W (hW : Below w.heap.size w W) => (show SL W B (idC m) from SL.below hB hW))
 obtain ⟨x, hx⟩ : ∃ z, Hid (l.length = z) := ⟨_, Lib.hid rfl⟩
 obtain ⟨y, hy⟩ : ∃ z, Hid (m.length = z) := ⟨_, Lib.hid rfl⟩
 rw [hx.out] at hl h0
 rw [hy.out] at hm h1
 clear hA hB hH
 go_enter Tryz.func100, Tryz.ntmps100
 go_wp2_with fail
 go_loopw [3, 11] (fun s i wr => ∃ k sz : Nat, k ≤ 2 ∧ i = .int .i64 (k : Int) ∧ s = .int .i64 (sz : Int) ∧ Hid (sz = (if k = 0 then 0 else if k = 1 then x else x + y)) ∧ wr = w) (fun _ i _ => 2 - (intOf i).toNat)
 case atStart => exact ⟨0, 0, by omega, rfl, rfl, Lib.hid rfl, rfl⟩
 case round =>
  obtain ⟨k, sz, hk, rfl, rfl, Hsz, rfl⟩ := hrel
  have hk3 : k = 0 ∨ k = 1 ∨ k = 2 := by omega
  rcases hk3 with rfl | rfl | rfl
  ·have hz : sz = 0 := Hsz.out
   subst hz
   have w1 : IntKind.i64.wrap (x : Int) = (x : Int) := IntWalk.i64_in _ ⟨by omega, by omega⟩
   have w2 : ¬ ((x : Int) < 0) := by omega
   go_wp2_with fail
   go_roundw
   case rel => exact ⟨1, x, by omega, by go_num, by go_num, Lib.hid rfl, by trivial⟩
   case measure => simp [intOf]
  ·have hz : sz = x := Hsz.out
   subst hz
   have w1 : IntKind.i64.wrap ((sz : Int) + (y : Int)) = (sz : Int) + (y : Int) := IntWalk.i64_in _ ⟨by omega, by omega⟩
   have w2 : ¬ ((sz : Int) + (y : Int) < 0) := by omega
   go_wp2_with fail
   go_roundw
   case rel => exact ⟨2, sz + y, by omega, by go_num, by go_num, Lib.hid rfl, by trivial⟩
   case measure => simp [intOf]
  ·have hz : sz ≤ 200000 := by rw [Hsz.out]; simp; omega
   go_wp2_with fail
   refine (grow_nil sz _ (by omega)).mono ?_
   rintro e w1 ⟨X, cX, rfl, hown, hb⟩
   have HO := Lib.hid hown
   have HB := Lib.hid hb
   clear hown hb h0 h1 Hsz hz
   obtain ⟨W0, rfl⟩ : ∃ z, z = wr := ⟨_, rfl⟩
   go_wp2_with fail
   go_loopw [6, 27] (fun s i wr2 => ∃ (k : Nat) (t : List (Int × Int)) (X : Option Addr) (cX n : Nat), k ≤ 2 ∧ i = .int .i64 (k : Int) ∧ s = .slice X n cX ∧ n ≤ 200000 ∧ Hid (t.length = n) ∧ Hid (t = catP l m k) ∧ Hid (wr2.ownsRow W0.heap.size 77 2 (.slice X n cX) n (idC t)) ∧ Hid (Below W0.heap.size W0 wr2)) (fun _ i _ => 2 - (intOf i).toNat)
   case atStart => exact ⟨0, [], X, cX, 0, by omega, rfl, rfl, by omega, Lib.hid rfl, Lib.hid rfl, HO, HB⟩
   case round =>
    obtain ⟨k, t, X, cX, n, hk, rfl, rfl, hn, Hn, Ht, HO, HB⟩ := hrel
    have hk3 : k = 0 ∨ k = 1 ∨ k = 2 := by omega
    rcases hk3 with rfl | rfl | rfl
    ·have ht : t = [] := Ht.out
     subst ht
     have hn0 : n = 0 := Hn.out.symm
     subst hn0
     have q : wr.cell? ⟨H, 0, none⟩ = some (.slice A x cA) := by rw [← hx.out]; exact (HH.out wr HB.out).cell 0
     have hsz : W0.heap.size ≤ wr.heap.size := HB.out.size
     have hS := HA.out wr HB.out
     have hO := HO.out
     go_wp2_with (at_builtin; refine wpList_appM' (w := wr) (us := idC l) (m := x) (B := A) rfl _ _ rfl elt_id hO hsz rfl rfl hS (by rw [idC_len, hx.out]) (idC_one l) (by omega) ?_; intro v1 w2 hown1 hg1; have hown2 : w2.ownsRow W0.heap.size 77 2 v1 (x) (idC (l)) := (by rw [Nat.zero_add] at hown1; exact hown1); clear hown1; obtain ⟨X1, c1, rfl⟩ := own_slice hown2)
     have hB1 := HB.out.grown hg1 HB.out.size (fun j hj => (HO.out.lt j hj).1)
     go_roundw
     case rel => exact ⟨1, l, X1, c1, x, by omega, by go_num, rfl, by omega, Lib.hid hx.out, Lib.hid rfl, Lib.hid hown2, Lib.hid hB1⟩
     case measure => simp [intOf]
    ·have ht : l = t := Ht.out.symm
     subst ht
     have hn0 : n = x := by rw [← Hn.out]; exact hx.out
     subst hn0
     have q : wr.cell? ⟨H, 1, none⟩ = some (.slice B y cB) := by rw [← hy.out]; exact (HH.out wr HB.out).cell 1
     have hsz : W0.heap.size ≤ wr.heap.size := HB.out.size
     have hS := HBs.out wr HB.out
     have hO := HO.out
     go_wp2_with (at_builtin; refine wpList_appM' (w := wr) (us := idC m) (m := y) (B := B) rfl _ _ rfl elt_id hO hsz rfl rfl hS (by rw [idC_len, hy.out]) (idC_one m) (by omega) ?_; intro v1 w2 hown1 hg1; have hown2 : w2.ownsRow W0.heap.size 77 2 v1 (n + y) (idC (l ++ m)) := (by rw [idC_app]; exact hown1); clear hown1; obtain ⟨X1, c1, rfl⟩ := own_slice hown2)
     have hB1 := HB.out.grown hg1 HB.out.size (fun j hj => (HO.out.lt j hj).1)
     go_roundw
     case rel => exact ⟨2, l ++ m, X1, c1, n + y, by omega, by go_num, rfl, by omega, Lib.hid (by rw [List.length_append, hx.out, hy.out]), Lib.hid rfl, Lib.hid hown2, Lib.hid hB1⟩
     case measure => simp [intOf]
    ·have ht : t = l ++ m := Ht.out
     subst ht
     have hO := HO
     have hB := HB
     clear HO HB
     go_wp2_with fail
     go_ret
     rw [Hn.out]
     exact ⟨X, cX, rfl, hO.out, hB.out⟩
end Go.Proofs.YtnapnkmehnabfaaGreat
