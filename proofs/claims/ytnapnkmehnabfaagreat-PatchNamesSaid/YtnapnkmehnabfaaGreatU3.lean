import Derived.Test.YtnapnkmehnabfaaGreatU2
namespace Go.Proofs.YtnapnkmehnabfaaGreat
open Go.RowKit Go.Maps

theorem eql_id (x y x' y' : Int) (W : World) : (binOp .eql 77 (.agg #[.int .u64 x, .int .i64 y]) (.agg #[.int .u64 x', .int .i64 y'])).run Tryz.prog W = .ok (.bool (x == x' && y == y')) W := by
 rw [run_eql_struct, show (10000 : Nat) = 9999 + 1 from rfl, run_equalIn_struct (P := Tryz.prog) W 9999 77 _ _ (by kernel_rfl) (by kernel_rfl)]
 have ha := Tryz.isAgg3
 have hb := Tryz.isAgg53
 have hu3 := Tryz.underlying3
 have hu4 := Tryz.underlying53
 by_cases e1 : x = x'
 ·by_cases e2 : y = y'
  ·simp [Program.fieldsOf, Tryz.underlying77, Op.eqFields, part, ha, hb, run_equalIn_int W 9998 3 .i64 .i64 _ _ hu3, run_equalIn_int W 9998 53 .u64 .u64 _ _ hu4, e1, e2]
  ·simp [Program.fieldsOf, Tryz.underlying77, Op.eqFields, part, ha, hb, run_equalIn_int W 9998 3 .i64 .i64 _ _ hu3, run_equalIn_int W 9998 53 .u64 .u64 _ _ hu4, e1, e2]
 ·simp [Program.fieldsOf, Tryz.underlying77, Op.eqFields, part, ha, hb, run_equalIn_int W 9998 53 .u64 .u64 _ _ hu4, e1]
theorem grown_row9x (w : World) (g : Nat) (cs : Array Value) : w.grownBy (w.setRow g cs) (some g) :=
 ⟨rfl, rfl, rfl, by simp [World.setRow], fun k _ hne => by
  have hk : ¬ g = k := fun e => hne (by rw [e])
  simp only [World.setRow, Array.getElem?_modify]
  rw [if_neg hk]⟩
theorem idC_set : ∀ (l : List (Int × Int)) (k : Nat) (t : Int × Int), k < l.length → ((idC l).set (k * 2) (.int .u64 t.1)).set (k * 2 + 1) (.int .i64 t.2) = idC (l.set k t)
 | [], k, t, h => by simp at h
 | u :: l, 0, t, _ => rfl
 | u :: l, k + 1, t, h => by
  have := idC_set l k t (by simpa using h)
  show ((Value.int .u64 u.1 :: .int .i64 u.2 :: idC l).set ((k + 1) * 2) _).set ((k + 1) * 2 + 1) _ = .int .u64 u.1 :: .int .i64 u.2 :: idC (l.set k t)
  rw [show (k + 1) * 2 = k * 2 + 1 + 1 by omega, List.set_cons_succ, List.set_cons_succ, List.set_cons_succ, List.set_cons_succ, this]
/-- An element of a row of one's own is set. -/
theorem own_put2 {w : World} {base g n c k : Nat} {l : List (Int × Int)} (h : w.ownsRow base 77 2 (.slice (some ⟨g, 0, none⟩) n c) n (idC l)) (hk : k < n) (t : Int × Int) :
  ((w.setCell ⟨g, k * 2, none⟩ (.int .u64 t.1)).setCell ⟨g, k * 2 + 1, none⟩ (.int .i64 t.2)).ownsRow base 77 2 (.slice (some ⟨g, 0, none⟩) n c) n (idC (l.set k t)) := by
 have hl : l.length = n := by have := h.1; rw [idC_len] at this; omega
 rcases h.2 with ⟨he, _⟩ | ⟨j, cap, cur, he, h1, hg, h2, h3, h4, h5⟩
 ·cases he
 ·injection he with e1 e2 e3
  injection e1 with e1
  injection e1 with e1
  subst e1 e3
  have hb : Bk w g 77 cur := hg
  refine ⟨by rw [idC_len, List.length_set, hl], .inr ⟨g, c, _, rfl, h1, (hb.set_ (k * 2) (.int .u64 t.1)).set_ (k * 2 + 1) (.int .i64 t.2), h2, h3, by simp [h4], ?_⟩⟩
  rw [← idC_set l k t (by omega), ← h5]
  simp only [Array.toList_setIfInBounds]
  rw [List.take_set, List.take_set]
/-- clear at a row of one's own, behind its first k elements. -/
theorem run_clear_id {w : World} {base g n c k : Nat} {l : List (Int × Int)} (h : w.ownsRow base 77 2 (.slice (some ⟨g, 0, none⟩) n c) n (idC l)) (hk : k < n) :
  ∃ w', (∀ (ty : TypeId) (d : Nat), (Builtin.clear_ #[31] ty #[.slice (some ⟨g, k * 2, none⟩) (n - k) d]).run Tryz.prog w = .ok (.tuple #[]) w') ∧ w'.ownsRow base 77 2 (.slice (some ⟨g, 0, none⟩) k c) k (idC (l.take k)) ∧ w.grownBy w' (some g) := by
 have hl : l.length = n := by have := h.1; rw [idC_len] at this; omega
 rcases h.2 with ⟨he, _⟩ | ⟨j, cap, cur, he, h1, hg, h2, h3, h4, h5⟩
 ·cases he
 ·injection he with e1 e2 e3
  injection e1 with e1
  injection e1 with e1
  subst e1 e3
  obtain ⟨ht, _, _, _, i, hi, hz, hs, hb⟩ := elt_id
  have hzl : (Builtin.zeroCells (Value.agg #[.int .u64 0, .int .i64 0]).cells (n - k)).toList.length = (n - k) * 2 := by simp [Builtin.zeroCells, Value.cells]
  have hz1 : ∀ v ∈ (Builtin.zeroCells (Value.agg #[.int .u64 0, .int .i64 0]).cells (n - k)).toList, v.oneCell' = true := by
   intro v hv
   simp only [Builtin.zeroCells, Value.cells, Array.toList_map, List.mem_map] at hv
   obtain ⟨a, _, rfl⟩ := hv
   have : a % 2 = 0 ∨ a % 2 = 1 := by omega
   rcases this with e | e <;> simp [e, Value.oneCell']
  have hst := run_storeCells_at Tryz.prog g (k * 2) 77 _ 0 cur w hg (by rw [hzl]; omega) hz1
  obtain ⟨Z, hZ⟩ : ∃ z, z = (Builtin.zeroCells (Value.agg #[.int .u64 0, .int .i64 0]).cells (n - k)).toList := ⟨_, rfl⟩
  rw [← hZ] at hst hzl
  refine ⟨w.setRow g (cur.toList.take (k * 2 + 0) ++ Z ++ cur.toList.drop (k * 2 + 0 + Z.length)).toArray, ?_, ?_, grown_row9x w g _⟩
  ·intro ty d
   rw [hZ] at hst ⊢
   obtain ⟨m, hm⟩ : ∃ m, n - k = m + 1 := ⟨n - k - 1, by omega⟩
   rw [hm] at hst ⊢
   simp only [Nat.add_zero] at hst ⊢
   simp [Builtin.clear_, run_underlying ht, zeroValue, typeInfo, hi, hz, hst]
  ·refine ⟨by rw [idC_len, List.length_take, hl]; omega, .inr ⟨g, c, _, rfl, h1, setRow_heap w g cur _ _ (0, 0) hg, by omega, h3, ?_, ?_⟩⟩
   ·simp only [List.size_toArray, List.length_append, List.length_take, List.length_drop, Array.length_toList, hzl]
    omega
   ·have e1 : (cur.toList.take (k * 2)).length = k * 2 := by rw [List.length_take, Array.length_toList]; omega
    have e2 : idC (l.take k) = (idC l).take (k * 2) := by
     have : ∀ (l : List (Int × Int)) (k : Nat), idC (l.take k) = (idC l).take (k * 2) := by
      intro l
      induction l with
      | nil => intro k; simp [idC]
      | cons t l ih =>
       intro k
       cases k with
       | zero => rfl
       | succ k =>
        show Value.int .u64 t.1 :: .int .i64 t.2 :: idC (l.take k) = (Value.int .u64 t.1 :: .int .i64 t.2 :: idC l).take ((k + 1) * 2)
        rw [ih k, show (k + 1) * 2 = k * 2 + 1 + 1 by omega]
        rfl
     exact this l k
    rw [e2, ← h5]
    simp only [Nat.add_zero, List.append_assoc]
    rw [List.take_append_of_le_length (by rw [e1]; exact Nat.le_refl _), List.take_of_length_le (by rw [e1]; exact Nat.le_refl _), List.take_take, Nat.min_eq_left (by omega)]
end Go.Proofs.YtnapnkmehnabfaaGreat
