import Derived.Test.YtgeciimakjfnfaaC2
namespace Go.Proofs.Ytgeciimakjfnfaa
open Go.RowKit Go.Maps

theorem cC_len : ∀ l : List Cl, (l.flatMap clC).length = l.length * 5
  | [] => rfl
  | t :: l => by rw [List.flatMap_cons, List.length_append, cC_len l, List.length_cons]; simp [clC]; omega
theorem cC_all (l : List Cl) : (l.flatMap clC).all (·.oneCell') = true := by
  rw [List.all_eq_true]
  intro v hv
  obtain ⟨t, _, ht⟩ := List.mem_flatMap.1 hv
  simp only [clC, List.mem_cons, List.not_mem_nil, or_false] at ht
  rcases ht with rfl | rfl | rfl | rfl | rfl <;> rfl
theorem cC_app (l m : List Cl) : (l ++ m).flatMap clC = l.flatMap clC ++ m.flatMap clC := List.flatMap_append ..
theorem cC_take : ∀ (l : List Cl) (k : Nat), (l.take k).flatMap clC = (l.flatMap clC).take (k * 5)
  | [], k => by simp
  | t :: l, 0 => rfl
  | t :: l, k + 1 => by
    rw [List.take_succ_cons, List.flatMap_cons, List.flatMap_cons, cC_take l k, show (k + 1) * 5 = k * 5 + 1 + 1 + 1 + 1 + 1 by omega]
    rfl
theorem cC_set : ∀ (l : List Cl) (k : Nat) (t : Cl), k < l.length → (((((l.flatMap clC).set (k * 5) (.int .i64 t.kind)).set (k * 5 + 1) (.int .i64 t.office)).set (k * 5 + 2) (.int .i64 t.fr)).set (k * 5 + 3) (.int .i64 t.til)).set (k * 5 + 4) (.int .i64 t.dec) = (l.set k t).flatMap clC
  | [], k, t, h => by simp at h
  | u :: l, 0, t, _ => rfl
  | u :: l, k + 1, t, h => by
    have := cC_set l k t (by simpa using h)
    have hk : ∀ (x : List Value) (v : Value) (i : Nat), (clC u ++ x).set (i + 5) v = clC u ++ x.set i v := fun x v i => rfl
    rw [List.set_cons_succ, List.flatMap_cons, List.flatMap_cons, ← this]
    rw [show (k + 1) * 5 = k * 5 + 5 by omega, hk, show k * 5 + 5 + 1 = (k * 5 + 1) + 5 by omega, hk, show k * 5 + 5 + 2 = (k * 5 + 2) + 5 by omega, hk, show k * 5 + 5 + 3 = (k * 5 + 3) + 5 by omega, hk, show k * 5 + 5 + 4 = (k * 5 + 4) + 5 by omega, hk]
theorem elt_cl : Elt Try.prog 38 24 (.agg #[.int .i64 0, .int .i64 0, .int .i64 0, .int .i64 0, .int .i64 0]) 5 40 := Elt.mk' Try.underlying38 (by kernel_rfl) (by decide) (by decide) rfl
theorem info_cl : ((Try.prog).info? 24).map (·.size) = some 5 := by kernel_rfl
theorem eql_nilC (a : Option Addr) (l c : Nat) (W : World) : (binOp .eql 38 (.slice a l c) (.slice none 0 0)).run Try.prog W = .ok (.bool a.isNone) W := by
  simp only [binOp]
  simp [run_equal_slice_nil W 38 24 a l c Try.underlying38]
theorem SC.nil_ {w : World} {l : List Cl} (h : SC w none l) : l = [] := by
  cases l with
  | nil => rfl
  | cons x l => obtain ⟨b, o, e, _⟩ := h 0 (.int .i64 x.kind) rfl; cases e
theorem SC.own {w : World} {base n c : Nat} {A : Option Addr} {l : List Cl} (h : w.ownsRow base 24 5 (.slice A n c) n (l.flatMap clC)) : SC w A l := SL.of_own h
theorem own_lenC {w : World} {base n : Nat} {v : Value} {l : List Cl} (h : w.ownsRow base 24 5 v n (l.flatMap clC)) : l.length = n := by
  have := h.1; rw [cC_len] at this; omega

set_option maxHeartbeats 1000000 in
set_option maxRecDepth 100000 in
theorem clone_any (A : Option Addr) (c : Nat) (l : List Cl) (w : World) (hA : SC w A l) (hl : l.length ≤ 1000000000) :
    Calls Try.prog 79 #[.slice A l.length c] w fun e w' => ∃ v, e = .returned v ∧ w'.ownsRow w.heap.size 24 5 v l.length (l.flatMap clC) ∧ Below w.heap.size w w' := by
  cases A with
  | none =>
    have hl0 := hA.nil_
    subst hl0
    have hu := fun W => eql_nilC none 0 c W
    go_enter Try.func79, Try.ntmps79
    go_wp2_with fail
    go_ret
    exact ⟨_, rfl, World.ownsRow_nil _ _ _ _, Below.refl _ _⟩
  | some a =>
    have Hv := Lib.hid (own_void8 (base := w.heap.size) (size := 5) (Bk.new w 24 #[]) (Nat.le_refl _))
    have Hx := Lib.hid ((Below.refl w.heap.size w).alloc (Nat.le_refl _) (.cells #[] 24))
    have hsz : w.heap.size ≤ (w.alloc (.cells #[] 24)).heap.size := by simp
    have Ha := Lib.hid (SL.below hA Hx.out)
    have hu := fun W => eql_nilC (some a) l.length c W
    go_enter Try.func79, Try.ntmps79
    go_wp2_with (at_builtin; refine wpList_appM (w := w.alloc (.cells #[] 24)) rfl _ _ rfl elt_cl Hv.out hsz rfl rfl Ha.out (cC_len l) (cC_all l) (by omega) ?_; intro v2 W2 hown2 hg2)
    go_ret
    exact ⟨v2, rfl, by simpa using hown2, Hx.out.grown hg2 hsz (fun k hk => by simp [Value.ownBlock] at hk; omega)⟩

theorem put_nextC {A L : List Cl} {x : Cl} (h : A.length < L.length) : (A ++ L.drop A.length).set A.length x = (A ++ [x]) ++ L.drop (A ++ [x]).length := by
  rw [List.set_append_right _ _ (Nat.le_refl _), Nat.sub_self, List.drop_eq_getElem_cons h, List.set_cons_zero, List.length_append, List.append_assoc]
  rfl
theorem rest_getC {A L : List Cl} {j : Nat} (h : A.length ≤ j) : (A ++ L.drop A.length)[j]? = L[j]? := by
  rw [List.getElem?_append_right h, List.getElem?_drop, Nat.add_sub_cancel' h]
theorem own_cellsC {w : World} {base g n c j : Nat} {l : List Cl} {t : Cl} (h : w.ownsRow base 24 5 (.slice (some ⟨g, 0, none⟩) n c) n (l.flatMap clC)) (hj : l[j]? = some t) :
    w.cell? ⟨g, j * 5, none⟩ = some (.int .i64 t.kind) ∧ w.cell? ⟨g, j * 5 + 1, none⟩ = some (.int .i64 t.office) ∧ w.cell? ⟨g, j * 5 + 2, none⟩ = some (.int .i64 t.fr) ∧ w.cell? ⟨g, j * 5 + 3, none⟩ = some (.int .i64 t.til) ∧ w.cell? ⟨g, j * 5 + 4, none⟩ = some (.int .i64 t.dec) ∧
      ∀ i, w.frozen? ⟨g, i, none⟩ = false := by
  obtain ⟨cur, hb, hc⟩ := own_bk2 h
  obtain ⟨h1, h2, h3, h4, h5⟩ := clC_at l j t hj
  have hl := own_lenC h
  have hjn : j < n := by have := (List.getElem?_eq_some_iff.1 hj).1; omega
  rw [← hc, List.getElem?_take_of_lt (by omega)] at h1 h2 h3 h4 h5
  exact ⟨by rw [hb.cell]; simpa using h1, by rw [hb.cell]; simpa using h2, by rw [hb.cell]; simpa using h3, by rw [hb.cell]; simpa using h4, by rw [hb.cell]; simpa using h5, fun i => hb.frozen _⟩
theorem own_thereC {w : World} {base g n c j : Nat} {l : List Cl} (h : w.ownsRow base 24 5 (.slice (some ⟨g, 0, none⟩) n c) n (l.flatMap clC)) (hj : j < n) : w.there g (j * 5) 5 := fun i hi => by
  have hl := own_lenC h
  obtain ⟨h1, h2, h3, h4, h5, hf⟩ := own_cellsC h (List.getElem?_eq_getElem (by omega : j < l.length))
  refine ⟨?_, hf _⟩
  have : i = 0 ∨ i = 1 ∨ i = 2 ∨ i = 3 ∨ i = 4 := by omega
  rcases this with rfl | rfl | rfl | rfl | rfl
  · rw [Nat.add_zero, h1]; rfl
  · rw [h2]; rfl
  · rw [h3]; rfl
  · rw [h4]; rfl
  · rw [h5]; rfl
set_option maxHeartbeats 2000000 in
/-- An element of a row of one's own is set. -/
theorem own_putC {w : World} {base g n c k : Nat} {l : List Cl} (h : w.ownsRow base 24 5 (.slice (some ⟨g, 0, none⟩) n c) n (l.flatMap clC)) (hk : k < n) (t : Cl) :
    (w.setCells g (k * 5) [.int .i64 t.kind, .int .i64 t.office, .int .i64 t.fr, .int .i64 t.til, .int .i64 t.dec]).ownsRow base 24 5 (.slice (some ⟨g, 0, none⟩) n c) n ((l.set k t).flatMap clC) := by
  show (((((w.setCell ⟨g, k * 5, none⟩ (.int .i64 t.kind)).setCell ⟨g, k * 5 + 1, none⟩ (.int .i64 t.office)).setCell ⟨g, k * 5 + 2, none⟩ (.int .i64 t.fr)).setCell ⟨g, k * 5 + 3, none⟩ (.int .i64 t.til)).setCell ⟨g, k * 5 + 4, none⟩ (.int .i64 t.dec)).ownsRow base 24 5 (.slice (some ⟨g, 0, none⟩) n c) n ((l.set k t).flatMap clC)
  have hl := own_lenC h
  rcases h.2 with ⟨he, _⟩ | ⟨j, cap, cur, he, h1, hg, h2, h3, h4, h5⟩
  · cases he
  · injection he with e1 e2 e3
    injection e1 with e1
    injection e1 with e1
    subst e1 e3
    have hb : Bk w g 24 cur := hg
    refine ⟨by rw [cC_len, List.length_set, hl], .inr ⟨g, c, _, rfl, h1, ((((hb.set_ (k * 5) (.int .i64 t.kind)).set_ (k * 5 + 1) (.int .i64 t.office)).set_ (k * 5 + 2) (.int .i64 t.fr)).set_ (k * 5 + 3) (.int .i64 t.til)).set_ (k * 5 + 4) (.int .i64 t.dec), h2, h3, by simp [h4], ?_⟩⟩
    rw [← cC_set l k t (by omega), ← h5]
    simp only [Array.toList_setIfInBounds]
    rw [List.take_set, List.take_set, List.take_set, List.take_set, List.take_set]
theorem grown_trans {a b c : World} {r : Option Nat} (h : a.grownBy b r) (k : b.grownBy c r) : a.grownBy c r :=
  ⟨k.os.trans h.os, k.tape.trans h.tape, k.output.trans h.output, Nat.le_trans h.size k.size, fun j hj hr => (k.block j (Nat.lt_of_lt_of_le hj h.size) hr).trans (h.block j hj hr)⟩
theorem grown_putC (w : World) (g k : Nat) (t : Cl) : w.grownBy (w.setCells g k [.int .i64 t.kind, .int .i64 t.office, .int .i64 t.fr, .int .i64 t.til, .int .i64 t.dec]) (some g) :=
  grown_trans (grown_trans (grown_trans (grown_trans (grown_set w g k (.int .i64 t.kind)) (grown_set _ g (k + 1) (.int .i64 t.office))) (grown_set _ g (k + 2) (.int .i64 t.fr))) (grown_set _ g (k + 3) (.int .i64 t.til))) (grown_set _ g (k + 4) (.int .i64 t.dec))
theorem grown_row9x (w : World) (g : Nat) (cs : Array Value) : w.grownBy (w.setRow g cs) (some g) :=
  ⟨rfl, rfl, rfl, by simp [World.setRow], fun k _ hne => by
    have hk : ¬ g = k := fun e => hne (by rw [e])
    simp only [World.setRow, Array.getElem?_modify]
    rw [if_neg hk]⟩
/-- clear at a row of one's own, behind its first k elements. -/
theorem run_clear_cl {w : World} {base g n c k : Nat} {l : List Cl} (h : w.ownsRow base 24 5 (.slice (some ⟨g, 0, none⟩) n c) n (l.flatMap clC)) (hk : k < n) :
    ∃ w', (∀ (ty : TypeId) (d : Nat), (Builtin.clear_ #[38] ty #[.slice (some ⟨g, k * 5, none⟩) (n - k) d]).run Try.prog w = .ok (.tuple #[]) w') ∧ w'.ownsRow base 24 5 (.slice (some ⟨g, 0, none⟩) k c) k ((l.take k).flatMap clC) ∧ w.grownBy w' (some g) := by
  have hl := own_lenC h
  rcases h.2 with ⟨he, _⟩ | ⟨j, cap, cur, he, h1, hg, h2, h3, h4, h5⟩
  · cases he
  · injection he with e1 e2 e3
    injection e1 with e1
    injection e1 with e1
    subst e1 e3
    obtain ⟨ht, _, _, _, i, hi, hz, hs, hb⟩ := elt_cl
    have hzl : (Builtin.zeroCells (Value.agg #[.int .i64 0, .int .i64 0, .int .i64 0, .int .i64 0, .int .i64 0]).cells (n - k)).toList.length = (n - k) * 5 := by simp [Builtin.zeroCells, Value.cells]
    have hz1 : ∀ v ∈ (Builtin.zeroCells (Value.agg #[.int .i64 0, .int .i64 0, .int .i64 0, .int .i64 0, .int .i64 0]).cells (n - k)).toList, v.oneCell' = true := by
      intro v hv
      simp only [Builtin.zeroCells, Value.cells, Array.toList_map, List.mem_map] at hv
      obtain ⟨a, _, rfl⟩ := hv
      have : a % 5 = 0 ∨ a % 5 = 1 ∨ a % 5 = 2 ∨ a % 5 = 3 ∨ a % 5 = 4 := by omega
      rcases this with e | e | e | e | e <;> simp [e, Value.oneCell']
    have hst := run_storeCells_at Try.prog g (k * 5) 24 _ 0 cur w hg (by rw [hzl]; omega) hz1
    obtain ⟨Z, hZ⟩ : ∃ z, z = (Builtin.zeroCells (Value.agg #[.int .i64 0, .int .i64 0, .int .i64 0, .int .i64 0, .int .i64 0]).cells (n - k)).toList := ⟨_, rfl⟩
    rw [← hZ] at hst hzl
    refine ⟨w.setRow g (cur.toList.take (k * 5 + 0) ++ Z ++ cur.toList.drop (k * 5 + 0 + Z.length)).toArray, ?_, ?_, grown_row9x w g _⟩
    · intro ty d
      rw [hZ] at hst ⊢
      obtain ⟨m, hm⟩ : ∃ m, n - k = m + 1 := ⟨n - k - 1, by omega⟩
      rw [hm] at hst ⊢
      simp only [Nat.add_zero] at hst ⊢
      simp [Builtin.clear_, run_underlying ht, zeroValue, typeInfo, hi, hz, hst]
    · refine ⟨by rw [cC_len, List.length_take, hl]; omega, .inr ⟨g, c, _, rfl, h1, setRow_heap w g cur _ _ (0, 0) hg, by omega, h3, ?_, ?_⟩⟩
      · simp only [List.size_toArray, List.length_append, List.length_take, List.length_drop, Array.length_toList, hzl]
        omega
      · have e1 : (cur.toList.take (k * 5)).length = k * 5 := by rw [List.length_take, Array.length_toList]; omega
        rw [cC_take, ← h5]
        simp only [Nat.add_zero, List.append_assoc]
        rw [List.take_append_of_le_length (by rw [e1]; exact Nat.le_refl _), List.take_of_length_le (by rw [e1]; exact Nat.le_refl _), List.take_take, Nat.min_eq_left (by omega)]
theorem idxC_cases (p : Cl → Bool) : ∀ L : List Cl, (idxC p L = -1 ∧ L.filter (fun t => !p t) = L) ∨ ∃ k : Nat, k < L.length ∧ idxC p L = k ∧ (L.take (k + 1)).filter (fun t => !p t) = L.take k
  | [] => .inl ⟨rfl, rfl⟩
  | x :: L => by
    cases h : p x
    · rcases idxC_cases p L with ⟨h1, h2⟩ | ⟨k, h1, h2, h3⟩
      · refine .inl ⟨by rw [idxC, h, h1]; rfl, by rw [List.filter_cons_of_pos (by simp [h]), h2]⟩
      · refine .inr ⟨k + 1, by simpa using h1, by rw [idxC, h, h2]; simp; omega, by rw [List.take_succ_cons, List.filter_cons_of_pos (by simp [h]), h3]; rfl⟩
    · exact .inr ⟨0, by simp, by rw [idxC, h]; rfl, by simp [h]⟩
theorem filt_next {p : Cl → Bool} {L : List Cl} {j : Nat} {t : Cl} (h : L[j]? = some t) : (L.take (j + 1)).filter (fun t => !p t) = if p t then (L.take j).filter (fun t => !p t) else (L.take j).filter (fun t => !p t) ++ [t] := by
  rw [List.take_add_one, h, List.filter_append]
  cases hp : p t
  · simp [hp]
  · simp [hp]
end Go.Proofs.Ytgeciimakjfnfaa
