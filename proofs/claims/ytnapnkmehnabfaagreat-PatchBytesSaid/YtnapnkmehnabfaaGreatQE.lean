import Derived.Test.YtnapnkmehnabfaaGreatP36
import Derived.Deep.MidRow
import Derived.Great.BuildSlice
namespace Go.Proofs.YtnapnkmehnabfaaGreat
open Go.RowKit Go.Maps
def paV (q : Pa × Pw) : List Value := (paC q.1 q.2).toList
theorem paV_len (q : Pa × Pw) : (paV q).length = 9 := rfl
theorem paV_at : ∀ (ps : List (Pa × Pw)) (k i : Nat) (q : Pa × Pw), ps[k]? = some q → i < 9 → (ps.flatMap paV)[k * 9 + i]? = (paV q)[i]?
 | [], k, i, q, h, _ => by simp at h
 | u :: ps, 0, i, q, h, hi => by
  obtain rfl : u = q := by simpa using h
  rw [List.flatMap_cons, Nat.zero_mul, Nat.zero_add, List.getElem?_append_left (by rw [paV_len]; exact hi)]
 | u :: ps, k + 1, i, q, h, hi => by
  have := paV_at ps k i q (by simpa using h) hi;rw [List.flatMap_cons, List.getElem?_append_right (by rw [paV_len]; omega), paV_len, show (k + 1) * 9 + i - 9 = k * 9 + i by omega, this]
theorem pa_get {w : World} {X : Option Addr} {ps : List (Pa × Pw)} {k : Nat} (h : SL w X (ps.flatMap paV)) (hk : k < ps.length) :
  ∃ b o q, X = some ⟨b, o, none⟩ ∧ Hid (ps[k]? = some q) ∧ ∀ i v, (paV q)[i]? = some v → w.cell? ⟨b, o + k * 9 + i, none⟩ = some v := by
 have e := List.getElem?_eq_getElem hk;have h0 : (ps.flatMap paV)[k * 9]? = some (.int .i64 ps[k].1.office) := paV_at ps k 0 _ e (by omega);obtain ⟨b, o, e2, _, c1⟩ := h _ _ h0;subst e2;refine ⟨b, o, _, rfl, q9 e, fun i v hv => ?_⟩;have hi : i < 9 := by have := (List.getElem?_eq_some_iff.1 hv).1; rw [paV_len] at this; exact this
 have h1 := (paV_at ps k i _ e hi).trans hv;have := SL.two h h0 h1;rwa [← Nat.add_assoc] at this
theorem Bk.row {w : World} {g : Nat} {t : TypeId} {old : Array Value} (h : Bk w g t old) (cs : Array Value) : Bk (w.setRow g cs) g t cs := setRow_heap w g old cs t (0, 0) h
theorem grown_row9 (w : World) (g : Nat) (cs : Array Value) : w.grownBy (w.setRow g cs) (some g) :=
 ⟨rfl, rfl, rfl, by simp [World.setRow], fun k _ hne => by
  have hk : ¬ g = k := fun e => hne (by rw [e]);simp only [World.setRow, Array.getElem?_modify];rw [if_neg hk]⟩
theorem wp_store_row {P : Program} {op : Oper} {a : Act} {w : World} {K : Act → World → Prop} {Q : Exit → Act → World → Prop} (ty : TypeId) (x y : Operand) (ho : op.op = .store ty x y) (g : Nat) (t : TypeId) (old cells : Array Value) (hx : a.eval x = .pointer (some ⟨g, 0, none⟩)) (hy : a.eval y = .agg cells)
  (hg : Bk w g t old) (hi : (P.info? ty).map (·.size) = some cells.size) (hs : old.size = cells.size) (h1 : cells.all (·.oneCell') = true)
  (h : K (a.put op.dst undef) (w.setRow g cells)) : op.wp P a w K Q := by
 unfold Oper.wp execOp;simp only [ho, hx, hy, Instr.storeAt, Instr.sureAddr, Sem.run_bind, Sem.run_pure, Result.andThen_ok, run_storeVar_row w g t ty old cells hg hi hs h1];exact h
theorem wpList_store_row {P : Program} {ops : Array Oper} {rest : List Oper} {op : Oper} {a : Act} {w : World} {Q : Exit → Act → World → Prop} (hgd : op.guard = none) (ty : TypeId) (x y : Operand) (ho : op.op = .store ty x y) (g : Nat) (t : TypeId) (old cells : Array Value) (hx : a.eval x = .pointer (some ⟨g, 0, none⟩)) (hy : a.eval y = .agg cells)
  (hg : Bk w g t old) (hi : (P.info? ty).map (·.size) = some cells.size) (hs : old.size = cells.size) (h1 : cells.all (·.oneCell') = true)
  (h : wpList P ops Q rest (a.put op.dst undef) (w.setRow g cells)) : wpList P ops Q (op :: rest) a w :=
 wpList_plain hgd fun _ hK => wp_store_row ty x y ho g t old cells hx hy hg hi hs h1 (hK _ _ h)
theorem wp_load_row {P : Program} {op : Oper} {a : Act} {w : World} {K : Act → World → Prop} {Q : Exit → Act → World → Prop} (ty : TypeId) (x : Operand) (ho : op.op = .load ty x) (g : Nat) (t : TypeId) (cells : Array Value) (d : TypeDesc) (hx : a.eval x = .pointer (some ⟨g, 0, none⟩)) (hg : Bk w g t cells) (hu : P.underlying ty = some d) (hd : d.isRow = true) (hi : (P.info? ty).map (·.size) = some cells.size)
  (h : K (a.put op.dst (.agg cells)) w) : op.wp P a w K Q := by
 refine wp_load_mid ty x ho g 0 hx cells.toList d (fun j v hv => ?_) hu hd (by rw [hi]; simp) (by simpa using h);rw [Nat.zero_add, hg.cell j];simpa using hv
theorem wpList_load_row {P : Program} {ops : Array Oper} {rest : List Oper} {op : Oper} {a : Act} {w : World} {Q : Exit → Act → World → Prop} (hgd : op.guard = none) (ty : TypeId) (x : Operand) (ho : op.op = .load ty x) (g : Nat) (t : TypeId) (cells : Array Value) (d : TypeDesc) (hx : a.eval x = .pointer (some ⟨g, 0, none⟩)) (hg : Bk w g t cells) (hu : P.underlying ty = some d) (hd : d.isRow = true) (hi : (P.info? ty).map (·.size) = some cells.size)
  (h : wpList P ops Q rest (a.put op.dst (.agg cells)) w) : wpList P ops Q (op :: rest) a w :=
 wpList_plain hgd fun _ hK => wp_load_row ty x ho g t cells d hx hg hu hd hi (hK _ _ h)
theorem run_build_place (x y : Int) (nm : ByteArray) (o f t : Int) (w : World) : (Instr.build 114 #[(0, .agg #[.int .i64 x, .int .i64 y]), (1, .string nm), (2, .int .i64 o), (3, .int .i64 f), (4, .int .i64 t)]).run Tryz.prog w = .ok (.agg #[.int .i64 x, .int .i64 y, .string nm, .int .i64 o, .int .i64 f, .int .i64 t]) w := run_build w _ _ _ (by kernel_rfl)
theorem run_build_mark (id j k o f t d : Int) (w : World) : (Instr.build 88 #[(0, .agg #[.int .u64 id, .int .i64 j]), (1, .agg #[.int .i64 k, .int .i64 o, .int .i64 f, .int .i64 t, .int .i64 d])]).run Tryz.prog w = .ok (.agg #[.int .u64 id, .int .i64 j, .int .i64 k, .int .i64 o, .int .i64 f, .int .i64 t, .int .i64 d]) w := run_build w _ _ _ (by kernel_rfl)
theorem wp_build_row {P : Program} {op : Oper} {a : Act} {w : World} {K : Act → World → Prop} {Q : Exit → Act → World → Prop} (ty : TypeId) (ps : Array (Nat × Operand)) (ho : op.op = .build ty ps) (vs : Array (Nat × Value)) (hv : (ps.map fun (i, x) => (i, a.eval x)) = vs) (cells : Array Value) (hb : (Instr.build ty vs).run P w = .ok (.agg cells) w)
  (h : K (a.put op.dst (.agg cells)) w) : op.wp P a w K Q := by
 unfold Oper.wp execOp;subst hv;simp only [ho];simp [hb]
 exact h
theorem info_pa : ((Tryz.prog).info? 34).map (·.size) = some 9 := by kernel_rfl
theorem paC_one (p : Pa) (a : Pw) : (paC p a).all (·.oneCell') = true := by simp [paC, Value.oneCell']
theorem below_of_grown {w w' : World} (hg : w.grownBy w' none) : Below w.heap.size w w' := ⟨hg.os, hg.tape, hg.output, hg.size, fun k hk => hg.block k hk (by simp)⟩
theorem elt_place : Elt Tryz.prog 29 114 (.agg #[.int .i64 0, .int .i64 0, .string ⟨#[]⟩, .int .i64 0, .int .i64 0, .int .i64 0]) 6 56 := Elt.mk' Tryz.underlying29 (by kernel_rfl) (by decide) (by decide) rfl
theorem elt_mark : Elt Tryz.prog 30 88 (.agg #[.int .u64 0, .int .i64 0, .int .i64 0, .int .i64 0, .int .i64 0, .int .i64 0, .int .i64 0]) 7 56 := Elt.mk' Tryz.underlying30 (by kernel_rfl) (by decide) (by decide) rfl
theorem elt_rt : Elt Tryz.prog 32 92 (.agg #[.int .i64 0, .int .i64 0]) 2 16 := Elt.mk' Tryz.underlying32 (by kernel_rfl) (by decide) (by decide) rfl
theorem run_bs_place (x y : Int) (nm : ByteArray) (o f t : Int) (w : World) : (Instr.buildSlice 29 1 #[(0, .agg #[.int .i64 x, .int .i64 y, .string nm, .int .i64 o, .int .i64 f, .int .i64 t])]).run Tryz.prog w = .ok (.slice (some ⟨w.heap.size, 0, none⟩) 1 1) (w.alloc (.cells #[.int .i64 x, .int .i64 y, .string nm, .int .i64 o, .int .i64 f, .int .i64 t] 114)) := by
 obtain ⟨i, hi, hz, hs, _⟩ := info_parts (show ((Tryz.prog).info? 114).map (fun i => (i.zero, i.size, i.bytes)) = some (some (.agg #[.int .i64 0, .int .i64 0, .string ⟨#[]⟩, .int .i64 0, .int .i64 0, .int .i64 0]), 6, 56) by kernel_rfl);exact run_buildSlice w _ _ 1 _ _ i _ Tryz.underlying29 hi hz (by rw [hs]; decide) (by rw [hs]; decide) (by rw [hs]; kernel_rfl)
theorem run_bs_mark (p i k o f t d : Int) (w : World) : (Instr.buildSlice 30 1 #[(0, .agg #[.int .u64 p, .int .i64 i, .int .i64 k, .int .i64 o, .int .i64 f, .int .i64 t, .int .i64 d])]).run Tryz.prog w = .ok (.slice (some ⟨w.heap.size, 0, none⟩) 1 1) (w.alloc (.cells #[.int .u64 p, .int .i64 i, .int .i64 k, .int .i64 o, .int .i64 f, .int .i64 t, .int .i64 d] 88)) := by
 obtain ⟨x, hi, hz, hs, _⟩ := info_parts (show ((Tryz.prog).info? 88).map (fun i => (i.zero, i.size, i.bytes)) = some (some (.agg #[.int .u64 0, .int .i64 0, .int .i64 0, .int .i64 0, .int .i64 0, .int .i64 0, .int .i64 0]), 7, 56) by kernel_rfl);exact run_buildSlice w _ _ 1 _ _ x _ Tryz.underlying30 hi hz (by rw [hs]; decide) (by rw [hs]; decide) (by rw [hs]; kernel_rfl)
theorem wp_bs_row {P : Program} {op : Oper} {a : Act} {w w' : World} {K : Act → World → Prop} {Q : Exit → Act → World → Prop} (ty : TypeId) (n : Nat) (ps : Array (Nat × Operand)) (ho : op.op = .buildSlice ty n ps) (vs : Array (Nat × Value)) (hv : (ps.map fun (i, x) => (i, a.eval x)) = vs) (v : Value) (hb : (Instr.buildSlice ty n vs).run P w = .ok v w')
  (h : K (a.put op.dst v) w') : op.wp P a w K Q := by
 unfold Oper.wp execOp;subst hv;simp only [ho];simp [hb]
 exact h
theorem elt_stroke : Elt Tryz.prog 28 62 (.agg #[.int .i64 0, .int .i64 0, .int .i64 0, .int .i64 0, .slice none 0 0]) 5 56 := Elt.mk' Tryz.underlying28 (by kernel_rfl) (by decide) (by decide) rfl
theorem PB.store {w : World} {g i : Nat} {t : TypeId} {cs : Array Value} {p : Pa} {a : Pw} (h : PB w p a) (hb : Bk w g t cs) (ht : t ∉ paT) (u : Value) : PB (w.setCell ⟨g, i, none⟩ u) p a :=
 h.grown (grown_set w g i u) (fun r e => by cases e; exact ⟨_, cs, hb, ht⟩)
theorem pb_new (w : World) (o n : Int) : PB w ⟨o, n, [], [], [], [], [], [], []⟩ pwZ := ⟨.inl rfl, ⟨[], .inl rfl, SV.nil w⟩, .inl rfl, .inl rfl, .inl rfl, .inl rfl, .inl rfl⟩
end Go.Proofs.YtnapnkmehnabfaaGreat
