import Derived.Test.YtnapnkmehnabfaaGreatP70
import Derived.Great.BuildSlice
namespace Go.Proofs.YtnapnkmehnabfaaGreat
open Go.RowKit Go.Maps

theorem flat_lenS {α β : Type} {f : α → List β} {k : Nat} (h : ∀ x, (f x).length = k) : ∀ l : List α, (l.flatMap f).length = l.length * k
 | [] => by simp
 | x :: l => by rw [List.flatMap_cons, List.length_append, h, flat_lenS h l, List.length_cons, Nat.succ_mul, Nat.add_comm]
theorem flat_oneS {α : Type} {f : α → List Value} (h : ∀ x, (f x).all (·.oneCell') = true) (l : List α) : (l.flatMap f).all (·.oneCell') = true := by
 rw [List.all_eq_true]
 intro v hv
 obtain ⟨x, _, h2⟩ := List.mem_flatMap.1 hv
 exact List.all_eq_true.1 (h x) v h2
theorem sv_one {w : World} {vs : List Value} {l : List Sk} (h : SV w vs l) : vs.all (·.oneCell') = true := by
 rw [List.all_eq_true]
 intro v hv
 obtain ⟨i, hi, rfl⟩ := List.mem_iff_getElem.1 hv
 have hl := h.1
 have hj : i / 5 < l.length := by omega
 obtain ⟨C, c, h0, h1, h2, h3, h4, _, _⟩ := h.2 (i / 5) _ (List.getElem?_eq_getElem hj)
 have hr : i % 5 = 0 ∨ i % 5 = 1 ∨ i % 5 = 2 ∨ i % 5 = 3 ∨ i % 5 = 4 := by omega
 have k : ∀ j u, vs[j]? = some u → i = j → vs[i] = u := fun j u e hij => by
  subst hij
  rw [List.getElem?_eq_getElem hi] at e
  exact Option.some.inj e
 rcases hr with hr | hr | hr | hr | hr
 ·rw [k _ _ h0 (by omega)]; rfl
 ·rw [k _ _ h1 (by omega)]; rfl
 ·rw [k _ _ h2 (by omega)]; rfl
 ·rw [k _ _ h3 (by omega)]; rfl
 ·rw [k _ _ h4 (by omega)]; rfl
theorem u64_wrap (x : Int) : u64 (IntKind.u64.wrap x) := by
 unfold u64
 rw [IntKind.wrap_u64]
 omega
theorem i64k {x : Int} (h : -1000000000000 ≤ x ∧ x ≤ 1000000000000) : i64 x := by unfold i64; omega
theorem i64_0 : i64 0 := i64k (by decide)
theorem i64_1 : i64 1 := i64k (by decide)
theorem pick3i {x : Int} (h : 0 ≤ x ∧ x < 3) : ∃ (j : Nat) (n : Int), x = (j : Int) ∧ j < 3 ∧ i64 n ∧ #[Value.int .i64 0, .int .i64 1073741824, .int .i64 1073741825][j]? = some (.int .i64 n) := by
 obtain ⟨j, hj⟩ : ∃ j : Nat, x = (j : Int) := ⟨x.toNat, by omega⟩
 have h9 : j < 3 := by omega
 refine ⟨j, ?_⟩
 rcases (show j = 0 ∨ j = 1 ∨ j = 2 by omega) with rfl | rfl | rfl
 ·exact ⟨0, hj, h9, i64k (by decide), rfl⟩
 ·exact ⟨1073741824, hj, h9, i64k (by decide), rfl⟩
 ·exact ⟨1073741825, hj, h9, i64k (by decide), rfl⟩
theorem pick4i {x : Int} (h : 0 ≤ x ∧ x < 4) : ∃ (j : Nat) (n : Int), x = (j : Int) ∧ j < 4 ∧ i64 n ∧ #[Value.int .i64 1048576, .int .i64 1048577, .int .i64 (-1), .int .i64 5][j]? = some (.int .i64 n) := by
 obtain ⟨j, hj⟩ : ∃ j : Nat, x = (j : Int) := ⟨x.toNat, by omega⟩
 have h9 : j < 4 := by omega
 refine ⟨j, ?_⟩
 rcases (show j = 0 ∨ j = 1 ∨ j = 2 ∨ j = 3 by omega) with rfl | rfl | rfl | rfl
 ·exact ⟨1048576, hj, h9, i64k (by decide), rfl⟩
 ·exact ⟨1048577, hj, h9, i64k (by decide), rfl⟩
 ·exact ⟨-1, hj, h9, i64k (by decide), rfl⟩
 ·exact ⟨5, hj, h9, i64k (by decide), rfl⟩
theorem pick8s {x : Int} (h : 0 ≤ x ∧ x < 8) : ∃ (j : Nat) (n : ByteArray), x = (j : Int) ∧ j < 8 ∧ n.size ≤ 1000 ∧ #[Value.string ⟨#[]⟩, Value.string ⟨#[97]⟩, Value.string ⟨#[65]⟩, Value.string ⟨#[97, 45]⟩, Value.string ⟨#[45, 97]⟩, Value.string ⟨#[115, 105, 120, 116, 101, 101, 110, 45, 98, 121, 116, 101, 115, 45, 49, 54]⟩, Value.string ⟨#[115, 101, 118, 101, 110, 116, 101, 101, 110, 45, 98, 121, 116, 101, 115, 45, 55]⟩, Value.string ⟨#[97, 95]⟩][j]? = some (.string n) := by
 obtain ⟨j, hj⟩ : ∃ j : Nat, x = (j : Int) := ⟨x.toNat, by omega⟩
 have h9 : j < 8 := by omega
 refine ⟨j, ?_⟩
 rcases (show j = 0 ∨ j = 1 ∨ j = 2 ∨ j = 3 ∨ j = 4 ∨ j = 5 ∨ j = 6 ∨ j = 7 by omega) with rfl | rfl | rfl | rfl | rfl | rfl | rfl | rfl
 all_goals exact ⟨_, hj, h9, by decide, rfl⟩
theorem run_build_stroke1 (a b c d : Int) (w : World) : (Instr.build 62 #[(0, .agg #[.int .i64 a, .int .i64 b, .int .i64 c, .int .i64 d])]).run Tryz.prog w = .ok (.agg #[.int .i64 a, .int .i64 b, .int .i64 c, .int .i64 d, .slice none 0 0]) w := run_build w _ _ _ (by kernel_rfl)
theorem run_build_stroke2 (a b c d : Int) (C : Option Addr) (n k : Nat) (w : World) : (Instr.build 62 #[(0, .agg #[.int .i64 a, .int .i64 b, .int .i64 c, .int .i64 d]), (1, .slice C n k)]).run Tryz.prog w = .ok (.agg #[.int .i64 a, .int .i64 b, .int .i64 c, .int .i64 d, .slice C n k]) w := run_build w _ _ _ (by kernel_rfl)
theorem run_bs_stroke (a b c d : Int) (C : Option Addr) (n k : Nat) (w : World) : (Instr.buildSlice 28 1 #[(0, .agg #[.int .i64 a, .int .i64 b, .int .i64 c, .int .i64 d, .slice C n k])]).run Tryz.prog w = .ok (.slice (some ⟨w.heap.size, 0, none⟩) 1 1) (w.alloc (.cells #[.int .i64 a, .int .i64 b, .int .i64 c, .int .i64 d, .slice C n k] 62)) := by
 obtain ⟨x, hi, hz, hs, _⟩ := info_parts (show ((Tryz.prog).info? 62).map (fun i => (i.zero, i.size, i.bytes)) = some (some (.agg #[.int .i64 0, .int .i64 0, .int .i64 0, .int .i64 0, .slice none 0 0]), 5, 56) by kernel_rfl)
 exact run_buildSlice w _ _ 1 _ _ x _ Tryz.underlying28 hi hz (by rw [hs]; decide) (by rw [hs]; decide) (by rw [hs]; kernel_rfl)
theorem run_bs_claim (k o f t d : Int) (w : World) : (Instr.buildSlice 44 1 #[(0, .agg #[.int .i64 k, .int .i64 o, .int .i64 f, .int .i64 t, .int .i64 d])]).run Tryz.prog w = .ok (.slice (some ⟨w.heap.size, 0, none⟩) 1 1) (w.alloc (.cells #[.int .i64 k, .int .i64 o, .int .i64 f, .int .i64 t, .int .i64 d] 41)) := by
 obtain ⟨x, hi, hz, hs, _⟩ := info_parts (show ((Tryz.prog).info? 41).map (fun i => (i.zero, i.size, i.bytes)) = some (some (.agg #[.int .i64 0, .int .i64 0, .int .i64 0, .int .i64 0, .int .i64 0]), 5, 40) by kernel_rfl)
 exact run_buildSlice w _ _ 1 _ _ x _ Tryz.underlying44 hi hz (by rw [hs]; decide) (by rw [hs]; decide) (by rw [hs]; kernel_rfl)
theorem wp_make {P : Program} {op : Oper} {a : Act} {w w' : World} {K : Act → World → Prop} {Q : Exit → Act → World → Prop} (ty : TypeId) (x y : Operand) (ho : op.op = .makeSlice ty x y) (vx vy : Value) (hx : a.eval x = vx) (hy : a.eval y = vy) (v : Value) (hb : (Instr.makeSlice ty vx vy).run P w = .ok v w')
  (h : K (a.put op.dst v) w') : op.wp P a w K Q := by
 unfold Oper.wp execOp
 subst hx hy
 simp only [ho]
 simp [hb]
 exact h
theorem info_pl : ((Tryz.prog).info? 114).map (·.size) = some 6 := by kernel_rfl
theorem wpList_build_row {P : Program} {ops : Array Oper} {rest : List Oper} {op : Oper} {a : Act} {w : World} {Q : Exit → Act → World → Prop} (hgd : op.guard = none) (ty : TypeId) (ps : Array (Nat × Operand)) (ho : op.op = .build ty ps) (vs : Array (Nat × Value)) (hv : (ps.map fun (i, x) => (i, a.eval x)) = vs) (cells : Array Value) (hb : (Instr.build ty vs).run P w = .ok (.agg cells) w)
  (h : wpList P ops Q rest (a.put op.dst (.agg cells)) w) : wpList P ops Q (op :: rest) a w :=
 wpList_plain hgd fun _ hK => wp_build_row ty ps ho vs hv cells hb (hK _ _ h)
theorem tmod3 (x : Int) : -3 ≤ x.tmod 3 ∧ x.tmod 3 ≤ 3 := ⟨by have := Int.lt_tmod_of_pos x (b := 3) (by decide); omega, by have := Int.tmod_lt_of_pos x (b := 3) (by decide); omega⟩
theorem run_build_place7 (nm : ByteArray) (o t : Int) (w : World) : (Instr.build 114 #[(1, .string nm), (2, .int .i64 o), (4, .int .i64 t)]).run Tryz.prog w = .ok (.agg #[.int .i64 0, .int .i64 0, .string nm, .int .i64 o, .int .i64 0, .int .i64 t]) w := run_build w _ _ _ (by kernel_rfl)
theorem run_build_place8 (nm : ByteArray) (o f t : Int) (w : World) : (Instr.build 114 #[(1, .string nm), (2, .int .i64 o), (3, .int .i64 f), (4, .int .i64 t)]).run Tryz.prog w = .ok (.agg #[.int .i64 0, .int .i64 0, .string nm, .int .i64 o, .int .i64 f, .int .i64 t]) w := run_build w _ _ _ (by kernel_rfl)
theorem run_build_place15 (nm : ByteArray) (o : Int) (w : World) : (Instr.build 114 #[(1, .string nm), (2, .int .i64 o)]).run Tryz.prog w = .ok (.agg #[.int .i64 0, .int .i64 0, .string nm, .int .i64 o, .int .i64 0, .int .i64 0]) w := run_build w _ _ _ (by kernel_rfl)
theorem clone_below {W w8 : World} {t : TypeId} (hg : (W.alloc (.cells #[] t)).grownBy w8 (Value.slice (some ⟨W.heap.size, 0, none⟩) 0 0).ownBlock) : Below W.heap.size W w8 :=
 ((Below.refl _ _).alloc (Nat.le_refl _) _).grown hg (by simp) (fun j hj => by simp only [Value.ownBlock, Option.some.injEq] at hj; omega)
theorem clone_own {W w8 : World} {t : TypeId} {size n c : Nat} {X : Option Addr} {xs : List Value} (h : w8.ownsRow W.heap.size t size (.slice X (0 + n) c) (0 + n) ([] ++ xs)) : w8.ownsRow W.heap.size t size (.slice X n c) n xs := by
 rwa [Nat.zero_add, List.nil_append] at h
theorem pick9 {x b : Int} (h : 0 ≤ x ∧ x < 9) (hb : i64 b) : ∃ (j : Nat) (n : Int), x = (j : Int) ∧ j < 9 ∧ i64 n ∧ #[Value.int .i64 b, .int .i64 (-1), .int .i64 0, .int .i64 4095, .int .i64 4096, .int .i64 63, .int .i64 64, .int .i64 73048, .int .i64 73049][j]? = some (.int .i64 n) := by
 obtain ⟨j, hj⟩ : ∃ j : Nat, x = (j : Int) := ⟨x.toNat, by omega⟩
 have h9 : j < 9 := by omega
 refine ⟨j, ?_⟩
 rcases (show j = 0 ∨ j = 1 ∨ j = 2 ∨ j = 3 ∨ j = 4 ∨ j = 5 ∨ j = 6 ∨ j = 7 ∨ j = 8 by omega) with rfl | rfl | rfl | rfl | rfl | rfl | rfl | rfl | rfl
 ·exact ⟨b, hj, h9, hb, rfl⟩
 ·exact ⟨-1, hj, h9, by unfold i64; omega, rfl⟩
 ·exact ⟨0, hj, h9, by unfold i64; omega, rfl⟩
 ·exact ⟨4095, hj, h9, by unfold i64; omega, rfl⟩
 ·exact ⟨4096, hj, h9, by unfold i64; omega, rfl⟩
 ·exact ⟨63, hj, h9, by unfold i64; omega, rfl⟩
 ·exact ⟨64, hj, h9, by unfold i64; omega, rfl⟩
 ·exact ⟨73048, hj, h9, by unfold i64; omega, rfl⟩
 ·exact ⟨73049, hj, h9, by unfold i64; omega, rfl⟩
theorem SZ.fin {w wr : World} {S Z : Nat} {p : Pa} {a : Pw} (h : SZ w wr S Z p a) : PB (wr.setRow Z (paC p a)) p a ∧ Below w.heap.size w (wr.setRow Z (paC p a)) ∧ Bk (wr.setRow Z (paC p a)) Z 34 (paC p a) :=
 ⟨h.pb.grown (grown_row9 _ _ _) (fun r e => by cases e; exact ⟨_, _, h.z, by decide⟩), h.b.grown (grown_row9 _ _ _) h.b.size (fun r e => by cases e; exact h.lt.2.1), h.z.row _⟩
theorem pq_le {N E : Nat} {p : Pa} (h : PQ N E p) : PQ (N + 1) (2 * E + 1) p := ⟨h.w, by have := h.n; omega, by have := h.s; omega, h.c, by have := h.l; omega, h.x, by have := h.m; omega, by have := h.e; omega, by have := h.d; omega, by have := h.r; omega⟩
theorem flat_atS {α β : Type} {f : α → List β} {k : Nat} (h : ∀ x, (f x).length = k) : ∀ (l : List α) (i r : Nat) (t : α), l[i]? = some t → r < k → (l.flatMap f)[i * k + r]? = (f t)[r]?
 | [], i, r, t, e, _ => by simp at e
 | u :: l, 0, r, t, e, hr => by
  obtain rfl : u = t := by simpa using e
  rw [List.flatMap_cons, Nat.zero_mul, Nat.zero_add, List.getElem?_append_left (by rw [h]; exact hr)]
 | u :: l, i + 1, r, t, e, hr => by
  have := flat_atS h l i r t (by simpa using e) hr
  rw [List.flatMap_cons, List.getElem?_append_right (by rw [h, Nat.succ_mul]; omega), h, show (i + 1) * k + r - k = i * k + r by rw [Nat.succ_mul]; omega, this]
theorem made_flat {α : Type} {f : α → List Value} {t : α} {z : Array Value} {k : Nat} (hz : z.toList = f t) (h : ∀ x, (f x).length = k) (hk : 0 < k) (n : Nat) : madeCells z (n * k) = ((List.replicate n t).flatMap f).toArray := by
 have hs : z.size = k := by rw [← Array.length_toList, hz, h]
 apply Array.ext_getElem?
 intro j
 by_cases hj : j < n * k
 ·have hd : j / k < n := (Nat.div_lt_iff_lt_mul hk).2 hj
  have hm : j % k < k := Nat.mod_lt _ hk
  have e := flat_atS h (List.replicate n t) (j / k) (j % k) t (by rw [List.getElem?_replicate, if_pos hd]) hm
  rw [show j / k * k + j % k = j by rw [Nat.mul_comm]; exact Nat.div_add_mod j k, ← hz] at e
  have e3 : (((List.replicate n t).flatMap f).toArray)[j]? = ((List.replicate n t).flatMap f)[j]? := by simp
  rw [e3, e]
  have hm2 : j % z.size < z.size := by rw [hs]; exact hm
  simp [madeCells, hj, hs, hm]
 ·rw [Array.getElem?_eq_none (by rw [size_madeCells]; omega), Array.getElem?_eq_none (by rw [List.size_toArray, flat_lenS h, List.length_replicate]; omega)]
def clZ : Cl := ⟨0, 0, 0, 0, 0⟩
def plZ : Plc := ⟨0, 0, ⟨#[]⟩, 0, 0, 0⟩
theorem run_make_claims (k : Nat) (hk : k ≤ 100) (w : World) : (Instr.makeSlice 44 (.int .i64 (k : Int)) (.int .i64 (k : Int))).run Tryz.prog w = .ok (.slice (some ⟨w.heap.size, 0, none⟩) k k) (w.alloc (.cells ((List.replicate k clZ).flatMap clC).toArray 41)) := by
 obtain ⟨i, hi, hz, hs, hb⟩ := info_parts (show ((Tryz.prog).info? 41).map (fun i => (i.zero, i.size, i.bytes)) = some (some (.agg #[.int .i64 0, .int .i64 0, .int .i64 0, .int .i64 0, .int .i64 0]), 5, 40) by kernel_rfl)
 have hr := run_make (P := Tryz.prog) w 44 41 i _ Tryz.underlying44 hi hz .i64 .i64 k k (by omega) (Int.le_refl _) (by rw [hb]; omega) (by omega)
 simp only [Int.toNat_natCast, hs] at hr
 have e2 : madeCells (Value.agg #[.int .i64 0, .int .i64 0, .int .i64 0, .int .i64 0, .int .i64 0]).cells (k * 5) = _ := made_flat (f := clC) (t := clZ) (k := 5) rfl (fun _ => rfl) (by decide) k
 rw [e2] at hr
 exact hr
theorem run_make_places (k : Nat) (hk : k ≤ 10000) (w : World) : (Instr.makeSlice 29 (.int .i64 (k : Int)) (.int .i64 (k : Int))).run Tryz.prog w = .ok (.slice (some ⟨w.heap.size, 0, none⟩) k k) (w.alloc (.cells ((List.replicate k plZ).flatMap plC).toArray 114)) := by
 obtain ⟨i, hi, hz, hs, hb⟩ := info_parts (show ((Tryz.prog).info? 114).map (fun i => (i.zero, i.size, i.bytes)) = some (some (.agg #[.int .i64 0, .int .i64 0, .string ⟨#[]⟩, .int .i64 0, .int .i64 0, .int .i64 0]), 6, 56) by kernel_rfl)
 have hr := run_make (P := Tryz.prog) w 29 114 i _ Tryz.underlying29 hi hz .i64 .i64 k k (by omega) (Int.le_refl _) (by rw [hb]; omega) (by omega)
 simp only [Int.toNat_natCast, hs] at hr
 have e2 : madeCells (Value.agg #[.int .i64 0, .int .i64 0, .string ⟨#[]⟩, .int .i64 0, .int .i64 0, .int .i64 0]).cells (k * 6) = _ := made_flat (f := plC) (t := plZ) (k := 6) rfl (fun _ => rfl) (by decide) k
 rw [e2] at hr
 exact hr
theorem set6 : ∀ (pl : List Plc) (i : Nat) (q : Plc), i < pl.length → ((((((pl.flatMap plC).set (i * 6) (.int .i64 q.x)).set (i * 6 + 1) (.int .i64 q.y)).set (i * 6 + 2) (.string q.nm)).set (i * 6 + 3) (.int .i64 q.office)).set (i * 6 + 4) (.int .i64 q.fr)).set (i * 6 + 5) (.int .i64 q.til) = (pl.set i q).flatMap plC
 | [], i, q, h => by simp at h
 | u :: l, 0, q, _ => by simp [List.flatMap_cons, plC]
 | u :: l, i + 1, q, h => by
  have := set6 l i q (by simpa using h)
  have k : ∀ (x : List Value) (r : Nat) (v : Value), (plC u ++ x).set ((i + 1) * 6 + r) v = plC u ++ x.set (i * 6 + r) v := fun x r v => by
   rw [List.set_append_right _ _ (by show 6 ≤ _; omega)]
   congr 2
   show (i + 1) * 6 + r - 6 = _
   omega
  have k0 : ∀ (x : List Value) (v : Value), (plC u ++ x).set ((i + 1) * 6) v = plC u ++ x.set (i * 6) v := fun x v => k x 0 v
  rw [List.set_cons_succ, List.flatMap_cons, List.flatMap_cons, ← this]
  rw [k0, k, k, k, k, k]
theorem SZ.pset {w wr : World} {S Z G i : Nat} {p : Pa} {a : Pw} {pl : List Plc} (h : SZ w wr S Z ⟨p.office, p.num, p.needs, p.st, pl, p.ma, p.er, p.dr, p.rt⟩ a) (hG : Bk wr G 114 (pl.flatMap plC).toArray) (ha : a.l = some ⟨G, 0, none⟩) (hg : w.heap.size ≤ G) (hi : i < pl.length) (q : Plc) :
  SZ w (wr.setCells G (i * 6) [.int .i64 q.x, .int .i64 q.y, .string q.nm, .int .i64 q.office, .int .i64 q.fr, .int .i64 q.til]) S Z ⟨p.office, p.num, p.needs, p.st, pl.set i q, p.ma, p.er, p.dr, p.rt⟩ a ∧ Bk (wr.setCells G (i * 6) [.int .i64 q.x, .int .i64 q.y, .string q.nm, .int .i64 q.office, .int .i64 q.fr, .int .i64 q.til]) G 114 ((pl.set i q).flatMap plC).toArray := by
 have hgr : wr.grownBy (wr.setCells G (i * 6) [.int .i64 q.x, .int .i64 q.y, .string q.nm, .int .i64 q.office, .int .i64 q.fr, .int .i64 q.til]) (some G) :=
  grown_trans (grown_trans (grown_trans (grown_trans (grown_trans (grown_set wr G (i * 6) (.int .i64 q.x)) (grown_set _ G (i * 6 + 1) (.int .i64 q.y))) (grown_set _ G (i * 6 + 2) (.string q.nm))) (grown_set _ G (i * 6 + 3) (.int .i64 q.office))) (grown_set _ G (i * 6 + 4) (.int .i64 q.fr))) (grown_set _ G (i * 6 + 5) (.int .i64 q.til))
 have hG2 : Bk (wr.setCells G (i * 6) [.int .i64 q.x, .int .i64 q.y, .string q.nm, .int .i64 q.office, .int .i64 q.fr, .int .i64 q.til]) G 114 ((pl.set i q).flatMap plC).toArray := by
  have e := (((((hG.set_ (i * 6) (.int .i64 q.x)).set_ (i * 6 + 1) (.int .i64 q.y)).set_ (i * 6 + 2) (.string q.nm)).set_ (i * 6 + 3) (.int .i64 q.office)).set_ (i * 6 + 4) (.int .i64 q.fr)).set_ (i * 6 + 5) (.int .i64 q.til)
  simp only [List.setIfInBounds_toArray] at e
  rw [set6 pl i q hi] at e
  exact e
 have k : ∀ t, t ≠ 114 → ∀ r, some G = some r → ∃ t' cs, Bk wr r t' cs ∧ t' ≠ t := fun t ht r e => by cases e; exact ⟨_, _, hG, fun e => ht e.symm⟩
 obtain ⟨vs, h1, h2⟩ := h.pb.s
 have ec : paC ⟨p.office, p.num, p.needs, p.st, pl.set i q, p.ma, p.er, p.dr, p.rt⟩ a = paC ⟨p.office, p.num, p.needs, p.st, pl, p.ma, p.er, p.dr, p.rt⟩ a := by simp [paC]
 refine ⟨⟨ec ▸ h.s.grown hgr (fun e => h.s.ne_ hG (by decide) (Option.some.inj e)), h.z.grown hgr (fun e => h.z.ne_ hG (by decide) (Option.some.inj e)), h.lt, ⟨h.pb.n.grown hgr (k _ (by decide)), ⟨vs, h1.grown hgr (k _ (by decide)), h2.grown hgr (k _ (by decide))⟩, ?_, h.pb.m.grown hgr (k _ (by decide)), h.pb.e.grown hgr (k _ (by decide)), h.pb.d.grown hgr (k _ (by decide)), h.pb.r.grown hgr (k _ (by decide))⟩, h.b.grown hgr h.b.size (fun j hj => by cases hj; exact hg)⟩, hG2⟩
 rw [ha]
 exact SB.bk hG2
set_option linter.unusedSimpArgs false in
set_option maxHeartbeats 32000000 in
set_option maxRecDepth 100000 in
theorem spoilt_any (N E : Nat) (p : Pa) (a : Pw) (at_ how by_ : Int) (w : World) (h : PB w p a) (hq : PQ N E p) (hN : 4098 ≤ N) (hN2 : N ≤ 9000) (hE : E ≤ 4000) (hat : i64 at_) (hho : i64 how) (hby : i64 by_) :
  Calls Tryz.prog 41 #[.agg (paC p a), .int .i64 at_, .int .i64 how, .int .i64 by_] w fun e w' => ∃ p' a', e = .returned (.agg (paC p' a')) ∧ PB w' p' a' ∧ PQ (N + 1) (2 * E + 1) p' ∧ Below w.heap.size w w' := by
 have HS := Lib.hid (show SX w ((w.alloc (.cells #[.int .i64 p.office, .int .i64 p.num, .slice a.n p.needs.length a.cn, .slice a.s p.st.length a.cs, .slice a.l p.pl.length a.cl, .slice a.m p.ma.length a.cm, .slice a.e p.er.length a.ce, .slice a.d p.dr.length a.cd, .slice a.r p.rt.length a.cr] 34)).alloc (.cells #[.int .i64 0, .int .i64 0, .slice none 0 0, .slice none 0 0, .slice none 0 0, .slice none 0 0, .slice none 0 0, .slice none 0 0, .slice none 0 0] 34)) w.heap.size (w.heap.size + 1) 0 p a from
  have hb := ((Below.refl w.heap.size w).alloc (Nat.le_refl _) (.cells #[.int .i64 p.office, .int .i64 p.num, .slice a.n p.needs.length a.cn, .slice a.s p.st.length a.cs, .slice a.l p.pl.length a.cl, .slice a.m p.ma.length a.cm, .slice a.e p.er.length a.ce, .slice a.d p.dr.length a.cd, .slice a.r p.rt.length a.cr] 34)).alloc (by simp) (.cells #[.int .i64 0, .int .i64 0, .slice none 0 0, .slice none 0 0, .slice none 0 0, .slice none 0 0, .slice none 0 0, .slice none 0 0, .slice none 0 0] 34)
  ⟨(Bk.new w _ _).alloc _, Bk.new' _ _ _ (by simp), ⟨Nat.le_refl _, by omega, by omega⟩, ⟨h.below hb, fun q => absurd q (by omega), fun q => absurd q (by omega), fun q => absurd q (by omega), fun q => absurd q (by omega), fun q => absurd q (by omega), fun q => absurd q (by omega), fun q => absurd q (by omega), fun q => absurd q (by omega)⟩, hb⟩)
 have HA9 := Lib.hid (fun W => around_any at_ 9 W hat.1 hat.2 (by decide) (by decide))
 have HA16 := Lib.hid (fun W => around_any how 16 W hho.1 hho.2 (by decide) (by decide))
 have HAb := Lib.hid (fun (m : Int) (h1 : 1 ≤ m) (h2 : m ≤ 9223372036854775807) W => around_any by_ m W hby.1 hby.2 h1 h2)
 have hr9 := around_bd at_ 9 (by decide)
 have hr16 := around_bd how 16 (by decide)
 obtain ⟨r, hr⟩ : ∃ z, Hid (around how 16 = z) := ⟨_, Lib.hid rfl⟩
 rw [hr.out] at HA16 hr16
 obtain ⟨x9, hx9⟩ : ∃ z, Hid (around at_ 9 = z) := ⟨_, Lib.hid rfl⟩
 rw [hx9.out] at HA9 hr9
 obtain ⟨j9, n, rfl, hj9, hn, hcl9⟩ := pick9 hr9 hby
 have Hcl9 := Lib.hid hcl9
 have Hn := Lib.hid hn
 have Hby := Lib.hid hby
 have Hq := Lib.hid hq
 have hln := hq.n
 have hls := hq.s
 have hll := hq.l
 have hlm := hq.m
 have hle := hq.e
 have hld := hq.d
 have hlr := hq.r
 clear h hq hat hho hby hr9 hcl9 hn hr hx9
 show Calls Tryz.prog 41 #[.agg #[.int .i64 p.office, .int .i64 p.num, .slice a.n p.needs.length a.cn, .slice a.s p.st.length a.cs, .slice a.l p.pl.length a.cl, .slice a.m p.ma.length a.cm, .slice a.e p.er.length a.ce, .slice a.d p.dr.length a.cd, .slice a.r p.rt.length a.cr], .int .i64 at_, .int .i64 how, .int .i64 by_] w _
 go_enter Tryz.func41, Tryz.ntmps41
 go_upto_region 1 with fail
 generalize (w.alloc (.cells #[.int .i64 p.office, .int .i64 p.num, .slice a.n p.needs.length a.cn, .slice a.s p.st.length a.cs, .slice a.l p.pl.length a.cl, .slice a.m p.ma.length a.cm, .slice a.e p.er.length a.ce, .slice a.d p.dr.length a.cd, .slice a.r p.rt.length a.cr] 34)).alloc (.cells #[.int .i64 0, .int .i64 0, .slice none 0 0, .slice none 0 0, .slice none 0 0, .slice none 0 0, .slice none 0 0, .slice none 0 0, .slice none 0 0] 34) = W0 at *
 obtain ⟨S, hS⟩ : ∃ z, Hid (w.heap.size = z) := ⟨_, Lib.hid rfl⟩
 obtain ⟨Z, hZ⟩ : ∃ z, Hid (S + 1 = z) := ⟨_, Lib.hid rfl⟩
 have HS0 := Lib.hid (show SX w W0 S Z 0 p a from by rw [← hZ.out, ← hS.out]; exact HS.out)
 clear HS
 simp only [hS.out, hZ.out]
 clear hS hZ
 have hB_ := (SL.below HS0.out.r.pb.n.sl ((Below.refl W0.heap.size W0).alloc (Nat.le_refl _) (.cells #[] 53)))
 have hl_ : (p.needs.map (Value.int .u64)).length = p.needs.length * 1 := by simp
 have h1_ : (p.needs.map (Value.int .u64)).all (·.oneCell') = true := by simp [Value.oneCell']
 have c_ : (W0.alloc (.cells #[] 53)).cell? ⟨S, 2, none⟩ = some (.slice a.n p.needs.length a.cn) := (HS0.out.s.alloc _).cell 2
 have hz_ := Nat.le_refl W0.heap.size
 go_upto_region 2 with (at_builtin; refine wpList_appM' (w := W0.alloc (.cells #[] 53)) (base := W0.heap.size) (us := p.needs.map (Value.int .u64)) (xs := []) (n := 0) (m := p.needs.length) (B := a.n) (c := a.cn) (v := .slice (some ⟨W0.heap.size, 0, none⟩) 0 0) rfl _ _ rfl elt_u64' (own_void8 (Bk.new W0 _ _) hz_) (by simp) rfl rfl hB_ hl_ h1_ (by omega) ?_; intro v8 w8 hown8 hg8; obtain ⟨X0, c0, rfl⟩ := own_slice hown8; have hb8 := clone_below hg8; have e3 : w8.cell? ⟨S, 2, none⟩ = some (.slice a.n p.needs.length a.cn) := (HS0.out.s.below hb8 HS0.out.s.lt).cell 2; have e4 := (HS0.out.s.below hb8 HS0.out.s.lt).frozen 2; have hown9 := clone_own hown8; rw [Nat.zero_add])
 have HS1 := Lib.hid (HS0.out.cl (j := 2) (v := .slice X0 p.needs.length c0) hb8 (HS0.out.r.clone0 hb8 HS0.out.b.size hown9) rfl)
 clear HS0 hown8 hown9 hg8 hb8 e3 e4 c_ hB_ hl_ h1_ hz_
 generalize w8.setCell ⟨S, 2, none⟩ (.slice X0 p.needs.length c0) = W1 at *
 obtain ⟨vs, hsb, hsv⟩ := HS1.out.r.pb.s
 have Hsv := Lib.hid hsv
 have hB_ := (SL.below hsb.sl ((Below.refl W1.heap.size W1).alloc (Nat.le_refl _) (.cells #[] 62)))
 have hl_ := hsv.1
 have h1_ := sv_one hsv
 have c_ : (W1.alloc (.cells #[] 62)).cell? ⟨S, 3, none⟩ = some (.slice a.s p.st.length a.cs) := (HS1.out.s.alloc _).cell 3
 have hz_ := Nat.le_refl W1.heap.size
 go_upto_region 3 with (at_builtin; refine wpList_appM' (w := W1.alloc (.cells #[] 62)) (base := W1.heap.size) (us := vs) (xs := []) (n := 0) (m := p.st.length) (B := a.s) (c := a.cs) (v := .slice (some ⟨W1.heap.size, 0, none⟩) 0 0) rfl _ _ rfl elt_stroke (own_void8 (Bk.new W1 _ _) hz_) (by simp) rfl rfl hB_ hl_ h1_ (by omega) ?_; intro v8 w8 hown8 hg8; obtain ⟨X1, c1, rfl⟩ := own_slice hown8; have hb8 := clone_below hg8; have e3 : w8.cell? ⟨S, 3, none⟩ = some (.slice a.s p.st.length a.cs) := (HS1.out.s.below hb8 HS1.out.s.lt).cell 3; have e4 := (HS1.out.s.below hb8 HS1.out.s.lt).frozen 3; have hown9 := clone_own hown8; rw [Nat.zero_add])
 have HS2 := Lib.hid (HS1.out.cl (j := 3) (v := .slice X1 p.st.length c1) hb8 (HS1.out.r.clone1 hb8 HS1.out.b.size hown9 Hsv.out) rfl)
 clear HS1 hown8 hown9 hg8 hb8 e3 e4 c_ hB_ hl_ h1_ hz_ hsb hsv Hsv
 generalize w8.setCell ⟨S, 3, none⟩ (.slice X1 p.st.length c1) = W2 at *
 have hB_ := (SL.below HS2.out.r.pb.l.sl ((Below.refl W2.heap.size W2).alloc (Nat.le_refl _) (.cells #[] 114)))
 have hl_ : (p.pl.flatMap plC).length = p.pl.length * 6 := flat_lenS (f := plC) (k := 6) (fun _ => rfl) _
 have h1_ : (p.pl.flatMap plC).all (·.oneCell') = true := flat_oneS (f := plC) (fun _ => rfl) _
 have c_ : (W2.alloc (.cells #[] 114)).cell? ⟨S, 4, none⟩ = some (.slice a.l p.pl.length a.cl) := (HS2.out.s.alloc _).cell 4
 have hz_ := Nat.le_refl W2.heap.size
 go_upto_region 4 with (at_builtin; refine wpList_appM' (w := W2.alloc (.cells #[] 114)) (base := W2.heap.size) (us := p.pl.flatMap plC) (xs := []) (n := 0) (m := p.pl.length) (B := a.l) (c := a.cl) (v := .slice (some ⟨W2.heap.size, 0, none⟩) 0 0) rfl _ _ rfl elt_place (own_void8 (Bk.new W2 _ _) hz_) (by simp) rfl rfl hB_ hl_ h1_ (by omega) ?_; intro v8 w8 hown8 hg8; obtain ⟨X2, c2, rfl⟩ := own_slice hown8; have hb8 := clone_below hg8; have e3 : w8.cell? ⟨S, 4, none⟩ = some (.slice a.l p.pl.length a.cl) := (HS2.out.s.below hb8 HS2.out.s.lt).cell 4; have e4 := (HS2.out.s.below hb8 HS2.out.s.lt).frozen 4; have hown9 := clone_own hown8; rw [Nat.zero_add])
 have HS3 := Lib.hid (HS2.out.cl (j := 4) (v := .slice X2 p.pl.length c2) hb8 (HS2.out.r.clone2 hb8 HS2.out.b.size hown9) rfl)
 clear HS2 hown8 hown9 hg8 hb8 e3 e4 c_ hB_ hl_ h1_ hz_
 generalize w8.setCell ⟨S, 4, none⟩ (.slice X2 p.pl.length c2) = W3 at *
 have hB_ := (SL.below HS3.out.r.pb.m.sl ((Below.refl W3.heap.size W3).alloc (Nat.le_refl _) (.cells #[] 88)))
 have hl_ : (p.ma.flatMap mkC).length = p.ma.length * 7 := flat_lenS (f := mkC) (k := 7) (fun _ => rfl) _
 have h1_ : (p.ma.flatMap mkC).all (·.oneCell') = true := flat_oneS (f := mkC) (fun _ => rfl) _
 have c_ : (W3.alloc (.cells #[] 88)).cell? ⟨S, 5, none⟩ = some (.slice a.m p.ma.length a.cm) := (HS3.out.s.alloc _).cell 5
 have hz_ := Nat.le_refl W3.heap.size
 go_upto_region 5 with (at_builtin; refine wpList_appM' (w := W3.alloc (.cells #[] 88)) (base := W3.heap.size) (us := p.ma.flatMap mkC) (xs := []) (n := 0) (m := p.ma.length) (B := a.m) (c := a.cm) (v := .slice (some ⟨W3.heap.size, 0, none⟩) 0 0) rfl _ _ rfl elt_mark (own_void8 (Bk.new W3 _ _) hz_) (by simp) rfl rfl hB_ hl_ h1_ (by omega) ?_; intro v8 w8 hown8 hg8; obtain ⟨X3, c3, rfl⟩ := own_slice hown8; have hb8 := clone_below hg8; have e3 : w8.cell? ⟨S, 5, none⟩ = some (.slice a.m p.ma.length a.cm) := (HS3.out.s.below hb8 HS3.out.s.lt).cell 5; have e4 := (HS3.out.s.below hb8 HS3.out.s.lt).frozen 5; have hown9 := clone_own hown8; rw [Nat.zero_add])
 have HS4 := Lib.hid (HS3.out.cl (j := 5) (v := .slice X3 p.ma.length c3) hb8 (HS3.out.r.clone3 hb8 HS3.out.b.size hown9) rfl)
 clear HS3 hown8 hown9 hg8 hb8 e3 e4 c_ hB_ hl_ h1_ hz_
 generalize w8.setCell ⟨S, 5, none⟩ (.slice X3 p.ma.length c3) = W4 at *
 have hB_ := (SL.below HS4.out.r.pb.e.sl ((Below.refl W4.heap.size W4).alloc (Nat.le_refl _) (.cells #[] 77)))
 have hl_ : (idC p.er).length = p.er.length * 2 := idC_len _
 have h1_ : (idC p.er).all (·.oneCell') = true := by unfold idC; exact flat_oneS (f := fun t : Int × Int => [Value.int .u64 t.1, Value.int .i64 t.2]) (fun _ => rfl) _
 have c_ : (W4.alloc (.cells #[] 77)).cell? ⟨S, 6, none⟩ = some (.slice a.e p.er.length a.ce) := (HS4.out.s.alloc _).cell 6
 have hz_ := Nat.le_refl W4.heap.size
 go_upto_region 6 with (at_builtin; refine wpList_appM' (w := W4.alloc (.cells #[] 77)) (base := W4.heap.size) (us := idC p.er) (xs := []) (n := 0) (m := p.er.length) (B := a.e) (c := a.ce) (v := .slice (some ⟨W4.heap.size, 0, none⟩) 0 0) rfl _ _ rfl elt_id (own_void8 (Bk.new W4 _ _) hz_) (by simp) rfl rfl hB_ hl_ h1_ (by omega) ?_; intro v8 w8 hown8 hg8; obtain ⟨X4, c4, rfl⟩ := own_slice hown8; have hb8 := clone_below hg8; have e3 : w8.cell? ⟨S, 6, none⟩ = some (.slice a.e p.er.length a.ce) := (HS4.out.s.below hb8 HS4.out.s.lt).cell 6; have e4 := (HS4.out.s.below hb8 HS4.out.s.lt).frozen 6; have hown9 := clone_own hown8; rw [Nat.zero_add])
 have HS5 := Lib.hid (HS4.out.cl (j := 6) (v := .slice X4 p.er.length c4) hb8 (HS4.out.r.clone4 hb8 HS4.out.b.size hown9) rfl)
 clear HS4 hown8 hown9 hg8 hb8 e3 e4 c_ hB_ hl_ h1_ hz_
 generalize w8.setCell ⟨S, 6, none⟩ (.slice X4 p.er.length c4) = W5 at *
 have hB_ := (SL.below HS5.out.r.pb.d.sl ((Below.refl W5.heap.size W5).alloc (Nat.le_refl _) (.cells #[] 77)))
 have hl_ : (idC p.dr).length = p.dr.length * 2 := idC_len _
 have h1_ : (idC p.dr).all (·.oneCell') = true := by unfold idC; exact flat_oneS (f := fun t : Int × Int => [Value.int .u64 t.1, Value.int .i64 t.2]) (fun _ => rfl) _
 have c_ : (W5.alloc (.cells #[] 77)).cell? ⟨S, 7, none⟩ = some (.slice a.d p.dr.length a.cd) := (HS5.out.s.alloc _).cell 7
 have hz_ := Nat.le_refl W5.heap.size
 go_upto_region 7 with (at_builtin; refine wpList_appM' (w := W5.alloc (.cells #[] 77)) (base := W5.heap.size) (us := idC p.dr) (xs := []) (n := 0) (m := p.dr.length) (B := a.d) (c := a.cd) (v := .slice (some ⟨W5.heap.size, 0, none⟩) 0 0) rfl _ _ rfl elt_id (own_void8 (Bk.new W5 _ _) hz_) (by simp) rfl rfl hB_ hl_ h1_ (by omega) ?_; intro v8 w8 hown8 hg8; obtain ⟨X5, c5, rfl⟩ := own_slice hown8; have hb8 := clone_below hg8; have e3 : w8.cell? ⟨S, 7, none⟩ = some (.slice a.d p.dr.length a.cd) := (HS5.out.s.below hb8 HS5.out.s.lt).cell 7; have e4 := (HS5.out.s.below hb8 HS5.out.s.lt).frozen 7; have hown9 := clone_own hown8; rw [Nat.zero_add])
 have HS6 := Lib.hid (HS5.out.cl (j := 7) (v := .slice X5 p.dr.length c5) hb8 (HS5.out.r.clone5 hb8 HS5.out.b.size hown9) rfl)
 clear HS5 hown8 hown9 hg8 hb8 e3 e4 c_ hB_ hl_ h1_ hz_
 generalize w8.setCell ⟨S, 7, none⟩ (.slice X5 p.dr.length c5) = W6 at *
 have hB_ := (SL.below HS6.out.r.pb.r.sl ((Below.refl W6.heap.size W6).alloc (Nat.le_refl _) (.cells #[] 92)))
 have hl_ : (p.rt.flatMap fun t => [Value.int .i64 t.1, Value.int .i64 t.2]).length = p.rt.length * 2 := flat_lenS (f := fun t : Int × Int => [Value.int .i64 t.1, Value.int .i64 t.2]) (k := 2) (fun _ => rfl) _
 have h1_ : (p.rt.flatMap fun t => [Value.int .i64 t.1, Value.int .i64 t.2]).all (·.oneCell') = true := flat_oneS (f := fun t : Int × Int => [Value.int .i64 t.1, Value.int .i64 t.2]) (fun _ => rfl) _
 have c_ : (W6.alloc (.cells #[] 92)).cell? ⟨S, 8, none⟩ = some (.slice a.r p.rt.length a.cr) := (HS6.out.s.alloc _).cell 8
 have hz_ := Nat.le_refl W6.heap.size
 go_upto_region 8 with (at_builtin; refine wpList_appM' (w := W6.alloc (.cells #[] 92)) (base := W6.heap.size) (us := p.rt.flatMap fun t => [Value.int .i64 t.1, Value.int .i64 t.2]) (xs := []) (n := 0) (m := p.rt.length) (B := a.r) (c := a.cr) (v := .slice (some ⟨W6.heap.size, 0, none⟩) 0 0) rfl _ _ rfl elt_rt (own_void8 (Bk.new W6 _ _) hz_) (by simp) rfl rfl hB_ hl_ h1_ (by omega) ?_; intro v8 w8 hown8 hg8; obtain ⟨X6, c6, rfl⟩ := own_slice hown8; have hb8 := clone_below hg8; have e3 : w8.cell? ⟨S, 8, none⟩ = some (.slice a.r p.rt.length a.cr) := (HS6.out.s.below hb8 HS6.out.s.lt).cell 8; have e4 := (HS6.out.s.below hb8 HS6.out.s.lt).frozen 8; have hown9 := clone_own hown8; rw [Nat.zero_add])
 have HS7 := Lib.hid (HS6.out.cl (j := 8) (v := .slice X6 p.rt.length c6) hb8 (HS6.out.r.clone6 hb8 HS6.out.b.size hown9) rfl)
 clear HS6 hown8 hown9 hg8 hb8 e3 e4 c_ hB_ hl_ h1_ hz_
 generalize w8.setCell ⟨S, 8, none⟩ (.slice X6 p.rt.length c6) = W7 at *
 obtain ⟨a, HS⟩ : ∃ a, Hid (SX w W7 S Z 7 p a) := ⟨_, HS7⟩
 clear HS7
 have HE9 := Lib.hid (Bk.new W7 3 #[.int .i64 by_, .int .i64 (-1), .int .i64 0, .int .i64 4095, .int .i64 4096, .int .i64 63, .int .i64 64, .int .i64 73048, .int .i64 73049])
 have HS8 := Lib.hid (HS.out.alloc (.cells #[.int .i64 by_, .int .i64 (-1), .int .i64 0, .int .i64 4095, .int .i64 4096, .int .i64 63, .int .i64 64, .int .i64 73048, .int .i64 73049] 3))
 clear HS
 have HS := HS8
 clear HS8
 go_upto_region 9 with fail
 generalize W7.alloc (.cells #[.int .i64 by_, .int .i64 (-1), .int .i64 0, .int .i64 4095, .int .i64 4096, .int .i64 63, .int .i64 64, .int .i64 73048, .int .i64 73049] 3) = WR at *
 generalize W7.heap.size = G9 at *
 have cg : WR.cell? ⟨G9, j9, none⟩ = some (.int .i64 n) := (HE9.out.cell j9).trans Hcl9.out
 have hj9b : ¬ ((9 : Int) ≤ (j9 : Int)) := by omega
 go_wp2_with fail
 refine (HA9.out _).mono ?_
 rintro e w9 ⟨rfl, rfl⟩
 go_upto_region 10 with fail
 clear cg HE9 Hcl9 hj9 hj9b HA9
 go_wp2_with fail
 refine (HA16.out _).mono ?_
 rintro e w9 ⟨rfl, rfl⟩
 clear HA16
 have hpb := HS.out.r.pb
 have Hpb := Lib.hid hpb
 clear hpb
 have HSz : Hid (w.heap.size ≤ WR.heap.size) := Lib.hid HS.out.b.size
 go_upto_if 75 with fail
 by_cases h_0 : r = 0
 ·subst h_0
  have c0 : WR.cell? ⟨S, 0, none⟩ = some (.int .i64 p.office) := HS.out.s.cell 0
  have f_ := HS.out.s.frozen 0
  go_upto_region 49 with fail
  have HF : ∃ p' a', Hid (SZ w (WR.setCell ⟨S, 0, none⟩ (.int .i64 n)) S Z p' a') ∧ Hid (PQ (N + 1) (2 * E + 1) p') := ⟨_, _, Lib.hid (HS.out.set_ (p' := ⟨n, p.num, p.needs, p.st, p.pl, p.ma, p.er, p.dr, p.rt⟩) (a' := a) ⟨Hpb.out.n, Hpb.out.s, Hpb.out.l, Hpb.out.m, Hpb.out.e, Hpb.out.d, Hpb.out.r⟩ rfl), Lib.hid (have q := pq_le Hq.out; ⟨⟨Hn.out, q.w.k, q.w.n, q.w.s, q.w.l, q.w.m, q.w.e, q.w.d, q.w.r⟩, q.n, q.s, q.c, q.l, q.x, q.m, q.e, q.d, q.r⟩)⟩
  generalize WR.setCell ⟨S, 0, none⟩ (.int .i64 n) = WF at *
  clear c0 f_
  obtain ⟨p', a', HZ, HQ⟩ := HF
  refine wp_region_lit ?_
  refine wpList_load_row rfl 34 (.tmp 4) rfl S 34 (paC p' a') _ rfl HZ.out.s Tryz.underlying34 rfl info_pa ?_
  refine wpList_store_row rfl 34 (.tmp 8) (.tmp 265) rfl Z 34 _ (paC p' a') rfl (by rfl) HZ.out.z info_pa rfl (paC_one _ _) ?_
  obtain ⟨hf1, hf2, hf3⟩ := HZ.out.fin
  have Hf1 := Lib.hid hf1
  have Hf2 := Lib.hid hf2
  have r0_ := hf3.cell 0
  have r1_ := hf3.cell 1
  have r2_ := hf3.cell 2
  have r3_ := hf3.cell 3
  have r4_ := hf3.cell 4
  have r5_ := hf3.cell 5
  have r6_ := hf3.cell 6
  have r7_ := hf3.cell 7
  have r8_ := hf3.cell 8
  clear hf1 hf2 hf3 HZ
  generalize World.setRow _ _ _ = WE at *
  go_wp2_with fail
  exact bodyPost_ret (v := .agg (paC p' a')) (by simp [results, Tryz.results41, go_sem, paC, r0_, r1_, r2_, r3_, r4_, r5_, r6_, r7_, r8_]) rfl ⟨p', a', rfl, Hf1.out, HQ.out, Hf2.out⟩
 go_upto_if 79 with fail
 by_cases h_1 : r = 1
 ·subst h_1
  have c1 : WR.cell? ⟨S, 1, none⟩ = some (.int .i64 p.num) := HS.out.s.cell 1
  have f_ := HS.out.s.frozen 1
  go_upto_region 49 with fail
  have HF : ∃ p' a', Hid (SZ w (WR.setCell ⟨S, 1, none⟩ (.int .i64 n)) S Z p' a') ∧ Hid (PQ (N + 1) (2 * E + 1) p') := ⟨_, _, Lib.hid (HS.out.set_ (p' := ⟨p.office, n, p.needs, p.st, p.pl, p.ma, p.er, p.dr, p.rt⟩) (a' := a) ⟨Hpb.out.n, Hpb.out.s, Hpb.out.l, Hpb.out.m, Hpb.out.e, Hpb.out.d, Hpb.out.r⟩ rfl), Lib.hid (have q := pq_le Hq.out; ⟨⟨q.w.o, Hn.out, q.w.n, q.w.s, q.w.l, q.w.m, q.w.e, q.w.d, q.w.r⟩, q.n, q.s, q.c, q.l, q.x, q.m, q.e, q.d, q.r⟩)⟩
  generalize WR.setCell ⟨S, 1, none⟩ (.int .i64 n) = WF at *
  clear c1 f_
  obtain ⟨p', a', HZ, HQ⟩ := HF
  refine wp_region_lit ?_
  refine wpList_load_row rfl 34 (.tmp 4) rfl S 34 (paC p' a') _ rfl HZ.out.s Tryz.underlying34 rfl info_pa ?_
  refine wpList_store_row rfl 34 (.tmp 8) (.tmp 265) rfl Z 34 _ (paC p' a') rfl (by rfl) HZ.out.z info_pa rfl (paC_one _ _) ?_
  obtain ⟨hf1, hf2, hf3⟩ := HZ.out.fin
  have Hf1 := Lib.hid hf1
  have Hf2 := Lib.hid hf2
  have r0_ := hf3.cell 0
  have r1_ := hf3.cell 1
  have r2_ := hf3.cell 2
  have r3_ := hf3.cell 3
  have r4_ := hf3.cell 4
  have r5_ := hf3.cell 5
  have r6_ := hf3.cell 6
  have r7_ := hf3.cell 7
  have r8_ := hf3.cell 8
  clear hf1 hf2 hf3 HZ
  generalize World.setRow _ _ _ = WE at *
  go_wp2_with fail
  exact bodyPost_ret (v := .agg (paC p' a')) (by simp [results, Tryz.results41, go_sem, paC, r0_, r1_, r2_, r3_, r4_, r5_, r6_, r7_, r8_]) rfl ⟨p', a', rfl, Hf1.out, HQ.out, Hf2.out⟩
 go_upto_if 83 with fail
 by_cases h_2 : r = 2
 ·subst h_2
  obtain ⟨bu, hbu⟩ : ∃ z, Hid (IntKind.u64.wrap by_ = z) := ⟨_, Lib.hid rfl⟩
  have wv := hbu.out
  have Hbu := Lib.hid (show u64 bu from hbu.out ▸ u64_wrap by_)
  have c2 : WR.cell? ⟨S, 2, none⟩ = some (.slice a.n p.needs.length a.cn) := HS.out.s.cell 2
  have hO_ := HS.out.r.n (by omega)
  have hz_ := HSz.out
  go_upto_region 49 with (at_builtin; refine wpList_app2 (w := WR) (us := [.int .u64 bu]) (xs := p.needs.map (Value.int .u64)) (n := p.needs.length) (base := w.heap.size) (v := .slice a.n p.needs.length a.cn) rfl _ _ rfl elt_u64' hO_ hz_ rfl rfl (by simp) rfl rfl (by omega) ?_; intro v8 w8 hown8 hg8 hz8; obtain ⟨X, cX, rfl⟩ := own_slice hown8; have hs8 := HS.out.s.grown hg8 (HS.out.s.ne_own hO_ (by decide)); have e3 : w8.cell? ⟨S, 2, none⟩ = some (.slice a.n p.needs.length a.cn) := hs8.cell 2; have e4 := hs8.frozen 2)
  have HF : ∃ p' a', Hid (SZ w (w8.setCell ⟨S, 2, none⟩ (.slice X (p.needs.length + 1) cX)) S Z p' a') ∧ Hid (PQ (N + 1) (2 * E + 1) p') := ⟨_, _, Lib.hid (HS.out.ap (p' := ⟨p.office, p.num, (p.needs ++ [bu]), p.st, p.pl, p.ma, p.er, p.dr, p.rt⟩) (a' := ⟨X, a.s, a.l, a.m, a.e, a.d, a.r, cX, a.cs, a.cl, a.cm, a.ce, a.cd, a.cr⟩) hO_ (by decide) hg8 (HS.out.r.app0 (ys := [bu]) (by rw [List.map_append, List.length_append]; exact hown8) hg8) (by simp [paC])), Lib.hid (have q := pq_le Hq.out; ⟨⟨q.w.o, q.w.k, (fun x hx => by rcases List.mem_append.1 hx with h | h; exact q.w.n x h; rw [List.mem_singleton.1 h]; exact Hbu.out), q.w.s, q.w.l, q.w.m, q.w.e, q.w.d, q.w.r⟩, by have := Hq.out.n; simp only [List.length_append, List.length_singleton]; omega, q.s, q.c, q.l, q.x, q.m, q.e, q.d, q.r⟩)⟩
  generalize w8.setCell ⟨S, 2, none⟩ (.slice X (p.needs.length + 1) cX) = WF at *
  clear c2 hO_ hz_ hown8 hg8 hz8 hs8 e3 e4
  obtain ⟨p', a', HZ, HQ⟩ := HF
  go_upto_region 49 with fail
  refine wp_region_lit ?_
  refine wpList_load_row rfl 34 (.tmp 4) rfl S 34 (paC p' a') _ rfl HZ.out.s Tryz.underlying34 rfl info_pa ?_
  refine wpList_store_row rfl 34 (.tmp 8) (.tmp 265) rfl Z 34 _ (paC p' a') rfl (by rfl) HZ.out.z info_pa rfl (paC_one _ _) ?_
  obtain ⟨hf1, hf2, hf3⟩ := HZ.out.fin
  have Hf1 := Lib.hid hf1
  have Hf2 := Lib.hid hf2
  have r0_ := hf3.cell 0
  have r1_ := hf3.cell 1
  have r2_ := hf3.cell 2
  have r3_ := hf3.cell 3
  have r4_ := hf3.cell 4
  have r5_ := hf3.cell 5
  have r6_ := hf3.cell 6
  have r7_ := hf3.cell 7
  have r8_ := hf3.cell 8
  clear hf1 hf2 hf3 HZ
  generalize World.setRow _ _ _ = WE at *
  go_wp2_with fail
  exact bodyPost_ret (v := .agg (paC p' a')) (by simp [results, Tryz.results41, go_sem, paC, r0_, r1_, r2_, r3_, r4_, r5_, r6_, r7_, r8_]) rfl ⟨p', a', rfl, Hf1.out, HQ.out, Hf2.out⟩
 go_upto_if 92 with fail
 by_cases h_3 : r = 3
 ·subst h_3
  have c2 : WR.cell? ⟨S, 2, none⟩ = some (.slice a.n p.needs.length a.cn) := HS.out.s.cell 2
  have f_ := HS.out.s.frozen 2
  go_upto_region 49 with fail
  have HF : ∃ p' a', Hid (SZ w (WR.setCell ⟨S, 2, none⟩ (.slice none 0 0)) S Z p' a') ∧ Hid (PQ (N + 1) (2 * E + 1) p') := ⟨_, _, Lib.hid (HS.out.set_ (p' := ⟨p.office, p.num, [], p.st, p.pl, p.ma, p.er, p.dr, p.rt⟩) (a' := ⟨none, a.s, a.l, a.m, a.e, a.d, a.r, 0, a.cs, a.cl, a.cm, a.ce, a.cd, a.cr⟩) ⟨.inl rfl, Hpb.out.s, Hpb.out.l, Hpb.out.m, Hpb.out.e, Hpb.out.d, Hpb.out.r⟩ rfl), Lib.hid (have q := pq_le Hq.out; ⟨⟨q.w.o, q.w.k, (fun x hx => by cases hx), q.w.s, q.w.l, q.w.m, q.w.e, q.w.d, q.w.r⟩, Nat.zero_le _, q.s, q.c, q.l, q.x, q.m, q.e, q.d, q.r⟩)⟩
  generalize WR.setCell ⟨S, 2, none⟩ (.slice none 0 0) = WF at *
  clear c2 f_
  obtain ⟨p', a', HZ, HQ⟩ := HF
  refine wp_region_lit ?_
  refine wpList_load_row rfl 34 (.tmp 4) rfl S 34 (paC p' a') _ rfl HZ.out.s Tryz.underlying34 rfl info_pa ?_
  refine wpList_store_row rfl 34 (.tmp 8) (.tmp 265) rfl Z 34 _ (paC p' a') rfl (by rfl) HZ.out.z info_pa rfl (paC_one _ _) ?_
  obtain ⟨hf1, hf2, hf3⟩ := HZ.out.fin
  have Hf1 := Lib.hid hf1
  have Hf2 := Lib.hid hf2
  have r0_ := hf3.cell 0
  have r1_ := hf3.cell 1
  have r2_ := hf3.cell 2
  have r3_ := hf3.cell 3
  have r4_ := hf3.cell 4
  have r5_ := hf3.cell 5
  have r6_ := hf3.cell 6
  have r7_ := hf3.cell 7
  have r8_ := hf3.cell 8
  clear hf1 hf2 hf3 HZ
  generalize World.setRow _ _ _ = WE at *
  go_wp2_with fail
  exact bodyPost_ret (v := .agg (paC p' a')) (by simp [results, Tryz.results41, go_sem, paC, r0_, r1_, r2_, r3_, r4_, r5_, r6_, r7_, r8_]) rfl ⟨p', a', rfl, Hf1.out, HQ.out, Hf2.out⟩
 go_upto_if 95 with fail
 by_cases h_4 : r = 4
 ·subst h_4
  have hb_ := around_bd by_ 3 (by decide)
  obtain ⟨xa, hxa⟩ : ∃ z, Hid (around by_ 3 = z) := ⟨_, Lib.hid rfl⟩
  have HAx := HAb.out 3 (by decide) (by decide)
  rw [hxa.out] at hb_ HAx
  obtain ⟨ja, x, rfl, hja, hok_, hcl_⟩ := pick3i hb_
  have HAx := Lib.hid HAx
  have Hok := Lib.hid hok_
  have Hcl := Lib.hid hcl_
  have hja2 : ¬ ((3 : Int) ≤ (ja : Int)) := by omega
  clear hb_ hxa hok_ hcl_
  go_upto_region 25 with fail
  have HSd := Lib.hid HS.out.drew
  clear HS
  have HS := HSd
  clear HSd
  refine wp_region_noPanic ?_
  refine region_T (s := 13) (S := fun W => W.cell? ⟨S, 3, none⟩ = some (.slice a.s p.st.length a.cs)) (by kernel_rfl) ?_
  change wpT _ _ _ _ _ 14 _ _ WR.drew
  generalize WR.drew = X0 at *
  refine T_takeD (k := 0) (v := .pointer (some ⟨S, 3, none⟩)) (d := some 97) rfl rfl (by decide +kernel) (fun _ _ _ h => h) (Or.inl ⟨by rfl, fun W hW => by go_simp⟩) (HS.out.s.cell 3) ?_
  try simp only [Act.put, qz0, qz1, qz2]
  refine T_takeD (k := 1) (v := .slice a.s p.st.length a.cs) (d := some 98) rfl rfl (by decide +kernel) (fun _ _ _ h => h) (Or.inl ⟨by rfl, fun W hW => by go_simp⟩) (HS.out.s.cell 3) ?_
  try simp only [Act.put, qz0, qz1, qz2]
  refine T_takeD (k := 3) (v := .int .i64 by_) (d := some 100) rfl rfl (by decide +kernel) (fun _ _ _ h => h) (Or.inl ⟨by rfl, fun W hW => by go_simp⟩) (HS.out.s.cell 3) ?_
  try simp only [Act.put, qz0, qz1, qz2]
  refine T_two (i := 2) (j := 4) (by decide +kernel) (T_step rfl rfl (fun K hK3 => ?_)) (T_step rfl rfl (fun K hK3 => ?_))
  ·have hK3 := Lib.hid hK3
   go_simp
   have HL_g_ := Lib.hid (Bk.new X0 3 #[.int .i64 0, .int .i64 1073741824, .int .i64 1073741825])
   have HS2 := Lib.hid (HS.out.alloc (.cells #[.int .i64 0, .int .i64 1073741824, .int .i64 1073741825] 3))
   clear HS
   have HS := HS2
   clear HS2
   generalize X0.alloc (.cells #[.int .i64 0, .int .i64 1073741824, .int .i64 1073741825] 3) = X0s at *
   generalize X0.heap.size = g_ at *
   refine hK3.out _ _ (HS.out.s.cell 3) ?_
   try simp only [Act.put, qz0, qz1, qz2]
   refine T_oneS (i := 4) (by decide +kernel) (T_step rfl rfl (fun K hK4 => ?_))
   have hK4 := Lib.hid hK4
   go_simp
   go_at_call 15
   refine (HAx.out _).mono ?_
   rintro e wz ⟨rfl, rfl⟩
   refine hK4.out _ _ (HS.out.s.cell 3) ?_
   try simp only [Act.put, qz0, qz1, qz2]
   refine T_takeD (k := 5) (v := .pointer (some ⟨g_, ja, none⟩)) (d := some 102) rfl rfl (by decide +kernel) (fun _ _ _ h => h) (Or.inl ⟨by rfl, fun W hW => by go_simp⟩) (HS.out.s.cell 3) ?_
   try simp only [Act.put, qz0, qz1, qz2]
   refine T_oneS (i := 6) (by decide +kernel) (T_step rfl rfl (fun K hK6 => ?_))
   have hK6 := Lib.hid hK6
   have cj : X0s.cell? ⟨g_, ja, none⟩ = some (.int .i64 x) := (HL_g_.out.cell ja).trans Hcl.out
   go_simp
   clear cj HL_g_
   refine hK6.out _ _ (HS.out.s.cell 3) ?_
   try simp only [Act.put, qz0, qz1, qz2]
   refine T_takeD (k := 7) (v := .agg #[.int .i64 x, .int .i64 0]) (d := some 104) rfl rfl (by decide +kernel) (fun _ _ _ h => h) (Or.inl ⟨by rfl, fun W hW => by go_simp⟩) (HS.out.s.cell 3) ?_
   try simp only [Act.put, qz0, qz1, qz2]
   refine T_takeD (k := 8) (v := .agg #[.int .i64 0, .int .i64 0, .int .i64 x, .int .i64 0]) (d := some 105) rfl rfl (by decide +kernel) (fun _ _ _ h => h) (Or.inl ⟨by rfl, fun W hW => by go_simp⟩) (HS.out.s.cell 3) ?_
   try simp only [Act.put, qz0, qz1, qz2]
   refine T_oneS (i := 9) (by decide +kernel) (T_step rfl rfl (fun K hK9 => ?_))
   have hK9 := Lib.hid hK9
   refine wp_build_row 62 #[(0, .tmp 105)] rfl #[(0, .agg #[.int .i64 0, .int .i64 0, .int .i64 x, .int .i64 0])] (by simp [Act.eval]) _ (run_build_stroke1 0 0 x 0 _) ?_
   refine hK9.out _ _ (HS.out.s.cell 3) ?_
   try simp only [Act.put, qz0, qz1, qz2]
   refine T_oneS (i := 10) (by decide +kernel) (T_step rfl rfl (fun K hK10 => ?_))
   have hK10 := Lib.hid hK10
   refine wp_bs_row 28 1 #[(0, .tmp 106)] rfl #[(0, .agg #[.int .i64 0, .int .i64 0, .int .i64 x, .int .i64 0, .slice none 0 0])] (by simp [Act.eval]) _ (run_bs_stroke 0 0 x 0 none 0 0 _) ?_
   have HL_h_ := Lib.hid (Bk.new X0s 62 #[.int .i64 0, .int .i64 0, .int .i64 x, .int .i64 0, .slice none 0 0])
   have HS2 := Lib.hid (HS.out.alloc (.cells #[.int .i64 0, .int .i64 0, .int .i64 x, .int .i64 0, .slice none 0 0] 62))
   clear HS
   have HS := HS2
   clear HS2
   generalize X0s.alloc (.cells #[.int .i64 0, .int .i64 0, .int .i64 x, .int .i64 0, .slice none 0 0] 62) = Wl at *
   generalize X0s.heap.size = h_ at *
   refine hK10.out _ _ (HS.out.s.cell 3) ?_
   try simp only [Act.put, qz0, qz1, qz2]
   refine T_oneS (i := 11) (by decide +kernel) (T_step rfl rfl (fun K hK11 => ?_))
   have hK11 := Lib.hid hK11
   obtain ⟨vs, hO_, hV_⟩ := HS.out.r.s (by omega)
   refine app_wp (us := [.int .i64 0, .int .i64 0, .int .i64 x, .int .i64 0, .slice none 0 0]) (xs := vs) (n := p.st.length) (base := w.heap.size) (c := 1) (H := h_) (v := .slice a.s p.st.length a.cs) (.tmp 98) (.tmp 107) rfl elt_stroke (by simp [Act.eval]) (by simp [Act.eval]) hO_ HL_h_.out rfl rfl (by omega) HS.out.b.size ?_
   intro v8 w8 hown8 hg8
   obtain ⟨X, cX, rfl⟩ := own_slice hown8
   have Hs8 := Lib.hid (HS.out.s.grown hg8 (HS.out.s.ne_own hO_ (by decide)))
   have HF := Lib.hid (show ∃ p' a', Hid (SZ w (w8.setCell ⟨S, 3, none⟩ (.slice X (p.st.length + 1) cX)) S Z p' a') ∧ Hid (PQ (N + 1) (2 * E + 1) p') from ⟨_, _, Lib.hid (HS.out.ap (p' := ⟨p.office, p.num, p.needs, (p.st ++ [⟨0, 0, x, 0, []⟩]), p.pl, p.ma, p.er, p.dr, p.rt⟩) (a' := ⟨a.n, X, a.l, a.m, a.e, a.d, a.r, a.cn, cX, a.cl, a.cm, a.ce, a.cd, a.cr⟩) hO_ (by decide) hg8 (HS.out.r.app1 (vs := vs ++ [.int .i64 0, .int .i64 0, .int .i64 x, .int .i64 0, .slice none 0 0]) (ys := [⟨0, 0, x, 0, []⟩]) (by rw [List.length_append]; exact hown8) (hV_.snoc (C := none) (c := 0) (cl := []) (.inl rfl) (Nat.zero_le _)) hg8) (by simp [paC])), Lib.hid (have q := pq_le Hq.out; ⟨⟨q.w.o, q.w.k, q.w.n, (fun x hx => by rcases List.mem_append.1 hx with h | h; exact q.w.s x h; rw [List.mem_singleton.1 h]; exact ⟨i64_0, i64_0, Hok.out, i64_0, fun c hc => by cases hc⟩), q.w.l, q.w.m, q.w.e, q.w.d, q.w.r⟩, q.n, by have := Hq.out.s; simp only [List.length_append, List.length_singleton]; omega, (fun y hy => by rcases List.mem_append.1 hy with h | h; exact q.c y h; rw [List.mem_singleton.1 h]; exact Nat.zero_le _), q.l, q.x, q.m, q.e, q.d, q.r⟩)⟩)
   clear hown8 hg8 hO_ HS hV_
   refine hK11.out _ _ (Hs8.out.cell 3) ?_
   try simp only [Act.put, qz0, qz1, qz2]
   refine T_takeD (k := 12) (v := .pointer (some ⟨S, 3, none⟩)) (d := some 109) rfl rfl (by decide +kernel) (fun _ _ _ h => h) (Or.inl ⟨by rfl, fun W hW => by go_simp⟩) (Hs8.out.cell 3) ?_
   try simp only [Act.put, qz0, qz1, qz2]
   refine T_last (by decide +kernel) (by decide +kernel) (by decide +kernel) rfl rfl (fun K hKl => ?_)
   have hKl := Lib.hid hKl
   have d3 : w8.cell? ⟨S, 3, none⟩ = some (.slice a.s p.st.length a.cs) := Hs8.out.cell 3
   have d4 := Hs8.out.frozen 3
   go_simp
   refine hKl.out _ _ (NoPanic.normal ?_)
   try simp only [Act.put, qz0, qz1, qz2]
   obtain ⟨p', a', HZ, HQ⟩ := HF.out
   clear hKl d3 d4 Hs8 HF
   generalize w8.setCell ⟨S, 3, none⟩ (.slice X (p.st.length + 1) cX) = WF at *
   go_upto_region 49 with fail
   refine wp_region_lit ?_
   refine wpList_load_row rfl 34 (.tmp 4) rfl S 34 (paC p' a') _ rfl HZ.out.s Tryz.underlying34 rfl info_pa ?_
   refine wpList_store_row rfl 34 (.tmp 8) (.tmp 265) rfl Z 34 _ (paC p' a') rfl (by rfl) HZ.out.z info_pa rfl (paC_one _ _) ?_
   obtain ⟨hf1, hf2, hf3⟩ := HZ.out.fin
   have Hf1 := Lib.hid hf1
   have Hf2 := Lib.hid hf2
   have r0_ := hf3.cell 0
   have r1_ := hf3.cell 1
   have r2_ := hf3.cell 2
   have r3_ := hf3.cell 3
   have r4_ := hf3.cell 4
   have r5_ := hf3.cell 5
   have r6_ := hf3.cell 6
   have r7_ := hf3.cell 7
   have r8_ := hf3.cell 8
   clear hf1 hf2 hf3 HZ
   generalize World.setRow _ _ _ = WE at *
   go_wp2_with fail
   exact bodyPost_ret (v := .agg (paC p' a')) (by simp [results, Tryz.results41, go_sem, paC, r0_, r1_, r2_, r3_, r4_, r5_, r6_, r7_, r8_]) rfl ⟨p', a', rfl, Hf1.out, HQ.out, Hf2.out⟩
  ·have hK3 := Lib.hid hK3
   go_simp
   go_at_call 15
   refine (HAx.out _).mono ?_
   rintro e wz ⟨rfl, rfl⟩
   refine hK3.out _ _ (HS.out.s.cell 3) ?_
   try simp only [Act.put, qz0, qz1, qz2]
   refine T_oneS (i := 2) (by decide +kernel) (T_step rfl rfl (fun K hK4 => ?_))
   have hK4 := Lib.hid hK4
   go_simp
   have HL_g_ := Lib.hid (Bk.new X0 3 #[.int .i64 0, .int .i64 1073741824, .int .i64 1073741825])
   have HS2 := Lib.hid (HS.out.alloc (.cells #[.int .i64 0, .int .i64 1073741824, .int .i64 1073741825] 3))
   clear HS
   have HS := HS2
   clear HS2
   generalize X0.alloc (.cells #[.int .i64 0, .int .i64 1073741824, .int .i64 1073741825] 3) = X0s at *
   generalize X0.heap.size = g_ at *
   refine hK4.out _ _ (HS.out.s.cell 3) ?_
   try simp only [Act.put, qz0, qz1, qz2]
   refine T_takeD (k := 5) (v := .pointer (some ⟨g_, ja, none⟩)) (d := some 102) rfl rfl (by decide +kernel) (fun _ _ _ h => h) (Or.inl ⟨by rfl, fun W hW => by go_simp⟩) (HS.out.s.cell 3) ?_
   try simp only [Act.put, qz0, qz1, qz2]
   refine T_oneS (i := 6) (by decide +kernel) (T_step rfl rfl (fun K hK6 => ?_))
   have hK6 := Lib.hid hK6
   have cj : X0s.cell? ⟨g_, ja, none⟩ = some (.int .i64 x) := (HL_g_.out.cell ja).trans Hcl.out
   go_simp
   clear cj HL_g_
   refine hK6.out _ _ (HS.out.s.cell 3) ?_
   try simp only [Act.put, qz0, qz1, qz2]
   refine T_takeD (k := 7) (v := .agg #[.int .i64 x, .int .i64 0]) (d := some 104) rfl rfl (by decide +kernel) (fun _ _ _ h => h) (Or.inl ⟨by rfl, fun W hW => by go_simp⟩) (HS.out.s.cell 3) ?_
   try simp only [Act.put, qz0, qz1, qz2]
   refine T_takeD (k := 8) (v := .agg #[.int .i64 0, .int .i64 0, .int .i64 x, .int .i64 0]) (d := some 105) rfl rfl (by decide +kernel) (fun _ _ _ h => h) (Or.inl ⟨by rfl, fun W hW => by go_simp⟩) (HS.out.s.cell 3) ?_
   try simp only [Act.put, qz0, qz1, qz2]
   refine T_oneS (i := 9) (by decide +kernel) (T_step rfl rfl (fun K hK9 => ?_))
   have hK9 := Lib.hid hK9
   refine wp_build_row 62 #[(0, .tmp 105)] rfl #[(0, .agg #[.int .i64 0, .int .i64 0, .int .i64 x, .int .i64 0])] (by simp [Act.eval]) _ (run_build_stroke1 0 0 x 0 _) ?_
   refine hK9.out _ _ (HS.out.s.cell 3) ?_
   try simp only [Act.put, qz0, qz1, qz2]
   refine T_oneS (i := 10) (by decide +kernel) (T_step rfl rfl (fun K hK10 => ?_))
   have hK10 := Lib.hid hK10
   refine wp_bs_row 28 1 #[(0, .tmp 106)] rfl #[(0, .agg #[.int .i64 0, .int .i64 0, .int .i64 x, .int .i64 0, .slice none 0 0])] (by simp [Act.eval]) _ (run_bs_stroke 0 0 x 0 none 0 0 _) ?_
   have HL_h_ := Lib.hid (Bk.new X0s 62 #[.int .i64 0, .int .i64 0, .int .i64 x, .int .i64 0, .slice none 0 0])
   have HS2 := Lib.hid (HS.out.alloc (.cells #[.int .i64 0, .int .i64 0, .int .i64 x, .int .i64 0, .slice none 0 0] 62))
   clear HS
   have HS := HS2
   clear HS2
   generalize X0s.alloc (.cells #[.int .i64 0, .int .i64 0, .int .i64 x, .int .i64 0, .slice none 0 0] 62) = Wl at *
   generalize X0s.heap.size = h_ at *
   refine hK10.out _ _ (HS.out.s.cell 3) ?_
   try simp only [Act.put, qz0, qz1, qz2]
   refine T_oneS (i := 11) (by decide +kernel) (T_step rfl rfl (fun K hK11 => ?_))
   have hK11 := Lib.hid hK11
   obtain ⟨vs, hO_, hV_⟩ := HS.out.r.s (by omega)
   refine app_wp (us := [.int .i64 0, .int .i64 0, .int .i64 x, .int .i64 0, .slice none 0 0]) (xs := vs) (n := p.st.length) (base := w.heap.size) (c := 1) (H := h_) (v := .slice a.s p.st.length a.cs) (.tmp 98) (.tmp 107) rfl elt_stroke (by simp [Act.eval]) (by simp [Act.eval]) hO_ HL_h_.out rfl rfl (by omega) HS.out.b.size ?_
   intro v8 w8 hown8 hg8
   obtain ⟨X, cX, rfl⟩ := own_slice hown8
   have Hs8 := Lib.hid (HS.out.s.grown hg8 (HS.out.s.ne_own hO_ (by decide)))
   have HF := Lib.hid (show ∃ p' a', Hid (SZ w (w8.setCell ⟨S, 3, none⟩ (.slice X (p.st.length + 1) cX)) S Z p' a') ∧ Hid (PQ (N + 1) (2 * E + 1) p') from ⟨_, _, Lib.hid (HS.out.ap (p' := ⟨p.office, p.num, p.needs, (p.st ++ [⟨0, 0, x, 0, []⟩]), p.pl, p.ma, p.er, p.dr, p.rt⟩) (a' := ⟨a.n, X, a.l, a.m, a.e, a.d, a.r, a.cn, cX, a.cl, a.cm, a.ce, a.cd, a.cr⟩) hO_ (by decide) hg8 (HS.out.r.app1 (vs := vs ++ [.int .i64 0, .int .i64 0, .int .i64 x, .int .i64 0, .slice none 0 0]) (ys := [⟨0, 0, x, 0, []⟩]) (by rw [List.length_append]; exact hown8) (hV_.snoc (C := none) (c := 0) (cl := []) (.inl rfl) (Nat.zero_le _)) hg8) (by simp [paC])), Lib.hid (have q := pq_le Hq.out; ⟨⟨q.w.o, q.w.k, q.w.n, (fun x hx => by rcases List.mem_append.1 hx with h | h; exact q.w.s x h; rw [List.mem_singleton.1 h]; exact ⟨i64_0, i64_0, Hok.out, i64_0, fun c hc => by cases hc⟩), q.w.l, q.w.m, q.w.e, q.w.d, q.w.r⟩, q.n, by have := Hq.out.s; simp only [List.length_append, List.length_singleton]; omega, (fun y hy => by rcases List.mem_append.1 hy with h | h; exact q.c y h; rw [List.mem_singleton.1 h]; exact Nat.zero_le _), q.l, q.x, q.m, q.e, q.d, q.r⟩)⟩)
   clear hown8 hg8 hO_ HS hV_
   refine hK11.out _ _ (Hs8.out.cell 3) ?_
   try simp only [Act.put, qz0, qz1, qz2]
   refine T_takeD (k := 12) (v := .pointer (some ⟨S, 3, none⟩)) (d := some 109) rfl rfl (by decide +kernel) (fun _ _ _ h => h) (Or.inl ⟨by rfl, fun W hW => by go_simp⟩) (Hs8.out.cell 3) ?_
   try simp only [Act.put, qz0, qz1, qz2]
   refine T_last (by decide +kernel) (by decide +kernel) (by decide +kernel) rfl rfl (fun K hKl => ?_)
   have hKl := Lib.hid hKl
   have d3 : w8.cell? ⟨S, 3, none⟩ = some (.slice a.s p.st.length a.cs) := Hs8.out.cell 3
   have d4 := Hs8.out.frozen 3
   go_simp
   refine hKl.out _ _ (NoPanic.normal ?_)
   try simp only [Act.put, qz0, qz1, qz2]
   obtain ⟨p', a', HZ, HQ⟩ := HF.out
   clear hKl d3 d4 Hs8 HF
   generalize w8.setCell ⟨S, 3, none⟩ (.slice X (p.st.length + 1) cX) = WF at *
   go_upto_region 49 with fail
   refine wp_region_lit ?_
   refine wpList_load_row rfl 34 (.tmp 4) rfl S 34 (paC p' a') _ rfl HZ.out.s Tryz.underlying34 rfl info_pa ?_
   refine wpList_store_row rfl 34 (.tmp 8) (.tmp 265) rfl Z 34 _ (paC p' a') rfl (by rfl) HZ.out.z info_pa rfl (paC_one _ _) ?_
   obtain ⟨hf1, hf2, hf3⟩ := HZ.out.fin
   have Hf1 := Lib.hid hf1
   have Hf2 := Lib.hid hf2
   have r0_ := hf3.cell 0
   have r1_ := hf3.cell 1
   have r2_ := hf3.cell 2
   have r3_ := hf3.cell 3
   have r4_ := hf3.cell 4
   have r5_ := hf3.cell 5
   have r6_ := hf3.cell 6
   have r7_ := hf3.cell 7
   have r8_ := hf3.cell 8
   clear hf1 hf2 hf3 HZ
   generalize World.setRow _ _ _ = WE at *
   go_wp2_with fail
   exact bodyPost_ret (v := .agg (paC p' a')) (by simp [results, Tryz.results41, go_sem, paC, r0_, r1_, r2_, r3_, r4_, r5_, r6_, r7_, r8_]) rfl ⟨p', a', rfl, Hf1.out, HQ.out, Hf2.out⟩
 go_upto_if 110 with fail
 by_cases h_5 : r = 5
 ·subst h_5
  have HCl := Lib.hid (fun W => claimR_any by_ W Hby.out)
  go_upto_region 27 with fail
  have HSd := Lib.hid HS.out.drew
  clear HS
  have HS := HSd
  clear HSd
  refine wp_region_noPanic ?_
  refine region_T (s := 11) (S := fun W => W.cell? ⟨S, 3, none⟩ = some (.slice a.s p.st.length a.cs)) (by kernel_rfl) ?_
  change wpT _ _ _ _ _ 12 _ _ WR.drew
  generalize WR.drew = X0 at *
  refine T_takeD (k := 0) (v := .pointer (some ⟨S, 3, none⟩)) (d := some 112) rfl rfl (by decide +kernel) (fun _ _ _ h => h) (Or.inl ⟨by rfl, fun W hW => by go_simp⟩) (HS.out.s.cell 3) ?_
  try simp only [Act.put, qz0, qz1, qz2]
  refine T_takeD (k := 1) (v := .slice a.s p.st.length a.cs) (d := some 113) rfl rfl (by decide +kernel) (fun _ _ _ h => h) (Or.inl ⟨by rfl, fun W hW => by go_simp⟩) (HS.out.s.cell 3) ?_
  try simp only [Act.put, qz0, qz1, qz2]
  refine T_takeD (k := 2) (v := .agg #[.int .i64 0, .int .i64 1]) (d := some 114) rfl rfl (by decide +kernel) (fun _ _ _ h => h) (Or.inl ⟨by rfl, fun W hW => by go_simp⟩) (HS.out.s.cell 3) ?_
  try simp only [Act.put, qz0, qz1, qz2]
  refine T_takeD (k := 3) (v := .agg #[.int .i64 0, .int .i64 0, .int .i64 0, .int .i64 1]) (d := some 115) rfl rfl (by decide +kernel) (fun _ _ _ h => h) (Or.inl ⟨by rfl, fun W hW => by go_simp⟩) (HS.out.s.cell 3) ?_
  try simp only [Act.put, qz0, qz1, qz2]
  refine T_takeD (k := 4) (v := .int .i64 by_) (d := some 116) rfl rfl (by decide +kernel) (fun _ _ _ h => h) (Or.inl ⟨by rfl, fun W hW => by go_simp⟩) (HS.out.s.cell 3) ?_
  try simp only [Act.put, qz0, qz1, qz2]
  refine T_oneS (i := 5) (by decide +kernel) (T_step rfl rfl (fun K hK5 => ?_))
  have hK5 := Lib.hid hK5
  go_simp
  go_at_call 16
  refine (HCl.out _).mono ?_
  rintro e wc ⟨⟨k1, o1, f1, t1, d1⟩, rfl, hcw, hb_⟩
  have Hcw := Lib.hid hcw
  have HS2 := Lib.hid (HS.out.below hb_)
  clear HS hb_ hcw
  have HS := HS2
  clear HS2
  simp only [clV]
  refine hK5.out _ _ (HS.out.s.cell 3) ?_
  try simp only [Act.put, qz0, qz1, qz2]
  refine T_oneS (i := 6) (by decide +kernel) (T_step rfl rfl (fun K hK6 => ?_))
  have hK6 := Lib.hid hK6
  refine wp_bs_row 44 1 #[(0, .tmp 117)] rfl #[(0, .agg #[.int .i64 k1, .int .i64 o1, .int .i64 f1, .int .i64 t1, .int .i64 d1])] (by simp [Act.eval]) _ (run_bs_claim k1 o1 f1 t1 d1 _) ?_
  have HL_d_ := Lib.hid (Bk.new wc 41 #[.int .i64 k1, .int .i64 o1, .int .i64 f1, .int .i64 t1, .int .i64 d1])
  have HS2 := Lib.hid (HS.out.alloc (.cells #[.int .i64 k1, .int .i64 o1, .int .i64 f1, .int .i64 t1, .int .i64 d1] 41))
  clear HS
  have HS := HS2
  clear HS2
  generalize wc.alloc (.cells #[.int .i64 k1, .int .i64 o1, .int .i64 f1, .int .i64 t1, .int .i64 d1] 41) = Wd at *
  generalize wc.heap.size = d_ at *
  refine hK6.out _ _ (HS.out.s.cell 3) ?_
  try simp only [Act.put, qz0, qz1, qz2]
  refine T_oneS (i := 7) (by decide +kernel) (T_step rfl rfl (fun K hK7 => ?_))
  have hK7 := Lib.hid hK7
  refine wp_build_row 62 #[(0, .tmp 115), (1, .tmp 118)] rfl #[(0, .agg #[.int .i64 0, .int .i64 0, .int .i64 0, .int .i64 1]), (1, .slice (some ⟨d_, 0, none⟩) 1 1)] (by simp [Act.eval]) _ (run_build_stroke2 0 0 0 1 (some ⟨d_, 0, none⟩) 1 1 _) ?_
  refine hK7.out _ _ (HS.out.s.cell 3) ?_
  try simp only [Act.put, qz0, qz1, qz2]
  refine T_oneS (i := 8) (by decide +kernel) (T_step rfl rfl (fun K hK8 => ?_))
  have hK8 := Lib.hid hK8
  refine wp_bs_row 28 1 #[(0, .tmp 119)] rfl #[(0, .agg #[.int .i64 0, .int .i64 0, .int .i64 0, .int .i64 1, .slice (some ⟨d_, 0, none⟩) 1 1])] (by simp [Act.eval]) _ (run_bs_stroke 0 0 0 1 (some ⟨d_, 0, none⟩) 1 1 _) ?_
  have HL_h_ := Lib.hid (Bk.new Wd 62 #[.int .i64 0, .int .i64 0, .int .i64 0, .int .i64 1, .slice (some ⟨d_, 0, none⟩) 1 1])
  have HS2 := Lib.hid (HS.out.alloc (.cells #[.int .i64 0, .int .i64 0, .int .i64 0, .int .i64 1, .slice (some ⟨d_, 0, none⟩) 1 1] 62))
  clear HS
  have HS := HS2
  clear HS2
  have H2 := Lib.hid (HL_d_.out.alloc (.cells #[.int .i64 0, .int .i64 0, .int .i64 0, .int .i64 1, .slice (some ⟨d_, 0, none⟩) 1 1] 62))
  clear HL_d_
  have HL_d_ := H2
  clear H2
  generalize Wd.alloc (.cells #[.int .i64 0, .int .i64 0, .int .i64 0, .int .i64 1, .slice (some ⟨d_, 0, none⟩) 1 1] 62) = Wl at *
  generalize Wd.heap.size = h_ at *
  refine hK8.out _ _ (HS.out.s.cell 3) ?_
  try simp only [Act.put, qz0, qz1, qz2]
  refine T_oneS (i := 9) (by decide +kernel) (T_step rfl rfl (fun K hK9 => ?_))
  have hK9 := Lib.hid hK9
  obtain ⟨vs, hO_, hV_⟩ := HS.out.r.s (by omega)
  refine app_wp (us := [.int .i64 0, .int .i64 0, .int .i64 0, .int .i64 1, .slice (some ⟨d_, 0, none⟩) 1 1]) (xs := vs) (n := p.st.length) (base := w.heap.size) (c := 1) (H := h_) (v := .slice a.s p.st.length a.cs) (.tmp 113) (.tmp 120) rfl elt_stroke (by simp [Act.eval]) (by simp [Act.eval]) hO_ HL_h_.out rfl rfl (by omega) HS.out.b.size ?_
  intro v8 w8 hown8 hg8
  obtain ⟨X, cX, rfl⟩ := own_slice hown8
  have Hs8 := Lib.hid (HS.out.s.grown hg8 (HS.out.s.ne_own hO_ (by decide)))
  have HF := Lib.hid (show ∃ p' a', Hid (SZ w (w8.setCell ⟨S, 3, none⟩ (.slice X (p.st.length + 1) cX)) S Z p' a') ∧ Hid (PQ (N + 1) (2 * E + 1) p') from ⟨_, _, Lib.hid (HS.out.ap (p' := ⟨p.office, p.num, p.needs, (p.st ++ [⟨0, 0, 0, 1, [⟨k1, o1, f1, t1, d1⟩]⟩]), p.pl, p.ma, p.er, p.dr, p.rt⟩) (a' := ⟨a.n, X, a.l, a.m, a.e, a.d, a.r, a.cn, cX, a.cl, a.cm, a.ce, a.cd, a.cr⟩) hO_ (by decide) hg8 (HS.out.r.app1 (vs := vs ++ [.int .i64 0, .int .i64 0, .int .i64 0, .int .i64 1, .slice (some ⟨d_, 0, none⟩) 1 1]) (ys := [⟨0, 0, 0, 1, [⟨k1, o1, f1, t1, d1⟩]⟩]) (by rw [List.length_append]; exact hown8) (hV_.snoc (C := some ⟨d_, 0, none⟩) (c := 1) (cl := [⟨k1, o1, f1, t1, d1⟩]) (SB.bk HL_d_.out) (by simp)) hg8) (by simp [paC])), Lib.hid (have q := pq_le Hq.out; ⟨⟨q.w.o, q.w.k, q.w.n, (fun x hx => by rcases List.mem_append.1 hx with h | h; exact q.w.s x h; rw [List.mem_singleton.1 h]; exact ⟨i64_0, i64_0, i64_0, i64_1, fun c hc => by rw [List.mem_singleton.1 hc]; exact Hcw.out⟩), q.w.l, q.w.m, q.w.e, q.w.d, q.w.r⟩, q.n, by have := Hq.out.s; simp only [List.length_append, List.length_singleton]; omega, (fun y hy => by rcases List.mem_append.1 hy with h | h; exact q.c y h; rw [List.mem_singleton.1 h]; exact (by decide : 1 ≤ 100)), q.l, q.x, q.m, q.e, q.d, q.r⟩)⟩)
  clear hown8 hg8 hO_ HS hV_
  refine hK9.out _ _ (Hs8.out.cell 3) ?_
  try simp only [Act.put, qz0, qz1, qz2]
  refine T_takeD (k := 10) (v := .pointer (some ⟨S, 3, none⟩)) (d := some 122) rfl rfl (by decide +kernel) (fun _ _ _ h => h) (Or.inl ⟨by rfl, fun W hW => by go_simp⟩) (Hs8.out.cell 3) ?_
  try simp only [Act.put, qz0, qz1, qz2]
  refine T_last (by decide +kernel) (by decide +kernel) (by decide +kernel) rfl rfl (fun K hKl => ?_)
  have hKl := Lib.hid hKl
  have d3 : w8.cell? ⟨S, 3, none⟩ = some (.slice a.s p.st.length a.cs) := Hs8.out.cell 3
  have d4 := Hs8.out.frozen 3
  go_simp
  refine hKl.out _ _ (NoPanic.normal ?_)
  try simp only [Act.put, qz0, qz1, qz2]
  obtain ⟨p', a', HZ, HQ⟩ := HF.out
  clear hKl d3 d4 Hs8 HF
  generalize w8.setCell ⟨S, 3, none⟩ (.slice X (p.st.length + 1) cX) = WF at *
  go_upto_region 49 with fail
  refine wp_region_lit ?_
  refine wpList_load_row rfl 34 (.tmp 4) rfl S 34 (paC p' a') _ rfl HZ.out.s Tryz.underlying34 rfl info_pa ?_
  refine wpList_store_row rfl 34 (.tmp 8) (.tmp 265) rfl Z 34 _ (paC p' a') rfl (by rfl) HZ.out.z info_pa rfl (paC_one _ _) ?_
  obtain ⟨hf1, hf2, hf3⟩ := HZ.out.fin
  have Hf1 := Lib.hid hf1
  have Hf2 := Lib.hid hf2
  have r0_ := hf3.cell 0
  have r1_ := hf3.cell 1
  have r2_ := hf3.cell 2
  have r3_ := hf3.cell 3
  have r4_ := hf3.cell 4
  have r5_ := hf3.cell 5
  have r6_ := hf3.cell 6
  have r7_ := hf3.cell 7
  have r8_ := hf3.cell 8
  clear hf1 hf2 hf3 HZ
  generalize World.setRow _ _ _ = WE at *
  go_wp2_with fail
  exact bodyPost_ret (v := .agg (paC p' a')) (by simp [results, Tryz.results41, go_sem, paC, r0_, r1_, r2_, r3_, r4_, r5_, r6_, r7_, r8_]) rfl ⟨p', a', rfl, Hf1.out, HQ.out, Hf2.out⟩
 go_upto_if 123 with fail
 by_cases h_6 : r = 6
 ·subst h_6
  have hb_ := around_bd by_ 9 (by decide)
  obtain ⟨xa, hxa⟩ : ∃ z, Hid (around by_ 9 = z) := ⟨_, Lib.hid rfl⟩
  have HAx := HAb.out 9 (by decide) (by decide)
  rw [hxa.out] at hb_ HAx
  obtain ⟨kk, hkk⟩ : ∃ k : Nat, Hid (60 + xa = (k : Int)) := ⟨(60 + xa).toNat, Lib.hid (by omega)⟩
  have hk100 : kk ≤ 100 := by have := hkk.out; omega
  have hkl : 60 ≤ kk := by have := hkk.out; omega
  have wk : IntKind.i64.wrap (60 + xa) = (kk : Int) := by rw [hkk.out]; exact IntWalk.i64_in _ ⟨by omega, by omega⟩
  have vk := hkk.out
  have wk2 : IntKind.i64.wrap (kk : Int) = (kk : Int) := IntWalk.i64_in _ ⟨by omega, by omega⟩
  have HAx := Lib.hid HAx
  clear hb_ hxa
  go_upto_region 29 with fail
  have HSd := Lib.hid HS.out.drew
  clear HS
  have HS := HSd
  clear HSd
  refine wp_region_noPanic ?_
  refine region_T (s := 12) (S := fun W => W.cell? ⟨S, 3, none⟩ = some (.slice a.s p.st.length a.cs)) (by kernel_rfl) ?_
  change wpT _ _ _ _ _ 13 _ _ WR.drew
  generalize WR.drew = X0 at *
  refine T_takeD (k := 0) (v := .pointer (some ⟨S, 3, none⟩)) (d := some 125) rfl rfl (by decide +kernel) (fun _ _ _ h => h) (Or.inl ⟨by rfl, fun W hW => by go_simp⟩) (HS.out.s.cell 3) ?_
  try simp only [Act.put, qz0, qz1, qz2]
  refine T_takeD (k := 1) (v := .slice a.s p.st.length a.cs) (d := some 126) rfl rfl (by decide +kernel) (fun _ _ _ h => h) (Or.inl ⟨by rfl, fun W hW => by go_simp⟩) (HS.out.s.cell 3) ?_
  try simp only [Act.put, qz0, qz1, qz2]
  refine T_takeD (k := 2) (v := .agg #[.int .i64 0, .int .i64 1]) (d := some 127) rfl rfl (by decide +kernel) (fun _ _ _ h => h) (Or.inl ⟨by rfl, fun W hW => by go_simp⟩) (HS.out.s.cell 3) ?_
  try simp only [Act.put, qz0, qz1, qz2]
  refine T_takeD (k := 3) (v := .agg #[.int .i64 0, .int .i64 0, .int .i64 0, .int .i64 1]) (d := some 128) rfl rfl (by decide +kernel) (fun _ _ _ h => h) (Or.inl ⟨by rfl, fun W hW => by go_simp⟩) (HS.out.s.cell 3) ?_
  try simp only [Act.put, qz0, qz1, qz2]
  refine T_takeD (k := 4) (v := .int .i64 by_) (d := some 129) rfl rfl (by decide +kernel) (fun _ _ _ h => h) (Or.inl ⟨by rfl, fun W hW => by go_simp⟩) (HS.out.s.cell 3) ?_
  try simp only [Act.put, qz0, qz1, qz2]
  refine T_oneS (i := 5) (by decide +kernel) (T_step rfl rfl (fun K hK5 => ?_))
  have hK5 := Lib.hid hK5
  go_simp
  go_at_call 15
  refine (HAx.out _).mono ?_
  rintro e wz ⟨rfl, rfl⟩
  refine hK5.out _ _ (HS.out.s.cell 3) ?_
  try simp only [Act.put, qz0, qz1, qz2]
  refine T_takeD (k := 6) (v := .int .i64 (kk : Int)) (d := some 131) rfl rfl (by decide +kernel) (fun _ _ _ h => h) (Or.inl ⟨by rfl, fun W hW => by go_simp⟩) (HS.out.s.cell 3) ?_
  try simp only [Act.put, qz0, qz1, qz2]
  refine T_oneS (i := 7) (by decide +kernel) (T_step rfl rfl (fun K hK7 => ?_))
  have hK7 := Lib.hid hK7
  refine wp_make 44 (.tmp 131) (.tmp 131) rfl (.int .i64 (kk : Int)) (.int .i64 (kk : Int)) (by simp [Act.eval]) (by simp [Act.eval]) _ (run_make_claims kk hk100 _) ?_
  have HL_d_ := Lib.hid (Bk.new X0 41 ((List.replicate kk clZ).flatMap clC).toArray)
  have HS2 := Lib.hid (HS.out.alloc (.cells ((List.replicate kk clZ).flatMap clC).toArray 41))
  clear HS
  have HS := HS2
  clear HS2
  generalize X0.alloc (.cells ((List.replicate kk clZ).flatMap clC).toArray 41) = Wd at *
  generalize X0.heap.size = d_ at *
  refine hK7.out _ _ (HS.out.s.cell 3) ?_
  try simp only [Act.put, qz0, qz1, qz2]
  refine T_oneS (i := 8) (by decide +kernel) (T_step rfl rfl (fun K hK8 => ?_))
  have hK8 := Lib.hid hK8
  refine wp_build_row 62 #[(0, .tmp 128), (1, .tmp 132)] rfl #[(0, .agg #[.int .i64 0, .int .i64 0, .int .i64 0, .int .i64 1]), (1, .slice (some ⟨d_, 0, none⟩) kk kk)] (by simp [Act.eval]) _ (run_build_stroke2 0 0 0 1 (some ⟨d_, 0, none⟩) kk kk _) ?_
  refine hK8.out _ _ (HS.out.s.cell 3) ?_
  try simp only [Act.put, qz0, qz1, qz2]
  refine T_oneS (i := 9) (by decide +kernel) (T_step rfl rfl (fun K hK9 => ?_))
  have hK9 := Lib.hid hK9
  refine wp_bs_row 28 1 #[(0, .tmp 133)] rfl #[(0, .agg #[.int .i64 0, .int .i64 0, .int .i64 0, .int .i64 1, .slice (some ⟨d_, 0, none⟩) kk kk])] (by simp [Act.eval]) _ (run_bs_stroke 0 0 0 1 (some ⟨d_, 0, none⟩) kk kk _) ?_
  have HL_h_ := Lib.hid (Bk.new Wd 62 #[.int .i64 0, .int .i64 0, .int .i64 0, .int .i64 1, .slice (some ⟨d_, 0, none⟩) kk kk])
  have HS2 := Lib.hid (HS.out.alloc (.cells #[.int .i64 0, .int .i64 0, .int .i64 0, .int .i64 1, .slice (some ⟨d_, 0, none⟩) kk kk] 62))
  clear HS
  have HS := HS2
  clear HS2
  have H2 := Lib.hid (HL_d_.out.alloc (.cells #[.int .i64 0, .int .i64 0, .int .i64 0, .int .i64 1, .slice (some ⟨d_, 0, none⟩) kk kk] 62))
  clear HL_d_
  have HL_d_ := H2
  clear H2
  generalize Wd.alloc (.cells #[.int .i64 0, .int .i64 0, .int .i64 0, .int .i64 1, .slice (some ⟨d_, 0, none⟩) kk kk] 62) = Wl at *
  generalize Wd.heap.size = h_ at *
  refine hK9.out _ _ (HS.out.s.cell 3) ?_
  try simp only [Act.put, qz0, qz1, qz2]
  refine T_oneS (i := 10) (by decide +kernel) (T_step rfl rfl (fun K hK10 => ?_))
  have hK10 := Lib.hid hK10
  obtain ⟨vs, hO_, hV_⟩ := HS.out.r.s (by omega)
  refine app_wp (us := [.int .i64 0, .int .i64 0, .int .i64 0, .int .i64 1, .slice (some ⟨d_, 0, none⟩) kk kk]) (xs := vs) (n := p.st.length) (base := w.heap.size) (c := 1) (H := h_) (v := .slice a.s p.st.length a.cs) (.tmp 126) (.tmp 134) rfl elt_stroke (by simp [Act.eval]) (by simp [Act.eval]) hO_ HL_h_.out rfl rfl (by omega) HS.out.b.size ?_
  intro v8 w8 hown8 hg8
  obtain ⟨X, cX, rfl⟩ := own_slice hown8
  have Hs8 := Lib.hid (HS.out.s.grown hg8 (HS.out.s.ne_own hO_ (by decide)))
  have HF := Lib.hid (show ∃ p' a', Hid (SZ w (w8.setCell ⟨S, 3, none⟩ (.slice X (p.st.length + 1) cX)) S Z p' a') ∧ Hid (PQ (N + 1) (2 * E + 1) p') from ⟨_, _, Lib.hid (HS.out.ap (p' := ⟨p.office, p.num, p.needs, (p.st ++ [⟨0, 0, 0, 1, List.replicate kk clZ⟩]), p.pl, p.ma, p.er, p.dr, p.rt⟩) (a' := ⟨a.n, X, a.l, a.m, a.e, a.d, a.r, a.cn, cX, a.cl, a.cm, a.ce, a.cd, a.cr⟩) hO_ (by decide) hg8 (HS.out.r.app1 (vs := vs ++ [.int .i64 0, .int .i64 0, .int .i64 0, .int .i64 1, .slice (some ⟨d_, 0, none⟩) kk kk]) (ys := [⟨0, 0, 0, 1, List.replicate kk clZ⟩]) (by rw [List.length_append]; exact hown8) (by have := hV_.snoc (ax := 0) (ay := 0) (bx := 0) (by_ := 1) (C := some ⟨d_, 0, none⟩) (c := kk) (cl := List.replicate kk clZ) (SB.bk HL_d_.out) (by rw [List.length_replicate]; omega); rwa [List.length_replicate] at this) hg8) (by simp [paC])), Lib.hid (have q := pq_le Hq.out; ⟨⟨q.w.o, q.w.k, q.w.n, (fun x hx => by rcases List.mem_append.1 hx with h | h; exact q.w.s x h; rw [List.mem_singleton.1 h]; exact ⟨i64_0, i64_0, i64_0, i64_1, fun c hc => by rw [List.eq_of_mem_replicate hc]; exact ⟨i64_0, i64_0, i64_0, i64_0, i64_0⟩⟩), q.w.l, q.w.m, q.w.e, q.w.d, q.w.r⟩, q.n, by have := Hq.out.s; simp only [List.length_append, List.length_singleton]; omega, (fun y hy => by rcases List.mem_append.1 hy with h | h; exact q.c y h; rw [List.mem_singleton.1 h]; show (List.replicate kk clZ).length ≤ 100; rw [List.length_replicate]; exact hk100), q.l, q.x, q.m, q.e, q.d, q.r⟩)⟩)
  clear hown8 hg8 hO_ HS hV_
  refine hK10.out _ _ (Hs8.out.cell 3) ?_
  try simp only [Act.put, qz0, qz1, qz2]
  refine T_takeD (k := 11) (v := .pointer (some ⟨S, 3, none⟩)) (d := some 136) rfl rfl (by decide +kernel) (fun _ _ _ h => h) (Or.inl ⟨by rfl, fun W hW => by go_simp⟩) (Hs8.out.cell 3) ?_
  try simp only [Act.put, qz0, qz1, qz2]
  refine T_last (by decide +kernel) (by decide +kernel) (by decide +kernel) rfl rfl (fun K hKl => ?_)
  have hKl := Lib.hid hKl
  have d3 : w8.cell? ⟨S, 3, none⟩ = some (.slice a.s p.st.length a.cs) := Hs8.out.cell 3
  have d4 := Hs8.out.frozen 3
  go_simp
  refine hKl.out _ _ (NoPanic.normal ?_)
  try simp only [Act.put, qz0, qz1, qz2]
  obtain ⟨p', a', HZ, HQ⟩ := HF.out
  clear hKl d3 d4 Hs8 HF
  generalize w8.setCell ⟨S, 3, none⟩ (.slice X (p.st.length + 1) cX) = WF at *
  go_upto_region 49 with fail
  refine wp_region_lit ?_
  refine wpList_load_row rfl 34 (.tmp 4) rfl S 34 (paC p' a') _ rfl HZ.out.s Tryz.underlying34 rfl info_pa ?_
  refine wpList_store_row rfl 34 (.tmp 8) (.tmp 265) rfl Z 34 _ (paC p' a') rfl (by rfl) HZ.out.z info_pa rfl (paC_one _ _) ?_
  obtain ⟨hf1, hf2, hf3⟩ := HZ.out.fin
  have Hf1 := Lib.hid hf1
  have Hf2 := Lib.hid hf2
  have r0_ := hf3.cell 0
  have r1_ := hf3.cell 1
  have r2_ := hf3.cell 2
  have r3_ := hf3.cell 3
  have r4_ := hf3.cell 4
  have r5_ := hf3.cell 5
  have r6_ := hf3.cell 6
  have r7_ := hf3.cell 7
  have r8_ := hf3.cell 8
  clear hf1 hf2 hf3 HZ
  generalize World.setRow _ _ _ = WE at *
  go_wp2_with fail
  exact bodyPost_ret (v := .agg (paC p' a')) (by simp [results, Tryz.results41, go_sem, paC, r0_, r1_, r2_, r3_, r4_, r5_, r6_, r7_, r8_]) rfl ⟨p', a', rfl, Hf1.out, HQ.out, Hf2.out⟩
 go_upto_if 137 with fail
 by_cases h_7 : r = 7
 ·subst h_7
  have hb_ := around_bd by_ 8 (by decide)
  obtain ⟨xa, hxa⟩ : ∃ z, Hid (around by_ 8 = z) := ⟨_, Lib.hid rfl⟩
  have HAx := HAb.out 8 (by decide) (by decide)
  rw [hxa.out] at hb_ HAx
  obtain ⟨ja, nm, rfl, hja, hok_, hcl_⟩ := pick8s hb_
  have HAx := Lib.hid HAx
  have Hok := Lib.hid hok_
  have Hcl := Lib.hid hcl_
  have hja2 : ¬ ((8 : Int) ≤ (ja : Int)) := by omega
  clear hb_ hxa hok_ hcl_
  go_upto_region 31 with fail
  have HSd := Lib.hid HS.out.drew
  clear HS
  have HS := HSd
  clear HSd
  refine wp_region_noPanic ?_
  refine region_T (s := 14) (S := fun W => W.cell? ⟨S, 0, none⟩ = some (.int .i64 p.office) ∧ W.cell? ⟨S, 4, none⟩ = some (.slice a.l p.pl.length a.cl)) (by kernel_rfl) ?_
  change wpT _ _ _ _ _ 15 _ _ WR.drew
  generalize WR.drew = X0 at *
  refine T_takeD (k := 0) (v := .pointer (some ⟨S, 4, none⟩)) (d := some 139) rfl rfl (by decide +kernel) (fun _ _ _ h => h) (Or.inl ⟨by rfl, fun W hW => by obtain ⟨s0, s1⟩ := hW; go_simp⟩) ⟨HS.out.s.cell 0, HS.out.s.cell 4⟩ ?_
  try simp only [Act.put, qz0, qz1, qz2]
  refine T_takeD (k := 1) (v := .slice a.l p.pl.length a.cl) (d := some 140) rfl rfl (by decide +kernel) (fun _ _ _ h => h) (Or.inl ⟨by rfl, fun W hW => by obtain ⟨s0, s1⟩ := hW; go_simp⟩) ⟨HS.out.s.cell 0, HS.out.s.cell 4⟩ ?_
  try simp only [Act.put, qz0, qz1, qz2]
  refine T_takeD (k := 3) (v := .int .i64 by_) (d := some 142) rfl rfl (by decide +kernel) (fun _ _ _ h => h) (Or.inl ⟨by rfl, fun W hW => by obtain ⟨s0, s1⟩ := hW; go_simp⟩) ⟨HS.out.s.cell 0, HS.out.s.cell 4⟩ ?_
  try simp only [Act.put, qz0, qz1, qz2]
  refine T_takeD (k := 7) (v := .pointer (some ⟨S, 0, none⟩)) (d := some 146) rfl rfl (by decide +kernel) (fun _ _ _ h => h) (Or.inl ⟨by rfl, fun W hW => by obtain ⟨s0, s1⟩ := hW; go_simp⟩) ⟨HS.out.s.cell 0, HS.out.s.cell 4⟩ ?_
  try simp only [Act.put, qz0, qz1, qz2]
  refine T_takeD (k := 8) (v := .int .i64 p.office) (d := some 147) rfl rfl (by decide +kernel) (fun _ _ _ h => h) (Or.inl ⟨by rfl, fun W hW => by obtain ⟨s0, s1⟩ := hW; go_simp⟩) ⟨HS.out.s.cell 0, HS.out.s.cell 4⟩ ?_
  try simp only [Act.put, qz0, qz1, qz2]
  refine T_takeD (k := 9) (v := .int .i64 n) (d := some 148) rfl rfl (by decide +kernel) (fun _ _ _ h => h) (Or.inl ⟨by rfl, fun W hW => by obtain ⟨s0, s1⟩ := hW; go_simp⟩) ⟨HS.out.s.cell 0, HS.out.s.cell 4⟩ ?_
  try simp only [Act.put, qz0, qz1, qz2]
  refine T_two (i := 2) (j := 4) (by decide +kernel) (T_step rfl rfl (fun K hK6 => ?_)) (T_step rfl rfl (fun K hK6 => ?_))
  ·have hK6 := Lib.hid hK6
   go_simp
   have HL_g_ := Lib.hid (Bk.new X0 9 #[Value.string ⟨#[]⟩, Value.string ⟨#[97]⟩, Value.string ⟨#[65]⟩, Value.string ⟨#[97, 45]⟩, Value.string ⟨#[45, 97]⟩, Value.string ⟨#[115, 105, 120, 116, 101, 101, 110, 45, 98, 121, 116, 101, 115, 45, 49, 54]⟩, Value.string ⟨#[115, 101, 118, 101, 110, 116, 101, 101, 110, 45, 98, 121, 116, 101, 115, 45, 55]⟩, Value.string ⟨#[97, 95]⟩])
   have HS2 := Lib.hid (HS.out.alloc (.cells #[Value.string ⟨#[]⟩, Value.string ⟨#[97]⟩, Value.string ⟨#[65]⟩, Value.string ⟨#[97, 45]⟩, Value.string ⟨#[45, 97]⟩, Value.string ⟨#[115, 105, 120, 116, 101, 101, 110, 45, 98, 121, 116, 101, 115, 45, 49, 54]⟩, Value.string ⟨#[115, 101, 118, 101, 110, 116, 101, 101, 110, 45, 98, 121, 116, 101, 115, 45, 55]⟩, Value.string ⟨#[97, 95]⟩] 9))
   clear HS
   have HS := HS2
   clear HS2
   generalize X0.alloc (.cells #[Value.string ⟨#[]⟩, Value.string ⟨#[97]⟩, Value.string ⟨#[65]⟩, Value.string ⟨#[97, 45]⟩, Value.string ⟨#[45, 97]⟩, Value.string ⟨#[115, 105, 120, 116, 101, 101, 110, 45, 98, 121, 116, 101, 115, 45, 49, 54]⟩, Value.string ⟨#[115, 101, 118, 101, 110, 116, 101, 101, 110, 45, 98, 121, 116, 101, 115, 45, 55]⟩, Value.string ⟨#[97, 95]⟩] 9) = X0s at *
   generalize X0.heap.size = g_ at *
   refine hK6.out _ _ ⟨HS.out.s.cell 0, HS.out.s.cell 4⟩ ?_
   try simp only [Act.put, qz0, qz1, qz2]
   refine T_oneS (i := 4) (by decide +kernel) (T_step rfl rfl (fun K hK7 => ?_))
   have hK7 := Lib.hid hK7
   go_simp
   go_at_call 15
   refine (HAx.out _).mono ?_
   rintro e wz ⟨rfl, rfl⟩
   refine hK7.out _ _ ⟨HS.out.s.cell 0, HS.out.s.cell 4⟩ ?_
   try simp only [Act.put, qz0, qz1, qz2]
   refine T_takeD (k := 5) (v := .pointer (some ⟨g_, ja, none⟩)) (d := some 144) rfl rfl (by decide +kernel) (fun _ _ _ h => h) (Or.inl ⟨by rfl, fun W hW => by obtain ⟨s0, s1⟩ := hW; go_simp⟩) ⟨HS.out.s.cell 0, HS.out.s.cell 4⟩ ?_
   try simp only [Act.put, qz0, qz1, qz2]
   refine T_oneS (i := 6) (by decide +kernel) (T_step rfl rfl (fun K hK9 => ?_))
   have hK9 := Lib.hid hK9
   have cj : X0s.cell? ⟨g_, ja, none⟩ = some (.string nm) := (HL_g_.out.cell ja).trans Hcl.out
   go_simp
   clear cj HL_g_
   refine hK9.out _ _ ⟨HS.out.s.cell 0, HS.out.s.cell 4⟩ ?_
   try simp only [Act.put, qz0, qz1, qz2]
   refine T_oneS (i := 10) (by decide +kernel) (T_step rfl rfl (fun K hK10 => ?_))
   have hK10 := Lib.hid hK10
   refine wp_build_row 114 #[(1, .tmp 145), (2, .tmp 147), (4, .tmp 148)] rfl #[(1, .string nm), (2, .int .i64 p.office), (4, .int .i64 n)] (by simp [Act.eval]) _ (run_build_place7 nm p.office n _) ?_
   refine hK10.out _ _ ⟨HS.out.s.cell 0, HS.out.s.cell 4⟩ ?_
   try simp only [Act.put, qz0, qz1, qz2]
   refine T_oneS (i := 11) (by decide +kernel) (T_step rfl rfl (fun K hK11 => ?_))
   have hK11 := Lib.hid hK11
   refine wp_bs_row 29 1 #[(0, .tmp 149)] rfl #[(0, .agg #[.int .i64 0, .int .i64 0, .string nm, .int .i64 p.office, .int .i64 0, .int .i64 n])] (by simp [Act.eval]) _ (run_bs_place 0 0 nm p.office 0 n _) ?_
   have HL_h_ := Lib.hid (Bk.new X0s 114 #[.int .i64 0, .int .i64 0, .string nm, .int .i64 p.office, .int .i64 0, .int .i64 n])
   have HS2 := Lib.hid (HS.out.alloc (.cells #[.int .i64 0, .int .i64 0, .string nm, .int .i64 p.office, .int .i64 0, .int .i64 n] 114))
   clear HS
   have HS := HS2
   clear HS2
   generalize X0s.alloc (.cells #[.int .i64 0, .int .i64 0, .string nm, .int .i64 p.office, .int .i64 0, .int .i64 n] 114) = Wl at *
   generalize X0s.heap.size = h_ at *
   refine hK11.out _ _ ⟨HS.out.s.cell 0, HS.out.s.cell 4⟩ ?_
   try simp only [Act.put, qz0, qz1, qz2]
   refine T_oneS (i := 12) (by decide +kernel) (T_step rfl rfl (fun K hK12 => ?_))
   have hK12 := Lib.hid hK12
   have hO_ := HS.out.r.l (by omega)
   refine app_wp (us := [.int .i64 0, .int .i64 0, .string nm, .int .i64 p.office, .int .i64 0, .int .i64 n]) (xs := p.pl.flatMap plC) (n := p.pl.length) (base := w.heap.size) (c := 1) (H := h_) (v := .slice a.l p.pl.length a.cl) (.tmp 140) (.tmp 150) rfl elt_place (by simp [Act.eval]) (by simp [Act.eval]) hO_ HL_h_.out rfl rfl (by omega) HS.out.b.size ?_
   intro v8 w8 hown8 hg8
   obtain ⟨X, cX, rfl⟩ := own_slice hown8
   have Hs8 := Lib.hid (HS.out.s.grown hg8 (HS.out.s.ne_own hO_ (by decide)))
   have HF := Lib.hid (show ∃ p' a', Hid (SZ w (w8.setCell ⟨S, 4, none⟩ (.slice X (p.pl.length + 1) cX)) S Z p' a') ∧ Hid (PQ (N + 1) (2 * E + 1) p') from ⟨_, _, Lib.hid (HS.out.ap (p' := ⟨p.office, p.num, p.needs, p.st, (p.pl ++ [⟨0, 0, nm, p.office, 0, n⟩]), p.ma, p.er, p.dr, p.rt⟩) (a' := ⟨a.n, a.s, X, a.m, a.e, a.d, a.r, a.cn, a.cs, cX, a.cm, a.ce, a.cd, a.cr⟩) hO_ (by decide) hg8 (HS.out.r.app2 (ys := [⟨0, 0, nm, p.office, 0, n⟩]) (by rw [List.flatMap_append, List.length_append]; exact hown8) hg8) (by simp [paC])), Lib.hid (have q := pq_le Hq.out; ⟨⟨q.w.o, q.w.k, q.w.n, q.w.s, (fun x hx => by rcases List.mem_append.1 hx with h | h; exact q.w.l x h; rw [List.mem_singleton.1 h]; exact ⟨i64_0, i64_0, Hq.out.w.o, i64_0, Hn.out⟩), q.w.m, q.w.e, q.w.d, q.w.r⟩, q.n, q.s, q.c, by have := Hq.out.l; simp only [List.length_append, List.length_singleton]; omega, (fun y hy => by rcases List.mem_append.1 hy with h | h; exact q.x y h; rw [List.mem_singleton.1 h]; exact Hok.out), q.m, q.e, q.d, q.r⟩)⟩)
   clear hown8 hg8 hO_ HS
   refine hK12.out _ _ ⟨Hs8.out.cell 0, Hs8.out.cell 4⟩ ?_
   try simp only [Act.put, qz0, qz1, qz2]
   refine T_takeD (k := 13) (v := .pointer (some ⟨S, 4, none⟩)) (d := some 152) rfl rfl (by decide +kernel) (fun _ _ _ h => h) (Or.inl ⟨by rfl, fun W hW => by obtain ⟨s0, s1⟩ := hW; go_simp⟩) ⟨Hs8.out.cell 0, Hs8.out.cell 4⟩ ?_
   try simp only [Act.put, qz0, qz1, qz2]
   refine T_last (by decide +kernel) (by decide +kernel) (by decide +kernel) rfl rfl (fun K hKl => ?_)
   have hKl := Lib.hid hKl
   have d3 : w8.cell? ⟨S, 4, none⟩ = some (.slice a.l p.pl.length a.cl) := Hs8.out.cell 4
   have d4 := Hs8.out.frozen 4
   go_simp
   refine hKl.out _ _ (NoPanic.normal ?_)
   try simp only [Act.put, qz0, qz1, qz2]
   obtain ⟨p', a', HZ, HQ⟩ := HF.out
   clear hKl d3 d4 Hs8 HF
   generalize w8.setCell ⟨S, 4, none⟩ (.slice X (p.pl.length + 1) cX) = WF at *
   go_upto_region 49 with fail
   refine wp_region_lit ?_
   refine wpList_load_row rfl 34 (.tmp 4) rfl S 34 (paC p' a') _ rfl HZ.out.s Tryz.underlying34 rfl info_pa ?_
   refine wpList_store_row rfl 34 (.tmp 8) (.tmp 265) rfl Z 34 _ (paC p' a') rfl (by rfl) HZ.out.z info_pa rfl (paC_one _ _) ?_
   obtain ⟨hf1, hf2, hf3⟩ := HZ.out.fin
   have Hf1 := Lib.hid hf1
   have Hf2 := Lib.hid hf2
   have r0_ := hf3.cell 0
   have r1_ := hf3.cell 1
   have r2_ := hf3.cell 2
   have r3_ := hf3.cell 3
   have r4_ := hf3.cell 4
   have r5_ := hf3.cell 5
   have r6_ := hf3.cell 6
   have r7_ := hf3.cell 7
   have r8_ := hf3.cell 8
   clear hf1 hf2 hf3 HZ
   generalize World.setRow _ _ _ = WE at *
   go_wp2_with fail
   exact bodyPost_ret (v := .agg (paC p' a')) (by simp [results, Tryz.results41, go_sem, paC, r0_, r1_, r2_, r3_, r4_, r5_, r6_, r7_, r8_]) rfl ⟨p', a', rfl, Hf1.out, HQ.out, Hf2.out⟩
  ·have hK6 := Lib.hid hK6
   go_simp
   go_at_call 15
   refine (HAx.out _).mono ?_
   rintro e wz ⟨rfl, rfl⟩
   refine hK6.out _ _ ⟨HS.out.s.cell 0, HS.out.s.cell 4⟩ ?_
   try simp only [Act.put, qz0, qz1, qz2]
   refine T_oneS (i := 2) (by decide +kernel) (T_step rfl rfl (fun K hK7 => ?_))
   have hK7 := Lib.hid hK7
   go_simp
   have HL_g_ := Lib.hid (Bk.new X0 9 #[Value.string ⟨#[]⟩, Value.string ⟨#[97]⟩, Value.string ⟨#[65]⟩, Value.string ⟨#[97, 45]⟩, Value.string ⟨#[45, 97]⟩, Value.string ⟨#[115, 105, 120, 116, 101, 101, 110, 45, 98, 121, 116, 101, 115, 45, 49, 54]⟩, Value.string ⟨#[115, 101, 118, 101, 110, 116, 101, 101, 110, 45, 98, 121, 116, 101, 115, 45, 55]⟩, Value.string ⟨#[97, 95]⟩])
   have HS2 := Lib.hid (HS.out.alloc (.cells #[Value.string ⟨#[]⟩, Value.string ⟨#[97]⟩, Value.string ⟨#[65]⟩, Value.string ⟨#[97, 45]⟩, Value.string ⟨#[45, 97]⟩, Value.string ⟨#[115, 105, 120, 116, 101, 101, 110, 45, 98, 121, 116, 101, 115, 45, 49, 54]⟩, Value.string ⟨#[115, 101, 118, 101, 110, 116, 101, 101, 110, 45, 98, 121, 116, 101, 115, 45, 55]⟩, Value.string ⟨#[97, 95]⟩] 9))
   clear HS
   have HS := HS2
   clear HS2
   generalize X0.alloc (.cells #[Value.string ⟨#[]⟩, Value.string ⟨#[97]⟩, Value.string ⟨#[65]⟩, Value.string ⟨#[97, 45]⟩, Value.string ⟨#[45, 97]⟩, Value.string ⟨#[115, 105, 120, 116, 101, 101, 110, 45, 98, 121, 116, 101, 115, 45, 49, 54]⟩, Value.string ⟨#[115, 101, 118, 101, 110, 116, 101, 101, 110, 45, 98, 121, 116, 101, 115, 45, 55]⟩, Value.string ⟨#[97, 95]⟩] 9) = X0s at *
   generalize X0.heap.size = g_ at *
   refine hK7.out _ _ ⟨HS.out.s.cell 0, HS.out.s.cell 4⟩ ?_
   try simp only [Act.put, qz0, qz1, qz2]
   refine T_takeD (k := 5) (v := .pointer (some ⟨g_, ja, none⟩)) (d := some 144) rfl rfl (by decide +kernel) (fun _ _ _ h => h) (Or.inl ⟨by rfl, fun W hW => by obtain ⟨s0, s1⟩ := hW; go_simp⟩) ⟨HS.out.s.cell 0, HS.out.s.cell 4⟩ ?_
   try simp only [Act.put, qz0, qz1, qz2]
   refine T_oneS (i := 6) (by decide +kernel) (T_step rfl rfl (fun K hK9 => ?_))
   have hK9 := Lib.hid hK9
   have cj : X0s.cell? ⟨g_, ja, none⟩ = some (.string nm) := (HL_g_.out.cell ja).trans Hcl.out
   go_simp
   clear cj HL_g_
   refine hK9.out _ _ ⟨HS.out.s.cell 0, HS.out.s.cell 4⟩ ?_
   try simp only [Act.put, qz0, qz1, qz2]
   refine T_oneS (i := 10) (by decide +kernel) (T_step rfl rfl (fun K hK10 => ?_))
   have hK10 := Lib.hid hK10
   refine wp_build_row 114 #[(1, .tmp 145), (2, .tmp 147), (4, .tmp 148)] rfl #[(1, .string nm), (2, .int .i64 p.office), (4, .int .i64 n)] (by simp [Act.eval]) _ (run_build_place7 nm p.office n _) ?_
   refine hK10.out _ _ ⟨HS.out.s.cell 0, HS.out.s.cell 4⟩ ?_
   try simp only [Act.put, qz0, qz1, qz2]
   refine T_oneS (i := 11) (by decide +kernel) (T_step rfl rfl (fun K hK11 => ?_))
   have hK11 := Lib.hid hK11
   refine wp_bs_row 29 1 #[(0, .tmp 149)] rfl #[(0, .agg #[.int .i64 0, .int .i64 0, .string nm, .int .i64 p.office, .int .i64 0, .int .i64 n])] (by simp [Act.eval]) _ (run_bs_place 0 0 nm p.office 0 n _) ?_
   have HL_h_ := Lib.hid (Bk.new X0s 114 #[.int .i64 0, .int .i64 0, .string nm, .int .i64 p.office, .int .i64 0, .int .i64 n])
   have HS2 := Lib.hid (HS.out.alloc (.cells #[.int .i64 0, .int .i64 0, .string nm, .int .i64 p.office, .int .i64 0, .int .i64 n] 114))
   clear HS
   have HS := HS2
   clear HS2
   generalize X0s.alloc (.cells #[.int .i64 0, .int .i64 0, .string nm, .int .i64 p.office, .int .i64 0, .int .i64 n] 114) = Wl at *
   generalize X0s.heap.size = h_ at *
   refine hK11.out _ _ ⟨HS.out.s.cell 0, HS.out.s.cell 4⟩ ?_
   try simp only [Act.put, qz0, qz1, qz2]
   refine T_oneS (i := 12) (by decide +kernel) (T_step rfl rfl (fun K hK12 => ?_))
   have hK12 := Lib.hid hK12
   have hO_ := HS.out.r.l (by omega)
   refine app_wp (us := [.int .i64 0, .int .i64 0, .string nm, .int .i64 p.office, .int .i64 0, .int .i64 n]) (xs := p.pl.flatMap plC) (n := p.pl.length) (base := w.heap.size) (c := 1) (H := h_) (v := .slice a.l p.pl.length a.cl) (.tmp 140) (.tmp 150) rfl elt_place (by simp [Act.eval]) (by simp [Act.eval]) hO_ HL_h_.out rfl rfl (by omega) HS.out.b.size ?_
   intro v8 w8 hown8 hg8
   obtain ⟨X, cX, rfl⟩ := own_slice hown8
   have Hs8 := Lib.hid (HS.out.s.grown hg8 (HS.out.s.ne_own hO_ (by decide)))
   have HF := Lib.hid (show ∃ p' a', Hid (SZ w (w8.setCell ⟨S, 4, none⟩ (.slice X (p.pl.length + 1) cX)) S Z p' a') ∧ Hid (PQ (N + 1) (2 * E + 1) p') from ⟨_, _, Lib.hid (HS.out.ap (p' := ⟨p.office, p.num, p.needs, p.st, (p.pl ++ [⟨0, 0, nm, p.office, 0, n⟩]), p.ma, p.er, p.dr, p.rt⟩) (a' := ⟨a.n, a.s, X, a.m, a.e, a.d, a.r, a.cn, a.cs, cX, a.cm, a.ce, a.cd, a.cr⟩) hO_ (by decide) hg8 (HS.out.r.app2 (ys := [⟨0, 0, nm, p.office, 0, n⟩]) (by rw [List.flatMap_append, List.length_append]; exact hown8) hg8) (by simp [paC])), Lib.hid (have q := pq_le Hq.out; ⟨⟨q.w.o, q.w.k, q.w.n, q.w.s, (fun x hx => by rcases List.mem_append.1 hx with h | h; exact q.w.l x h; rw [List.mem_singleton.1 h]; exact ⟨i64_0, i64_0, Hq.out.w.o, i64_0, Hn.out⟩), q.w.m, q.w.e, q.w.d, q.w.r⟩, q.n, q.s, q.c, by have := Hq.out.l; simp only [List.length_append, List.length_singleton]; omega, (fun y hy => by rcases List.mem_append.1 hy with h | h; exact q.x y h; rw [List.mem_singleton.1 h]; exact Hok.out), q.m, q.e, q.d, q.r⟩)⟩)
   clear hown8 hg8 hO_ HS
   refine hK12.out _ _ ⟨Hs8.out.cell 0, Hs8.out.cell 4⟩ ?_
   try simp only [Act.put, qz0, qz1, qz2]
   refine T_takeD (k := 13) (v := .pointer (some ⟨S, 4, none⟩)) (d := some 152) rfl rfl (by decide +kernel) (fun _ _ _ h => h) (Or.inl ⟨by rfl, fun W hW => by obtain ⟨s0, s1⟩ := hW; go_simp⟩) ⟨Hs8.out.cell 0, Hs8.out.cell 4⟩ ?_
   try simp only [Act.put, qz0, qz1, qz2]
   refine T_last (by decide +kernel) (by decide +kernel) (by decide +kernel) rfl rfl (fun K hKl => ?_)
   have hKl := Lib.hid hKl
   have d3 : w8.cell? ⟨S, 4, none⟩ = some (.slice a.l p.pl.length a.cl) := Hs8.out.cell 4
   have d4 := Hs8.out.frozen 4
   go_simp
   refine hKl.out _ _ (NoPanic.normal ?_)
   try simp only [Act.put, qz0, qz1, qz2]
   obtain ⟨p', a', HZ, HQ⟩ := HF.out
   clear hKl d3 d4 Hs8 HF
   generalize w8.setCell ⟨S, 4, none⟩ (.slice X (p.pl.length + 1) cX) = WF at *
   go_upto_region 49 with fail
   refine wp_region_lit ?_
   refine wpList_load_row rfl 34 (.tmp 4) rfl S 34 (paC p' a') _ rfl HZ.out.s Tryz.underlying34 rfl info_pa ?_
   refine wpList_store_row rfl 34 (.tmp 8) (.tmp 265) rfl Z 34 _ (paC p' a') rfl (by rfl) HZ.out.z info_pa rfl (paC_one _ _) ?_
   obtain ⟨hf1, hf2, hf3⟩ := HZ.out.fin
   have Hf1 := Lib.hid hf1
   have Hf2 := Lib.hid hf2
   have r0_ := hf3.cell 0
   have r1_ := hf3.cell 1
   have r2_ := hf3.cell 2
   have r3_ := hf3.cell 3
   have r4_ := hf3.cell 4
   have r5_ := hf3.cell 5
   have r6_ := hf3.cell 6
   have r7_ := hf3.cell 7
   have r8_ := hf3.cell 8
   clear hf1 hf2 hf3 HZ
   generalize World.setRow _ _ _ = WE at *
   go_wp2_with fail
   exact bodyPost_ret (v := .agg (paC p' a')) (by simp [results, Tryz.results41, go_sem, paC, r0_, r1_, r2_, r3_, r4_, r5_, r6_, r7_, r8_]) rfl ⟨p', a', rfl, Hf1.out, HQ.out, Hf2.out⟩
 go_upto_if 153 with fail
 by_cases h_8 : r = 8
 ·subst h_8
  have hby := Hby.out
  unfold i64 at hby
  obtain ⟨m2, hm2⟩ : ∃ z, Hid (by_.tmod 2 = z) := ⟨_, Lib.hid rfl⟩
  have vm2 := hm2.out
  obtain ⟨m3, hm3⟩ : ∃ z, Hid (by_.tmod 3 = z) := ⟨_, Lib.hid rfl⟩
  have vm3 := hm3.out
  have hb3 : -3 ≤ m3 ∧ m3 ≤ 3 := by rw [← vm3]; exact tmod3 by_
  have Hm3 := Lib.hid (i64k (x := m3) (by omega))
  obtain ⟨oo, hoo⟩ : ∃ z, Hid (IntKind.i64.wrap (p.office + m2) = z) := ⟨_, Lib.hid rfl⟩
  have Hoo := Lib.hid (show i64 oo from hoo.out ▸ wrap_i64 _)
  have voo := hoo.out
  have voo2 : wrap64 (p.office + m2) = oo := by unfold wrap64; rw [← hoo.out, IntKind.wrap_i64]
  have c0 : WR.cell? ⟨S, 0, none⟩ = some (.int .i64 p.office) := HS.out.s.cell 0
  have c4 : WR.cell? ⟨S, 4, none⟩ = some (.slice a.l p.pl.length a.cl) := HS.out.s.cell 4
  have hO_ := HS.out.r.l (by omega)
  have hz_ := HSz.out
  go_upto_region 49 with (at_builtin; refine wpList_app2 (w := WR) (us := [.int .i64 0, .int .i64 0, .string ⟨#[120]⟩, .int .i64 oo, .int .i64 m3, .int .i64 1]) (xs := p.pl.flatMap plC) (n := p.pl.length) (base := w.heap.size) (v := .slice a.l p.pl.length a.cl) rfl _ _ rfl elt_place hO_ hz_ rfl rfl (by simp) rfl rfl (by omega) ?_; intro v8 w8 hown8 hg8 hz8; obtain ⟨X, cX, rfl⟩ := own_slice hown8; have hs8 := HS.out.s.grown hg8 (HS.out.s.ne_own hO_ (by decide)); have e3 : w8.cell? ⟨S, 4, none⟩ = some (.slice a.l p.pl.length a.cl) := hs8.cell 4; have e4 := hs8.frozen 4)
  have HF : ∃ p' a', Hid (SZ w (w8.setCell ⟨S, 4, none⟩ (.slice X (p.pl.length + 1) cX)) S Z p' a') ∧ Hid (PQ (N + 1) (2 * E + 1) p') := ⟨_, _, Lib.hid (HS.out.ap (p' := ⟨p.office, p.num, p.needs, p.st, (p.pl ++ [⟨0, 0, ⟨#[120]⟩, oo, m3, 1⟩]), p.ma, p.er, p.dr, p.rt⟩) (a' := ⟨a.n, a.s, X, a.m, a.e, a.d, a.r, a.cn, a.cs, cX, a.cm, a.ce, a.cd, a.cr⟩) hO_ (by decide) hg8 (HS.out.r.app2 (ys := [⟨0, 0, ⟨#[120]⟩, oo, m3, 1⟩]) (by rw [List.flatMap_append, List.length_append]; exact hown8) hg8) (by simp [paC])), Lib.hid (have q := pq_le Hq.out; ⟨⟨q.w.o, q.w.k, q.w.n, q.w.s, (fun x hx => by rcases List.mem_append.1 hx with h | h; exact q.w.l x h; rw [List.mem_singleton.1 h]; exact ⟨i64_0, i64_0, Hoo.out, Hm3.out, i64_1⟩), q.w.m, q.w.e, q.w.d, q.w.r⟩, q.n, q.s, q.c, by have := Hq.out.l; simp only [List.length_append, List.length_singleton]; omega, (fun y hy => by rcases List.mem_append.1 hy with h | h; exact q.x y h; rw [List.mem_singleton.1 h]; exact (by decide : 1 ≤ 1000)), q.m, q.e, q.d, q.r⟩)⟩
  generalize w8.setCell ⟨S, 4, none⟩ (.slice X (p.pl.length + 1) cX) = WF at *
  clear c0 c4 hO_ hz_ hown8 hg8 hz8 hs8 e3 e4
  obtain ⟨p', a', HZ, HQ⟩ := HF
  go_upto_region 49 with fail
  refine wp_region_lit ?_
  refine wpList_load_row rfl 34 (.tmp 4) rfl S 34 (paC p' a') _ rfl HZ.out.s Tryz.underlying34 rfl info_pa ?_
  refine wpList_store_row rfl 34 (.tmp 8) (.tmp 265) rfl Z 34 _ (paC p' a') rfl (by rfl) HZ.out.z info_pa rfl (paC_one _ _) ?_
  obtain ⟨hf1, hf2, hf3⟩ := HZ.out.fin
  have Hf1 := Lib.hid hf1
  have Hf2 := Lib.hid hf2
  have r0_ := hf3.cell 0
  have r1_ := hf3.cell 1
  have r2_ := hf3.cell 2
  have r3_ := hf3.cell 3
  have r4_ := hf3.cell 4
  have r5_ := hf3.cell 5
  have r6_ := hf3.cell 6
  have r7_ := hf3.cell 7
  have r8_ := hf3.cell 8
  clear hf1 hf2 hf3 HZ
  generalize World.setRow _ _ _ = WE at *
  go_wp2_with fail
  exact bodyPost_ret (v := .agg (paC p' a')) (by simp [results, Tryz.results41, go_sem, paC, r0_, r1_, r2_, r3_, r4_, r5_, r6_, r7_, r8_]) rfl ⟨p', a', rfl, Hf1.out, HQ.out, Hf2.out⟩
 go_upto_if 168 with fail
 by_cases h_9 : r = 9
 ·subst h_9
  obtain ⟨bu, hbu⟩ : ∃ z, Hid (IntKind.u64.wrap by_ = z) := ⟨_, Lib.hid rfl⟩
  have wv := hbu.out
  have Hbu := Lib.hid (show u64 bu from hbu.out ▸ u64_wrap by_)
  have c0 : WR.cell? ⟨S, 0, none⟩ = some (.int .i64 p.office) := HS.out.s.cell 0
  have c5 : WR.cell? ⟨S, 5, none⟩ = some (.slice a.m p.ma.length a.cm) := HS.out.s.cell 5
  have hO_ := HS.out.r.m (by omega)
  have hz_ := HSz.out
  go_upto_region 49 with (at_builtin; refine wpList_app2 (w := WR) (us := [.int .u64 bu, .int .i64 n, .int .i64 0, .int .i64 p.office, .int .i64 0, .int .i64 0, .int .i64 0]) (xs := p.ma.flatMap mkC) (n := p.ma.length) (base := w.heap.size) (v := .slice a.m p.ma.length a.cm) rfl _ _ rfl elt_mark hO_ hz_ rfl rfl (by simp) rfl rfl (by omega) ?_; intro v8 w8 hown8 hg8 hz8; obtain ⟨X, cX, rfl⟩ := own_slice hown8; have hs8 := HS.out.s.grown hg8 (HS.out.s.ne_own hO_ (by decide)); have e3 : w8.cell? ⟨S, 5, none⟩ = some (.slice a.m p.ma.length a.cm) := hs8.cell 5; have e4 := hs8.frozen 5)
  have HF : ∃ p' a', Hid (SZ w (w8.setCell ⟨S, 5, none⟩ (.slice X (p.ma.length + 1) cX)) S Z p' a') ∧ Hid (PQ (N + 1) (2 * E + 1) p') := ⟨_, _, Lib.hid (HS.out.ap (p' := ⟨p.office, p.num, p.needs, p.st, p.pl, (p.ma ++ [⟨bu, n, ⟨0, p.office, 0, 0, 0⟩⟩]), p.er, p.dr, p.rt⟩) (a' := ⟨a.n, a.s, a.l, X, a.e, a.d, a.r, a.cn, a.cs, a.cl, cX, a.ce, a.cd, a.cr⟩) hO_ (by decide) hg8 (HS.out.r.app3 (ys := [⟨bu, n, ⟨0, p.office, 0, 0, 0⟩⟩]) (by rw [List.flatMap_append, List.length_append]; exact hown8) hg8) (by simp [paC])), Lib.hid (have q := pq_le Hq.out; ⟨⟨q.w.o, q.w.k, q.w.n, q.w.s, q.w.l, (fun x hx => by rcases List.mem_append.1 hx with h | h; exact q.w.m x h; rw [List.mem_singleton.1 h]; exact ⟨Hbu.out, Hn.out, i64_0, Hq.out.w.o, i64_0, i64_0, i64_0⟩), q.w.e, q.w.d, q.w.r⟩, q.n, q.s, q.c, q.l, q.x, by have := Hq.out.m; simp only [List.length_append, List.length_singleton]; omega, q.e, q.d, q.r⟩)⟩
  generalize w8.setCell ⟨S, 5, none⟩ (.slice X (p.ma.length + 1) cX) = WF at *
  clear c0 c5 hO_ hz_ hown8 hg8 hz8 hs8 e3 e4
  obtain ⟨p', a', HZ, HQ⟩ := HF
  go_upto_region 49 with fail
  refine wp_region_lit ?_
  refine wpList_load_row rfl 34 (.tmp 4) rfl S 34 (paC p' a') _ rfl HZ.out.s Tryz.underlying34 rfl info_pa ?_
  refine wpList_store_row rfl 34 (.tmp 8) (.tmp 265) rfl Z 34 _ (paC p' a') rfl (by rfl) HZ.out.z info_pa rfl (paC_one _ _) ?_
  obtain ⟨hf1, hf2, hf3⟩ := HZ.out.fin
  have Hf1 := Lib.hid hf1
  have Hf2 := Lib.hid hf2
  have r0_ := hf3.cell 0
  have r1_ := hf3.cell 1
  have r2_ := hf3.cell 2
  have r3_ := hf3.cell 3
  have r4_ := hf3.cell 4
  have r5_ := hf3.cell 5
  have r6_ := hf3.cell 6
  have r7_ := hf3.cell 7
  have r8_ := hf3.cell 8
  clear hf1 hf2 hf3 HZ
  generalize World.setRow _ _ _ = WE at *
  go_wp2_with fail
  exact bodyPost_ret (v := .agg (paC p' a')) (by simp [results, Tryz.results41, go_sem, paC, r0_, r1_, r2_, r3_, r4_, r5_, r6_, r7_, r8_]) rfl ⟨p', a', rfl, Hf1.out, HQ.out, Hf2.out⟩
 go_upto_if 183 with fail
 by_cases h_10 : r = 10
 ·subst h_10
  by_cases hl_ : 0 < p.needs.length
  ·skip
   obtain ⟨bN, oN, y, hNe, n0, hy⟩ := SU.get (HS.out.r.pb.pt.n) (k := 0) hl_
   have HNe := Lib.hid hNe
   have Hy := Lib.hid (show u64 y from Hq.out.w.n y (List.mem_of_getElem? hy.out))
   have c2 : WR.cell? ⟨S, 2, none⟩ = some (.slice (some ⟨bN, oN, none⟩) p.needs.length a.cn) := by rw [← hNe]; exact HS.out.s.cell 2
   have Hn0 := Lib.hid (show WR.drew.cell? ⟨bN, oN, none⟩ = some (.int .u64 y) from n0)
   clear hNe hy n0
   go_upto_region 38 with fail
   have HSd := Lib.hid HS.out.drew
   clear HS
   have HS := HSd
   clear HSd
   refine wp_region_noPanic ?_
   refine region_T (s := 16) (S := fun W => W.cell? ⟨S, 0, none⟩ = some (.int .i64 p.office) ∧ W.cell? ⟨S, 2, none⟩ = some (.slice (some ⟨bN, oN, none⟩) p.needs.length a.cn) ∧ W.cell? ⟨S, 5, none⟩ = some (.slice a.m p.ma.length a.cm)) (by kernel_rfl) ?_
   change wpT _ _ _ _ _ 17 _ _ WR.drew
   generalize WR.drew = X0 at *
   refine T_takeD (k := 0) (v := .pointer (some ⟨S, 5, none⟩)) (d := some 189) rfl rfl (by decide +kernel) (fun _ _ _ h => h) (Or.inl ⟨by rfl, fun W hW => by obtain ⟨s0, s1, s2⟩ := hW; go_simp⟩) ⟨HS.out.s.cell 0, by rw [← HNe.out]; exact HS.out.s.cell 2, HS.out.s.cell 5⟩ ?_
   try simp only [Act.put, qz0, qz1, qz2]
   refine T_takeD (k := 1) (v := .slice a.m p.ma.length a.cm) (d := some 190) rfl rfl (by decide +kernel) (fun _ _ _ h => h) (Or.inl ⟨by rfl, fun W hW => by obtain ⟨s0, s1, s2⟩ := hW; go_simp⟩) ⟨HS.out.s.cell 0, by rw [← HNe.out]; exact HS.out.s.cell 2, HS.out.s.cell 5⟩ ?_
   try simp only [Act.put, qz0, qz1, qz2]
   refine T_takeD (k := 2) (v := .pointer (some ⟨S, 2, none⟩)) (d := some 191) rfl rfl (by decide +kernel) (fun _ _ _ h => h) (Or.inl ⟨by rfl, fun W hW => by obtain ⟨s0, s1, s2⟩ := hW; go_simp⟩) ⟨HS.out.s.cell 0, by rw [← HNe.out]; exact HS.out.s.cell 2, HS.out.s.cell 5⟩ ?_
   try simp only [Act.put, qz0, qz1, qz2]
   refine T_takeD (k := 3) (v := .slice (some ⟨bN, oN, none⟩) p.needs.length a.cn) (d := some 192) rfl rfl (by decide +kernel) (fun _ _ _ h => h) (Or.inl ⟨by rfl, fun W hW => by obtain ⟨s0, s1, s2⟩ := hW; go_simp⟩) ⟨HS.out.s.cell 0, by rw [← HNe.out]; exact HS.out.s.cell 2, HS.out.s.cell 5⟩ ?_
   try simp only [Act.put, qz0, qz1, qz2]
   refine T_takeD (k := 4) (v := .pointer (some ⟨bN, oN, none⟩)) (d := some 193) rfl rfl (by decide +kernel) (fun _ _ _ h => h) (Or.inl ⟨by rfl, fun W hW => by obtain ⟨s0, s1, s2⟩ := hW; go_simp⟩) ⟨HS.out.s.cell 0, by rw [← HNe.out]; exact HS.out.s.cell 2, HS.out.s.cell 5⟩ ?_
   try simp only [Act.put, qz0, qz1, qz2]
   refine T_takeD (k := 6) (v := .int .i64 n) (d := some 195) rfl rfl (by decide +kernel) (fun _ _ _ h => h) (Or.inl ⟨by rfl, fun W hW => by obtain ⟨s0, s1, s2⟩ := hW; go_simp⟩) ⟨HS.out.s.cell 0, by rw [← HNe.out]; exact HS.out.s.cell 2, HS.out.s.cell 5⟩ ?_
   try simp only [Act.put, qz0, qz1, qz2]
   refine T_takeD (k := 8) (v := .pointer (some ⟨S, 0, none⟩)) (d := some 197) rfl rfl (by decide +kernel) (fun _ _ _ h => h) (Or.inl ⟨by rfl, fun W hW => by obtain ⟨s0, s1, s2⟩ := hW; go_simp⟩) ⟨HS.out.s.cell 0, by rw [← HNe.out]; exact HS.out.s.cell 2, HS.out.s.cell 5⟩ ?_
   try simp only [Act.put, qz0, qz1, qz2]
   refine T_takeD (k := 9) (v := .int .i64 p.office) (d := some 198) rfl rfl (by decide +kernel) (fun _ _ _ h => h) (Or.inl ⟨by rfl, fun W hW => by obtain ⟨s0, s1, s2⟩ := hW; go_simp⟩) ⟨HS.out.s.cell 0, by rw [← HNe.out]; exact HS.out.s.cell 2, HS.out.s.cell 5⟩ ?_
   try simp only [Act.put, qz0, qz1, qz2]
   refine T_takeD (k := 10) (v := .int .i64 by_) (d := some 199) rfl rfl (by decide +kernel) (fun _ _ _ h => h) (Or.inl ⟨by rfl, fun W hW => by obtain ⟨s0, s1, s2⟩ := hW; go_simp⟩) ⟨HS.out.s.cell 0, by rw [← HNe.out]; exact HS.out.s.cell 2, HS.out.s.cell 5⟩ ?_
   try simp only [Act.put, qz0, qz1, qz2]
   refine T_takeD (k := 11) (v := .agg #[.int .i64 0, .int .i64 p.office, .int .i64 0, .int .i64 by_, .int .i64 0]) (d := some 200) rfl rfl (by decide +kernel) (fun _ _ _ h => h) (Or.inl ⟨by rfl, fun W hW => by obtain ⟨s0, s1, s2⟩ := hW; go_simp⟩) ⟨HS.out.s.cell 0, by rw [← HNe.out]; exact HS.out.s.cell 2, HS.out.s.cell 5⟩ ?_
   try simp only [Act.put, qz0, qz1, qz2]
   refine T_oneS (i := 5) (by decide +kernel) (T_step rfl rfl (fun K hK10 => ?_))
   have hK10 := Lib.hid hK10
   have cn : X0.cell? ⟨bN, oN, none⟩ = some (.int .u64 y) := Hn0.out
   go_simp
   clear cn Hn0 c2
   refine hK10.out _ _ ⟨HS.out.s.cell 0, by rw [← HNe.out]; exact HS.out.s.cell 2, HS.out.s.cell 5⟩ ?_
   try simp only [Act.put, qz0, qz1, qz2]
   refine T_takeD (k := 7) (v := .agg #[.int .u64 y, .int .i64 n]) (d := some 196) rfl rfl (by decide +kernel) (fun _ _ _ h => h) (Or.inl ⟨by rfl, fun W hW => by obtain ⟨s0, s1, s2⟩ := hW; go_simp⟩) ⟨HS.out.s.cell 0, by rw [← HNe.out]; exact HS.out.s.cell 2, HS.out.s.cell 5⟩ ?_
   try simp only [Act.put, qz0, qz1, qz2]
   refine T_oneS (i := 12) (by decide +kernel) (T_step rfl rfl (fun K hK12 => ?_))
   have hK12 := Lib.hid hK12
   refine wp_build_row 88 #[(0, .tmp 196), (1, .tmp 200)] rfl #[(0, .agg #[.int .u64 y, .int .i64 n]), (1, .agg #[.int .i64 0, .int .i64 p.office, .int .i64 0, .int .i64 by_, .int .i64 0])] (by simp [Act.eval]) _ (run_build_mark y n 0 p.office 0 by_ 0 _) ?_
   refine hK12.out _ _ ⟨HS.out.s.cell 0, by rw [← HNe.out]; exact HS.out.s.cell 2, HS.out.s.cell 5⟩ ?_
   try simp only [Act.put, qz0, qz1, qz2]
   refine T_oneS (i := 13) (by decide +kernel) (T_step rfl rfl (fun K hK13 => ?_))
   have hK13 := Lib.hid hK13
   refine wp_bs_row 30 1 #[(0, .tmp 201)] rfl #[(0, .agg #[.int .u64 y, .int .i64 n, .int .i64 0, .int .i64 p.office, .int .i64 0, .int .i64 by_, .int .i64 0])] (by simp [Act.eval]) _ (run_bs_mark y n 0 p.office 0 by_ 0 _) ?_
   have HL_h_ := Lib.hid (Bk.new X0 88 #[.int .u64 y, .int .i64 n, .int .i64 0, .int .i64 p.office, .int .i64 0, .int .i64 by_, .int .i64 0])
   have HS2 := Lib.hid (HS.out.alloc (.cells #[.int .u64 y, .int .i64 n, .int .i64 0, .int .i64 p.office, .int .i64 0, .int .i64 by_, .int .i64 0] 88))
   clear HS
   have HS := HS2
   clear HS2
   generalize X0.alloc (.cells #[.int .u64 y, .int .i64 n, .int .i64 0, .int .i64 p.office, .int .i64 0, .int .i64 by_, .int .i64 0] 88) = Wl at *
   generalize X0.heap.size = h_ at *
   refine hK13.out _ _ ⟨HS.out.s.cell 0, by rw [← HNe.out]; exact HS.out.s.cell 2, HS.out.s.cell 5⟩ ?_
   try simp only [Act.put, qz0, qz1, qz2]
   refine T_oneS (i := 14) (by decide +kernel) (T_step rfl rfl (fun K hK14 => ?_))
   have hK14 := Lib.hid hK14
   have hO_ := HS.out.r.m (by omega)
   refine app_wp (us := [.int .u64 y, .int .i64 n, .int .i64 0, .int .i64 p.office, .int .i64 0, .int .i64 by_, .int .i64 0]) (xs := p.ma.flatMap mkC) (n := p.ma.length) (base := w.heap.size) (c := 1) (H := h_) (v := .slice a.m p.ma.length a.cm) (.tmp 190) (.tmp 202) rfl elt_mark (by simp [Act.eval]) (by simp [Act.eval]) hO_ HL_h_.out rfl rfl (by omega) HS.out.b.size ?_
   intro v8 w8 hown8 hg8
   obtain ⟨X, cX, rfl⟩ := own_slice hown8
   have Hs8 := Lib.hid (HS.out.s.grown hg8 (HS.out.s.ne_own hO_ (by decide)))
   have HF := Lib.hid (show ∃ p' a', Hid (SZ w (w8.setCell ⟨S, 5, none⟩ (.slice X (p.ma.length + 1) cX)) S Z p' a') ∧ Hid (PQ (N + 1) (2 * E + 1) p') from ⟨_, _, Lib.hid (HS.out.ap (p' := ⟨p.office, p.num, p.needs, p.st, p.pl, (p.ma ++ [⟨y, n, ⟨0, p.office, 0, by_, 0⟩⟩]), p.er, p.dr, p.rt⟩) (a' := ⟨a.n, a.s, a.l, X, a.e, a.d, a.r, a.cn, a.cs, a.cl, cX, a.ce, a.cd, a.cr⟩) hO_ (by decide) hg8 (HS.out.r.app3 (ys := [⟨y, n, ⟨0, p.office, 0, by_, 0⟩⟩]) (by rw [List.flatMap_append, List.length_append]; exact hown8) hg8) (by simp [paC])), Lib.hid (have q := pq_le Hq.out; ⟨⟨q.w.o, q.w.k, q.w.n, q.w.s, q.w.l, (fun x hx => by rcases List.mem_append.1 hx with h | h; exact q.w.m x h; rw [List.mem_singleton.1 h]; exact ⟨Hy.out, Hn.out, i64_0, Hq.out.w.o, i64_0, Hby.out, i64_0⟩), q.w.e, q.w.d, q.w.r⟩, q.n, q.s, q.c, q.l, q.x, by have := Hq.out.m; simp only [List.length_append, List.length_singleton]; omega, q.e, q.d, q.r⟩)⟩)
   clear hown8 hg8 hO_ HS
   refine hK14.out _ _ ⟨Hs8.out.cell 0, by rw [← HNe.out]; exact Hs8.out.cell 2, Hs8.out.cell 5⟩ ?_
   try simp only [Act.put, qz0, qz1, qz2]
   refine T_takeD (k := 15) (v := .pointer (some ⟨S, 5, none⟩)) (d := some 204) rfl rfl (by decide +kernel) (fun _ _ _ h => h) (Or.inl ⟨by rfl, fun W hW => by obtain ⟨s0, s1, s2⟩ := hW; go_simp⟩) ⟨Hs8.out.cell 0, by rw [← HNe.out]; exact Hs8.out.cell 2, Hs8.out.cell 5⟩ ?_
   try simp only [Act.put, qz0, qz1, qz2]
   refine T_last (by decide +kernel) (by decide +kernel) (by decide +kernel) rfl rfl (fun K hKl => ?_)
   have hKl := Lib.hid hKl
   have d3 : w8.cell? ⟨S, 5, none⟩ = some (.slice a.m p.ma.length a.cm) := Hs8.out.cell 5
   have d4 := Hs8.out.frozen 5
   go_simp
   refine hKl.out _ _ (NoPanic.normal ?_)
   try simp only [Act.put, qz0, qz1, qz2]
   obtain ⟨p', a', HZ, HQ⟩ := HF.out
   clear hKl d3 d4 Hs8 HF
   generalize w8.setCell ⟨S, 5, none⟩ (.slice X (p.ma.length + 1) cX) = WF at *
   go_upto_region 49 with fail
   refine wp_region_lit ?_
   refine wpList_load_row rfl 34 (.tmp 4) rfl S 34 (paC p' a') _ rfl HZ.out.s Tryz.underlying34 rfl info_pa ?_
   refine wpList_store_row rfl 34 (.tmp 8) (.tmp 265) rfl Z 34 _ (paC p' a') rfl (by rfl) HZ.out.z info_pa rfl (paC_one _ _) ?_
   obtain ⟨hf1, hf2, hf3⟩ := HZ.out.fin
   have Hf1 := Lib.hid hf1
   have Hf2 := Lib.hid hf2
   have r0_ := hf3.cell 0
   have r1_ := hf3.cell 1
   have r2_ := hf3.cell 2
   have r3_ := hf3.cell 3
   have r4_ := hf3.cell 4
   have r5_ := hf3.cell 5
   have r6_ := hf3.cell 6
   have r7_ := hf3.cell 7
   have r8_ := hf3.cell 8
   clear hf1 hf2 hf3 HZ
   generalize World.setRow _ _ _ = WE at *
   go_wp2_with fail
   exact bodyPost_ret (v := .agg (paC p' a')) (by simp [results, Tryz.results41, go_sem, paC, r0_, r1_, r2_, r3_, r4_, r5_, r6_, r7_, r8_]) rfl ⟨p', a', rfl, Hf1.out, HQ.out, Hf2.out⟩
  ·have c2 : WR.cell? ⟨S, 2, none⟩ = some (.slice a.n p.needs.length a.cn) := HS.out.s.cell 2
   go_upto_region 49 with fail
   have HF : ∃ p' a', Hid (SZ w WR S Z p' a') ∧ Hid (PQ (N + 1) (2 * E + 1) p') := ⟨p, a, Lib.hid HS.out.out, Lib.hid (pq_le Hq.out)⟩
   clear c2
   obtain ⟨p', a', HZ, HQ⟩ := HF
   refine wp_region_lit ?_
   refine wpList_load_row rfl 34 (.tmp 4) rfl S 34 (paC p' a') _ rfl HZ.out.s Tryz.underlying34 rfl info_pa ?_
   refine wpList_store_row rfl 34 (.tmp 8) (.tmp 265) rfl Z 34 _ (paC p' a') rfl (by rfl) HZ.out.z info_pa rfl (paC_one _ _) ?_
   obtain ⟨hf1, hf2, hf3⟩ := HZ.out.fin
   have Hf1 := Lib.hid hf1
   have Hf2 := Lib.hid hf2
   have r0_ := hf3.cell 0
   have r1_ := hf3.cell 1
   have r2_ := hf3.cell 2
   have r3_ := hf3.cell 3
   have r4_ := hf3.cell 4
   have r5_ := hf3.cell 5
   have r6_ := hf3.cell 6
   have r7_ := hf3.cell 7
   have r8_ := hf3.cell 8
   clear hf1 hf2 hf3 HZ
   generalize World.setRow _ _ _ = WE at *
   go_wp2_with fail
   exact bodyPost_ret (v := .agg (paC p' a')) (by simp [results, Tryz.results41, go_sem, paC, r0_, r1_, r2_, r3_, r4_, r5_, r6_, r7_, r8_]) rfl ⟨p', a', rfl, Hf1.out, HQ.out, Hf2.out⟩
 go_upto_if 205 with fail
 by_cases h_11 : r = 11
 ·subst h_11
  by_cases hl_ : 0 < p.needs.length
  ·skip
   obtain ⟨km, hkm⟩ : ∃ z, Hid (p.needs.length = z + 1) := ⟨p.needs.length - 1, Lib.hid (by omega)⟩
   have hkm2 : ¬ (p.needs.length ≤ km) := by have := hkm.out; omega
   have km0 : (0 : Int) ≤ (km : Int) := by omega
   have hwk : IntKind.i64.wrap ((p.needs.length : Int) - 1) = (km : Int) := by have := hkm.out; rw [IntWalk.i64_in _ (by omega)]; omega
   obtain ⟨bN, oN, y, hNe, n0, hy⟩ := SU.get (HS.out.r.pb.pt.n) (k := km) (by have := hkm.out; omega)
   have HNe := Lib.hid hNe
   have Hy := Lib.hid (show u64 y from Hq.out.w.n y (List.mem_of_getElem? hy.out))
   have c2 : WR.cell? ⟨S, 2, none⟩ = some (.slice (some ⟨bN, oN, none⟩) p.needs.length a.cn) := by rw [← hNe]; exact HS.out.s.cell 2
   have Hn0 := Lib.hid (show WR.drew.cell? ⟨bN, oN + km, none⟩ = some (.int .u64 y) from n0)
   clear hNe hy n0
   go_upto_region 41 with fail
   have HSd := Lib.hid HS.out.drew
   clear HS
   have HS := HSd
   clear HSd
   refine wp_region_noPanic ?_
   refine region_T (s := 15) (S := fun W => W.cell? ⟨S, 2, none⟩ = some (.slice (some ⟨bN, oN, none⟩) p.needs.length a.cn) ∧ W.cell? ⟨S, 6, none⟩ = some (.slice a.e p.er.length a.ce)) (by kernel_rfl) ?_
   change wpT _ _ _ _ _ 16 _ _ WR.drew
   generalize WR.drew = X0 at *
   refine T_takeD (k := 0) (v := .pointer (some ⟨S, 6, none⟩)) (d := some 211) rfl rfl (by decide +kernel) (fun _ _ _ h => h) (Or.inl ⟨by rfl, fun W hW => by obtain ⟨s0, s1⟩ := hW; go_simp⟩) ⟨by rw [← HNe.out]; exact HS.out.s.cell 2, HS.out.s.cell 6⟩ ?_
   try simp only [Act.put, qz0, qz1, qz2]
   refine T_takeD (k := 1) (v := .slice a.e p.er.length a.ce) (d := some 212) rfl rfl (by decide +kernel) (fun _ _ _ h => h) (Or.inl ⟨by rfl, fun W hW => by obtain ⟨s0, s1⟩ := hW; go_simp⟩) ⟨by rw [← HNe.out]; exact HS.out.s.cell 2, HS.out.s.cell 6⟩ ?_
   try simp only [Act.put, qz0, qz1, qz2]
   refine T_takeD (k := 2) (v := .pointer (some ⟨S, 2, none⟩)) (d := some 213) rfl rfl (by decide +kernel) (fun _ _ _ h => h) (Or.inl ⟨by rfl, fun W hW => by obtain ⟨s0, s1⟩ := hW; go_simp⟩) ⟨by rw [← HNe.out]; exact HS.out.s.cell 2, HS.out.s.cell 6⟩ ?_
   try simp only [Act.put, qz0, qz1, qz2]
   refine T_takeD (k := 3) (v := .slice (some ⟨bN, oN, none⟩) p.needs.length a.cn) (d := some 214) rfl rfl (by decide +kernel) (fun _ _ _ h => h) (Or.inl ⟨by rfl, fun W hW => by obtain ⟨s0, s1⟩ := hW; go_simp⟩) ⟨by rw [← HNe.out]; exact HS.out.s.cell 2, HS.out.s.cell 6⟩ ?_
   try simp only [Act.put, qz0, qz1, qz2]
   refine T_takeD (k := 4) (v := .pointer (some ⟨S, 2, none⟩)) (d := some 215) rfl rfl (by decide +kernel) (fun _ _ _ h => h) (Or.inl ⟨by rfl, fun W hW => by obtain ⟨s0, s1⟩ := hW; go_simp⟩) ⟨by rw [← HNe.out]; exact HS.out.s.cell 2, HS.out.s.cell 6⟩ ?_
   try simp only [Act.put, qz0, qz1, qz2]
   refine T_takeD (k := 5) (v := .slice (some ⟨bN, oN, none⟩) p.needs.length a.cn) (d := some 216) rfl rfl (by decide +kernel) (fun _ _ _ h => h) (Or.inl ⟨by rfl, fun W hW => by obtain ⟨s0, s1⟩ := hW; go_simp⟩) ⟨by rw [← HNe.out]; exact HS.out.s.cell 2, HS.out.s.cell 6⟩ ?_
   try simp only [Act.put, qz0, qz1, qz2]
   refine T_takeD (k := 6) (v := .int .i64 (p.needs.length : Int)) (d := some 217) rfl rfl (by decide +kernel) (fun _ _ _ h => h) (Or.inl ⟨by rfl, fun W hW => by obtain ⟨s0, s1⟩ := hW; go_simp⟩) ⟨by rw [← HNe.out]; exact HS.out.s.cell 2, HS.out.s.cell 6⟩ ?_
   try simp only [Act.put, qz0, qz1, qz2]
   refine T_takeD (k := 7) (v := .int .i64 (km : Int)) (d := some 218) rfl rfl (by decide +kernel) (fun _ _ _ h => h) (Or.inl ⟨by rfl, fun W hW => by obtain ⟨s0, s1⟩ := hW; go_simp⟩) ⟨by rw [← HNe.out]; exact HS.out.s.cell 2, HS.out.s.cell 6⟩ ?_
   try simp only [Act.put, qz0, qz1, qz2]
   refine T_takeD (k := 8) (v := .pointer (some ⟨bN, oN + km, none⟩)) (d := some 219) rfl rfl (by decide +kernel) (fun _ _ _ h => h) (Or.inl ⟨by rfl, fun W hW => by obtain ⟨s0, s1⟩ := hW; go_simp⟩) ⟨by rw [← HNe.out]; exact HS.out.s.cell 2, HS.out.s.cell 6⟩ ?_
   try simp only [Act.put, qz0, qz1, qz2]
   refine T_takeD (k := 10) (v := .int .i64 n) (d := some 221) rfl rfl (by decide +kernel) (fun _ _ _ h => h) (Or.inl ⟨by rfl, fun W hW => by obtain ⟨s0, s1⟩ := hW; go_simp⟩) ⟨by rw [← HNe.out]; exact HS.out.s.cell 2, HS.out.s.cell 6⟩ ?_
   try simp only [Act.put, qz0, qz1, qz2]
   refine T_oneS (i := 9) (by decide +kernel) (T_step rfl rfl (fun K hK10 => ?_))
   have hK10 := Lib.hid hK10
   have cn : X0.cell? ⟨bN, oN + km, none⟩ = some (.int .u64 y) := Hn0.out
   go_simp
   clear cn Hn0 c2
   refine hK10.out _ _ ⟨by rw [← HNe.out]; exact HS.out.s.cell 2, HS.out.s.cell 6⟩ ?_
   try simp only [Act.put, qz0, qz1, qz2]
   refine T_takeD (k := 11) (v := .agg #[.int .u64 y, .int .i64 n]) (d := some 222) rfl rfl (by decide +kernel) (fun _ _ _ h => h) (Or.inl ⟨by rfl, fun W hW => by obtain ⟨s0, s1⟩ := hW; go_simp⟩) ⟨by rw [← HNe.out]; exact HS.out.s.cell 2, HS.out.s.cell 6⟩ ?_
   try simp only [Act.put, qz0, qz1, qz2]
   refine T_oneS (i := 12) (by decide +kernel) (T_step rfl rfl (fun K hK12 => ?_))
   have hK12 := Lib.hid hK12
   go_simp
   have HL_h_ := Lib.hid (Bk.new X0 77 #[.int .u64 y, .int .i64 n])
   have HS2 := Lib.hid (HS.out.alloc (.cells #[.int .u64 y, .int .i64 n] 77))
   clear HS
   have HS := HS2
   clear HS2
   generalize X0.alloc (.cells #[.int .u64 y, .int .i64 n] 77) = Wl at *
   generalize X0.heap.size = h_ at *
   refine hK12.out _ _ ⟨by rw [← HNe.out]; exact HS.out.s.cell 2, HS.out.s.cell 6⟩ ?_
   try simp only [Act.put, qz0, qz1, qz2]
   refine T_oneS (i := 13) (by decide +kernel) (T_step rfl rfl (fun K hK13 => ?_))
   have hK13 := Lib.hid hK13
   have hO_ := HS.out.r.e (by omega)
   refine app_wp (us := [.int .u64 y, .int .i64 n]) (xs := idC p.er) (n := p.er.length) (base := w.heap.size) (c := 1) (H := h_) (v := .slice a.e p.er.length a.ce) (.tmp 212) (.tmp 223) rfl elt_id (by simp [Act.eval]) (by simp [Act.eval]) hO_ HL_h_.out rfl rfl (by omega) HS.out.b.size ?_
   intro v8 w8 hown8 hg8
   obtain ⟨X, cX, rfl⟩ := own_slice hown8
   have Hs8 := Lib.hid (HS.out.s.grown hg8 (HS.out.s.ne_own hO_ (by decide)))
   have HF := Lib.hid (show ∃ p' a', Hid (SZ w (w8.setCell ⟨S, 6, none⟩ (.slice X (p.er.length + 1) cX)) S Z p' a') ∧ Hid (PQ (N + 1) (2 * E + 1) p') from ⟨_, _, Lib.hid (HS.out.ap (p' := ⟨p.office, p.num, p.needs, p.st, p.pl, p.ma, (p.er ++ [(y, n)]), p.dr, p.rt⟩) (a' := ⟨a.n, a.s, a.l, a.m, X, a.d, a.r, a.cn, a.cs, a.cl, a.cm, cX, a.cd, a.cr⟩) hO_ (by decide) hg8 (HS.out.r.app4 (ys := [(y, n)]) (by rw [idC_app, List.length_append]; exact hown8) hg8) (by simp [paC])), Lib.hid (have q := pq_le Hq.out; ⟨⟨q.w.o, q.w.k, q.w.n, q.w.s, q.w.l, q.w.m, (fun x hx => by rcases List.mem_append.1 hx with h | h; exact q.w.e x h; rw [List.mem_singleton.1 h]; exact ⟨Hy.out, Hn.out⟩), q.w.d, q.w.r⟩, q.n, q.s, q.c, q.l, q.x, q.m, by have := Hq.out.e; simp only [List.length_append, List.length_singleton]; omega, q.d, q.r⟩)⟩)
   clear hown8 hg8 hO_ HS
   refine hK13.out _ _ ⟨by rw [← HNe.out]; exact Hs8.out.cell 2, Hs8.out.cell 6⟩ ?_
   try simp only [Act.put, qz0, qz1, qz2]
   refine T_takeD (k := 14) (v := .pointer (some ⟨S, 6, none⟩)) (d := some 225) rfl rfl (by decide +kernel) (fun _ _ _ h => h) (Or.inl ⟨by rfl, fun W hW => by obtain ⟨s0, s1⟩ := hW; go_simp⟩) ⟨by rw [← HNe.out]; exact Hs8.out.cell 2, Hs8.out.cell 6⟩ ?_
   try simp only [Act.put, qz0, qz1, qz2]
   refine T_last (by decide +kernel) (by decide +kernel) (by decide +kernel) rfl rfl (fun K hKl => ?_)
   have hKl := Lib.hid hKl
   have d3 : w8.cell? ⟨S, 6, none⟩ = some (.slice a.e p.er.length a.ce) := Hs8.out.cell 6
   have d4 := Hs8.out.frozen 6
   go_simp
   refine hKl.out _ _ (NoPanic.normal ?_)
   try simp only [Act.put, qz0, qz1, qz2]
   obtain ⟨p', a', HZ, HQ⟩ := HF.out
   clear hKl d3 d4 Hs8 HF
   generalize w8.setCell ⟨S, 6, none⟩ (.slice X (p.er.length + 1) cX) = WF at *
   go_upto_region 49 with fail
   refine wp_region_lit ?_
   refine wpList_load_row rfl 34 (.tmp 4) rfl S 34 (paC p' a') _ rfl HZ.out.s Tryz.underlying34 rfl info_pa ?_
   refine wpList_store_row rfl 34 (.tmp 8) (.tmp 265) rfl Z 34 _ (paC p' a') rfl (by rfl) HZ.out.z info_pa rfl (paC_one _ _) ?_
   obtain ⟨hf1, hf2, hf3⟩ := HZ.out.fin
   have Hf1 := Lib.hid hf1
   have Hf2 := Lib.hid hf2
   have r0_ := hf3.cell 0
   have r1_ := hf3.cell 1
   have r2_ := hf3.cell 2
   have r3_ := hf3.cell 3
   have r4_ := hf3.cell 4
   have r5_ := hf3.cell 5
   have r6_ := hf3.cell 6
   have r7_ := hf3.cell 7
   have r8_ := hf3.cell 8
   clear hf1 hf2 hf3 HZ
   generalize World.setRow _ _ _ = WE at *
   go_wp2_with fail
   exact bodyPost_ret (v := .agg (paC p' a')) (by simp [results, Tryz.results41, go_sem, paC, r0_, r1_, r2_, r3_, r4_, r5_, r6_, r7_, r8_]) rfl ⟨p', a', rfl, Hf1.out, HQ.out, Hf2.out⟩
  ·have c2 : WR.cell? ⟨S, 2, none⟩ = some (.slice a.n p.needs.length a.cn) := HS.out.s.cell 2
   go_upto_region 49 with fail
   have HF : ∃ p' a', Hid (SZ w WR S Z p' a') ∧ Hid (PQ (N + 1) (2 * E + 1) p') := ⟨p, a, Lib.hid HS.out.out, Lib.hid (pq_le Hq.out)⟩
   clear c2
   obtain ⟨p', a', HZ, HQ⟩ := HF
   refine wp_region_lit ?_
   refine wpList_load_row rfl 34 (.tmp 4) rfl S 34 (paC p' a') _ rfl HZ.out.s Tryz.underlying34 rfl info_pa ?_
   refine wpList_store_row rfl 34 (.tmp 8) (.tmp 265) rfl Z 34 _ (paC p' a') rfl (by rfl) HZ.out.z info_pa rfl (paC_one _ _) ?_
   obtain ⟨hf1, hf2, hf3⟩ := HZ.out.fin
   have Hf1 := Lib.hid hf1
   have Hf2 := Lib.hid hf2
   have r0_ := hf3.cell 0
   have r1_ := hf3.cell 1
   have r2_ := hf3.cell 2
   have r3_ := hf3.cell 3
   have r4_ := hf3.cell 4
   have r5_ := hf3.cell 5
   have r6_ := hf3.cell 6
   have r7_ := hf3.cell 7
   have r8_ := hf3.cell 8
   clear hf1 hf2 hf3 HZ
   generalize World.setRow _ _ _ = WE at *
   go_wp2_with fail
   exact bodyPost_ret (v := .agg (paC p' a')) (by simp [results, Tryz.results41, go_sem, paC, r0_, r1_, r2_, r3_, r4_, r5_, r6_, r7_, r8_]) rfl ⟨p', a', rfl, Hf1.out, HQ.out, Hf2.out⟩
 go_upto_if 226 with fail
 by_cases h_12 : r = 12
 ·subst h_12
  have c6 : WR.cell? ⟨S, 6, none⟩ = some (.slice a.e p.er.length a.ce) := HS.out.s.cell 6
  have hO_ := HS.out.r.e (by omega)
  have hz_ := HSz.out
  have hB_ := SL.of_own hO_
  have hl_ := idC_len p.er
  have h1_ : (idC p.er).all (·.oneCell') = true := by unfold idC; exact flat_oneS (f := fun t : Int × Int => [Value.int .u64 t.1, Value.int .i64 t.2]) (fun _ => rfl) _
  go_upto_region 49 with (at_builtin; refine wpList_appM' (w := WR) (base := w.heap.size) (us := idC p.er) (xs := idC p.er) (n := p.er.length) (m := p.er.length) (B := a.e) (c := a.ce) (v := .slice a.e p.er.length a.ce) rfl _ _ rfl elt_id hO_ hz_ rfl rfl hB_ hl_ h1_ (by omega) ?_; intro v8 w8 hown8 hg8; obtain ⟨X, cX, rfl⟩ := own_slice hown8; have hs8 := HS.out.s.grown hg8 (HS.out.s.ne_own hO_ (by decide)); have e3 : w8.cell? ⟨S, 6, none⟩ = some (.slice a.e p.er.length a.ce) := hs8.cell 6; have e4 := hs8.frozen 6)
  have HF : ∃ p' a', Hid (SZ w (w8.setCell ⟨S, 6, none⟩ (.slice X (p.er.length + p.er.length) cX)) S Z p' a') ∧ Hid (PQ (N + 1) (2 * E + 1) p') := ⟨_, _, Lib.hid (HS.out.ap (p' := ⟨p.office, p.num, p.needs, p.st, p.pl, p.ma, (p.er ++ p.er), p.dr, p.rt⟩) (a' := ⟨a.n, a.s, a.l, a.m, X, a.d, a.r, a.cn, a.cs, a.cl, a.cm, cX, a.cd, a.cr⟩) hO_ (by decide) hg8 (HS.out.r.app4 (ys := p.er) (by rw [idC_app, List.length_append]; exact hown8) hg8) (by simp [paC])), Lib.hid (have q := pq_le Hq.out; ⟨⟨q.w.o, q.w.k, q.w.n, q.w.s, q.w.l, q.w.m, (fun x hx => by rcases List.mem_append.1 hx with h | h; exact q.w.e x h; exact q.w.e x h), q.w.d, q.w.r⟩, q.n, q.s, q.c, q.l, q.x, q.m, by have := Hq.out.e; simp only [List.length_append]; omega, q.d, q.r⟩)⟩
  generalize w8.setCell ⟨S, 6, none⟩ (.slice X (p.er.length + p.er.length) cX) = WF at *
  clear c6 hO_ hz_ hown8 hg8 hs8 e3 e4 hB_ hl_ h1_
  obtain ⟨p', a', HZ, HQ⟩ := HF
  go_upto_region 49 with fail
  refine wp_region_lit ?_
  refine wpList_load_row rfl 34 (.tmp 4) rfl S 34 (paC p' a') _ rfl HZ.out.s Tryz.underlying34 rfl info_pa ?_
  refine wpList_store_row rfl 34 (.tmp 8) (.tmp 265) rfl Z 34 _ (paC p' a') rfl (by rfl) HZ.out.z info_pa rfl (paC_one _ _) ?_
  obtain ⟨hf1, hf2, hf3⟩ := HZ.out.fin
  have Hf1 := Lib.hid hf1
  have Hf2 := Lib.hid hf2
  have r0_ := hf3.cell 0
  have r1_ := hf3.cell 1
  have r2_ := hf3.cell 2
  have r3_ := hf3.cell 3
  have r4_ := hf3.cell 4
  have r5_ := hf3.cell 5
  have r6_ := hf3.cell 6
  have r7_ := hf3.cell 7
  have r8_ := hf3.cell 8
  clear hf1 hf2 hf3 HZ
  generalize World.setRow _ _ _ = WE at *
  go_wp2_with fail
  exact bodyPost_ret (v := .agg (paC p' a')) (by simp [results, Tryz.results41, go_sem, paC, r0_, r1_, r2_, r3_, r4_, r5_, r6_, r7_, r8_]) rfl ⟨p', a', rfl, Hf1.out, HQ.out, Hf2.out⟩
 go_upto_if 234 with fail
 by_cases h_13 : r = 13
 ·subst h_13
  by_cases hl_ : 0 < p.needs.length
  ·skip
   obtain ⟨bN, oN, y, hNe, n0, hy⟩ := SU.get (HS.out.r.pb.pt.n) (k := 0) hl_
   have HNe := Lib.hid hNe
   have Hy := Lib.hid (show u64 y from Hq.out.w.n y (List.mem_of_getElem? hy.out))
   have c2 : WR.cell? ⟨S, 2, none⟩ = some (.slice (some ⟨bN, oN, none⟩) p.needs.length a.cn) := by rw [← hNe]; exact HS.out.s.cell 2
   have Hn0 := Lib.hid (show WR.drew.cell? ⟨bN, oN, none⟩ = some (.int .u64 y) from n0)
   clear hNe hy n0
   go_upto_region 46 with fail
   have HSd := Lib.hid HS.out.drew
   clear HS
   have HS := HSd
   clear HSd
   refine wp_region_noPanic ?_
   refine region_T (s := 11) (S := fun W => W.cell? ⟨S, 2, none⟩ = some (.slice (some ⟨bN, oN, none⟩) p.needs.length a.cn) ∧ W.cell? ⟨S, 7, none⟩ = some (.slice a.d p.dr.length a.cd)) (by kernel_rfl) ?_
   change wpT _ _ _ _ _ 12 _ _ WR.drew
   generalize WR.drew = X0 at *
   refine T_takeD (k := 0) (v := .pointer (some ⟨S, 7, none⟩)) (d := some 240) rfl rfl (by decide +kernel) (fun _ _ _ h => h) (Or.inl ⟨by rfl, fun W hW => by obtain ⟨s0, s1⟩ := hW; go_simp⟩) ⟨by rw [← HNe.out]; exact HS.out.s.cell 2, HS.out.s.cell 7⟩ ?_
   try simp only [Act.put, qz0, qz1, qz2]
   refine T_takeD (k := 1) (v := .slice a.d p.dr.length a.cd) (d := some 241) rfl rfl (by decide +kernel) (fun _ _ _ h => h) (Or.inl ⟨by rfl, fun W hW => by obtain ⟨s0, s1⟩ := hW; go_simp⟩) ⟨by rw [← HNe.out]; exact HS.out.s.cell 2, HS.out.s.cell 7⟩ ?_
   try simp only [Act.put, qz0, qz1, qz2]
   refine T_takeD (k := 2) (v := .pointer (some ⟨S, 2, none⟩)) (d := some 242) rfl rfl (by decide +kernel) (fun _ _ _ h => h) (Or.inl ⟨by rfl, fun W hW => by obtain ⟨s0, s1⟩ := hW; go_simp⟩) ⟨by rw [← HNe.out]; exact HS.out.s.cell 2, HS.out.s.cell 7⟩ ?_
   try simp only [Act.put, qz0, qz1, qz2]
   refine T_takeD (k := 3) (v := .slice (some ⟨bN, oN, none⟩) p.needs.length a.cn) (d := some 243) rfl rfl (by decide +kernel) (fun _ _ _ h => h) (Or.inl ⟨by rfl, fun W hW => by obtain ⟨s0, s1⟩ := hW; go_simp⟩) ⟨by rw [← HNe.out]; exact HS.out.s.cell 2, HS.out.s.cell 7⟩ ?_
   try simp only [Act.put, qz0, qz1, qz2]
   refine T_takeD (k := 4) (v := .pointer (some ⟨bN, oN, none⟩)) (d := some 244) rfl rfl (by decide +kernel) (fun _ _ _ h => h) (Or.inl ⟨by rfl, fun W hW => by obtain ⟨s0, s1⟩ := hW; go_simp⟩) ⟨by rw [← HNe.out]; exact HS.out.s.cell 2, HS.out.s.cell 7⟩ ?_
   try simp only [Act.put, qz0, qz1, qz2]
   refine T_takeD (k := 6) (v := .int .i64 n) (d := some 246) rfl rfl (by decide +kernel) (fun _ _ _ h => h) (Or.inl ⟨by rfl, fun W hW => by obtain ⟨s0, s1⟩ := hW; go_simp⟩) ⟨by rw [← HNe.out]; exact HS.out.s.cell 2, HS.out.s.cell 7⟩ ?_
   try simp only [Act.put, qz0, qz1, qz2]
   refine T_oneS (i := 5) (by decide +kernel) (T_step rfl rfl (fun K hK6 => ?_))
   have hK6 := Lib.hid hK6
   have cn : X0.cell? ⟨bN, oN, none⟩ = some (.int .u64 y) := Hn0.out
   go_simp
   clear cn Hn0 c2
   refine hK6.out _ _ ⟨by rw [← HNe.out]; exact HS.out.s.cell 2, HS.out.s.cell 7⟩ ?_
   try simp only [Act.put, qz0, qz1, qz2]
   refine T_takeD (k := 7) (v := .agg #[.int .u64 y, .int .i64 n]) (d := some 247) rfl rfl (by decide +kernel) (fun _ _ _ h => h) (Or.inl ⟨by rfl, fun W hW => by obtain ⟨s0, s1⟩ := hW; go_simp⟩) ⟨by rw [← HNe.out]; exact HS.out.s.cell 2, HS.out.s.cell 7⟩ ?_
   try simp only [Act.put, qz0, qz1, qz2]
   refine T_oneS (i := 8) (by decide +kernel) (T_step rfl rfl (fun K hK8 => ?_))
   have hK8 := Lib.hid hK8
   go_simp
   have HL_h_ := Lib.hid (Bk.new X0 77 #[.int .u64 y, .int .i64 n])
   have HS2 := Lib.hid (HS.out.alloc (.cells #[.int .u64 y, .int .i64 n] 77))
   clear HS
   have HS := HS2
   clear HS2
   generalize X0.alloc (.cells #[.int .u64 y, .int .i64 n] 77) = Wl at *
   generalize X0.heap.size = h_ at *
   refine hK8.out _ _ ⟨by rw [← HNe.out]; exact HS.out.s.cell 2, HS.out.s.cell 7⟩ ?_
   try simp only [Act.put, qz0, qz1, qz2]
   refine T_oneS (i := 9) (by decide +kernel) (T_step rfl rfl (fun K hK9 => ?_))
   have hK9 := Lib.hid hK9
   have hO_ := HS.out.r.d (by omega)
   refine app_wp (us := [.int .u64 y, .int .i64 n]) (xs := idC p.dr) (n := p.dr.length) (base := w.heap.size) (c := 1) (H := h_) (v := .slice a.d p.dr.length a.cd) (.tmp 241) (.tmp 248) rfl elt_id (by simp [Act.eval]) (by simp [Act.eval]) hO_ HL_h_.out rfl rfl (by omega) HS.out.b.size ?_
   intro v8 w8 hown8 hg8
   obtain ⟨X, cX, rfl⟩ := own_slice hown8
   have Hs8 := Lib.hid (HS.out.s.grown hg8 (HS.out.s.ne_own hO_ (by decide)))
   have HF := Lib.hid (show ∃ p' a', Hid (SZ w (w8.setCell ⟨S, 7, none⟩ (.slice X (p.dr.length + 1) cX)) S Z p' a') ∧ Hid (PQ (N + 1) (2 * E + 1) p') from ⟨_, _, Lib.hid (HS.out.ap (p' := ⟨p.office, p.num, p.needs, p.st, p.pl, p.ma, p.er, (p.dr ++ [(y, n)]), p.rt⟩) (a' := ⟨a.n, a.s, a.l, a.m, a.e, X, a.r, a.cn, a.cs, a.cl, a.cm, a.ce, cX, a.cr⟩) hO_ (by decide) hg8 (HS.out.r.app5 (ys := [(y, n)]) (by rw [idC_app, List.length_append]; exact hown8) hg8) (by simp [paC])), Lib.hid (have q := pq_le Hq.out; ⟨⟨q.w.o, q.w.k, q.w.n, q.w.s, q.w.l, q.w.m, q.w.e, (fun x hx => by rcases List.mem_append.1 hx with h | h; exact q.w.d x h; rw [List.mem_singleton.1 h]; exact ⟨Hy.out, Hn.out⟩), q.w.r⟩, q.n, q.s, q.c, q.l, q.x, q.m, q.e, by have := Hq.out.d; simp only [List.length_append, List.length_singleton]; omega, q.r⟩)⟩)
   clear hown8 hg8 hO_ HS
   refine hK9.out _ _ ⟨by rw [← HNe.out]; exact Hs8.out.cell 2, Hs8.out.cell 7⟩ ?_
   try simp only [Act.put, qz0, qz1, qz2]
   refine T_takeD (k := 10) (v := .pointer (some ⟨S, 7, none⟩)) (d := some 250) rfl rfl (by decide +kernel) (fun _ _ _ h => h) (Or.inl ⟨by rfl, fun W hW => by obtain ⟨s0, s1⟩ := hW; go_simp⟩) ⟨by rw [← HNe.out]; exact Hs8.out.cell 2, Hs8.out.cell 7⟩ ?_
   try simp only [Act.put, qz0, qz1, qz2]
   refine T_last (by decide +kernel) (by decide +kernel) (by decide +kernel) rfl rfl (fun K hKl => ?_)
   have hKl := Lib.hid hKl
   have d3 : w8.cell? ⟨S, 7, none⟩ = some (.slice a.d p.dr.length a.cd) := Hs8.out.cell 7
   have d4 := Hs8.out.frozen 7
   go_simp
   refine hKl.out _ _ (NoPanic.normal ?_)
   try simp only [Act.put, qz0, qz1, qz2]
   obtain ⟨p', a', HZ, HQ⟩ := HF.out
   clear hKl d3 d4 Hs8 HF
   generalize w8.setCell ⟨S, 7, none⟩ (.slice X (p.dr.length + 1) cX) = WF at *
   go_upto_region 49 with fail
   refine wp_region_lit ?_
   refine wpList_load_row rfl 34 (.tmp 4) rfl S 34 (paC p' a') _ rfl HZ.out.s Tryz.underlying34 rfl info_pa ?_
   refine wpList_store_row rfl 34 (.tmp 8) (.tmp 265) rfl Z 34 _ (paC p' a') rfl (by rfl) HZ.out.z info_pa rfl (paC_one _ _) ?_
   obtain ⟨hf1, hf2, hf3⟩ := HZ.out.fin
   have Hf1 := Lib.hid hf1
   have Hf2 := Lib.hid hf2
   have r0_ := hf3.cell 0
   have r1_ := hf3.cell 1
   have r2_ := hf3.cell 2
   have r3_ := hf3.cell 3
   have r4_ := hf3.cell 4
   have r5_ := hf3.cell 5
   have r6_ := hf3.cell 6
   have r7_ := hf3.cell 7
   have r8_ := hf3.cell 8
   clear hf1 hf2 hf3 HZ
   generalize World.setRow _ _ _ = WE at *
   go_wp2_with fail
   exact bodyPost_ret (v := .agg (paC p' a')) (by simp [results, Tryz.results41, go_sem, paC, r0_, r1_, r2_, r3_, r4_, r5_, r6_, r7_, r8_]) rfl ⟨p', a', rfl, Hf1.out, HQ.out, Hf2.out⟩
  ·have c2 : WR.cell? ⟨S, 2, none⟩ = some (.slice a.n p.needs.length a.cn) := HS.out.s.cell 2
   go_upto_region 49 with fail
   have HF : ∃ p' a', Hid (SZ w WR S Z p' a') ∧ Hid (PQ (N + 1) (2 * E + 1) p') := ⟨p, a, Lib.hid HS.out.out, Lib.hid (pq_le Hq.out)⟩
   clear c2
   obtain ⟨p', a', HZ, HQ⟩ := HF
   refine wp_region_lit ?_
   refine wpList_load_row rfl 34 (.tmp 4) rfl S 34 (paC p' a') _ rfl HZ.out.s Tryz.underlying34 rfl info_pa ?_
   refine wpList_store_row rfl 34 (.tmp 8) (.tmp 265) rfl Z 34 _ (paC p' a') rfl (by rfl) HZ.out.z info_pa rfl (paC_one _ _) ?_
   obtain ⟨hf1, hf2, hf3⟩ := HZ.out.fin
   have Hf1 := Lib.hid hf1
   have Hf2 := Lib.hid hf2
   have r0_ := hf3.cell 0
   have r1_ := hf3.cell 1
   have r2_ := hf3.cell 2
   have r3_ := hf3.cell 3
   have r4_ := hf3.cell 4
   have r5_ := hf3.cell 5
   have r6_ := hf3.cell 6
   have r7_ := hf3.cell 7
   have r8_ := hf3.cell 8
   clear hf1 hf2 hf3 HZ
   generalize World.setRow _ _ _ = WE at *
   go_wp2_with fail
   exact bodyPost_ret (v := .agg (paC p' a')) (by simp [results, Tryz.results41, go_sem, paC, r0_, r1_, r2_, r3_, r4_, r5_, r6_, r7_, r8_]) rfl ⟨p', a', rfl, Hf1.out, HQ.out, Hf2.out⟩
 go_upto_if 251 with fail
 by_cases h_14 : r = 14
 ·subst h_14
  have hb_ := around_bd by_ 4 (by decide)
  obtain ⟨xa, hxa⟩ : ∃ z, Hid (around by_ 4 = z) := ⟨_, Lib.hid rfl⟩
  have HAx := HAb.out 4 (by decide) (by decide)
  rw [hxa.out] at hb_ HAx
  obtain ⟨ja, x, rfl, hja, hok_, hcl_⟩ := pick4i hb_
  have HAx := Lib.hid HAx
  have Hok := Lib.hid hok_
  have Hcl := Lib.hid hcl_
  have hja2 : ¬ ((4 : Int) ≤ (ja : Int)) := by omega
  clear hb_ hxa hok_ hcl_
  go_upto_region 48 with fail
  have HSd := Lib.hid HS.out.drew
  clear HS
  have HS := HSd
  clear HSd
  refine wp_region_noPanic ?_
  refine region_T (s := 12) (S := fun W => W.cell? ⟨S, 8, none⟩ = some (.slice a.r p.rt.length a.cr)) (by kernel_rfl) ?_
  change wpT _ _ _ _ _ 13 _ _ WR.drew
  generalize WR.drew = X0 at *
  refine T_takeD (k := 0) (v := .pointer (some ⟨S, 8, none⟩)) (d := some 253) rfl rfl (by decide +kernel) (fun _ _ _ h => h) (Or.inl ⟨by rfl, fun W hW => by go_simp⟩) (HS.out.s.cell 8) ?_
  try simp only [Act.put, qz0, qz1, qz2]
  refine T_takeD (k := 1) (v := .slice a.r p.rt.length a.cr) (d := some 254) rfl rfl (by decide +kernel) (fun _ _ _ h => h) (Or.inl ⟨by rfl, fun W hW => by go_simp⟩) (HS.out.s.cell 8) ?_
  try simp only [Act.put, qz0, qz1, qz2]
  refine T_takeD (k := 3) (v := .int .i64 by_) (d := some 256) rfl rfl (by decide +kernel) (fun _ _ _ h => h) (Or.inl ⟨by rfl, fun W hW => by go_simp⟩) (HS.out.s.cell 8) ?_
  try simp only [Act.put, qz0, qz1, qz2]
  refine T_takeD (k := 7) (v := .int .i64 n) (d := some 260) rfl rfl (by decide +kernel) (fun _ _ _ h => h) (Or.inl ⟨by rfl, fun W hW => by go_simp⟩) (HS.out.s.cell 8) ?_
  try simp only [Act.put, qz0, qz1, qz2]
  refine T_two (i := 2) (j := 4) (by decide +kernel) (T_step rfl rfl (fun K hK4 => ?_)) (T_step rfl rfl (fun K hK4 => ?_))
  ·have hK4 := Lib.hid hK4
   go_simp
   have HL_g_ := Lib.hid (Bk.new X0 3 #[.int .i64 1048576, .int .i64 1048577, .int .i64 (-1), .int .i64 5])
   have HS2 := Lib.hid (HS.out.alloc (.cells #[.int .i64 1048576, .int .i64 1048577, .int .i64 (-1), .int .i64 5] 3))
   clear HS
   have HS := HS2
   clear HS2
   generalize X0.alloc (.cells #[.int .i64 1048576, .int .i64 1048577, .int .i64 (-1), .int .i64 5] 3) = X0s at *
   generalize X0.heap.size = g_ at *
   refine hK4.out _ _ (HS.out.s.cell 8) ?_
   try simp only [Act.put, qz0, qz1, qz2]
   refine T_oneS (i := 4) (by decide +kernel) (T_step rfl rfl (fun K hK5 => ?_))
   have hK5 := Lib.hid hK5
   go_simp
   go_at_call 15
   refine (HAx.out _).mono ?_
   rintro e wz ⟨rfl, rfl⟩
   refine hK5.out _ _ (HS.out.s.cell 8) ?_
   try simp only [Act.put, qz0, qz1, qz2]
   refine T_takeD (k := 5) (v := .pointer (some ⟨g_, ja, none⟩)) (d := some 258) rfl rfl (by decide +kernel) (fun _ _ _ h => h) (Or.inl ⟨by rfl, fun W hW => by go_simp⟩) (HS.out.s.cell 8) ?_
   try simp only [Act.put, qz0, qz1, qz2]
   refine T_oneS (i := 6) (by decide +kernel) (T_step rfl rfl (fun K hK7 => ?_))
   have hK7 := Lib.hid hK7
   have cj : X0s.cell? ⟨g_, ja, none⟩ = some (.int .i64 x) := (HL_g_.out.cell ja).trans Hcl.out
   go_simp
   clear cj HL_g_
   refine hK7.out _ _ (HS.out.s.cell 8) ?_
   try simp only [Act.put, qz0, qz1, qz2]
   refine T_takeD (k := 8) (v := .agg #[.int .i64 x, .int .i64 n]) (d := some 261) rfl rfl (by decide +kernel) (fun _ _ _ h => h) (Or.inl ⟨by rfl, fun W hW => by go_simp⟩) (HS.out.s.cell 8) ?_
   try simp only [Act.put, qz0, qz1, qz2]
   refine T_oneS (i := 9) (by decide +kernel) (T_step rfl rfl (fun K hK9 => ?_))
   have hK9 := Lib.hid hK9
   go_simp
   have HL_h_ := Lib.hid (Bk.new X0s 92 #[.int .i64 x, .int .i64 n])
   have HS2 := Lib.hid (HS.out.alloc (.cells #[.int .i64 x, .int .i64 n] 92))
   clear HS
   have HS := HS2
   clear HS2
   generalize X0s.alloc (.cells #[.int .i64 x, .int .i64 n] 92) = Wl at *
   generalize X0s.heap.size = h_ at *
   refine hK9.out _ _ (HS.out.s.cell 8) ?_
   try simp only [Act.put, qz0, qz1, qz2]
   refine T_oneS (i := 10) (by decide +kernel) (T_step rfl rfl (fun K hK10 => ?_))
   have hK10 := Lib.hid hK10
   have hO_ := HS.out.r.r (by omega)
   refine app_wp (us := [.int .i64 x, .int .i64 n]) (xs := p.rt.flatMap fun t => [Value.int .i64 t.1, Value.int .i64 t.2]) (n := p.rt.length) (base := w.heap.size) (c := 1) (H := h_) (v := .slice a.r p.rt.length a.cr) (.tmp 254) (.tmp 262) rfl elt_rt (by simp [Act.eval]) (by simp [Act.eval]) hO_ HL_h_.out rfl rfl (by omega) HS.out.b.size ?_
   intro v8 w8 hown8 hg8
   obtain ⟨X, cX, rfl⟩ := own_slice hown8
   have Hs8 := Lib.hid (HS.out.s.grown hg8 (HS.out.s.ne_own hO_ (by decide)))
   have HF := Lib.hid (show ∃ p' a', Hid (SZ w (w8.setCell ⟨S, 8, none⟩ (.slice X (p.rt.length + 1) cX)) S Z p' a') ∧ Hid (PQ (N + 1) (2 * E + 1) p') from ⟨_, _, Lib.hid (HS.out.ap (p' := ⟨p.office, p.num, p.needs, p.st, p.pl, p.ma, p.er, p.dr, (p.rt ++ [(x, n)])⟩) (a' := ⟨a.n, a.s, a.l, a.m, a.e, a.d, X, a.cn, a.cs, a.cl, a.cm, a.ce, a.cd, cX⟩) hO_ (by decide) hg8 (HS.out.r.app6 (ys := [(x, n)]) (by rw [List.flatMap_append, List.length_append]; exact hown8) hg8) (by simp [paC])), Lib.hid (have q := pq_le Hq.out; ⟨⟨q.w.o, q.w.k, q.w.n, q.w.s, q.w.l, q.w.m, q.w.e, q.w.d, (fun x hx => by rcases List.mem_append.1 hx with h | h; exact q.w.r x h; rw [List.mem_singleton.1 h]; exact ⟨Hok.out, Hn.out⟩)⟩, q.n, q.s, q.c, q.l, q.x, q.m, q.e, q.d, by have := Hq.out.r; simp only [List.length_append, List.length_singleton]; omega⟩)⟩)
   clear hown8 hg8 hO_ HS
   refine hK10.out _ _ (Hs8.out.cell 8) ?_
   try simp only [Act.put, qz0, qz1, qz2]
   refine T_takeD (k := 11) (v := .pointer (some ⟨S, 8, none⟩)) (d := some 264) rfl rfl (by decide +kernel) (fun _ _ _ h => h) (Or.inl ⟨by rfl, fun W hW => by go_simp⟩) (Hs8.out.cell 8) ?_
   try simp only [Act.put, qz0, qz1, qz2]
   refine T_last (by decide +kernel) (by decide +kernel) (by decide +kernel) rfl rfl (fun K hKl => ?_)
   have hKl := Lib.hid hKl
   have d3 : w8.cell? ⟨S, 8, none⟩ = some (.slice a.r p.rt.length a.cr) := Hs8.out.cell 8
   have d4 := Hs8.out.frozen 8
   go_simp
   refine hKl.out _ _ (NoPanic.normal ?_)
   try simp only [Act.put, qz0, qz1, qz2]
   obtain ⟨p', a', HZ, HQ⟩ := HF.out
   clear hKl d3 d4 Hs8 HF
   generalize w8.setCell ⟨S, 8, none⟩ (.slice X (p.rt.length + 1) cX) = WF at *
   go_upto_region 49 with fail
   refine wp_region_lit ?_
   refine wpList_load_row rfl 34 (.tmp 4) rfl S 34 (paC p' a') _ rfl HZ.out.s Tryz.underlying34 rfl info_pa ?_
   refine wpList_store_row rfl 34 (.tmp 8) (.tmp 265) rfl Z 34 _ (paC p' a') rfl (by rfl) HZ.out.z info_pa rfl (paC_one _ _) ?_
   obtain ⟨hf1, hf2, hf3⟩ := HZ.out.fin
   have Hf1 := Lib.hid hf1
   have Hf2 := Lib.hid hf2
   have r0_ := hf3.cell 0
   have r1_ := hf3.cell 1
   have r2_ := hf3.cell 2
   have r3_ := hf3.cell 3
   have r4_ := hf3.cell 4
   have r5_ := hf3.cell 5
   have r6_ := hf3.cell 6
   have r7_ := hf3.cell 7
   have r8_ := hf3.cell 8
   clear hf1 hf2 hf3 HZ
   generalize World.setRow _ _ _ = WE at *
   go_wp2_with fail
   exact bodyPost_ret (v := .agg (paC p' a')) (by simp [results, Tryz.results41, go_sem, paC, r0_, r1_, r2_, r3_, r4_, r5_, r6_, r7_, r8_]) rfl ⟨p', a', rfl, Hf1.out, HQ.out, Hf2.out⟩
  ·have hK4 := Lib.hid hK4
   go_simp
   go_at_call 15
   refine (HAx.out _).mono ?_
   rintro e wz ⟨rfl, rfl⟩
   refine hK4.out _ _ (HS.out.s.cell 8) ?_
   try simp only [Act.put, qz0, qz1, qz2]
   refine T_oneS (i := 2) (by decide +kernel) (T_step rfl rfl (fun K hK5 => ?_))
   have hK5 := Lib.hid hK5
   go_simp
   have HL_g_ := Lib.hid (Bk.new X0 3 #[.int .i64 1048576, .int .i64 1048577, .int .i64 (-1), .int .i64 5])
   have HS2 := Lib.hid (HS.out.alloc (.cells #[.int .i64 1048576, .int .i64 1048577, .int .i64 (-1), .int .i64 5] 3))
   clear HS
   have HS := HS2
   clear HS2
   generalize X0.alloc (.cells #[.int .i64 1048576, .int .i64 1048577, .int .i64 (-1), .int .i64 5] 3) = X0s at *
   generalize X0.heap.size = g_ at *
   refine hK5.out _ _ (HS.out.s.cell 8) ?_
   try simp only [Act.put, qz0, qz1, qz2]
   refine T_takeD (k := 5) (v := .pointer (some ⟨g_, ja, none⟩)) (d := some 258) rfl rfl (by decide +kernel) (fun _ _ _ h => h) (Or.inl ⟨by rfl, fun W hW => by go_simp⟩) (HS.out.s.cell 8) ?_
   try simp only [Act.put, qz0, qz1, qz2]
   refine T_oneS (i := 6) (by decide +kernel) (T_step rfl rfl (fun K hK7 => ?_))
   have hK7 := Lib.hid hK7
   have cj : X0s.cell? ⟨g_, ja, none⟩ = some (.int .i64 x) := (HL_g_.out.cell ja).trans Hcl.out
   go_simp
   clear cj HL_g_
   refine hK7.out _ _ (HS.out.s.cell 8) ?_
   try simp only [Act.put, qz0, qz1, qz2]
   refine T_takeD (k := 8) (v := .agg #[.int .i64 x, .int .i64 n]) (d := some 261) rfl rfl (by decide +kernel) (fun _ _ _ h => h) (Or.inl ⟨by rfl, fun W hW => by go_simp⟩) (HS.out.s.cell 8) ?_
   try simp only [Act.put, qz0, qz1, qz2]
   refine T_oneS (i := 9) (by decide +kernel) (T_step rfl rfl (fun K hK9 => ?_))
   have hK9 := Lib.hid hK9
   go_simp
   have HL_h_ := Lib.hid (Bk.new X0s 92 #[.int .i64 x, .int .i64 n])
   have HS2 := Lib.hid (HS.out.alloc (.cells #[.int .i64 x, .int .i64 n] 92))
   clear HS
   have HS := HS2
   clear HS2
   generalize X0s.alloc (.cells #[.int .i64 x, .int .i64 n] 92) = Wl at *
   generalize X0s.heap.size = h_ at *
   refine hK9.out _ _ (HS.out.s.cell 8) ?_
   try simp only [Act.put, qz0, qz1, qz2]
   refine T_oneS (i := 10) (by decide +kernel) (T_step rfl rfl (fun K hK10 => ?_))
   have hK10 := Lib.hid hK10
   have hO_ := HS.out.r.r (by omega)
   refine app_wp (us := [.int .i64 x, .int .i64 n]) (xs := p.rt.flatMap fun t => [Value.int .i64 t.1, Value.int .i64 t.2]) (n := p.rt.length) (base := w.heap.size) (c := 1) (H := h_) (v := .slice a.r p.rt.length a.cr) (.tmp 254) (.tmp 262) rfl elt_rt (by simp [Act.eval]) (by simp [Act.eval]) hO_ HL_h_.out rfl rfl (by omega) HS.out.b.size ?_
   intro v8 w8 hown8 hg8
   obtain ⟨X, cX, rfl⟩ := own_slice hown8
   have Hs8 := Lib.hid (HS.out.s.grown hg8 (HS.out.s.ne_own hO_ (by decide)))
   have HF := Lib.hid (show ∃ p' a', Hid (SZ w (w8.setCell ⟨S, 8, none⟩ (.slice X (p.rt.length + 1) cX)) S Z p' a') ∧ Hid (PQ (N + 1) (2 * E + 1) p') from ⟨_, _, Lib.hid (HS.out.ap (p' := ⟨p.office, p.num, p.needs, p.st, p.pl, p.ma, p.er, p.dr, (p.rt ++ [(x, n)])⟩) (a' := ⟨a.n, a.s, a.l, a.m, a.e, a.d, X, a.cn, a.cs, a.cl, a.cm, a.ce, a.cd, cX⟩) hO_ (by decide) hg8 (HS.out.r.app6 (ys := [(x, n)]) (by rw [List.flatMap_append, List.length_append]; exact hown8) hg8) (by simp [paC])), Lib.hid (have q := pq_le Hq.out; ⟨⟨q.w.o, q.w.k, q.w.n, q.w.s, q.w.l, q.w.m, q.w.e, q.w.d, (fun x hx => by rcases List.mem_append.1 hx with h | h; exact q.w.r x h; rw [List.mem_singleton.1 h]; exact ⟨Hok.out, Hn.out⟩)⟩, q.n, q.s, q.c, q.l, q.x, q.m, q.e, q.d, by have := Hq.out.r; simp only [List.length_append, List.length_singleton]; omega⟩)⟩)
   clear hown8 hg8 hO_ HS
   refine hK10.out _ _ (Hs8.out.cell 8) ?_
   try simp only [Act.put, qz0, qz1, qz2]
   refine T_takeD (k := 11) (v := .pointer (some ⟨S, 8, none⟩)) (d := some 264) rfl rfl (by decide +kernel) (fun _ _ _ h => h) (Or.inl ⟨by rfl, fun W hW => by go_simp⟩) (Hs8.out.cell 8) ?_
   try simp only [Act.put, qz0, qz1, qz2]
   refine T_last (by decide +kernel) (by decide +kernel) (by decide +kernel) rfl rfl (fun K hKl => ?_)
   have hKl := Lib.hid hKl
   have d3 : w8.cell? ⟨S, 8, none⟩ = some (.slice a.r p.rt.length a.cr) := Hs8.out.cell 8
   have d4 := Hs8.out.frozen 8
   go_simp
   refine hKl.out _ _ (NoPanic.normal ?_)
   try simp only [Act.put, qz0, qz1, qz2]
   obtain ⟨p', a', HZ, HQ⟩ := HF.out
   clear hKl d3 d4 Hs8 HF
   generalize w8.setCell ⟨S, 8, none⟩ (.slice X (p.rt.length + 1) cX) = WF at *
   go_upto_region 49 with fail
   refine wp_region_lit ?_
   refine wpList_load_row rfl 34 (.tmp 4) rfl S 34 (paC p' a') _ rfl HZ.out.s Tryz.underlying34 rfl info_pa ?_
   refine wpList_store_row rfl 34 (.tmp 8) (.tmp 265) rfl Z 34 _ (paC p' a') rfl (by rfl) HZ.out.z info_pa rfl (paC_one _ _) ?_
   obtain ⟨hf1, hf2, hf3⟩ := HZ.out.fin
   have Hf1 := Lib.hid hf1
   have Hf2 := Lib.hid hf2
   have r0_ := hf3.cell 0
   have r1_ := hf3.cell 1
   have r2_ := hf3.cell 2
   have r3_ := hf3.cell 3
   have r4_ := hf3.cell 4
   have r5_ := hf3.cell 5
   have r6_ := hf3.cell 6
   have r7_ := hf3.cell 7
   have r8_ := hf3.cell 8
   clear hf1 hf2 hf3 HZ
   generalize World.setRow _ _ _ = WE at *
   go_wp2_with fail
   exact bodyPost_ret (v := .agg (paC p' a')) (by simp [results, Tryz.results41, go_sem, paC, r0_, r1_, r2_, r3_, r4_, r5_, r6_, r7_, r8_]) rfl ⟨p', a', rfl, Hf1.out, HQ.out, Hf2.out⟩
 have hb_ := around_bd by_ 9 (by decide)
 obtain ⟨xa, hxa⟩ : ∃ z, Hid (around by_ 9 = z) := ⟨_, Lib.hid rfl⟩
 have HAx := HAb.out 9 (by decide) (by decide)
 rw [hxa.out] at hb_ HAx
 obtain ⟨kk, hkk⟩ : ∃ k : Nat, Hid (4090 + xa = (k : Int)) := ⟨(4090 + xa).toNat, Lib.hid (by omega)⟩
 have hk100 : kk ≤ 4098 := by have := hkk.out; omega
 have hkl : 4090 ≤ kk := by have := hkk.out; omega
 have wk : IntKind.i64.wrap (4090 + xa) = (kk : Int) := by rw [hkk.out]; exact IntWalk.i64_in _ ⟨by omega, by omega⟩
 have vk := hkk.out
 have wk2 : IntKind.i64.wrap (kk : Int) = (kk : Int) := IntWalk.i64_in _ ⟨by omega, by omega⟩
 have HAx := Lib.hid HAx
 clear hb_ hxa
 obtain ⟨ZR, hZR⟩ : ∃ z, Hid (((List.replicate kk plZ).flatMap plC).toArray = z) := ⟨_, Lib.hid rfl⟩
 have hmk : ∀ W : World, (Instr.makeSlice 29 (.int .i64 (kk : Int)) (.int .i64 (kk : Int))).run Tryz.prog W = .ok (.slice (some ⟨W.heap.size, 0, none⟩) kk kk) (W.alloc (.cells ZR 114)) := fun W => hZR.out ▸ run_make_places kk (by omega) W
 have Hmk := Lib.hid hmk
 clear hmk
 have HSd := Lib.hid (HS.out.alloc (.cells ZR 114))
 have HGb := Lib.hid (show Bk (WR.alloc (.cells ZR 114)) WR.heap.size 114 ((List.replicate kk plZ).flatMap plC).toArray from by rw [hZR.out]; exact Bk.new WR 114 ZR)
 go_upto_region 11 with fail
 have hmk := Hmk.out WR
 have e3 : (WR.alloc (.cells ZR 114)).cell? ⟨S, 4, none⟩ = some (.slice a.l p.pl.length a.cl) := HSd.out.s.cell 4
 have e4 := HSd.out.s.frozen 4
 go_wp2_with fail
 refine (HAx.out _).mono ?_
 rintro e wz ⟨rfl, rfl⟩
 go_upto_region 12 with fail
 have hGz := HSz.out
 generalize WR.alloc (.cells ZR 114) = WG at *
 generalize WR.heap.size = G at *
 have HL := Lib.hid (show SZ w (WG.setCell ⟨S, 4, none⟩ (.slice (some ⟨G, 0, none⟩) kk kk)) S Z ⟨p.office, p.num, p.needs, p.st, List.replicate kk plZ, p.ma, p.er, p.dr, p.rt⟩ ⟨a.n, a.s, (some ⟨G, 0, none⟩), a.m, a.e, a.d, a.r, a.cn, a.cs, kk, a.cm, a.ce, a.cd, a.cr⟩ from HSd.out.set_ ⟨HSd.out.r.pb.n, HSd.out.r.pb.s, SB.bk HGb.out, HSd.out.r.pb.m, HSd.out.r.pb.e, HSd.out.r.pb.d, HSd.out.r.pb.r⟩ (by simp [paC]))
 have HG2 := Lib.hid (show Bk (WG.setCell ⟨S, 4, none⟩ (.slice (some ⟨G, 0, none⟩) kk kk)) G 114 ((List.replicate kk plZ).flatMap plC).toArray from HGb.out.far (p := ⟨S, 4, none⟩) (fun e => HGb.out.ne_ HSd.out.s (by decide) e) _)
 clear HS HSd HGb e3 e4 hmk Hmk hZR
 generalize WG.setCell ⟨S, 4, none⟩ (.slice (some ⟨G, 0, none⟩) kk kk) = WH at *
 go_wp2_with fail
 go_loopw [11] (fun v wr => ∃ (i : Nat) (pl : List Plc), i ≤ kk ∧ v = .int .i64 (i : Int) ∧ Hid (pl.length = kk) ∧ Hid (∀ x ∈ pl, plW64 x ∧ x.nm.size ≤ 1000) ∧ Hid (SZ w wr S Z ⟨p.office, p.num, p.needs, p.st, pl, p.ma, p.er, p.dr, p.rt⟩ ⟨a.n, a.s, (some ⟨G, 0, none⟩), a.m, a.e, a.d, a.r, a.cn, a.cs, kk, a.cm, a.ce, a.cd, a.cr⟩) ∧ Hid (Bk wr G 114 (pl.flatMap plC).toArray)) (fun v _ => kk - (intOf v).toNat)
 case atStart => exact ⟨0, List.replicate kk plZ, Nat.zero_le _, rfl, Lib.hid (by rw [List.length_replicate]), Lib.hid (fun x hx => by rw [List.eq_of_mem_replicate hx]; exact ⟨⟨i64_0, i64_0, i64_0, i64_0, i64_0⟩, by decide⟩), HL, HG2⟩
 case round =>
  clear HL HG2
  obtain ⟨i, pl, hik, rfl, Hpl, Hpq, HZ, HG⟩ := hrel
  have f4 : wr.cell? ⟨S, 4, none⟩ = some (.slice (some ⟨G, 0, none⟩) kk kk) := (HZ.out.s.cell 4).trans (by show some (Value.slice (some ⟨G, 0, none⟩) pl.length kk) = _; rw [Hpl.out])
  have f0 : wr.cell? ⟨S, 0, none⟩ = some (.int .i64 p.office) := HZ.out.s.cell 0
  by_cases hlt : i < kk
  ·have hki : ¬ (kk ≤ i) := by omega
   obtain ⟨hz1, hg1⟩ := HZ.out.pset HG.out rfl hGz (by rw [Hpl.out]; exact hlt) ⟨0, 0, ⟨#[121]⟩, p.office, 0, 0⟩
   have HZ2 := Lib.hid hz1
   have HG2 := Lib.hid hg1
   have hth : wr.there G (i * 6) 6 := fun j hj => ⟨by rw [HG.out.cell, Array.getElem?_eq_getElem (by rw [List.size_toArray, flat_lenS (f := plC) (k := 6) (fun _ => rfl), Hpl.out]; omega)]; rfl, HG.out.frozen _⟩
   have Hp2 := Lib.hid (show ∀ x ∈ pl.set i ⟨0, 0, ⟨#[121]⟩, p.office, 0, 0⟩, plW64 x ∧ x.nm.size ≤ 1000 from fun x hx => by rcases List.mem_or_eq_of_mem_set hx with h | h; exact Hpq.out x h; rw [h]; exact ⟨⟨i64_0, i64_0, Hq.out.w.o, i64_0, i64_0⟩, by show 1 ≤ 1000; decide⟩)
   clear hz1 hg1 HZ HG
   go_upto_region 15 with fail
   iterate 15 go_step
   first | (refine wpList_build_row rfl 114 #[(1, .const (.string ⟨#[121]⟩)), (2, .tmp 72)] rfl #[(1, .string ⟨#[121]⟩), (2, .int .i64 p.office)] (by simp [Act.eval]) _ (run_build_place15 ⟨#[121]⟩ p.office _) ?_) | (go_step; refine wpList_build_row rfl 114 #[(1, .const (.string ⟨#[121]⟩)), (2, .tmp 72)] rfl #[(1, .string ⟨#[121]⟩), (2, .int .i64 p.office)] (by simp [Act.eval]) _ (run_build_place15 ⟨#[121]⟩ p.office _) ?_) | (go_step; go_step; refine wpList_build_row rfl 114 #[(1, .const (.string ⟨#[121]⟩)), (2, .tmp 72)] rfl #[(1, .string ⟨#[121]⟩), (2, .int .i64 p.office)] (by simp [Act.eval]) _ (run_build_place15 ⟨#[121]⟩ p.office _) ?_) | (go_step; go_step; go_step; refine wpList_build_row rfl 114 #[(1, .const (.string ⟨#[121]⟩)), (2, .tmp 72)] rfl #[(1, .string ⟨#[121]⟩), (2, .int .i64 p.office)] (by simp [Act.eval]) _ (run_build_place15 ⟨#[121]⟩ p.office _) ?_)
   go_step
   iterate 2 go_step
   refine wpList_store_mid rfl 114 (.tmp 74) (.tmp 73) rfl G (i * 6) #[.int .i64 0, .int .i64 0, .string ⟨#[121]⟩, .int .i64 p.office, .int .i64 0, .int .i64 0] ?_ ?_ hth info_pl ?_ ?_
   ·simp [Act.eval]
   ·simp [Act.eval]
   ·simp [Value.oneCell']
   go_wp2_with fail
   go_roundw
   case rel => exact ⟨i + 1, pl.set i ⟨0, 0, ⟨#[121]⟩, p.office, 0, 0⟩, by omega, by go_num, Lib.hid (by rw [List.length_set]; exact Hpl.out), Hp2, HZ2, HG2⟩
   case measure => simp [intOf]; omega
  ·have HF : ∃ p' a', Hid (SZ w wr S Z p' a') ∧ Hid (PQ (N + 1) (2 * E + 1) p') := ⟨_, _, HZ, Lib.hid (have q := pq_le Hq.out; ⟨⟨q.w.o, q.w.k, q.w.n, q.w.s, (fun x hx => (Hpq.out x hx).1), q.w.m, q.w.e, q.w.d, q.w.r⟩, q.n, q.s, q.c, by show pl.length ≤ N + 1; rw [Hpl.out]; omega, (fun x hx => (Hpq.out x hx).2), q.m, q.e, q.d, q.r⟩)⟩
   clear HZ HG
   obtain ⟨p', a', HZ, HQ⟩ := HF
   go_upto_region 49 with fail
   refine wp_region_lit ?_
   refine wpList_load_row rfl 34 (.tmp 4) rfl S 34 (paC p' a') _ rfl HZ.out.s Tryz.underlying34 rfl info_pa ?_
   refine wpList_store_row rfl 34 (.tmp 8) (.tmp 265) rfl Z 34 _ (paC p' a') rfl (by rfl) HZ.out.z info_pa rfl (paC_one _ _) ?_
   obtain ⟨hf1, hf2, hf3⟩ := HZ.out.fin
   have Hf1 := Lib.hid hf1
   have Hf2 := Lib.hid hf2
   have r0_ := hf3.cell 0
   have r1_ := hf3.cell 1
   have r2_ := hf3.cell 2
   have r3_ := hf3.cell 3
   have r4_ := hf3.cell 4
   have r5_ := hf3.cell 5
   have r6_ := hf3.cell 6
   have r7_ := hf3.cell 7
   have r8_ := hf3.cell 8
   clear hf1 hf2 hf3 HZ
   generalize World.setRow _ _ _ = WE at *
   go_wp2_with fail
   exact bodyPost_ret (v := .agg (paC p' a')) (by simp [results, Tryz.results41, go_sem, paC, r0_, r1_, r2_, r3_, r4_, r5_, r6_, r7_, r8_]) rfl ⟨p', a', rfl, Hf1.out, HQ.out, Hf2.out⟩
end Go.Proofs.YtnapnkmehnabfaaGreat
