import Derived.Test.YtnapnkmehnabfaaGreatQD
import Derived.Test.YtnapnkmehnabfaaGreatP71
namespace Go.Proofs.YtnapnkmehnabfaaGreat
open Go.RowKit Go.Maps
theorem app_wpMB {P : Program} {Q : Exit → Act → World → Prop} {o : Oper} {a : Act} {w : World} {K : Act → World → Prop} {base : Nat} {us xs : List Value} {e t : TypeId} {z : Value} {size bytes n m H c : Nat} {v : Value} (x y : Operand)
  (ho : o.op = .call { callee := .builtin .append, args := #[x, y], argTypes := #[t, t] }) (hE : EltB P t e z size bytes) (hs : a.eval x = v) (hx : a.eval y = .slice (some ⟨H, 0, none⟩) m c)
  (hown : w.ownsRow base e size v n xs) (hB : Bk w H e us.toArray) (hl : us.length = m * size) (h1 : us.all (·.oneCell') = true) (hm : 0 < m) (hn : n + m < 1073741824) (hbs : base ≤ w.heap.size)
  (h : ∀ v' w1, w1.ownsRow base e size v' (n + m) (xs ++ us) → w.grownBy w1 v.ownBlock → K (a.put o.dst v') w1) : Oper.wp P o a w K Q := by
 obtain ⟨ht, hsz, hby, hzs, i, hi, hz, hs1, hb1⟩ := hE;have hmul : (n + m) * bytes ≤ 140737488355328 := by
  have := Nat.mul_le_mul (show n + m ≤ 1073741824 by omega) hby;omega
 exact wp_append_lies w x y t ho base e i z size bytes ht hi hz hs1 hb1 hzs hsz v n xs hs hown ⟨H, 0, none⟩ m c us hx (by simpa using hl) (World.news_of_block hB) (all_one h1) hm (by unfold maxLen; omega) hmul hbs _ rfl
  (fun g cap w1 k1 k2 _ _ => h _ w1 k1 k2)
theorem pq_mono {N E N' E' : Nat} {p : Pa} (h : PQ N E p) (hN : N ≤ N') (hE : E ≤ E') : PQ N' E' p := ⟨h.w, Nat.le_trans h.n hN, Nat.le_trans h.s hN, h.c, Nat.le_trans h.l hN, h.x, Nat.le_trans h.m hN, Nat.le_trans h.e hE, Nat.le_trans h.d hN, Nat.le_trans h.r hN⟩
theorem po_pq {p : Pa} (h : PO p) : PQ 4098 1 p := by
 have e := paE_ok h.nd.2 h.ok;exact ⟨e.w, by have := h.nd.1; omega, by have := h.st.1; omega, fun x hx => by have := e.c x hx; omega, by have := h.pl.1; omega, e.x, by have := h.ma.1; omega, h.er.1, by have := h.dr.1; omega, by have := h.rt.1; omega⟩
theorem pq_zero (N E : Nat) : PQ N E paZ := ⟨⟨i64_0, i64_0, fun x hx => (by cases hx), fun x hx => (by cases hx), fun x hx => (by cases hx), fun x hx => (by cases hx), fun x hx => (by cases hx), fun x hx => (by cases hx), fun x hx => (by cases hx)⟩, Nat.zero_le _, Nat.zero_le _, fun x hx => (by cases hx), Nat.zero_le _, fun x hx => (by cases hx), Nat.zero_le _, Nat.zero_le _, Nat.zero_le _, Nat.zero_le _⟩
structure SQ (w wr : World) (X : Option Addr) (cX n0 : Nat) (ps : List (Pa × Pw)) : Prop where
 r : wr.ownsRow w.heap.size 34 9 (.slice X ps.length cX) ps.length (ps.flatMap paV)
 q : ∀ q ∈ ps, PB wr q.1 q.2 ∧ PQ 4100 7 q.1
 f : ∀ (k : Nat) q, k < n0 → ps[k]? = some q → PQ 4098 1 q.1
 n : n0 ≤ ps.length
 b : Below w.heap.size w wr
theorem SQ.below {w wr w' : World} {X : Option Addr} {cX n0 : Nat} {ps : List (Pa × Pw)} (h : SQ w wr X cX n0 ps) (hb : Below wr.heap.size wr w') : SQ w w' X cX n0 ps :=
 ⟨own_below h.r hb, fun q hq => ⟨(h.q q hq).1.below hb, (h.q q hq).2⟩, h.f, h.n, h.b.trans (hb.mono h.b.size)⟩
theorem SQ.app {w wr w8 : World} {X X8 : Option Addr} {cX c8 n0 m : Nat} {ps qs : List (Pa × Pw)} (h : SQ w wr X cX n0 ps) (hg : wr.grownBy w8 (Value.slice X ps.length cX).ownBlock) (hown : w8.ownsRow w.heap.size 34 9 (.slice X8 (ps.length + m) c8) (ps.length + m) (ps.flatMap paV ++ qs.flatMap paV)) (hm : qs.length = m) (hq : ∀ q ∈ qs, PB wr q.1 q.2 ∧ PQ 4100 7 q.1) :
  SQ w w8 X8 c8 n0 (ps ++ qs) := by
 have hr : ∀ r, (Value.slice X ps.length cX).ownBlock = some r → ∃ t' cs, Bk wr r t' cs ∧ t' ∉ paT := fun r e => by
  obtain ⟨cs, hb⟩ := own_row_bk h.r e;exact ⟨_, cs, hb, by decide⟩
 refine ⟨?_, fun q hq2 => ?_, fun k q hk e => ?_, by rw [List.length_append]; have := h.n; omega, h.b.grown hg h.b.size (fun r e => (h.r.lt r e).1)⟩
 ·rw [List.length_append, hm, List.flatMap_append];exact hown
 ·rcases List.mem_append.1 hq2 with h1 | h1
  ·exact ⟨(h.q q h1).1.grown hg hr, (h.q q h1).2⟩
  exact ⟨(hq q h1).1.grown hg hr, (hq q h1).2⟩
 rw [List.getElem?_append_left (by have := h.n; omega)] at e;exact h.f k q hk e
end Go.Proofs.YtnapnkmehnabfaaGreat
