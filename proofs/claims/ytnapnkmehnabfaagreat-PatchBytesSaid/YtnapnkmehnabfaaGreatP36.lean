import Derived.Test.YtnapnkmehnabfaaGreatQC
import Derived.Test.YtnapnkmehnabfaaGreatP30
namespace Go.Proofs.YtnapnkmehnabfaaGreat
open Go.RowKit Go.Maps
def SB (w : World) (t : TypeId) (A : Option Addr) (vs : List Value) : Prop := vs = [] ∨ ∃ b o cs, A = some ⟨b, o, none⟩ ∧ Bk w b t cs ∧ ∀ (j : Nat) v, vs[j]? = some v → cs[o + j]? = some v
theorem SB.nil (w : World) (t : TypeId) (A : Option Addr) : SB w t A [] := .inl rfl
theorem SB.sl {w : World} {t : TypeId} {A : Option Addr} {vs : List Value} (h : SB w t A vs) : SL w A vs := by
 intro j u hu;rcases h with rfl | ⟨b, o, cs, rfl, hb, hc⟩
 ·simp at hu
 exact ⟨b, o, rfl, hb.lt, (hb.cell (o + j)).trans (hc j u hu)⟩
theorem SB.bk {w : World} {t : TypeId} {g : Nat} {cs : Array Value} (h : Bk w g t cs) : SB w t (some ⟨g, 0, none⟩) cs.toList :=
 .inr ⟨g, 0, cs, rfl, h, fun j v hv => by rw [Nat.zero_add]; simpa using hv⟩
theorem SB.grown {w w' : World} {t : TypeId} {A : Option Addr} {vs : List Value} {row : Option Nat} (h : SB w t A vs) (hg : w.grownBy w' row) (hr : ∀ r, row = some r → ∃ t' cs, Bk w r t' cs ∧ t' ≠ t) : SB w' t A vs := by
 rcases h with rfl | ⟨b, o, cs, rfl, hb, hc⟩
 ·exact .inl rfl
 refine .inr ⟨b, o, cs, rfl, hb.grown hg (fun e => ?_), hc⟩;obtain ⟨t', cs', hb', hne⟩ := hr b e.symm;exact hb'.ne_ hb hne rfl
theorem SB.below {w w' : World} {t : TypeId} {A : Option Addr} {vs : List Value} (h : SB w t A vs) (hb : Below w.heap.size w w') : SB w' t A vs := h.grown (grownBy_of_below hb) (fun r e => by cases e)
theorem SB.own {w : World} {t : TypeId} {base n c size : Nat} {A : Option Addr} {vs : List Value} (h : w.ownsRow base t size (.slice A n c) n vs) : SB w t A vs := by
 have hl := h.1;rcases h.2 with ⟨e, rfl⟩ | ⟨g, cap, cur, e, hb, hg, h1, h2, h3, h4⟩
 ·exact .inl (List.eq_nil_of_length_eq_zero (by simpa using hl))
 injection e with e1 e2 e3;subst e1;refine .inr ⟨g, 0, cur, rfl, hg, fun j v hv => ?_⟩;rw [Nat.zero_add];rw [← h4] at hv;have := List.getElem?_take_of_lt (l := cur.toList) (i := j) (j := n * size) (by
  have := (List.getElem?_eq_some_iff.1 hv).1;simp at this; omega)
 rw [this] at hv;simpa using hv
def SV (w : World) (vs : List Value) (l : List Sk) : Prop := vs.length = l.length * 5 ∧ ∀ (j : Nat) s, l[j]? = some s → ∃ C c, vs[j * 5]? = some (.int .i64 (Sk.ax s)) ∧ vs[j * 5 + 1]? = some (.int .i64 s.ay) ∧ vs[j * 5 + 2]? = some (.int .i64 s.bx) ∧ vs[j * 5 + 3]? = some (.int .i64 s.by_) ∧ vs[j * 5 + 4]? = some (.slice C s.cl.length c) ∧ SB w 41 C (s.cl.flatMap clC) ∧ s.cl.length ≤ 1099511627776
theorem SV.grown {w w' : World} {vs : List Value} {l : List Sk} {row : Option Nat} (h : SV w vs l) (hg : w.grownBy w' row) (hr : ∀ r, row = some r → ∃ t' cs, Bk w r t' cs ∧ t' ≠ 41) : SV w' vs l := by
 refine ⟨h.1, fun j s hs => ?_⟩;obtain ⟨C, c, h0, h1, h2, h3, h4, h5, h6⟩ := h.2 j s hs;exact ⟨C, c, h0, h1, h2, h3, h4, h5.grown hg hr, h6⟩
theorem SV.below {w w' : World} {vs : List Value} {l : List Sk} (h : SV w vs l) (hb : Below w.heap.size w w') : SV w' vs l := h.grown (grownBy_of_below hb) (fun r e => by cases e)
theorem SV.nil (w : World) : SV w [] [] := ⟨rfl, fun j s hs => by simp at hs⟩
theorem SV.snoc {w : World} {vs : List Value} {l : List Sk} {ax ay bx by_ : Int} {C : Option Addr} {c : Nat} {cl : List Cl} (h : SV w vs l) (hc : SB w 41 C (cl.flatMap clC)) (hl : cl.length ≤ 1099511627776) :
  SV w (vs ++ [.int .i64 ax, .int .i64 ay, .int .i64 bx, .int .i64 by_, .slice C cl.length c]) (l ++ [⟨ax, ay, bx, by_, cl⟩]) := by
 have h0 := h.1;refine ⟨by simp [h0]; omega, fun j s hs => ?_⟩;rcases snoc_get hs with ⟨h1, _⟩ | ⟨h1, h2⟩
 ·have hj := (List.getElem?_eq_some_iff.1 h1).1;obtain ⟨D, d, a0, a1, a2, a3, a4, a5, a6⟩ := h.2 j s h1;have ap : ∀ {i : Nat} {v : Value}, vs[i]? = some v → (vs ++ [.int .i64 ax, .int .i64 ay, .int .i64 bx, .int .i64 by_, .slice C cl.length c])[i]? = some v := fun {i v} hv => by
   rw [List.getElem?_append_left (List.getElem?_eq_some_iff.1 hv).1]; exact hv
  exact ⟨D, d, ap a0, ap a1, ap a2, ap a3, ap a4, a5, a6⟩
 subst h1;subst h2;refine ⟨C, c, ?_, ?_, ?_, ?_, ?_, hc, hl⟩ <;> (rw [List.getElem?_append_right (by omega)]; simp [h0])
theorem SV.ss {w : World} {A : Option Addr} {vs : List Value} {l : List Sk} (h : SV w vs l) (hs : SL w A vs) : SS w A l := by
 refine ⟨vs, hs, h.1, fun j s hj => ?_⟩;obtain ⟨C, c, h0, h1, h2, h3, h4, h5, h6⟩ := h.2 j s hj;exact ⟨C, c, h0, h1, h2, h3, h4, h5.sl, h6⟩
def paT : List TypeId := [53, 62, 41, 114, 88, 77, 92]
structure PB (w : World) (p : Pa) (a : Pw) : Prop where
 n : SB w 53 a.n (p.needs.map (Value.int .u64))
 s : ∃ vs, SB w 62 a.s vs ∧ SV w vs p.st
 l : SB w 114 a.l (p.pl.flatMap plC)
 m : SB w 88 a.m (p.ma.flatMap mkC)
 e : SB w 77 a.e (idC p.er)
 d : SB w 77 a.d (idC p.dr)
 r : SB w 92 a.r (p.rt.flatMap fun t => [.int .i64 t.1, .int .i64 t.2])
theorem PB.pt {w : World} {p : Pa} {a : Pw} (h : PB w p a) : PT w p a := by
 obtain ⟨vs, h1, h2⟩ := h.s;exact ⟨h.n.sl, h2.ss h1.sl, h.l.sl, h.m.sl, h.e.sl, h.d.sl, h.r.sl⟩
theorem PB.grown {w w' : World} {p : Pa} {a : Pw} {row : Option Nat} (h : PB w p a) (hg : w.grownBy w' row) (hr : ∀ r, row = some r → ∃ t' cs, Bk w r t' cs ∧ t' ∉ paT) : PB w' p a := by
 have k : ∀ t ∈ paT, ∀ r, row = some r → ∃ t' cs, Bk w r t' cs ∧ t' ≠ t := fun t ht r e => by
  obtain ⟨t', cs, h1, h2⟩ := hr r e;exact ⟨t', cs, h1, fun e => h2 (e ▸ ht)⟩
 obtain ⟨vs, h1, h2⟩ := h.s;exact ⟨h.n.grown hg (k _ (by simp [paT])), ⟨vs, h1.grown hg (k _ (by simp [paT])), h2.grown hg (k _ (by simp [paT]))⟩, h.l.grown hg (k _ (by simp [paT])), h.m.grown hg (k _ (by simp [paT])), h.e.grown hg (k _ (by simp [paT])), h.d.grown hg (k _ (by simp [paT])), h.r.grown hg (k _ (by simp [paT]))⟩
theorem PB.below {w w' : World} {p : Pa} {a : Pw} (h : PB w p a) (hb : Below w.heap.size w w') : PB w' p a := h.grown (grownBy_of_below hb) (fun r e => by cases e)
def paZ : Pa := ⟨0, 0, [], [], [], [], [], [], []⟩
def pwZ : Pw := ⟨none, none, none, none, none, none, none, 0, 0, 0, 0, 0, 0, 0⟩
theorem PB.zero (w : World) : PB w paZ pwZ := ⟨.inl rfl, ⟨[], .inl rfl, SV.nil w⟩, .inl rfl, .inl rfl, .inl rfl, .inl rfl, .inl rfl⟩
end Go.Proofs.YtnapnkmehnabfaaGreat
