import Derived.Test.YtnapnkmehnabfaaGreatP37
namespace Go.Proofs.YtnapnkmehnabfaaGreat
open Go.RowKit Go.Maps
structure PQ (N E : Nat) (p : Pa) : Prop where
 w : PW64 p
 n : p.needs.length ≤ N
 s : p.st.length ≤ N
 c : ∀ x ∈ p.st, x.cl.length ≤ 100
 l : p.pl.length ≤ N
 x : ∀ x ∈ p.pl, x.nm.size ≤ 1000
 m : p.ma.length ≤ N
 e : p.er.length ≤ E
 d : p.dr.length ≤ N
 r : p.rt.length ≤ N
structure SXr (w wr : World) (i : Nat) (p : Pa) (a : Pw) : Prop where
 pb : PB wr p a
 n : 0 < i → wr.ownsRow w.heap.size 53 1 (.slice a.n p.needs.length a.cn) p.needs.length (p.needs.map (Value.int .u64))
 s : 1 < i → ∃ vs, wr.ownsRow w.heap.size 62 5 (.slice a.s p.st.length a.cs) p.st.length (vs) ∧ SV wr vs p.st
 l : 2 < i → wr.ownsRow w.heap.size 114 6 (.slice a.l p.pl.length a.cl) p.pl.length (p.pl.flatMap plC)
 m : 3 < i → wr.ownsRow w.heap.size 88 7 (.slice a.m p.ma.length a.cm) p.ma.length (p.ma.flatMap mkC)
 e : 4 < i → wr.ownsRow w.heap.size 77 2 (.slice a.e p.er.length a.ce) p.er.length (idC p.er)
 d : 5 < i → wr.ownsRow w.heap.size 77 2 (.slice a.d p.dr.length a.cd) p.dr.length (idC p.dr)
 r : 6 < i → wr.ownsRow w.heap.size 92 2 (.slice a.r p.rt.length a.cr) p.rt.length (p.rt.flatMap fun t => [Value.int .i64 t.1, Value.int .i64 t.2])
 ed : 5 < i → (Value.slice a.e p.er.length a.ce).ownBlock = none ∨ (Value.slice a.e p.er.length a.ce).ownBlock ≠ (Value.slice a.d p.dr.length a.cd).ownBlock
section
variable {w wr w8 : World} {i S : Nat} {p : Pa} {a : Pw} {X : Option Addr} {c : Nat}
theorem SXr.below (h : SXr w wr i p a) (hb : Below wr.heap.size wr w8) : SXr w w8 i p a :=
 ⟨h.pb.below hb, fun k => own_below (h.n k) hb, fun k => by obtain ⟨vs, h1, h2⟩ := h.s k; exact ⟨vs, own_below h1 hb, h2.below hb⟩, fun k => own_below (h.l k) hb, fun k => own_below (h.m k) hb, fun k => own_below (h.e k) hb, fun k => own_below (h.d k) hb, fun k => own_below (h.r k) hb, h.ed⟩
theorem SXr.store {j : Nat} {cs : Array Value} (h : SXr w wr i p a) (hs : Bk wr S 34 cs) (v : Value) : SXr w (wr.setCell ⟨S, j, none⟩ v) i p a :=
 ⟨h.pb.store hs (by decide) v, fun k => own_set (h.n k) (hs.ne_own (h.n k) (by decide)) v, fun k => by obtain ⟨vs, h1, h2⟩ := h.s k; exact ⟨vs, own_set h1 (hs.ne_own h1 (by decide)) v, h2.grown (grown_set wr S j v) (fun r e => by cases e; exact ⟨_, _, hs, by decide⟩)⟩, fun k => own_set (h.l k) (hs.ne_own (h.l k) (by decide)) v, fun k => own_set (h.m k) (hs.ne_own (h.m k) (by decide)) v, fun k => own_set (h.e k) (hs.ne_own (h.e k) (by decide)) v, fun k => own_set (h.d k) (hs.ne_own (h.d k) (by decide)) v, fun k => own_set (h.r k) (hs.ne_own (h.r k) (by decide)) v, h.ed⟩
theorem SXr.clone0 (h : SXr w wr 0 p a) (hb : Below wr.heap.size wr w8) (hw : w.heap.size ≤ wr.heap.size) (ho : w8.ownsRow wr.heap.size 53 1 (.slice X p.needs.length c) p.needs.length (p.needs.map (Value.int .u64))) : SXr w w8 1 p ⟨X, a.s, a.l, a.m, a.e, a.d, a.r, c, a.cs, a.cl, a.cm, a.ce, a.cd, a.cr⟩ := by
 have g := h.below hb;exact ⟨⟨SB.own ho, g.pb.s, g.pb.l, g.pb.m, g.pb.e, g.pb.d, g.pb.r⟩, fun _ => own_mono ho hw, fun q => absurd q (by omega), fun q => absurd q (by omega), fun q => absurd q (by omega), fun q => absurd q (by omega), fun q => absurd q (by omega), fun q => absurd q (by omega), fun q => absurd q (by omega)⟩
theorem SXr.clone1 {vs : List Value} (h : SXr w wr 1 p a) (hb : Below wr.heap.size wr w8) (hw : w.heap.size ≤ wr.heap.size) (ho : w8.ownsRow wr.heap.size 62 5 (.slice X p.st.length c) p.st.length (vs)) (hv : SV wr vs p.st) : SXr w w8 2 p ⟨a.n, X, a.l, a.m, a.e, a.d, a.r, a.cn, c, a.cl, a.cm, a.ce, a.cd, a.cr⟩ := by
 have g := h.below hb;have hv8 := hv.below hb;exact ⟨⟨g.pb.n, ⟨vs, SB.own ho, hv8⟩, g.pb.l, g.pb.m, g.pb.e, g.pb.d, g.pb.r⟩, fun _ => g.n (by omega), fun _ => ⟨vs, own_mono ho hw, hv8⟩, fun q => absurd q (by omega), fun q => absurd q (by omega), fun q => absurd q (by omega), fun q => absurd q (by omega), fun q => absurd q (by omega), fun q => absurd q (by omega)⟩
theorem SXr.clone2 (h : SXr w wr 2 p a) (hb : Below wr.heap.size wr w8) (hw : w.heap.size ≤ wr.heap.size) (ho : w8.ownsRow wr.heap.size 114 6 (.slice X p.pl.length c) p.pl.length (p.pl.flatMap plC)) : SXr w w8 3 p ⟨a.n, a.s, X, a.m, a.e, a.d, a.r, a.cn, a.cs, c, a.cm, a.ce, a.cd, a.cr⟩ := by
 have g := h.below hb;exact ⟨⟨g.pb.n, g.pb.s, SB.own ho, g.pb.m, g.pb.e, g.pb.d, g.pb.r⟩, fun _ => g.n (by omega), fun _ => g.s (by omega), fun _ => own_mono ho hw, fun q => absurd q (by omega), fun q => absurd q (by omega), fun q => absurd q (by omega), fun q => absurd q (by omega), fun q => absurd q (by omega)⟩
theorem SXr.clone3 (h : SXr w wr 3 p a) (hb : Below wr.heap.size wr w8) (hw : w.heap.size ≤ wr.heap.size) (ho : w8.ownsRow wr.heap.size 88 7 (.slice X p.ma.length c) p.ma.length (p.ma.flatMap mkC)) : SXr w w8 4 p ⟨a.n, a.s, a.l, X, a.e, a.d, a.r, a.cn, a.cs, a.cl, c, a.ce, a.cd, a.cr⟩ := by
 have g := h.below hb;exact ⟨⟨g.pb.n, g.pb.s, g.pb.l, SB.own ho, g.pb.e, g.pb.d, g.pb.r⟩, fun _ => g.n (by omega), fun _ => g.s (by omega), fun _ => g.l (by omega), fun _ => own_mono ho hw, fun q => absurd q (by omega), fun q => absurd q (by omega), fun q => absurd q (by omega), fun q => absurd q (by omega)⟩
theorem SXr.clone4 (h : SXr w wr 4 p a) (hb : Below wr.heap.size wr w8) (hw : w.heap.size ≤ wr.heap.size) (ho : w8.ownsRow wr.heap.size 77 2 (.slice X p.er.length c) p.er.length (idC p.er)) : SXr w w8 5 p ⟨a.n, a.s, a.l, a.m, X, a.d, a.r, a.cn, a.cs, a.cl, a.cm, c, a.cd, a.cr⟩ := by
 have g := h.below hb;exact ⟨⟨g.pb.n, g.pb.s, g.pb.l, g.pb.m, SB.own ho, g.pb.d, g.pb.r⟩, fun _ => g.n (by omega), fun _ => g.s (by omega), fun _ => g.l (by omega), fun _ => g.m (by omega), fun _ => own_mono ho hw, fun q => absurd q (by omega), fun q => absurd q (by omega), fun q => absurd q (by omega)⟩
theorem SXr.clone5 (h : SXr w wr 5 p a) (hb : Below wr.heap.size wr w8) (hw : w.heap.size ≤ wr.heap.size) (ho : w8.ownsRow wr.heap.size 77 2 (.slice X p.dr.length c) p.dr.length (idC p.dr)) : SXr w w8 6 p ⟨a.n, a.s, a.l, a.m, a.e, X, a.r, a.cn, a.cs, a.cl, a.cm, a.ce, c, a.cr⟩ := by
 have g := h.below hb;have hed : ∀ r, (Value.slice a.e p.er.length a.ce).ownBlock = some r → some r ≠ (Value.slice X p.dr.length c).ownBlock := fun r e1 e2 => by
  have h1 := ((h.e (by omega)).lt r e1).2;have h2 := (ho.lt r e2.symm).1;omega
 exact ⟨⟨g.pb.n, g.pb.s, g.pb.l, g.pb.m, g.pb.e, SB.own ho, g.pb.r⟩, fun _ => g.n (by omega), fun _ => g.s (by omega), fun _ => g.l (by omega), fun _ => g.m (by omega), fun _ => g.e (by omega), fun _ => own_mono ho hw, fun q => absurd q (by omega), fun _ => by
  cases hq : (Value.slice a.e p.er.length a.ce).ownBlock with
  | none => exact .inl rfl
  | some r => exact .inr (hed r hq)⟩
theorem SXr.clone6 (h : SXr w wr 6 p a) (hb : Below wr.heap.size wr w8) (hw : w.heap.size ≤ wr.heap.size) (ho : w8.ownsRow wr.heap.size 92 2 (.slice X p.rt.length c) p.rt.length (p.rt.flatMap fun t => [Value.int .i64 t.1, Value.int .i64 t.2])) : SXr w w8 7 p ⟨a.n, a.s, a.l, a.m, a.e, a.d, X, a.cn, a.cs, a.cl, a.cm, a.ce, a.cd, c⟩ := by
 have g := h.below hb;exact ⟨⟨g.pb.n, g.pb.s, g.pb.l, g.pb.m, g.pb.e, g.pb.d, SB.own ho⟩, fun _ => g.n (by omega), fun _ => g.s (by omega), fun _ => g.l (by omega), fun _ => g.m (by omega), fun _ => g.e (by omega), fun _ => g.d (by omega), fun _ => own_mono ho hw, fun _ => g.ed (by omega)⟩
theorem SXr.app0 {ys : List (Int)} (h : SXr w wr 7 p a) (ho : w8.ownsRow w.heap.size 53 1 (.slice X (p.needs ++ ys).length c) (p.needs ++ ys).length ((p.needs ++ ys).map (Value.int .u64))) (hg : wr.grownBy w8 (Value.slice a.n p.needs.length a.cn).ownBlock) : PB w8 ⟨p.office, p.num, (p.needs ++ ys), p.st, p.pl, p.ma, p.er, p.dr, p.rt⟩ ⟨X, a.s, a.l, a.m, a.e, a.d, a.r, c, a.cs, a.cl, a.cm, a.ce, a.cd, a.cr⟩ := by
 have hr := h.n (by omega);have r1 : ∀ t, t ≠ 53 → ∀ r, (Value.slice a.n p.needs.length a.cn).ownBlock = some r → ∃ t' cs, Bk wr r t' cs ∧ t' ≠ t := fun t ht r e => by
  obtain ⟨cs, hb⟩ := own_row_bk hr e;exact ⟨_, cs, hb, fun e => ht e.symm⟩
 obtain ⟨us, hs1, hs2⟩ := h.pb.s;exact ⟨SB.own ho, ⟨us, hs1.grown hg (r1 _ (by decide)), hs2.grown hg (r1 _ (by decide))⟩, h.pb.l.grown hg (r1 _ (by decide)), h.pb.m.grown hg (r1 _ (by decide)), h.pb.e.grown hg (r1 _ (by decide)), h.pb.d.grown hg (r1 _ (by decide)), h.pb.r.grown hg (r1 _ (by decide))⟩
theorem SXr.app1 {vs : List Value} {ys : List Sk} (h : SXr w wr 7 p a) (ho : w8.ownsRow w.heap.size 62 5 (.slice X (p.st ++ ys).length c) (p.st ++ ys).length vs) (hv : SV wr vs (p.st ++ ys)) (hg : wr.grownBy w8 (Value.slice a.s p.st.length a.cs).ownBlock) : PB w8 ⟨p.office, p.num, p.needs, (p.st ++ ys), p.pl, p.ma, p.er, p.dr, p.rt⟩ ⟨a.n, X, a.l, a.m, a.e, a.d, a.r, a.cn, c, a.cl, a.cm, a.ce, a.cd, a.cr⟩ := by
 obtain ⟨us, hr, _⟩ := h.s (by omega);have r1 : ∀ t, t ≠ 62 → ∀ r, (Value.slice a.s p.st.length a.cs).ownBlock = some r → ∃ t' cs, Bk wr r t' cs ∧ t' ≠ t := fun t ht r e => by
  obtain ⟨cs, hb⟩ := own_row_bk hr e;exact ⟨_, cs, hb, fun e => ht e.symm⟩
 exact ⟨h.pb.n.grown hg (r1 _ (by decide)), ⟨vs, SB.own ho, hv.grown hg (r1 _ (by decide))⟩, h.pb.l.grown hg (r1 _ (by decide)), h.pb.m.grown hg (r1 _ (by decide)), h.pb.e.grown hg (r1 _ (by decide)), h.pb.d.grown hg (r1 _ (by decide)), h.pb.r.grown hg (r1 _ (by decide))⟩
theorem SXr.app2 {ys : List (Plc)} (h : SXr w wr 7 p a) (ho : w8.ownsRow w.heap.size 114 6 (.slice X (p.pl ++ ys).length c) (p.pl ++ ys).length ((p.pl ++ ys).flatMap plC)) (hg : wr.grownBy w8 (Value.slice a.l p.pl.length a.cl).ownBlock) : PB w8 ⟨p.office, p.num, p.needs, p.st, (p.pl ++ ys), p.ma, p.er, p.dr, p.rt⟩ ⟨a.n, a.s, X, a.m, a.e, a.d, a.r, a.cn, a.cs, c, a.cm, a.ce, a.cd, a.cr⟩ := by
 have hr := h.l (by omega);have r1 : ∀ t, t ≠ 114 → ∀ r, (Value.slice a.l p.pl.length a.cl).ownBlock = some r → ∃ t' cs, Bk wr r t' cs ∧ t' ≠ t := fun t ht r e => by
  obtain ⟨cs, hb⟩ := own_row_bk hr e;exact ⟨_, cs, hb, fun e => ht e.symm⟩
 obtain ⟨us, hs1, hs2⟩ := h.pb.s;exact ⟨h.pb.n.grown hg (r1 _ (by decide)), ⟨us, hs1.grown hg (r1 _ (by decide)), hs2.grown hg (r1 _ (by decide))⟩, SB.own ho, h.pb.m.grown hg (r1 _ (by decide)), h.pb.e.grown hg (r1 _ (by decide)), h.pb.d.grown hg (r1 _ (by decide)), h.pb.r.grown hg (r1 _ (by decide))⟩
theorem SXr.app3 {ys : List (Mk)} (h : SXr w wr 7 p a) (ho : w8.ownsRow w.heap.size 88 7 (.slice X (p.ma ++ ys).length c) (p.ma ++ ys).length ((p.ma ++ ys).flatMap mkC)) (hg : wr.grownBy w8 (Value.slice a.m p.ma.length a.cm).ownBlock) : PB w8 ⟨p.office, p.num, p.needs, p.st, p.pl, (p.ma ++ ys), p.er, p.dr, p.rt⟩ ⟨a.n, a.s, a.l, X, a.e, a.d, a.r, a.cn, a.cs, a.cl, c, a.ce, a.cd, a.cr⟩ := by
 have hr := h.m (by omega);have r1 : ∀ t, t ≠ 88 → ∀ r, (Value.slice a.m p.ma.length a.cm).ownBlock = some r → ∃ t' cs, Bk wr r t' cs ∧ t' ≠ t := fun t ht r e => by
  obtain ⟨cs, hb⟩ := own_row_bk hr e;exact ⟨_, cs, hb, fun e => ht e.symm⟩
 obtain ⟨us, hs1, hs2⟩ := h.pb.s;exact ⟨h.pb.n.grown hg (r1 _ (by decide)), ⟨us, hs1.grown hg (r1 _ (by decide)), hs2.grown hg (r1 _ (by decide))⟩, h.pb.l.grown hg (r1 _ (by decide)), SB.own ho, h.pb.e.grown hg (r1 _ (by decide)), h.pb.d.grown hg (r1 _ (by decide)), h.pb.r.grown hg (r1 _ (by decide))⟩
theorem SXr.app4 {ys : List (Int × Int)} (h : SXr w wr 7 p a) (ho : w8.ownsRow w.heap.size 77 2 (.slice X (p.er ++ ys).length c) (p.er ++ ys).length (idC (p.er ++ ys))) (hg : wr.grownBy w8 (Value.slice a.e p.er.length a.ce).ownBlock) : PB w8 ⟨p.office, p.num, p.needs, p.st, p.pl, p.ma, (p.er ++ ys), p.dr, p.rt⟩ ⟨a.n, a.s, a.l, a.m, X, a.d, a.r, a.cn, a.cs, a.cl, a.cm, c, a.cd, a.cr⟩ := by
 have hr := h.e (by omega);have r1 : ∀ t, t ≠ 77 → ∀ r, (Value.slice a.e p.er.length a.ce).ownBlock = some r → ∃ t' cs, Bk wr r t' cs ∧ t' ≠ t := fun t ht r e => by
  obtain ⟨cs, hb⟩ := own_row_bk hr e;exact ⟨_, cs, hb, fun e => ht e.symm⟩
 obtain ⟨us, hs1, hs2⟩ := h.pb.s;have hd := own_grown (h.d (by omega)) hg (by
  rcases h.ed (by omega) with e | e
  ·rw [e]; cases hq : (Value.slice a.d p.dr.length a.cd).ownBlock with
   | none => exact .inl rfl
   | some r => exact .inr (by simp)
  exact .inr (fun e2 => e e2.symm))
 exact ⟨h.pb.n.grown hg (r1 _ (by decide)), ⟨us, hs1.grown hg (r1 _ (by decide)), hs2.grown hg (r1 _ (by decide))⟩, h.pb.l.grown hg (r1 _ (by decide)), h.pb.m.grown hg (r1 _ (by decide)), SB.own ho, SB.own hd, h.pb.r.grown hg (r1 _ (by decide))⟩
theorem SXr.app5 {ys : List (Int × Int)} (h : SXr w wr 7 p a) (ho : w8.ownsRow w.heap.size 77 2 (.slice X (p.dr ++ ys).length c) (p.dr ++ ys).length (idC (p.dr ++ ys))) (hg : wr.grownBy w8 (Value.slice a.d p.dr.length a.cd).ownBlock) : PB w8 ⟨p.office, p.num, p.needs, p.st, p.pl, p.ma, p.er, (p.dr ++ ys), p.rt⟩ ⟨a.n, a.s, a.l, a.m, a.e, X, a.r, a.cn, a.cs, a.cl, a.cm, a.ce, c, a.cr⟩ := by
 have hr := h.d (by omega);have r1 : ∀ t, t ≠ 77 → ∀ r, (Value.slice a.d p.dr.length a.cd).ownBlock = some r → ∃ t' cs, Bk wr r t' cs ∧ t' ≠ t := fun t ht r e => by
  obtain ⟨cs, hb⟩ := own_row_bk hr e;exact ⟨_, cs, hb, fun e => ht e.symm⟩
 obtain ⟨us, hs1, hs2⟩ := h.pb.s;have hd := own_grown (h.e (by omega)) hg (h.ed (by omega));exact ⟨h.pb.n.grown hg (r1 _ (by decide)), ⟨us, hs1.grown hg (r1 _ (by decide)), hs2.grown hg (r1 _ (by decide))⟩, h.pb.l.grown hg (r1 _ (by decide)), h.pb.m.grown hg (r1 _ (by decide)), SB.own hd, SB.own ho, h.pb.r.grown hg (r1 _ (by decide))⟩
theorem SXr.app6 {ys : List (Int × Int)} (h : SXr w wr 7 p a) (ho : w8.ownsRow w.heap.size 92 2 (.slice X (p.rt ++ ys).length c) (p.rt ++ ys).length ((p.rt ++ ys).flatMap fun t => [Value.int .i64 t.1, Value.int .i64 t.2])) (hg : wr.grownBy w8 (Value.slice a.r p.rt.length a.cr).ownBlock) : PB w8 ⟨p.office, p.num, p.needs, p.st, p.pl, p.ma, p.er, p.dr, (p.rt ++ ys)⟩ ⟨a.n, a.s, a.l, a.m, a.e, a.d, X, a.cn, a.cs, a.cl, a.cm, a.ce, a.cd, c⟩ := by
 have hr := h.r (by omega);have r1 : ∀ t, t ≠ 92 → ∀ r, (Value.slice a.r p.rt.length a.cr).ownBlock = some r → ∃ t' cs, Bk wr r t' cs ∧ t' ≠ t := fun t ht r e => by
  obtain ⟨cs, hb⟩ := own_row_bk hr e;exact ⟨_, cs, hb, fun e => ht e.symm⟩
 obtain ⟨us, hs1, hs2⟩ := h.pb.s;exact ⟨h.pb.n.grown hg (r1 _ (by decide)), ⟨us, hs1.grown hg (r1 _ (by decide)), hs2.grown hg (r1 _ (by decide))⟩, h.pb.l.grown hg (r1 _ (by decide)), h.pb.m.grown hg (r1 _ (by decide)), h.pb.e.grown hg (r1 _ (by decide)), h.pb.d.grown hg (r1 _ (by decide)), SB.own ho⟩
end
structure SX (w wr : World) (S Z i : Nat) (p : Pa) (a : Pw) : Prop where
 s : Bk wr S 34 (paC p a)
 z : Bk wr Z 34 (paC paZ pwZ)
 lt : w.heap.size ≤ S ∧ w.heap.size ≤ Z ∧ S ≠ Z
 r : SXr w wr i p a
 b : Below w.heap.size w wr
structure SZ (w wr : World) (S Z : Nat) (p : Pa) (a : Pw) : Prop where
 s : Bk wr S 34 (paC p a)
 z : Bk wr Z 34 (paC paZ pwZ)
 lt : w.heap.size ≤ S ∧ w.heap.size ≤ Z ∧ S ≠ Z
 pb : PB wr p a
 b : Below w.heap.size w wr
section
variable {w wr w8 : World} {i S Z : Nat} {p p' : Pa} {a a' : Pw}
theorem SX.below (h : SX w wr S Z i p a) (hb : Below wr.heap.size wr w8) : SX w w8 S Z i p a := ⟨h.s.below hb h.s.lt, h.z.below hb h.z.lt, h.lt, h.r.below hb, h.b.trans (hb.mono h.b.size)⟩
theorem SX.alloc (h : SX w wr S Z i p a) (ob : Obj) : SX w (wr.alloc ob) S Z i p a := h.below ((Below.refl _ _).alloc (Nat.le_refl _) ob)
theorem SX.drew (h : SX w wr S Z i p a) : SX w wr.drew S Z i p a := h.below (Below.refl _ _).drew
theorem SX.out (h : SX w wr S Z i p a) : SZ w wr S Z p a := ⟨h.s, h.z, h.lt, h.r.pb, h.b⟩
theorem SX.cl {j : Nat} {v : Value} (h : SX w wr S Z i p a) (hb : Below wr.heap.size wr w8) (hr : SXr w w8 (i + 1) p a') (hc : (paC p a).setIfInBounds j v = paC p a') : SX w (w8.setCell ⟨S, j, none⟩ v) S Z (i + 1) p a' :=
 ⟨hc ▸ (h.s.below hb h.s.lt).set_ j v, (h.z.below hb h.z.lt).far (p := ⟨S, j, none⟩) (fun e => h.lt.2.2 e.symm) v, h.lt, hr.store (h.s.below hb h.s.lt) v, (h.b.trans (hb.mono h.b.size)).setCell (p := ⟨S, j, none⟩) h.lt.1 v⟩
theorem SX.ap {j n size : Nat} {t : TypeId} {xs : List Value} {v u : Value} (h : SX w wr S Z i p a) (ho : wr.ownsRow w.heap.size t size u n xs) (ht : t ≠ 34) (hg : wr.grownBy w8 u.ownBlock) (hpb : PB w8 p' a') (hc : (paC p a).setIfInBounds j v = paC p' a') : SZ w (w8.setCell ⟨S, j, none⟩ v) S Z p' a' :=
 have hs := h.s.grown hg (h.s.ne_own ho ht)
 ⟨hc ▸ hs.set_ j v, (h.z.grown hg (h.z.ne_own ho ht)).far (p := ⟨S, j, none⟩) (fun e => h.lt.2.2 e.symm) v, h.lt, hpb.store hs (by decide) v, (h.b.grown hg h.b.size (fun r e => (ho.lt r e).1)).setCell (p := ⟨S, j, none⟩) h.lt.1 v⟩
theorem SX.set_ {j : Nat} {v : Value} (h : SX w wr S Z i p a) (hpb : PB wr p' a') (hc : (paC p a).setIfInBounds j v = paC p' a') : SZ w (wr.setCell ⟨S, j, none⟩ v) S Z p' a' :=
 ⟨hc ▸ h.s.set_ j v, h.z.far (p := ⟨S, j, none⟩) (fun e => h.lt.2.2 e.symm) v, h.lt, hpb.store h.s (by decide) v, h.b.setCell (p := ⟨S, j, none⟩) h.lt.1 v⟩
end
end Go.Proofs.YtnapnkmehnabfaaGreat
