import Derived.Test.YtnapnkmehnabfaaGreatP12
namespace Go.Proofs.YtnapnkmehnabfaaGreat
open Go.RowKit Go.Maps

/-- A mark. -/
structure Mk where
  p : Int
  i : Int
  c : Cl
def mkC (m : Mk) : List Value := [.int .u64 m.p, .int .i64 m.i, .int .i64 m.c.kind, .int .i64 m.c.office, .int .i64 m.c.fr, .int .i64 m.c.til, .int .i64 m.c.dec]
/-- Marks in memory. -/
def SM (w : World) (A : Option Addr) (l : List Mk) : Prop := SL w A (l.flatMap mkC)
theorem mkC_at : ∀ (l : List Mk) (k : Nat) (t : Mk), l[k]? = some t → (l.flatMap mkC)[k * 7]? = some (.int .u64 t.p) ∧ (l.flatMap mkC)[k * 7 + 1]? = some (.int .i64 t.i) ∧ (l.flatMap mkC)[k * 7 + 2]? = some (.int .i64 t.c.kind) ∧ (l.flatMap mkC)[k * 7 + 3]? = some (.int .i64 t.c.office) ∧ (l.flatMap mkC)[k * 7 + 4]? = some (.int .i64 t.c.fr) ∧ (l.flatMap mkC)[k * 7 + 5]? = some (.int .i64 t.c.til) ∧ (l.flatMap mkC)[k * 7 + 6]? = some (.int .i64 t.c.dec)
  | [], k, t, h => by simp at h
  | u :: l, 0, t, h => by
    obtain rfl : u = t := by simpa using h
    exact ⟨rfl, rfl, rfl, rfl, rfl, rfl, rfl⟩
  | u :: l, k + 1, t, h => by
    have := mkC_at l k t (by simpa using h)
    have e : (u :: l).flatMap mkC = .int .u64 u.p :: .int .i64 u.i :: .int .i64 u.c.kind :: .int .i64 u.c.office :: .int .i64 u.c.fr :: .int .i64 u.c.til :: .int .i64 u.c.dec :: l.flatMap mkC := rfl
    rw [e, show (k + 1) * 7 = k * 7 + 1 + 1 + 1 + 1 + 1 + 1 + 1 by omega]
    simpa using this
theorem SM.below {w w' : World} {A : Option Addr} {l : List Mk} (h : SM w A l) (hb : Below w.heap.size w w') : SM w' A l := SL.below h hb
theorem SM.get {w : World} {A : Option Addr} {l : List Mk} {k : Nat} (h : SM w A l) (hk : k < l.length) : ∃ b p t, A = some ⟨b, p, none⟩ ∧ w.cell? ⟨b, p + k * 7, none⟩ = some (.int .u64 (Mk.p t)) ∧ w.cell? ⟨b, p + k * 7 + 1, none⟩ = some (.int .i64 t.i) ∧ w.cell? ⟨b, p + k * 7 + 2, none⟩ = some (.int .i64 t.c.kind) ∧ w.cell? ⟨b, p + k * 7 + 3, none⟩ = some (.int .i64 t.c.office) ∧ w.cell? ⟨b, p + k * 7 + 4, none⟩ = some (.int .i64 t.c.fr) ∧ w.cell? ⟨b, p + k * 7 + 5, none⟩ = some (.int .i64 t.c.til) ∧ w.cell? ⟨b, p + k * 7 + 6, none⟩ = some (.int .i64 t.c.dec) ∧ Hid (l[k]? = some t) := by
  obtain ⟨h1, h2, h3, h4, h5, h6, h7⟩ := mkC_at l k _ (List.getElem?_eq_getElem hk)
  obtain ⟨b, p, e, _, c1⟩ := h _ _ h1
  subst e
  have c2 := SL.two h h1 h2
  have c3 := SL.two h h1 h3
  have c4 := SL.two h h1 h4
  have c5 := SL.two h h1 h5
  have c6 := SL.two h h1 h6
  have c7 := SL.two h h1 h7
  rw [← Nat.add_assoc] at c2 c3 c4 c5 c6 c7
  exact ⟨b, p, _, rfl, c1, c2, c3, c4, c5, c6, c7, Lib.hid (List.getElem?_eq_getElem hk)⟩
/-- Retires in memory. -/
def SR (w : World) (A : Option Addr) (l : List (Int × Int)) : Prop := SL w A (l.flatMap fun t => [.int .i64 t.1, .int .i64 t.2])
theorem rtC_at : ∀ (l : List (Int × Int)) (k : Nat) (t : Int × Int), l[k]? = some t → (l.flatMap fun t => [Value.int .i64 t.1, Value.int .i64 t.2])[k * 2]? = some (.int .i64 t.1) ∧ (l.flatMap fun t => [Value.int .i64 t.1, Value.int .i64 t.2])[k * 2 + 1]? = some (.int .i64 t.2)
  | [], k, t, h => by simp at h
  | u :: l, 0, t, h => by
    obtain rfl : u = t := by simpa using h
    exact ⟨rfl, rfl⟩
  | u :: l, k + 1, t, h => by
    have := rtC_at l k t (by simpa using h)
    rw [List.flatMap_cons, show (k + 1) * 2 = k * 2 + 1 + 1 by omega]
    simpa using this
theorem SR.below {w w' : World} {A : Option Addr} {l : List (Int × Int)} (h : SR w A l) (hb : Below w.heap.size w w') : SR w' A l := SL.below h hb
theorem SR.get {w : World} {A : Option Addr} {l : List (Int × Int)} {k : Nat} (h : SR w A l) (hk : k < l.length) : ∃ b o x y, A = some ⟨b, o, none⟩ ∧ w.cell? ⟨b, o + k * 2, none⟩ = some (.int .i64 x) ∧ w.cell? ⟨b, o + k * 2 + 1, none⟩ = some (.int .i64 y) ∧ Hid (l[k]? = some (x, y)) := by
  obtain ⟨h1, h2⟩ := rtC_at l k _ (List.getElem?_eq_getElem hk)
  obtain ⟨b, o, e, _, c1⟩ := h _ _ h1
  subst e
  have c2 := SL.two h h1 h2
  rw [← Nat.add_assoc] at c2
  exact ⟨b, o, _, _, rfl, c1, c2, Lib.hid (List.getElem?_eq_getElem hk)⟩
theorem SD.below {w w' : World} {A : Option Addr} {l : List (Int × Int)} (h : SD w A l) (hb : Below w.heap.size w w') : SD w' A l := SL.below h hb
theorem SU.below {w w' : World} {A : Option Addr} {l : List Int} (h : SU w A l) (hb : Below w.heap.size w w') : SU w' A l := SL.below h hb
/-- A patch. -/
structure Pa where
  office : Int
  num : Int
  needs : List Int
  st : List Sk
  pl : List Plc
  ma : List Mk
  er : List (Int × Int)
  dr : List (Int × Int)
  rt : List (Int × Int)
/-- The errors of single elements. -/
def ndW (l : List Int) (i : Nat) : Int := if 0 < i ∧ l.getD i 0 ≤ l.getD (i - 1) 0 then 16 else 0
def mkW (o : Int) (needs : List Int) (l : List Mk) (i : Nat) : Int := match l[i]? with
  | some m => if m.p ∉ needs then 12 else if ¬ (0 ≤ m.i ∧ m.i ≤ 4095) ∨ clE m.c ≠ 0 ∨ m.c.office ≠ o then 1 else 0
  | none => 0
def rtW (l : List (Int × Int)) (i : Nat) : Int := match l[i]? with
  | some d => if (0 ≤ d.1 ∧ d.1 ≤ 1048576) ∧ (0 ≤ d.2 ∧ d.2 ≤ 73048) then 0 else 1
  | none => 0
def argE (p : Pa) : Int := if (0 ≤ p.office ∧ p.office ≤ 63) ∧ (0 ≤ p.num ∧ p.num ≤ 1099511627776) then 0 else 1
def limE (p : Pa) : Int := if p.needs.length ≤ 64 ∧ p.st.length ≤ 4096 ∧ p.pl.length ≤ 4096 ∧ p.ma.length ≤ 4096 ∧ p.er.length ≤ 4096 ∧ p.dr.length ≤ 4096 ∧ p.rt.length ≤ 4096 then 0 else 4
/-- The errors of the parts of a patch, in order; its error is the first of them. -/
def paL (p : Pa) : List Int := [argE p, limE p, eachE (ndW p.needs) p.needs.length, eachE (skW p.office p.st) p.st.length, eachE (plW p.office p.pl) p.pl.length, eachE (mkW p.office p.needs p.ma) p.ma.length, eachE (idE p.needs p.er) p.er.length, eachE (idE p.needs p.dr) p.dr.length, eachE (rtW p.rt) p.rt.length]
def paE (p : Pa) : Int := orE (paL p)
/-- Where the lists of a patch lie. -/
structure Pw where
  n : Option Addr
  s : Option Addr
  l : Option Addr
  m : Option Addr
  e : Option Addr
  d : Option Addr
  r : Option Addr
  cn : Nat
  cs : Nat
  cl : Nat
  cm : Nat
  ce : Nat
  cd : Nat
  cr : Nat
def paC (p : Pa) (a : Pw) : Array Value := #[.int .i64 p.office, .int .i64 p.num, .slice a.n p.needs.length a.cn, .slice a.s p.st.length a.cs, .slice a.l p.pl.length a.cl, .slice a.m p.ma.length a.cm, .slice a.e p.er.length a.ce, .slice a.d p.dr.length a.cd, .slice a.r p.rt.length a.cr]
/-- A patch in memory. -/
structure PT (w : World) (p : Pa) (a : Pw) : Prop where
  n : SU w a.n p.needs
  s : SS w a.s p.st
  l : SPl w a.l p.pl
  m : SM w a.m p.ma
  e : SD w a.e p.er
  d : SD w a.d p.dr
  r : SR w a.r p.rt
theorem PT.below {w w' : World} {p : Pa} {a : Pw} (h : PT w p a) (hb : Below w.heap.size w w') : PT w' p a := ⟨h.n.below hb, h.s.below hb, h.l.below hb, h.m.below hb, h.e.below hb, h.d.below hb, h.r.below hb⟩
end Go.Proofs.YtnapnkmehnabfaaGreat
