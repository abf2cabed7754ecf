import Derived.Test.YtnapnkmehnabfaaGreatQA
set_option linter.unusedSimpArgs false
set_option maxHeartbeats 8000000
set_option maxRecDepth 100000
namespace Go.Proofs.YtnapnkmehnabfaaGreat
open Go.RowKit Go.Maps
structure Plc where
 x : Int
 y : Int
 nm : ByteArray
 office : Int
 fr : Int
 til : Int
def plE (o : Int) (p : Plc) : Int := if ptE p.x p.y ≠ 0 then 5 else if namB p.nm = false then 6 else if p.office = o ∧ (0 ≤ p.fr ∧ p.fr ≤ 73048) ∧ (0 ≤ p.til ∧ p.til ≤ 73048) ∧ p.fr ≤ p.til then 0 else 1
theorem refPlace_any (x y : Int) (nm : ByteArray) (of fr til o : Int) (w : World) :
  Calls Tryz.prog 141 #[.agg #[.int .i64 x, .int .i64 y, .string nm, .int .i64 of, .int .i64 fr, .int .i64 til], .int .i64 o] w fun e w' => e = .returned (.int .i64 (plE o ⟨x, y, nm, of, fr, til⟩)) ∧ Below w.heap.size w w' := by
 obtain ⟨S, hSz⟩ : ∃ S, Hid (w.heap.size = S) := ⟨_, q9 rfl⟩;obtain ⟨R, hR⟩ : ∃ z, Hid (plE o ⟨x, y, nm, of, fr, til⟩ = z) := ⟨_, q9 rfl⟩;rw [hR.out];have hb0 : Below S w (w.alloc (.cells #[.int .i64 x, .int .i64 y, .string nm, .int .i64 of, .int .i64 fr, .int .i64 til] 114)) := hSz.out ▸ (Below.refl _ _).alloc (Nat.le_refl _) _;have hbk : Bk (w.alloc (.cells #[.int .i64 x, .int .i64 y, .string nm, .int .i64 of, .int .i64 fr, .int .i64 til] 114)) S 114 #[.int .i64 x, .int .i64 y, .string nm, .int .i64 of, .int .i64 fr, .int .i64 til] := Bk.new' _ _ _ hSz.out;go_enter Tryz.func141, Tryz.ntmps141
 go_upto_region 1 with fail
 rw [hSz.out];generalize w.alloc (.cells #[.int .i64 x, .int .i64 y, .string nm, .int .i64 of, .int .i64 fr, .int .i64 til] 114) = W0 at *;have Hb0 := q9 hb0;have Hk0 := q9 hbk;have k0 : W0.cell? ⟨S, 0, none⟩ = some (.int .i64 x) := hbk.cell 0;have k1 : W0.cell? ⟨S, 1, none⟩ = some (.int .i64 y) := hbk.cell 1;have hz0 : S ≤ W0.heap.size := by have := hbk.lt; omega
 clear hb0 hbk;by_cases e1 : ptE x y = 0
 ·have b1 : (ptE x y != 0) = false := by simp [e1]
  go_wp2_with fail
  refine (refGood_any x y W0).mono ?_;rintro e w1 ⟨rfl, hb1⟩;have Hb1 := q9 (Hb0.out.trans (hb1.mono hz0));have hk1 := Hk0.out.below hb1 Hk0.out.lt;have k2 : w1.cell? ⟨S, 2, none⟩ = some (.string nm) := hk1.cell 2;have k3 : w1.cell? ⟨S, 3, none⟩ = some (.int .i64 of) := hk1.cell 3;have k4 : w1.cell? ⟨S, 4, none⟩ = some (.int .i64 fr) := hk1.cell 4;have k5 : w1.cell? ⟨S, 5, none⟩ = some (.int .i64 til) := hk1.cell 5;clear hb1 Hb0 Hk0 k0 k1 hk1;cases e2 : namB nm with
  | true =>
   have HN := q9 (e2 ▸ refNamed_any nm w1);by_cases hok : of = o ∧ (0 ≤ fr ∧ fr ≤ 73048) ∧ (0 ≤ til ∧ til ≤ 73048) ∧ fr ≤ til
   ·have hr := q9 (show R = 0 from by rw [← hR.out, plE, if_neg (by simp [e1]), if_neg (by simp [e2]), if_pos hok]);obtain ⟨t2, t3, t4, t5⟩ := hok;have b2 : (of != o) = false := by simp [t2]
    clear t2 e1 e2;go_wp2_with fail
    refine (HN.out).mono ?_;rintro e w2 ⟨rfl, rfl⟩;go_wp2_with fail
    refine (day_any fr _).mono ?_;rintro e wx ⟨rfl, rfl⟩;rw [inB_true t3];go_wp2_with fail
    refine (day_any til _).mono ?_;rintro e wx ⟨rfl, rfl⟩;rw [inB_true t4];go_wp2_with fail
    go_ret
    exact ⟨by rw [hr.out]; rfl, hSz.out ▸ Hb1.out⟩
   have hr := q9 (show R = 1 from by rw [← hR.out, plE, if_neg (by simp [e1]), if_neg (by simp [e2]), if_neg hok]);have hc : ¬ of = o ∨ (of = o ∧ ¬ (0 ≤ fr ∧ fr ≤ 73048)) ∨ (of = o ∧ (0 ≤ fr ∧ fr ≤ 73048) ∧ ¬ (0 ≤ til ∧ til ≤ 73048)) ∨ (of = o ∧ (0 ≤ fr ∧ fr ≤ 73048) ∧ (0 ≤ til ∧ til ≤ 73048) ∧ ¬ fr ≤ til) := by omega
   clear hok e1 e2;rcases hc with t2 | ⟨t2, t3⟩ | ⟨t2, t3, t4⟩ | ⟨t2, t3, t4, t5⟩
   ·have b2 : (of != o) = true := by simp [t2]
    clear t2;go_wp2_with fail
    refine (HN.out).mono ?_;rintro e w2 ⟨rfl, rfl⟩;go_wp2_with fail
    go_ret
    exact ⟨by rw [hr.out]; rfl, hSz.out ▸ Hb1.out⟩
   ·have b2 : (of != o) = false := by simp [t2]
    clear t2;go_wp2_with fail
    refine (HN.out).mono ?_;rintro e w2 ⟨rfl, rfl⟩;go_wp2_with fail
    refine (day_any fr _).mono ?_;rintro e wx ⟨rfl, rfl⟩;rw [inB_false t3];go_wp2_with fail
    go_ret
    exact ⟨by rw [hr.out]; rfl, hSz.out ▸ Hb1.out⟩
   ·have b2 : (of != o) = false := by simp [t2]
    clear t2;go_wp2_with fail
    refine (HN.out).mono ?_;rintro e w2 ⟨rfl, rfl⟩;go_wp2_with fail
    refine (day_any fr _).mono ?_;rintro e wx ⟨rfl, rfl⟩;rw [inB_true t3];go_wp2_with fail
    refine (day_any til _).mono ?_;rintro e wx ⟨rfl, rfl⟩;rw [inB_false t4];go_wp2_with fail
    go_ret
    exact ⟨by rw [hr.out]; rfl, hSz.out ▸ Hb1.out⟩
   have b2 : (of != o) = false := by simp [t2]
   clear t2;go_wp2_with fail
   refine (HN.out).mono ?_;rintro e w2 ⟨rfl, rfl⟩;go_wp2_with fail
   refine (day_any fr _).mono ?_;rintro e wx ⟨rfl, rfl⟩;rw [inB_true t3];go_wp2_with fail
   refine (day_any til _).mono ?_;rintro e wx ⟨rfl, rfl⟩;rw [inB_true t4];go_wp2_with fail
   go_ret
   exact ⟨by rw [hr.out]; rfl, hSz.out ▸ Hb1.out⟩
  | false =>
   have HN := q9 (e2 ▸ refNamed_any nm w1);have hr := q9 (show R = 6 from by rw [← hR.out, plE, if_neg (by simp [e1]), if_pos e2]);clear e1 e2;go_wp2_with fail
   refine (HN.out).mono ?_;rintro e w2 ⟨rfl, rfl⟩;go_wp2_with fail
   go_ret
   exact ⟨by rw [hr.out]; rfl, hSz.out ▸ Hb1.out⟩
 have b1 : (ptE x y != 0) = true := by simp [e1]
 have hr := q9 (show R = 5 from by rw [← hR.out, plE, if_pos e1]);go_wp2_with fail
 refine (refGood_any x y W0).mono ?_;rintro e w1 ⟨rfl, hb1⟩;have Hb1 := q9 (Hb0.out.trans (hb1.mono hz0));clear hb1;go_wp2_with fail
 go_ret
 exact ⟨by rw [hr.out]; rfl, hSz.out ▸ Hb1.out⟩
def SS (w : World) (A : Option Addr) (l : List Sk) : Prop := ∃ vs, SL w A vs ∧ vs.length = l.length * 5 ∧ ∀ (j : Nat) s, l[j]? = some s → ∃ C c, vs[j * 5]? = some (.int .i64 (Sk.ax s)) ∧ vs[j * 5 + 1]? = some (.int .i64 s.ay) ∧ vs[j * 5 + 2]? = some (.int .i64 s.bx) ∧ vs[j * 5 + 3]? = some (.int .i64 s.by_) ∧ vs[j * 5 + 4]? = some (.slice C s.cl.length c) ∧ SC w C s.cl ∧ s.cl.length ≤ 1099511627776
theorem SS.below {w w' : World} {A : Option Addr} {l : List Sk} (h : SS w A l) (hb : Below w.heap.size w w') : SS w' A l := by
 obtain ⟨vs, h1, h2, h3⟩ := h;refine ⟨vs, h1.below hb, h2, fun j s hs => ?_⟩;obtain ⟨C, c, c0, c1, c2, c3, c4, h4, h5⟩ := h3 j s hs;exact ⟨C, c, c0, c1, c2, c3, c4, h4.below hb, h5⟩
theorem SS.get {w : World} {A : Option Addr} {l : List Sk} {k : Nat} (h : SS w A l) (hk : k < l.length) : ∃ b p s C c, A = some ⟨b, p, none⟩ ∧ w.cell? ⟨b, p + k * 5, none⟩ = some (.int .i64 (Sk.ax s)) ∧ w.cell? ⟨b, p + k * 5 + 1, none⟩ = some (.int .i64 s.ay) ∧ w.cell? ⟨b, p + k * 5 + 2, none⟩ = some (.int .i64 s.bx) ∧ w.cell? ⟨b, p + k * 5 + 3, none⟩ = some (.int .i64 s.by_) ∧ w.cell? ⟨b, p + k * 5 + 4, none⟩ = some (.slice C s.cl.length c) ∧ SC w C s.cl ∧ s.cl.length ≤ 1099511627776 ∧ Hid (l[k]? = some s) := by
 obtain ⟨vs, h1, h2, h3⟩ := h;have hs : l[k]? = some l[k] := List.getElem?_eq_getElem hk;obtain ⟨C, c, e0, e1, e2, e3, e4, h4, h5⟩ := h3 k _ hs;obtain ⟨b, p, e, _, c0⟩ := h1 _ _ e0;subst e;have c1 := SL.two h1 e0 e1;have c2 := SL.two h1 e0 e2;have c3 := SL.two h1 e0 e3;have c4 := SL.two h1 e0 e4;rw [← Nat.add_assoc] at c1 c2 c3 c4;exact ⟨b, p, _, C, c, rfl, c0, c1, c2, c3, c4, h4, h5, q9 hs⟩
def plC (p : Plc) : List Value := [.int .i64 p.x, .int .i64 p.y, .string p.nm, .int .i64 p.office, .int .i64 p.fr, .int .i64 p.til]
def SPl (w : World) (A : Option Addr) (l : List Plc) : Prop := SL w A (l.flatMap plC)
theorem plC_at : ∀ (l : List Plc) (k : Nat) (t : Plc), l[k]? = some t → (l.flatMap plC)[k * 6]? = some (.int .i64 t.x) ∧ (l.flatMap plC)[k * 6 + 1]? = some (.int .i64 t.y) ∧ (l.flatMap plC)[k * 6 + 2]? = some (.string t.nm) ∧ (l.flatMap plC)[k * 6 + 3]? = some (.int .i64 t.office) ∧ (l.flatMap plC)[k * 6 + 4]? = some (.int .i64 t.fr) ∧ (l.flatMap plC)[k * 6 + 5]? = some (.int .i64 t.til)
 | [], k, t, h => by simp at h
 | u :: l, 0, t, h => by
  obtain rfl : u = t := by simpa using h
  exact ⟨rfl, rfl, rfl, rfl, rfl, rfl⟩
 | u :: l, k + 1, t, h => by
  have := plC_at l k t (by simpa using h);have e : (u :: l).flatMap plC = .int .i64 u.x :: .int .i64 u.y :: .string u.nm :: .int .i64 u.office :: .int .i64 u.fr :: .int .i64 u.til :: l.flatMap plC := rfl;rw [e, show (k + 1) * 6 = k * 6 + 1 + 1 + 1 + 1 + 1 + 1 by omega];simpa using this
theorem SPl.below {w w' : World} {A : Option Addr} {l : List Plc} (h : SPl w A l) (hb : Below w.heap.size w w') : SPl w' A l := SL.below h hb
theorem SPl.get {w : World} {A : Option Addr} {l : List Plc} {k : Nat} (h : SPl w A l) (hk : k < l.length) : ∃ b p t, A = some ⟨b, p, none⟩ ∧ w.cell? ⟨b, p + k * 6, none⟩ = some (.int .i64 (Plc.x t)) ∧ w.cell? ⟨b, p + k * 6 + 1, none⟩ = some (.int .i64 t.y) ∧ w.cell? ⟨b, p + k * 6 + 2, none⟩ = some (.string t.nm) ∧ w.cell? ⟨b, p + k * 6 + 3, none⟩ = some (.int .i64 t.office) ∧ w.cell? ⟨b, p + k * 6 + 4, none⟩ = some (.int .i64 t.fr) ∧ w.cell? ⟨b, p + k * 6 + 5, none⟩ = some (.int .i64 t.til) ∧ Hid (l[k]? = some t) := by
 obtain ⟨h1, h2, h3, h4, h5, h6⟩ := plC_at l k _ (List.getElem?_eq_getElem hk);obtain ⟨b, p, e, _, c1⟩ := h _ _ h1;subst e;have c2 := SL.two h h1 h2;have c3 := SL.two h h1 h3;have c4 := SL.two h h1 h4;have c5 := SL.two h h1 h5;have c6 := SL.two h h1 h6;rw [← Nat.add_assoc] at c2 c3 c4 c5 c6;exact ⟨b, p, _, rfl, c1, c2, c3, c4, c5, c6, q9 (List.getElem?_eq_getElem hk)⟩
def skW (o : Int) (l : List Sk) (i : Nat) : Int := match l[i]? with
 | some s => skE o s
 | none => 0
def plW (o : Int) (l : List Plc) (i : Nat) : Int := match l[i]? with
 | some p => plE o p
 | none => 0
def drawnE (o : Int) (st : List Sk) (pl : List Plc) : Int := if eachE (skW o st) st.length ≠ 0 then eachE (skW o st) st.length else eachE (plW o pl) pl.length
theorem refDrawn_any (o num : Int) (vN vM vE vD vR : Value) (AS AP : Option Addr) (cs cp : Nat) (st : List Sk) (pl : List Plc) (w : World) (hS : SS w AS st) (hP : SPl w AP pl) (hl : st.length ≤ 1099511627776) (hl2 : pl.length ≤ 1099511627776) :
  Calls Tryz.prog 43 #[.agg #[.int .i64 o, .int .i64 num, vN, .slice AS st.length cs, .slice AP pl.length cp, vM, vE, vD, vR]] w fun e w' => e = .returned (.int .i64 (drawnE o st pl)) ∧ Below w.heap.size w w' := by
 obtain ⟨S, hSz⟩ : ∃ S, Hid (w.heap.size = S) := ⟨_, q9 rfl⟩;obtain ⟨R, hR⟩ : ∃ z, Hid (drawnE o st pl = z) := ⟨_, q9 rfl⟩;rw [hR.out];have HS := q9 (fun (W : World) (hW : Below S w W) => (hS.below (hSz.out.symm ▸ hW) : SS W AS st));have HP := q9 (fun (W : World) (hW : Below S w W) => (hP.below (hSz.out.symm ▸ hW) : SPl W AP pl));have hb0 : Below S w (w.alloc (.cells #[.int .i64 o, .int .i64 num, vN, .slice AS st.length cs, .slice AP pl.length cp, vM, vE, vD, vR] 34)) := hSz.out ▸ (Below.refl _ _).alloc (Nat.le_refl _) _;have hbk : Bk (w.alloc (.cells #[.int .i64 o, .int .i64 num, vN, .slice AS st.length cs, .slice AP pl.length cp, vM, vE, vD, vR] 34)) S 34 #[.int .i64 o, .int .i64 num, vN, .slice AS st.length cs, .slice AP pl.length cp, vM, vE, vD, vR] := Bk.new' _ _ _ hSz.out;clear hS hP;go_enter Tryz.func43, Tryz.ntmps43
 go_upto_region 1 with fail
 rw [hSz.out];generalize w.alloc (.cells #[.int .i64 o, .int .i64 num, vN, .slice AS st.length cs, .slice AP pl.length cp, vM, vE, vD, vR] 34) = W0 at *;have Hb0 := q9 hb0;have hz0 : S ≤ W0.heap.size := by have := hbk.lt; omega
 have HSf := q9 (fun (W : World) (hW : Below W0.heap.size W0 W) => show W.cell? ⟨S, 0, none⟩ = some (.int .i64 o) ∧ W.cell? ⟨S, 3, none⟩ = some (.slice AS st.length cs) ∧ W.cell? ⟨S, 4, none⟩ = some (.slice AP pl.length cp) from ⟨(hbk.below hW hbk.lt).cell 0, (hbk.below hW hbk.lt).cell 3, (hbk.below hW hbk.lt).cell 4⟩);clear hb0 hbk;go_wp2_with fail
 go_loopw [3] (fun v wr => ∃ k : Nat, k ≤ st.length ∧ v = .int .i64 k ∧ Hid (orE (((List.range st.length).map (skW o st)).drop k) = eachE (skW o st) st.length) ∧ Below W0.heap.size W0 wr) (fun v _ => st.length - (intOf v).toNat)
 case atStart => exact ⟨0, by omega, rfl, q9 (by rw [List.drop_zero]; rfl), Below.refl _ _⟩
 case round =>
  obtain ⟨k, hk, rfl, hd, hb⟩ := hrel;have k0 : (0 : Int) ≤ (k : Int) := by omega
  have g3 : wr.cell? ⟨S, 3, none⟩ = some (.slice AS st.length cs) := (HSf.out _ hb).2.1;have HB := q9 (Hb0.out.trans (hb.mono hz0));by_cases hlt : k < st.length
  ·obtain ⟨b1, p1, s, C, c, rfl, c0, c1, c2, c3, c4, hsc, hcl, hx⟩ := (HS.out _ HB.out).get (k := k) hlt;have hd2 := hd.out;rw [eachE_drop hlt, show skW o st k = skE o s by rw [skW, hx.out]] at hd2;have Hd2 := q9 hd2;have HSg := q9 (fun (W : World) (hW : Below wr.heap.size wr W) => show W.cell? ⟨S, 3, none⟩ = some (.slice (some ⟨b1, p1, none⟩) st.length cs) ∧ W.cell? ⟨S, 0, none⟩ = some (.int .i64 o) ∧ W.cell? ⟨b1, p1 + k * 5, none⟩ = some (.int .i64 s.ax) ∧ W.cell? ⟨b1, p1 + k * 5 + 1, none⟩ = some (.int .i64 s.ay) ∧ W.cell? ⟨b1, p1 + k * 5 + 2, none⟩ = some (.int .i64 s.bx) ∧ W.cell? ⟨b1, p1 + k * 5 + 3, none⟩ = some (.int .i64 s.by_) ∧ W.cell? ⟨b1, p1 + k * 5 + 4, none⟩ = some (.slice C s.cl.length c) from ⟨(HSf.out _ (hb.trans (hW.mono hb.size))).2.1, (HSf.out _ (hb.trans (hW.mono hb.size))).1, cell_far c0 hW, cell_far c1 hW, cell_far c2 hW, cell_far c3 hW, cell_far c4 hW⟩);have HCl := q9 (fun (W : World) (hW : Below wr.heap.size wr W) => refStroke_any s.ax s.ay s.bx s.by_ o C c s.cl W (hsc.below hW) hcl);have Hb := q9 hb;have HB0 := q9 ((Below.refl wr.heap.size wr).drew);obtain ⟨z, hz⟩ : ∃ z, Hid (skE o s = z) := ⟨_, q9 rfl⟩;rw [hz.out] at Hd2;clear hd hd2 hx c0 c1 c2 c3 c4 hsc hcl hb HB;go_wp2_with fail
   refine rH 9 (fun W => W.cell? ⟨S, 3, none⟩ = some (.slice (some ⟨b1, p1, none⟩) st.length cs) ∧ W.cell? ⟨S, 0, none⟩ = some (.int .i64 o) ∧ W.cell? ⟨b1, p1 + k * 5, none⟩ = some (.int .i64 s.ax) ∧ W.cell? ⟨b1, p1 + k * 5 + 1, none⟩ = some (.int .i64 s.ay) ∧ W.cell? ⟨b1, p1 + k * 5 + 2, none⟩ = some (.int .i64 s.bx) ∧ W.cell? ⟨b1, p1 + k * 5 + 3, none⟩ = some (.int .i64 s.by_) ∧ W.cell? ⟨b1, p1 + k * 5 + 4, none⟩ = some (.slice C s.cl.length c)) ?_;refine Ht 0 (.pointer (some ⟨S, 3, none⟩)) 14 rfl rfl rfl (fun W hW => by obtain ⟨s0, s1, s2, s3, s4, s5, s6⟩ := hW; go_simp) (HSg.out _ HB0.out) ?_;refine Ht 1 (.slice (some ⟨b1, p1, none⟩) st.length cs) 15 rfl rfl rfl (fun W hW => by obtain ⟨s0, s1, s2, s3, s4, s5, s6⟩ := hW; go_simp) (HSg.out _ HB0.out) ?_;refine Ht 2 (.int .i64 k) 16 rfl rfl rfl (fun W hW => by obtain ⟨s0, s1, s2, s3, s4, s5, s6⟩ := hW; go_simp) (HSg.out _ HB0.out) ?_;refine Ht 3 (.pointer (some ⟨b1, p1 + k * 5, none⟩)) 17 rfl rfl rfl (fun W hW => by obtain ⟨s0, s1, s2, s3, s4, s5, s6⟩ := hW; go_simp) (HSg.out _ HB0.out) ?_;refine Ht 4 (.agg #[.int .i64 s.ax, .int .i64 s.ay, .int .i64 s.bx, .int .i64 s.by_, .slice C s.cl.length c]) 18 rfl rfl rfl (fun W hW => by obtain ⟨s0, s1, s2, s3, s4, s5, s6⟩ := hW; go_simp) (HSg.out _ HB0.out) ?_;refine Ht 5 (.pointer (some ⟨S, 0, none⟩)) 19 rfl rfl rfl (fun W hW => by obtain ⟨s0, s1, s2, s3, s4, s5, s6⟩ := hW; go_simp) (HSg.out _ HB0.out) ?_
   refine Ht 6 (.int .i64 o) 20 rfl rfl rfl (fun W hW => by obtain ⟨s0, s1, s2, s3, s4, s5, s6⟩ := hW; go_simp) (HSg.out _ HB0.out) ?_;try simp only [Act.put, qz0, qz1, qz2]
   refine H1 7 rfl rfl (fun K hK7 => ?_);go_simp
   go_at_call 140
   refine (HCl.out _ HB0.out).mono ?_;rintro e wv ⟨he, hv⟩;rw [show skE o ⟨s.ax, s.ay, s.bx, s.by_, s.cl⟩ = z from hz.out] at he;subst he;have HB1 := q9 (HB0.out.trans (hv.mono HB0.out.size));clear hv;refine hK7.out _ _ (HSg.out _ HB1.out) ?_;try simp only [Act.put, qz0, qz1, qz2]
   refine Ht 8 (.int .i64 z) 4 rfl rfl rfl (fun W hW => by obtain ⟨s0, s1, s2, s3, s4, s5, s6⟩ := hW; go_simp) (HSg.out _ HB1.out) ?_;try simp only [Act.put, qz0, qz1, qz2]
   refine H0 ?_;try simp only [Act.put, qz0, qz1, qz2]
   have Hb2 := q9 (Hb.out.trans (HB1.out.mono Hb.out.size));clear HB0 HB1 HSg HCl;by_cases hz0' : z = 0
   ·have hbz : (z != 0) = false := by simp [hz0']
    have Hd3 := q9 (show orE (((List.range st.length).map (skW o st)).drop (k + 1)) = eachE (skW o st) st.length from by have h := Hd2.out; rw [if_neg (by simp [hz0'])] at h; exact h);clear hz0' Hd2 hz;go_wp2_with fail
    go_roundw
    case rel => exact ⟨k + 1, by omega, by go_num, Hd3, Hb2.out⟩
    case measure => simp [intOf]; omega
   have hbz : (z != 0) = true := by simp [hz0']
   have hr := q9 (show R = z from by have h := Hd2.out; rw [if_pos hz0'] at h; rw [← hR.out, drawnE, ← h, if_pos hz0']);clear hz0' Hd2 hz;go_wp2_with fail
   go_ret
   exact ⟨by rw [hr.out]; rfl, hSz.out ▸ Hb0.out.trans (Hb2.out.mono hz0)⟩
  have hE := q9 (show R = eachE (plW o pl) pl.length from by
   have h0 : eachE (skW o st) st.length = 0 := by rw [← hd.out, List.drop_eq_nil_of_le (by simp; omega)]; rfl
   rw [← hR.out, drawnE, if_neg (by simp [h0])])
  have Hb := q9 hb;clear hd hb;obtain ⟨W1, rfl⟩ : ∃ z, z = wr := ⟨wr, rfl⟩;go_wp2_with fail
  go_loopw [5] (fun v wr => ∃ k : Nat, k ≤ pl.length ∧ v = .int .i64 k ∧ Hid (orE (((List.range pl.length).map (plW o pl)).drop k) = R) ∧ Below W0.heap.size W0 wr) (fun v _ => pl.length - (intOf v).toNat)
  case atStart => exact ⟨0, by omega, rfl, q9 (by rw [List.drop_zero]; exact hE.out.symm), Hb.out⟩
  case round =>
   obtain ⟨k, hk, rfl, hd, hb⟩ := hrel;have k0 : (0 : Int) ≤ (k : Int) := by omega
   have g4 : wr.cell? ⟨S, 4, none⟩ = some (.slice AP pl.length cp) := (HSf.out _ hb).2.2;have HB := q9 (Hb0.out.trans (hb.mono hz0));by_cases hlt : k < pl.length
   ·obtain ⟨b1, p1, t, rfl, c0, c1, c2, c3, c4, c5, hx⟩ := (HP.out _ HB.out).get (k := k) hlt;have hd2 := hd.out;rw [eachE_drop hlt, show plW o pl k = plE o t by rw [plW, hx.out]] at hd2;have Hd2 := q9 hd2;have HSg := q9 (fun (W : World) (hW : Below wr.heap.size wr W) => show W.cell? ⟨S, 4, none⟩ = some (.slice (some ⟨b1, p1, none⟩) pl.length cp) ∧ W.cell? ⟨S, 0, none⟩ = some (.int .i64 o) ∧ W.cell? ⟨b1, p1 + k * 6, none⟩ = some (.int .i64 t.x) ∧ W.cell? ⟨b1, p1 + k * 6 + 1, none⟩ = some (.int .i64 t.y) ∧ W.cell? ⟨b1, p1 + k * 6 + 2, none⟩ = some (.string t.nm) ∧ W.cell? ⟨b1, p1 + k * 6 + 3, none⟩ = some (.int .i64 t.office) ∧ W.cell? ⟨b1, p1 + k * 6 + 4, none⟩ = some (.int .i64 t.fr) ∧ W.cell? ⟨b1, p1 + k * 6 + 5, none⟩ = some (.int .i64 t.til) from ⟨(HSf.out _ (hb.trans (hW.mono hb.size))).2.2, (HSf.out _ (hb.trans (hW.mono hb.size))).1, cell_far c0 hW, cell_far c1 hW, cell_far c2 hW, cell_far c3 hW, cell_far c4 hW, cell_far c5 hW⟩);have HCl := q9 (fun (W : World) => refPlace_any t.x t.y t.nm t.office t.fr t.til o W);have Hb := q9 hb;have HB0 := q9 ((Below.refl wr.heap.size wr).drew);obtain ⟨z, hz⟩ : ∃ z, Hid (plE o t = z) := ⟨_, q9 rfl⟩;rw [hz.out] at Hd2;clear hd hd2 hx c0 c1 c2 c3 c4 c5 hb HB hE;go_wp2_with fail
    refine rH 9 (fun W => W.cell? ⟨S, 4, none⟩ = some (.slice (some ⟨b1, p1, none⟩) pl.length cp) ∧ W.cell? ⟨S, 0, none⟩ = some (.int .i64 o) ∧ W.cell? ⟨b1, p1 + k * 6, none⟩ = some (.int .i64 t.x) ∧ W.cell? ⟨b1, p1 + k * 6 + 1, none⟩ = some (.int .i64 t.y) ∧ W.cell? ⟨b1, p1 + k * 6 + 2, none⟩ = some (.string t.nm) ∧ W.cell? ⟨b1, p1 + k * 6 + 3, none⟩ = some (.int .i64 t.office) ∧ W.cell? ⟨b1, p1 + k * 6 + 4, none⟩ = some (.int .i64 t.fr) ∧ W.cell? ⟨b1, p1 + k * 6 + 5, none⟩ = some (.int .i64 t.til)) ?_;refine Ht 0 (.pointer (some ⟨S, 4, none⟩)) 32 rfl rfl rfl (fun W hW => by obtain ⟨s0, s1, s2, s3, s4, s5, s6, s7⟩ := hW; go_simp) (HSg.out _ HB0.out) ?_;refine Ht 1 (.slice (some ⟨b1, p1, none⟩) pl.length cp) 33 rfl rfl rfl (fun W hW => by obtain ⟨s0, s1, s2, s3, s4, s5, s6, s7⟩ := hW; go_simp) (HSg.out _ HB0.out) ?_;refine Ht 2 (.int .i64 k) 34 rfl rfl rfl (fun W hW => by obtain ⟨s0, s1, s2, s3, s4, s5, s6, s7⟩ := hW; go_simp) (HSg.out _ HB0.out) ?_;refine Ht 3 (.pointer (some ⟨b1, p1 + k * 6, none⟩)) 35 rfl rfl rfl (fun W hW => by obtain ⟨s0, s1, s2, s3, s4, s5, s6, s7⟩ := hW; go_simp) (HSg.out _ HB0.out) ?_;refine Ht 4 (.agg #[.int .i64 t.x, .int .i64 t.y, .string t.nm, .int .i64 t.office, .int .i64 t.fr, .int .i64 t.til]) 36 rfl rfl rfl (fun W hW => by obtain ⟨s0, s1, s2, s3, s4, s5, s6, s7⟩ := hW; go_simp) (HSg.out _ HB0.out) ?_
    refine Ht 5 (.pointer (some ⟨S, 0, none⟩)) 37 rfl rfl rfl (fun W hW => by obtain ⟨s0, s1, s2, s3, s4, s5, s6, s7⟩ := hW; go_simp) (HSg.out _ HB0.out) ?_;refine Ht 6 (.int .i64 o) 38 rfl rfl rfl (fun W hW => by obtain ⟨s0, s1, s2, s3, s4, s5, s6, s7⟩ := hW; go_simp) (HSg.out _ HB0.out) ?_;try simp only [Act.put, qz0, qz1, qz2]
    refine H1 7 rfl rfl (fun K hK7 => ?_);go_simp
    go_at_call 141
    refine (HCl.out _).mono ?_;rintro e wv ⟨he, hv⟩;rw [show plE o ⟨t.x, t.y, t.nm, t.office, t.fr, t.til⟩ = z from hz.out] at he;subst he;have HB1 := q9 (HB0.out.trans (hv.mono HB0.out.size));clear hv;refine hK7.out _ _ (HSg.out _ HB1.out) ?_;try simp only [Act.put, qz0, qz1, qz2]
    refine Ht 8 (.int .i64 z) 6 rfl rfl rfl (fun W hW => by obtain ⟨s0, s1, s2, s3, s4, s5, s6, s7⟩ := hW; go_simp) (HSg.out _ HB1.out) ?_;try simp only [Act.put, qz0, qz1, qz2]
    refine H0 ?_;try simp only [Act.put, qz0, qz1, qz2]
    have Hb2 := q9 (Hb.out.trans (HB1.out.mono Hb.out.size));clear HB0 HB1 HSg HCl;by_cases hz0' : z = 0
    ·have hbz : (z != 0) = false := by simp [hz0']
     have Hd3 := q9 (show orE (((List.range pl.length).map (plW o pl)).drop (k + 1)) = R from by have h := Hd2.out; rw [if_neg (by simp [hz0'])] at h; exact h);clear hz0' Hd2 hz;go_wp2_with fail
     go_roundw
     case rel => exact ⟨k + 1, by omega, by go_num, Hd3, Hb2.out⟩
     case measure => simp [intOf]; omega
    have hbz : (z != 0) = true := by simp [hz0']
    have hr := q9 (show R = z from by have h := Hd2.out; rw [if_pos hz0'] at h; exact h.symm);clear hz0' Hd2 hz;go_wp2_with fail
    go_ret
    exact ⟨by rw [hr.out]; rfl, hSz.out ▸ Hb0.out.trans (Hb2.out.mono hz0)⟩
   have hr := q9 (show R = 0 from by rw [← hd.out, List.drop_eq_nil_of_le (by simp; omega)]; rfl);clear hd hb;go_wp2_with fail
   go_ret
   exact ⟨by rw [hr.out]; rfl, hSz.out ▸ HB.out⟩
structure Mk where
 p : Int
 i : Int
 c : Cl
def mkC (m : Mk) : List Value := [.int .u64 m.p, .int .i64 m.i, .int .i64 m.c.kind, .int .i64 m.c.office, .int .i64 m.c.fr, .int .i64 m.c.til, .int .i64 m.c.dec]
def SM (w : World) (A : Option Addr) (l : List Mk) : Prop := SL w A (l.flatMap mkC)
theorem mkC_at : ∀ (l : List Mk) (k : Nat) (t : Mk), l[k]? = some t → (l.flatMap mkC)[k * 7]? = some (.int .u64 t.p) ∧ (l.flatMap mkC)[k * 7 + 1]? = some (.int .i64 t.i) ∧ (l.flatMap mkC)[k * 7 + 2]? = some (.int .i64 t.c.kind) ∧ (l.flatMap mkC)[k * 7 + 3]? = some (.int .i64 t.c.office) ∧ (l.flatMap mkC)[k * 7 + 4]? = some (.int .i64 t.c.fr) ∧ (l.flatMap mkC)[k * 7 + 5]? = some (.int .i64 t.c.til) ∧ (l.flatMap mkC)[k * 7 + 6]? = some (.int .i64 t.c.dec)
 | [], k, t, h => by simp at h
 | u :: l, 0, t, h => by
  obtain rfl : u = t := by simpa using h
  exact ⟨rfl, rfl, rfl, rfl, rfl, rfl, rfl⟩
 | u :: l, k + 1, t, h => by
  have := mkC_at l k t (by simpa using h);have e : (u :: l).flatMap mkC = .int .u64 u.p :: .int .i64 u.i :: .int .i64 u.c.kind :: .int .i64 u.c.office :: .int .i64 u.c.fr :: .int .i64 u.c.til :: .int .i64 u.c.dec :: l.flatMap mkC := rfl;rw [e, show (k + 1) * 7 = k * 7 + 1 + 1 + 1 + 1 + 1 + 1 + 1 by omega];simpa using this
theorem SM.below {w w' : World} {A : Option Addr} {l : List Mk} (h : SM w A l) (hb : Below w.heap.size w w') : SM w' A l := SL.below h hb
theorem SM.get {w : World} {A : Option Addr} {l : List Mk} {k : Nat} (h : SM w A l) (hk : k < l.length) : ∃ b p t, A = some ⟨b, p, none⟩ ∧ w.cell? ⟨b, p + k * 7, none⟩ = some (.int .u64 (Mk.p t)) ∧ w.cell? ⟨b, p + k * 7 + 1, none⟩ = some (.int .i64 t.i) ∧ w.cell? ⟨b, p + k * 7 + 2, none⟩ = some (.int .i64 t.c.kind) ∧ w.cell? ⟨b, p + k * 7 + 3, none⟩ = some (.int .i64 t.c.office) ∧ w.cell? ⟨b, p + k * 7 + 4, none⟩ = some (.int .i64 t.c.fr) ∧ w.cell? ⟨b, p + k * 7 + 5, none⟩ = some (.int .i64 t.c.til) ∧ w.cell? ⟨b, p + k * 7 + 6, none⟩ = some (.int .i64 t.c.dec) ∧ Hid (l[k]? = some t) := by
 obtain ⟨h1, h2, h3, h4, h5, h6, h7⟩ := mkC_at l k _ (List.getElem?_eq_getElem hk);obtain ⟨b, p, e, _, c1⟩ := h _ _ h1;subst e;have c2 := SL.two h h1 h2;have c3 := SL.two h h1 h3;have c4 := SL.two h h1 h4;have c5 := SL.two h h1 h5;have c6 := SL.two h h1 h6;have c7 := SL.two h h1 h7;rw [← Nat.add_assoc] at c2 c3 c4 c5 c6 c7;exact ⟨b, p, _, rfl, c1, c2, c3, c4, c5, c6, c7, q9 (List.getElem?_eq_getElem hk)⟩
def SR (w : World) (A : Option Addr) (l : List (Int × Int)) : Prop := SL w A (l.flatMap fun t => [.int .i64 t.1, .int .i64 t.2])
theorem rtC_at : ∀ (l : List (Int × Int)) (k : Nat) (t : Int × Int), l[k]? = some t → (l.flatMap fun t => [Value.int .i64 t.1, Value.int .i64 t.2])[k * 2]? = some (.int .i64 t.1) ∧ (l.flatMap fun t => [Value.int .i64 t.1, Value.int .i64 t.2])[k * 2 + 1]? = some (.int .i64 t.2)
 | [], k, t, h => by simp at h
 | u :: l, 0, t, h => by
  obtain rfl : u = t := by simpa using h
  exact ⟨rfl, rfl⟩
 | u :: l, k + 1, t, h => by
  have := rtC_at l k t (by simpa using h);rw [List.flatMap_cons, show (k + 1) * 2 = k * 2 + 1 + 1 by omega];simpa using this
theorem SR.below {w w' : World} {A : Option Addr} {l : List (Int × Int)} (h : SR w A l) (hb : Below w.heap.size w w') : SR w' A l := SL.below h hb
theorem SR.get {w : World} {A : Option Addr} {l : List (Int × Int)} {k : Nat} (h : SR w A l) (hk : k < l.length) : ∃ b o x y, A = some ⟨b, o, none⟩ ∧ w.cell? ⟨b, o + k * 2, none⟩ = some (.int .i64 x) ∧ w.cell? ⟨b, o + k * 2 + 1, none⟩ = some (.int .i64 y) ∧ Hid (l[k]? = some (x, y)) := by
 obtain ⟨h1, h2⟩ := rtC_at l k _ (List.getElem?_eq_getElem hk);obtain ⟨b, o, e, _, c1⟩ := h _ _ h1;subst e;have c2 := SL.two h h1 h2;rw [← Nat.add_assoc] at c2;exact ⟨b, o, _, _, rfl, c1, c2, q9 (List.getElem?_eq_getElem hk)⟩
theorem SD.below {w w' : World} {A : Option Addr} {l : List (Int × Int)} (h : SD w A l) (hb : Below w.heap.size w w') : SD w' A l := SL.below h hb
theorem SU.below {w w' : World} {A : Option Addr} {l : List Int} (h : SU w A l) (hb : Below w.heap.size w w') : SU w' A l := SL.below h hb
structure Pa where
 office : Int
 num : Int
 needs : List Int
 st : List Sk
 pl : List Plc
 ma : List Mk
 er : List (Int × Int)
 dr : List (Int × Int)
 rt : List (Int × Int)
def ndW (l : List Int) (i : Nat) : Int := if 0 < i ∧ l.getD i 0 ≤ l.getD (i - 1) 0 then 16 else 0
def mkW (o : Int) (needs : List Int) (l : List Mk) (i : Nat) : Int := match l[i]? with
 | some m => if m.p ∉ needs then 12 else if ¬ (0 ≤ m.i ∧ m.i ≤ 4095) ∨ clE m.c ≠ 0 ∨ m.c.office ≠ o then 1 else 0
 | none => 0
def rtW (l : List (Int × Int)) (i : Nat) : Int := match l[i]? with
 | some d => if (0 ≤ d.1 ∧ d.1 ≤ 1048576) ∧ (0 ≤ d.2 ∧ d.2 ≤ 73048) then 0 else 1
 | none => 0
def argE (p : Pa) : Int := if (0 ≤ p.office ∧ p.office ≤ 63) ∧ (0 ≤ p.num ∧ p.num ≤ 1099511627776) then 0 else 1
def limE (p : Pa) : Int := if p.needs.length ≤ 64 ∧ p.st.length ≤ 4096 ∧ p.pl.length ≤ 4096 ∧ p.ma.length ≤ 4096 ∧ p.er.length ≤ 4096 ∧ p.dr.length ≤ 4096 ∧ p.rt.length ≤ 4096 then 0 else 4
def paL (p : Pa) : List Int := [argE p, limE p, eachE (ndW p.needs) p.needs.length, eachE (skW p.office p.st) p.st.length, eachE (plW p.office p.pl) p.pl.length, eachE (mkW p.office p.needs p.ma) p.ma.length, eachE (idE p.needs p.er) p.er.length, eachE (idE p.needs p.dr) p.dr.length, eachE (rtW p.rt) p.rt.length]
def paE (p : Pa) : Int := orE (paL p)
structure Pw where
 n : Option Addr
 s : Option Addr
 l : Option Addr
 m : Option Addr
 e : Option Addr
 d : Option Addr
 r : Option Addr
 cn : Nat
 cs : Nat
 cl : Nat
 cm : Nat
 ce : Nat
 cd : Nat
 cr : Nat
def paC (p : Pa) (a : Pw) : Array Value := #[.int .i64 p.office, .int .i64 p.num, .slice a.n p.needs.length a.cn, .slice a.s p.st.length a.cs, .slice a.l p.pl.length a.cl, .slice a.m p.ma.length a.cm, .slice a.e p.er.length a.ce, .slice a.d p.dr.length a.cd, .slice a.r p.rt.length a.cr]
structure PT (w : World) (p : Pa) (a : Pw) : Prop where
 n : SU w a.n p.needs
 s : SS w a.s p.st
 l : SPl w a.l p.pl
 m : SM w a.m p.ma
 e : SD w a.e p.er
 d : SD w a.d p.dr
 r : SR w a.r p.rt
theorem PT.below {w w' : World} {p : Pa} {a : Pw} (h : PT w p a) (hb : Below w.heap.size w w') : PT w' p a := ⟨h.n.below hb, h.s.below hb, h.l.below hb, h.m.below hb, h.e.below hb, h.d.below hb, h.r.below hb⟩
theorem orE_zero {x : Int} {l : List Int} (h : x = 0) : orE (x :: l) = orE l := by rw [orE, if_neg (by simp [h])]
theorem orE_ne {x : Int} {l : List Int} (h : x ≠ 0) : orE (x :: l) = x := by rw [orE, if_pos h]
theorem ndW_at {l : List Int} {k : Nat} {x y : Int} (hx : l[k]? = some x) (hy : l[k + 1]? = some y) : ndW l (k + 1) = if y ≤ x then 16 else 0 := by
 rw [ndW, Nat.add_sub_cancel, List.getD, List.getD, hx, hy];simp
def mx (x y : Int) : Int := if y > x then y else x
theorem mx_le {x y B : Int} : mx x y ≤ B ↔ x ≤ B ∧ y ≤ B := by unfold mx; split <;> omega
theorem run_max6 (ts : Array TypeId) (t : TypeId) (a b c d e f : Int) (W : World) : (Builtin.max_ ts t #[.int .i64 a, .int .i64 b, .int .i64 c, .int .i64 d, .int .i64 e, .int .i64 f]).run Tryz.prog W = .ok (.int .i64 (mx (mx (mx (mx (mx a b) c) d) e) f)) W := by
 simp [Builtin.max_, Builtin.max2, mx]
theorem refPatch_any (p : Pa) (a : Pw) (w : World) (h : PT w p a) (hl : p.needs.length ≤ 1099511627776 ∧ p.st.length ≤ 1099511627776 ∧ p.pl.length ≤ 1099511627776 ∧ p.ma.length ≤ 1099511627776 ∧ p.er.length ≤ 1099511627776 ∧ p.dr.length ≤ 1099511627776 ∧ p.rt.length ≤ 1099511627776) :
  Calls Tryz.prog 12 #[.agg (paC p a)] w fun e w' => e = .returned (.int .i64 (paE p)) ∧ Below w.heap.size w w' := by
 obtain ⟨S, hSz⟩ : ∃ S, Hid (w.heap.size = S) := ⟨_, q9 rfl⟩;obtain ⟨R, hR⟩ : ∃ z, Hid (paE p = z) := ⟨_, q9 rfl⟩;rw [hR.out];obtain ⟨l1, l2, l3, l4, l5, l6, l7⟩ := hl;have HT := q9 (fun (W : World) (hW : Below S w W) => h.below (hSz.out.symm ▸ hW));have hb0 : Below S w (w.alloc (.cells (paC p a) 34)) := hSz.out ▸ (Below.refl _ _).alloc (Nat.le_refl _) _;have hbk : Bk (w.alloc (.cells (paC p a) 34)) S 34 (paC p a) := Bk.new' _ _ _ hSz.out;clear h;unfold paC at *;go_enter Tryz.func12, Tryz.ntmps12
 go_upto_region 1 with fail
 rw [hSz.out];generalize w.alloc (.cells #[.int .i64 p.office, .int .i64 p.num, .slice a.n p.needs.length a.cn, .slice a.s p.st.length a.cs, .slice a.l p.pl.length a.cl, .slice a.m p.ma.length a.cm, .slice a.e p.er.length a.ce, .slice a.d p.dr.length a.cd, .slice a.r p.rt.length a.cr] 34) = W0 at *;have Hb0 := q9 hb0;have hz0 : S ≤ W0.heap.size := by have := hbk.lt; omega
 have HSf := q9 (fun (W : World) (hW : Below W0.heap.size W0 W) => hbk.below hW hbk.lt);have g0 : W0.cell? ⟨S, 0, none⟩ = some (.int .i64 p.office) := hbk.cell 0;have g1 : W0.cell? ⟨S, 1, none⟩ = some (.int .i64 p.num) := hbk.cell 1;have g2 : W0.cell? ⟨S, 2, none⟩ = some (.slice a.n p.needs.length a.cn) := hbk.cell 2;have g3 : W0.cell? ⟨S, 3, none⟩ = some (.slice a.s p.st.length a.cs) := hbk.cell 3;have g4 : W0.cell? ⟨S, 4, none⟩ = some (.slice a.l p.pl.length a.cl) := hbk.cell 4;have g5 : W0.cell? ⟨S, 5, none⟩ = some (.slice a.m p.ma.length a.cm) := hbk.cell 5;have g6 : W0.cell? ⟨S, 6, none⟩ = some (.slice a.e p.er.length a.ce) := hbk.cell 6;have g7 : W0.cell? ⟨S, 7, none⟩ = some (.slice a.d p.dr.length a.cd) := hbk.cell 7;have g8 : W0.cell? ⟨S, 8, none⟩ = some (.slice a.r p.rt.length a.cr) := hbk.cell 8;clear hb0 hbk;by_cases e1 : (0 ≤ p.office ∧ p.office ≤ 63) ∧ (0 ≤ p.num ∧ p.num ≤ 1099511627776)
 ·have e1' : argE p = 0 := if_pos e1;obtain ⟨⟨t1, t2⟩, t3, t4⟩ := e1;have t1' : ¬ p.office < 0 := by omega
  have t2' : ¬ 63 < p.office := by omega
  have t3' : ¬ p.num < 0 := by omega
  have t4' : ¬ 1099511627776 < p.num := by omega
  by_cases e2 : p.needs.length ≤ 64
  ·have t5 : ¬ (64 : Int) < (p.needs.length : Int) := by omega
   have hm6 := fun (ts : Array TypeId) (t : TypeId) (W : World) => run_max6 ts t (p.st.length : Int) (p.pl.length : Int) (p.ma.length : Int) (p.er.length : Int) (p.dr.length : Int) (p.rt.length : Int) W;obtain ⟨m, hm⟩ : ∃ z, Hid (mx (mx (mx (mx (mx (p.st.length : Int) (p.pl.length : Int)) (p.ma.length : Int)) (p.er.length : Int)) (p.dr.length : Int)) (p.rt.length : Int) = z) := ⟨_, q9 rfl⟩;rw [hm.out] at hm6;by_cases e3 : m ≤ 4096
   ·have t6 : ¬ (4096 : Int) < m := by omega
    have e2' : limE p = 0 := by
     rw [← hm.out, mx_le, mx_le, mx_le, mx_le, mx_le] at e3;exact if_pos (by omega)
    have hr := q9 (show orE [eachE (ndW p.needs) p.needs.length, eachE (skW p.office p.st) p.st.length, eachE (plW p.office p.pl) p.pl.length, eachE (mkW p.office p.needs p.ma) p.ma.length, eachE (idE p.needs p.er) p.er.length, eachE (idE p.needs p.dr) p.dr.length, eachE (rtW p.rt) p.rt.length] = R from by
     rw [← hR.out, paE, paL, orE_zero e1', orE_zero e2'])
    clear e1' e2' hR hm;go_wp2_with fail
    clear g0 g1 g2 g3 g4 g5 g6 g7 g8 t1' t2' t3' t4' t5 t6 hm6;go_loopw [3] (fun v wr => ∃ k : Nat, k ≤ p.needs.length ∧ v = .int .i64 (k + 1 : Nat) ∧ Hid (orE (((List.range p.needs.length).map (ndW p.needs)).drop (k + 1)) = eachE (ndW p.needs) p.needs.length) ∧ Below W0.heap.size W0 wr) (fun v _ => p.needs.length + 1 - (intOf v).toNat)
    case atStart => exact ⟨0, by omega, rfl, q9 (by
     cases hn : p.needs with
     | nil => rfl
     | cons x l => rw [eachE, List.length_cons, List.range_succ_eq_map, List.map_cons, List.drop_succ_cons, List.drop_zero, orE_zero (by simp [ndW])]), Below.refl _ _⟩
    case round =>
     obtain ⟨k, hk, rfl, hd, hb⟩ := hrel;have k0 : (0 : Int) ≤ (k : Int) := by omega
     have g2 : wr.cell? ⟨S, 2, none⟩ = some (.slice a.n p.needs.length a.cn) := (HSf.out _ hb).cell 2;by_cases hlt : k + 1 < p.needs.length
     ·obtain ⟨bN, oN, x, hae, c0, hx⟩ := (HT.out _ (Hb0.out.trans (hb.mono hz0))).n.get (k := k) (by omega);obtain ⟨b2, o2, y, he, c1, hy⟩ := (HT.out _ (Hb0.out.trans (hb.mono hz0))).n.get (k := k + 1) hlt;rw [hae] at he;injection he with he;injection he with he1 he2;subst he1 he2;rw [hae] at g2;have hd2 := hd.out;rw [eachE_drop hlt, ndW_at hx.out hy.out] at hd2;have Hd2 := q9 hd2;have Hb := q9 hb;clear hd hd2 hx hy hb hae;have hw : IntKind.i64.wrap ((k : Int) + 1 - 1) = (k : Int) := by rw [IntWalk.i64_in _ (by omega)]; omega
      by_cases hyx : y ≤ x
      ·rw [if_pos hyx] at Hd2;have hr2 := q9 (show R = 16 from by
        have h := Hd2.out;rw [if_pos (by decide)] at h;rw [← hr.out, orE_ne (by rw [← h]; decide), ← h])
       clear Hd2;go_wp2_with fail
       go_quiet (fail)
       go_wp2_with fail
       go_ret
       exact ⟨by rw [hr2.out]; rfl, hSz.out ▸ Hb0.out.trans ((below_drewN Hb.out _).mono hz0)⟩
      rw [if_neg hyx] at Hd2;have Hd3 := q9 (show orE (((List.range p.needs.length).map (ndW p.needs)).drop (k + 1 + 1)) = eachE (ndW p.needs) p.needs.length from by have h := Hd2.out; rw [if_neg (by simp)] at h; exact h);clear Hd2;go_wp2_with fail
      go_quiet (fail)
      go_wp2_with fail
      go_roundw
      case rel => exact ⟨k + 1, by omega, by go_num, Hd3, below_drewN Hb.out _⟩
      case measure => simp [intOf]; omega
     have hnd : eachE (ndW p.needs) p.needs.length = 0 := by rw [← hd.out, List.drop_eq_nil_of_le (by simp; omega)]; rfl
     have hr2 := q9 (show orE [eachE (skW p.office p.st) p.st.length, eachE (plW p.office p.pl) p.pl.length, eachE (mkW p.office p.needs p.ma) p.ma.length, eachE (idE p.needs p.er) p.er.length, eachE (idE p.needs p.dr) p.dr.length, eachE (rtW p.rt) p.rt.length] = R from by rw [← hr.out, orE_zero hnd]);have Hb := q9 hb;have hk9 := HSf.out _ hb;have g0 : wr.cell? ⟨S, 0, none⟩ = some (.int .i64 p.office) := hk9.cell 0;have g1 : wr.cell? ⟨S, 1, none⟩ = some (.int .i64 p.num) := hk9.cell 1;have g3 : wr.cell? ⟨S, 3, none⟩ = some (.slice a.s p.st.length a.cs) := hk9.cell 3;have g4 : wr.cell? ⟨S, 4, none⟩ = some (.slice a.l p.pl.length a.cl) := hk9.cell 4;have g5 : wr.cell? ⟨S, 5, none⟩ = some (.slice a.m p.ma.length a.cm) := hk9.cell 5;have g6 : wr.cell? ⟨S, 6, none⟩ = some (.slice a.e p.er.length a.ce) := hk9.cell 6;have g7 : wr.cell? ⟨S, 7, none⟩ = some (.slice a.d p.dr.length a.cd) := hk9.cell 7;have g8 : wr.cell? ⟨S, 8, none⟩ = some (.slice a.r p.rt.length a.cr) := hk9.cell 8;have hT := HT.out _ (Hb0.out.trans (hb.mono hz0));have hz1 : S ≤ wr.heap.size := Nat.le_trans hz0 hb.size;clear hd hb hnd hr hk9;go_wp2_with fail
     refine (refDrawn_any p.office p.num (.slice a.n p.needs.length a.cn) (.slice a.m p.ma.length a.cm) (.slice a.e p.er.length a.ce) (.slice a.d p.dr.length a.cd) (.slice a.r p.rt.length a.cr) a.s a.l a.cs a.cl p.st p.pl wr hT.s hT.l l2 l3).mono ?_;rintro e w1 ⟨rfl, hb1⟩;have Hb1 := q9 (Hb.out.trans (hb1.mono Hb.out.size));clear hb1 hT g0 g1 g2 g3 g4 g5 g6 g7 g8 Hb;by_cases f1 : drawnE p.office p.st p.pl = 0
     ·have b1 : (drawnE p.office p.st p.pl != 0) = false := by simp [f1]
      have hr := q9 (show orE [eachE (mkW p.office p.needs p.ma) p.ma.length, eachE (idE p.needs p.er) p.er.length, eachE (idE p.needs p.dr) p.dr.length, eachE (rtW p.rt) p.rt.length] = R from by
       unfold drawnE at f1;by_cases f2 : eachE (skW p.office p.st) p.st.length = 0
       ·rw [if_neg (by simp [f2])] at f1;rw [← hr2.out, orE_zero f2, orE_zero f1]
       rw [if_pos f2] at f1;exact absurd f1 f2)
      clear hr2 f1;go_wp2_with fail
      go_loopw [5] (fun v wr => ∃ k : Nat, k ≤ p.ma.length ∧ v = .int .i64 k ∧ Hid (orE (((List.range p.ma.length).map (mkW p.office p.needs p.ma)).drop k) = eachE (mkW p.office p.needs p.ma) p.ma.length) ∧ Below W0.heap.size W0 wr) (fun v _ => p.ma.length - (intOf v).toNat)
      case atStart => exact ⟨0, by omega, rfl, q9 (by rw [List.drop_zero]; rfl), Hb1.out⟩
      case round =>
       clear Hb1;obtain ⟨k, hk, rfl, hd, hb⟩ := hrel;have k0 : (0 : Int) ≤ (k : Int) := by omega
       have hk9 := HSf.out _ hb;have g5 : wr.cell? ⟨S, 5, none⟩ = some (.slice a.m p.ma.length a.cm) := hk9.cell 5;have Hb := q9 hb;by_cases hlt : k < p.ma.length
       ·obtain ⟨bM, oM, t, hae, c0, c1, c2, c3, c4, c5, c6, hx⟩ := (HT.out _ (Hb0.out.trans (hb.mono hz0))).m.get (k := k) hlt;rw [hae] at g5;have hb2 := hb.alloc hb.size (.cells #[.int .u64 t.p, .int .i64 t.i, .int .i64 t.c.kind, .int .i64 t.c.office, .int .i64 t.c.fr, .int .i64 t.c.til, .int .i64 t.c.dec] 88);have hbk := Bk.new wr 88 #[.int .u64 t.p, .int .i64 t.i, .int .i64 t.c.kind, .int .i64 t.c.office, .int .i64 t.c.fr, .int .i64 t.c.til, .int .i64 t.c.dec];have hk8 := HSf.out _ hb2;have g2 : (wr.alloc (.cells #[.int .u64 t.p, .int .i64 t.i, .int .i64 t.c.kind, .int .i64 t.c.office, .int .i64 t.c.fr, .int .i64 t.c.til, .int .i64 t.c.dec] 88)).cell? ⟨S, 2, none⟩ = some (.slice a.n p.needs.length a.cn) := hk8.cell 2;have d0 : (wr.alloc (.cells #[.int .u64 t.p, .int .i64 t.i, .int .i64 t.c.kind, .int .i64 t.c.office, .int .i64 t.c.fr, .int .i64 t.c.til, .int .i64 t.c.dec] 88)).cell? ⟨wr.heap.size, 0, none⟩ = some (.int .u64 t.p) := hbk.cell 0;have d1 : (wr.alloc (.cells #[.int .u64 t.p, .int .i64 t.i, .int .i64 t.c.kind, .int .i64 t.c.office, .int .i64 t.c.fr, .int .i64 t.c.til, .int .i64 t.c.dec] 88)).cell? ⟨wr.heap.size, 1, none⟩ = some (.int .i64 t.i) := hbk.cell 1;have d2 : (wr.alloc (.cells #[.int .u64 t.p, .int .i64 t.i, .int .i64 t.c.kind, .int .i64 t.c.office, .int .i64 t.c.fr, .int .i64 t.c.til, .int .i64 t.c.dec] 88)).cell? ⟨wr.heap.size, 2, none⟩ = some (.int .i64 t.c.kind) := hbk.cell 2
        have d3 : (wr.alloc (.cells #[.int .u64 t.p, .int .i64 t.i, .int .i64 t.c.kind, .int .i64 t.c.office, .int .i64 t.c.fr, .int .i64 t.c.til, .int .i64 t.c.dec] 88)).cell? ⟨wr.heap.size, 3, none⟩ = some (.int .i64 t.c.office) := hbk.cell 3;have d4 : (wr.alloc (.cells #[.int .u64 t.p, .int .i64 t.i, .int .i64 t.c.kind, .int .i64 t.c.office, .int .i64 t.c.fr, .int .i64 t.c.til, .int .i64 t.c.dec] 88)).cell? ⟨wr.heap.size, 4, none⟩ = some (.int .i64 t.c.fr) := hbk.cell 4;have d5 : (wr.alloc (.cells #[.int .u64 t.p, .int .i64 t.i, .int .i64 t.c.kind, .int .i64 t.c.office, .int .i64 t.c.fr, .int .i64 t.c.til, .int .i64 t.c.dec] 88)).cell? ⟨wr.heap.size, 5, none⟩ = some (.int .i64 t.c.til) := hbk.cell 5;have d6 : (wr.alloc (.cells #[.int .u64 t.p, .int .i64 t.i, .int .i64 t.c.kind, .int .i64 t.c.office, .int .i64 t.c.fr, .int .i64 t.c.til, .int .i64 t.c.dec] 88)).cell? ⟨wr.heap.size, 6, none⟩ = some (.int .i64 t.c.dec) := hbk.cell 6;have hN := needed_any a.n a.cn p.needs t.p (wr.alloc (.cells #[.int .u64 t.p, .int .i64 t.i, .int .i64 t.c.kind, .int .i64 t.c.office, .int .i64 t.c.fr, .int .i64 t.c.til, .int .i64 t.c.dec] 88)) (HT.out _ (Hb0.out.trans (hb2.mono hz0))).n l1;have hd2 := hd.out;rw [eachE_drop hlt, show mkW p.office p.needs p.ma k = if t.p ∉ p.needs then 12 else if ¬ (0 ≤ t.i ∧ t.i ≤ 4095) ∨ clE t.c ≠ 0 ∨ t.c.office ≠ p.office then 1 else 0 by rw [mkW, hx.out]] at hd2;have Hd2 := q9 hd2;have Hbk := q9 hbk;have Hb2 := q9 hb2;clear hd hd2 hx hb hb2 hbk hk8 hk9 hae Hb
        have hk7 : (wr.alloc (.cells #[.int .u64 t.p, .int .i64 t.i, .int .i64 t.c.kind, .int .i64 t.c.office, .int .i64 t.c.fr, .int .i64 t.c.til, .int .i64 t.c.dec] 88)).cell? ⟨S, 0, none⟩ = some (.int .i64 p.office) := (HSf.out _ Hb2.out).cell 0;by_cases f1 : t.p ∈ p.needs
        ·rw [decide_eq_true f1] at hN;have Hd3 := q9 (show (if (if ¬ (0 ≤ t.i ∧ t.i ≤ 4095) ∨ clE t.c ≠ 0 ∨ t.c.office ≠ p.office then (1 : Int) else 0) ≠ 0 then (if ¬ (0 ≤ t.i ∧ t.i ≤ 4095) ∨ clE t.c ≠ 0 ∨ t.c.office ≠ p.office then (1 : Int) else 0) else orE (((List.range p.ma.length).map (mkW p.office p.needs p.ma)).drop (k + 1))) = eachE (mkW p.office p.needs p.ma) p.ma.length from by have h := Hd2.out; rw [if_neg (show ¬ t.p ∉ p.needs from fun h => h f1)] at h; exact h);clear Hd2 f1;by_cases f2 : 0 ≤ t.i ∧ t.i ≤ 4095
         ·have q1 : ¬ t.i < 0 := by omega
          have q2 : ¬ 4095 < t.i := by omega
          go_wp2_with fail
          refine hN.mono ?_;rintro e w2 ⟨rfl, rfl⟩;go_wp2_with fail
          refine (refClaim_any t.c _).mono ?_;rintro e w3 ⟨rfl, hb3⟩;have Hb3 := q9 (Hb2.out.trans (hb3.mono Hb2.out.size));have d3 : w3.cell? ⟨wr.heap.size, 3, none⟩ = some (.int .i64 t.c.office) := (Hbk.out.below hb3 Hbk.out.lt).cell 3;have h0 : w3.cell? ⟨S, 0, none⟩ = some (.int .i64 p.office) := (HSf.out _ Hb3.out).cell 0;clear hb3 Hb2 Hbk d0 d1 d2 d4 d5 d6 g2 hk7 hN;by_cases f3 : clE t.c = 0
          ·have b3 : (clE t.c != 0) = false := by simp [f3]
           by_cases f4 : t.c.office = p.office
           ·have b4 : (t.c.office != p.office) = false := by simp [f4]
            have Hd4 := q9 (show orE (((List.range p.ma.length).map (mkW p.office p.needs p.ma)).drop (k + 1)) = eachE (mkW p.office p.needs p.ma) p.ma.length from by
             have h := Hd3.out;rw [if_neg (show ¬ (¬ (0 ≤ t.i ∧ t.i ≤ 4095) ∨ clE t.c ≠ 0 ∨ t.c.office ≠ p.office) from fun h => h.elim (fun h => h f2) (fun h => h.elim (fun h => h f3) (fun h => h f4))), if_neg (by decide)] at h;exact h)
            clear Hd3 f2 f3 f4;go_wp2_with fail
            go_roundw
            case rel => exact ⟨k + 1, by omega, by go_num, Hd4, Hb3.out⟩
            case measure => simp [intOf]; omega
           have b4 : (t.c.office != p.office) = true := by simp [f4]
           have hr2 := q9 (show R = 1 from by
            have h := Hd3.out;rw [if_pos (show ¬ (0 ≤ t.i ∧ t.i ≤ 4095) ∨ clE t.c ≠ 0 ∨ t.c.office ≠ p.office from .inr (.inr f4)), if_pos (by decide)] at h;rw [← hr.out, orE_ne (by rw [← h]; decide), ← h])
           clear Hd3 f2 f3 f4;go_wp2_with fail
           go_ret
           exact ⟨by rw [hr2.out]; rfl, hSz.out ▸ Hb0.out.trans (Hb3.out.mono hz0)⟩
          have b3 : (clE t.c != 0) = true := by simp [f3]
          have hr2 := q9 (show R = 1 from by
           have h := Hd3.out;rw [if_pos (show ¬ (0 ≤ t.i ∧ t.i ≤ 4095) ∨ clE t.c ≠ 0 ∨ t.c.office ≠ p.office from .inr (.inl f3)), if_pos (by decide)] at h;rw [← hr.out, orE_ne (by rw [← h]; decide), ← h])
          clear Hd3 f2 f3;go_wp2_with fail
          go_ret
          exact ⟨by rw [hr2.out]; rfl, hSz.out ▸ Hb0.out.trans (Hb3.out.mono hz0)⟩
         have hr2 := q9 (show R = 1 from by
          have h := Hd3.out;rw [if_pos (show ¬ (0 ≤ t.i ∧ t.i ≤ 4095) ∨ clE t.c ≠ 0 ∨ t.c.office ≠ p.office from .inl f2), if_pos (by decide)] at h;rw [← hr.out, orE_ne (by rw [← h]; decide), ← h])
         have hc : t.i < 0 ∨ (¬ t.i < 0 ∧ 4095 < t.i) := by omega
         clear Hd3 f2;rcases hc with q1 | ⟨q1, q2⟩;all_goals
          go_wp2_with fail
          refine hN.mono ?_;rintro e w2 ⟨rfl, rfl⟩;go_wp2_with fail
          go_ret
          exact ⟨by rw [hr2.out]; rfl, hSz.out ▸ Hb0.out.trans (Hb2.out.mono hz0)⟩
        rw [decide_eq_false f1] at hN;have hr2 := q9 (show R = 12 from by
         have h := Hd2.out;rw [if_pos f1, if_pos (by decide)] at h;rw [← hr.out, orE_ne (by rw [← h]; decide), ← h])
        clear Hd2 f1;go_wp2_with fail
        refine hN.mono ?_;rintro e w2 ⟨rfl, rfl⟩;go_wp2_with fail
        go_ret
        exact ⟨by rw [hr2.out]; rfl, hSz.out ▸ Hb0.out.trans (Hb2.out.mono hz0)⟩
       have hmk : eachE (mkW p.office p.needs p.ma) p.ma.length = 0 := by rw [← hd.out, List.drop_eq_nil_of_le (by simp; omega)]; rfl
       have hr2 := q9 (show orE [eachE (idE p.needs p.er) p.er.length, eachE (idE p.needs p.dr) p.dr.length, eachE (rtW p.rt) p.rt.length] = R from by rw [← hr.out, orE_zero hmk]);have g6 : wr.cell? ⟨S, 6, none⟩ = some (.slice a.e p.er.length a.ce) := hk9.cell 6;have g2 : wr.cell? ⟨S, 2, none⟩ = some (.slice a.n p.needs.length a.cn) := hk9.cell 2;have hT := HT.out _ (Hb0.out.trans (hb.mono hz0));have HU := q9 (refUsed_any a.e a.n a.ce a.cn p.er p.needs wr hT.e hT.n l5 l1);clear hd hb hmk hr hk9 hT;go_wp2_with fail
       refine (HU.out).mono ?_;rintro e w2 ⟨rfl, hb2⟩;have Hb2 := q9 (Hb.out.trans (hb2.mono Hb.out.size));clear hb2 g6 g2 g5 HU Hb;by_cases f1 : eachE (idE p.needs p.er) p.er.length = 0
       ·have b1 : (eachE (idE p.needs p.er) p.er.length != 0) = false := by simp [f1]
        have hr := q9 (show orE [eachE (idE p.needs p.dr) p.dr.length, eachE (rtW p.rt) p.rt.length] = R from by rw [← hr2.out, orE_zero f1]);have hk8 := HSf.out _ Hb2.out;have g7 : w2.cell? ⟨S, 7, none⟩ = some (.slice a.d p.dr.length a.cd) := hk8.cell 7;have g2 : w2.cell? ⟨S, 2, none⟩ = some (.slice a.n p.needs.length a.cn) := hk8.cell 2;have hT := HT.out _ (Hb0.out.trans (Hb2.out.mono hz0));have HU := q9 (refUsed_any a.d a.n a.cd a.cn p.dr p.needs w2 hT.d hT.n l6 l1);clear hr2 f1 hk8 hT;go_wp2_with fail
        clear b1;refine (HU.out).mono ?_;rintro e w3 ⟨rfl, hb3⟩;have Hb3 := q9 (Hb2.out.trans (hb3.mono Hb2.out.size));clear hb3 g7 g2 HU Hb2;by_cases f1 : eachE (idE p.needs p.dr) p.dr.length = 0
        ·have b1 : (eachE (idE p.needs p.dr) p.dr.length != 0) = false := by simp [f1]
         have hr2 := q9 (show eachE (rtW p.rt) p.rt.length = R from by
          rw [← hr.out, orE_zero f1];by_cases f2 : eachE (rtW p.rt) p.rt.length = 0
          ·rw [orE_zero f2, f2]; rfl
          rw [orE_ne f2])
         clear hr f1;go_wp2_with fail
         clear b1;go_loopw [9] (fun v wr => ∃ k : Nat, k ≤ p.rt.length ∧ v = .int .i64 k ∧ Hid (orE (((List.range p.rt.length).map (rtW p.rt)).drop k) = R) ∧ Below W0.heap.size W0 wr) (fun v _ => p.rt.length - (intOf v).toNat)
         case atStart => exact ⟨0, by omega, rfl, q9 (by rw [List.drop_zero]; exact hr2.out), Hb3.out⟩
         case round =>
          clear Hb3 hr2;obtain ⟨k, hk, rfl, hd, hb⟩ := hrel;have k0 : (0 : Int) ≤ (k : Int) := by omega
          have g8 : wr.cell? ⟨S, 8, none⟩ = some (.slice a.r p.rt.length a.cr) := (HSf.out _ hb).cell 8;have Hb := q9 hb;by_cases hlt : k < p.rt.length
          ·obtain ⟨bM, oM, x, y, hae, c0, c1, hx⟩ := (HT.out _ (Hb0.out.trans (hb.mono hz0))).r.get (k := k) hlt;rw [hae] at g8;have Hb2 := q9 (hb.alloc hb.size (.cells #[.int .i64 x, .int .i64 y] 92));have hbk := Bk.new wr 92 #[.int .i64 x, .int .i64 y];have d0 : (wr.alloc (.cells #[.int .i64 x, .int .i64 y] 92)).cell? ⟨wr.heap.size, 0, none⟩ = some (.int .i64 x) := hbk.cell 0;have d1 : (wr.alloc (.cells #[.int .i64 x, .int .i64 y] 92)).cell? ⟨wr.heap.size, 1, none⟩ = some (.int .i64 y) := hbk.cell 1;have hd2 := hd.out;rw [eachE_drop hlt, show rtW p.rt k = if (0 ≤ x ∧ x ≤ 1048576) ∧ (0 ≤ y ∧ y ≤ 73048) then 0 else 1 by rw [rtW, hx.out]] at hd2;have Hd2 := q9 hd2;clear hd hd2 hx hb hbk hae Hb;by_cases f1 : (0 ≤ x ∧ x ≤ 1048576) ∧ (0 ≤ y ∧ y ≤ 73048)
           ·have Hd3 := q9 (show orE (((List.range p.rt.length).map (rtW p.rt)).drop (k + 1)) = R from by have h := Hd2.out; rw [if_pos f1, if_neg (by decide)] at h; exact h);obtain ⟨⟨q1, q2⟩, q3⟩ := f1;have q1' : ¬ x < 0 := by omega
            have q2' : ¬ 1048576 < x := by omega
            clear Hd2 q1 q2;go_wp2_with fail
            refine (day_any y _).mono ?_;rintro e w4 ⟨rfl, rfl⟩;rw [inB_true q3];go_wp2_with fail
            go_roundw
            case rel => exact ⟨k + 1, by omega, by go_num, Hd3, Hb2.out⟩
            case measure => simp [intOf]; omega
           have hr := q9 (show R = 1 from by have h := Hd2.out; rw [if_neg f1, if_pos (by decide)] at h; exact h.symm);have hc : x < 0 ∨ (¬ x < 0 ∧ 1048576 < x) ∨ (¬ x < 0 ∧ ¬ 1048576 < x ∧ ¬ (0 ≤ y ∧ y ≤ 73048)) := by omega
           clear Hd2 f1;rcases hc with q1 | ⟨q1, q2⟩ | ⟨q1, q2, q3⟩
           ·go_wp2_with fail
            go_ret
            exact ⟨by rw [hr.out]; rfl, hSz.out ▸ Hb0.out.trans (Hb2.out.mono hz0)⟩
           ·go_wp2_with fail
            go_ret
            exact ⟨by rw [hr.out]; rfl, hSz.out ▸ Hb0.out.trans (Hb2.out.mono hz0)⟩
           go_wp2_with fail
           refine (day_any y _).mono ?_;rintro e w4 ⟨rfl, rfl⟩;rw [inB_false q3];go_wp2_with fail
           go_ret
           exact ⟨by rw [hr.out]; rfl, hSz.out ▸ Hb0.out.trans (Hb2.out.mono hz0)⟩
          have hr := q9 (show R = 0 from by rw [← hd.out, List.drop_eq_nil_of_le (by simp; omega)]; rfl);clear hd hb;go_wp2_with fail
          go_ret
          exact ⟨by rw [hr.out]; rfl, hSz.out ▸ Hb0.out.trans (Hb.out.mono hz0)⟩
        have b1 : (eachE (idE p.needs p.dr) p.dr.length != 0) = true := by simp [f1]
        have hr2 := q9 (show R = eachE (idE p.needs p.dr) p.dr.length from by rw [← hr.out, orE_ne f1]);clear hr f1;go_wp2_with fail
        go_ret
        exact ⟨by rw [hr2.out]; rfl, hSz.out ▸ Hb0.out.trans (Hb3.out.mono hz0)⟩
       have b1 : (eachE (idE p.needs p.er) p.er.length != 0) = true := by simp [f1]
       have hr := q9 (show R = eachE (idE p.needs p.er) p.er.length from by rw [← hr2.out, orE_ne f1]);clear hr2 f1;go_wp2_with fail
       go_ret
       exact ⟨by rw [hr.out]; rfl, hSz.out ▸ Hb0.out.trans (Hb2.out.mono hz0)⟩
     have b1 : (drawnE p.office p.st p.pl != 0) = true := by simp [f1]
     have hr := q9 (show R = drawnE p.office p.st p.pl from by
      unfold drawnE at f1 ⊢;by_cases f2 : eachE (skW p.office p.st) p.st.length = 0
      ·rw [if_neg (by simp [f2])] at f1 ⊢;rw [← hr2.out, orE_zero f2, orE_ne f1]
      rw [if_pos f2];rw [← hr2.out, orE_ne f2])
     clear hr2 f1;go_wp2_with fail
     go_ret
     exact ⟨by rw [hr.out]; rfl, hSz.out ▸ Hb0.out.trans (Hb1.out.mono hz0)⟩
   have t6 : (4096 : Int) < m := by omega
   have hr := q9 (show R = 4 from by
    have e2' : limE p = 4 := by
     refine if_neg (fun hc => e3 ?_);rw [← hm.out, mx_le, mx_le, mx_le, mx_le, mx_le];omega
    rw [← hR.out, paE, paL, orE_zero e1', orE_ne (by rw [e2']; decide), e2'])
   clear e1' hR hm;go_wp2_with fail
   go_ret
   exact ⟨by rw [hr.out]; rfl, hSz.out ▸ Hb0.out⟩
  have t5 : (64 : Int) < (p.needs.length : Int) := by omega
  have hr := q9 (show R = 4 from by
   have e2' : limE p = 4 := if_neg (fun hc => e2 hc.1);rw [← hR.out, paE, paL, orE_zero e1', orE_ne (by rw [e2']; decide), e2'])
  clear e1' hR;go_wp2_with fail
  go_ret
  exact ⟨by rw [hr.out]; rfl, hSz.out ▸ Hb0.out⟩
 have hr := q9 (show R = 1 from by rw [← hR.out, paE, paL, orE_ne (by rw [show argE p = 1 from if_neg e1]; decide), show argE p = 1 from if_neg e1]);have hc : p.office < 0 ∨ (¬ p.office < 0 ∧ 63 < p.office) ∨ (¬ p.office < 0 ∧ ¬ 63 < p.office ∧ p.num < 0) ∨ (¬ p.office < 0 ∧ ¬ 63 < p.office ∧ ¬ p.num < 0 ∧ 1099511627776 < p.num) := by omega
 clear e1;rcases hc with t1 | ⟨t1, t2⟩ | ⟨t1, t2, t3⟩ | ⟨t1, t2, t3, t4⟩;all_goals
  go_wp2_with fail
  go_ret
  exact ⟨by rw [hr.out]; rfl, hSz.out ▸ Hb0.out⟩
theorem rule61_any (S : Nat) (p : Pa) (a : Pw) (k : Nat) (x : Int) (w : World) (hk : Bk w S 34 (paC p a)) (hT : SU w a.n p.needs) (hx : p.needs[k]? = some x) (hl : p.needs.length ≤ 1099511627776) :
  Calls Tryz.prog 120 #[.int .i64 (k : Int), .int .u64 x, .pointer (some ⟨S, 0, none⟩)] w fun e w' => e = .returned (.int .i64 (ndW p.needs k)) ∧ w = w' := by
 have hkl := (List.getElem?_eq_some_iff.1 hx).1;obtain ⟨R, hR⟩ : ∃ z, Hid (ndW p.needs k = z) := ⟨_, q9 rfl⟩;rw [hR.out];have g2 : w.cell? ⟨S, 2, none⟩ = some (.slice a.n p.needs.length a.cn) := hk.cell 2;clear hk;cases k with
 | zero =>
  have hr := q9 (show R = 0 from by rw [← hR.out, ndW, if_neg (by omega)]);clear hR hx hT;go_enter Tryz.func120, Tryz.ntmps120
  go_wp2_with fail
  refine (when_any false 16 w).mono ?_;rintro e w1 ⟨rfl, rfl⟩;go_wp2_with fail
  go_ret
  exact ⟨by rw [hr.out]; rfl, rfl⟩
 | succ k =>
  obtain ⟨b, o, y, hae, c0, hy⟩ := hT.get (k := k) (by omega);rw [hae] at g2;have hr := q9 (show R = if x ≤ y then 16 else 0 from by rw [← hR.out, ndW_at hy.out hx]);have k0 : (0 : Int) ≤ (k : Int) := by omega
  have hw : IntKind.i64.wrap ((k : Int) + 1 - 1) = (k : Int) := by rw [IntWalk.i64_in _ (by omega)]; omega
  have hmx : ∀ (ts : Array TypeId) (t : TypeId) (W : World), (Builtin.max_ ts t #[.int .i64 0, .int .i64 (k : Int)]).run Tryz.prog W = .ok (.int .i64 (k : Int)) W := fun ts t W => by
   rw [Lib.run_max_ints W ts t .i64 .i64 0 (k : Int), Int.max_eq_right k0]
  have hkk : k < p.needs.length := by omega
  clear hR hx hT hae hy hkl;by_cases hxy : x ≤ y
  ·rw [if_pos hxy] at hr;go_enter Tryz.func120, Tryz.ntmps120
   go_wp2_with fail
   refine (when_any true 16 w).mono ?_;rintro e w1 ⟨rfl, rfl⟩;go_wp2_with fail
   go_ret
   exact ⟨by rw [hr.out]; rfl, rfl⟩
  rw [if_neg hxy] at hr;go_enter Tryz.func120, Tryz.ntmps120
  go_wp2_with fail
  refine (when_any false 16 w).mono ?_;rintro e w1 ⟨rfl, rfl⟩;go_wp2_with fail
  go_ret
  exact ⟨by rw [hr.out]; rfl, rfl⟩
theorem eachU_any (S : Nat) (p : Pa) (a : Pw) (w : World) (hk : Bk w S 34 (paC p a)) (hT : SU w a.n p.needs) (hl : p.needs.length ≤ 1099511627776) :
  Calls Tryz.prog 119 #[.slice a.n p.needs.length a.cn, .func (.func 120) #[] #[.pointer (some ⟨S, 0, none⟩)]] w fun e w' => e = .returned (.int .i64 (eachE (ndW p.needs) p.needs.length)) ∧ w = w' := by
 obtain ⟨R, hR⟩ : ∃ z, Hid (eachE (ndW p.needs) p.needs.length = z) := ⟨_, q9 rfl⟩;rw [hR.out];have Hk := q9 hk;have HT := q9 hT;clear hk hT;go_enter Tryz.func119, Tryz.ntmps119
 go_wp2_with fail
 go_loopw [10] (fun v wr => ∃ k : Nat, k ≤ p.needs.length ∧ v = .int .i64 k ∧ Hid (orE (((List.range p.needs.length).map (ndW p.needs)).drop k) = R) ∧ w = wr) (fun v _ => p.needs.length - (intOf v).toNat)
 case atStart => exact ⟨0, by omega, rfl, q9 (by rw [List.drop_zero]; exact hR.out), rfl⟩
 case round =>
  obtain ⟨k, hk, rfl, hd, rfl⟩ := hrel;have k0 : (0 : Int) ≤ (k : Int) := by omega
  by_cases hlt : k < p.needs.length
  ·obtain ⟨b, o, x, hae, c0, hx⟩ := HT.out.get (k := k) hlt;have hC := rule61_any S p a k x w Hk.out HT.out hx.out hl;obtain ⟨z, hz⟩ : ∃ z, Hid (ndW p.needs k = z) := ⟨_, q9 rfl⟩;rw [hz.out] at hC;have hd2 := hd.out;rw [eachE_drop hlt, hz.out] at hd2;have Hd2 := q9 hd2;clear hd hd2 hx hz;rw [hae];go_wp2_with fail
   refine hC.mono ?_;rintro e w1 ⟨rfl, rfl⟩;by_cases f1 : z = 0
   ·have b1 : (z != 0) = false := by simp [f1]
    have Hd3 := q9 (show orE (((List.range p.needs.length).map (ndW p.needs)).drop (k + 1)) = R from by have h := Hd2.out; rw [if_neg (by simp [f1])] at h; exact h);clear Hd2 f1;go_wp2_with fail
    go_roundw
    case rel => exact ⟨k + 1, by omega, by go_num, Hd3, by first | trivial | rfl⟩
    case measure => simp [intOf]; omega
   have b1 : (z != 0) = true := by simp [f1]
   have hr := q9 (show R = z from by have h := Hd2.out; rw [if_pos f1] at h; exact h.symm);clear Hd2 f1;go_wp2_with fail
   go_ret
   exact ⟨by rw [hr.out]; rfl, rfl⟩
  have hr := q9 (show R = 0 from by rw [← hd.out, List.drop_eq_nil_of_le (by simp; omega)]; rfl);clear hd;go_wp2_with fail
  go_ret
  exact ⟨by rw [hr.out]; rfl, rfl⟩
theorem rule4_any (S : Nat) (p : Pa) (a : Pw) (w : World) (hk : Bk w S 34 (paC p a)) :
  Calls Tryz.prog 116 #[.pointer (some ⟨S, 0, none⟩)] w fun e w' => e = .returned (.int .i64 (argE p)) ∧ w = w' := by
 have g0 : w.cell? ⟨S, 0, none⟩ = some (.int .i64 p.office) := hk.cell 0;have g1 : w.cell? ⟨S, 1, none⟩ = some (.int .i64 p.num) := hk.cell 1;obtain ⟨R, hR⟩ : ∃ z, Hid (argE p = z) := ⟨_, q9 rfl⟩;rw [hR.out];clear hk;by_cases e1 : (0 ≤ p.office ∧ p.office ≤ 63) ∧ (0 ≤ p.num ∧ p.num ≤ 1099511627776)
 ·have hr := q9 (show R = 0 from by rw [← hR.out]; exact if_pos e1);have t1 : ¬ p.office < 0 := by omega
  have t2 : ¬ 63 < p.office := by omega
  have t3 : ¬ p.num < 0 := by omega
  have t4 : ¬ 1099511627776 < p.num := by omega
  clear e1 hR;go_enter Tryz.func116, Tryz.ntmps116
  go_wp2_with fail
  refine (when_any false 1 w).mono ?_;rintro e w1 ⟨rfl, rfl⟩;go_wp2_with fail
  go_ret
  exact ⟨by rw [hr.out]; rfl, rfl⟩
 have hr := q9 (show R = 1 from by rw [← hR.out]; exact if_neg e1);have hc : p.office < 0 ∨ (¬ p.office < 0 ∧ 63 < p.office) ∨ (¬ p.office < 0 ∧ ¬ 63 < p.office ∧ p.num < 0) ∨ (¬ p.office < 0 ∧ ¬ 63 < p.office ∧ ¬ p.num < 0 ∧ 1099511627776 < p.num) := by omega
 clear e1 hR;rcases hc with t1 | ⟨t1, t2⟩ | ⟨t1, t2, t3⟩ | ⟨t1, t2, t3, t4⟩;all_goals
  go_enter Tryz.func116, Tryz.ntmps116
  go_wp2_with fail
  refine (when_any true 1 w).mono ?_;rintro e w1 ⟨rfl, rfl⟩;go_wp2_with fail
  go_ret
  exact ⟨by rw [hr.out]; rfl, rfl⟩
theorem rule6_any (S : Nat) (p : Pa) (a : Pw) (w : World) (hk : Bk w S 34 (paC p a)) (hT : SU w a.n p.needs) (hl : p.needs.length ≤ 1099511627776) :
  Calls Tryz.prog 118 #[.pointer (some ⟨S, 0, none⟩)] w fun e w' => e = .returned (.int .i64 (eachE (ndW p.needs) p.needs.length)) ∧ w = w' := by
 have g2 : w.cell? ⟨S, 2, none⟩ = some (.slice a.n p.needs.length a.cn) := hk.cell 2;have hC := eachU_any S p a w hk hT hl;obtain ⟨R, hR⟩ : ∃ z, Hid (eachE (ndW p.needs) p.needs.length = z) := ⟨_, q9 rfl⟩;rw [hR.out] at hC ⊢;clear hk hT hR;go_enter Tryz.func118, Tryz.ntmps118
 go_wp2_with fail
 refine hC.mono ?_;rintro e w1 ⟨rfl, rfl⟩;go_wp2_with fail
 go_ret
 exact ⟨rfl, rfl⟩
theorem rule5_any (S : Nat) (p : Pa) (a : Pw) (w : World) (hk : Bk w S 34 (paC p a)) :
  Calls Tryz.prog 117 #[.pointer (some ⟨S, 0, none⟩)] w fun e w' => e = .returned (.int .i64 (limE p)) ∧ w = w' := by
 have g2 : w.cell? ⟨S, 2, none⟩ = some (.slice a.n p.needs.length a.cn) := hk.cell 2;have g3 : w.cell? ⟨S, 3, none⟩ = some (.slice a.s p.st.length a.cs) := hk.cell 3;have g4 : w.cell? ⟨S, 4, none⟩ = some (.slice a.l p.pl.length a.cl) := hk.cell 4;have g5 : w.cell? ⟨S, 5, none⟩ = some (.slice a.m p.ma.length a.cm) := hk.cell 5;have g6 : w.cell? ⟨S, 6, none⟩ = some (.slice a.e p.er.length a.ce) := hk.cell 6;have g7 : w.cell? ⟨S, 7, none⟩ = some (.slice a.d p.dr.length a.cd) := hk.cell 7;have g8 : w.cell? ⟨S, 8, none⟩ = some (.slice a.r p.rt.length a.cr) := hk.cell 8;obtain ⟨R, hR⟩ : ∃ z, Hid (limE p = z) := ⟨_, q9 rfl⟩;rw [hR.out];clear hk;by_cases e2 : p.needs.length ≤ 64
 ·have t5 : ¬ (64 : Int) < (p.needs.length : Int) := by omega
  have hm6 := fun (ts : Array TypeId) (t : TypeId) (W : World) => run_max6 ts t (p.st.length : Int) (p.pl.length : Int) (p.ma.length : Int) (p.er.length : Int) (p.dr.length : Int) (p.rt.length : Int) W;obtain ⟨m, hm⟩ : ∃ z, Hid (mx (mx (mx (mx (mx (p.st.length : Int) (p.pl.length : Int)) (p.ma.length : Int)) (p.er.length : Int)) (p.dr.length : Int)) (p.rt.length : Int) = z) := ⟨_, q9 rfl⟩;rw [hm.out] at hm6;by_cases e3 : m ≤ 4096
  ·have t6 : ¬ (4096 : Int) < m := by omega
   have hr := q9 (show R = 0 from by
    rw [← hm.out, mx_le, mx_le, mx_le, mx_le, mx_le] at e3;rw [← hR.out];exact if_pos (by omega))
   clear hR hm;go_enter Tryz.func117, Tryz.ntmps117
   go_wp2_with fail
   refine (when_any false 4 w).mono ?_;rintro e w1 ⟨rfl, rfl⟩;go_wp2_with fail
   go_ret
   exact ⟨by rw [hr.out]; rfl, rfl⟩
  have t6 : (4096 : Int) < m := by omega
  have hr := q9 (show R = 4 from by
   rw [← hR.out];refine if_neg (fun hc => e3 ?_);rw [← hm.out, mx_le, mx_le, mx_le, mx_le, mx_le];omega)
  clear hR hm;go_enter Tryz.func117, Tryz.ntmps117
  go_wp2_with fail
  refine (when_any true 4 w).mono ?_;rintro e w1 ⟨rfl, rfl⟩;go_wp2_with fail
  go_ret
  exact ⟨by rw [hr.out]; rfl, rfl⟩
 have t5 : (64 : Int) < (p.needs.length : Int) := by omega
 have hr := q9 (show R = 4 from by rw [← hR.out]; exact if_neg (fun hc => e2 hc.1));clear hR;go_enter Tryz.func117, Tryz.ntmps117
 go_wp2_with fail
 refine (when_any true 4 w).mono ?_;rintro e w1 ⟨rfl, rfl⟩;go_wp2_with fail
 go_ret
 exact ⟨by rw [hr.out]; rfl, rfl⟩
theorem rule1_any (S : Nat) (p : Pa) (a : Pw) (i : Int) (c : Cl) (w : World) (hk : Bk w S 34 (paC p a)) :
  Calls Tryz.prog 109 #[.int .i64 i, clV c, .pointer (some ⟨S, 0, none⟩)] w fun e w' => e = .returned (.int .i64 (if clE c ≠ 0 ∨ c.office ≠ p.office then 1 else 0)) ∧ Below w.heap.size w w' := by
 obtain ⟨kind, office, fr, til, dec⟩ := c;obtain ⟨R, hR⟩ : ∃ z, Hid ((if clE ⟨kind, office, fr, til, dec⟩ ≠ 0 ∨ office ≠ p.office then (1 : Int) else 0) = z) := ⟨_, q9 rfl⟩;have hR' : (if clE ⟨kind, office, fr, til, dec⟩ ≠ 0 ∨ (⟨kind, office, fr, til, dec⟩ : Cl).office ≠ p.office then (1 : Int) else 0) = R := hR.out;rw [hR'];clear hR';show Calls Tryz.prog 109 #[.int .i64 i, .agg #[.int .i64 kind, .int .i64 office, .int .i64 fr, .int .i64 til, .int .i64 dec], .pointer (some ⟨S, 0, none⟩)] w _;have HC := q9 (fun W => show Calls Tryz.prog 25 #[.agg #[.int .i64 kind, .int .i64 office, .int .i64 fr, .int .i64 til, .int .i64 dec]] W _ from claim_any ⟨kind, office, fr, til, dec⟩ W);have hb := (Below.refl w.heap.size w).alloc (Nat.le_refl _) (.cells #[.int .i64 kind, .int .i64 office, .int .i64 fr, .int .i64 til, .int .i64 dec] 41);have hk1 := Bk.new w 41 #[.int .i64 kind, .int .i64 office, .int .i64 fr, .int .i64 til, .int .i64 dec];have hk2 := hk.alloc (.cells #[.int .i64 kind, .int .i64 office, .int .i64 fr, .int .i64 til, .int .i64 dec] 41);go_enter Tryz.func109, Tryz.ntmps109
 go_upto_region 1 with fail
 generalize w.alloc (.cells #[.int .i64 kind, .int .i64 office, .int .i64 fr, .int .i64 til, .int .i64 dec] 41) = W0 at *;generalize hs : w.heap.size = s at *;have Hs := q9 hs;clear hs hk;have Hb := q9 hb;have g0 : W0.cell? ⟨s, 0, none⟩ = some (.int .i64 kind) := hk1.cell 0;have g1 : W0.cell? ⟨s, 1, none⟩ = some (.int .i64 office) := hk1.cell 1;have g2 : W0.cell? ⟨s, 2, none⟩ = some (.int .i64 fr) := hk1.cell 2;have g3 : W0.cell? ⟨s, 3, none⟩ = some (.int .i64 til) := hk1.cell 3;have g4 : W0.cell? ⟨s, 4, none⟩ = some (.int .i64 dec) := hk1.cell 4;have Hk1 := q9 hk1;have Hk2 := q9 hk2;have hz0 : s ≤ W0.heap.size := by have := hk1.lt; omega
 clear hb hk1 hk2;go_wp2_with fail
 refine (HC.out W0).mono ?_;rintro e w1 ⟨rfl, hb1⟩;have Hb1 := q9 (Hb.out.trans (hb1.mono hz0));have k1 : w1.cell? ⟨s, 1, none⟩ = some (.int .i64 office) := (Hk1.out.below hb1 Hk1.out.lt).cell 1;have k0 : w1.cell? ⟨S, 0, none⟩ = some (.int .i64 p.office) := (Hk2.out.below hb1 Hk2.out.lt).cell 0;clear g0 g1 g2 g3 g4 hb1 Hb Hk1 Hk2 HC;by_cases f1 : clE ⟨kind, office, fr, til, dec⟩ = 0
 ·have b1 : (clE ⟨kind, office, fr, til, dec⟩ != 0) = false := by simp [f1]
  by_cases f2 : office = p.office
  ·have b2 : (office != p.office) = false := by simp [f2]
   have hr := q9 (show R = 0 from by rw [← hR.out, if_neg (fun h => h.elim (fun h => h f1) (fun h => h f2))]);clear f1 f2 hR;go_wp2_with fail
   refine (when_any false 1 w1).mono ?_;rintro e w2 ⟨rfl, rfl⟩;go_wp2_with fail
   go_ret
   exact ⟨by rw [hr.out]; rfl, Hs.out ▸ Hb1.out⟩
  have b2 : (office != p.office) = true := by simp [f2]
  have hr := q9 (show R = 1 from by rw [← hR.out, if_pos (.inr f2)]);clear f1 f2 hR;go_wp2_with fail
  refine (when_any true 1 w1).mono ?_;rintro e w2 ⟨rfl, rfl⟩;go_wp2_with fail
  go_ret
  exact ⟨by rw [hr.out]; rfl, Hs.out ▸ Hb1.out⟩
 have b1 : (clE ⟨kind, office, fr, til, dec⟩ != 0) = true := by simp [f1]
 have hr := q9 (show R = 1 from by rw [← hR.out, if_pos (.inl f1)]);clear f1 hR;go_wp2_with fail
 refine (when_any true 1 w1).mono ?_;rintro e w2 ⟨rfl, rfl⟩;go_wp2_with fail
 go_ret
 exact ⟨by rw [hr.out]; rfl, Hs.out ▸ Hb1.out⟩
theorem rule2_any (n : Int) (w : World) :
  Calls Tryz.prog 111 #[.int .i64 n] w fun e w' => e = .returned (.bool (decide (¬ (0 ≤ n ∧ n ≤ 4095)))) ∧ w = w' := by
 obtain ⟨R, hR⟩ : ∃ z, Hid (decide (¬ (0 ≤ n ∧ n ≤ 4095)) = z) := ⟨_, q9 rfl⟩;rw [hR.out];by_cases h1 : n < 0
 ·have hr := q9 (show R = true from by rw [← hR.out]; exact decide_eq_true (by omega));go_enter Tryz.func111, Tryz.ntmps111
  go_wp2_with fail
  go_ret
  exact ⟨by rw [hr.out]; rfl, rfl⟩
 by_cases h2 : 4096 ≤ n
 ·have hr := q9 (show R = true from by rw [← hR.out]; exact decide_eq_true (by omega));go_enter Tryz.func111, Tryz.ntmps111
  go_wp2_with fail
  go_ret
  exact ⟨by rw [hr.out]; rfl, rfl⟩
 have hr := q9 (show R = false from by rw [← hR.out]; exact decide_eq_false (by omega));go_enter Tryz.func111, Tryz.ntmps111
 go_wp2_with fail
 go_ret
 exact ⟨by rw [hr.out]; rfl, rfl⟩
theorem rule12c_any (i x y : Int) (w : World) :
  Calls Tryz.prog 138 #[.int .i64 i, .agg #[.int .i64 x, .int .i64 y]] w fun e w' => e = .returned (.int .i64 (if (0 ≤ x ∧ x ≤ 1048576) ∧ (0 ≤ y ∧ y ≤ 73048) then 0 else 1)) ∧ Below w.heap.size w w' := by
 obtain ⟨R, hR⟩ : ∃ z, Hid ((if (0 ≤ x ∧ x ≤ 1048576) ∧ (0 ≤ y ∧ y ≤ 73048) then (0 : Int) else 1) = z) := ⟨_, q9 rfl⟩;rw [hR.out];have hb := (Below.refl w.heap.size w).alloc (Nat.le_refl _) (.cells #[.int .i64 x, .int .i64 y] 92);have hk1 := Bk.new w 92 #[.int .i64 x, .int .i64 y];have hc0 := hk1.cell 0;have hc1 := hk1.cell 1;clear hk1;have c0 : (w.alloc (.cells #[.int .i64 x, .int .i64 y] 92)).cell? ⟨w.heap.size, 0, none⟩ = some (.int .i64 x) := hc0;have c1 : (w.alloc (.cells #[.int .i64 x, .int .i64 y] 92)).cell? ⟨w.heap.size, 1, none⟩ = some (.int .i64 y) := hc1;clear hc0 hc1;have Hb := q9 hb;clear hb;by_cases h1 : x < 0
 ·have hr := q9 (show R = 1 from by rw [← hR.out]; exact if_neg (by omega));go_enter Tryz.func138, Tryz.ntmps138
  go_wp2_with fail
  refine (when_any true 1 _).mono ?_;rintro e w2 ⟨rfl, rfl⟩;go_wp2_with fail
  go_ret
  exact ⟨by rw [hr.out]; rfl, Hb.out⟩
 by_cases h2 : 1048576 < x
 ·have hr := q9 (show R = 1 from by rw [← hR.out]; exact if_neg (by omega));go_enter Tryz.func138, Tryz.ntmps138
  go_wp2_with fail
  refine (when_any true 1 _).mono ?_;rintro e w2 ⟨rfl, rfl⟩;go_wp2_with fail
  go_ret
  exact ⟨by rw [hr.out]; rfl, Hb.out⟩
 by_cases h3 : 0 ≤ y ∧ y ≤ 73048
 ·have hr := q9 (show R = 0 from by rw [← hR.out]; exact if_pos (by omega));go_enter Tryz.func138, Tryz.ntmps138
  go_wp2_with fail
  refine (pday_any y _).mono ?_;rintro e w2 ⟨rfl, rfl⟩;rw [inB_true h3];go_wp2_with fail
  refine (when_any false 1 _).mono ?_;rintro e w2 ⟨rfl, rfl⟩;go_wp2_with fail
  go_ret
  exact ⟨by rw [hr.out]; rfl, Hb.out⟩
 have hr := q9 (show R = 1 from by rw [← hR.out]; exact if_neg (by omega));go_enter Tryz.func138, Tryz.ntmps138
 go_wp2_with fail
 refine (pday_any y _).mono ?_;rintro e w2 ⟨rfl, rfl⟩;rw [inB_false h3];go_wp2_with fail
 refine (when_any true 1 _).mono ?_;rintro e w2 ⟨rfl, rfl⟩;go_wp2_with fail
 go_ret
 exact ⟨by rw [hr.out]; rfl, Hb.out⟩
structure RC (w : World) (S T I N : Nat) (p : Pa) (a : Pw) : Prop where
 s : Bk w S 34 (paC p a)
 c : Bk w T 168 #[.func (.func 109) #[] #[.pointer (some ⟨S, 0, none⟩)]]
 i : Bk w I 93 #[.func (.func 111) #[] #[]]
 n : Bk w N 171 #[.func (.func 112) #[] #[.pointer (some ⟨S, 0, none⟩), .pointer (some ⟨I, 0, none⟩)]]
 t : PT w p a
theorem RC.below {w w' : World} {S T I N : Nat} {p : Pa} {a : Pw} (h : RC w S T I N p a) (hb : Below w.heap.size w w') : RC w' S T I N p a :=
 ⟨h.s.below hb h.s.lt, h.c.below hb h.c.lt, h.i.below hb h.i.lt, h.n.below hb h.n.lt, h.t.below hb⟩
theorem eachC_any (S : Nat) (p : Pa) (a : Pw) (C : Option Addr) (c : Nat) (cl : List Cl) (w : World) (hk : Bk w S 34 (paC p a)) (hC : SC w C cl) (hl : cl.length ≤ 1099511627776) :
  Calls Tryz.prog 124 #[.slice C cl.length c, .func (.func 109) #[] #[.pointer (some ⟨S, 0, none⟩)]] w fun e w' => e = .returned (.int .i64 (eachE (clW p.office cl) cl.length)) ∧ Below w.heap.size w w' := by
 obtain ⟨R, hR⟩ : ∃ z, Hid (eachE (clW p.office cl) cl.length = z) := ⟨_, q9 rfl⟩;rw [hR.out];have HC := q9 (fun (W : World) (hW : Below w.heap.size w W) => (show SC W C cl from hC.below hW));have HSf := q9 (fun (W : World) (hW : Below w.heap.size w W) => hk.below hW hk.lt);clear hk hC;go_enter Tryz.func124, Tryz.ntmps124
 go_wp2_with fail
 go_loopw [10] (fun v wr => ∃ k : Nat, k ≤ cl.length ∧ v = .int .i64 k ∧ Hid (orE (((List.range cl.length).map (clW p.office cl)).drop k) = R) ∧ Below w.heap.size w wr) (fun v _ => cl.length - (intOf v).toNat)
 case atStart => exact ⟨0, by omega, rfl, q9 (by rw [List.drop_zero]; exact hR.out), Below.refl _ _⟩
 case round =>
  clear hR;obtain ⟨k, hk, rfl, hd, hb⟩ := hrel;have k0 : (0 : Int) ≤ (k : Int) := by omega
  by_cases hlt : k < cl.length
  ·obtain ⟨bC, oC, ⟨t1, t2, t3, t4, t5⟩, hae, c0, c1, c2, c3, c4, hx⟩ := (HC.out _ hb).get (k := k) hlt;obtain ⟨z, hz⟩ : ∃ z, Hid ((if clE ⟨t1, t2, t3, t4, t5⟩ ≠ 0 ∨ (⟨t1, t2, t3, t4, t5⟩ : Cl).office ≠ p.office then (1 : Int) else 0) = z) := ⟨_, q9 rfl⟩;have hEk : (clW p.office cl) k = z := by rw [← hz.out, clW, hx.out]
   have hB1 := hb.alloc hb.size (.cells #[.int .i64 t1, .int .i64 t2, .int .i64 t3, .int .i64 t4, .int .i64 t5] 41);have hC1 := rule1_any S p a (k : Int) ⟨t1, t2, t3, t4, t5⟩ (wr.alloc (.cells #[.int .i64 t1, .int .i64 t2, .int .i64 t3, .int .i64 t4, .int .i64 t5] 41)) (HSf.out _ hB1);rw [hz.out] at hC1;have hd2 := hd.out;rw [eachE_drop hlt, hEk] at hd2;have Hd2 := q9 hd2;have HB1 := q9 hB1;have hz1 : w.heap.size ≤ (wr.alloc (.cells #[.int .i64 t1, .int .i64 t2, .int .i64 t3, .int .i64 t4, .int .i64 t5] 41)).heap.size := hB1.size;clear hd hd2 hx hz hb hB1 hEk;rw [hae];go_wp2_with fail
   refine hC1.mono ?_;rintro e w1 ⟨rfl, hb1⟩;have HB2 := q9 (HB1.out.trans (hb1.mono hz1));clear hb1 HB1 hz1;by_cases f1 : z = 0
   ·have b1 : (z != 0) = false := by simp [f1]
    have Hd3 := q9 (show orE (((List.range cl.length).map (clW p.office cl)).drop (k + 1)) = R from by have h := Hd2.out; rw [if_neg (by simp [f1])] at h; exact h);clear Hd2 f1;go_wp2_with fail
    go_roundw
    case rel => exact ⟨k + 1, by omega, by go_num, Hd3, HB2.out⟩
    case measure => simp [intOf]; omega
   have b1 : (z != 0) = true := by simp [f1]
   have hr := q9 (show R = z from by have h := Hd2.out; rw [if_pos f1] at h; exact h.symm);clear Hd2 f1;go_wp2_with fail
   go_ret
   exact ⟨by rw [hr.out]; rfl, HB2.out⟩
  have hr := q9 (show R = 0 from by rw [← hd.out, List.drop_eq_nil_of_le (by simp; omega)]; rfl);have Hb := q9 hb;clear hd hb;go_wp2_with fail
  go_ret
  exact ⟨by rw [hr.out]; rfl, Hb.out⟩
theorem eachR_any (C : Option Addr) (c : Nat) (l : List (Int × Int)) (w : World) (hC : SR w C l) (hl : l.length ≤ 1099511627776) :
  Calls Tryz.prog 137 #[.slice C l.length c, .func (.func 138) #[] #[]] w fun e w' => e = .returned (.int .i64 (eachE (rtW l) l.length)) ∧ Below w.heap.size w w' := by
 obtain ⟨R, hR⟩ : ∃ z, Hid (eachE (rtW l) l.length = z) := ⟨_, q9 rfl⟩;rw [hR.out];have HC := q9 (fun (W : World) (hW : Below w.heap.size w W) => (show SR W C l from hC.below hW));clear hC;go_enter Tryz.func137, Tryz.ntmps137
 go_wp2_with fail
 go_loopw [10] (fun v wr => ∃ k : Nat, k ≤ l.length ∧ v = .int .i64 k ∧ Hid (orE (((List.range l.length).map (rtW l)).drop k) = R) ∧ Below w.heap.size w wr) (fun v _ => l.length - (intOf v).toNat)
 case atStart => exact ⟨0, by omega, rfl, q9 (by rw [List.drop_zero]; exact hR.out), Below.refl _ _⟩
 case round =>
  clear hR;obtain ⟨k, hk, rfl, hd, hb⟩ := hrel;have k0 : (0 : Int) ≤ (k : Int) := by omega
  by_cases hlt : k < l.length
  ·obtain ⟨bC, oC, x, y, hae, c0, c1, hx⟩ := (HC.out _ hb).get (k := k) hlt;obtain ⟨z, hz⟩ : ∃ z, Hid ((if (0 ≤ x ∧ x ≤ 1048576) ∧ (0 ≤ y ∧ y ≤ 73048) then (0 : Int) else 1) = z) := ⟨_, q9 rfl⟩;have hEk : (rtW l) k = z := by rw [← hz.out, rtW, hx.out]
   have hB1 := hb.alloc hb.size (.cells #[.int .i64 x, .int .i64 y] 92);have hC1 := rule12c_any (k : Int) x y (wr.alloc (.cells #[.int .i64 x, .int .i64 y] 92));rw [hz.out] at hC1;have hd2 := hd.out;rw [eachE_drop hlt, hEk] at hd2;have Hd2 := q9 hd2;have HB1 := q9 hB1;have hz1 : w.heap.size ≤ (wr.alloc (.cells #[.int .i64 x, .int .i64 y] 92)).heap.size := hB1.size;clear hd hd2 hx hz hb hB1 hEk;rw [hae];go_wp2_with fail
   refine hC1.mono ?_;rintro e w1 ⟨rfl, hb1⟩;have HB2 := q9 (HB1.out.trans (hb1.mono hz1));clear hb1 HB1 hz1;by_cases f1 : z = 0
   ·have b1 : (z != 0) = false := by simp [f1]
    have Hd3 := q9 (show orE (((List.range l.length).map (rtW l)).drop (k + 1)) = R from by have h := Hd2.out; rw [if_neg (by simp [f1])] at h; exact h);clear Hd2 f1;go_wp2_with fail
    go_roundw
    case rel => exact ⟨k + 1, by omega, by go_num, Hd3, HB2.out⟩
    case measure => simp [intOf]; omega
   have b1 : (z != 0) = true := by simp [f1]
   have hr := q9 (show R = z from by have h := Hd2.out; rw [if_pos f1] at h; exact h.symm);clear Hd2 f1;go_wp2_with fail
   go_ret
   exact ⟨by rw [hr.out]; rfl, HB2.out⟩
  have hr := q9 (show R = 0 from by rw [← hd.out, List.drop_eq_nil_of_le (by simp; omega)]; rfl);have Hb := q9 hb;clear hd hb;go_wp2_with fail
  go_ret
  exact ⟨by rw [hr.out]; rfl, Hb.out⟩
theorem ptE_or (x y : Int) : ptE x y = 0 ∨ ptE x y = 5 := by
 unfold ptE;split
 ·exact .inl rfl
 exact .inr rfl
theorem skE_or (o ax ay bx by_ : Int) (cl : List Cl) : orE [ptE ax ay, ptE bx by_, if (ax == bx && ay == by_) = true then 1 else 0, if decide ((64 : Int) < (cl.length : Int)) = true then 4 else 0, eachE (clW o cl) cl.length] = skE o ⟨ax, ay, bx, by_, cl⟩ := by
 unfold skE;by_cases e1 : ptE ax ay = 0
 ·rw [orE_zero e1];by_cases e2 : ptE bx by_ = 0
  ·rw [orE_zero e2, if_neg (show ¬ (ptE ax ay ≠ 0 ∨ ptE bx by_ ≠ 0) from fun h => h.elim (fun h => h e1) (fun h => h e2))];by_cases e3 : ax = bx ∧ ay = by_
   ·rw [if_pos (by simp [e3.1, e3.2]), orE_ne (by decide), if_pos e3]
   have b3 : ¬ (ax == bx && ay == by_) = true := fun h => e3 (by simpa using h);rw [if_neg b3, orE_zero rfl, if_neg e3];by_cases e4 : 64 < cl.length
   ·rw [if_pos (decide_eq_true (by omega)), orE_ne (by decide), if_pos e4]
   rw [if_neg (by simp; omega), orE_zero rfl, if_neg e4, orE];by_cases e5 : eachE (clW o cl) cl.length = 0
   ·rw [if_neg (by simp [e5]), e5]; rfl
   rw [if_pos e5]
  rw [orE_ne e2, if_pos (.inr e2)];exact (ptE_or _ _).resolve_left e2
 rw [orE_ne e1, if_pos (.inl e1)];exact (ptE_or _ _).resolve_left e1
theorem rule7c_any (S T I N : Nat) (p : Pa) (a : Pw) (i ax ay bx by_ : Int) (C : Option Addr) (c : Nat) (cl : List Cl) (w : World) (h : RC w S T I N p a) (hC : SC w C cl) (hl : cl.length ≤ 1099511627776) :
  Calls Tryz.prog 123 #[.int .i64 i, .agg #[.int .i64 ax, .int .i64 ay, .int .i64 bx, .int .i64 by_, .slice C cl.length c], .pointer (some ⟨T, 0, none⟩)] w fun e w' => e = .returned (.int .i64 (skE p.office ⟨ax, ay, bx, by_, cl⟩)) ∧ Below w.heap.size w w' := by
 have hb := (Below.refl w.heap.size w).alloc (Nat.le_refl _) (.cells #[.int .i64 ax, .int .i64 ay, .int .i64 bx, .int .i64 by_, .slice C cl.length c] 62);have hk1 := Bk.new w 62 #[.int .i64 ax, .int .i64 ay, .int .i64 bx, .int .i64 by_, .slice C cl.length c];have hk2 := h.below hb;have hk3 := hC.below hb;obtain ⟨R, hR⟩ : ∃ z, Hid (skE p.office ⟨ax, ay, bx, by_, cl⟩ = z) := ⟨_, q9 rfl⟩;rw [hR.out];obtain ⟨r1, hr1⟩ : ∃ z, Hid (ptE ax ay = z) := ⟨_, q9 rfl⟩;obtain ⟨r2, hr2⟩ : ∃ z, Hid (ptE bx by_ = z) := ⟨_, q9 rfl⟩;obtain ⟨b3, hb3⟩ : ∃ z, Hid ((ax == bx && ay == by_) = z) := ⟨_, q9 rfl⟩;obtain ⟨b4, hb4⟩ : ∃ z, Hid (decide ((64 : Int) < (cl.length : Int)) = z) := ⟨_, q9 rfl⟩;obtain ⟨r3, hr3⟩ : ∃ z, Hid ((if b3 = true then (1 : Int) else 0) = z) := ⟨_, q9 rfl⟩;obtain ⟨r4, hr4⟩ : ∃ z, Hid ((if b4 = true then (4 : Int) else 0) = z) := ⟨_, q9 rfl⟩;obtain ⟨r5, hr5⟩ : ∃ z, Hid (eachE (clW p.office cl) cl.length = z) := ⟨_, q9 rfl⟩;have hRe := q9 (show orE [r1, r2, r3, r4, r5] = R from by rw [← hR.out, ← skE_or, hr1.out, hr2.out, hb3.out, hb4.out, hr3.out, hr4.out, hr5.out]);have K1 := q9 (fun W => hr1.out ▸ point_any ax ay W);have K2 := q9 (fun W => hr2.out ▸ point_any bx by_ W);have heq := fun W => hb3.out ▸ eql_point ax ay bx by_ W;have K3 := q9 (fun W => hr3.out ▸ when_any b3 1 W);have K4 := q9 (fun W => hr4.out ▸ when_any b4 4 W);have K5 := q9 (fun W (h1 : Bk W S 34 (paC p a)) (h2 : SC W C cl) => hr5.out ▸ eachC_any S p a C c cl W h1 h2 hl);have t4 := hb4.out;clear h hC
 go_enter Tryz.func123, Tryz.ntmps123
 go_upto_region 1 with fail
 generalize w.alloc (.cells #[.int .i64 ax, .int .i64 ay, .int .i64 bx, .int .i64 by_, .slice C cl.length c] 62) = W0 at *;generalize hs : w.heap.size = s at *;have Hs := q9 hs;clear hs;have Hb := q9 hb;have HQ := q9 (fun (W : World) (hW : Below W0.heap.size W0 W) => hk2.below hW);have HQ2 := q9 (fun (W : World) (hW : Below W0.heap.size W0 W) => (show SC W C cl from hk3.below hW));have HSf := q9 (fun (W : World) (hW : Below W0.heap.size W0 W) => show W.cell? ⟨s, 0, none⟩ = some (.int .i64 ax) ∧ W.cell? ⟨s, 1, none⟩ = some (.int .i64 ay) ∧ W.cell? ⟨s, 2, none⟩ = some (.int .i64 bx) ∧ W.cell? ⟨s, 3, none⟩ = some (.int .i64 by_) ∧ W.cell? ⟨s, 4, none⟩ = some (.slice C cl.length c) ∧ W.cell? ⟨T, 0, none⟩ = some (.func (.func 109) #[] #[.pointer (some ⟨S, 0, none⟩)]) from ⟨(hk1.below hW hk1.lt).cell 0, (hk1.below hW hk1.lt).cell 1, (hk1.below hW hk1.lt).cell 2, (hk1.below hW hk1.lt).cell 3, (hk1.below hW hk1.lt).cell 4, (hk2.below hW).c.cell 0⟩);have HB0 := q9 ((Below.refl W0.heap.size W0).drew);have hz0 : s ≤ W0.heap.size := by have := hk1.lt; omega
 clear hb hk1 hk2 hk3;refine rH 28 (fun W => W.cell? ⟨s, 0, none⟩ = some (.int .i64 ax) ∧ W.cell? ⟨s, 1, none⟩ = some (.int .i64 ay) ∧ W.cell? ⟨s, 2, none⟩ = some (.int .i64 bx) ∧ W.cell? ⟨s, 3, none⟩ = some (.int .i64 by_) ∧ W.cell? ⟨s, 4, none⟩ = some (.slice C cl.length c) ∧ W.cell? ⟨T, 0, none⟩ = some (.func (.func 109) #[] #[.pointer (some ⟨S, 0, none⟩)])) ?_;generalize W0.drew = X0 at *;refine Ht 0 (.pointer (some ⟨s, 0, none⟩)) 6 rfl rfl rfl (fun W hW => by obtain ⟨s0, s1, s2, s3, s4, s5⟩ := hW; go_simp) (HSf.out _ HB0.out) ?_;refine Ht 1 (.pointer (some ⟨s, 0, none⟩)) 7 rfl rfl rfl (fun W hW => by obtain ⟨s0, s1, s2, s3, s4, s5⟩ := hW; go_simp) (HSf.out _ HB0.out) ?_;refine Ht 2 (.agg #[.int .i64 ax, .int .i64 ay]) 8 rfl rfl rfl (fun W hW => by obtain ⟨s0, s1, s2, s3, s4, s5⟩ := hW; go_simp) (HSf.out _ HB0.out) ?_;refine Ht 4 (.pointer (some ⟨s, 0, none⟩)) 10 rfl rfl rfl (fun W hW => by obtain ⟨s0, s1, s2, s3, s4, s5⟩ := hW; go_simp) (HSf.out _ HB0.out) ?_;refine Ht 5 (.pointer (some ⟨s, 2, none⟩)) 11 rfl rfl rfl (fun W hW => by obtain ⟨s0, s1, s2, s3, s4, s5⟩ := hW; go_simp) (HSf.out _ HB0.out) ?_;refine Ht 6 (.agg #[.int .i64 bx, .int .i64 by_]) 12 rfl rfl rfl (fun W hW => by obtain ⟨s0, s1, s2, s3, s4, s5⟩ := hW; go_simp) (HSf.out _ HB0.out) ?_;refine Ht 8 (.pointer (some ⟨s, 0, none⟩)) 14 rfl rfl rfl (fun W hW => by obtain ⟨s0, s1, s2, s3, s4, s5⟩ := hW; go_simp) (HSf.out _ HB0.out) ?_
 refine Ht 9 (.pointer (some ⟨s, 0, none⟩)) 15 rfl rfl rfl (fun W hW => by obtain ⟨s0, s1, s2, s3, s4, s5⟩ := hW; go_simp) (HSf.out _ HB0.out) ?_;refine Ht 10 (.agg #[.int .i64 ax, .int .i64 ay]) 16 rfl rfl rfl (fun W hW => by obtain ⟨s0, s1, s2, s3, s4, s5⟩ := hW; go_simp) (HSf.out _ HB0.out) ?_;try simp only [Act.put, qz0, qz1, qz2]
 refine Ht 11 (.pointer (some ⟨s, 0, none⟩)) 17 rfl rfl rfl (fun W hW => by obtain ⟨s0, s1, s2, s3, s4, s5⟩ := hW; go_simp) (HSf.out _ HB0.out) ?_;refine Ht 12 (.pointer (some ⟨s, 2, none⟩)) 18 rfl rfl rfl (fun W hW => by obtain ⟨s0, s1, s2, s3, s4, s5⟩ := hW; go_simp) (HSf.out _ HB0.out) ?_;refine Ht 13 (.agg #[.int .i64 bx, .int .i64 by_]) 19 rfl rfl rfl (fun W hW => by obtain ⟨s0, s1, s2, s3, s4, s5⟩ := hW; go_simp) (HSf.out _ HB0.out) ?_;refine Ht 14 (.bool b3) 20 rfl rfl rfl (fun W hW => by obtain ⟨s0, s1, s2, s3, s4, s5⟩ := hW; go_simp) (HSf.out _ HB0.out) ?_;refine Ht 16 (.pointer (some ⟨s, 4, none⟩)) 22 rfl rfl rfl (fun W hW => by obtain ⟨s0, s1, s2, s3, s4, s5⟩ := hW; go_simp) (HSf.out _ HB0.out) ?_;refine Ht 17 (.slice C cl.length c) 23 rfl rfl rfl (fun W hW => by obtain ⟨s0, s1, s2, s3, s4, s5⟩ := hW; go_simp) (HSf.out _ HB0.out) ?_;refine Ht 18 (.int .i64 (cl.length : Int)) 24 rfl rfl rfl (fun W hW => by obtain ⟨s0, s1, s2, s3, s4, s5⟩ := hW; go_simp) (HSf.out _ HB0.out) ?_;refine Ht 19 (.bool b4) 25 rfl rfl rfl (fun W hW => by obtain ⟨s0, s1, s2, s3, s4, s5⟩ := hW; go_simp) (HSf.out _ HB0.out) ?_;refine Ht 21 (.pointer (some ⟨s, 4, none⟩)) 27 rfl rfl rfl (fun W hW => by obtain ⟨s0, s1, s2, s3, s4, s5⟩ := hW; go_simp) (HSf.out _ HB0.out) ?_;try simp only [Act.put, qz0, qz1, qz2]
 refine Ht 22 (.slice C cl.length c) 28 rfl rfl rfl (fun W hW => by obtain ⟨s0, s1, s2, s3, s4, s5⟩ := hW; go_simp) (HSf.out _ HB0.out) ?_;refine Ht 23 (.func (.func 109) #[] #[.pointer (some ⟨S, 0, none⟩)]) 29 rfl rfl rfl (fun W hW => by obtain ⟨s0, s1, s2, s3, s4, s5⟩ := hW; go_simp) (HSf.out _ HB0.out) ?_;try simp only [Act.put, qz0, qz1, qz2]
 refine H1 3 rfl rfl (fun K hK20 => ?_);go_simp
 go_at_call 24
 refine (K1.out _).mono ?_;rintro e wv1 ⟨rfl, hv1⟩;have HB1 := q9 (HB0.out.trans (hv1.mono HB0.out.size));clear hv1;refine hK20.out _ _ (HSf.out _ HB1.out) ?_;try simp only [Act.put, qz0, qz1, qz2]
 refine H1 7 rfl rfl (fun K hK21 => ?_);go_simp
 go_at_call 24
 refine (K2.out _).mono ?_;rintro e wv2 ⟨rfl, hv2⟩;have HB2 := q9 (HB1.out.trans (hv2.mono HB1.out.size));clear hv2;refine hK21.out _ _ (HSf.out _ HB2.out) ?_;try simp only [Act.put, qz0, qz1, qz2]
 refine H1 15 rfl rfl (fun K hK22 => ?_);go_simp
 go_at_call 110
 refine (K3.out _).mono ?_;rintro e wv ⟨rfl, rfl⟩;refine hK22.out _ _ (HSf.out _ HB2.out) ?_;try simp only [Act.put, qz0, qz1, qz2]
 refine H1 20 rfl rfl (fun K hK23 => ?_);go_simp
 go_at_call 110
 refine (K4.out _).mono ?_;rintro e wv ⟨rfl, rfl⟩;refine hK23.out _ _ (HSf.out _ HB2.out) ?_;try simp only [Act.put, qz0, qz1, qz2]
 refine H1 24 rfl rfl (fun K hK24 => ?_);go_simp
 go_at_call 124
 refine (K5.out _ (HQ.out _ HB2.out).s (HQ2.out _ HB2.out)).mono ?_;rintro e wv3 ⟨rfl, hv3⟩;have HB3 := q9 (HB2.out.trans (hv3.mono HB2.out.size));clear hv3;refine hK24.out _ _ (HSf.out _ HB3.out) ?_;try simp only [Act.put, qz0, qz1, qz2]
 refine H1 25 rfl rfl (fun K hK25 => ?_);go_simp
 have HB4 := q9 (HB3.out.alloc HB3.out.size (.cells #[.int .i64 r1, .int .i64 r2, .int .i64 r3, .int .i64 r4, .int .i64 r5] 25));have hsi := q9 (show SI (wv3.alloc (.cells #[.int .i64 r1, .int .i64 r2, .int .i64 r3, .int .i64 r4, .int .i64 r5] 25)) (some ⟨wv3.heap.size, 0, none⟩) [r1, r2, r3, r4, r5] from sl_bk (Bk.new wv3 25 #[.int .i64 r1, .int .i64 r2, .int .i64 r3, .int .i64 r4, .int .i64 r5]));refine hK25.out _ _ (HSf.out _ HB4.out) ?_;try simp only [Act.put, qz0, qz1, qz2]
 generalize wv3.alloc (.cells #[.int .i64 r1, .int .i64 r2, .int .i64 r3, .int .i64 r4, .int .i64 r5] 25) = X9 at *;generalize wv3.heap.size = h9 at *;refine H1 26 rfl rfl (fun K hK26 => ?_);go_simp
 go_at_call 114
 refine (or_any (some ⟨h9, 0, none⟩) 5 [r1, r2, r3, r4, r5] X9 hsi.out (by simp)).mono ?_;rintro e wv ⟨he, rfl⟩;rw [hRe.out] at he;subst he;refine hK26.out _ _ (HSf.out _ HB4.out) ?_;try simp only [Act.put, qz0, qz1, qz2]
 refine Ht 27 (.int .i64 R) 5 rfl rfl rfl (fun W hW => by obtain ⟨s0, s1, s2, s3, s4, s5⟩ := hW; go_simp) (HSf.out _ HB4.out) ?_;try simp only [Act.put, qz0, qz1, qz2]
 refine H0 ?_;try simp only [Act.put, qz0, qz1, qz2]
 have Hb2 := q9 (Hb.out.trans (HB4.out.mono hz0));clear HB0 HB1 HB2 HB3 HB4 HSf HQ HQ2 K1 K2 K3 K4 K5 hsi heq t4;go_wp2_with fail
 go_ret
 exact ⟨rfl, by rw [Hs.out]; exact Hb2.out⟩
end Go.Proofs.YtnapnkmehnabfaaGreat
