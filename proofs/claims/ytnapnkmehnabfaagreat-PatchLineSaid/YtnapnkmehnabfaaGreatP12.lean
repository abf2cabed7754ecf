import Derived.Test.YtnapnkmehnabfaaGreatP11
namespace Go.Proofs.YtnapnkmehnabfaaGreat
open Go.RowKit Go.Maps

/-- Strokes in memory. -/
def SS (w : World) (A : Option Addr) (l : List Sk) : Prop := ∃ vs, SL w A vs ∧ vs.length = l.length * 5 ∧ ∀ (j : Nat) s, l[j]? = some s → ∃ C c, vs[j * 5]? = some (.int .i64 (Sk.ax s)) ∧ vs[j * 5 + 1]? = some (.int .i64 s.ay) ∧ vs[j * 5 + 2]? = some (.int .i64 s.bx) ∧ vs[j * 5 + 3]? = some (.int .i64 s.by_) ∧ vs[j * 5 + 4]? = some (.slice C s.cl.length c) ∧ SC w C s.cl ∧ s.cl.length ≤ 1099511627776
theorem SS.below {w w' : World} {A : Option Addr} {l : List Sk} (h : SS w A l) (hb : Below w.heap.size w w') : SS w' A l := by
  obtain ⟨vs, h1, h2, h3⟩ := h
  refine ⟨vs, h1.below hb, h2, fun j s hs => ?_⟩
  obtain ⟨C, c, c0, c1, c2, c3, c4, h4, h5⟩ := h3 j s hs
  exact ⟨C, c, c0, c1, c2, c3, c4, h4.below hb, h5⟩
theorem SS.get {w : World} {A : Option Addr} {l : List Sk} {k : Nat} (h : SS w A l) (hk : k < l.length) : ∃ b p s C c, A = some ⟨b, p, none⟩ ∧ w.cell? ⟨b, p + k * 5, none⟩ = some (.int .i64 (Sk.ax s)) ∧ w.cell? ⟨b, p + k * 5 + 1, none⟩ = some (.int .i64 s.ay) ∧ w.cell? ⟨b, p + k * 5 + 2, none⟩ = some (.int .i64 s.bx) ∧ w.cell? ⟨b, p + k * 5 + 3, none⟩ = some (.int .i64 s.by_) ∧ w.cell? ⟨b, p + k * 5 + 4, none⟩ = some (.slice C s.cl.length c) ∧ SC w C s.cl ∧ s.cl.length ≤ 1099511627776 ∧ Hid (l[k]? = some s) := by
  obtain ⟨vs, h1, h2, h3⟩ := h
  have hs : l[k]? = some l[k] := List.getElem?_eq_getElem hk
  obtain ⟨C, c, e0, e1, e2, e3, e4, h4, h5⟩ := h3 k _ hs
  obtain ⟨b, p, e, _, c0⟩ := h1 _ _ e0
  subst e
  have c1 := SL.two h1 e0 e1
  have c2 := SL.two h1 e0 e2
  have c3 := SL.two h1 e0 e3
  have c4 := SL.two h1 e0 e4
  rw [← Nat.add_assoc] at c1 c2 c3 c4
  exact ⟨b, p, _, C, c, rfl, c0, c1, c2, c3, c4, h4, h5, Lib.hid hs⟩
def plC (p : Plc) : List Value := [.int .i64 p.x, .int .i64 p.y, .string p.nm, .int .i64 p.office, .int .i64 p.fr, .int .i64 p.til]
/-- Places in memory. -/
def SPl (w : World) (A : Option Addr) (l : List Plc) : Prop := SL w A (l.flatMap plC)
theorem plC_at : ∀ (l : List Plc) (k : Nat) (t : Plc), l[k]? = some t → (l.flatMap plC)[k * 6]? = some (.int .i64 t.x) ∧ (l.flatMap plC)[k * 6 + 1]? = some (.int .i64 t.y) ∧ (l.flatMap plC)[k * 6 + 2]? = some (.string t.nm) ∧ (l.flatMap plC)[k * 6 + 3]? = some (.int .i64 t.office) ∧ (l.flatMap plC)[k * 6 + 4]? = some (.int .i64 t.fr) ∧ (l.flatMap plC)[k * 6 + 5]? = some (.int .i64 t.til)
  | [], k, t, h => by simp at h
  | u :: l, 0, t, h => by
    obtain rfl : u = t := by simpa using h
    exact ⟨rfl, rfl, rfl, rfl, rfl, rfl⟩
  | u :: l, k + 1, t, h => by
    have := plC_at l k t (by simpa using h)
    have e : (u :: l).flatMap plC = .int .i64 u.x :: .int .i64 u.y :: .string u.nm :: .int .i64 u.office :: .int .i64 u.fr :: .int .i64 u.til :: l.flatMap plC := rfl
    rw [e, show (k + 1) * 6 = k * 6 + 1 + 1 + 1 + 1 + 1 + 1 by omega]
    simpa using this
theorem SPl.below {w w' : World} {A : Option Addr} {l : List Plc} (h : SPl w A l) (hb : Below w.heap.size w w') : SPl w' A l := SL.below h hb
theorem SPl.get {w : World} {A : Option Addr} {l : List Plc} {k : Nat} (h : SPl w A l) (hk : k < l.length) : ∃ b p t, A = some ⟨b, p, none⟩ ∧ w.cell? ⟨b, p + k * 6, none⟩ = some (.int .i64 (Plc.x t)) ∧ w.cell? ⟨b, p + k * 6 + 1, none⟩ = some (.int .i64 t.y) ∧ w.cell? ⟨b, p + k * 6 + 2, none⟩ = some (.string t.nm) ∧ w.cell? ⟨b, p + k * 6 + 3, none⟩ = some (.int .i64 t.office) ∧ w.cell? ⟨b, p + k * 6 + 4, none⟩ = some (.int .i64 t.fr) ∧ w.cell? ⟨b, p + k * 6 + 5, none⟩ = some (.int .i64 t.til) ∧ Hid (l[k]? = some t) := by
  obtain ⟨h1, h2, h3, h4, h5, h6⟩ := plC_at l k _ (List.getElem?_eq_getElem hk)
  obtain ⟨b, p, e, _, c1⟩ := h _ _ h1
  subst e
  have c2 := SL.two h h1 h2
  have c3 := SL.two h h1 h3
  have c4 := SL.two h h1 h4
  have c5 := SL.two h h1 h5
  have c6 := SL.two h h1 h6
  rw [← Nat.add_assoc] at c2 c3 c4 c5 c6
  exact ⟨b, p, _, rfl, c1, c2, c3, c4, c5, c6, Lib.hid (List.getElem?_eq_getElem hk)⟩
def skW (o : Int) (l : List Sk) (i : Nat) : Int := match l[i]? with
  | some s => skE o s
  | none => 0
def plW (o : Int) (l : List Plc) (i : Nat) : Int := match l[i]? with
  | some p => plE o p
  | none => 0
/-- The error of strokes and places. -/
def drawnE (o : Int) (st : List Sk) (pl : List Plc) : Int := if eachE (skW o st) st.length ≠ 0 then eachE (skW o st) st.length else eachE (plW o pl) pl.length

set_option linter.unusedSimpArgs false in
set_option maxHeartbeats 4000000 in
set_option maxRecDepth 100000 in
theorem refDrawn_any (o num : Int) (vN vM vE vD vR : Value) (AS AP : Option Addr) (cs cp : Nat) (st : List Sk) (pl : List Plc) (w : World) (hS : SS w AS st) (hP : SPl w AP pl) (hl : st.length ≤ 1099511627776) (hl2 : pl.length ≤ 1099511627776) :
    Calls Tryz.prog 43 #[.agg #[.int .i64 o, .int .i64 num, vN, .slice AS st.length cs, .slice AP pl.length cp, vM, vE, vD, vR]] w fun e w' => e = .returned (.int .i64 (drawnE o st pl)) ∧ Below w.heap.size w w' := by
  obtain ⟨S, hSz⟩ : ∃ S, Hid (w.heap.size = S) := ⟨_, Lib.hid rfl⟩
  obtain ⟨R, hR⟩ : ∃ z, Hid (drawnE o st pl = z) := ⟨_, Lib.hid rfl⟩
  rw [hR.out]
  have HS := Lib.hid (fun (W : World) (hW : Below S w W) => (hS.below (hSz.out.symm ▸ hW) : SS W AS st))
  have HP := Lib.hid (fun (W : World) (hW : Below S w W) => (hP.below (hSz.out.symm ▸ hW) : SPl W AP pl))
  have hb0 : Below S w (w.alloc (.cells #[.int .i64 o, .int .i64 num, vN, .slice AS st.length cs, .slice AP pl.length cp, vM, vE, vD, vR] 34)) := hSz.out ▸ (Below.refl _ _).alloc (Nat.le_refl _) _
  have hbk : Bk (w.alloc (.cells #[.int .i64 o, .int .i64 num, vN, .slice AS st.length cs, .slice AP pl.length cp, vM, vE, vD, vR] 34)) S 34 #[.int .i64 o, .int .i64 num, vN, .slice AS st.length cs, .slice AP pl.length cp, vM, vE, vD, vR] := Bk.new' _ _ _ hSz.out
  clear hS hP
  go_enter Tryz.func43, Tryz.ntmps43
  go_upto_region 1 with fail
  rw [hSz.out]
  generalize w.alloc (.cells #[.int .i64 o, .int .i64 num, vN, .slice AS st.length cs, .slice AP pl.length cp, vM, vE, vD, vR] 34) = W0 at *
  have Hb0 := Lib.hid hb0
  have hz0 : S ≤ W0.heap.size := by have := hbk.lt; omega
  have HSf := Lib.hid (fun (W : World) (hW : Below W0.heap.size W0 W) => show W.cell? ⟨S, 0, none⟩ = some (.int .i64 o) ∧ W.cell? ⟨S, 3, none⟩ = some (.slice AS st.length cs) ∧ W.cell? ⟨S, 4, none⟩ = some (.slice AP pl.length cp) from ⟨(hbk.below hW hbk.lt).cell 0, (hbk.below hW hbk.lt).cell 3, (hbk.below hW hbk.lt).cell 4⟩)
  clear hb0 hbk
  go_wp2_with fail
  go_loopw [3] (fun v wr => ∃ k : Nat, k ≤ st.length ∧ v = .int .i64 k ∧ Hid (orE (((List.range st.length).map (skW o st)).drop k) = eachE (skW o st) st.length) ∧ Below W0.heap.size W0 wr) (fun v _ => st.length - (intOf v).toNat)
  case atStart => exact ⟨0, by omega, rfl, Lib.hid (by rw [List.drop_zero]; rfl), Below.refl _ _⟩
  case round =>
    obtain ⟨k, hk, rfl, hd, hb⟩ := hrel
    have k0 : (0 : Int) ≤ (k : Int) := by omega
    have g3 : wr.cell? ⟨S, 3, none⟩ = some (.slice AS st.length cs) := (HSf.out _ hb).2.1
    have HB := Lib.hid (Hb0.out.trans (hb.mono hz0))
    by_cases hlt : k < st.length
    · obtain ⟨b1, p1, s, C, c, rfl, c0, c1, c2, c3, c4, hsc, hcl, hx⟩ := (HS.out _ HB.out).get (k := k) hlt
      have hd2 := hd.out
      rw [eachE_drop hlt, show skW o st k = skE o s by rw [skW, hx.out]] at hd2
      have Hd2 := Lib.hid hd2
      have HSg := Lib.hid (fun (W : World) (hW : Below wr.heap.size wr W) => show W.cell? ⟨S, 3, none⟩ = some (.slice (some ⟨b1, p1, none⟩) st.length cs) ∧ W.cell? ⟨S, 0, none⟩ = some (.int .i64 o) ∧ W.cell? ⟨b1, p1 + k * 5, none⟩ = some (.int .i64 s.ax) ∧ W.cell? ⟨b1, p1 + k * 5 + 1, none⟩ = some (.int .i64 s.ay) ∧ W.cell? ⟨b1, p1 + k * 5 + 2, none⟩ = some (.int .i64 s.bx) ∧ W.cell? ⟨b1, p1 + k * 5 + 3, none⟩ = some (.int .i64 s.by_) ∧ W.cell? ⟨b1, p1 + k * 5 + 4, none⟩ = some (.slice C s.cl.length c) from ⟨(HSf.out _ (hb.trans (hW.mono hb.size))).2.1, (HSf.out _ (hb.trans (hW.mono hb.size))).1, cell_far c0 hW, cell_far c1 hW, cell_far c2 hW, cell_far c3 hW, cell_far c4 hW⟩)
      have HCl := Lib.hid (fun (W : World) (hW : Below wr.heap.size wr W) => refStroke_any s.ax s.ay s.bx s.by_ o C c s.cl W (hsc.below hW) hcl)
      have Hb := Lib.hid hb
      have HB0 := Lib.hid ((Below.refl wr.heap.size wr).drew)
      obtain ⟨z, hz⟩ : ∃ z, Hid (skE o s = z) := ⟨_, Lib.hid rfl⟩
      rw [hz.out] at Hd2
      clear hd hd2 hx c0 c1 c2 c3 c4 hsc hcl hb HB
      go_wp2_with fail
      refine wp_region_noPanic ?_
      refine region_H (S := fun W => W.cell? ⟨S, 3, none⟩ = some (.slice (some ⟨b1, p1, none⟩) st.length cs) ∧ W.cell? ⟨S, 0, none⟩ = some (.int .i64 o) ∧ W.cell? ⟨b1, p1 + k * 5, none⟩ = some (.int .i64 s.ax) ∧ W.cell? ⟨b1, p1 + k * 5 + 1, none⟩ = some (.int .i64 s.ay) ∧ W.cell? ⟨b1, p1 + k * 5 + 2, none⟩ = some (.int .i64 s.bx) ∧ W.cell? ⟨b1, p1 + k * 5 + 3, none⟩ = some (.int .i64 s.by_) ∧ W.cell? ⟨b1, p1 + k * 5 + 4, none⟩ = some (.slice C s.cl.length c)) (by kernel_rfl) ?_
      change wpH _ _ _ _ 9 _ _ wr.drew
      refine H_takeD (k := 0) (v := .pointer (some ⟨S, 3, none⟩)) (d := some 14) rfl rfl (by decide +kernel) (fun _ _ _ h => h) (Or.inl ⟨by rfl, fun W hW => by obtain ⟨s0, s1, s2, s3, s4, s5, s6⟩ := hW; go_simp⟩) (HSg.out _ HB0.out) ?_
      try simp only [Act.put, List.setIfInBounds_toArray, List.set_cons_zero, List.set_cons_succ]
      refine H_takeD (k := 1) (v := .slice (some ⟨b1, p1, none⟩) st.length cs) (d := some 15) rfl rfl (by decide +kernel) (fun _ _ _ h => h) (Or.inl ⟨by rfl, fun W hW => by obtain ⟨s0, s1, s2, s3, s4, s5, s6⟩ := hW; go_simp⟩) (HSg.out _ HB0.out) ?_
      try simp only [Act.put, List.setIfInBounds_toArray, List.set_cons_zero, List.set_cons_succ]
      refine H_takeD (k := 2) (v := .int .i64 k) (d := some 16) rfl rfl (by decide +kernel) (fun _ _ _ h => h) (Or.inl ⟨by rfl, fun W hW => by obtain ⟨s0, s1, s2, s3, s4, s5, s6⟩ := hW; go_simp⟩) (HSg.out _ HB0.out) ?_
      try simp only [Act.put, List.setIfInBounds_toArray, List.set_cons_zero, List.set_cons_succ]
      refine H_takeD (k := 3) (v := .pointer (some ⟨b1, p1 + k * 5, none⟩)) (d := some 17) rfl rfl (by decide +kernel) (fun _ _ _ h => h) (Or.inl ⟨by rfl, fun W hW => by obtain ⟨s0, s1, s2, s3, s4, s5, s6⟩ := hW; go_simp⟩) (HSg.out _ HB0.out) ?_
      try simp only [Act.put, List.setIfInBounds_toArray, List.set_cons_zero, List.set_cons_succ]
      refine H_takeD (k := 4) (v := .agg #[.int .i64 s.ax, .int .i64 s.ay, .int .i64 s.bx, .int .i64 s.by_, .slice C s.cl.length c]) (d := some 18) rfl rfl (by decide +kernel) (fun _ _ _ h => h) (Or.inl ⟨by rfl, fun W hW => by obtain ⟨s0, s1, s2, s3, s4, s5, s6⟩ := hW; go_simp⟩) (HSg.out _ HB0.out) ?_
      try simp only [Act.put, List.setIfInBounds_toArray, List.set_cons_zero, List.set_cons_succ]
      refine H_takeD (k := 5) (v := .pointer (some ⟨S, 0, none⟩)) (d := some 19) rfl rfl (by decide +kernel) (fun _ _ _ h => h) (Or.inl ⟨by rfl, fun W hW => by obtain ⟨s0, s1, s2, s3, s4, s5, s6⟩ := hW; go_simp⟩) (HSg.out _ HB0.out) ?_
      try simp only [Act.put, List.setIfInBounds_toArray, List.set_cons_zero, List.set_cons_succ]
      refine H_takeD (k := 6) (v := .int .i64 o) (d := some 20) rfl rfl (by decide +kernel) (fun _ _ _ h => h) (Or.inl ⟨by rfl, fun W hW => by obtain ⟨s0, s1, s2, s3, s4, s5, s6⟩ := hW; go_simp⟩) (HSg.out _ HB0.out) ?_
      try simp only [Act.put, List.setIfInBounds_toArray, List.set_cons_zero, List.set_cons_succ]
      refine H_one (i := 7) (by decide +kernel) (H_step rfl rfl (fun K hK7 => ?_))
      have hK7 := Lib.hid hK7
      go_simp
      go_at_call 140
      refine (HCl.out _ HB0.out).mono ?_
      rintro e wv ⟨he, hv⟩
      rw [show skE o ⟨s.ax, s.ay, s.bx, s.by_, s.cl⟩ = z from hz.out] at he
      subst he
      have HB1 := Lib.hid (HB0.out.trans (hv.mono HB0.out.size))
      clear hv
      refine hK7.out _ _ (HSg.out _ HB1.out) ?_
      try simp only [Act.put, List.setIfInBounds_toArray, List.set_cons_zero, List.set_cons_succ]
      refine H_takeD (k := 8) (v := .int .i64 z) (d := some 4) rfl rfl (by decide +kernel) (fun _ _ _ h => h) (Or.inl ⟨by rfl, fun W hW => by obtain ⟨s0, s1, s2, s3, s4, s5, s6⟩ := hW; go_simp⟩) (HSg.out _ HB1.out) ?_
      try simp only [Act.put, List.setIfInBounds_toArray, List.set_cons_zero, List.set_cons_succ]
      refine H_end (by decide +kernel) (NoPanic.normal ?_)
      try simp only [Act.put, List.setIfInBounds_toArray, List.set_cons_zero, List.set_cons_succ]
      have Hb2 := Lib.hid (Hb.out.trans (HB1.out.mono Hb.out.size))
      clear HB0 HB1 HSg HCl
      by_cases hz0' : z = 0
      · have hbz : (z != 0) = false := by simp [hz0']
        have Hd3 := Lib.hid (show orE (((List.range st.length).map (skW o st)).drop (k + 1)) = eachE (skW o st) st.length from by have h := Hd2.out; rw [if_neg (by simp [hz0'])] at h; exact h)
        clear hz0' Hd2 hz
        go_wp2_with fail
        go_roundw
        case rel => exact ⟨k + 1, by omega, by go_num, Hd3, Hb2.out⟩
        case measure => simp [intOf]; omega
      · have hbz : (z != 0) = true := by simp [hz0']
        have hr := Lib.hid (show R = z from by have h := Hd2.out; rw [if_pos hz0'] at h; rw [← hR.out, drawnE, ← h, if_pos hz0'])
        clear hz0' Hd2 hz
        go_wp2_with fail
        go_ret
        exact ⟨by rw [hr.out]; rfl, hSz.out ▸ Hb0.out.trans (Hb2.out.mono hz0)⟩
    · have hE := Lib.hid (show R = eachE (plW o pl) pl.length from by
        have h0 : eachE (skW o st) st.length = 0 := by rw [← hd.out, List.drop_eq_nil_of_le (by simp; omega)]; rfl
        rw [← hR.out, drawnE, if_neg (by simp [h0])])
      have Hb := Lib.hid hb
      clear hd hb
      obtain ⟨W1, rfl⟩ : ∃ z, z = wr := ⟨wr, rfl⟩
      go_wp2_with fail
      go_loopw [5] (fun v wr => ∃ k : Nat, k ≤ pl.length ∧ v = .int .i64 k ∧ Hid (orE (((List.range pl.length).map (plW o pl)).drop k) = R) ∧ Below W0.heap.size W0 wr) (fun v _ => pl.length - (intOf v).toNat)
      case atStart => exact ⟨0, by omega, rfl, Lib.hid (by rw [List.drop_zero]; exact hE.out.symm), Hb.out⟩
      case round =>
        obtain ⟨k, hk, rfl, hd, hb⟩ := hrel
        have k0 : (0 : Int) ≤ (k : Int) := by omega
        have g4 : wr.cell? ⟨S, 4, none⟩ = some (.slice AP pl.length cp) := (HSf.out _ hb).2.2
        have HB := Lib.hid (Hb0.out.trans (hb.mono hz0))
        by_cases hlt : k < pl.length
        · obtain ⟨b1, p1, t, rfl, c0, c1, c2, c3, c4, c5, hx⟩ := (HP.out _ HB.out).get (k := k) hlt
          have hd2 := hd.out
          rw [eachE_drop hlt, show plW o pl k = plE o t by rw [plW, hx.out]] at hd2
          have Hd2 := Lib.hid hd2
          have HSg := Lib.hid (fun (W : World) (hW : Below wr.heap.size wr W) => show W.cell? ⟨S, 4, none⟩ = some (.slice (some ⟨b1, p1, none⟩) pl.length cp) ∧ W.cell? ⟨S, 0, none⟩ = some (.int .i64 o) ∧ W.cell? ⟨b1, p1 + k * 6, none⟩ = some (.int .i64 t.x) ∧ W.cell? ⟨b1, p1 + k * 6 + 1, none⟩ = some (.int .i64 t.y) ∧ W.cell? ⟨b1, p1 + k * 6 + 2, none⟩ = some (.string t.nm) ∧ W.cell? ⟨b1, p1 + k * 6 + 3, none⟩ = some (.int .i64 t.office) ∧ W.cell? ⟨b1, p1 + k * 6 + 4, none⟩ = some (.int .i64 t.fr) ∧ W.cell? ⟨b1, p1 + k * 6 + 5, none⟩ = some (.int .i64 t.til) from ⟨(HSf.out _ (hb.trans (hW.mono hb.size))).2.2, (HSf.out _ (hb.trans (hW.mono hb.size))).1, cell_far c0 hW, cell_far c1 hW, cell_far c2 hW, cell_far c3 hW, cell_far c4 hW, cell_far c5 hW⟩)
          have HCl := Lib.hid (fun (W : World) => refPlace_any t.x t.y t.nm t.office t.fr t.til o W)
          have Hb := Lib.hid hb
          have HB0 := Lib.hid ((Below.refl wr.heap.size wr).drew)
          obtain ⟨z, hz⟩ : ∃ z, Hid (plE o t = z) := ⟨_, Lib.hid rfl⟩
          rw [hz.out] at Hd2
          clear hd hd2 hx c0 c1 c2 c3 c4 c5 hb HB hE
          go_wp2_with fail
          refine wp_region_noPanic ?_
          refine region_H (S := fun W => W.cell? ⟨S, 4, none⟩ = some (.slice (some ⟨b1, p1, none⟩) pl.length cp) ∧ W.cell? ⟨S, 0, none⟩ = some (.int .i64 o) ∧ W.cell? ⟨b1, p1 + k * 6, none⟩ = some (.int .i64 t.x) ∧ W.cell? ⟨b1, p1 + k * 6 + 1, none⟩ = some (.int .i64 t.y) ∧ W.cell? ⟨b1, p1 + k * 6 + 2, none⟩ = some (.string t.nm) ∧ W.cell? ⟨b1, p1 + k * 6 + 3, none⟩ = some (.int .i64 t.office) ∧ W.cell? ⟨b1, p1 + k * 6 + 4, none⟩ = some (.int .i64 t.fr) ∧ W.cell? ⟨b1, p1 + k * 6 + 5, none⟩ = some (.int .i64 t.til)) (by kernel_rfl) ?_
          change wpH _ _ _ _ 9 _ _ wr.drew
          refine H_takeD (k := 0) (v := .pointer (some ⟨S, 4, none⟩)) (d := some 32) rfl rfl (by decide +kernel) (fun _ _ _ h => h) (Or.inl ⟨by rfl, fun W hW => by obtain ⟨s0, s1, s2, s3, s4, s5, s6, s7⟩ := hW; go_simp⟩) (HSg.out _ HB0.out) ?_
          try simp only [Act.put, List.setIfInBounds_toArray, List.set_cons_zero, List.set_cons_succ]
          refine H_takeD (k := 1) (v := .slice (some ⟨b1, p1, none⟩) pl.length cp) (d := some 33) rfl rfl (by decide +kernel) (fun _ _ _ h => h) (Or.inl ⟨by rfl, fun W hW => by obtain ⟨s0, s1, s2, s3, s4, s5, s6, s7⟩ := hW; go_simp⟩) (HSg.out _ HB0.out) ?_
          try simp only [Act.put, List.setIfInBounds_toArray, List.set_cons_zero, List.set_cons_succ]
          refine H_takeD (k := 2) (v := .int .i64 k) (d := some 34) rfl rfl (by decide +kernel) (fun _ _ _ h => h) (Or.inl ⟨by rfl, fun W hW => by obtain ⟨s0, s1, s2, s3, s4, s5, s6, s7⟩ := hW; go_simp⟩) (HSg.out _ HB0.out) ?_
          try simp only [Act.put, List.setIfInBounds_toArray, List.set_cons_zero, List.set_cons_succ]
          refine H_takeD (k := 3) (v := .pointer (some ⟨b1, p1 + k * 6, none⟩)) (d := some 35) rfl rfl (by decide +kernel) (fun _ _ _ h => h) (Or.inl ⟨by rfl, fun W hW => by obtain ⟨s0, s1, s2, s3, s4, s5, s6, s7⟩ := hW; go_simp⟩) (HSg.out _ HB0.out) ?_
          try simp only [Act.put, List.setIfInBounds_toArray, List.set_cons_zero, List.set_cons_succ]
          refine H_takeD (k := 4) (v := .agg #[.int .i64 t.x, .int .i64 t.y, .string t.nm, .int .i64 t.office, .int .i64 t.fr, .int .i64 t.til]) (d := some 36) rfl rfl (by decide +kernel) (fun _ _ _ h => h) (Or.inl ⟨by rfl, fun W hW => by obtain ⟨s0, s1, s2, s3, s4, s5, s6, s7⟩ := hW; go_simp⟩) (HSg.out _ HB0.out) ?_
          try simp only [Act.put, List.setIfInBounds_toArray, List.set_cons_zero, List.set_cons_succ]
          refine H_takeD (k := 5) (v := .pointer (some ⟨S, 0, none⟩)) (d := some 37) rfl rfl (by decide +kernel) (fun _ _ _ h => h) (Or.inl ⟨by rfl, fun W hW => by obtain ⟨s0, s1, s2, s3, s4, s5, s6, s7⟩ := hW; go_simp⟩) (HSg.out _ HB0.out) ?_
          try simp only [Act.put, List.setIfInBounds_toArray, List.set_cons_zero, List.set_cons_succ]
          refine H_takeD (k := 6) (v := .int .i64 o) (d := some 38) rfl rfl (by decide +kernel) (fun _ _ _ h => h) (Or.inl ⟨by rfl, fun W hW => by obtain ⟨s0, s1, s2, s3, s4, s5, s6, s7⟩ := hW; go_simp⟩) (HSg.out _ HB0.out) ?_
          try simp only [Act.put, List.setIfInBounds_toArray, List.set_cons_zero, List.set_cons_succ]
          refine H_one (i := 7) (by decide +kernel) (H_step rfl rfl (fun K hK7 => ?_))
          have hK7 := Lib.hid hK7
          go_simp
          go_at_call 141
          refine (HCl.out _).mono ?_
          rintro e wv ⟨he, hv⟩
          rw [show plE o ⟨t.x, t.y, t.nm, t.office, t.fr, t.til⟩ = z from hz.out] at he
          subst he
          have HB1 := Lib.hid (HB0.out.trans (hv.mono HB0.out.size))
          clear hv
          refine hK7.out _ _ (HSg.out _ HB1.out) ?_
          try simp only [Act.put, List.setIfInBounds_toArray, List.set_cons_zero, List.set_cons_succ]
          refine H_takeD (k := 8) (v := .int .i64 z) (d := some 6) rfl rfl (by decide +kernel) (fun _ _ _ h => h) (Or.inl ⟨by rfl, fun W hW => by obtain ⟨s0, s1, s2, s3, s4, s5, s6, s7⟩ := hW; go_simp⟩) (HSg.out _ HB1.out) ?_
          try simp only [Act.put, List.setIfInBounds_toArray, List.set_cons_zero, List.set_cons_succ]
          refine H_end (by decide +kernel) (NoPanic.normal ?_)
          try simp only [Act.put, List.setIfInBounds_toArray, List.set_cons_zero, List.set_cons_succ]
          have Hb2 := Lib.hid (Hb.out.trans (HB1.out.mono Hb.out.size))
          clear HB0 HB1 HSg HCl
          by_cases hz0' : z = 0
          · have hbz : (z != 0) = false := by simp [hz0']
            have Hd3 := Lib.hid (show orE (((List.range pl.length).map (plW o pl)).drop (k + 1)) = R from by have h := Hd2.out; rw [if_neg (by simp [hz0'])] at h; exact h)
            clear hz0' Hd2 hz
            go_wp2_with fail
            go_roundw
            case rel => exact ⟨k + 1, by omega, by go_num, Hd3, Hb2.out⟩
            case measure => simp [intOf]; omega
          · have hbz : (z != 0) = true := by simp [hz0']
            have hr := Lib.hid (show R = z from by have h := Hd2.out; rw [if_pos hz0'] at h; exact h.symm)
            clear hz0' Hd2 hz
            go_wp2_with fail
            go_ret
            exact ⟨by rw [hr.out]; rfl, hSz.out ▸ Hb0.out.trans (Hb2.out.mono hz0)⟩
        · have hr := Lib.hid (show R = 0 from by rw [← hd.out, List.drop_eq_nil_of_le (by simp; omega)]; rfl)
          clear hd hb
          go_wp2_with fail
          go_ret
          exact ⟨by rw [hr.out]; rfl, hSz.out ▸ HB.out⟩
end Go.Proofs.YtnapnkmehnabfaaGreat
