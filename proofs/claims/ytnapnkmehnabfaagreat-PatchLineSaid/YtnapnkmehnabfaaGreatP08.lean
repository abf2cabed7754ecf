import Derived.Test.YtnapnkmehnabfaaGreatP07
namespace Go.Proofs.YtnapnkmehnabfaaGreat
open Go.RowKit Go.Maps

set_option maxRecDepth 100000 in
theorem eql_point (x y x' y' : Int) (W : World) : (binOp .eql 58 (.agg #[.int .i64 x, .int .i64 y]) (.agg #[.int .i64 x', .int .i64 y'])).run Tryz.prog W = .ok (.bool (x == x' && y == y')) W := by
  rw [run_eql_struct, show (10000 : Nat) = 9999 + 1 from rfl, run_equalIn_struct (P := Tryz.prog) W 9999 58 _ _ (by kernel_rfl) (by kernel_rfl)]
  have ha := Tryz.isAgg3
  have hu3 := Tryz.underlying3
  by_cases e1 : x = x'
  · by_cases e2 : y = y'
    · simp [Program.fieldsOf, Tryz.underlying58, Op.eqFields, part, ha, run_equalIn_int W 9998 3 .i64 .i64 _ _ hu3, e1, e2]
    · simp [Program.fieldsOf, Tryz.underlying58, Op.eqFields, part, ha, run_equalIn_int W 9998 3 .i64 .i64 _ _ hu3, e1, e2]
  · simp [Program.fieldsOf, Tryz.underlying58, Op.eqFields, part, ha, run_equalIn_int W 9998 3 .i64 .i64 _ _ hu3, e1]
/-- Claims in memory. -/
def SC (w : World) (A : Option Addr) (l : List Cl) : Prop := SL w A (l.flatMap clC)
theorem clC_at : ∀ (l : List Cl) (k : Nat) (t : Cl), l[k]? = some t → (l.flatMap clC)[k * 5]? = some (.int .i64 t.kind) ∧ (l.flatMap clC)[k * 5 + 1]? = some (.int .i64 t.office) ∧ (l.flatMap clC)[k * 5 + 2]? = some (.int .i64 t.fr) ∧ (l.flatMap clC)[k * 5 + 3]? = some (.int .i64 t.til) ∧ (l.flatMap clC)[k * 5 + 4]? = some (.int .i64 t.dec)
  | [], k, t, h => by simp at h
  | u :: l, 0, t, h => by
    obtain rfl : u = t := by simpa using h
    exact ⟨rfl, rfl, rfl, rfl, rfl⟩
  | u :: l, k + 1, t, h => by
    have := clC_at l k t (by simpa using h)
    have e : (u :: l).flatMap clC = .int .i64 u.kind :: .int .i64 u.office :: .int .i64 u.fr :: .int .i64 u.til :: .int .i64 u.dec :: l.flatMap clC := rfl
    rw [e, show (k + 1) * 5 = k * 5 + 1 + 1 + 1 + 1 + 1 by omega]
    simpa using this
theorem SC.below {w w' : World} {A : Option Addr} {l : List Cl} (h : SC w A l) (hb : Below w.heap.size w w') : SC w' A l := SL.below h hb
theorem SC.get {w : World} {A : Option Addr} {l : List Cl} {k : Nat} (h : SC w A l) (hk : k < l.length) : ∃ b o t, A = some ⟨b, o, none⟩ ∧ w.cell? ⟨b, o + k * 5, none⟩ = some (.int .i64 (Cl.kind t)) ∧ w.cell? ⟨b, o + k * 5 + 1, none⟩ = some (.int .i64 t.office) ∧ w.cell? ⟨b, o + k * 5 + 2, none⟩ = some (.int .i64 t.fr) ∧ w.cell? ⟨b, o + k * 5 + 3, none⟩ = some (.int .i64 t.til) ∧ w.cell? ⟨b, o + k * 5 + 4, none⟩ = some (.int .i64 t.dec) ∧ Hid (l[k]? = some t) := by
  obtain ⟨h1, h2, h3, h4, h5⟩ := clC_at l k _ (List.getElem?_eq_getElem hk)
  obtain ⟨b, o, e, _, c1⟩ := h _ _ h1
  subst e
  have c2 := SL.two h h1 h2
  have c3 := SL.two h h1 h3
  have c4 := SL.two h h1 h4
  have c5 := SL.two h h1 h5
  rw [← Nat.add_assoc] at c2 c3 c4 c5
  exact ⟨b, o, _, rfl, c1, c2, c3, c4, c5, Lib.hid (List.getElem?_eq_getElem hk)⟩
/-- The error of a claim of an office. -/
def clW (o : Int) (l : List Cl) (i : Nat) : Int := match l[i]? with
  | some c => if clE c ≠ 0 ∨ c.office ≠ o then 1 else 0
  | none => 0
/-- A stroke. -/
structure Sk where
  ax : Int
  ay : Int
  bx : Int
  by_ : Int
  cl : List Cl
/-- The error of a stroke. -/
def skE (o : Int) (s : Sk) : Int := if ptE s.ax s.ay ≠ 0 ∨ ptE s.bx s.by_ ≠ 0 then 5 else if s.ax = s.bx ∧ s.ay = s.by_ then 1 else if 64 < s.cl.length then 4 else eachE (clW o s.cl) s.cl.length

set_option linter.unusedSimpArgs false in
set_option maxHeartbeats 4000000 in
set_option maxRecDepth 100000 in
theorem refStroke_any (ax ay bx by_ o : Int) (C : Option Addr) (c : Nat) (cl : List Cl) (w : World) (hC : SC w C cl) (hl : cl.length ≤ 1099511627776) :
    Calls Tryz.prog 140 #[.agg #[.int .i64 ax, .int .i64 ay, .int .i64 bx, .int .i64 by_, .slice C cl.length c], .int .i64 o] w fun e w' => e = .returned (.int .i64 (skE o ⟨ax, ay, bx, by_, cl⟩)) ∧ Below w.heap.size w w' := by
  obtain ⟨S, hSz⟩ : ∃ S, Hid (w.heap.size = S) := ⟨_, Lib.hid rfl⟩
  obtain ⟨R, hR⟩ : ∃ z, Hid (skE o ⟨ax, ay, bx, by_, cl⟩ = z) := ⟨_, Lib.hid rfl⟩
  rw [hR.out]
  have HC := Lib.hid (fun (W : World) (hW : Below S w W) => (show SC W C cl from hC.below (hSz.out.symm ▸ hW)))
  have hb0 : Below S w (w.alloc (.cells #[.int .i64 ax, .int .i64 ay, .int .i64 bx, .int .i64 by_, .slice C cl.length c] 62)) := hSz.out ▸ (Below.refl _ _).alloc (Nat.le_refl _) _
  have hbk : Bk (w.alloc (.cells #[.int .i64 ax, .int .i64 ay, .int .i64 bx, .int .i64 by_, .slice C cl.length c] 62)) S 62 #[.int .i64 ax, .int .i64 ay, .int .i64 bx, .int .i64 by_, .slice C cl.length c] := Bk.new' _ _ _ hSz.out
  clear hC
  go_enter Tryz.func140, Tryz.ntmps140
  go_upto_region 1 with fail
  rw [hSz.out]
  generalize w.alloc (.cells #[.int .i64 ax, .int .i64 ay, .int .i64 bx, .int .i64 by_, .slice C cl.length c] 62) = W0 at *
  have Hb0 := Lib.hid hb0
  have Hk0 := Lib.hid hbk
  have k0 : W0.cell? ⟨S, 0, none⟩ = some (.int .i64 ax) := hbk.cell 0
  have k1 : W0.cell? ⟨S, 1, none⟩ = some (.int .i64 ay) := hbk.cell 1
  have hz0 : S ≤ W0.heap.size := by have := hbk.lt; omega
  clear hb0 hbk
  by_cases e1 : ptE ax ay = 0
  · have b1 : (ptE ax ay != 0) = false := by simp [e1]
    go_wp2_with fail
    refine (refGood_any ax ay W0).mono ?_
    rintro e w1 ⟨rfl, hb1⟩
    have Hb1 := Lib.hid (Hb0.out.trans (hb1.mono hz0))
    have Hk1 := Lib.hid (Hk0.out.below hb1 Hk0.out.lt)
    have k2 : w1.cell? ⟨S, 2, none⟩ = some (.int .i64 bx) := Hk1.out.cell 2
    have k3 : w1.cell? ⟨S, 3, none⟩ = some (.int .i64 by_) := Hk1.out.cell 3
    have hz1 : S ≤ w1.heap.size := Nat.le_trans hz0 hb1.size
    clear hb1 Hb0 Hk0 k0 k1
    by_cases e2 : ptE bx by_ = 0
    · have b2 : (ptE bx by_ != 0) = false := by simp [e2]
      go_wp2_with fail
      refine (refGood_any bx by_ w1).mono ?_
      rintro e w2 ⟨rfl, hb2⟩
      have Hb2 := Lib.hid (Hb1.out.trans (hb2.mono hz1))
      have Hk2 := Lib.hid (Hk1.out.below hb2 Hk1.out.lt)
      have k0 : w2.cell? ⟨S, 0, none⟩ = some (.int .i64 ax) := Hk2.out.cell 0
      have k1 : w2.cell? ⟨S, 1, none⟩ = some (.int .i64 ay) := Hk2.out.cell 1
      have k2 : w2.cell? ⟨S, 2, none⟩ = some (.int .i64 bx) := Hk2.out.cell 2
      have k3 : w2.cell? ⟨S, 3, none⟩ = some (.int .i64 by_) := Hk2.out.cell 3
      have k4 : w2.cell? ⟨S, 4, none⟩ = some (.slice C cl.length c) := Hk2.out.cell 4
      have hz2 : S ≤ w2.heap.size := Nat.le_trans hz1 hb2.size
      clear hb2 Hb1 Hk1
      have heq := eql_point ax ay bx by_
      by_cases e3 : ax = bx ∧ ay = by_
      · have b3 : (ax == bx && ay == by_) = true := by simp [e3]
        rw [b3] at heq
        have hr := Lib.hid (show R = 1 from by rw [← hR.out, skE, if_neg (by simp [e1, e2]), if_pos e3])
        clear e1 e2 e3
        go_wp2_with fail
        go_ret
        exact ⟨by rw [hr.out]; rfl, hSz.out ▸ Hb2.out⟩
      · have b3 : (ax == bx && ay == by_) = false := by
          cases hx : (ax == bx && ay == by_) with
          | false => rfl
          | true => exact absurd (by simpa using hx) e3
        rw [b3] at heq
        by_cases e4 : 64 < cl.length
        · have hr := Lib.hid (show R = 4 from by rw [← hR.out, skE, if_neg (by simp [e1, e2]), if_neg e3, if_pos e4])
          have e5 : (64 : Int) < (cl.length : Int) := by omega
          clear e1 e2 e3
          go_wp2_with fail
          go_ret
          exact ⟨by rw [hr.out]; rfl, hSz.out ▸ Hb2.out⟩
        · have hr := Lib.hid (show eachE (clW o cl) cl.length = R from by rw [← hR.out, skE, if_neg (by simp [e1, e2]), if_neg e3, if_neg e4])
          have e5 : ¬ (64 : Int) < (cl.length : Int) := by omega
          clear e1 e2 e3 hR
          go_wp2_with fail
          clear k0 k1 k2 k3 k4 heq
          go_loopw [5] (fun v wr => ∃ k : Nat, k ≤ cl.length ∧ v = .int .i64 k ∧ Hid (orE (((List.range cl.length).map (clW o cl)).drop k) = R) ∧ Below w2.heap.size w2 wr) (fun v _ => cl.length - (intOf v).toNat)
          case atStart => exact ⟨0, by omega, rfl, Lib.hid (by rw [List.drop_zero]; exact hr.out), Below.refl _ _⟩
          case round =>
            obtain ⟨k, hk, rfl, hd, hb⟩ := hrel
            have HB := Lib.hid (Hb2.out.trans (hb.mono hz2))
            have hKr := Hk2.out.below hb Hk2.out.lt
            have k4 : wr.cell? ⟨S, 4, none⟩ = some (.slice C cl.length c) := hKr.cell 4
            have HK := Lib.hid hKr
            have Hbr := Lib.hid hb
            clear hKr hb
            by_cases hlt : k < cl.length
            · obtain ⟨bC, oC, t, rfl, c0, c1, c2, c3, c4, hx⟩ := (HC.out _ HB.out).get (k := k) hlt
              have k0 : (0 : Int) ≤ (k : Int) := by omega
              have hd2 := hd.out
              rw [eachE_drop hlt] at hd2
              have hcw : clW o cl k = if clE t ≠ 0 ∨ t.office ≠ o then 1 else 0 := by rw [clW, hx.out]
              rw [hcw] at hd2
              clear hd hcw hx
              go_wp2_with fail
              refine (refClaim_any t wr).mono ?_
              rintro e w3 ⟨rfl, hb3⟩
              have Hb3 := Lib.hid (Hbr.out.trans (hb3.mono Hbr.out.size))
              have k4 : w3.cell? ⟨S, 4, none⟩ = some (.slice (some ⟨bC, oC, none⟩) cl.length c) := (HK.out.below hb3 HK.out.lt).cell 4
              have c1 : w3.cell? ⟨bC, oC + k * 5 + 1, none⟩ = some (.int .i64 t.office) := cell_far c1 hb3
              have Hb4 := Lib.hid (HB.out.trans (hb3.mono (by have := HB.out.size; have := hSz.out; omega)))
              clear hb3 Hbr HB HK
              by_cases f1 : clE t = 0
              · have g1 : (clE t != 0) = false := by simp [f1]
                by_cases f2 : t.office = o
                · have g2 : (t.office != o) = false := by simp [f2]
                  rw [if_neg (show ¬ (clE t ≠ 0 ∨ t.office ≠ o) by simp [f1, f2]), if_neg (by simp)] at hd2
                  have Hd2 := Lib.hid hd2
                  clear hd2 f1 f2
                  go_wp2_with fail
                  go_roundw
                  case rel => exact ⟨k + 1, by omega, by go_num, Hd2, Hb3.out⟩
                  case measure => simp [intOf]; omega
                · have g2 : (t.office != o) = true := by simp [f2]
                  rw [if_pos (show clE t ≠ 0 ∨ t.office ≠ o from .inr f2), if_pos (by simp)] at hd2
                  have Hd2 := Lib.hid hd2
                  clear hd2 f1 f2
                  go_wp2_with fail
                  go_ret
                  exact ⟨by rw [← Hd2.out]; rfl, hSz.out ▸ Hb4.out⟩
              · have g1 : (clE t != 0) = true := by simp [f1]
                rw [if_pos (show clE t ≠ 0 ∨ t.office ≠ o from .inl f1), if_pos (by simp)] at hd2
                have Hd2 := Lib.hid hd2
                clear hd2 f1
                go_wp2_with fail
                go_ret
                exact ⟨by rw [← Hd2.out]; rfl, hSz.out ▸ Hb4.out⟩
            · have hR2 := Lib.hid (show R = 0 from by rw [← hd.out, List.drop_eq_nil_of_le (by simp; omega)]; rfl)
              clear hd
              go_wp2_with fail
              go_ret
              exact ⟨by rw [hR2.out]; rfl, hSz.out ▸ HB.out⟩
    · have b2 : (ptE bx by_ != 0) = true := by simp [e2]
      have hr := Lib.hid (show R = 5 from by rw [← hR.out, skE, if_pos (.inr e2)])
      go_wp2_with fail
      refine (refGood_any bx by_ w1).mono ?_
      rintro e w2 ⟨rfl, hb2⟩
      have Hb2 := Lib.hid (Hb1.out.trans (hb2.mono hz1))
      clear hb2
      go_wp2_with fail
      go_ret
      exact ⟨by rw [hr.out]; rfl, hSz.out ▸ Hb2.out⟩
  · have b1 : (ptE ax ay != 0) = true := by simp [e1]
    have hr := Lib.hid (show R = 5 from by rw [← hR.out, skE, if_pos (.inl e1)])
    go_wp2_with fail
    refine (refGood_any ax ay W0).mono ?_
    rintro e w1 ⟨rfl, hb1⟩
    have Hb1 := Lib.hid (Hb0.out.trans (hb1.mono hz0))
    clear hb1
    go_wp2_with fail
    go_ret
    exact ⟨by rw [hr.out]; rfl, hSz.out ▸ Hb1.out⟩
end Go.Proofs.YtnapnkmehnabfaaGreat
