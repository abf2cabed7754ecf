import Derived.Test.YtnapnkmehnabfaaGreatP13
namespace Go.Proofs.YtnapnkmehnabfaaGreat
open Go.RowKit Go.Maps

theorem orE_zero {x : Int} {l : List Int} (h : x = 0) : orE (x :: l) = orE l := by rw [orE, if_neg (by simp [h])]
theorem orE_ne {x : Int} {l : List Int} (h : x ≠ 0) : orE (x :: l) = x := by rw [orE, if_pos h]
theorem ndW_at {l : List Int} {k : Nat} {x y : Int} (hx : l[k]? = some x) (hy : l[k + 1]? = some y) : ndW l (k + 1) = if y ≤ x then 16 else 0 := by
  rw [ndW, Nat.add_sub_cancel, List.getD, List.getD, hx, hy]
  simp
def mx (x y : Int) : Int := if y > x then y else x
theorem mx_le {x y B : Int} : mx x y ≤ B ↔ x ≤ B ∧ y ≤ B := by unfold mx; split <;> omega
theorem run_max6 (ts : Array TypeId) (t : TypeId) (a b c d e f : Int) (W : World) : (Builtin.max_ ts t #[.int .i64 a, .int .i64 b, .int .i64 c, .int .i64 d, .int .i64 e, .int .i64 f]).run Tryz.prog W = .ok (.int .i64 (mx (mx (mx (mx (mx a b) c) d) e) f)) W := by
  simp [Builtin.max_, Builtin.max2, mx]
set_option linter.unusedSimpArgs false in
set_option maxHeartbeats 8000000 in
set_option maxRecDepth 100000 in
theorem refPatch_any (p : Pa) (a : Pw) (w : World) (h : PT w p a) (hl : p.needs.length ≤ 1099511627776 ∧ p.st.length ≤ 1099511627776 ∧ p.pl.length ≤ 1099511627776 ∧ p.ma.length ≤ 1099511627776 ∧ p.er.length ≤ 1099511627776 ∧ p.dr.length ≤ 1099511627776 ∧ p.rt.length ≤ 1099511627776) :
    Calls Tryz.prog 12 #[.agg (paC p a)] w fun e w' => e = .returned (.int .i64 (paE p)) ∧ Below w.heap.size w w' := by
  obtain ⟨S, hSz⟩ : ∃ S, Hid (w.heap.size = S) := ⟨_, Lib.hid rfl⟩
  obtain ⟨R, hR⟩ : ∃ z, Hid (paE p = z) := ⟨_, Lib.hid rfl⟩
  rw [hR.out]
  obtain ⟨l1, l2, l3, l4, l5, l6, l7⟩ := hl
  have HT := Lib.hid (fun (W : World) (hW : Below S w W) => h.below (hSz.out.symm ▸ hW))
  have hb0 : Below S w (w.alloc (.cells (paC p a) 34)) := hSz.out ▸ (Below.refl _ _).alloc (Nat.le_refl _) _
  have hbk : Bk (w.alloc (.cells (paC p a) 34)) S 34 (paC p a) := Bk.new' _ _ _ hSz.out
  clear h
  unfold paC at *
  go_enter Tryz.func12, Tryz.ntmps12
  go_upto_region 1 with fail
  rw [hSz.out]
  generalize w.alloc (.cells #[.int .i64 p.office, .int .i64 p.num, .slice a.n p.needs.length a.cn, .slice a.s p.st.length a.cs, .slice a.l p.pl.length a.cl, .slice a.m p.ma.length a.cm, .slice a.e p.er.length a.ce, .slice a.d p.dr.length a.cd, .slice a.r p.rt.length a.cr] 34) = W0 at *
  have Hb0 := Lib.hid hb0
  have hz0 : S ≤ W0.heap.size := by have := hbk.lt; omega
  have HSf := Lib.hid (fun (W : World) (hW : Below W0.heap.size W0 W) => hbk.below hW hbk.lt)
  have g0 : W0.cell? ⟨S, 0, none⟩ = some (.int .i64 p.office) := hbk.cell 0
  have g1 : W0.cell? ⟨S, 1, none⟩ = some (.int .i64 p.num) := hbk.cell 1
  have g2 : W0.cell? ⟨S, 2, none⟩ = some (.slice a.n p.needs.length a.cn) := hbk.cell 2
  have g3 : W0.cell? ⟨S, 3, none⟩ = some (.slice a.s p.st.length a.cs) := hbk.cell 3
  have g4 : W0.cell? ⟨S, 4, none⟩ = some (.slice a.l p.pl.length a.cl) := hbk.cell 4
  have g5 : W0.cell? ⟨S, 5, none⟩ = some (.slice a.m p.ma.length a.cm) := hbk.cell 5
  have g6 : W0.cell? ⟨S, 6, none⟩ = some (.slice a.e p.er.length a.ce) := hbk.cell 6
  have g7 : W0.cell? ⟨S, 7, none⟩ = some (.slice a.d p.dr.length a.cd) := hbk.cell 7
  have g8 : W0.cell? ⟨S, 8, none⟩ = some (.slice a.r p.rt.length a.cr) := hbk.cell 8
  clear hb0 hbk
  by_cases e1 : (0 ≤ p.office ∧ p.office ≤ 63) ∧ (0 ≤ p.num ∧ p.num ≤ 1099511627776)
  · have e1' : argE p = 0 := if_pos e1
    obtain ⟨⟨t1, t2⟩, t3, t4⟩ := e1
    have t1' : ¬ p.office < 0 := by omega
    have t2' : ¬ 63 < p.office := by omega
    have t3' : ¬ p.num < 0 := by omega
    have t4' : ¬ 1099511627776 < p.num := by omega
    by_cases e2 : p.needs.length ≤ 64
    · have t5 : ¬ (64 : Int) < (p.needs.length : Int) := by omega
      have hm6 := fun (ts : Array TypeId) (t : TypeId) (W : World) => run_max6 ts t (p.st.length : Int) (p.pl.length : Int) (p.ma.length : Int) (p.er.length : Int) (p.dr.length : Int) (p.rt.length : Int) W
      obtain ⟨m, hm⟩ : ∃ z, Hid (mx (mx (mx (mx (mx (p.st.length : Int) (p.pl.length : Int)) (p.ma.length : Int)) (p.er.length : Int)) (p.dr.length : Int)) (p.rt.length : Int) = z) := ⟨_, Lib.hid rfl⟩
      rw [hm.out] at hm6
      by_cases e3 : m ≤ 4096
      · have t6 : ¬ (4096 : Int) < m := by omega
        have e2' : limE p = 0 := by
          rw [← hm.out, mx_le, mx_le, mx_le, mx_le, mx_le] at e3
          exact if_pos (by omega)
        have hr := Lib.hid (show orE [eachE (ndW p.needs) p.needs.length, eachE (skW p.office p.st) p.st.length, eachE (plW p.office p.pl) p.pl.length, eachE (mkW p.office p.needs p.ma) p.ma.length, eachE (idE p.needs p.er) p.er.length, eachE (idE p.needs p.dr) p.dr.length, eachE (rtW p.rt) p.rt.length] = R from by
          rw [← hR.out, paE, paL, orE_zero e1', orE_zero e2'])
        clear e1' e2' hR hm
        go_wp2_with fail
        clear g0 g1 g2 g3 g4 g5 g6 g7 g8 t1' t2' t3' t4' t5 t6 hm6
        go_loopw [3] (fun v wr => ∃ k : Nat, k ≤ p.needs.length ∧ v = .int .i64 (k + 1 : Nat) ∧ Hid (orE (((List.range p.needs.length).map (ndW p.needs)).drop (k + 1)) = eachE (ndW p.needs) p.needs.length) ∧ Below W0.heap.size W0 wr) (fun v _ => p.needs.length + 1 - (intOf v).toNat)
        case atStart => exact ⟨0, by omega, rfl, Lib.hid (by
          cases hn : p.needs with
          | nil => rfl
          | cons x l => rw [eachE, List.length_cons, List.range_succ_eq_map, List.map_cons, List.drop_succ_cons, List.drop_zero, orE_zero (by simp [ndW])]), Below.refl _ _⟩
        case round =>
          obtain ⟨k, hk, rfl, hd, hb⟩ := hrel
          have k0 : (0 : Int) ≤ (k : Int) := by omega
          have g2 : wr.cell? ⟨S, 2, none⟩ = some (.slice a.n p.needs.length a.cn) := (HSf.out _ hb).cell 2
          by_cases hlt : k + 1 < p.needs.length
          · obtain ⟨bN, oN, x, hae, c0, hx⟩ := (HT.out _ (Hb0.out.trans (hb.mono hz0))).n.get (k := k) (by omega)
            obtain ⟨b2, o2, y, he, c1, hy⟩ := (HT.out _ (Hb0.out.trans (hb.mono hz0))).n.get (k := k + 1) hlt
            rw [hae] at he
            injection he with he
            injection he with he1 he2
            subst he1 he2
            rw [hae] at g2
            have hd2 := hd.out
            rw [eachE_drop hlt, ndW_at hx.out hy.out] at hd2
            have Hd2 := Lib.hid hd2
            have Hb := Lib.hid hb
            clear hd hd2 hx hy hb hae
            have hw : IntKind.i64.wrap ((k : Int) + 1 - 1) = (k : Int) := by rw [IntWalk.i64_in _ (by omega)]; omega
            by_cases hyx : y ≤ x
            · rw [if_pos hyx] at Hd2
              have hr2 := Lib.hid (show R = 16 from by
                have h := Hd2.out
                rw [if_pos (by decide)] at h
                rw [← hr.out, orE_ne (by rw [← h]; decide), ← h])
              clear Hd2
              go_wp2_with fail
              go_quiet (fail)
              go_wp2_with fail
              go_ret
              exact ⟨by rw [hr2.out]; rfl, hSz.out ▸ Hb0.out.trans ((below_drewN Hb.out _).mono hz0)⟩
            · rw [if_neg hyx] at Hd2
              have Hd3 := Lib.hid (show orE (((List.range p.needs.length).map (ndW p.needs)).drop (k + 1 + 1)) = eachE (ndW p.needs) p.needs.length from by have h := Hd2.out; rw [if_neg (by simp)] at h; exact h)
              clear Hd2
              go_wp2_with fail
              go_quiet (fail)
              go_wp2_with fail
              go_roundw
              case rel => exact ⟨k + 1, by omega, by go_num, Hd3, below_drewN Hb.out _⟩
              case measure => simp [intOf]; omega
          · have hnd : eachE (ndW p.needs) p.needs.length = 0 := by rw [← hd.out, List.drop_eq_nil_of_le (by simp; omega)]; rfl
            have hr2 := Lib.hid (show orE [eachE (skW p.office p.st) p.st.length, eachE (plW p.office p.pl) p.pl.length, eachE (mkW p.office p.needs p.ma) p.ma.length, eachE (idE p.needs p.er) p.er.length, eachE (idE p.needs p.dr) p.dr.length, eachE (rtW p.rt) p.rt.length] = R from by rw [← hr.out, orE_zero hnd])
            have Hb := Lib.hid hb
            have hk9 := HSf.out _ hb
            have g0 : wr.cell? ⟨S, 0, none⟩ = some (.int .i64 p.office) := hk9.cell 0
            have g1 : wr.cell? ⟨S, 1, none⟩ = some (.int .i64 p.num) := hk9.cell 1
            have g3 : wr.cell? ⟨S, 3, none⟩ = some (.slice a.s p.st.length a.cs) := hk9.cell 3
            have g4 : wr.cell? ⟨S, 4, none⟩ = some (.slice a.l p.pl.length a.cl) := hk9.cell 4
            have g5 : wr.cell? ⟨S, 5, none⟩ = some (.slice a.m p.ma.length a.cm) := hk9.cell 5
            have g6 : wr.cell? ⟨S, 6, none⟩ = some (.slice a.e p.er.length a.ce) := hk9.cell 6
            have g7 : wr.cell? ⟨S, 7, none⟩ = some (.slice a.d p.dr.length a.cd) := hk9.cell 7
            have g8 : wr.cell? ⟨S, 8, none⟩ = some (.slice a.r p.rt.length a.cr) := hk9.cell 8
            have hT := HT.out _ (Hb0.out.trans (hb.mono hz0))
            have hz1 : S ≤ wr.heap.size := Nat.le_trans hz0 hb.size
            clear hd hb hnd hr hk9
            go_wp2_with fail
            refine (refDrawn_any p.office p.num (.slice a.n p.needs.length a.cn) (.slice a.m p.ma.length a.cm) (.slice a.e p.er.length a.ce) (.slice a.d p.dr.length a.cd) (.slice a.r p.rt.length a.cr) a.s a.l a.cs a.cl p.st p.pl wr hT.s hT.l l2 l3).mono ?_
            rintro e w1 ⟨rfl, hb1⟩
            have Hb1 := Lib.hid (Hb.out.trans (hb1.mono Hb.out.size))
            clear hb1 hT g0 g1 g2 g3 g4 g5 g6 g7 g8 Hb
            by_cases f1 : drawnE p.office p.st p.pl = 0
            · have b1 : (drawnE p.office p.st p.pl != 0) = false := by simp [f1]
              have hr := Lib.hid (show orE [eachE (mkW p.office p.needs p.ma) p.ma.length, eachE (idE p.needs p.er) p.er.length, eachE (idE p.needs p.dr) p.dr.length, eachE (rtW p.rt) p.rt.length] = R from by
                unfold drawnE at f1
                by_cases f2 : eachE (skW p.office p.st) p.st.length = 0
                · rw [if_neg (by simp [f2])] at f1
                  rw [← hr2.out, orE_zero f2, orE_zero f1]
                · rw [if_pos f2] at f1
                  exact absurd f1 f2)
              clear hr2 f1
              go_wp2_with fail
              go_loopw [5] (fun v wr => ∃ k : Nat, k ≤ p.ma.length ∧ v = .int .i64 k ∧ Hid (orE (((List.range p.ma.length).map (mkW p.office p.needs p.ma)).drop k) = eachE (mkW p.office p.needs p.ma) p.ma.length) ∧ Below W0.heap.size W0 wr) (fun v _ => p.ma.length - (intOf v).toNat)
              case atStart => exact ⟨0, by omega, rfl, Lib.hid (by rw [List.drop_zero]; rfl), Hb1.out⟩
              case round =>
                clear Hb1
                obtain ⟨k, hk, rfl, hd, hb⟩ := hrel
                have k0 : (0 : Int) ≤ (k : Int) := by omega
                have hk9 := HSf.out _ hb
                have g5 : wr.cell? ⟨S, 5, none⟩ = some (.slice a.m p.ma.length a.cm) := hk9.cell 5
                have Hb := Lib.hid hb
                by_cases hlt : k < p.ma.length
                · obtain ⟨bM, oM, t, hae, c0, c1, c2, c3, c4, c5, c6, hx⟩ := (HT.out _ (Hb0.out.trans (hb.mono hz0))).m.get (k := k) hlt
                  rw [hae] at g5
                  have hb2 := hb.alloc hb.size (.cells #[.int .u64 t.p, .int .i64 t.i, .int .i64 t.c.kind, .int .i64 t.c.office, .int .i64 t.c.fr, .int .i64 t.c.til, .int .i64 t.c.dec] 88)
                  have hbk := Bk.new wr 88 #[.int .u64 t.p, .int .i64 t.i, .int .i64 t.c.kind, .int .i64 t.c.office, .int .i64 t.c.fr, .int .i64 t.c.til, .int .i64 t.c.dec]
                  have hk8 := HSf.out _ hb2
                  have g2 : (wr.alloc (.cells #[.int .u64 t.p, .int .i64 t.i, .int .i64 t.c.kind, .int .i64 t.c.office, .int .i64 t.c.fr, .int .i64 t.c.til, .int .i64 t.c.dec] 88)).cell? ⟨S, 2, none⟩ = some (.slice a.n p.needs.length a.cn) := hk8.cell 2
                  have d0 : (wr.alloc (.cells #[.int .u64 t.p, .int .i64 t.i, .int .i64 t.c.kind, .int .i64 t.c.office, .int .i64 t.c.fr, .int .i64 t.c.til, .int .i64 t.c.dec] 88)).cell? ⟨wr.heap.size, 0, none⟩ = some (.int .u64 t.p) := hbk.cell 0
                  have d1 : (wr.alloc (.cells #[.int .u64 t.p, .int .i64 t.i, .int .i64 t.c.kind, .int .i64 t.c.office, .int .i64 t.c.fr, .int .i64 t.c.til, .int .i64 t.c.dec] 88)).cell? ⟨wr.heap.size, 1, none⟩ = some (.int .i64 t.i) := hbk.cell 1
                  have d2 : (wr.alloc (.cells #[.int .u64 t.p, .int .i64 t.i, .int .i64 t.c.kind, .int .i64 t.c.office, .int .i64 t.c.fr, .int .i64 t.c.til, .int .i64 t.c.dec] 88)).cell? ⟨wr.heap.size, 2, none⟩ = some (.int .i64 t.c.kind) := hbk.cell 2
                  have d3 : (wr.alloc (.cells #[.int .u64 t.p, .int .i64 t.i, .int .i64 t.c.kind, .int .i64 t.c.office, .int .i64 t.c.fr, .int .i64 t.c.til, .int .i64 t.c.dec] 88)).cell? ⟨wr.heap.size, 3, none⟩ = some (.int .i64 t.c.office) := hbk.cell 3
                  have d4 : (wr.alloc (.cells #[.int .u64 t.p, .int .i64 t.i, .int .i64 t.c.kind, .int .i64 t.c.office, .int .i64 t.c.fr, .int .i64 t.c.til, .int .i64 t.c.dec] 88)).cell? ⟨wr.heap.size, 4, none⟩ = some (.int .i64 t.c.fr) := hbk.cell 4
                  have d5 : (wr.alloc (.cells #[.int .u64 t.p, .int .i64 t.i, .int .i64 t.c.kind, .int .i64 t.c.office, .int .i64 t.c.fr, .int .i64 t.c.til, .int .i64 t.c.dec] 88)).cell? ⟨wr.heap.size, 5, none⟩ = some (.int .i64 t.c.til) := hbk.cell 5
                  have d6 : (wr.alloc (.cells #[.int .u64 t.p, .int .i64 t.i, .int .i64 t.c.kind, .int .i64 t.c.office, .int .i64 t.c.fr, .int .i64 t.c.til, .int .i64 t.c.dec] 88)).cell? ⟨wr.heap.size, 6, none⟩ = some (.int .i64 t.c.dec) := hbk.cell 6
                  have hN := needed_any a.n a.cn p.needs t.p (wr.alloc (.cells #[.int .u64 t.p, .int .i64 t.i, .int .i64 t.c.kind, .int .i64 t.c.office, .int .i64 t.c.fr, .int .i64 t.c.til, .int .i64 t.c.dec] 88)) (HT.out _ (Hb0.out.trans (hb2.mono hz0))).n l1
                  have hd2 := hd.out
                  rw [eachE_drop hlt, show mkW p.office p.needs p.ma k = if t.p ∉ p.needs then 12 else if ¬ (0 ≤ t.i ∧ t.i ≤ 4095) ∨ clE t.c ≠ 0 ∨ t.c.office ≠ p.office then 1 else 0 by rw [mkW, hx.out]] at hd2
                  have Hd2 := Lib.hid hd2
                  have Hbk := Lib.hid hbk
                  have Hb2 := Lib.hid hb2
                  clear hd hd2 hx hb hb2 hbk hk8 hk9 hae Hb
                  have hk7 : (wr.alloc (.cells #[.int .u64 t.p, .int .i64 t.i, .int .i64 t.c.kind, .int .i64 t.c.office, .int .i64 t.c.fr, .int .i64 t.c.til, .int .i64 t.c.dec] 88)).cell? ⟨S, 0, none⟩ = some (.int .i64 p.office) := (HSf.out _ Hb2.out).cell 0
                  by_cases f1 : t.p ∈ p.needs
                  · rw [decide_eq_true f1] at hN
                    have Hd3 := Lib.hid (show (if (if ¬ (0 ≤ t.i ∧ t.i ≤ 4095) ∨ clE t.c ≠ 0 ∨ t.c.office ≠ p.office then (1 : Int) else 0) ≠ 0 then (if ¬ (0 ≤ t.i ∧ t.i ≤ 4095) ∨ clE t.c ≠ 0 ∨ t.c.office ≠ p.office then (1 : Int) else 0) else orE (((List.range p.ma.length).map (mkW p.office p.needs p.ma)).drop (k + 1))) = eachE (mkW p.office p.needs p.ma) p.ma.length from by have h := Hd2.out; rw [if_neg (show ¬ t.p ∉ p.needs from fun h => h f1)] at h; exact h)
                    clear Hd2 f1
                    by_cases f2 : 0 ≤ t.i ∧ t.i ≤ 4095
                    · have q1 : ¬ t.i < 0 := by omega
                      have q2 : ¬ 4095 < t.i := by omega
                      go_wp2_with fail
                      refine hN.mono ?_
                      rintro e w2 ⟨rfl, rfl⟩
                      go_wp2_with fail
                      refine (refClaim_any t.c _).mono ?_
                      rintro e w3 ⟨rfl, hb3⟩
                      have Hb3 := Lib.hid (Hb2.out.trans (hb3.mono Hb2.out.size))
                      have d3 : w3.cell? ⟨wr.heap.size, 3, none⟩ = some (.int .i64 t.c.office) := (Hbk.out.below hb3 Hbk.out.lt).cell 3
                      have h0 : w3.cell? ⟨S, 0, none⟩ = some (.int .i64 p.office) := (HSf.out _ Hb3.out).cell 0
                      clear hb3 Hb2 Hbk d0 d1 d2 d4 d5 d6 g2 hk7 hN
                      by_cases f3 : clE t.c = 0
                      · have b3 : (clE t.c != 0) = false := by simp [f3]
                        by_cases f4 : t.c.office = p.office
                        · have b4 : (t.c.office != p.office) = false := by simp [f4]
                          have Hd4 := Lib.hid (show orE (((List.range p.ma.length).map (mkW p.office p.needs p.ma)).drop (k + 1)) = eachE (mkW p.office p.needs p.ma) p.ma.length from by
                            have h := Hd3.out
                            rw [if_neg (show ¬ (¬ (0 ≤ t.i ∧ t.i ≤ 4095) ∨ clE t.c ≠ 0 ∨ t.c.office ≠ p.office) from fun h => h.elim (fun h => h f2) (fun h => h.elim (fun h => h f3) (fun h => h f4))), if_neg (by decide)] at h
                            exact h)
                          clear Hd3 f2 f3 f4
                          go_wp2_with fail
                          go_roundw
                          case rel => exact ⟨k + 1, by omega, by go_num, Hd4, Hb3.out⟩
                          case measure => simp [intOf]; omega
                        · have b4 : (t.c.office != p.office) = true := by simp [f4]
                          have hr2 := Lib.hid (show R = 1 from by
                            have h := Hd3.out
                            rw [if_pos (show ¬ (0 ≤ t.i ∧ t.i ≤ 4095) ∨ clE t.c ≠ 0 ∨ t.c.office ≠ p.office from .inr (.inr f4)), if_pos (by decide)] at h
                            rw [← hr.out, orE_ne (by rw [← h]; decide), ← h])
                          clear Hd3 f2 f3 f4
                          go_wp2_with fail
                          go_ret
                          exact ⟨by rw [hr2.out]; rfl, hSz.out ▸ Hb0.out.trans (Hb3.out.mono hz0)⟩
                      · have b3 : (clE t.c != 0) = true := by simp [f3]
                        have hr2 := Lib.hid (show R = 1 from by
                          have h := Hd3.out
                          rw [if_pos (show ¬ (0 ≤ t.i ∧ t.i ≤ 4095) ∨ clE t.c ≠ 0 ∨ t.c.office ≠ p.office from .inr (.inl f3)), if_pos (by decide)] at h
                          rw [← hr.out, orE_ne (by rw [← h]; decide), ← h])
                        clear Hd3 f2 f3
                        go_wp2_with fail
                        go_ret
                        exact ⟨by rw [hr2.out]; rfl, hSz.out ▸ Hb0.out.trans (Hb3.out.mono hz0)⟩
                    · have hr2 := Lib.hid (show R = 1 from by
                        have h := Hd3.out
                        rw [if_pos (show ¬ (0 ≤ t.i ∧ t.i ≤ 4095) ∨ clE t.c ≠ 0 ∨ t.c.office ≠ p.office from .inl f2), if_pos (by decide)] at h
                        rw [← hr.out, orE_ne (by rw [← h]; decide), ← h])
                      have hc : t.i < 0 ∨ (¬ t.i < 0 ∧ 4095 < t.i) := by omega
                      clear Hd3 f2
                      rcases hc with q1 | ⟨q1, q2⟩
                      all_goals
                        go_wp2_with fail
                        refine hN.mono ?_
                        rintro e w2 ⟨rfl, rfl⟩
                        go_wp2_with fail
                        go_ret
                        exact ⟨by rw [hr2.out]; rfl, hSz.out ▸ Hb0.out.trans (Hb2.out.mono hz0)⟩
                  · rw [decide_eq_false f1] at hN
                    have hr2 := Lib.hid (show R = 12 from by
                      have h := Hd2.out
                      rw [if_pos f1, if_pos (by decide)] at h
                      rw [← hr.out, orE_ne (by rw [← h]; decide), ← h])
                    clear Hd2 f1
                    go_wp2_with fail
                    refine hN.mono ?_
                    rintro e w2 ⟨rfl, rfl⟩
                    go_wp2_with fail
                    go_ret
                    exact ⟨by rw [hr2.out]; rfl, hSz.out ▸ Hb0.out.trans (Hb2.out.mono hz0)⟩
                · have hmk : eachE (mkW p.office p.needs p.ma) p.ma.length = 0 := by rw [← hd.out, List.drop_eq_nil_of_le (by simp; omega)]; rfl
                  have hr2 := Lib.hid (show orE [eachE (idE p.needs p.er) p.er.length, eachE (idE p.needs p.dr) p.dr.length, eachE (rtW p.rt) p.rt.length] = R from by rw [← hr.out, orE_zero hmk])
                  have g6 : wr.cell? ⟨S, 6, none⟩ = some (.slice a.e p.er.length a.ce) := hk9.cell 6
                  have g2 : wr.cell? ⟨S, 2, none⟩ = some (.slice a.n p.needs.length a.cn) := hk9.cell 2
                  have hT := HT.out _ (Hb0.out.trans (hb.mono hz0))
                  have HU := Lib.hid (refUsed_any a.e a.n a.ce a.cn p.er p.needs wr hT.e hT.n l5 l1)
                  clear hd hb hmk hr hk9 hT
                  go_wp2_with fail
                  refine (HU.out).mono ?_
                  rintro e w2 ⟨rfl, hb2⟩
                  have Hb2 := Lib.hid (Hb.out.trans (hb2.mono Hb.out.size))
                  clear hb2 g6 g2 g5 HU Hb
                  by_cases f1 : eachE (idE p.needs p.er) p.er.length = 0
                  · have b1 : (eachE (idE p.needs p.er) p.er.length != 0) = false := by simp [f1]
                    have hr := Lib.hid (show orE [eachE (idE p.needs p.dr) p.dr.length, eachE (rtW p.rt) p.rt.length] = R from by rw [← hr2.out, orE_zero f1])
                    have hk8 := HSf.out _ Hb2.out
                    have g7 : w2.cell? ⟨S, 7, none⟩ = some (.slice a.d p.dr.length a.cd) := hk8.cell 7
                    have g2 : w2.cell? ⟨S, 2, none⟩ = some (.slice a.n p.needs.length a.cn) := hk8.cell 2
                    have hT := HT.out _ (Hb0.out.trans (Hb2.out.mono hz0))
                    have HU := Lib.hid (refUsed_any a.d a.n a.cd a.cn p.dr p.needs w2 hT.d hT.n l6 l1)
                    clear hr2 f1 hk8 hT
                    go_wp2_with fail
                    clear b1
                    refine (HU.out).mono ?_
                    rintro e w3 ⟨rfl, hb3⟩
                    have Hb3 := Lib.hid (Hb2.out.trans (hb3.mono Hb2.out.size))
                    clear hb3 g7 g2 HU Hb2
                    by_cases f1 : eachE (idE p.needs p.dr) p.dr.length = 0
                    · have b1 : (eachE (idE p.needs p.dr) p.dr.length != 0) = false := by simp [f1]
                      have hr2 := Lib.hid (show eachE (rtW p.rt) p.rt.length = R from by
                        rw [← hr.out, orE_zero f1]
                        by_cases f2 : eachE (rtW p.rt) p.rt.length = 0
                        · rw [orE_zero f2, f2]; rfl
                        · rw [orE_ne f2])
                      clear hr f1
                      go_wp2_with fail
                      clear b1
                      go_loopw [9] (fun v wr => ∃ k : Nat, k ≤ p.rt.length ∧ v = .int .i64 k ∧ Hid (orE (((List.range p.rt.length).map (rtW p.rt)).drop k) = R) ∧ Below W0.heap.size W0 wr) (fun v _ => p.rt.length - (intOf v).toNat)
                      case atStart => exact ⟨0, by omega, rfl, Lib.hid (by rw [List.drop_zero]; exact hr2.out), Hb3.out⟩
                      case round =>
                        clear Hb3 hr2
                        obtain ⟨k, hk, rfl, hd, hb⟩ := hrel
                        have k0 : (0 : Int) ≤ (k : Int) := by omega
                        have g8 : wr.cell? ⟨S, 8, none⟩ = some (.slice a.r p.rt.length a.cr) := (HSf.out _ hb).cell 8
                        have Hb := Lib.hid hb
                        by_cases hlt : k < p.rt.length
                        · obtain ⟨bM, oM, x, y, hae, c0, c1, hx⟩ := (HT.out _ (Hb0.out.trans (hb.mono hz0))).r.get (k := k) hlt
                          rw [hae] at g8
                          have Hb2 := Lib.hid (hb.alloc hb.size (.cells #[.int .i64 x, .int .i64 y] 92))
                          have hbk := Bk.new wr 92 #[.int .i64 x, .int .i64 y]
                          have d0 : (wr.alloc (.cells #[.int .i64 x, .int .i64 y] 92)).cell? ⟨wr.heap.size, 0, none⟩ = some (.int .i64 x) := hbk.cell 0
                          have d1 : (wr.alloc (.cells #[.int .i64 x, .int .i64 y] 92)).cell? ⟨wr.heap.size, 1, none⟩ = some (.int .i64 y) := hbk.cell 1
                          have hd2 := hd.out
                          rw [eachE_drop hlt, show rtW p.rt k = if (0 ≤ x ∧ x ≤ 1048576) ∧ (0 ≤ y ∧ y ≤ 73048) then 0 else 1 by rw [rtW, hx.out]] at hd2
                          have Hd2 := Lib.hid hd2
                          clear hd hd2 hx hb hbk hae Hb
                          by_cases f1 : (0 ≤ x ∧ x ≤ 1048576) ∧ (0 ≤ y ∧ y ≤ 73048)
                          · have Hd3 := Lib.hid (show orE (((List.range p.rt.length).map (rtW p.rt)).drop (k + 1)) = R from by have h := Hd2.out; rw [if_pos f1, if_neg (by decide)] at h; exact h)
                            obtain ⟨⟨q1, q2⟩, q3⟩ := f1
                            have q1' : ¬ x < 0 := by omega
                            have q2' : ¬ 1048576 < x := by omega
                            clear Hd2 q1 q2
                            go_wp2_with fail
                            refine (day_any y _).mono ?_
                            rintro e w4 ⟨rfl, rfl⟩
                            rw [inB_true q3]
                            go_wp2_with fail
                            go_roundw
                            case rel => exact ⟨k + 1, by omega, by go_num, Hd3, Hb2.out⟩
                            case measure => simp [intOf]; omega
                          · have hr := Lib.hid (show R = 1 from by have h := Hd2.out; rw [if_neg f1, if_pos (by decide)] at h; exact h.symm)
                            have hc : x < 0 ∨ (¬ x < 0 ∧ 1048576 < x) ∨ (¬ x < 0 ∧ ¬ 1048576 < x ∧ ¬ (0 ≤ y ∧ y ≤ 73048)) := by omega
                            clear Hd2 f1
                            rcases hc with q1 | ⟨q1, q2⟩ | ⟨q1, q2, q3⟩
                            · go_wp2_with fail
                              go_ret
                              exact ⟨by rw [hr.out]; rfl, hSz.out ▸ Hb0.out.trans (Hb2.out.mono hz0)⟩
                            · go_wp2_with fail
                              go_ret
                              exact ⟨by rw [hr.out]; rfl, hSz.out ▸ Hb0.out.trans (Hb2.out.mono hz0)⟩
                            · go_wp2_with fail
                              refine (day_any y _).mono ?_
                              rintro e w4 ⟨rfl, rfl⟩
                              rw [inB_false q3]
                              go_wp2_with fail
                              go_ret
                              exact ⟨by rw [hr.out]; rfl, hSz.out ▸ Hb0.out.trans (Hb2.out.mono hz0)⟩
                        · have hr := Lib.hid (show R = 0 from by rw [← hd.out, List.drop_eq_nil_of_le (by simp; omega)]; rfl)
                          clear hd hb
                          go_wp2_with fail
                          go_ret
                          exact ⟨by rw [hr.out]; rfl, hSz.out ▸ Hb0.out.trans (Hb.out.mono hz0)⟩
                    · have b1 : (eachE (idE p.needs p.dr) p.dr.length != 0) = true := by simp [f1]
                      have hr2 := Lib.hid (show R = eachE (idE p.needs p.dr) p.dr.length from by rw [← hr.out, orE_ne f1])
                      clear hr f1
                      go_wp2_with fail
                      go_ret
                      exact ⟨by rw [hr2.out]; rfl, hSz.out ▸ Hb0.out.trans (Hb3.out.mono hz0)⟩
                  · have b1 : (eachE (idE p.needs p.er) p.er.length != 0) = true := by simp [f1]
                    have hr := Lib.hid (show R = eachE (idE p.needs p.er) p.er.length from by rw [← hr2.out, orE_ne f1])
                    clear hr2 f1
                    go_wp2_with fail
                    go_ret
                    exact ⟨by rw [hr.out]; rfl, hSz.out ▸ Hb0.out.trans (Hb2.out.mono hz0)⟩
            · have b1 : (drawnE p.office p.st p.pl != 0) = true := by simp [f1]
              have hr := Lib.hid (show R = drawnE p.office p.st p.pl from by
                unfold drawnE at f1 ⊢
                by_cases f2 : eachE (skW p.office p.st) p.st.length = 0
                · rw [if_neg (by simp [f2])] at f1 ⊢
                  rw [← hr2.out, orE_zero f2, orE_ne f1]
                · rw [if_pos f2]
                  rw [← hr2.out, orE_ne f2])
              clear hr2 f1
              go_wp2_with fail
              go_ret
              exact ⟨by rw [hr.out]; rfl, hSz.out ▸ Hb0.out.trans (Hb1.out.mono hz0)⟩
      · have t6 : (4096 : Int) < m := by omega
        have hr := Lib.hid (show R = 4 from by
          have e2' : limE p = 4 := by
            refine if_neg (fun hc => e3 ?_)
            rw [← hm.out, mx_le, mx_le, mx_le, mx_le, mx_le]
            omega
          rw [← hR.out, paE, paL, orE_zero e1', orE_ne (by rw [e2']; decide), e2'])
        clear e1' hR hm
        go_wp2_with fail
        go_ret
        exact ⟨by rw [hr.out]; rfl, hSz.out ▸ Hb0.out⟩
    · have t5 : (64 : Int) < (p.needs.length : Int) := by omega
      have hr := Lib.hid (show R = 4 from by
        have e2' : limE p = 4 := if_neg (fun hc => e2 hc.1)
        rw [← hR.out, paE, paL, orE_zero e1', orE_ne (by rw [e2']; decide), e2'])
      clear e1' hR
      go_wp2_with fail
      go_ret
      exact ⟨by rw [hr.out]; rfl, hSz.out ▸ Hb0.out⟩
  · have hr := Lib.hid (show R = 1 from by rw [← hR.out, paE, paL, orE_ne (by rw [show argE p = 1 from if_neg e1]; decide), show argE p = 1 from if_neg e1])
    have hc : p.office < 0 ∨ (¬ p.office < 0 ∧ 63 < p.office) ∨ (¬ p.office < 0 ∧ ¬ 63 < p.office ∧ p.num < 0) ∨ (¬ p.office < 0 ∧ ¬ 63 < p.office ∧ ¬ p.num < 0 ∧ 1099511627776 < p.num) := by omega
    clear e1
    rcases hc with t1 | ⟨t1, t2⟩ | ⟨t1, t2, t3⟩ | ⟨t1, t2, t3, t4⟩
    all_goals
      go_wp2_with fail
      go_ret
      exact ⟨by rw [hr.out]; rfl, hSz.out ▸ Hb0.out⟩
end Go.Proofs.YtnapnkmehnabfaaGreat
