import Derived.Test.YtgeciimakjfnfaaC31
namespace Go.Proofs.Ytgeciimakjfnfaa
open Go.RowKit Go.Maps

theorem rev_snoc {L : List Cl} {k : Nat} {t : Cl} (h : L[k]? = some t) : (L.drop k).reverse = (L.drop (k + 1)).reverse ++ [t] := by
  obtain ⟨hk, e⟩ := List.getElem?_eq_some_iff.1 h
  rw [List.drop_eq_getElem_cons hk, e, List.reverse_cons]
set_option linter.unusedSimpArgs false in
set_option maxHeartbeats 4000000 in
set_option maxRecDepth 100000 in
theorem claimNormal_walk (A : Option Addr) (ca : Nat) (l : List Int) (B : Option Addr) (cb : Nat) (m : List Int) (at_ how by_ view : Int) (w : World) (hA : SI w A l) (hzl : W64 l) (hll : l.length ≤ 9223372036854775807) (hB : SI w B m) (hzm : W64 m) (hlm : m.length ≤ 9223372036854775807) (ha : i64 at_) (hh : i64 how) (hb : i64 by_) (hv : i64 view) :
    Calls Try.prog 4 #[.slice A l.length ca, .slice B m.length cb, .int .i64 at_, .int .i64 how, .int .i64 by_, .int .i64 view] w fun e w' => e = .returned (.bool true) ∧ Below w.heap.size w w' := by
  have HL := Lib.hid (lists_any A ca l B cb m at_ how by_ w hA hzl hll hB hzm hlm ha hh hb)
  have Hv := Lib.hid hv
  clear hA hzl hll hB hzm hlm ha hh hb hv
  go_enter Try.func4, Try.ntmps4
  go_wp2_with fail
  refine HL.out.mono ?_
  rintro e w1 ⟨ba, rfl, hba, hls, hb1⟩
  have HB1 := Lib.hid hb1
  clear hb1 HL hba
  go_wp2_with fail
  refine (view_any view w1 Hv.out).mono ?_
  rintro e w2 ⟨k1, B1, b1, os1, rfl, hve1, hol1, hsi1, hb⟩
  have HB6 := Lib.hid ((HB1.out.trans (hb.mono HB1.out.size)).alloc (by have := HB1.out.size; have := hb.size; omega) (.cells #[.int .i64 k1, .slice B1 os1.length b1] 28))
  have HA6 := Lib.hid ((hb).alloc hb.size (.cells #[.int .i64 k1, .slice B1 os1.length b1] 28))
  have HI1 := Lib.hid (show SI (w2.alloc (.cells #[.int .i64 k1, .slice B1 os1.length b1] 28)) B1 os1 from SL.alloc hsi1.out _)
  have HKv := Lib.hid (Bk.new w2 28 #[.int .i64 k1, .slice B1 os1.length b1])
  clear hb HB1 hsi1 Hv
  go_upto_region 3 with fail
  generalize hgv : w2.heap.size = bv at *
  have Hgv := Lib.hid hgv
  clear hgv
  generalize w2.alloc (.cells #[.int .i64 k1, .slice B1 os1.length b1] 28) = W3 at *
  have HLS := Lib.hid (show ∀ i, i < 4 → ∃ X c L, W3.cell? ⟨ba, i, none⟩ = some (.slice X (List.length L) c) ∧ SC W3 X L ∧ L.length ≤ 100 from fun i hi => by
    obtain ⟨X, c, L, h1, h2, h3⟩ := hls.out i hi
    exact ⟨X, c, L, cell_far h1 HA6.out, SC.below h2 HA6.out, h3⟩)
  have HVc := Lib.hid (fun (W : World) (h : Below W3.heap.size W3 W) => show W.cell? ⟨bv, 0, none⟩ = some (.int .i64 k1) ∧ W.cell? ⟨bv, 1, none⟩ = some (.slice B1 os1.length b1) from ⟨(HKv.out.below h HKv.out.lt).cell 0, (HKv.out.below h HKv.out.lt).cell 1⟩)
  clear hls HA6 HKv
  go_wp2_with fail
  go_loopw [15] (fun i_ wr => ∃ i : Nat, i ≤ 4 ∧ i_ = .int .i64 (i : Int) ∧ Hid (Below W3.heap.size W3 wr)) (fun i_ _ => 4 - (intOf i_).toNat)
  case atStart => exact ⟨0, by omega, rfl, Lib.hid (Below.refl _ _)⟩
  case round =>
    obtain ⟨i, hi, rfl, HX⟩ := hrel
    by_cases hlt : i < 4
    · obtain ⟨X, cX, L, hc1, hc2, hc3⟩ := HLS.out i hlt
      have hlt' : (i : Int) < 4 := by omega
      have Hc1 := Lib.hid (fun (W : World) (h : Below W3.heap.size W3 W) => show W.cell? ⟨ba, i, none⟩ = some (.slice X L.length cX) from cell_far hc1 h)
      have Hc2 := Lib.hid (fun (W : World) (h : Below W3.heap.size W3 W) => show SC W X L from SC.below hc2 h)
      have hl100 : L.length ≤ 100 := hc3
      clear hc1 hc2 hc3
      obtain ⟨R, hR⟩ : ∃ z, Hid (nrmR L = z) := ⟨_, Lib.hid rfl⟩
      obtain ⟨rn, Hrn⟩ : ∃ z, Hid (R.length = z) := ⟨_, Lib.hid rfl⟩
      obtain ⟨ne, hne⟩ : ∃ z, Hid (nrmE L = z) := ⟨_, Lib.hid rfl⟩
      have hRl : rn ≤ 100 := by
        rw [← Hrn.out, ← hR.out]
        unfold nrmR
        split
        · rename_i h0
          have := (nrm_zero h0).2.1
          omega
        · simp
      have HN1 := Lib.hid (fun (W : World) (h : Below W3.heap.size W3 W) => normal_any X cX L W (Hc2.out W h) (by omega))
      have HN2 := Lib.hid (fun (W : World) (h : Below W3.heap.size W3 W) => refNormal_any X cX L W (Hc2.out W h) (by omega))
      rw [hR.out, Hrn.out, hne.out] at HN1 HN2
      have a0 := Hc1.out wr HX.out
      go_wp2_with fail
      refine (HN1.out _ HX.out).mono ?_
      rintro e w3 ⟨v, rfl, hown, hb⟩
      obtain ⟨Y1, e1, rfl⟩ := own_slice hown
      have HX1 := Lib.hid (HX.out.trans (hb.mono HX.out.size))
      have HY1 := Lib.hid (show SC w3 Y1 R from SC.own hown)
      clear a0 hown hb HX HN1
      have a0 := Hc1.out w3 HX1.out
      go_wp2_with fail
      refine (HN2.out _ HX1.out).mono ?_
      rintro e w4 ⟨v, rfl, hown, hb⟩
      obtain ⟨Y2, e2, rfl⟩ := own_slice hown
      have HX2 := Lib.hid (HX1.out.trans (hb.mono HX1.out.size))
      have HY1b := Lib.hid (show SC w4 Y1 R from SC.below HY1.out hb)
      have HSm := Lib.hid (same_any Y1 Y2 e1 e2 R w4 HY1b.out (SC.own hown) (by rw [Hrn.out]; omega))
      rw [Hrn.out] at HSm
      clear a0 hown hb HX1 HN2 HY1
      go_wp2_with fail
      refine HSm.out.mono ?_
      rintro e w5 ⟨rfl, hq⟩
      have HX3 := Lib.hid (hq.bl HX2.out)
      have HY3 := Lib.hid (show SC w5 Y1 R from SL.qt HY1b.out hq)
      clear hq HSm HX2 HY1b
      by_cases hn0 : ne = 0
      · subst hn0
        have Hn0 := Lib.hid (show nrmE L = 0 from hne.out)
        clear hne
        have HT := nrm_turned Hn0.out
        have HTe := Lib.hid HT.1
        have HTr := Lib.hid (show nrmR (L.reverse ++ L) = R from HT.2.trans hR.out)
        have HG := nrm_again Hn0.out
        rw [hR.out] at HG
        have HGe := Lib.hid HG.1
        have HGr := Lib.hid HG.2
        clear HT HG
        have a0 := Hc1.out w5 HX3.out
        obtain ⟨S, hS⟩ : ∃ S, Hid (w5.heap.size = S) := ⟨_, Lib.hid rfl⟩
        have HSB := Lib.hid (show Below S w5 w5 from Below.refl _ _)
        have HSW := Lib.hid (fun (W : World) (h : Below S w5 W) => show Below W3.heap.size W3 W from HX3.out.trans ((hS.out.symm ▸ h).mono HX3.out.size))
        go_wp2_with fail
        clear a0
        go_loopw [20, 21] (fun o k_ wr => ∃ (z : Int) (n : Nat) (Q : Option Addr) (cQ : Nat), k_ = .int .i64 z ∧ -1 ≤ z ∧ z < L.length ∧ o = .slice Q n cQ ∧ n ≤ 100 ∧ Hid (n = L.length - (z + 1).toNat) ∧ Hid (wr.ownsRow S 24 5 (.slice Q n cQ) n ((L.drop (z + 1).toNat).reverse.flatMap clC)) ∧ Hid (Below S w5 wr) ∧ Hid (S ≤ wr.heap.size)) (fun _ k_ _ => (intOf k_ + 1).toNat)
        case atStart => exact ⟨(L.length : Int) - 1, 0, none, 0, by go_num, by omega, by omega, rfl, by omega, Lib.hid (by omega), Lib.hid (by rw [show ((L.length : Int) - 1 + 1).toNat = L.length by omega, List.drop_length]; exact World.ownsRow_nil _ _ _ _), HSB, Lib.hid (by rw [hS.out]; exact Nat.le_refl _)⟩
        case round =>
          clear HSB
          obtain ⟨z, n, Q, cQ, rfl, hz1, hz2, rfl, hn, Hn, HO, HB, HSz⟩ := hrel
          by_cases hlz : 0 ≤ z
          · obtain ⟨q, rfl⟩ : ∃ q : Nat, z = (q : Int) := ⟨z.toNat, by omega⟩
            have hlq : q < L.length := by omega
            obtain ⟨b, o_, t, hXe, c0, c1, c2, c3, c4, hi_⟩ := (Hc2.out wr (HSW.out wr HB.out)).get (k := q) hlq
            have a0 := Hc1.out wr (HSW.out wr HB.out)
            rw [hXe] at a0
            rw [hXe]
            have HRv := Lib.hid (rev_snoc hi_.out)
            have hnq : n + 1 = L.length - q := by have := Hn.out; omega
            have Hnq := Lib.hid hnq
            have hn99 : n < 100 := by omega
            have hwq : IntKind.i64.wrap ((q : Int) - 1) = (q : Int) - 1 := IntWalk.i64_in _ ⟨by omega, by omega⟩
            clear hXe hi_ hnq
            go_wp2_with (at_builtin; refine wpList_app2 (w := wr) (us := clC t) rfl _ _ rfl elt_cl HO.out HSz.out rfl rfl (by simp) rfl rfl (by omega) ?_; intro v7 w7 hown7 hg7 hz7; obtain ⟨Y7, c7, rfl⟩ := own_slice hown7)
            have HO7 := Lib.hid (show w7.ownsRow S 24 5 (.slice Y7 (n + 1) c7) (n + 1) ((L.drop q).reverse.flatMap clC) from by
              have h := hown7
              rw [show ((q : Int) + 1).toNat = q + 1 by omega] at h
              rw [HRv.out, cC_app]
              exact h)
            have HB7 := Lib.hid (HB.out.grown hg7 HSz.out (fun x hx => (HO.out.lt x hx).1))
            have HS7 := Lib.hid (show S ≤ w7.heap.size from by have := HSz.out; omega)
            clear hown7 hg7 hz7 HO HB HSz a0 c0 c1 c2 c3 c4
            go_roundw
            case rel => exact ⟨(q : Int) - 1, n + 1, Y7, c7, by go_num, by omega, by omega, rfl, by omega, Lib.hid (by have := Hnq.out; omega), Lib.hid (by rw [show ((q : Int) - 1 + 1).toNat = q by omega]; exact HO7.out), HB7, HS7⟩
            case measure => simp [intOf]
          · obtain rfl : z = -1 := by omega
            have Hnl := Lib.hid (show n = L.length from by have := Hn.out; omega)
            have HOr := Lib.hid (show wr.ownsRow S 24 5 (.slice Q n cQ) n (L.reverse.flatMap clC) from HO.out)
            have HCr := Lib.hid (show SC wr X L from Hc2.out wr (HSW.out wr HB.out))
            have a0 := Hc1.out wr (HSW.out wr HB.out)
            clear Hn HO
            go_wp2_with (at_builtin; refine wpList_appM (w := wr) rfl _ _ rfl elt_cl HOr.out HSz.out rfl rfl HCr.out (cC_len L) (cC_all L) (by omega) ?_; intro v7 w7 hown7 hg7; obtain ⟨Y7, c7, rfl⟩ := own_slice hown7)
            have HO7 := Lib.hid (show SC w7 Y7 (L.reverse ++ L) from SC.own (show w7.ownsRow S 24 5 (.slice Y7 (n + L.length) c7) (n + L.length) ((L.reverse ++ L).flatMap clC) from by rw [cC_app]; exact hown7))
            have HB7 := Lib.hid (HB.out.grown hg7 HSz.out (fun x hx => (HOr.out.lt x hx).1))
            have HN3 := Lib.hid (normal_any Y7 c7 (L.reverse ++ L) w7 HO7.out (by rw [List.length_append, List.length_reverse]; omega))
            rw [show (L.reverse ++ L).length = n + L.length from by rw [List.length_append, List.length_reverse, Hnl.out], HTe.out, HTr.out, Hrn.out] at HN3
            clear hown7 hg7 HOr HCr HB HSz a0 HO7
            refine HN3.out.mono ?_
            rintro e w8 ⟨v, rfl, hown, hb⟩
            obtain ⟨Y3, e3, rfl⟩ := own_slice hown
            have HY3c := Lib.hid (SC.own hown)
            have HB8 := Lib.hid (HB7.out.trans (hb.mono (show S ≤ w7.heap.size from by have := HB7.out.size; have := hS.out; omega)))
            have HY8 := Lib.hid (show SC w8 Y1 R from SC.below HY3.out (hS.out.symm ▸ HB8.out))
            have HN4 := Lib.hid (normal_any Y1 e1 R w8 HY8.out (by rw [Hrn.out]; omega))
            rw [Hrn.out, HGe.out, HGr.out, Hrn.out] at HN4
            clear hown hb HN3 HB7
            go_wp2_with fail
            refine HN4.out.mono ?_
            rintro e w9 ⟨v, rfl, hown, hb⟩
            obtain ⟨Y4, e4, rfl⟩ := own_slice hown
            have HY4 := Lib.hid (SC.own hown)
            have HY3d := Lib.hid (SC.below HY3c.out hb)
            have HY9 := Lib.hid (show SC w9 Y1 R from SC.below HY8.out hb)
            have HB9 := Lib.hid (HB8.out.trans (hb.mono (show S ≤ w8.heap.size from by have := HB8.out.size; have := hS.out; omega)))
            have HSm := Lib.hid (same_any Y1 Y3 e1 e3 R w9 HY9.out HY3d.out (by rw [Hrn.out]; omega))
            rw [Hrn.out] at HSm
            clear hown hb HN4 HB8 HY3c HY8
            go_wp2_with fail
            refine HSm.out.mono ?_
            rintro e wa ⟨rfl, hq⟩
            have HYa := Lib.hid (show SC wa Y1 R from SL.qt HY9.out hq)
            have HY4a := Lib.hid (show SC wa Y4 R from SL.qt HY4.out hq)
            have HBa := Lib.hid (show Below S w5 wa from hq.bl HB9.out)
            have HSn := Lib.hid (same_any Y1 Y4 e1 e4 R wa HYa.out HY4a.out (by rw [Hrn.out]; omega))
            rw [Hrn.out] at HSn
            clear hq HSm HY9 HY4 HY3d HB9
            go_wp2_with fail
            refine HSn.out.mono ?_
            rintro e W9 ⟨rfl, hq⟩
            have HYb := Lib.hid (show SC W9 Y1 R from SL.qt HYa.out hq)
            have HBb := Lib.hid (show Below S w5 W9 from hq.bl HBa.out)
            have HXb := Lib.hid (HSW.out W9 HBb.out)
            clear hq HSn HYa HY4a HBa HBb
            go_wp2_with fail
            go_loopw [26] (fun d_ wr => ∃ d : Nat, 95 ≤ d ∧ d ≤ 170 ∧ d_ = .int .i64 (d : Int) ∧ Hid (Below W9.heap.size W9 wr)) (fun d_ _ => 170 - (intOf d_).toNat)
            case atStart => exact ⟨95, by omega, by omega, rfl, Lib.hid (Below.refl _ _)⟩
            case round =>
              obtain ⟨d, hd1, hd2, rfl, HX0⟩ := hrel
              by_cases hld : d < 170
              · have hld' : (d : Int) < 170 := by omega
                have hsh := nrm_shows (k := k1) (os := os1) (d := (d : Int)) Hn0.out hve1.out (inB_true (by omega))
                rw [hR.out] at hsh
                obtain ⟨sr, hsr⟩ : ∃ z, Hid (shwR k1 os1 L (d : Int) = z) := ⟨_, Lib.hid rfl⟩
                rw [hsr.out] at hsh
                have Hs1 := Lib.hid hsh.1
                have Hs2 := Lib.hid hsh.2.1
                have Hs3 := Lib.hid hsh.2.2
                clear hsh
                have HT3 := Lib.hid (fun (W : World) (h : Below W9.heap.size W9 W) => show Below W3.heap.size W3 W from HXb.out.trans (h.mono HXb.out.size))
                have HC1 := Lib.hid (fun (W : World) (h : Below W9.heap.size W9 W) => Shows_any k1 B1 b1 os1 X cX L (d : Int) W (SI.below HI1.out (HT3.out W h)) (by have := hol1.out; omega) (Hc2.out W (HT3.out W h)) (by omega))
                rw [Hs1.out, hsr.out] at HC1
                have HC2 := Lib.hid (fun (W : World) (h : Below W9.heap.size W9 W) => Hrn.out ▸ Shows_any k1 B1 b1 os1 Y1 e1 R (d : Int) W (SI.below HI1.out (HT3.out W h)) (by have := hol1.out; omega) (SC.below HYb.out h) (by rw [Hrn.out]; omega))
                rw [Hs2.out, Hs3.out] at HC2
                have HS3 := Lib.hid (fun (W : World) (h : Below W9.heap.size W9 W) => show W.cell? ⟨bv, 0, none⟩ = some (.int .i64 k1) ∧ W.cell? ⟨bv, 1, none⟩ = some (.slice B1 os1.length b1) ∧ W.cell? ⟨ba, i, none⟩ = some (.slice X L.length cX) from ⟨(HVc.out W (HT3.out W h)).1, (HVc.out W (HT3.out W h)).2, Hc1.out W (HT3.out W h)⟩)
                have HV9 := Lib.hid (fun (W : World) (h : Below W9.heap.size W9 W) => HVc.out W (HT3.out W h))
                clear Hs1 Hs2 Hs3 hsr
                go_upto_region 23 with fail
                generalize wr = w0 at *
                have HX := Lib.hid HX0.out.drew
                clear HX0
                refine wp_region_noPanic ?_
                refine region_H (S := fun W => W.cell? ⟨bv, 0, none⟩ = some (.int .i64 k1) ∧ W.cell? ⟨bv, 1, none⟩ = some (.slice B1 os1.length b1) ∧ W.cell? ⟨ba, i, none⟩ = some (.slice X L.length cX)) (by kernel_rfl) ?_
                change wpH _ _ _ _ 12 _ _ w0.drew
                generalize w0.drew = X0 at *
                refine H_takeD (k := 0) (v := .agg #[.int .i64 k1, .slice B1 os1.length b1]) (d := some 130) rfl rfl (by decide +kernel) (fun _ _ _ h => h) (Or.inl ⟨by rfl, fun W hW => by obtain ⟨s0, s1, s2⟩ := hW; go_simp⟩) (HS3.out _ HX.out) ?_
                try simp only [Act.put, List.setIfInBounds_toArray, List.set_cons_zero, List.set_cons_succ]
                refine H_takeD (k := 1) (v := .slice (some ⟨ba, 0, none⟩) 4 4) (d := some 131) rfl rfl (by decide +kernel) (fun _ _ _ h => h) (Or.inl ⟨by rfl, fun W hW => by obtain ⟨s0, s1, s2⟩ := hW; go_simp⟩) (HS3.out _ HX.out) ?_
                try simp only [Act.put, List.setIfInBounds_toArray, List.set_cons_zero, List.set_cons_succ]
                refine H_takeD (k := 2) (v := .int .i64 (i : Int)) (d := some 132) rfl rfl (by decide +kernel) (fun _ _ _ h => h) (Or.inl ⟨by rfl, fun W hW => by obtain ⟨s0, s1, s2⟩ := hW; go_simp⟩) (HS3.out _ HX.out) ?_
                try simp only [Act.put, List.setIfInBounds_toArray, List.set_cons_zero, List.set_cons_succ]
                refine H_takeD (k := 3) (v := .pointer (some ⟨ba, i, none⟩)) (d := some 133) rfl rfl (by decide +kernel) (fun _ _ _ h => h) (Or.inl ⟨by rfl, fun W hW => by obtain ⟨s0, s1, s2⟩ := hW; go_simp⟩) (HS3.out _ HX.out) ?_
                try simp only [Act.put, List.setIfInBounds_toArray, List.set_cons_zero, List.set_cons_succ]
                refine H_takeD (k := 4) (v := .slice X L.length cX) (d := some 134) rfl rfl (by decide +kernel) (fun _ _ _ h => h) (Or.inl ⟨by rfl, fun W hW => by obtain ⟨s0, s1, s2⟩ := hW; go_simp⟩) (HS3.out _ HX.out) ?_
                try simp only [Act.put, List.setIfInBounds_toArray, List.set_cons_zero, List.set_cons_succ]
                refine H_takeD (k := 5) (v := .int .i64 (d : Int)) (d := some 135) rfl rfl (by decide +kernel) (fun _ _ _ h => h) (Or.inl ⟨by rfl, fun W hW => by obtain ⟨s0, s1, s2⟩ := hW; go_simp⟩) (HS3.out _ HX.out) ?_
                try simp only [Act.put, List.setIfInBounds_toArray, List.set_cons_zero, List.set_cons_succ]
                refine H_one (i := 6) (by decide +kernel) (H_step rfl rfl (fun K hK6 => ?_))
                have hK6 := Lib.hid hK6
                go_simp
                go_at_call 23
                refine (HC1.out _ HX.out).mono ?_
                rintro e wy ⟨rfl, hb_⟩
                have HX2 := Lib.hid (HX.out.trans (hb_.mono HX.out.size))
                have hb2 := HS3.out _ HX2.out
                clear hb_ HX
                have HX := HX2
                clear HX2
                refine hK6.out _ _ hb2 ?_
                try simp only [Act.put, List.setIfInBounds_toArray, List.set_cons_zero, List.set_cons_succ]
                refine H_takeD (k := 7) (v := .tuple #[.bool sr, .int .i64 0]) (d := some 129) rfl rfl (by decide +kernel) (fun _ _ _ h => h) (Or.inl ⟨by rfl, fun W hW => by obtain ⟨s0, s1, s2⟩ := hW; go_simp⟩) hb2 ?_
                try simp only [Act.put, List.setIfInBounds_toArray, List.set_cons_zero, List.set_cons_succ]
                refine H_takeD (k := 8) (v := .bool sr) (d := some 137) rfl rfl (by decide +kernel) (fun _ _ _ h => h) (Or.inl ⟨by rfl, fun W hW => by obtain ⟨s0, s1, s2⟩ := hW; go_simp⟩) hb2 ?_
                try simp only [Act.put, List.setIfInBounds_toArray, List.set_cons_zero, List.set_cons_succ]
                refine H_takeD (k := 9) (v := .int .i64 0) (d := some 138) rfl rfl (by decide +kernel) (fun _ _ _ h => h) (Or.inl ⟨by rfl, fun W hW => by obtain ⟨s0, s1, s2⟩ := hW; go_simp⟩) hb2 ?_
                try simp only [Act.put, List.setIfInBounds_toArray, List.set_cons_zero, List.set_cons_succ]
                refine H_takeD (k := 10) (v := .bool sr) (d := some 27) rfl rfl (by decide +kernel) (fun _ _ _ h => h) (Or.inl ⟨by rfl, fun W hW => by obtain ⟨s0, s1, s2⟩ := hW; go_simp⟩) hb2 ?_
                try simp only [Act.put, List.setIfInBounds_toArray, List.set_cons_zero, List.set_cons_succ]
                refine H_takeD (k := 11) (v := .int .i64 0) (d := some 28) rfl rfl (by decide +kernel) (fun _ _ _ h => h) (Or.inl ⟨by rfl, fun W hW => by obtain ⟨s0, s1, s2⟩ := hW; go_simp⟩) hb2 ?_
                try simp only [Act.put, List.setIfInBounds_toArray, List.set_cons_zero, List.set_cons_succ]
                refine H_end (by decide +kernel) (NoPanic.normal ?_)
                try simp only [Act.put, List.setIfInBounds_toArray, List.set_cons_zero, List.set_cons_succ]
                have a0 := HV9.out wy HX.out
                obtain ⟨a0, a1⟩ := a0
                clear hb2
                go_wp2_with fail
                refine (HC2.out _ HX.out).mono ?_
                rintro e wz ⟨rfl, hb⟩
                have HXn := Lib.hid (HX.out.trans (hb.mono HX.out.size))
                clear hb HX a0 a1
                go_wp2_with fail
                go_roundw
                case rel => exact ⟨d + 1, by omega, by omega, by go_num, HXn⟩
                case measure => simp [intOf]; omega
              · obtain rfl : d = 170 := by omega
                have HXe := Lib.hid (HXb.out.trans (HX0.out.mono HXb.out.size))
                go_wp2_with fail
                go_roundw
                case rel => exact ⟨i + 1, by omega, by go_num, HXe⟩
                case measure => simp [intOf]; omega
      · have hn1 : ¬ (ne = 0) := hn0
        go_wp2_with fail
        go_roundw
        case rel => exact ⟨i + 1, by omega, by go_num, HX3⟩
        case measure => simp [intOf]; omega
    · obtain rfl : i = 4 := by omega
      go_wp2_with fail
      refine (lives_any _).mono ?_
      rintro e w3 ⟨rfl, hb⟩
      have HF := Lib.hid (HB6.out.trans ((HX.out.trans (hb.mono HX.out.size)).mono HB6.out.size))
      clear hb
      go_wp2_with fail
      go_ret
      exact ⟨rfl, HF.out⟩
end Go.Proofs.Ytgeciimakjfnfaa
