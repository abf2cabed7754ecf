import Derived.Test.YtgeciimakjfnfaaC28
namespace Go.Proofs.Ytgeciimakjfnfaa
open Go.RowKit Go.Maps

theorem cC_put5 : ∀ (l : List Cl) (k : Nat) (q : Cl), k < l.length → ((((((l.flatMap clC).set (k * 5) (.int .i64 q.kind)).set (k * 5 + 1) (.int .i64 q.office)).set (k * 5 + 2) (.int .i64 q.fr)).set (k * 5 + 3) (.int .i64 q.til)).set (k * 5 + 4) (.int .i64 q.dec)) = (l.set k q).flatMap clC
  | [], k, q, h => by simp at h
  | t :: l, 0, q, h => rfl
  | t :: l, k + 1, q, h => by
    have ih := cC_put5 l k q (by simpa using h)
    have e : (t :: l).flatMap clC = .int .i64 t.kind :: .int .i64 t.office :: .int .i64 t.fr :: .int .i64 t.til :: .int .i64 t.dec :: l.flatMap clC := rfl
    have e2 : ((t :: l).set (k + 1) q).flatMap clC = .int .i64 t.kind :: .int .i64 t.office :: .int .i64 t.fr :: .int .i64 t.til :: .int .i64 t.dec :: (l.set k q).flatMap clC := rfl
    rw [e, e2, ← ih, show (k + 1) * 5 = k * 5 + 1 + 1 + 1 + 1 + 1 by omega, show k * 5 + 1 + 1 + 1 + 1 + 1 + 1 = k * 5 + 1 + 1 + 1 + 1 + 1 + 1 by rfl]
    simp only [List.set_cons_succ, show k * 5 + 1 + 1 + 1 + 1 + 1 + 2 = k * 5 + 2 + 1 + 1 + 1 + 1 + 1 by omega, show k * 5 + 1 + 1 + 1 + 1 + 1 + 3 = k * 5 + 3 + 1 + 1 + 1 + 1 + 1 by omega, show k * 5 + 1 + 1 + 1 + 1 + 1 + 4 = k * 5 + 4 + 1 + 1 + 1 + 1 + 1 by omega]
set_option linter.unusedSimpArgs false in
set_option maxHeartbeats 4000000 in
set_option maxRecDepth 100000 in
theorem lists_any (A : Option Addr) (ca : Nat) (l : List Int) (B : Option Addr) (cb : Nat) (m : List Int) (at_ how by_ : Int) (w : World) (hA : SI w A l) (hzl : W64 l) (hll : l.length ≤ 9223372036854775807) (hB : SI w B m) (hzm : W64 m) (hlm : m.length ≤ 9223372036854775807) (ha : i64 at_) (hh : i64 how) (hb : i64 by_) :
    Calls Try.prog 19 #[.slice A l.length ca, .slice B m.length cb, .int .i64 at_, .int .i64 how, .int .i64 by_] w fun e w' => ∃ b : Nat, e = .returned (.slice (some ⟨b, 0, none⟩) 4 4) ∧ w.heap.size ≤ b ∧ Hid (∀ i, i < 4 → ∃ X c L, w'.cell? ⟨b, i, none⟩ = some (.slice X (List.length L) c) ∧ SC w' X L ∧ L.length ≤ 100) ∧ Below w.heap.size w w' := by
  have HC := Lib.hid (claims_any A ca l 12 w hA hzl hll (by decide) (by decide))
  have HIm := Lib.hid (fun (W : World) (h : Below w.heap.size w W) => (show SI W B m from hB.below h))
  have Hzm := Lib.hid hzm
  have Hlm := Lib.hid hlm
  have Ha := Lib.hid ha
  have Hh := Lib.hid hh
  have Hb := Lib.hid hb
  have hb9 := around_bd by_ 9 (by decide)
  have H9 := Lib.hid (fun W => around_any by_ 9 W hb.1 hb.2 (by decide) (by decide))
  generalize around by_ 9 = r9 at *
  have hw9 : IntKind.i64.wrap (60 + r9) = 60 + r9 := IntWalk.i64_in _ ⟨by omega, by omega⟩
  clear hA hzl hll hB hzm hlm ha hh hb
  go_enter Try.func19, Try.ntmps19
  go_wp2_with fail
  refine HC.out.mono ?_
  rintro e w1 ⟨L1, v, rfl, hv1, hle1, hown1, hb1⟩
  obtain ⟨X1, c1, rfl⟩ := own_slice hown1
  have hl1 : L1.length ≤ 12 := by omega
  have HB1 := Lib.hid hb1
  have HA1 := Lib.hid (SC.own hown1)
  have HA2 := Lib.hid (show SC (w1.alloc (.cells #[] 24)) X1 L1 from SL.alloc (SC.own hown1) _)
  have Hv := Lib.hid (own_void8 (base := w1.heap.size) (size := 5) (Bk.new w1 24 #[]) (Nat.le_refl _))
  have Hx := Lib.hid ((Below.refl w1.heap.size w1).alloc (Nat.le_refl _) (.cells #[] 24))
  have hsz : w1.heap.size ≤ (w1.alloc (.cells #[] 24)).heap.size := by simp
  clear HC hown1 hb1 hv1 hle1
  go_upto_region 3 with (at_builtin; refine wpList_appM (w := w1.alloc (.cells #[] 24)) rfl _ _ rfl elt_cl Hv.out hsz rfl rfl HA2.out (cC_len L1) (cC_all L1) (by omega) ?_; intro v2 w2 hown2 hg2)
  obtain ⟨Y, cY, rfl⟩ := own_slice hown2
  have HO2 := Lib.hid (show w2.ownsRow w1.heap.size 24 5 (.slice Y L1.length cY) L1.length (L1.flatMap clC) from by have h := hown2; simp only [Nat.zero_add, List.nil_append] at h; exact h)
  have HB2 := Lib.hid (show Below w1.heap.size w1 w2 from Hx.out.grown hg2 hsz (fun k hk => by simp [Value.ownBlock] at hk; omega))
  clear hown2 hg2 Hv Hx hsz HA2
  rw [Nat.zero_add]
  by_cases hn : L1.length = 0
  · have hn0 : ¬ ((L1.length : Int) > 0) := by omega
    obtain ⟨L2, hL2⟩ : ∃ L2, L2 = L1 := ⟨_, rfl⟩
    have HSb := Lib.hid (show SC w2 Y L2 from hL2 ▸ SC.own HO2.out)
    have HSa := Lib.hid (show SC w2 X1 L1 from SC.below HA1.out HB2.out)
    have HL2 := Lib.hid (show L2.length ≤ 12 from hL2 ▸ hl1)
    have HWS := Lib.hid (HB1.out.trans (HB2.out.mono HB1.out.size))
    have hLL : L1.length = L2.length := by rw [hL2]
    clear HO2 HB2 HB1 HA1
    go_upto_region 6 with fail
    generalize w2 = wS at *
    rw [show (Value.slice Y L1.length cY) = Value.slice Y L2.length cY by rw [hLL]]
    clear hL2 hLL hn hn0
    obtain ⟨S, hS⟩ : ∃ S, Hid (wS.heap.size = S) := ⟨_, Lib.hid rfl⟩
    have HSS := Lib.hid (show Below S wS wS from Below.refl _ _)
    go_wp2_with fail
    go_loopw [14, 15] (fun o i wr => ∃ (j : Nat) (Z : List Cl) (X : Option Addr) (cX : Nat), i = .int .i64 (j : Int) ∧ (j : Int) ≤ 60 + r9 ∧ o = .slice X j cX ∧ Hid (Z.length = j) ∧ Hid (wr.ownsRow S 24 5 (.slice X j cX) j (Z.flatMap clC)) ∧ Hid (Below S wS wr) ∧ Hid (S ≤ wr.heap.size)) (fun _ i _ => (60 + r9 - intOf i).toNat)
    case atStart => exact ⟨0, [], none, 0, rfl, by omega, rfl, Lib.hid rfl, Lib.hid (World.ownsRow_nil _ _ _ _), HSS, Lib.hid (by rw [hS.out]; exact Nat.le_refl _)⟩
    case round =>
      clear HSS
      obtain ⟨jz, Z, X, cX, rfl, hj, rfl, HZl, HO, HB, HSz⟩ := hrel
      by_cases hlt : (jz : Int) < 60 + r9
      · obtain ⟨m1, hm1⟩ : ∃ z, Hid ((jz : Int) % 64 = z) := ⟨_, Lib.hid rfl⟩
        obtain ⟨m2, hm2⟩ : ∃ z, Hid ((jz : Int) / 64 = z) := ⟨_, Lib.hid rfl⟩
        have e1 : (jz : Int).tmod 64 = m1 := by rw [Int.tmod_eq_emod_of_nonneg (by omega), hm1.out]
        have e2 : (jz : Int).tdiv 64 = m2 := by rw [Int.tdiv_eq_ediv_of_nonneg (by omega), hm2.out]
        have g1 : IntKind.i64.wrap m1 = m1 := IntWalk.i64_in _ (by have := hm1.out; omega)
        have g2 : IntKind.i64.wrap m2 = m2 := IntWalk.i64_in _ (by have := hm2.out; omega)
        clear hm1 hm2
        go_wp2_with fail
        refine (H9.out _).mono ?_
        rintro e w5 ⟨rfl, rfl⟩
        go_wp2_with (at_builtin; refine wpList_app2 (w := wr) (us := [.int .i64 0, .int .i64 m1, .int .i64 3, .int .i64 5, .int .i64 m2]) rfl _ _ rfl elt_cl HO.out HSz.out rfl rfl (by simp) rfl rfl (by omega) ?_; intro v7 w7 hown7 hg7 hz7)
        obtain ⟨Y7, c7, rfl⟩ := own_slice hown7
        have HO7 := Lib.hid (show w7.ownsRow S 24 5 (.slice Y7 (jz + 1) c7) (jz + 1) ((Z ++ [(⟨0, m1, 3, 5, m2⟩ : Cl)]).flatMap clC) from by rw [cC_app]; exact hown7)
        have HB7 := Lib.hid (HB.out.grown hg7 HSz.out (fun q hq => (HO.out.lt q hq).1))
        have HS7 := Lib.hid (show S ≤ w7.heap.size from by have := HSz.out; omega)
        clear hown7 hg7 hz7 HO HB HSz
        go_roundw
        case rel => exact ⟨jz + 1, Z ++ [⟨0, m1, 3, 5, m2⟩], Y7, c7, by go_num, by omega, rfl, Lib.hid (by rw [List.length_append, HZl.out]; rfl), HO7, HB7, HS7⟩
        case measure => simp [intOf]; omega
      · have hj2 : (jz : Int) = 60 + r9 := by omega
        have hj3 : jz ≤ 70 := by omega
        clear hj2
        go_wp2_with fail
        refine (H9.out _).mono ?_
        rintro e w5 ⟨rfl, rfl⟩
        go_wp2_with fail
        have HBm := Lib.hid (show SI wr B m from SI.below (HIm.out wS HWS.out) (hS.out ▸ HB.out))
        refine (claims_any B cb m 3 wr HBm.out Hzm.out Hlm.out (by decide) (by decide)).mono ?_
        rintro e w8 ⟨L3, v, rfl, hv3, hle3, hown3, hb3⟩
        obtain ⟨X3, c3, rfl⟩ := own_slice hown3
        have hl3 : L3.length ≤ 3 := by omega
        have HO8 := Lib.hid (own_below HO.out hb3)
        have HC8 := Lib.hid (show SC w8 X3 L3 from SC.own hown3)
        have HB8 := Lib.hid (HB.out.trans (hb3.mono HSz.out))
        have hz8 : S ≤ w8.heap.size := by have := HSz.out; have := hb3.size; omega
        clear hown3 hb3 HO HB HSz hv3 hle3
        go_wp2_with (at_builtin; refine wpList_appM (w := w8) rfl _ _ rfl elt_cl HO8.out hz8 rfl rfl HC8.out (cC_len L3) (cC_all L3) (by omega) ?_; intro v9 w9 hown9 hg9; obtain ⟨X4, c4, rfl⟩ := own_slice hown9)
        have HO9 := Lib.hid (show w9.ownsRow S 24 5 (.slice X4 (jz + L3.length) c4) (jz + L3.length) ((Z ++ L3).flatMap clC) from by rw [cC_app]; exact hown9)
        have HB9 := Lib.hid (HB8.out.grown hg9 hz8 (fun q hq => (HO8.out.lt q hq).1))
        have hz9 : S ≤ w9.heap.size := Nat.le_trans hz8 hg9.size
        clear hown9 hg9
        refine bodyPost_ret (v := .slice (some ⟨w9.heap.size, 0, none⟩) 4 4) (by simp [results, Try.results19, go_sem]) rfl ⟨w9.heap.size, rfl, ?_, Lib.hid ?_, (HWS.out.trans ((hS.out.symm ▸ HB9.out).mono HWS.out.size)).alloc (by have := HWS.out.size; have := hS.out; omega) _⟩
        · have := HWS.out.size; have := hS.out; omega
        · have hk := Bk.new w9 38 #[.slice X1 L1.length c1, .slice Y L2.length cY, .slice X4 (jz + L3.length) c4, .slice none 0 0]
          intro i hi
          have hbb : Below wS.heap.size wS w9 := hS.out.symm ▸ HB9.out
          rcases (by omega : i = 0 ∨ i = 1 ∨ i = 2 ∨ i = 3) with rfl | rfl | rfl | rfl
          · exact ⟨X1, c1, L1, hk.cell 0, SL.alloc (SC.below HSa.out hbb) _, by omega⟩
          · exact ⟨Y, cY, L2, hk.cell 1, SL.alloc (SC.below HSb.out hbb) _, by have := HL2.out; omega⟩
          · exact ⟨X4, c4, Z ++ L3, by rw [hk.cell 2, List.length_append, HZl.out]; rfl, SL.alloc (SC.own HO9.out) _, by rw [List.length_append, HZl.out]; omega⟩
          · exact ⟨none, 0, [], hk.cell 3, SL.nil_, by simp⟩
  · have hn0 : (L1.length : Int) > 0 := by omega
    have hbd := around_bd at_ L1.length (by omega)
    have HAt := Lib.hid (fun W => around_any at_ L1.length W Ha.out.1 Ha.out.2 (by omega) (by omega))
    generalize around at_ L1.length = ra at *
    obtain ⟨j, rfl⟩ : ∃ j : Nat, ra = (j : Int) := ⟨ra.toNat, by omega⟩
    have hjl : j < L1.length := by omega
    obtain ⟨g, rfl⟩ : ∃ g, Y = some ⟨g, 0, none⟩ := by
      rcases own_form HO2.out with ⟨h1, h2⟩ | h
      · have := own_cap HO2.out
        omega
      · exact h
    obtain ⟨t, ht⟩ : ∃ t, L1[j]? = some t := ⟨_, List.getElem?_eq_getElem hjl⟩
    obtain ⟨a0, a1, a2, a3, a4, _⟩ := own_cellsC HO2.out ht
    clear ht hbd hn
    go_wp2_with fail
    refine (HAt.out _).mono ?_
    rintro e w5 ⟨rfl, rfl⟩
    clear HAt
    go_wp2_with fail
    refine (spoiltC_any t.kind t.office t.fr t.til t.dec how by_ w2 Hh.out Hb.out).mono ?_
    rintro e w3 ⟨q, rfl, hb3⟩
    clear a0 a1 a2 a3 a4
    have HO3 := Lib.hid (own_below HO2.out hb3)
    have HB3 := Lib.hid (HB2.out.trans (hb3.mono HB2.out.size))
    have hgw : w1.heap.size ≤ g := (HO3.out.lt g rfl).1
    obtain ⟨q1, q2, q3, q4, q5⟩ := q
    simp only [clV]
    obtain ⟨t3, ht3⟩ : ∃ t, L1[j]? = some t := ⟨_, List.getElem?_eq_getElem hjl⟩
    obtain ⟨a0, a1, a2, a3, a4, fz⟩ := own_cellsC HO3.out ht3
    have f0 := fz (j * 5)
    have f1 := fz (j * 5 + 1)
    have f2 := fz (j * 5 + 2)
    have f3 := fz (j * 5 + 3)
    have f4 := fz (j * 5 + 4)
    clear fz ht3 HO2 HB2 hb3
    have HOs := Lib.hid (own_put (i := j * 5 + 4) (own_put (i := j * 5 + 3) (own_put (i := j * 5 + 2) (own_put (i := j * 5 + 1) (own_put (i := j * 5) HO3.out (.int .i64 q1)) (.int .i64 q2)) (.int .i64 q3)) (.int .i64 q4)) (.int .i64 q5))
    have HBs := Lib.hid (((((HB3.out.setCell (p := ⟨g, j * 5, none⟩) hgw (.int .i64 q1)).setCell (p := ⟨g, j * 5 + 1, none⟩) hgw (.int .i64 q2)).setCell (p := ⟨g, j * 5 + 2, none⟩) hgw (.int .i64 q3)).setCell (p := ⟨g, j * 5 + 3, none⟩) hgw (.int .i64 q4)).setCell (p := ⟨g, j * 5 + 4, none⟩) hgw (.int .i64 q5))
    clear HO3 HB3 hgw
    go_upto_region 6 with fail
    clear a0 a1 a2 a3 a4 f0 f1 f2 f3 f4
    generalize ((((w3.setCell ⟨g, j * 5, none⟩ (.int .i64 q1)).setCell ⟨g, j * 5 + 1, none⟩ (.int .i64 q2)).setCell ⟨g, j * 5 + 2, none⟩ (.int .i64 q3)).setCell ⟨g, j * 5 + 3, none⟩ (.int .i64 q4)).setCell ⟨g, j * 5 + 4, none⟩ (.int .i64 q5) = wS at *
    obtain ⟨L2, hL2⟩ : ∃ L2, L2 = L1.set j ⟨q1, q2, q3, q4, q5⟩ := ⟨_, rfl⟩
    have HSb := Lib.hid (show SC wS (some ⟨g, 0, none⟩) L2 from by
      have h := SL.of_own HOs.out
      rw [cC_put5 L1 j ⟨q1, q2, q3, q4, q5⟩ hjl, ← hL2] at h
      exact h)
    have HSa := Lib.hid (show SC wS X1 L1 from SC.below HA1.out HBs.out)
    have hLL : L1.length = L2.length := by rw [hL2, List.length_set]
    have HL2 := Lib.hid (show L2.length ≤ 12 from by omega)
    have HWS := Lib.hid (HB1.out.trans (HBs.out.mono HB1.out.size))
    clear HOs HBs HB1 HA1 hL2
    rw [show (Value.slice (some ⟨g, 0, none⟩) L1.length cY) = Value.slice (some ⟨g, 0, none⟩) L2.length cY by rw [hLL]]
    clear hLL hn0 hjl
    generalize hYe : (some ⟨g, 0, none⟩ : Option Addr) = Y at *
    clear hYe
    obtain ⟨S, hS⟩ : ∃ S, Hid (wS.heap.size = S) := ⟨_, Lib.hid rfl⟩
    have HSS := Lib.hid (show Below S wS wS from Below.refl _ _)
    go_wp2_with fail
    go_loopw [14, 15] (fun o i wr => ∃ (j : Nat) (Z : List Cl) (X : Option Addr) (cX : Nat), i = .int .i64 (j : Int) ∧ (j : Int) ≤ 60 + r9 ∧ o = .slice X j cX ∧ Hid (Z.length = j) ∧ Hid (wr.ownsRow S 24 5 (.slice X j cX) j (Z.flatMap clC)) ∧ Hid (Below S wS wr) ∧ Hid (S ≤ wr.heap.size)) (fun _ i _ => (60 + r9 - intOf i).toNat)
    case atStart => exact ⟨0, [], none, 0, rfl, by omega, rfl, Lib.hid rfl, Lib.hid (World.ownsRow_nil _ _ _ _), HSS, Lib.hid (by rw [hS.out]; exact Nat.le_refl _)⟩
    case round =>
      clear HSS
      obtain ⟨jz, Z, X, cX, rfl, hj, rfl, HZl, HO, HB, HSz⟩ := hrel
      by_cases hlt : (jz : Int) < 60 + r9
      · obtain ⟨m1, hm1⟩ : ∃ z, Hid ((jz : Int) % 64 = z) := ⟨_, Lib.hid rfl⟩
        obtain ⟨m2, hm2⟩ : ∃ z, Hid ((jz : Int) / 64 = z) := ⟨_, Lib.hid rfl⟩
        have e1 : (jz : Int).tmod 64 = m1 := by rw [Int.tmod_eq_emod_of_nonneg (by omega), hm1.out]
        have e2 : (jz : Int).tdiv 64 = m2 := by rw [Int.tdiv_eq_ediv_of_nonneg (by omega), hm2.out]
        have g1 : IntKind.i64.wrap m1 = m1 := IntWalk.i64_in _ (by have := hm1.out; omega)
        have g2 : IntKind.i64.wrap m2 = m2 := IntWalk.i64_in _ (by have := hm2.out; omega)
        clear hm1 hm2
        go_wp2_with fail
        refine (H9.out _).mono ?_
        rintro e w5 ⟨rfl, rfl⟩
        go_wp2_with (at_builtin; refine wpList_app2 (w := wr) (us := [.int .i64 0, .int .i64 m1, .int .i64 3, .int .i64 5, .int .i64 m2]) rfl _ _ rfl elt_cl HO.out HSz.out rfl rfl (by simp) rfl rfl (by omega) ?_; intro v7 w7 hown7 hg7 hz7)
        obtain ⟨Y7, c7, rfl⟩ := own_slice hown7
        have HO7 := Lib.hid (show w7.ownsRow S 24 5 (.slice Y7 (jz + 1) c7) (jz + 1) ((Z ++ [(⟨0, m1, 3, 5, m2⟩ : Cl)]).flatMap clC) from by rw [cC_app]; exact hown7)
        have HB7 := Lib.hid (HB.out.grown hg7 HSz.out (fun q hq => (HO.out.lt q hq).1))
        have HS7 := Lib.hid (show S ≤ w7.heap.size from by have := HSz.out; omega)
        clear hown7 hg7 hz7 HO HB HSz
        go_roundw
        case rel => exact ⟨jz + 1, Z ++ [⟨0, m1, 3, 5, m2⟩], Y7, c7, by go_num, by omega, rfl, Lib.hid (by rw [List.length_append, HZl.out]; rfl), HO7, HB7, HS7⟩
        case measure => simp [intOf]; omega
      · have hj2 : (jz : Int) = 60 + r9 := by omega
        have hj3 : jz ≤ 70 := by omega
        clear hj2
        go_wp2_with fail
        refine (H9.out _).mono ?_
        rintro e w5 ⟨rfl, rfl⟩
        go_wp2_with fail
        have HBm := Lib.hid (show SI wr B m from SI.below (HIm.out wS HWS.out) (hS.out ▸ HB.out))
        refine (claims_any B cb m 3 wr HBm.out Hzm.out Hlm.out (by decide) (by decide)).mono ?_
        rintro e w8 ⟨L3, v, rfl, hv3, hle3, hown3, hb3⟩
        obtain ⟨X3, c3, rfl⟩ := own_slice hown3
        have hl3 : L3.length ≤ 3 := by omega
        have HO8 := Lib.hid (own_below HO.out hb3)
        have HC8 := Lib.hid (show SC w8 X3 L3 from SC.own hown3)
        have HB8 := Lib.hid (HB.out.trans (hb3.mono HSz.out))
        have hz8 : S ≤ w8.heap.size := by have := HSz.out; have := hb3.size; omega
        clear hown3 hb3 HO HB HSz hv3 hle3
        go_wp2_with (at_builtin; refine wpList_appM (w := w8) rfl _ _ rfl elt_cl HO8.out hz8 rfl rfl HC8.out (cC_len L3) (cC_all L3) (by omega) ?_; intro v9 w9 hown9 hg9; obtain ⟨X4, c4, rfl⟩ := own_slice hown9)
        have HO9 := Lib.hid (show w9.ownsRow S 24 5 (.slice X4 (jz + L3.length) c4) (jz + L3.length) ((Z ++ L3).flatMap clC) from by rw [cC_app]; exact hown9)
        have HB9 := Lib.hid (HB8.out.grown hg9 hz8 (fun q hq => (HO8.out.lt q hq).1))
        have hz9 : S ≤ w9.heap.size := Nat.le_trans hz8 hg9.size
        clear hown9 hg9
        refine bodyPost_ret (v := .slice (some ⟨w9.heap.size, 0, none⟩) 4 4) (by simp [results, Try.results19, go_sem]) rfl ⟨w9.heap.size, rfl, ?_, Lib.hid ?_, (HWS.out.trans ((hS.out.symm ▸ HB9.out).mono HWS.out.size)).alloc (by have := HWS.out.size; have := hS.out; omega) _⟩
        · have := HWS.out.size; have := hS.out; omega
        · have hk := Bk.new w9 38 #[.slice X1 L1.length c1, .slice Y L2.length cY, .slice X4 (jz + L3.length) c4, .slice none 0 0]
          intro i hi
          have hbb : Below wS.heap.size wS w9 := hS.out.symm ▸ HB9.out
          rcases (by omega : i = 0 ∨ i = 1 ∨ i = 2 ∨ i = 3) with rfl | rfl | rfl | rfl
          · exact ⟨X1, c1, L1, hk.cell 0, SL.alloc (SC.below HSa.out hbb) _, by omega⟩
          · exact ⟨Y, cY, L2, hk.cell 1, SL.alloc (SC.below HSb.out hbb) _, by have := HL2.out; omega⟩
          · exact ⟨X4, c4, Z ++ L3, by rw [hk.cell 2, List.length_append, HZl.out]; rfl, SL.alloc (SC.own HO9.out) _, by rw [List.length_append, HZl.out]; omega⟩
          · exact ⟨none, 0, [], hk.cell 3, SL.nil_, by simp⟩
end Go.Proofs.Ytgeciimakjfnfaa
