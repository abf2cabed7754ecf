import Derived.Test.YtmdgdphhedgojaaK28
import Derived.Test.YtmdgdphhedgojaaK29
import Derived.Deep.DeepCutAuto
namespace Go.Proofs.Ytmdgdphhedgojaa
open Go.RowKit Go.Maps

set_option linter.unusedSimpArgs false in
set_option maxHeartbeats 8000000 in
set_option maxRecDepth 100000 in
theorem local_walk (A B C : Option Addr) (c d f : Nat) (l k bs : List Int) (which : Int) (w : World) (hA : SI w A l) (hB : SI w B k) (hC : SI w C bs) (hwl : W64 l) (hwk : W64 k) (hwb : W64 bs) (hwh : i64 which) :
    Calls Try.prog 5 #[.slice A l.length c, .slice B k.length d, .int .i64 which, .slice C bs.length f] w fun e w' => e = .returned (.bool true) ∧ Below w.heap.size w w' := by
  obtain ⟨S, hSz⟩ : ∃ S, Hid (w.heap.size = S) := ⟨_, Lib.hid rfl⟩
  have HA := Lib.hid (fun (W : World) (hW : Below S w W) => (hA.below (hSz.out.symm ▸ hW) : SI W A l))
  have HC := Lib.hid (fun (W : World) (hW : Below S w W) => (hC.below (hSz.out.symm ▸ hW) : SI W C bs))
  have Hbz := Lib.hid (fun (W : World) (hW : Below S w W) => (show S ≤ W.heap.size by have := hW.size; have := hSz.out; omega))
  go_enter Try.func5, Try.ntmps5
  go_wp2_with fail
  refine (least_any B d k w hB hwk).mono ?_
  rintro e w1 ⟨v3, ls, rfl, hown3, hT, hb1⟩
  obtain ⟨A3, c3, rfl⟩ := own_slice hown3
  have m1 := hT.n1
  have m2 := hT.n2
  have hthr := hT.ok (by omega)
  rw [hSz.out] at hown3 hb1
  have Hls := Lib.hid hown3
  have Hb1 := Lib.hid hb1
  have Hthr := Lib.hid hthr
  clear hA hB hC hwk hT hown3 hb1 hthr
  go_wp2_with fail
  refine (new_any A3 c3 ls w1 (own_si Hls.out) (by omega)).mono ?_
  rintro e w2 ⟨hb2, hok, _⟩
  obtain ⟨p, F1, rfl, hpz, hKP, _⟩ := hok Hthr.out
  have hSp : S ≤ p := Nat.le_trans (Hbz.out _ Hb1.out) hpz
  have HK2 := Lib.hid hKP
  have Hb2 := Lib.hid (Hb1.out.trans (hb2.mono (Hbz.out _ Hb1.out)))
  have Hls := Lib.hid (own_below Hls.out hb2)
  clear hok hKP hb2 hpz
  go_wp2_with fail
  refine (some_any A c l 20 w2 (HA.out _ Hb2.out) hwl (by omega) (by omega)).mono ?_
  rintro e w3 ⟨v1, v2, ws, ns, rfl, hown1, hown2, hG, hb3⟩
  obtain ⟨A1, c1, rfl⟩ := own_slice hown1
  obtain ⟨A2, c2, rfl⟩ := own_slice hown2
  have n1 := hG.n1
  have n2 := hG.n2
  have n3 := hG.n3
  have Hv := Lib.hid (hG.ok (by omega) (by omega))
  have hz2 := Hbz.out _ Hb2.out
  have Ho1 := Lib.hid ((own_mono hown1 hz2).alloc (.cells #[.slice A1 ws.length c1, .slice A2 ns.length c2] 30))
  have Ho2 := Lib.hid ((own_mono hown2 hz2).alloc (.cells #[.slice A1 ws.length c1, .slice A2 ns.length c2] 30))
  have Hls := Lib.hid ((own_below Hls.out hb3).alloc (.cells #[.slice A1 ws.length c1, .slice A2 ns.length c2] 30))
  have HK3 := Lib.hid ((HK2.out.below hb3).below ((Below.refl _ _).alloc (Nat.le_refl _) (.cells #[.slice A1 ws.length c1, .slice A2 ns.length c2] 30)))
  have hb23 := Hb2.out.trans (hb3.mono hz2)
  have Hb3 := Lib.hid (hb23.alloc (Hbz.out _ hb23) (.cells #[.slice A1 ws.length c1, .slice A2 ns.length c2] 30))
  have Hg3 := Lib.hid (Bk.new w3 30 #[.slice A1 ws.length c1, .slice A2 ns.length c2])
  have hq0 : (w3.alloc (.cells #[.slice A1 ws.length c1, .slice A2 ns.length c2] 30)).cell? ⟨w3.heap.size, 0, none⟩ = some (.slice A1 ws.length c1) := Hg3.out.cell 0
  have hq1 : (w3.alloc (.cells #[.slice A1 ws.length c1, .slice A2 ns.length c2] 30)).cell? ⟨w3.heap.size, 1, none⟩ = some (.slice A2 ns.length c2) := Hg3.out.cell 1
  clear hown1 hown2 hb3 hb23 HK2 Hb2 Hb1 hG
  go_wp2_with fail
  clear hq0 hq1
  generalize w3.alloc (.cells #[.slice A1 ws.length c1, .slice A2 ns.length c2] 30) = V3 at *
  generalize w3.heap.size = tg at *
  refine (own_any A1 A2 c1 c2 ws.length ns.length V3).mono ?_
  rintro e w4 ⟨rfl, hb4⟩
  have Ho1 := Lib.hid (own_below Ho1.out hb4)
  have Ho2 := Lib.hid (own_below Ho2.out hb4)
  have Hls := Lib.hid (own_below Hls.out hb4)
  have HK4 := Lib.hid (HK3.out.below hb4)
  have Hg4 := Lib.hid (Hg3.out.below hb4 Hg3.out.lt)
  have Hb4 := Lib.hid (Hb3.out.trans (hb4.mono (Hbz.out _ Hb3.out)))
  clear hb4 HK3 Hg3 Hb3
  go_wp2_with fail
  refine (set_any p F1 A1 A2 c1 c2 ls [] ws [] ns 0 w4 HK4.out (HK4.out.siO Ho1.out) (HK4.out.stO Ho2.out) (by omega) (by omega) (by omega)).mono ?_
  rintro e w5 ⟨_, hok⟩
  obtain ⟨he, hg, F2, hK, _⟩ := hok Hv.out
  subst he
  have Ho1 := Lib.hid (HK4.out.own Ho1.out (by decide) hg)
  have Ho2 := Lib.hid (HK4.out.own Ho2.out (by decide) hg)
  have Hls := Lib.hid (HK4.out.own Hls.out (by decide) hg)
  have Hg5 := Lib.hid (HK4.out.bk Hg4.out (by decide) hg)
  have Hb5 := Lib.hid (far_p Hb4.out (Hbz.out _ Hb4.out) hSp hg)
  have HK5 := Lib.hid hK
  have hq0 : w5.cell? ⟨tg, 0, none⟩ = some (.slice A1 ws.length c1) := Hg5.out.cell 0
  have hq1 : w5.cell? ⟨tg, 1, none⟩ = some (.slice A2 ns.length c2) := Hg5.out.cell 1
  clear hok hg hK HK4 Hg4 Hb4
  obtain ⟨wk, hwk⟩ : ∃ z, Hid (0 + incD (newsD (partsD [] []) (partsD ws ns)) = z) := ⟨_, Lib.hid rfl⟩
  have hinc := incD_le2 (ws := []) (ns := []) Hv.out
  have hwkb : 0 ≤ wk ∧ wk ≤ 1000000000 := by rw [← hwk.out]; omega
  rw [hwk.out] at HK5
  clear hinc
  generalize (newsD (partsD [] []) (partsD ws ns)).length = many at *
  go_wp2_with fail
  clear hq0 hq1
  refine (own_any A1 A2 c1 c2 ws.length ns.length w5).mono ?_
  rintro e w6 ⟨rfl, hb6⟩
  have Ho1 := Lib.hid (own_below Ho1.out hb6)
  have Ho2 := Lib.hid (own_below Ho2.out hb6)
  have Hls := Lib.hid (own_below Hls.out hb6)
  have HK6 := Lib.hid (HK5.out.below hb6)
  have Hg6 := Lib.hid (Hg5.out.below hb6 Hg5.out.lt)
  have Hb6 := Lib.hid (Hb5.out.trans (hb6.mono (Hbz.out _ Hb5.out)))
  clear hb6 HK5 Hg5 Hb5
  go_wp2_with fail
  refine (partsX_any A1 A2 c1 c2 ws ns w6 (own_si Ho1.out) (SL.of_own Ho2.out) (by omega) (by omega)).mono ?_
  rintro e w7 ⟨hb7, hok, _⟩
  obtain ⟨DL, mL, rfl, hL⟩ := hok Hv.out
  have Ho1 := Lib.hid (own_below Ho1.out hb7)
  have Ho2 := Lib.hid (own_below Ho2.out hb7)
  have Hls := Lib.hid (own_below Hls.out hb7)
  have HK7 := Lib.hid (HK6.out.below hb7)
  have Hg7 := Lib.hid (Hg6.out.below hb7 Hg6.out.lt)
  have Hb7 := Lib.hid (Hb6.out.trans (hb7.mono (Hbz.out _ Hb6.out)))
  have HL7 := Lib.hid (fun (W : World) (hW : Below w7.heap.size w7 W) => hL W (Up.of_below hW))
  clear hok hL hb7 HK6 Hg6 Hb6
  obtain ⟨ds, hds⟩ : ∃ ds, Hid (partsD ws ns = ds) := ⟨_, Lib.hid rfl⟩
  have hfl : (facesOf (partsD ws ns)).length = ds.length := by rw [hds.out, facesOf, List.length_map]
  have hdl : ds.length ≤ 4096 := by rw [← hds.out, partsD, partsO, List.length_map]; have := rts_len (comp ns ws.length) ws.length; omega
  rw [hfl]
  by_cases h0 : ds.length = 0
  · rw [h0]
    go_wp2_with fail
    refine (lives_any _).mono ?_
    rintro e w9 ⟨rfl, hb9⟩
    go_wp2_with fail
    go_ret
    exact ⟨rfl, by rw [hSz.out]; exact Hb7.out.trans (hb9.mono (Hbz.out _ Hb7.out))⟩
  · have hd1 : (1 : Int) ≤ ds.length := by omega
    obtain ⟨hk1, hk2⟩ := around_bd which ds.length hd1
    have Har := Lib.hid (fun W => around_any which ds.length W hwh.1 hwh.2 hd1 (by omega))
    generalize around which ds.length = k' at *
    obtain ⟨kp, rfl⟩ := Int.eq_ofNat_of_zero_le hk1
    have hkl : kp < ds.length := by omega
    obtain ⟨bL, oL, BF, cF, Fl, rfl, hcF, hsF, hFl⟩ := (HL7.out w7 (Below.refl _ _)).get (k := kp) (by rw [hfl]; exact hkl)
    obtain ⟨Wl, Nl, hd, hF1, hFb⟩ : ∃ (Wl : List Int) (Nl : List (Int × Int × Int)), (partsD ws ns)[kp]? = some (Fl, Wl, Nl) ∧ Fl.length ≤ 4096 ∧ ∀ z ∈ Fl, ∃ g : Nat, z = (g : Int) ∧ g < ws.length := by
      have h1 := hFl.out
      rw [facesOf, List.getElem?_map] at h1
      cases hx : (partsD ws ns)[kp]? with
      | none => rw [hx] at h1; cases h1
      | some d =>
        obtain ⟨f0, W0, N0⟩ := d
        rw [hx] at h1
        obtain rfl : f0 = Fl := Option.some.inj h1
        obtain ⟨r, _, e1, e2, e3⟩ := partsD_at hx
        refine ⟨W0, N0, rfl, (partsD_ib Hv.out hx).2.2.2.2, fun z hz => ?_⟩
        rw [e1] at hz
        obtain ⟨g, hg, rfl⟩ := List.mem_map.1 hz
        exact ⟨g, rfl, List.mem_range.1 (List.mem_filter.1 hg).1⟩
    have HFb := Lib.hid hFb
    have HF7 := Lib.hid hsF
    have Hd := Lib.hid hd
    have Hwh := Lib.hid hwh
    have Hwb := Lib.hid hwb
    have hd0 : (0 : Int) ≤ (kp : Int) := by omega
    clear hd hsF hk1 hFb hwh hwb hFl HL7
    go_wp2_with fail
    refine (Har.out _).mono ?_
    rintro e w9 ⟨rfl, rfl⟩
    clear Har
    go_wp2_with fail
    clear hcF
    obtain ⟨W3, rfl⟩ : ∃ x, x = w7 := ⟨w7, rfl⟩
    have hz3 := Hbz.out _ Hb7.out
    go_cut [17] (fun v wx => ∃ T A4 c4 B4 d4, v = .pointer (some ⟨T, 0, none⟩) ∧ W3.heap.size ≤ T ∧ Bk wx T 36 #[.slice A4 ws.length c4, .slice B4 ns.length d4] ∧ wx.ownsRow W3.heap.size 3 1 (.slice A4 ws.length c4) ws.length (ws.map (Value.int .i64)) ∧ wx.ownsRow W3.heap.size 52 3 (.slice B4 ns.length d4) ns.length (triC ns) ∧ Below W3.heap.size W3 wx)
    case first =>
      as_aux_lemma =>
      have hBe := (Below.refl W3.heap.size W3).drew
      have HB0 := Lib.hid hBe
      have HSf := Lib.hid (fun (W : World) (hW : Below W3.heap.size W3 W) => show W.cell? ⟨tg, 0, none⟩ = some (.slice A1 ws.length c1) ∧ W.cell? ⟨tg, 1, none⟩ = some (.slice A2 ns.length c2) from ⟨(Hg7.out.below hW Hg7.out.lt).cell 0, (Hg7.out.below hW Hg7.out.lt).cell 1⟩)
      have Hsl := Lib.hid (fun (W : World) (hW : Below W3.heap.size W3 W) => show SI W A1 ws ∧ ST W A2 ns from ⟨(own_si (own_below Ho1.out hW)), SL.of_own (own_below Ho2.out hW)⟩)
      have hzW : W3.heap.size ≤ W3.drew.heap.size := Nat.le_refl _
      clear hBe
      go_wp2_with fail
      refine wp_region_noPanic ?_
      refine region_H (S := fun W => W.cell? ⟨tg, 0, none⟩ = some (.slice A1 ws.length c1) ∧ W.cell? ⟨tg, 1, none⟩ = some (.slice A2 ns.length c2)) (by kernel_rfl) ?_
      change wpH _ _ _ _ 11 _ _ W3.drew
      generalize W3.drew = X0 at *
      refine H_takeD (k := 1) (v := .pointer (some ⟨tg, 0, none⟩)) (d := some 70) rfl rfl (by decide +kernel) (fun _ _ _ h => h) (Or.inl ⟨by rfl, fun W hW => by obtain ⟨s0, s1⟩ := hW; go_simp⟩) (HSf.out _ HB0.out) ?_
      try simp only [Act.put, List.setIfInBounds_toArray, List.set_cons_zero, List.set_cons_succ]
      refine H_takeD (k := 2) (v := .slice A1 ws.length c1) (d := some 71) rfl rfl (by decide +kernel) (fun _ _ _ h => h) (Or.inl ⟨by rfl, fun W hW => by obtain ⟨s0, s1⟩ := hW; go_simp⟩) (HSf.out _ HB0.out) ?_
      try simp only [Act.put, List.setIfInBounds_toArray, List.set_cons_zero, List.set_cons_succ]
      refine H_takeD (k := 5) (v := .pointer (some ⟨tg, 1, none⟩)) (d := some 74) rfl rfl (by decide +kernel) (fun _ _ _ h => h) (Or.inl ⟨by rfl, fun W hW => by obtain ⟨s0, s1⟩ := hW; go_simp⟩) (HSf.out _ HB0.out) ?_
      try simp only [Act.put, List.setIfInBounds_toArray, List.set_cons_zero, List.set_cons_succ]
      refine H_takeD (k := 6) (v := .slice A2 ns.length c2) (d := some 75) rfl rfl (by decide +kernel) (fun _ _ _ h => h) (Or.inl ⟨by rfl, fun W hW => by obtain ⟨s0, s1⟩ := hW; go_simp⟩) (HSf.out _ HB0.out) ?_
      try simp only [Act.put, List.setIfInBounds_toArray, List.set_cons_zero, List.set_cons_succ]
      refine H_three (i := 0) (j := 4) (k := 9) (by decide +kernel) (H_step rfl rfl (fun K hK4 => ?_)) (H_step rfl rfl (fun K hK4 => ?_)) (H_step rfl rfl (fun K hK4 => ?_))
      · have hK4 := Lib.hid hK4
        have HB1 := Lib.hid (HB0.out.alloc HB0.out.size (.cells #[] 3))
        have HE1 := Lib.hid (own_void8 (base := W3.heap.size) (size := 1) (Bk.new X0 3 #[]) HB0.out.size)
        go_simp
        refine hK4.out _ _ (HSf.out _ HB1.out) ?_
        try simp only [Act.put, List.setIfInBounds_toArray, List.set_cons_zero, List.set_cons_succ]
        generalize (X0.alloc (.cells #[] 3)) = X1 at *
        refine H_three (i := 3) (j := 4) (k := 9) (by decide +kernel) (H_step rfl rfl (fun K hK5 => ?_)) (H_step rfl rfl (fun K hK5 => ?_)) (H_step rfl rfl (fun K hK5 => ?_))
        · have hK5 := Lib.hid hK5
          refine app_wpM (m := ws.length) (c := c1) (B := A1) (us := ws.map (Value.int .i64)) (.tmp 69) (.tmp 71) rfl elt_int HE1.out HB1.out.size (by simp [Act.eval]) (by simp [Act.eval]) (Hsl.out _ HB1.out).1 (by simp) (ints_all ws) (by omega) ?_
          intro v2 X2 hown2 hg2
          obtain ⟨A4, c4, rfl⟩ := own_slice hown2
          rw [Nat.zero_add, List.nil_append] at hown2
          rw [Nat.zero_add]
          have HB2 := Lib.hid (HB1.out.grown hg2 HB1.out.size (fun q hq => (HE1.out.lt q hq).1))
          have HA2 := Lib.hid hown2
          refine hK5.out _ _ (HSf.out _ HB2.out) ?_
          try simp only [Act.put, List.setIfInBounds_toArray, List.set_cons_zero, List.set_cons_succ]
          refine H_two (i := 4) (j := 9) (by decide +kernel) (H_step rfl rfl (fun K hK6 => ?_)) (H_step rfl rfl (fun K hK6 => ?_))
          · have hK6 := Lib.hid hK6
            have HB3 := Lib.hid (HB2.out.alloc HB2.out.size (.cells #[] 52))
            have HA3 := Lib.hid (HA2.out.alloc (.cells #[] 52))
            have HF3 := Lib.hid (own_void8 (base := W3.heap.size) (size := 3) (Bk.new X2 52 #[]) HB2.out.size)
            go_simp
            refine hK6.out _ _ (HSf.out _ HB3.out) ?_
            try simp only [Act.put, List.setIfInBounds_toArray, List.set_cons_zero, List.set_cons_succ]
            generalize (X2.alloc (.cells #[] 52)) = X3 at *
            refine H_two (i := 7) (j := 9) (by decide +kernel) (H_step rfl rfl (fun K hK7 => ?_)) (H_step rfl rfl (fun K hK7 => ?_))
            · have hK7 := Lib.hid hK7
              refine app_wpM (m := ns.length) (c := c2) (B := A2) (us := triC ns) (.tmp 73) (.tmp 75) rfl elt_tri HF3.out HB3.out.size (by simp [Act.eval]) (by simp [Act.eval]) (Hsl.out _ HB3.out).2 (by rw [triC_len]) (triC_all ns) (by omega) ?_
              intro v4 X4 hown4 hg4
              obtain ⟨B4, d4, rfl⟩ := own_slice hown4
              rw [Nat.zero_add, List.nil_append] at hown4
              rw [Nat.zero_add]
              have HB4 := Lib.hid (HB3.out.grown hg4 HB3.out.size (fun q hq => (HF3.out.lt q hq).1))
              have HN4 := Lib.hid hown4
              have HA4 := Lib.hid (own_grown HA3.out hg4 (own_ne HA3.out HF3.out (by decide)))
              refine hK7.out _ _ (HSf.out _ HB4.out) ?_
              try simp only [Act.put, List.setIfInBounds_toArray, List.set_cons_zero, List.set_cons_succ]
              refine H_takeD (k := 8) (v := .agg #[.slice A4 ws.length c4, .slice B4 ns.length d4]) (d := some 77) rfl rfl (by decide +kernel) (fun _ _ _ h => h) (Or.inl ⟨by rfl, fun W hW => by obtain ⟨s0, s1⟩ := hW; go_simp⟩) (HSf.out _ HB4.out) ?_
              try simp only [Act.put, List.setIfInBounds_toArray, List.set_cons_zero, List.set_cons_succ]
              refine H_one (i := 9) (by decide +kernel) (H_step rfl rfl (fun K hK9 => ?_))
              have hK9 := Lib.hid hK9
              have HB5 := Lib.hid (HB4.out.alloc HB4.out.size (.cells #[.slice none 0 0, .slice none 0 0] 36))
              have HA5 := Lib.hid (HA4.out.alloc (.cells #[.slice none 0 0, .slice none 0 0] 36))
              have HN5 := Lib.hid (HN4.out.alloc (.cells #[.slice none 0 0, .slice none 0 0] 36))
              have HT5 := Lib.hid (Bk.new X4 36 #[.slice none 0 0, .slice none 0 0])
              have hTz : W3.heap.size ≤ X4.heap.size := HB4.out.size
              go_simp
              refine hK9.out _ _ (HSf.out _ HB5.out) ?_
              try simp only [Act.put, List.setIfInBounds_toArray, List.set_cons_zero, List.set_cons_succ]
              generalize (X4.alloc (.cells #[.slice none 0 0, .slice none 0 0] 36)) = X5 at *
              generalize X4.heap.size = T at *
              refine H_one (i := 10) (by decide +kernel) (H_step rfl rfl (fun K hK10 => ?_))
              have hK10 := Lib.hid hK10
              have z0 : X5.cell? ⟨T, 0, none⟩ = some (.slice none 0 0) := HT5.out.cell 0
              have z1 : X5.cell? ⟨T, 1, none⟩ = some (.slice none 0 0) := HT5.out.cell 1
              have z2 := HT5.out.frozen 0
              have z3 := HT5.out.frozen 1
              go_simp
              have HBF := Lib.hid ((HB5.out.setCell (p := ⟨T, 0, none⟩) hTz (.slice A4 ws.length c4)).setCell (p := ⟨T, 1, none⟩) hTz (.slice B4 ns.length d4))
              have HTF := Lib.hid ((HT5.out.set_ 0 (.slice A4 ws.length c4)).set_ 1 (.slice B4 ns.length d4))
              have HAF := Lib.hid (own_set (i := 1) (own_set (i := 0) HA5.out (HT5.out.ne_own HA5.out (by decide)) (.slice A4 ws.length c4)) (HT5.out.ne_own HA5.out (by decide)) (.slice B4 ns.length d4))
              have HNF := Lib.hid (own_set (i := 1) (own_set (i := 0) HN5.out (HT5.out.ne_own HN5.out (by decide)) (.slice A4 ws.length c4)) (HT5.out.ne_own HN5.out (by decide)) (.slice B4 ns.length d4))
              refine hK10.out _ _ (HSf.out _ HBF.out) ?_
              try simp only [Act.put, List.setIfInBounds_toArray, List.set_cons_zero, List.set_cons_succ]
              refine H_end (by decide +kernel) (NoPanic.normal ?_)
              try simp only [Act.put, List.setIfInBounds_toArray, List.set_cons_zero, List.set_cons_succ]
              go_wp2_with fail
              go_meet
              exact ⟨T, A4, c4, B4, d4, rfl, hTz, HTF.out, HAF.out, HNF.out, HBF.out⟩
            · have hK7 := Lib.hid hK7
              have HB4 := Lib.hid (HB3.out.alloc HB3.out.size (.cells #[.slice none 0 0, .slice none 0 0] 36))
              have HA4 := Lib.hid (HA3.out.alloc (.cells #[.slice none 0 0, .slice none 0 0] 36))
              have HF4 := Lib.hid (HF3.out.alloc (.cells #[.slice none 0 0, .slice none 0 0] 36))
              have HT4 := Lib.hid (Bk.new X3 36 #[.slice none 0 0, .slice none 0 0])
              have hTz : W3.heap.size ≤ X3.heap.size := HB3.out.size
              go_simp
              refine hK7.out _ _ (HSf.out _ HB4.out) ?_
              try simp only [Act.put, List.setIfInBounds_toArray, List.set_cons_zero, List.set_cons_succ]
              generalize (X3.alloc (.cells #[.slice none 0 0, .slice none 0 0] 36)) = X4 at *
              generalize X3.heap.size = T at *
              refine H_one (i := 7) (by decide +kernel) (H_step rfl rfl (fun K hK8 => ?_))
              have hK8 := Lib.hid hK8
              refine app_wpM (m := ns.length) (c := c2) (B := A2) (us := triC ns) (.tmp 73) (.tmp 75) rfl elt_tri HF4.out HB4.out.size (by simp [Act.eval]) (by simp [Act.eval]) (Hsl.out _ HB4.out).2 (by rw [triC_len]) (triC_all ns) (by omega) ?_
              intro v5 X5 hown5 hg5
              obtain ⟨B4, d4, rfl⟩ := own_slice hown5
              rw [Nat.zero_add, List.nil_append] at hown5
              rw [Nat.zero_add]
              have HB5 := Lib.hid (HB4.out.grown hg5 HB4.out.size (fun q hq => (HF4.out.lt q hq).1))
              have HN5 := Lib.hid hown5
              have HA5 := Lib.hid (own_grown HA4.out hg5 (own_ne HA4.out HF4.out (by decide)))
              have HT5 := Lib.hid (HT4.out.grown hg5 (HT4.out.ne_own HF4.out (by decide)))
              refine hK8.out _ _ (HSf.out _ HB5.out) ?_
              try simp only [Act.put, List.setIfInBounds_toArray, List.set_cons_zero, List.set_cons_succ]
              refine H_takeD (k := 8) (v := .agg #[.slice A4 ws.length c4, .slice B4 ns.length d4]) (d := some 77) rfl rfl (by decide +kernel) (fun _ _ _ h => h) (Or.inl ⟨by rfl, fun W hW => by obtain ⟨s0, s1⟩ := hW; go_simp⟩) (HSf.out _ HB5.out) ?_
              try simp only [Act.put, List.setIfInBounds_toArray, List.set_cons_zero, List.set_cons_succ]
              refine H_one (i := 10) (by decide +kernel) (H_step rfl rfl (fun K hK10 => ?_))
              have hK10 := Lib.hid hK10
              have z0 : X5.cell? ⟨T, 0, none⟩ = some (.slice none 0 0) := HT5.out.cell 0
              have z1 : X5.cell? ⟨T, 1, none⟩ = some (.slice none 0 0) := HT5.out.cell 1
              have z2 := HT5.out.frozen 0
              have z3 := HT5.out.frozen 1
              go_simp
              have HBF := Lib.hid ((HB5.out.setCell (p := ⟨T, 0, none⟩) hTz (.slice A4 ws.length c4)).setCell (p := ⟨T, 1, none⟩) hTz (.slice B4 ns.length d4))
              have HTF := Lib.hid ((HT5.out.set_ 0 (.slice A4 ws.length c4)).set_ 1 (.slice B4 ns.length d4))
              have HAF := Lib.hid (own_set (i := 1) (own_set (i := 0) HA5.out (HT5.out.ne_own HA5.out (by decide)) (.slice A4 ws.length c4)) (HT5.out.ne_own HA5.out (by decide)) (.slice B4 ns.length d4))
              have HNF := Lib.hid (own_set (i := 1) (own_set (i := 0) HN5.out (HT5.out.ne_own HN5.out (by decide)) (.slice A4 ws.length c4)) (HT5.out.ne_own HN5.out (by decide)) (.slice B4 ns.length d4))
              refine hK10.out _ _ (HSf.out _ HBF.out) ?_
              try simp only [Act.put, List.setIfInBounds_toArray, List.set_cons_zero, List.set_cons_succ]
              refine H_end (by decide +kernel) (NoPanic.normal ?_)
              try simp only [Act.put, List.setIfInBounds_toArray, List.set_cons_zero, List.set_cons_succ]
              go_wp2_with fail
              go_meet
              exact ⟨T, A4, c4, B4, d4, rfl, hTz, HTF.out, HAF.out, HNF.out, HBF.out⟩
          · have hK6 := Lib.hid hK6
            have HB3 := Lib.hid (HB2.out.alloc HB2.out.size (.cells #[.slice none 0 0, .slice none 0 0] 36))
            have HA3 := Lib.hid (HA2.out.alloc (.cells #[.slice none 0 0, .slice none 0 0] 36))
            have HT3 := Lib.hid (Bk.new X2 36 #[.slice none 0 0, .slice none 0 0])
            have hTz : W3.heap.size ≤ X2.heap.size := HB2.out.size
            go_simp
            refine hK6.out _ _ (HSf.out _ HB3.out) ?_
            try simp only [Act.put, List.setIfInBounds_toArray, List.set_cons_zero, List.set_cons_succ]
            generalize (X2.alloc (.cells #[.slice none 0 0, .slice none 0 0] 36)) = X3 at *
            generalize X2.heap.size = T at *
            refine H_one (i := 4) (by decide +kernel) (H_step rfl rfl (fun K hK7 => ?_))
            have hK7 := Lib.hid hK7
            have HB4 := Lib.hid (HB3.out.alloc HB3.out.size (.cells #[] 52))
            have HA4 := Lib.hid (HA3.out.alloc (.cells #[] 52))
            have HT4 := Lib.hid (HT3.out.alloc (.cells #[] 52))
            have HF4 := Lib.hid (own_void8 (base := W3.heap.size) (size := 3) (Bk.new X3 52 #[]) HB3.out.size)
            go_simp
            refine hK7.out _ _ (HSf.out _ HB4.out) ?_
            try simp only [Act.put, List.setIfInBounds_toArray, List.set_cons_zero, List.set_cons_succ]
            generalize (X3.alloc (.cells #[] 52)) = X4 at *
            refine H_one (i := 7) (by decide +kernel) (H_step rfl rfl (fun K hK8 => ?_))
            have hK8 := Lib.hid hK8
            refine app_wpM (m := ns.length) (c := c2) (B := A2) (us := triC ns) (.tmp 73) (.tmp 75) rfl elt_tri HF4.out HB4.out.size (by simp [Act.eval]) (by simp [Act.eval]) (Hsl.out _ HB4.out).2 (by rw [triC_len]) (triC_all ns) (by omega) ?_
            intro v5 X5 hown5 hg5
            obtain ⟨B4, d4, rfl⟩ := own_slice hown5
            rw [Nat.zero_add, List.nil_append] at hown5
            rw [Nat.zero_add]
            have HB5 := Lib.hid (HB4.out.grown hg5 HB4.out.size (fun q hq => (HF4.out.lt q hq).1))
            have HN5 := Lib.hid hown5
            have HA5 := Lib.hid (own_grown HA4.out hg5 (own_ne HA4.out HF4.out (by decide)))
            have HT5 := Lib.hid (HT4.out.grown hg5 (HT4.out.ne_own HF4.out (by decide)))
            refine hK8.out _ _ (HSf.out _ HB5.out) ?_
            try simp only [Act.put, List.setIfInBounds_toArray, List.set_cons_zero, List.set_cons_succ]
            refine H_takeD (k := 8) (v := .agg #[.slice A4 ws.length c4, .slice B4 ns.length d4]) (d := some 77) rfl rfl (by decide +kernel) (fun _ _ _ h => h) (Or.inl ⟨by rfl, fun W hW => by obtain ⟨s0, s1⟩ := hW; go_simp⟩) (HSf.out _ HB5.out) ?_
            try simp only [Act.put, List.setIfInBounds_toArray, List.set_cons_zero, List.set_cons_succ]
            refine H_one (i := 10) (by decide +kernel) (H_step rfl rfl (fun K hK10 => ?_))
            have hK10 := Lib.hid hK10
            have z0 : X5.cell? ⟨T, 0, none⟩ = some (.slice none 0 0) := HT5.out.cell 0
            have z1 : X5.cell? ⟨T, 1, none⟩ = some (.slice none 0 0) := HT5.out.cell 1
            have z2 := HT5.out.frozen 0
            have z3 := HT5.out.frozen 1
            go_simp
            have HBF := Lib.hid ((HB5.out.setCell (p := ⟨T, 0, none⟩) hTz (.slice A4 ws.length c4)).setCell (p := ⟨T, 1, none⟩) hTz (.slice B4 ns.length d4))
            have HTF := Lib.hid ((HT5.out.set_ 0 (.slice A4 ws.length c4)).set_ 1 (.slice B4 ns.length d4))
            have HAF := Lib.hid (own_set (i := 1) (own_set (i := 0) HA5.out (HT5.out.ne_own HA5.out (by decide)) (.slice A4 ws.length c4)) (HT5.out.ne_own HA5.out (by decide)) (.slice B4 ns.length d4))
            have HNF := Lib.hid (own_set (i := 1) (own_set (i := 0) HN5.out (HT5.out.ne_own HN5.out (by decide)) (.slice A4 ws.length c4)) (HT5.out.ne_own HN5.out (by decide)) (.slice B4 ns.length d4))
            refine hK10.out _ _ (HSf.out _ HBF.out) ?_
            try simp only [Act.put, List.setIfInBounds_toArray, List.set_cons_zero, List.set_cons_succ]
            refine H_end (by decide +kernel) (NoPanic.normal ?_)
            try simp only [Act.put, List.setIfInBounds_toArray, List.set_cons_zero, List.set_cons_succ]
            go_wp2_with fail
            go_meet
            exact ⟨T, A4, c4, B4, d4, rfl, hTz, HTF.out, HAF.out, HNF.out, HBF.out⟩
        · have hK5 := Lib.hid hK5
          have HB2 := Lib.hid (HB1.out.alloc HB1.out.size (.cells #[] 52))
          have HE2 := Lib.hid (HE1.out.alloc (.cells #[] 52))
          have HF2 := Lib.hid (own_void8 (base := W3.heap.size) (size := 3) (Bk.new X1 52 #[]) HB1.out.size)
          go_simp
          refine hK5.out _ _ (HSf.out _ HB2.out) ?_
          try simp only [Act.put, List.setIfInBounds_toArray, List.set_cons_zero, List.set_cons_succ]
          generalize (X1.alloc (.cells #[] 52)) = X2 at *
          refine H_two (i := 3) (j := 9) (by decide +kernel) (H_step rfl rfl (fun K hK6 => ?_)) (H_step rfl rfl (fun K hK6 => ?_))
          · have hK6 := Lib.hid hK6
            refine app_wpM (m := ws.length) (c := c1) (B := A1) (us := ws.map (Value.int .i64)) (.tmp 69) (.tmp 71) rfl elt_int HE2.out HB2.out.size (by simp [Act.eval]) (by simp [Act.eval]) (Hsl.out _ HB2.out).1 (by simp) (ints_all ws) (by omega) ?_
            intro v3 X3 hown3 hg3
            obtain ⟨A4, c4, rfl⟩ := own_slice hown3
            rw [Nat.zero_add, List.nil_append] at hown3
            rw [Nat.zero_add]
            have HB3 := Lib.hid (HB2.out.grown hg3 HB2.out.size (fun q hq => (HE2.out.lt q hq).1))
            have HA3 := Lib.hid hown3
            have HF3 := Lib.hid (own_grown HF2.out hg3 (own_ne HF2.out HE2.out (by decide)))
            refine hK6.out _ _ (HSf.out _ HB3.out) ?_
            try simp only [Act.put, List.setIfInBounds_toArray, List.set_cons_zero, List.set_cons_succ]
            refine H_two (i := 7) (j := 9) (by decide +kernel) (H_step rfl rfl (fun K hK7 => ?_)) (H_step rfl rfl (fun K hK7 => ?_))
            · have hK7 := Lib.hid hK7
              refine app_wpM (m := ns.length) (c := c2) (B := A2) (us := triC ns) (.tmp 73) (.tmp 75) rfl elt_tri HF3.out HB3.out.size (by simp [Act.eval]) (by simp [Act.eval]) (Hsl.out _ HB3.out).2 (by rw [triC_len]) (triC_all ns) (by omega) ?_
              intro v4 X4 hown4 hg4
              obtain ⟨B4, d4, rfl⟩ := own_slice hown4
              rw [Nat.zero_add, List.nil_append] at hown4
              rw [Nat.zero_add]
              have HB4 := Lib.hid (HB3.out.grown hg4 HB3.out.size (fun q hq => (HF3.out.lt q hq).1))
              have HN4 := Lib.hid hown4
              have HA4 := Lib.hid (own_grown HA3.out hg4 (own_ne HA3.out HF3.out (by decide)))
              refine hK7.out _ _ (HSf.out _ HB4.out) ?_
              try simp only [Act.put, List.setIfInBounds_toArray, List.set_cons_zero, List.set_cons_succ]
              refine H_takeD (k := 8) (v := .agg #[.slice A4 ws.length c4, .slice B4 ns.length d4]) (d := some 77) rfl rfl (by decide +kernel) (fun _ _ _ h => h) (Or.inl ⟨by rfl, fun W hW => by obtain ⟨s0, s1⟩ := hW; go_simp⟩) (HSf.out _ HB4.out) ?_
              try simp only [Act.put, List.setIfInBounds_toArray, List.set_cons_zero, List.set_cons_succ]
              refine H_one (i := 9) (by decide +kernel) (H_step rfl rfl (fun K hK9 => ?_))
              have hK9 := Lib.hid hK9
              have HB5 := Lib.hid (HB4.out.alloc HB4.out.size (.cells #[.slice none 0 0, .slice none 0 0] 36))
              have HA5 := Lib.hid (HA4.out.alloc (.cells #[.slice none 0 0, .slice none 0 0] 36))
              have HN5 := Lib.hid (HN4.out.alloc (.cells #[.slice none 0 0, .slice none 0 0] 36))
              have HT5 := Lib.hid (Bk.new X4 36 #[.slice none 0 0, .slice none 0 0])
              have hTz : W3.heap.size ≤ X4.heap.size := HB4.out.size
              go_simp
              refine hK9.out _ _ (HSf.out _ HB5.out) ?_
              try simp only [Act.put, List.setIfInBounds_toArray, List.set_cons_zero, List.set_cons_succ]
              generalize (X4.alloc (.cells #[.slice none 0 0, .slice none 0 0] 36)) = X5 at *
              generalize X4.heap.size = T at *
              refine H_one (i := 10) (by decide +kernel) (H_step rfl rfl (fun K hK10 => ?_))
              have hK10 := Lib.hid hK10
              have z0 : X5.cell? ⟨T, 0, none⟩ = some (.slice none 0 0) := HT5.out.cell 0
              have z1 : X5.cell? ⟨T, 1, none⟩ = some (.slice none 0 0) := HT5.out.cell 1
              have z2 := HT5.out.frozen 0
              have z3 := HT5.out.frozen 1
              go_simp
              have HBF := Lib.hid ((HB5.out.setCell (p := ⟨T, 0, none⟩) hTz (.slice A4 ws.length c4)).setCell (p := ⟨T, 1, none⟩) hTz (.slice B4 ns.length d4))
              have HTF := Lib.hid ((HT5.out.set_ 0 (.slice A4 ws.length c4)).set_ 1 (.slice B4 ns.length d4))
              have HAF := Lib.hid (own_set (i := 1) (own_set (i := 0) HA5.out (HT5.out.ne_own HA5.out (by decide)) (.slice A4 ws.length c4)) (HT5.out.ne_own HA5.out (by decide)) (.slice B4 ns.length d4))
              have HNF := Lib.hid (own_set (i := 1) (own_set (i := 0) HN5.out (HT5.out.ne_own HN5.out (by decide)) (.slice A4 ws.length c4)) (HT5.out.ne_own HN5.out (by decide)) (.slice B4 ns.length d4))
              refine hK10.out _ _ (HSf.out _ HBF.out) ?_
              try simp only [Act.put, List.setIfInBounds_toArray, List.set_cons_zero, List.set_cons_succ]
              refine H_end (by decide +kernel) (NoPanic.normal ?_)
              try simp only [Act.put, List.setIfInBounds_toArray, List.set_cons_zero, List.set_cons_succ]
              go_wp2_with fail
              go_meet
              exact ⟨T, A4, c4, B4, d4, rfl, hTz, HTF.out, HAF.out, HNF.out, HBF.out⟩
            · have hK7 := Lib.hid hK7
              have HB4 := Lib.hid (HB3.out.alloc HB3.out.size (.cells #[.slice none 0 0, .slice none 0 0] 36))
              have HF4 := Lib.hid (HF3.out.alloc (.cells #[.slice none 0 0, .slice none 0 0] 36))
              have HA4 := Lib.hid (HA3.out.alloc (.cells #[.slice none 0 0, .slice none 0 0] 36))
              have HT4 := Lib.hid (Bk.new X3 36 #[.slice none 0 0, .slice none 0 0])
              have hTz : W3.heap.size ≤ X3.heap.size := HB3.out.size
              go_simp
              refine hK7.out _ _ (HSf.out _ HB4.out) ?_
              try simp only [Act.put, List.setIfInBounds_toArray, List.set_cons_zero, List.set_cons_succ]
              generalize (X3.alloc (.cells #[.slice none 0 0, .slice none 0 0] 36)) = X4 at *
              generalize X3.heap.size = T at *
              refine H_one (i := 7) (by decide +kernel) (H_step rfl rfl (fun K hK8 => ?_))
              have hK8 := Lib.hid hK8
              refine app_wpM (m := ns.length) (c := c2) (B := A2) (us := triC ns) (.tmp 73) (.tmp 75) rfl elt_tri HF4.out HB4.out.size (by simp [Act.eval]) (by simp [Act.eval]) (Hsl.out _ HB4.out).2 (by rw [triC_len]) (triC_all ns) (by omega) ?_
              intro v5 X5 hown5 hg5
              obtain ⟨B4, d4, rfl⟩ := own_slice hown5
              rw [Nat.zero_add, List.nil_append] at hown5
              rw [Nat.zero_add]
              have HB5 := Lib.hid (HB4.out.grown hg5 HB4.out.size (fun q hq => (HF4.out.lt q hq).1))
              have HN5 := Lib.hid hown5
              have HA5 := Lib.hid (own_grown HA4.out hg5 (own_ne HA4.out HF4.out (by decide)))
              have HT5 := Lib.hid (HT4.out.grown hg5 (HT4.out.ne_own HF4.out (by decide)))
              refine hK8.out _ _ (HSf.out _ HB5.out) ?_
              try simp only [Act.put, List.setIfInBounds_toArray, List.set_cons_zero, List.set_cons_succ]
              refine H_takeD (k := 8) (v := .agg #[.slice A4 ws.length c4, .slice B4 ns.length d4]) (d := some 77) rfl rfl (by decide +kernel) (fun _ _ _ h => h) (Or.inl ⟨by rfl, fun W hW => by obtain ⟨s0, s1⟩ := hW; go_simp⟩) (HSf.out _ HB5.out) ?_
              try simp only [Act.put, List.setIfInBounds_toArray, List.set_cons_zero, List.set_cons_succ]
              refine H_one (i := 10) (by decide +kernel) (H_step rfl rfl (fun K hK10 => ?_))
              have hK10 := Lib.hid hK10
              have z0 : X5.cell? ⟨T, 0, none⟩ = some (.slice none 0 0) := HT5.out.cell 0
              have z1 : X5.cell? ⟨T, 1, none⟩ = some (.slice none 0 0) := HT5.out.cell 1
              have z2 := HT5.out.frozen 0
              have z3 := HT5.out.frozen 1
              go_simp
              have HBF := Lib.hid ((HB5.out.setCell (p := ⟨T, 0, none⟩) hTz (.slice A4 ws.length c4)).setCell (p := ⟨T, 1, none⟩) hTz (.slice B4 ns.length d4))
              have HTF := Lib.hid ((HT5.out.set_ 0 (.slice A4 ws.length c4)).set_ 1 (.slice B4 ns.length d4))
              have HAF := Lib.hid (own_set (i := 1) (own_set (i := 0) HA5.out (HT5.out.ne_own HA5.out (by decide)) (.slice A4 ws.length c4)) (HT5.out.ne_own HA5.out (by decide)) (.slice B4 ns.length d4))
              have HNF := Lib.hid (own_set (i := 1) (own_set (i := 0) HN5.out (HT5.out.ne_own HN5.out (by decide)) (.slice A4 ws.length c4)) (HT5.out.ne_own HN5.out (by decide)) (.slice B4 ns.length d4))
              refine hK10.out _ _ (HSf.out _ HBF.out) ?_
              try simp only [Act.put, List.setIfInBounds_toArray, List.set_cons_zero, List.set_cons_succ]
              refine H_end (by decide +kernel) (NoPanic.normal ?_)
              try simp only [Act.put, List.setIfInBounds_toArray, List.set_cons_zero, List.set_cons_succ]
              go_wp2_with fail
              go_meet
              exact ⟨T, A4, c4, B4, d4, rfl, hTz, HTF.out, HAF.out, HNF.out, HBF.out⟩
          · have hK6 := Lib.hid hK6
            have HB3 := Lib.hid (HB2.out.alloc HB2.out.size (.cells #[.slice none 0 0, .slice none 0 0] 36))
            have HE3 := Lib.hid (HE2.out.alloc (.cells #[.slice none 0 0, .slice none 0 0] 36))
            have HF3 := Lib.hid (HF2.out.alloc (.cells #[.slice none 0 0, .slice none 0 0] 36))
            have HT3 := Lib.hid (Bk.new X2 36 #[.slice none 0 0, .slice none 0 0])
            have hTz : W3.heap.size ≤ X2.heap.size := HB2.out.size
            go_simp
            refine hK6.out _ _ (HSf.out _ HB3.out) ?_
            try simp only [Act.put, List.setIfInBounds_toArray, List.set_cons_zero, List.set_cons_succ]
            generalize (X2.alloc (.cells #[.slice none 0 0, .slice none 0 0] 36)) = X3 at *
            generalize X2.heap.size = T at *
            refine H_one (i := 3) (by decide +kernel) (H_step rfl rfl (fun K hK7 => ?_))
            have hK7 := Lib.hid hK7
            refine app_wpM (m := ws.length) (c := c1) (B := A1) (us := ws.map (Value.int .i64)) (.tmp 69) (.tmp 71) rfl elt_int HE3.out HB3.out.size (by simp [Act.eval]) (by simp [Act.eval]) (Hsl.out _ HB3.out).1 (by simp) (ints_all ws) (by omega) ?_
            intro v4 X4 hown4 hg4
            obtain ⟨A4, c4, rfl⟩ := own_slice hown4
            rw [Nat.zero_add, List.nil_append] at hown4
            rw [Nat.zero_add]
            have HB4 := Lib.hid (HB3.out.grown hg4 HB3.out.size (fun q hq => (HE3.out.lt q hq).1))
            have HA4 := Lib.hid hown4
            have HF4 := Lib.hid (own_grown HF3.out hg4 (own_ne HF3.out HE3.out (by decide)))
            have HT4 := Lib.hid (HT3.out.grown hg4 (HT3.out.ne_own HE3.out (by decide)))
            refine hK7.out _ _ (HSf.out _ HB4.out) ?_
            try simp only [Act.put, List.setIfInBounds_toArray, List.set_cons_zero, List.set_cons_succ]
            refine H_one (i := 7) (by decide +kernel) (H_step rfl rfl (fun K hK8 => ?_))
            have hK8 := Lib.hid hK8
            refine app_wpM (m := ns.length) (c := c2) (B := A2) (us := triC ns) (.tmp 73) (.tmp 75) rfl elt_tri HF4.out HB4.out.size (by simp [Act.eval]) (by simp [Act.eval]) (Hsl.out _ HB4.out).2 (by rw [triC_len]) (triC_all ns) (by omega) ?_
            intro v5 X5 hown5 hg5
            obtain ⟨B4, d4, rfl⟩ := own_slice hown5
            rw [Nat.zero_add, List.nil_append] at hown5
            rw [Nat.zero_add]
            have HB5 := Lib.hid (HB4.out.grown hg5 HB4.out.size (fun q hq => (HF4.out.lt q hq).1))
            have HN5 := Lib.hid hown5
            have HT5 := Lib.hid (HT4.out.grown hg5 (HT4.out.ne_own HF4.out (by decide)))
            have HA5 := Lib.hid (own_grown HA4.out hg5 (own_ne HA4.out HF4.out (by decide)))
            refine hK8.out _ _ (HSf.out _ HB5.out) ?_
            try simp only [Act.put, List.setIfInBounds_toArray, List.set_cons_zero, List.set_cons_succ]
            refine H_takeD (k := 8) (v := .agg #[.slice A4 ws.length c4, .slice B4 ns.length d4]) (d := some 77) rfl rfl (by decide +kernel) (fun _ _ _ h => h) (Or.inl ⟨by rfl, fun W hW => by obtain ⟨s0, s1⟩ := hW; go_simp⟩) (HSf.out _ HB5.out) ?_
            try simp only [Act.put, List.setIfInBounds_toArray, List.set_cons_zero, List.set_cons_succ]
            refine H_one (i := 10) (by decide +kernel) (H_step rfl rfl (fun K hK10 => ?_))
            have hK10 := Lib.hid hK10
            have z0 : X5.cell? ⟨T, 0, none⟩ = some (.slice none 0 0) := HT5.out.cell 0
            have z1 : X5.cell? ⟨T, 1, none⟩ = some (.slice none 0 0) := HT5.out.cell 1
            have z2 := HT5.out.frozen 0
            have z3 := HT5.out.frozen 1
            go_simp
            have HBF := Lib.hid ((HB5.out.setCell (p := ⟨T, 0, none⟩) hTz (.slice A4 ws.length c4)).setCell (p := ⟨T, 1, none⟩) hTz (.slice B4 ns.length d4))
            have HTF := Lib.hid ((HT5.out.set_ 0 (.slice A4 ws.length c4)).set_ 1 (.slice B4 ns.length d4))
            have HAF := Lib.hid (own_set (i := 1) (own_set (i := 0) HA5.out (HT5.out.ne_own HA5.out (by decide)) (.slice A4 ws.length c4)) (HT5.out.ne_own HA5.out (by decide)) (.slice B4 ns.length d4))
            have HNF := Lib.hid (own_set (i := 1) (own_set (i := 0) HN5.out (HT5.out.ne_own HN5.out (by decide)) (.slice A4 ws.length c4)) (HT5.out.ne_own HN5.out (by decide)) (.slice B4 ns.length d4))
            refine hK10.out _ _ (HSf.out _ HBF.out) ?_
            try simp only [Act.put, List.setIfInBounds_toArray, List.set_cons_zero, List.set_cons_succ]
            refine H_end (by decide +kernel) (NoPanic.normal ?_)
            try simp only [Act.put, List.setIfInBounds_toArray, List.set_cons_zero, List.set_cons_succ]
            go_wp2_with fail
            go_meet
            exact ⟨T, A4, c4, B4, d4, rfl, hTz, HTF.out, HAF.out, HNF.out, HBF.out⟩
        · have hK5 := Lib.hid hK5
          have HB2 := Lib.hid (HB1.out.alloc HB1.out.size (.cells #[.slice none 0 0, .slice none 0 0] 36))
          have HE2 := Lib.hid (HE1.out.alloc (.cells #[.slice none 0 0, .slice none 0 0] 36))
          have HT2 := Lib.hid (Bk.new X1 36 #[.slice none 0 0, .slice none 0 0])
          have hTz : W3.heap.size ≤ X1.heap.size := HB1.out.size
          go_simp
          refine hK5.out _ _ (HSf.out _ HB2.out) ?_
          try simp only [Act.put, List.setIfInBounds_toArray, List.set_cons_zero, List.set_cons_succ]
          generalize (X1.alloc (.cells #[.slice none 0 0, .slice none 0 0] 36)) = X2 at *
          generalize X1.heap.size = T at *
          refine H_two (i := 3) (j := 4) (by decide +kernel) (H_step rfl rfl (fun K hK6 => ?_)) (H_step rfl rfl (fun K hK6 => ?_))
          · have hK6 := Lib.hid hK6
            refine app_wpM (m := ws.length) (c := c1) (B := A1) (us := ws.map (Value.int .i64)) (.tmp 69) (.tmp 71) rfl elt_int HE2.out HB2.out.size (by simp [Act.eval]) (by simp [Act.eval]) (Hsl.out _ HB2.out).1 (by simp) (ints_all ws) (by omega) ?_
            intro v3 X3 hown3 hg3
            obtain ⟨A4, c4, rfl⟩ := own_slice hown3
            rw [Nat.zero_add, List.nil_append] at hown3
            rw [Nat.zero_add]
            have HB3 := Lib.hid (HB2.out.grown hg3 HB2.out.size (fun q hq => (HE2.out.lt q hq).1))
            have HA3 := Lib.hid hown3
            have HT3 := Lib.hid (HT2.out.grown hg3 (HT2.out.ne_own HE2.out (by decide)))
            refine hK6.out _ _ (HSf.out _ HB3.out) ?_
            try simp only [Act.put, List.setIfInBounds_toArray, List.set_cons_zero, List.set_cons_succ]
            refine H_one (i := 4) (by decide +kernel) (H_step rfl rfl (fun K hK7 => ?_))
            have hK7 := Lib.hid hK7
            have HB4 := Lib.hid (HB3.out.alloc HB3.out.size (.cells #[] 52))
            have HT4 := Lib.hid (HT3.out.alloc (.cells #[] 52))
            have HA4 := Lib.hid (HA3.out.alloc (.cells #[] 52))
            have HF4 := Lib.hid (own_void8 (base := W3.heap.size) (size := 3) (Bk.new X3 52 #[]) HB3.out.size)
            go_simp
            refine hK7.out _ _ (HSf.out _ HB4.out) ?_
            try simp only [Act.put, List.setIfInBounds_toArray, List.set_cons_zero, List.set_cons_succ]
            generalize (X3.alloc (.cells #[] 52)) = X4 at *
            refine H_one (i := 7) (by decide +kernel) (H_step rfl rfl (fun K hK8 => ?_))
            have hK8 := Lib.hid hK8
            refine app_wpM (m := ns.length) (c := c2) (B := A2) (us := triC ns) (.tmp 73) (.tmp 75) rfl elt_tri HF4.out HB4.out.size (by simp [Act.eval]) (by simp [Act.eval]) (Hsl.out _ HB4.out).2 (by rw [triC_len]) (triC_all ns) (by omega) ?_
            intro v5 X5 hown5 hg5
            obtain ⟨B4, d4, rfl⟩ := own_slice hown5
            rw [Nat.zero_add, List.nil_append] at hown5
            rw [Nat.zero_add]
            have HB5 := Lib.hid (HB4.out.grown hg5 HB4.out.size (fun q hq => (HF4.out.lt q hq).1))
            have HN5 := Lib.hid hown5
            have HT5 := Lib.hid (HT4.out.grown hg5 (HT4.out.ne_own HF4.out (by decide)))
            have HA5 := Lib.hid (own_grown HA4.out hg5 (own_ne HA4.out HF4.out (by decide)))
            refine hK8.out _ _ (HSf.out _ HB5.out) ?_
            try simp only [Act.put, List.setIfInBounds_toArray, List.set_cons_zero, List.set_cons_succ]
            refine H_takeD (k := 8) (v := .agg #[.slice A4 ws.length c4, .slice B4 ns.length d4]) (d := some 77) rfl rfl (by decide +kernel) (fun _ _ _ h => h) (Or.inl ⟨by rfl, fun W hW => by obtain ⟨s0, s1⟩ := hW; go_simp⟩) (HSf.out _ HB5.out) ?_
            try simp only [Act.put, List.setIfInBounds_toArray, List.set_cons_zero, List.set_cons_succ]
            refine H_one (i := 10) (by decide +kernel) (H_step rfl rfl (fun K hK10 => ?_))
            have hK10 := Lib.hid hK10
            have z0 : X5.cell? ⟨T, 0, none⟩ = some (.slice none 0 0) := HT5.out.cell 0
            have z1 : X5.cell? ⟨T, 1, none⟩ = some (.slice none 0 0) := HT5.out.cell 1
            have z2 := HT5.out.frozen 0
            have z3 := HT5.out.frozen 1
            go_simp
            have HBF := Lib.hid ((HB5.out.setCell (p := ⟨T, 0, none⟩) hTz (.slice A4 ws.length c4)).setCell (p := ⟨T, 1, none⟩) hTz (.slice B4 ns.length d4))
            have HTF := Lib.hid ((HT5.out.set_ 0 (.slice A4 ws.length c4)).set_ 1 (.slice B4 ns.length d4))
            have HAF := Lib.hid (own_set (i := 1) (own_set (i := 0) HA5.out (HT5.out.ne_own HA5.out (by decide)) (.slice A4 ws.length c4)) (HT5.out.ne_own HA5.out (by decide)) (.slice B4 ns.length d4))
            have HNF := Lib.hid (own_set (i := 1) (own_set (i := 0) HN5.out (HT5.out.ne_own HN5.out (by decide)) (.slice A4 ws.length c4)) (HT5.out.ne_own HN5.out (by decide)) (.slice B4 ns.length d4))
            refine hK10.out _ _ (HSf.out _ HBF.out) ?_
            try simp only [Act.put, List.setIfInBounds_toArray, List.set_cons_zero, List.set_cons_succ]
            refine H_end (by decide +kernel) (NoPanic.normal ?_)
            try simp only [Act.put, List.setIfInBounds_toArray, List.set_cons_zero, List.set_cons_succ]
            go_wp2_with fail
            go_meet
            exact ⟨T, A4, c4, B4, d4, rfl, hTz, HTF.out, HAF.out, HNF.out, HBF.out⟩
          · have hK6 := Lib.hid hK6
            have HB3 := Lib.hid (HB2.out.alloc HB2.out.size (.cells #[] 52))
            have HE3 := Lib.hid (HE2.out.alloc (.cells #[] 52))
            have HT3 := Lib.hid (HT2.out.alloc (.cells #[] 52))
            have HF3 := Lib.hid (own_void8 (base := W3.heap.size) (size := 3) (Bk.new X2 52 #[]) HB2.out.size)
            go_simp
            refine hK6.out _ _ (HSf.out _ HB3.out) ?_
            try simp only [Act.put, List.setIfInBounds_toArray, List.set_cons_zero, List.set_cons_succ]
            generalize (X2.alloc (.cells #[] 52)) = X3 at *
            refine H_one (i := 3) (by decide +kernel) (H_step rfl rfl (fun K hK7 => ?_))
            have hK7 := Lib.hid hK7
            refine app_wpM (m := ws.length) (c := c1) (B := A1) (us := ws.map (Value.int .i64)) (.tmp 69) (.tmp 71) rfl elt_int HE3.out HB3.out.size (by simp [Act.eval]) (by simp [Act.eval]) (Hsl.out _ HB3.out).1 (by simp) (ints_all ws) (by omega) ?_
            intro v4 X4 hown4 hg4
            obtain ⟨A4, c4, rfl⟩ := own_slice hown4
            rw [Nat.zero_add, List.nil_append] at hown4
            rw [Nat.zero_add]
            have HB4 := Lib.hid (HB3.out.grown hg4 HB3.out.size (fun q hq => (HE3.out.lt q hq).1))
            have HA4 := Lib.hid hown4
            have HT4 := Lib.hid (HT3.out.grown hg4 (HT3.out.ne_own HE3.out (by decide)))
            have HF4 := Lib.hid (own_grown HF3.out hg4 (own_ne HF3.out HE3.out (by decide)))
            refine hK7.out _ _ (HSf.out _ HB4.out) ?_
            try simp only [Act.put, List.setIfInBounds_toArray, List.set_cons_zero, List.set_cons_succ]
            refine H_one (i := 7) (by decide +kernel) (H_step rfl rfl (fun K hK8 => ?_))
            have hK8 := Lib.hid hK8
            refine app_wpM (m := ns.length) (c := c2) (B := A2) (us := triC ns) (.tmp 73) (.tmp 75) rfl elt_tri HF4.out HB4.out.size (by simp [Act.eval]) (by simp [Act.eval]) (Hsl.out _ HB4.out).2 (by rw [triC_len]) (triC_all ns) (by omega) ?_
            intro v5 X5 hown5 hg5
            obtain ⟨B4, d4, rfl⟩ := own_slice hown5
            rw [Nat.zero_add, List.nil_append] at hown5
            rw [Nat.zero_add]
            have HB5 := Lib.hid (HB4.out.grown hg5 HB4.out.size (fun q hq => (HF4.out.lt q hq).1))
            have HN5 := Lib.hid hown5
            have HT5 := Lib.hid (HT4.out.grown hg5 (HT4.out.ne_own HF4.out (by decide)))
            have HA5 := Lib.hid (own_grown HA4.out hg5 (own_ne HA4.out HF4.out (by decide)))
            refine hK8.out _ _ (HSf.out _ HB5.out) ?_
            try simp only [Act.put, List.setIfInBounds_toArray, List.set_cons_zero, List.set_cons_succ]
            refine H_takeD (k := 8) (v := .agg #[.slice A4 ws.length c4, .slice B4 ns.length d4]) (d := some 77) rfl rfl (by decide +kernel) (fun _ _ _ h => h) (Or.inl ⟨by rfl, fun W hW => by obtain ⟨s0, s1⟩ := hW; go_simp⟩) (HSf.out _ HB5.out) ?_
            try simp only [Act.put, List.setIfInBounds_toArray, List.set_cons_zero, List.set_cons_succ]
            refine H_one (i := 10) (by decide +kernel) (H_step rfl rfl (fun K hK10 => ?_))
            have hK10 := Lib.hid hK10
            have z0 : X5.cell? ⟨T, 0, none⟩ = some (.slice none 0 0) := HT5.out.cell 0
            have z1 : X5.cell? ⟨T, 1, none⟩ = some (.slice none 0 0) := HT5.out.cell 1
            have z2 := HT5.out.frozen 0
            have z3 := HT5.out.frozen 1
            go_simp
            have HBF := Lib.hid ((HB5.out.setCell (p := ⟨T, 0, none⟩) hTz (.slice A4 ws.length c4)).setCell (p := ⟨T, 1, none⟩) hTz (.slice B4 ns.length d4))
            have HTF := Lib.hid ((HT5.out.set_ 0 (.slice A4 ws.length c4)).set_ 1 (.slice B4 ns.length d4))
            have HAF := Lib.hid (own_set (i := 1) (own_set (i := 0) HA5.out (HT5.out.ne_own HA5.out (by decide)) (.slice A4 ws.length c4)) (HT5.out.ne_own HA5.out (by decide)) (.slice B4 ns.length d4))
            have HNF := Lib.hid (own_set (i := 1) (own_set (i := 0) HN5.out (HT5.out.ne_own HN5.out (by decide)) (.slice A4 ws.length c4)) (HT5.out.ne_own HN5.out (by decide)) (.slice B4 ns.length d4))
            refine hK10.out _ _ (HSf.out _ HBF.out) ?_
            try simp only [Act.put, List.setIfInBounds_toArray, List.set_cons_zero, List.set_cons_succ]
            refine H_end (by decide +kernel) (NoPanic.normal ?_)
            try simp only [Act.put, List.setIfInBounds_toArray, List.set_cons_zero, List.set_cons_succ]
            go_wp2_with fail
            go_meet
            exact ⟨T, A4, c4, B4, d4, rfl, hTz, HTF.out, HAF.out, HNF.out, HBF.out⟩
      · have hK4 := Lib.hid hK4
        have HB1 := Lib.hid (HB0.out.alloc HB0.out.size (.cells #[] 52))
        have HF1 := Lib.hid (own_void8 (base := W3.heap.size) (size := 3) (Bk.new X0 52 #[]) HB0.out.size)
        go_simp
        refine hK4.out _ _ (HSf.out _ HB1.out) ?_
        try simp only [Act.put, List.setIfInBounds_toArray, List.set_cons_zero, List.set_cons_succ]
        generalize (X0.alloc (.cells #[] 52)) = X1 at *
        refine H_two (i := 0) (j := 9) (by decide +kernel) (H_step rfl rfl (fun K hK5 => ?_)) (H_step rfl rfl (fun K hK5 => ?_))
        · have hK5 := Lib.hid hK5
          have HB2 := Lib.hid (HB1.out.alloc HB1.out.size (.cells #[] 3))
          have HF2 := Lib.hid (HF1.out.alloc (.cells #[] 3))
          have HE2 := Lib.hid (own_void8 (base := W3.heap.size) (size := 1) (Bk.new X1 3 #[]) HB1.out.size)
          go_simp
          refine hK5.out _ _ (HSf.out _ HB2.out) ?_
          try simp only [Act.put, List.setIfInBounds_toArray, List.set_cons_zero, List.set_cons_succ]
          generalize (X1.alloc (.cells #[] 3)) = X2 at *
          refine H_two (i := 3) (j := 9) (by decide +kernel) (H_step rfl rfl (fun K hK6 => ?_)) (H_step rfl rfl (fun K hK6 => ?_))
          · have hK6 := Lib.hid hK6
            refine app_wpM (m := ws.length) (c := c1) (B := A1) (us := ws.map (Value.int .i64)) (.tmp 69) (.tmp 71) rfl elt_int HE2.out HB2.out.size (by simp [Act.eval]) (by simp [Act.eval]) (Hsl.out _ HB2.out).1 (by simp) (ints_all ws) (by omega) ?_
            intro v3 X3 hown3 hg3
            obtain ⟨A4, c4, rfl⟩ := own_slice hown3
            rw [Nat.zero_add, List.nil_append] at hown3
            rw [Nat.zero_add]
            have HB3 := Lib.hid (HB2.out.grown hg3 HB2.out.size (fun q hq => (HE2.out.lt q hq).1))
            have HA3 := Lib.hid hown3
            have HF3 := Lib.hid (own_grown HF2.out hg3 (own_ne HF2.out HE2.out (by decide)))
            refine hK6.out _ _ (HSf.out _ HB3.out) ?_
            try simp only [Act.put, List.setIfInBounds_toArray, List.set_cons_zero, List.set_cons_succ]
            refine H_two (i := 7) (j := 9) (by decide +kernel) (H_step rfl rfl (fun K hK7 => ?_)) (H_step rfl rfl (fun K hK7 => ?_))
            · have hK7 := Lib.hid hK7
              refine app_wpM (m := ns.length) (c := c2) (B := A2) (us := triC ns) (.tmp 73) (.tmp 75) rfl elt_tri HF3.out HB3.out.size (by simp [Act.eval]) (by simp [Act.eval]) (Hsl.out _ HB3.out).2 (by rw [triC_len]) (triC_all ns) (by omega) ?_
              intro v4 X4 hown4 hg4
              obtain ⟨B4, d4, rfl⟩ := own_slice hown4
              rw [Nat.zero_add, List.nil_append] at hown4
              rw [Nat.zero_add]
              have HB4 := Lib.hid (HB3.out.grown hg4 HB3.out.size (fun q hq => (HF3.out.lt q hq).1))
              have HN4 := Lib.hid hown4
              have HA4 := Lib.hid (own_grown HA3.out hg4 (own_ne HA3.out HF3.out (by decide)))
              refine hK7.out _ _ (HSf.out _ HB4.out) ?_
              try simp only [Act.put, List.setIfInBounds_toArray, List.set_cons_zero, List.set_cons_succ]
              refine H_takeD (k := 8) (v := .agg #[.slice A4 ws.length c4, .slice B4 ns.length d4]) (d := some 77) rfl rfl (by decide +kernel) (fun _ _ _ h => h) (Or.inl ⟨by rfl, fun W hW => by obtain ⟨s0, s1⟩ := hW; go_simp⟩) (HSf.out _ HB4.out) ?_
              try simp only [Act.put, List.setIfInBounds_toArray, List.set_cons_zero, List.set_cons_succ]
              refine H_one (i := 9) (by decide +kernel) (H_step rfl rfl (fun K hK9 => ?_))
              have hK9 := Lib.hid hK9
              have HB5 := Lib.hid (HB4.out.alloc HB4.out.size (.cells #[.slice none 0 0, .slice none 0 0] 36))
              have HA5 := Lib.hid (HA4.out.alloc (.cells #[.slice none 0 0, .slice none 0 0] 36))
              have HN5 := Lib.hid (HN4.out.alloc (.cells #[.slice none 0 0, .slice none 0 0] 36))
              have HT5 := Lib.hid (Bk.new X4 36 #[.slice none 0 0, .slice none 0 0])
              have hTz : W3.heap.size ≤ X4.heap.size := HB4.out.size
              go_simp
              refine hK9.out _ _ (HSf.out _ HB5.out) ?_
              try simp only [Act.put, List.setIfInBounds_toArray, List.set_cons_zero, List.set_cons_succ]
              generalize (X4.alloc (.cells #[.slice none 0 0, .slice none 0 0] 36)) = X5 at *
              generalize X4.heap.size = T at *
              refine H_one (i := 10) (by decide +kernel) (H_step rfl rfl (fun K hK10 => ?_))
              have hK10 := Lib.hid hK10
              have z0 : X5.cell? ⟨T, 0, none⟩ = some (.slice none 0 0) := HT5.out.cell 0
              have z1 : X5.cell? ⟨T, 1, none⟩ = some (.slice none 0 0) := HT5.out.cell 1
              have z2 := HT5.out.frozen 0
              have z3 := HT5.out.frozen 1
              go_simp
              have HBF := Lib.hid ((HB5.out.setCell (p := ⟨T, 0, none⟩) hTz (.slice A4 ws.length c4)).setCell (p := ⟨T, 1, none⟩) hTz (.slice B4 ns.length d4))
              have HTF := Lib.hid ((HT5.out.set_ 0 (.slice A4 ws.length c4)).set_ 1 (.slice B4 ns.length d4))
              have HAF := Lib.hid (own_set (i := 1) (own_set (i := 0) HA5.out (HT5.out.ne_own HA5.out (by decide)) (.slice A4 ws.length c4)) (HT5.out.ne_own HA5.out (by decide)) (.slice B4 ns.length d4))
              have HNF := Lib.hid (own_set (i := 1) (own_set (i := 0) HN5.out (HT5.out.ne_own HN5.out (by decide)) (.slice A4 ws.length c4)) (HT5.out.ne_own HN5.out (by decide)) (.slice B4 ns.length d4))
              refine hK10.out _ _ (HSf.out _ HBF.out) ?_
              try simp only [Act.put, List.setIfInBounds_toArray, List.set_cons_zero, List.set_cons_succ]
              refine H_end (by decide +kernel) (NoPanic.normal ?_)
              try simp only [Act.put, List.setIfInBounds_toArray, List.set_cons_zero, List.set_cons_succ]
              go_wp2_with fail
              go_meet
              exact ⟨T, A4, c4, B4, d4, rfl, hTz, HTF.out, HAF.out, HNF.out, HBF.out⟩
            · have hK7 := Lib.hid hK7
              have HB4 := Lib.hid (HB3.out.alloc HB3.out.size (.cells #[.slice none 0 0, .slice none 0 0] 36))
              have HF4 := Lib.hid (HF3.out.alloc (.cells #[.slice none 0 0, .slice none 0 0] 36))
              have HA4 := Lib.hid (HA3.out.alloc (.cells #[.slice none 0 0, .slice none 0 0] 36))
              have HT4 := Lib.hid (Bk.new X3 36 #[.slice none 0 0, .slice none 0 0])
              have hTz : W3.heap.size ≤ X3.heap.size := HB3.out.size
              go_simp
              refine hK7.out _ _ (HSf.out _ HB4.out) ?_
              try simp only [Act.put, List.setIfInBounds_toArray, List.set_cons_zero, List.set_cons_succ]
              generalize (X3.alloc (.cells #[.slice none 0 0, .slice none 0 0] 36)) = X4 at *
              generalize X3.heap.size = T at *
              refine H_one (i := 7) (by decide +kernel) (H_step rfl rfl (fun K hK8 => ?_))
              have hK8 := Lib.hid hK8
              refine app_wpM (m := ns.length) (c := c2) (B := A2) (us := triC ns) (.tmp 73) (.tmp 75) rfl elt_tri HF4.out HB4.out.size (by simp [Act.eval]) (by simp [Act.eval]) (Hsl.out _ HB4.out).2 (by rw [triC_len]) (triC_all ns) (by omega) ?_
              intro v5 X5 hown5 hg5
              obtain ⟨B4, d4, rfl⟩ := own_slice hown5
              rw [Nat.zero_add, List.nil_append] at hown5
              rw [Nat.zero_add]
              have HB5 := Lib.hid (HB4.out.grown hg5 HB4.out.size (fun q hq => (HF4.out.lt q hq).1))
              have HN5 := Lib.hid hown5
              have HA5 := Lib.hid (own_grown HA4.out hg5 (own_ne HA4.out HF4.out (by decide)))
              have HT5 := Lib.hid (HT4.out.grown hg5 (HT4.out.ne_own HF4.out (by decide)))
              refine hK8.out _ _ (HSf.out _ HB5.out) ?_
              try simp only [Act.put, List.setIfInBounds_toArray, List.set_cons_zero, List.set_cons_succ]
              refine H_takeD (k := 8) (v := .agg #[.slice A4 ws.length c4, .slice B4 ns.length d4]) (d := some 77) rfl rfl (by decide +kernel) (fun _ _ _ h => h) (Or.inl ⟨by rfl, fun W hW => by obtain ⟨s0, s1⟩ := hW; go_simp⟩) (HSf.out _ HB5.out) ?_
              try simp only [Act.put, List.setIfInBounds_toArray, List.set_cons_zero, List.set_cons_succ]
              refine H_one (i := 10) (by decide +kernel) (H_step rfl rfl (fun K hK10 => ?_))
              have hK10 := Lib.hid hK10
              have z0 : X5.cell? ⟨T, 0, none⟩ = some (.slice none 0 0) := HT5.out.cell 0
              have z1 : X5.cell? ⟨T, 1, none⟩ = some (.slice none 0 0) := HT5.out.cell 1
              have z2 := HT5.out.frozen 0
              have z3 := HT5.out.frozen 1
              go_simp
              have HBF := Lib.hid ((HB5.out.setCell (p := ⟨T, 0, none⟩) hTz (.slice A4 ws.length c4)).setCell (p := ⟨T, 1, none⟩) hTz (.slice B4 ns.length d4))
              have HTF := Lib.hid ((HT5.out.set_ 0 (.slice A4 ws.length c4)).set_ 1 (.slice B4 ns.length d4))
              have HAF := Lib.hid (own_set (i := 1) (own_set (i := 0) HA5.out (HT5.out.ne_own HA5.out (by decide)) (.slice A4 ws.length c4)) (HT5.out.ne_own HA5.out (by decide)) (.slice B4 ns.length d4))
              have HNF := Lib.hid (own_set (i := 1) (own_set (i := 0) HN5.out (HT5.out.ne_own HN5.out (by decide)) (.slice A4 ws.length c4)) (HT5.out.ne_own HN5.out (by decide)) (.slice B4 ns.length d4))
              refine hK10.out _ _ (HSf.out _ HBF.out) ?_
              try simp only [Act.put, List.setIfInBounds_toArray, List.set_cons_zero, List.set_cons_succ]
              refine H_end (by decide +kernel) (NoPanic.normal ?_)
              try simp only [Act.put, List.setIfInBounds_toArray, List.set_cons_zero, List.set_cons_succ]
              go_wp2_with fail
              go_meet
              exact ⟨T, A4, c4, B4, d4, rfl, hTz, HTF.out, HAF.out, HNF.out, HBF.out⟩
          · have hK6 := Lib.hid hK6
            have HB3 := Lib.hid (HB2.out.alloc HB2.out.size (.cells #[.slice none 0 0, .slice none 0 0] 36))
            have HF3 := Lib.hid (HF2.out.alloc (.cells #[.slice none 0 0, .slice none 0 0] 36))
            have HE3 := Lib.hid (HE2.out.alloc (.cells #[.slice none 0 0, .slice none 0 0] 36))
            have HT3 := Lib.hid (Bk.new X2 36 #[.slice none 0 0, .slice none 0 0])
            have hTz : W3.heap.size ≤ X2.heap.size := HB2.out.size
            go_simp
            refine hK6.out _ _ (HSf.out _ HB3.out) ?_
            try simp only [Act.put, List.setIfInBounds_toArray, List.set_cons_zero, List.set_cons_succ]
            generalize (X2.alloc (.cells #[.slice none 0 0, .slice none 0 0] 36)) = X3 at *
            generalize X2.heap.size = T at *
            refine H_one (i := 3) (by decide +kernel) (H_step rfl rfl (fun K hK7 => ?_))
            have hK7 := Lib.hid hK7
            refine app_wpM (m := ws.length) (c := c1) (B := A1) (us := ws.map (Value.int .i64)) (.tmp 69) (.tmp 71) rfl elt_int HE3.out HB3.out.size (by simp [Act.eval]) (by simp [Act.eval]) (Hsl.out _ HB3.out).1 (by simp) (ints_all ws) (by omega) ?_
            intro v4 X4 hown4 hg4
            obtain ⟨A4, c4, rfl⟩ := own_slice hown4
            rw [Nat.zero_add, List.nil_append] at hown4
            rw [Nat.zero_add]
            have HB4 := Lib.hid (HB3.out.grown hg4 HB3.out.size (fun q hq => (HE3.out.lt q hq).1))
            have HA4 := Lib.hid hown4
            have HF4 := Lib.hid (own_grown HF3.out hg4 (own_ne HF3.out HE3.out (by decide)))
            have HT4 := Lib.hid (HT3.out.grown hg4 (HT3.out.ne_own HE3.out (by decide)))
            refine hK7.out _ _ (HSf.out _ HB4.out) ?_
            try simp only [Act.put, List.setIfInBounds_toArray, List.set_cons_zero, List.set_cons_succ]
            refine H_one (i := 7) (by decide +kernel) (H_step rfl rfl (fun K hK8 => ?_))
            have hK8 := Lib.hid hK8
            refine app_wpM (m := ns.length) (c := c2) (B := A2) (us := triC ns) (.tmp 73) (.tmp 75) rfl elt_tri HF4.out HB4.out.size (by simp [Act.eval]) (by simp [Act.eval]) (Hsl.out _ HB4.out).2 (by rw [triC_len]) (triC_all ns) (by omega) ?_
            intro v5 X5 hown5 hg5
            obtain ⟨B4, d4, rfl⟩ := own_slice hown5
            rw [Nat.zero_add, List.nil_append] at hown5
            rw [Nat.zero_add]
            have HB5 := Lib.hid (HB4.out.grown hg5 HB4.out.size (fun q hq => (HF4.out.lt q hq).1))
            have HN5 := Lib.hid hown5
            have HT5 := Lib.hid (HT4.out.grown hg5 (HT4.out.ne_own HF4.out (by decide)))
            have HA5 := Lib.hid (own_grown HA4.out hg5 (own_ne HA4.out HF4.out (by decide)))
            refine hK8.out _ _ (HSf.out _ HB5.out) ?_
            try simp only [Act.put, List.setIfInBounds_toArray, List.set_cons_zero, List.set_cons_succ]
            refine H_takeD (k := 8) (v := .agg #[.slice A4 ws.length c4, .slice B4 ns.length d4]) (d := some 77) rfl rfl (by decide +kernel) (fun _ _ _ h => h) (Or.inl ⟨by rfl, fun W hW => by obtain ⟨s0, s1⟩ := hW; go_simp⟩) (HSf.out _ HB5.out) ?_
            try simp only [Act.put, List.setIfInBounds_toArray, List.set_cons_zero, List.set_cons_succ]
            refine H_one (i := 10) (by decide +kernel) (H_step rfl rfl (fun K hK10 => ?_))
            have hK10 := Lib.hid hK10
            have z0 : X5.cell? ⟨T, 0, none⟩ = some (.slice none 0 0) := HT5.out.cell 0
            have z1 : X5.cell? ⟨T, 1, none⟩ = some (.slice none 0 0) := HT5.out.cell 1
            have z2 := HT5.out.frozen 0
            have z3 := HT5.out.frozen 1
            go_simp
            have HBF := Lib.hid ((HB5.out.setCell (p := ⟨T, 0, none⟩) hTz (.slice A4 ws.length c4)).setCell (p := ⟨T, 1, none⟩) hTz (.slice B4 ns.length d4))
            have HTF := Lib.hid ((HT5.out.set_ 0 (.slice A4 ws.length c4)).set_ 1 (.slice B4 ns.length d4))
            have HAF := Lib.hid (own_set (i := 1) (own_set (i := 0) HA5.out (HT5.out.ne_own HA5.out (by decide)) (.slice A4 ws.length c4)) (HT5.out.ne_own HA5.out (by decide)) (.slice B4 ns.length d4))
            have HNF := Lib.hid (own_set (i := 1) (own_set (i := 0) HN5.out (HT5.out.ne_own HN5.out (by decide)) (.slice A4 ws.length c4)) (HT5.out.ne_own HN5.out (by decide)) (.slice B4 ns.length d4))
            refine hK10.out _ _ (HSf.out _ HBF.out) ?_
            try simp only [Act.put, List.setIfInBounds_toArray, List.set_cons_zero, List.set_cons_succ]
            refine H_end (by decide +kernel) (NoPanic.normal ?_)
            try simp only [Act.put, List.setIfInBounds_toArray, List.set_cons_zero, List.set_cons_succ]
            go_wp2_with fail
            go_meet
            exact ⟨T, A4, c4, B4, d4, rfl, hTz, HTF.out, HAF.out, HNF.out, HBF.out⟩
        · have hK5 := Lib.hid hK5
          have HB2 := Lib.hid (HB1.out.alloc HB1.out.size (.cells #[.slice none 0 0, .slice none 0 0] 36))
          have HF2 := Lib.hid (HF1.out.alloc (.cells #[.slice none 0 0, .slice none 0 0] 36))
          have HT2 := Lib.hid (Bk.new X1 36 #[.slice none 0 0, .slice none 0 0])
          have hTz : W3.heap.size ≤ X1.heap.size := HB1.out.size
          go_simp
          refine hK5.out _ _ (HSf.out _ HB2.out) ?_
          try simp only [Act.put, List.setIfInBounds_toArray, List.set_cons_zero, List.set_cons_succ]
          generalize (X1.alloc (.cells #[.slice none 0 0, .slice none 0 0] 36)) = X2 at *
          generalize X1.heap.size = T at *
          refine H_one (i := 0) (by decide +kernel) (H_step rfl rfl (fun K hK6 => ?_))
          have hK6 := Lib.hid hK6
          have HB3 := Lib.hid (HB2.out.alloc HB2.out.size (.cells #[] 3))
          have HF3 := Lib.hid (HF2.out.alloc (.cells #[] 3))
          have HT3 := Lib.hid (HT2.out.alloc (.cells #[] 3))
          have HE3 := Lib.hid (own_void8 (base := W3.heap.size) (size := 1) (Bk.new X2 3 #[]) HB2.out.size)
          go_simp
          refine hK6.out _ _ (HSf.out _ HB3.out) ?_
          try simp only [Act.put, List.setIfInBounds_toArray, List.set_cons_zero, List.set_cons_succ]
          generalize (X2.alloc (.cells #[] 3)) = X3 at *
          refine H_one (i := 3) (by decide +kernel) (H_step rfl rfl (fun K hK7 => ?_))
          have hK7 := Lib.hid hK7
          refine app_wpM (m := ws.length) (c := c1) (B := A1) (us := ws.map (Value.int .i64)) (.tmp 69) (.tmp 71) rfl elt_int HE3.out HB3.out.size (by simp [Act.eval]) (by simp [Act.eval]) (Hsl.out _ HB3.out).1 (by simp) (ints_all ws) (by omega) ?_
          intro v4 X4 hown4 hg4
          obtain ⟨A4, c4, rfl⟩ := own_slice hown4
          rw [Nat.zero_add, List.nil_append] at hown4
          rw [Nat.zero_add]
          have HB4 := Lib.hid (HB3.out.grown hg4 HB3.out.size (fun q hq => (HE3.out.lt q hq).1))
          have HA4 := Lib.hid hown4
          have HF4 := Lib.hid (own_grown HF3.out hg4 (own_ne HF3.out HE3.out (by decide)))
          have HT4 := Lib.hid (HT3.out.grown hg4 (HT3.out.ne_own HE3.out (by decide)))
          refine hK7.out _ _ (HSf.out _ HB4.out) ?_
          try simp only [Act.put, List.setIfInBounds_toArray, List.set_cons_zero, List.set_cons_succ]
          refine H_one (i := 7) (by decide +kernel) (H_step rfl rfl (fun K hK8 => ?_))
          have hK8 := Lib.hid hK8
          refine app_wpM (m := ns.length) (c := c2) (B := A2) (us := triC ns) (.tmp 73) (.tmp 75) rfl elt_tri HF4.out HB4.out.size (by simp [Act.eval]) (by simp [Act.eval]) (Hsl.out _ HB4.out).2 (by rw [triC_len]) (triC_all ns) (by omega) ?_
          intro v5 X5 hown5 hg5
          obtain ⟨B4, d4, rfl⟩ := own_slice hown5
          rw [Nat.zero_add, List.nil_append] at hown5
          rw [Nat.zero_add]
          have HB5 := Lib.hid (HB4.out.grown hg5 HB4.out.size (fun q hq => (HF4.out.lt q hq).1))
          have HN5 := Lib.hid hown5
          have HT5 := Lib.hid (HT4.out.grown hg5 (HT4.out.ne_own HF4.out (by decide)))
          have HA5 := Lib.hid (own_grown HA4.out hg5 (own_ne HA4.out HF4.out (by decide)))
          refine hK8.out _ _ (HSf.out _ HB5.out) ?_
          try simp only [Act.put, List.setIfInBounds_toArray, List.set_cons_zero, List.set_cons_succ]
          refine H_takeD (k := 8) (v := .agg #[.slice A4 ws.length c4, .slice B4 ns.length d4]) (d := some 77) rfl rfl (by decide +kernel) (fun _ _ _ h => h) (Or.inl ⟨by rfl, fun W hW => by obtain ⟨s0, s1⟩ := hW; go_simp⟩) (HSf.out _ HB5.out) ?_
          try simp only [Act.put, List.setIfInBounds_toArray, List.set_cons_zero, List.set_cons_succ]
          refine H_one (i := 10) (by decide +kernel) (H_step rfl rfl (fun K hK10 => ?_))
          have hK10 := Lib.hid hK10
          have z0 : X5.cell? ⟨T, 0, none⟩ = some (.slice none 0 0) := HT5.out.cell 0
          have z1 : X5.cell? ⟨T, 1, none⟩ = some (.slice none 0 0) := HT5.out.cell 1
          have z2 := HT5.out.frozen 0
          have z3 := HT5.out.frozen 1
          go_simp
          have HBF := Lib.hid ((HB5.out.setCell (p := ⟨T, 0, none⟩) hTz (.slice A4 ws.length c4)).setCell (p := ⟨T, 1, none⟩) hTz (.slice B4 ns.length d4))
          have HTF := Lib.hid ((HT5.out.set_ 0 (.slice A4 ws.length c4)).set_ 1 (.slice B4 ns.length d4))
          have HAF := Lib.hid (own_set (i := 1) (own_set (i := 0) HA5.out (HT5.out.ne_own HA5.out (by decide)) (.slice A4 ws.length c4)) (HT5.out.ne_own HA5.out (by decide)) (.slice B4 ns.length d4))
          have HNF := Lib.hid (own_set (i := 1) (own_set (i := 0) HN5.out (HT5.out.ne_own HN5.out (by decide)) (.slice A4 ws.length c4)) (HT5.out.ne_own HN5.out (by decide)) (.slice B4 ns.length d4))
          refine hK10.out _ _ (HSf.out _ HBF.out) ?_
          try simp only [Act.put, List.setIfInBounds_toArray, List.set_cons_zero, List.set_cons_succ]
          refine H_end (by decide +kernel) (NoPanic.normal ?_)
          try simp only [Act.put, List.setIfInBounds_toArray, List.set_cons_zero, List.set_cons_succ]
          go_wp2_with fail
          go_meet
          exact ⟨T, A4, c4, B4, d4, rfl, hTz, HTF.out, HAF.out, HNF.out, HBF.out⟩
      · have hK4 := Lib.hid hK4
        have HB1 := Lib.hid (HB0.out.alloc HB0.out.size (.cells #[.slice none 0 0, .slice none 0 0] 36))
        have HT1 := Lib.hid (Bk.new X0 36 #[.slice none 0 0, .slice none 0 0])
        have hTz : W3.heap.size ≤ X0.heap.size := HB0.out.size
        go_simp
        refine hK4.out _ _ (HSf.out _ HB1.out) ?_
        try simp only [Act.put, List.setIfInBounds_toArray, List.set_cons_zero, List.set_cons_succ]
        generalize (X0.alloc (.cells #[.slice none 0 0, .slice none 0 0] 36)) = X1 at *
        generalize X0.heap.size = T at *
        refine H_two (i := 0) (j := 4) (by decide +kernel) (H_step rfl rfl (fun K hK5 => ?_)) (H_step rfl rfl (fun K hK5 => ?_))
        · have hK5 := Lib.hid hK5
          have HB2 := Lib.hid (HB1.out.alloc HB1.out.size (.cells #[] 3))
          have HT2 := Lib.hid (HT1.out.alloc (.cells #[] 3))
          have HE2 := Lib.hid (own_void8 (base := W3.heap.size) (size := 1) (Bk.new X1 3 #[]) HB1.out.size)
          go_simp
          refine hK5.out _ _ (HSf.out _ HB2.out) ?_
          try simp only [Act.put, List.setIfInBounds_toArray, List.set_cons_zero, List.set_cons_succ]
          generalize (X1.alloc (.cells #[] 3)) = X2 at *
          refine H_two (i := 3) (j := 4) (by decide +kernel) (H_step rfl rfl (fun K hK6 => ?_)) (H_step rfl rfl (fun K hK6 => ?_))
          · have hK6 := Lib.hid hK6
            refine app_wpM (m := ws.length) (c := c1) (B := A1) (us := ws.map (Value.int .i64)) (.tmp 69) (.tmp 71) rfl elt_int HE2.out HB2.out.size (by simp [Act.eval]) (by simp [Act.eval]) (Hsl.out _ HB2.out).1 (by simp) (ints_all ws) (by omega) ?_
            intro v3 X3 hown3 hg3
            obtain ⟨A4, c4, rfl⟩ := own_slice hown3
            rw [Nat.zero_add, List.nil_append] at hown3
            rw [Nat.zero_add]
            have HB3 := Lib.hid (HB2.out.grown hg3 HB2.out.size (fun q hq => (HE2.out.lt q hq).1))
            have HA3 := Lib.hid hown3
            have HT3 := Lib.hid (HT2.out.grown hg3 (HT2.out.ne_own HE2.out (by decide)))
            refine hK6.out _ _ (HSf.out _ HB3.out) ?_
            try simp only [Act.put, List.setIfInBounds_toArray, List.set_cons_zero, List.set_cons_succ]
            refine H_one (i := 4) (by decide +kernel) (H_step rfl rfl (fun K hK7 => ?_))
            have hK7 := Lib.hid hK7
            have HB4 := Lib.hid (HB3.out.alloc HB3.out.size (.cells #[] 52))
            have HT4 := Lib.hid (HT3.out.alloc (.cells #[] 52))
            have HA4 := Lib.hid (HA3.out.alloc (.cells #[] 52))
            have HF4 := Lib.hid (own_void8 (base := W3.heap.size) (size := 3) (Bk.new X3 52 #[]) HB3.out.size)
            go_simp
            refine hK7.out _ _ (HSf.out _ HB4.out) ?_
            try simp only [Act.put, List.setIfInBounds_toArray, List.set_cons_zero, List.set_cons_succ]
            generalize (X3.alloc (.cells #[] 52)) = X4 at *
            refine H_one (i := 7) (by decide +kernel) (H_step rfl rfl (fun K hK8 => ?_))
            have hK8 := Lib.hid hK8
            refine app_wpM (m := ns.length) (c := c2) (B := A2) (us := triC ns) (.tmp 73) (.tmp 75) rfl elt_tri HF4.out HB4.out.size (by simp [Act.eval]) (by simp [Act.eval]) (Hsl.out _ HB4.out).2 (by rw [triC_len]) (triC_all ns) (by omega) ?_
            intro v5 X5 hown5 hg5
            obtain ⟨B4, d4, rfl⟩ := own_slice hown5
            rw [Nat.zero_add, List.nil_append] at hown5
            rw [Nat.zero_add]
            have HB5 := Lib.hid (HB4.out.grown hg5 HB4.out.size (fun q hq => (HF4.out.lt q hq).1))
            have HN5 := Lib.hid hown5
            have HT5 := Lib.hid (HT4.out.grown hg5 (HT4.out.ne_own HF4.out (by decide)))
            have HA5 := Lib.hid (own_grown HA4.out hg5 (own_ne HA4.out HF4.out (by decide)))
            refine hK8.out _ _ (HSf.out _ HB5.out) ?_
            try simp only [Act.put, List.setIfInBounds_toArray, List.set_cons_zero, List.set_cons_succ]
            refine H_takeD (k := 8) (v := .agg #[.slice A4 ws.length c4, .slice B4 ns.length d4]) (d := some 77) rfl rfl (by decide +kernel) (fun _ _ _ h => h) (Or.inl ⟨by rfl, fun W hW => by obtain ⟨s0, s1⟩ := hW; go_simp⟩) (HSf.out _ HB5.out) ?_
            try simp only [Act.put, List.setIfInBounds_toArray, List.set_cons_zero, List.set_cons_succ]
            refine H_one (i := 10) (by decide +kernel) (H_step rfl rfl (fun K hK10 => ?_))
            have hK10 := Lib.hid hK10
            have z0 : X5.cell? ⟨T, 0, none⟩ = some (.slice none 0 0) := HT5.out.cell 0
            have z1 : X5.cell? ⟨T, 1, none⟩ = some (.slice none 0 0) := HT5.out.cell 1
            have z2 := HT5.out.frozen 0
            have z3 := HT5.out.frozen 1
            go_simp
            have HBF := Lib.hid ((HB5.out.setCell (p := ⟨T, 0, none⟩) hTz (.slice A4 ws.length c4)).setCell (p := ⟨T, 1, none⟩) hTz (.slice B4 ns.length d4))
            have HTF := Lib.hid ((HT5.out.set_ 0 (.slice A4 ws.length c4)).set_ 1 (.slice B4 ns.length d4))
            have HAF := Lib.hid (own_set (i := 1) (own_set (i := 0) HA5.out (HT5.out.ne_own HA5.out (by decide)) (.slice A4 ws.length c4)) (HT5.out.ne_own HA5.out (by decide)) (.slice B4 ns.length d4))
            have HNF := Lib.hid (own_set (i := 1) (own_set (i := 0) HN5.out (HT5.out.ne_own HN5.out (by decide)) (.slice A4 ws.length c4)) (HT5.out.ne_own HN5.out (by decide)) (.slice B4 ns.length d4))
            refine hK10.out _ _ (HSf.out _ HBF.out) ?_
            try simp only [Act.put, List.setIfInBounds_toArray, List.set_cons_zero, List.set_cons_succ]
            refine H_end (by decide +kernel) (NoPanic.normal ?_)
            try simp only [Act.put, List.setIfInBounds_toArray, List.set_cons_zero, List.set_cons_succ]
            go_wp2_with fail
            go_meet
            exact ⟨T, A4, c4, B4, d4, rfl, hTz, HTF.out, HAF.out, HNF.out, HBF.out⟩
          · have hK6 := Lib.hid hK6
            have HB3 := Lib.hid (HB2.out.alloc HB2.out.size (.cells #[] 52))
            have HT3 := Lib.hid (HT2.out.alloc (.cells #[] 52))
            have HE3 := Lib.hid (HE2.out.alloc (.cells #[] 52))
            have HF3 := Lib.hid (own_void8 (base := W3.heap.size) (size := 3) (Bk.new X2 52 #[]) HB2.out.size)
            go_simp
            refine hK6.out _ _ (HSf.out _ HB3.out) ?_
            try simp only [Act.put, List.setIfInBounds_toArray, List.set_cons_zero, List.set_cons_succ]
            generalize (X2.alloc (.cells #[] 52)) = X3 at *
            refine H_one (i := 3) (by decide +kernel) (H_step rfl rfl (fun K hK7 => ?_))
            have hK7 := Lib.hid hK7
            refine app_wpM (m := ws.length) (c := c1) (B := A1) (us := ws.map (Value.int .i64)) (.tmp 69) (.tmp 71) rfl elt_int HE3.out HB3.out.size (by simp [Act.eval]) (by simp [Act.eval]) (Hsl.out _ HB3.out).1 (by simp) (ints_all ws) (by omega) ?_
            intro v4 X4 hown4 hg4
            obtain ⟨A4, c4, rfl⟩ := own_slice hown4
            rw [Nat.zero_add, List.nil_append] at hown4
            rw [Nat.zero_add]
            have HB4 := Lib.hid (HB3.out.grown hg4 HB3.out.size (fun q hq => (HE3.out.lt q hq).1))
            have HA4 := Lib.hid hown4
            have HT4 := Lib.hid (HT3.out.grown hg4 (HT3.out.ne_own HE3.out (by decide)))
            have HF4 := Lib.hid (own_grown HF3.out hg4 (own_ne HF3.out HE3.out (by decide)))
            refine hK7.out _ _ (HSf.out _ HB4.out) ?_
            try simp only [Act.put, List.setIfInBounds_toArray, List.set_cons_zero, List.set_cons_succ]
            refine H_one (i := 7) (by decide +kernel) (H_step rfl rfl (fun K hK8 => ?_))
            have hK8 := Lib.hid hK8
            refine app_wpM (m := ns.length) (c := c2) (B := A2) (us := triC ns) (.tmp 73) (.tmp 75) rfl elt_tri HF4.out HB4.out.size (by simp [Act.eval]) (by simp [Act.eval]) (Hsl.out _ HB4.out).2 (by rw [triC_len]) (triC_all ns) (by omega) ?_
            intro v5 X5 hown5 hg5
            obtain ⟨B4, d4, rfl⟩ := own_slice hown5
            rw [Nat.zero_add, List.nil_append] at hown5
            rw [Nat.zero_add]
            have HB5 := Lib.hid (HB4.out.grown hg5 HB4.out.size (fun q hq => (HF4.out.lt q hq).1))
            have HN5 := Lib.hid hown5
            have HT5 := Lib.hid (HT4.out.grown hg5 (HT4.out.ne_own HF4.out (by decide)))
            have HA5 := Lib.hid (own_grown HA4.out hg5 (own_ne HA4.out HF4.out (by decide)))
            refine hK8.out _ _ (HSf.out _ HB5.out) ?_
            try simp only [Act.put, List.setIfInBounds_toArray, List.set_cons_zero, List.set_cons_succ]
            refine H_takeD (k := 8) (v := .agg #[.slice A4 ws.length c4, .slice B4 ns.length d4]) (d := some 77) rfl rfl (by decide +kernel) (fun _ _ _ h => h) (Or.inl ⟨by rfl, fun W hW => by obtain ⟨s0, s1⟩ := hW; go_simp⟩) (HSf.out _ HB5.out) ?_
            try simp only [Act.put, List.setIfInBounds_toArray, List.set_cons_zero, List.set_cons_succ]
            refine H_one (i := 10) (by decide +kernel) (H_step rfl rfl (fun K hK10 => ?_))
            have hK10 := Lib.hid hK10
            have z0 : X5.cell? ⟨T, 0, none⟩ = some (.slice none 0 0) := HT5.out.cell 0
            have z1 : X5.cell? ⟨T, 1, none⟩ = some (.slice none 0 0) := HT5.out.cell 1
            have z2 := HT5.out.frozen 0
            have z3 := HT5.out.frozen 1
            go_simp
            have HBF := Lib.hid ((HB5.out.setCell (p := ⟨T, 0, none⟩) hTz (.slice A4 ws.length c4)).setCell (p := ⟨T, 1, none⟩) hTz (.slice B4 ns.length d4))
            have HTF := Lib.hid ((HT5.out.set_ 0 (.slice A4 ws.length c4)).set_ 1 (.slice B4 ns.length d4))
            have HAF := Lib.hid (own_set (i := 1) (own_set (i := 0) HA5.out (HT5.out.ne_own HA5.out (by decide)) (.slice A4 ws.length c4)) (HT5.out.ne_own HA5.out (by decide)) (.slice B4 ns.length d4))
            have HNF := Lib.hid (own_set (i := 1) (own_set (i := 0) HN5.out (HT5.out.ne_own HN5.out (by decide)) (.slice A4 ws.length c4)) (HT5.out.ne_own HN5.out (by decide)) (.slice B4 ns.length d4))
            refine hK10.out _ _ (HSf.out _ HBF.out) ?_
            try simp only [Act.put, List.setIfInBounds_toArray, List.set_cons_zero, List.set_cons_succ]
            refine H_end (by decide +kernel) (NoPanic.normal ?_)
            try simp only [Act.put, List.setIfInBounds_toArray, List.set_cons_zero, List.set_cons_succ]
            go_wp2_with fail
            go_meet
            exact ⟨T, A4, c4, B4, d4, rfl, hTz, HTF.out, HAF.out, HNF.out, HBF.out⟩
        · have hK5 := Lib.hid hK5
          have HB2 := Lib.hid (HB1.out.alloc HB1.out.size (.cells #[] 52))
          have HT2 := Lib.hid (HT1.out.alloc (.cells #[] 52))
          have HF2 := Lib.hid (own_void8 (base := W3.heap.size) (size := 3) (Bk.new X1 52 #[]) HB1.out.size)
          go_simp
          refine hK5.out _ _ (HSf.out _ HB2.out) ?_
          try simp only [Act.put, List.setIfInBounds_toArray, List.set_cons_zero, List.set_cons_succ]
          generalize (X1.alloc (.cells #[] 52)) = X2 at *
          refine H_one (i := 0) (by decide +kernel) (H_step rfl rfl (fun K hK6 => ?_))
          have hK6 := Lib.hid hK6
          have HB3 := Lib.hid (HB2.out.alloc HB2.out.size (.cells #[] 3))
          have HT3 := Lib.hid (HT2.out.alloc (.cells #[] 3))
          have HF3 := Lib.hid (HF2.out.alloc (.cells #[] 3))
          have HE3 := Lib.hid (own_void8 (base := W3.heap.size) (size := 1) (Bk.new X2 3 #[]) HB2.out.size)
          go_simp
          refine hK6.out _ _ (HSf.out _ HB3.out) ?_
          try simp only [Act.put, List.setIfInBounds_toArray, List.set_cons_zero, List.set_cons_succ]
          generalize (X2.alloc (.cells #[] 3)) = X3 at *
          refine H_one (i := 3) (by decide +kernel) (H_step rfl rfl (fun K hK7 => ?_))
          have hK7 := Lib.hid hK7
          refine app_wpM (m := ws.length) (c := c1) (B := A1) (us := ws.map (Value.int .i64)) (.tmp 69) (.tmp 71) rfl elt_int HE3.out HB3.out.size (by simp [Act.eval]) (by simp [Act.eval]) (Hsl.out _ HB3.out).1 (by simp) (ints_all ws) (by omega) ?_
          intro v4 X4 hown4 hg4
          obtain ⟨A4, c4, rfl⟩ := own_slice hown4
          rw [Nat.zero_add, List.nil_append] at hown4
          rw [Nat.zero_add]
          have HB4 := Lib.hid (HB3.out.grown hg4 HB3.out.size (fun q hq => (HE3.out.lt q hq).1))
          have HA4 := Lib.hid hown4
          have HT4 := Lib.hid (HT3.out.grown hg4 (HT3.out.ne_own HE3.out (by decide)))
          have HF4 := Lib.hid (own_grown HF3.out hg4 (own_ne HF3.out HE3.out (by decide)))
          refine hK7.out _ _ (HSf.out _ HB4.out) ?_
          try simp only [Act.put, List.setIfInBounds_toArray, List.set_cons_zero, List.set_cons_succ]
          refine H_one (i := 7) (by decide +kernel) (H_step rfl rfl (fun K hK8 => ?_))
          have hK8 := Lib.hid hK8
          refine app_wpM (m := ns.length) (c := c2) (B := A2) (us := triC ns) (.tmp 73) (.tmp 75) rfl elt_tri HF4.out HB4.out.size (by simp [Act.eval]) (by simp [Act.eval]) (Hsl.out _ HB4.out).2 (by rw [triC_len]) (triC_all ns) (by omega) ?_
          intro v5 X5 hown5 hg5
          obtain ⟨B4, d4, rfl⟩ := own_slice hown5
          rw [Nat.zero_add, List.nil_append] at hown5
          rw [Nat.zero_add]
          have HB5 := Lib.hid (HB4.out.grown hg5 HB4.out.size (fun q hq => (HF4.out.lt q hq).1))
          have HN5 := Lib.hid hown5
          have HT5 := Lib.hid (HT4.out.grown hg5 (HT4.out.ne_own HF4.out (by decide)))
          have HA5 := Lib.hid (own_grown HA4.out hg5 (own_ne HA4.out HF4.out (by decide)))
          refine hK8.out _ _ (HSf.out _ HB5.out) ?_
          try simp only [Act.put, List.setIfInBounds_toArray, List.set_cons_zero, List.set_cons_succ]
          refine H_takeD (k := 8) (v := .agg #[.slice A4 ws.length c4, .slice B4 ns.length d4]) (d := some 77) rfl rfl (by decide +kernel) (fun _ _ _ h => h) (Or.inl ⟨by rfl, fun W hW => by obtain ⟨s0, s1⟩ := hW; go_simp⟩) (HSf.out _ HB5.out) ?_
          try simp only [Act.put, List.setIfInBounds_toArray, List.set_cons_zero, List.set_cons_succ]
          refine H_one (i := 10) (by decide +kernel) (H_step rfl rfl (fun K hK10 => ?_))
          have hK10 := Lib.hid hK10
          have z0 : X5.cell? ⟨T, 0, none⟩ = some (.slice none 0 0) := HT5.out.cell 0
          have z1 : X5.cell? ⟨T, 1, none⟩ = some (.slice none 0 0) := HT5.out.cell 1
          have z2 := HT5.out.frozen 0
          have z3 := HT5.out.frozen 1
          go_simp
          have HBF := Lib.hid ((HB5.out.setCell (p := ⟨T, 0, none⟩) hTz (.slice A4 ws.length c4)).setCell (p := ⟨T, 1, none⟩) hTz (.slice B4 ns.length d4))
          have HTF := Lib.hid ((HT5.out.set_ 0 (.slice A4 ws.length c4)).set_ 1 (.slice B4 ns.length d4))
          have HAF := Lib.hid (own_set (i := 1) (own_set (i := 0) HA5.out (HT5.out.ne_own HA5.out (by decide)) (.slice A4 ws.length c4)) (HT5.out.ne_own HA5.out (by decide)) (.slice B4 ns.length d4))
          have HNF := Lib.hid (own_set (i := 1) (own_set (i := 0) HN5.out (HT5.out.ne_own HN5.out (by decide)) (.slice A4 ws.length c4)) (HT5.out.ne_own HN5.out (by decide)) (.slice B4 ns.length d4))
          refine hK10.out _ _ (HSf.out _ HBF.out) ?_
          try simp only [Act.put, List.setIfInBounds_toArray, List.set_cons_zero, List.set_cons_succ]
          refine H_end (by decide +kernel) (NoPanic.normal ?_)
          try simp only [Act.put, List.setIfInBounds_toArray, List.set_cons_zero, List.set_cons_succ]
          go_wp2_with fail
          go_meet
          exact ⟨T, A4, c4, B4, d4, rfl, hTz, HTF.out, HAF.out, HNF.out, HBF.out⟩
    case rest =>
    obtain ⟨T, A4, c4, B4, d4, rfl, hTz, hT, hoA, hoB, hbx⟩ := hcut
    obtain ⟨w8, rfl⟩ : ∃ x, x = wc := ⟨wc, rfl⟩
    have HT8 := Lib.hid hT
    have HoA := Lib.hid hoA
    have HoB := Lib.hid hoB
    have HB8 := Lib.hid hbx
    have HL8 := Lib.hid (⟨hT, hoA, hoB, Lch.refl Fl ws ns, GV.of Hv.out, hbx⟩ : LW W3 w8 T A4 B4 c4 d4 Fl ws ws ns ns)
    have hF0 := part_ne Hd.out
    clear hT hoA hoB hbx HT8 HoA HoB HB8
    go_wp2_with fail
    go_loopw [18] (fun v wr => ∃ (i : Nat) (xs : List Int) (ts : List (Int × Int × Int)), i ≤ bs.length ∧ i ≤ 6 ∧ v = .int .i64 i ∧ LW W3 wr T A4 B4 c4 d4 Fl ws xs ns ts) (fun v _ => 6 - (intOf v).toNat)
    case atStart => exact ⟨0, ws, ns, by omega, by omega, rfl, HL8.out⟩
    case round =>
      obtain ⟨i, xs, ts, hi, hi6, rfl, hL⟩ := hrel
      by_cases hgo : i < bs.length ∧ i < 6
      · obtain ⟨h1, h2⟩ := hgo
        have hl0 : (0 : Int) < Fl.length := by omega
        obtain ⟨bC, oC, x, rfl, hcC, hx⟩ := (HC.out _ (Hb7.out.trans (hL.bl.mono hz3))).get (k := i) h1
        have hxb := Hwb.out x (List.mem_of_getElem? hx.out)
        obtain ⟨hn1, hn2⟩ := around_bd x 1048576 (by omega)
        have Han := Lib.hid (fun W => around_any x 1048576 W hxb.1 hxb.2 (by omega) (by omega))
        generalize around x 1048576 = n at *
        have hm1 := Int.emod_nonneg n (b := (Fl.length : Int)) (by omega)
        have hm2 := Int.emod_lt_of_pos n hl0
        obtain ⟨kn, hkn⟩ := Int.eq_ofNat_of_zero_le hm1
        have hrm : n.tmod (Fl.length : Int) = (kn : Int) := by rw [Int.tmod_eq_emod_of_nonneg hn1]; exact hkn
        have hkn2 : kn < Fl.length := by omega
        obtain ⟨bF, oF, y, rfl, hcF, hy⟩ := (HF7.out.below hL.bl).get (k := kn) hkn2
        have hym := List.mem_of_getElem? hy.out
        obtain ⟨fc, rfl, hfc⟩ := HFb.out y hym
        have q0 : wr.cell? ⟨T, 0, none⟩ = some (.slice A4 ws.length c4) := hL.bk.cell 0
        obtain ⟨gA, cA, hvA, hgA, _⟩ := hL.a.form (by omega)
        injection hvA with e1 _ e3
        subst e1 e3
        obtain ⟨bx, ox, z, he, hcz, _⟩ := (own_si hL.a).get (k := fc) (by rw [hL.lc.lw]; exact hfc)
        injection he with he
        injection he with he1 he2
        subst he1 he2
        rw [Nat.zero_add] at hcz
        obtain ⟨cur, hcur, -⟩ := own_bk2 hL.a
        have hfx := hcur.frozen fc
        have hqd : n.tdiv 64 = n / 64 := by rw [Int.tdiv_eq_ediv_of_nonneg hn1]
        have hqm : (n / 64).tmod 30 = n / 64 % 30 := by rw [Int.tmod_eq_emod_of_nonneg (by omega)]
        have HL2 := Lib.hid (hL.setW hym (x := n / 64 % 30) (by omega))
        have Hym := Lib.hid hym
        have i0 : (0 : Int) ≤ (i : Int) := by omega
        have k0 : (0 : Int) ≤ (kn : Int) := by omega
        have f0 : (0 : Int) ≤ (fc : Int) := by omega
        clear hL hx hy hkn hm1 hm2 hxb hcur hym
        go_wp2_with fail
        refine (Han.out _).mono ?_
        rintro e wz ⟨rfl, rfl⟩
        clear Han
        go_wp2_with fail
        go_loopw [21] (fun v wr2 => ∃ (j : Nat) (ts2 : List (Int × Int × Int)), j ≤ ns.length ∧ v = .int .i64 j ∧ LW W3 wr2 T (some ⟨gA, 0, none⟩) B4 c4 d4 Fl ws (xs.set fc (n / 64 % 30)) ns ts2) (fun v _ => ns.length - (intOf v).toNat)
        case atStart => exact ⟨0, ts, by omega, rfl, HL2.out⟩
        case round =>
          obtain ⟨j, ts2, hj, rfl, hL3⟩ := hrel
          have q1 : wr.cell? ⟨T, 1, none⟩ = some (.slice B4 ns.length d4) := hL3.bk.cell 1
          by_cases hlj : j < ns.length
          · obtain ⟨gB, cB, hvB, hgB, _⟩ := hL3.b.form (by omega)
            injection hvB with e1 _ e3
            subst e1 e3
            have hst : ST wr (some ⟨gB, 0, none⟩) ts2 := SL.of_own hL3.b
            obtain ⟨b2, o2, x1, y1, z1, he, e0, _, e2, hxyz⟩ := hst.get (k := j) (by rw [hL3.lc.ln]; exact hlj)
            injection he with he
            injection he with he1 he2
            subst he1 he2
            rw [Nat.zero_add] at e0 e2
            obtain ⟨cur, hcur, -⟩ := own_bk2 hL3.b
            have hfx := hcur.frozen (j * 3 + 2)
            have j0 : (0 : Int) ≤ (j : Int) := by omega
            by_cases hxe : x1 = (fc : Int)
            · subst hxe
              have hqd7 : n.tdiv 7 = n / 7 := by rw [Int.tdiv_eq_ediv_of_nonneg hn1]
              have hqm9 : (n / 7).tmod 9 = n / 7 % 9 := by rw [Int.tmod_eq_emod_of_nonneg (by omega)]
              have HL4 := Lib.hid (hL3.setN hxyz.out Hym.out (x := 1 + n / 7 % 9) (by omega))
              clear hL3 hst hxyz hcur HL2 HL8 hrm hqd hqm
              go_wp2_with fail
              go_roundw
              case rel => exact ⟨j + 1, _, by omega, by go_num, HL4.out⟩
              case measure => simp [intOf]; omega
            · have HL4 := Lib.hid hL3
              clear hL3 hst hxyz hcur HL2 HL8 hrm hqd hqm
              go_wp2_with fail
              go_roundw
              case rel => exact ⟨j + 1, _, by omega, by go_num, HL4.out⟩
              case measure => simp [intOf]; omega
          · obtain rfl : j = ns.length := by omega
            have HL4 := Lib.hid hL3
            clear hL3 HL2 HL8 hrm hqd hqm
            go_wp2_with fail
            go_roundw
            case rel => exact ⟨i + 1, _, ts2, by omega, by omega, by go_num, HL4.out⟩
            case measure => simp [intOf]; omega
      · have HK8 := Lib.hid (HK7.out.below hL.bl)
        have Hb8 := Lib.hid (Hb7.out.trans (hL.bl.mono hz3))
        have HT8 := Lib.hid hL.bk
        have HoA := Lib.hid hL.a
        have HoB := Lib.hid hL.b
        have Hvx := Lib.hid hL.gv.ok
        have hlx : xs.length = ws.length := hL.lc.lw
        have hlt : ts.length = ns.length := hL.lc.ln
        have Hnews := Lib.hid (hL.lc.news (GV.of Hv.out) Hd.out)
        have Hset := Lib.hid (fun (W : World) (hK : KP W p F2 ls ws ns wk) (h1 : ∀ W', W.grownBy W' (some p) → SI W' A4 xs) (h2 : ∀ W', W.grownBy W' (some p) → ST W' B4 ts) => set_any p F2 A4 B4 c4 d4 ls ws xs ns ts wk W hK h1 h2 (by omega) (by omega) (by omega))
        rw [hlx, hlt] at Hset
        have hex : ¬ i < bs.length ∨ (i < bs.length ∧ ¬ i < 6) := by omega
        clear hL HL8 hgo
        rcases hex with h1 | ⟨h1, h2⟩
        all_goals
          go_wp2_with fail
          refine (work_any p F2 ls ws ns wk wr HK8.out).mono ?_
          rintro e w9 ⟨rfl, hq⟩
          have HK9 := Lib.hid (HK8.out.below (hq.below _))
          have HoA := Lib.hid (own_qt HoA.out hq)
          have HoB := Lib.hid (own_qt HoB.out hq)
          have HT9 := Lib.hid (HT8.out.qt hq)
          have Hb9 := Lib.hid (hq.bl Hb8.out)
          have hq0 : w9.cell? ⟨T, 0, none⟩ = some (.slice A4 ws.length c4) := HT9.out.cell 0
          have hq1 : w9.cell? ⟨T, 1, none⟩ = some (.slice B4 ns.length d4) := HT9.out.cell 1
          clear hq HK8 HT8 Hb8
          go_wp2_with fail
          clear hq0 hq1
          refine (Hset.out w9 HK9.out (HK9.out.siO HoA.out) (HK9.out.stO HoB.out)).mono ?_
          rintro e w10 ⟨_, hok⟩
          obtain ⟨he, hg, F3, hK, _⟩ := hok Hvx.out
          subst he
          have HK10 := Lib.hid hK
          have Hb10 := Lib.hid (far_p Hb9.out (Hbz.out _ Hb9.out) hSp hg)
          clear hok hK hg HK9 HT9 Hb9
          rcases Hnews.out with ⟨e1, e2⟩ | ⟨e1, e2, e3⟩
          · rw [e2, Int.add_zero] at HK10
            rw [e1]
            have hws : IntKind.i64.wrap (wk - wk) = 0 := by rw [Int.sub_self]; rfl
            go_wp2_with fail
            refine (work_any p F3 ls xs ts wk w10 HK10.out).mono ?_
            rintro e w11 ⟨rfl, hq⟩
            have HK11 := Lib.hid (HK10.out.below (hq.below _))
            have Hb11 := Lib.hid (hq.bl Hb10.out)
            clear hq HK10 Hb10
            go_wp2_with fail
            refine (work_any p F3 ls xs ts wk w11 HK11.out).mono ?_
            rintro e w12 ⟨rfl, hq⟩
            have Hb12 := Lib.hid (hq.bl Hb11.out)
            clear hq HK11 Hb11
            go_wp2_with fail
            refine (lives_any _).mono ?_
            rintro e w13 ⟨rfl, hb13⟩
            go_wp2_with fail
            go_ret
            exact ⟨rfl, by rw [hSz.out]; exact Hb12.out.trans (hb13.mono (Hbz.out _ Hb12.out))⟩
          · rw [e2] at HK10
            rw [e1]
            have hws : IntKind.i64.wrap (wk + (Fl.length : Int) - wk) = (Fl.length : Int) := by rw [IntWalk.i64_in _ (by omega)]; omega
            have hbe : (wk + (Fl.length : Int) == wk) = false := beq_eq_false_iff_ne.2 (by omega)
            go_wp2_with fail
            refine (work_any p F3 ls xs ts (wk + (Fl.length : Int)) w10 HK10.out).mono ?_
            rintro e w11 ⟨rfl, hq⟩
            have HK11 := Lib.hid (HK10.out.below (hq.below _))
            have Hb11 := Lib.hid (hq.bl Hb10.out)
            clear hq HK10 Hb10
            go_wp2_with fail
            refine (work_any p F3 ls xs ts (wk + (Fl.length : Int)) w11 HK11.out).mono ?_
            rintro e w12 ⟨rfl, hq⟩
            have Hb12 := Lib.hid (hq.bl Hb11.out)
            clear hq HK11 Hb11
            go_wp2_with fail
            refine (lives_any _).mono ?_
            rintro e w13 ⟨rfl, hb13⟩
            go_wp2_with fail
            go_ret
            exact ⟨rfl, by rw [hSz.out]; exact Hb12.out.trans (hb13.mono (Hbz.out _ Hb12.out))⟩
end Go.Proofs.Ytmdgdphhedgojaa
