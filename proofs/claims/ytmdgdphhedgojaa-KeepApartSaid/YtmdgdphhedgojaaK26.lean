import Derived.Test.YtmdgdphhedgojaaK25
import Derived.Deep.DeepCutAuto
namespace Go.Proofs.Ytmdgdphhedgojaa
open Go.RowKit Go.Maps

theorem incD_le {ws ws' : List Int} {ns ns' : List (Int × Int × Int)} (hv : validE ws' ns' = 0) : 0 ≤ incD (newsD (partsD ws ns) (partsD ws' ns')) ∧ incD (newsD (partsD ws ns) (partsD ws' ns')) ≤ 16777216 := by
  have h1 := incD_bd (l := newsD (partsD ws ns) (partsD ws' ns')) (fun d hd => by
    obtain ⟨j, hj, rfl⟩ := List.getElem_of_mem (List.mem_filter.1 hd).1
    exact (partsD_ib hv (List.getElem?_eq_getElem hj)).2.2.2.2)
  have h2 := newsD_len (partsD ws ns) (partsD ws' ns')
  have h3 : (partsD ws' ns').length ≤ 4096 := by
    rw [partsD, partsO, List.length_map]
    have := rts_len (comp ns' ws'.length) ws'.length
    have := (validE_good hv).1
    omega
  omega

theorem lists_lens {ws : List Int} {ns : List (Int × Int × Int)} {ls : List Int} : ∀ l ∈ lists ws ns ls, l.length = ws.length := fun l hl => by
  obtain ⟨s, hs, rfl⟩ := List.getElem_of_mem hl
  rw [lists_len] at hs
  have h := lists_at (ws := ws) (ns := ns) (ls := ls) hs
  rw [List.getElem?_eq_getElem (by rw [lists_len]; exact hs)] at h
  rw [Option.some.inj h, ix_len, (ofAt_cn ws ns ls s).2]

set_option linter.unusedSimpArgs false in
set_option maxHeartbeats 8000000 in
set_option maxRecDepth 100000 in
theorem apart_walk (A B : Option Addr) (c d : Nat) (l k : List Int) (which : Int) (w : World) (hA : SI w A l) (hB : SI w B k) (hwl : W64 l) (hwk : W64 k) (hwh : i64 which) :
    Calls Try.prog 4 #[.slice A l.length c, .slice B k.length d, .int .i64 which] w fun e w' => e = .returned (.bool true) ∧ Below w.heap.size w w' := by
  obtain ⟨S, hSz⟩ : ∃ S, Hid (w.heap.size = S) := ⟨_, Lib.hid rfl⟩
  have HA := Lib.hid (fun (W : World) (hW : Below S w W) => (hA.below (hSz.out.symm ▸ hW) : SI W A l))
  have Hbz := Lib.hid (fun (W : World) (hW : Below S w W) => (show S ≤ W.heap.size by have := hW.size; have := hSz.out; omega))
  go_enter Try.func4, Try.ntmps4
  go_wp2_with fail
  refine (least_any B d k w hB hwk).mono ?_
  rintro e w1 ⟨v3, ls, rfl, hown3, hT, hb1⟩
  obtain ⟨A3, c3, rfl⟩ := own_slice hown3
  have m1 := hT.n1
  have m2 := hT.n2
  have hthr := hT.ok (by omega)
  rw [hSz.out] at hown3 hb1
  have Hls := Lib.hid hown3
  have Hb1 := Lib.hid hb1
  have Hthr := Lib.hid hthr
  clear hA hB hwk hT hown3 hb1 hthr
  go_wp2_with fail
  refine (new_any A3 c3 ls w1 (own_si Hls.out) (by omega)).mono ?_
  rintro e w2 ⟨hb2, hok, _⟩
  obtain ⟨p, F1, rfl, hpz, hKP, _⟩ := hok Hthr.out
  have hSp : S ≤ p := Nat.le_trans (Hbz.out _ Hb1.out) hpz
  have HK2 := Lib.hid hKP
  have Hb2 := Lib.hid (Hb1.out.trans (hb2.mono (Hbz.out _ Hb1.out)))
  have Hls := Lib.hid (own_below Hls.out hb2)
  clear hok hKP hb2 hpz
  go_wp2_with fail
  refine (some_any A c l 20 w2 (HA.out _ Hb2.out) hwl (by omega) (by omega)).mono ?_
  rintro e w3 ⟨v1, v2, ws, ns, rfl, hown1, hown2, hG, hb3⟩
  obtain ⟨A1, c1, rfl⟩ := own_slice hown1
  obtain ⟨A2, c2, rfl⟩ := own_slice hown2
  have n1 := hG.n1
  have n2 := hG.n2
  have n3 := hG.n3
  have Hv := Lib.hid (hG.ok (by omega) (by omega))
  have hz2 := Hbz.out _ Hb2.out
  have Ho1 := Lib.hid ((own_mono hown1 hz2).alloc (.cells #[.slice A1 ws.length c1, .slice A2 ns.length c2] 30))
  have Ho2 := Lib.hid ((own_mono hown2 hz2).alloc (.cells #[.slice A1 ws.length c1, .slice A2 ns.length c2] 30))
  have Hls := Lib.hid ((own_below Hls.out hb3).alloc (.cells #[.slice A1 ws.length c1, .slice A2 ns.length c2] 30))
  have HK3 := Lib.hid ((HK2.out.below hb3).below ((Below.refl _ _).alloc (Nat.le_refl _) (.cells #[.slice A1 ws.length c1, .slice A2 ns.length c2] 30)))
  have hb23 := Hb2.out.trans (hb3.mono hz2)
  have Hb3 := Lib.hid (hb23.alloc (Hbz.out _ hb23) (.cells #[.slice A1 ws.length c1, .slice A2 ns.length c2] 30))
  have Hg3 := Lib.hid (Bk.new w3 30 #[.slice A1 ws.length c1, .slice A2 ns.length c2])
  have hq0 : (w3.alloc (.cells #[.slice A1 ws.length c1, .slice A2 ns.length c2] 30)).cell? ⟨w3.heap.size, 0, none⟩ = some (.slice A1 ws.length c1) := Hg3.out.cell 0
  have hq1 : (w3.alloc (.cells #[.slice A1 ws.length c1, .slice A2 ns.length c2] 30)).cell? ⟨w3.heap.size, 1, none⟩ = some (.slice A2 ns.length c2) := Hg3.out.cell 1
  clear hown1 hown2 hb3 hb23 HK2 Hb2 Hb1 hG
  go_wp2_with fail
  clear hq0 hq1
  generalize w3.alloc (.cells #[.slice A1 ws.length c1, .slice A2 ns.length c2] 30) = W3 at *
  generalize w3.heap.size = tg at *
  refine (own_any A1 A2 c1 c2 ws.length ns.length W3).mono ?_
  rintro e w4 ⟨rfl, hb4⟩
  have Ho1 := Lib.hid (own_below Ho1.out hb4)
  have Ho2 := Lib.hid (own_below Ho2.out hb4)
  have Hls := Lib.hid (own_below Hls.out hb4)
  have HK4 := Lib.hid (HK3.out.below hb4)
  have Hg4 := Lib.hid (Hg3.out.below hb4 Hg3.out.lt)
  have Hb4 := Lib.hid (Hb3.out.trans (hb4.mono (Hbz.out _ Hb3.out)))
  clear hb4 HK3 Hg3 Hb3
  go_wp2_with fail
  refine (set_any p F1 A1 A2 c1 c2 ls [] ws [] ns 0 w4 HK4.out (HK4.out.siO Ho1.out) (HK4.out.stO Ho2.out) (by omega) (by omega) (by omega)).mono ?_
  rintro e w5 ⟨_, hok⟩
  obtain ⟨he, hg, F2, hK, _⟩ := hok Hv.out
  subst he
  have Ho1 := Lib.hid (HK4.out.own Ho1.out (by decide) hg)
  have Ho2 := Lib.hid (HK4.out.own Ho2.out (by decide) hg)
  have Hls := Lib.hid (HK4.out.own Hls.out (by decide) hg)
  have Hg5 := Lib.hid (HK4.out.bk Hg4.out (by decide) hg)
  have Hb5 := Lib.hid (far_p Hb4.out (Hbz.out _ Hb4.out) hSp hg)
  have HK5 := Lib.hid hK
  have hq0 : w5.cell? ⟨tg, 0, none⟩ = some (.slice A1 ws.length c1) := Hg5.out.cell 0
  have hq1 : w5.cell? ⟨tg, 1, none⟩ = some (.slice A2 ns.length c2) := Hg5.out.cell 1
  clear hok hg hK HK4 Hg4 Hb4
  generalize 0 + incD (newsD (partsD [] []) (partsD ws ns)) = wk at *
  generalize (newsD (partsD [] []) (partsD ws ns)).length = many at *
  go_wp2_with fail
  clear hq0 hq1
  refine (own_any A1 A2 c1 c2 ws.length ns.length w5).mono ?_
  rintro e w6 ⟨rfl, hb6⟩
  have Ho1 := Lib.hid (own_below Ho1.out hb6)
  have Ho2 := Lib.hid (own_below Ho2.out hb6)
  have Hls := Lib.hid (own_below Hls.out hb6)
  have HK6 := Lib.hid (HK5.out.below hb6)
  have Hg6 := Lib.hid (Hg5.out.below hb6 Hg5.out.lt)
  have Hb6 := Lib.hid (Hb5.out.trans (hb6.mono (Hbz.out _ Hb5.out)))
  clear hb6 HK5 Hg5 Hb5
  go_wp2_with fail
  refine (partsX_any A1 A2 c1 c2 ws ns w6 (own_si Ho1.out) (SL.of_own Ho2.out) (by omega) (by omega)).mono ?_
  rintro e w7 ⟨hb7, hok, _⟩
  obtain ⟨DL, mL, rfl, hL⟩ := hok Hv.out
  have Ho1 := Lib.hid (own_below Ho1.out hb7)
  have Ho2 := Lib.hid (own_below Ho2.out hb7)
  have Hls := Lib.hid (own_below Hls.out hb7)
  have HK7 := Lib.hid (HK6.out.below hb7)
  have Hg7 := Lib.hid (Hg6.out.below hb7 Hg6.out.lt)
  have Hb7 := Lib.hid (Hb6.out.trans (hb7.mono (Hbz.out _ Hb6.out)))
  have HL7 := Lib.hid (fun (W : World) (hW : Below w7.heap.size w7 W) => hL W (Up.of_below hW))
  clear hok hL hb7 HK6 Hg6 Hb6
  go_wp2_with fail
  refine (chain_any p F2 ls ws ns wk w7 HK7.out).mono ?_
  rintro e w8 ⟨DC, mC, vs, rfl, hown, hLL, hb8⟩
  have hw5 : ∀ l ∈ lists ws ns ls, l.length ≤ 1099511627776 := fun l hl => by rw [lists_lens l hl]; omega
  have hz7 := Hbz.out _ Hb7.out
  have HC8 := Lib.hid ((SLL.of_rows hown hLL.ll hw5).below ((Below.refl _ _).alloc (Nat.le_refl _) (.cells #[.slice DC ls.length mC] 40)))
  have Ho1 := Lib.hid ((own_below Ho1.out hb8).alloc (.cells #[.slice DC ls.length mC] 40))
  have Ho2 := Lib.hid ((own_below Ho2.out hb8).alloc (.cells #[.slice DC ls.length mC] 40))
  have Hls := Lib.hid ((own_below Hls.out hb8).alloc (.cells #[.slice DC ls.length mC] 40))
  have Hg8 := Lib.hid ((Hg7.out.below hb8 Hg7.out.lt).alloc (.cells #[.slice DC ls.length mC] 40))
  have HL8 := Lib.hid (HL7.out _ (hb8.trans ((Below.refl w7.heap.size w8).alloc hb8.size (.cells #[.slice DC ls.length mC] 40))))
  have hb78 := Hb7.out.trans (hb8.mono hz7)
  have Hb8 := Lib.hid (hb78.alloc (Hbz.out _ hb78) (.cells #[.slice DC ls.length mC] 40))
  have Hc8 := Lib.hid (Bk.new w8 40 #[.slice DC ls.length mC])
  have hq2 : (w8.alloc (.cells #[.slice DC ls.length mC] 40)).cell? ⟨w8.heap.size, 0, none⟩ = some (.slice DC ls.length mC) := Hc8.out.cell 0
  clear hown hLL hb8 hb78 hw5 HK7 Hg7 Hb7 HL7
  obtain ⟨ds, hds⟩ : ∃ ds, Hid (partsD ws ns = ds) := ⟨_, Lib.hid rfl⟩
  have hfl : (facesOf (partsD ws ns)).length = ds.length := by rw [hds.out, facesOf, List.length_map]
  have hdl : ds.length ≤ 4096 := by rw [← hds.out, partsD, partsO, List.length_map]; have := rts_len (comp ns ws.length) ws.length; omega
  rw [hfl]
  by_cases h0 : ds.length = 0
  · rw [h0]
    go_wp2_with fail
    refine (lives_any _).mono ?_
    rintro e w9 ⟨rfl, hb9⟩
    go_wp2_with fail
    go_ret
    exact ⟨rfl, by rw [hSz.out]; exact Hb8.out.trans (hb9.mono (Hbz.out _ Hb8.out))⟩
  · have hd1 : (1 : Int) ≤ ds.length := by omega
    have Hwh := Lib.hid hwh
    obtain ⟨hk1, hk2⟩ := around_bd which ds.length hd1
    have Har := Lib.hid (fun W => around_any which ds.length W hwh.1 hwh.2 hd1 (by omega))
    generalize around which ds.length = k' at *
    obtain ⟨kp, rfl⟩ := Int.eq_ofNat_of_zero_le hk1
    have hkl : kp < ds.length := by omega
    obtain ⟨bL, oL, BF, cF, Fl, rfl, hcF, hsF, hFl⟩ := HL8.out.get (k := kp) (by rw [hfl]; exact hkl)
    obtain ⟨r, Wl, Nl, hd, hFe, hWe, hNe⟩ : ∃ (r : Nat) (Wl : List Int) (Nl : List (Int × Int × Int)), (partsD ws ns)[kp]? = some (Fl, Wl, Nl) ∧ Fl = flI (inP (comp ns ws.length) r) ws.length ∧ Wl = inW ws (inP (comp ns ws.length) r) ws.length ∧ Nl = inN ns (inP (comp ns ws.length) r) := by
      have h1 := hFl.out
      rw [facesOf, List.getElem?_map] at h1
      cases hx : (partsD ws ns)[kp]? with
      | none => rw [hx] at h1; cases h1
      | some d =>
        obtain ⟨f0, W0, N0⟩ := d
        rw [hx] at h1
        obtain rfl : f0 = Fl := Option.some.inj h1
        obtain ⟨r, _, e1, e2, e3⟩ := partsD_at hx
        exact ⟨r, W0, N0, rfl, e1, e2, e3⟩
    have Hvl := Lib.hid (partsD_valid Hv.out hd)
    have HI := Lib.hid (partsD_ib Hv.out hd)
    have hfll : Fl.length ≤ 4096 := HI.out.2.2.2.2
    have hWll : Wl.length ≤ 5000 := HI.out.2.2.1
    have hNll : Nl.length ≤ 16384 := HI.out.2.2.2.1
    have Hsh := Lib.hid (shut_part (validE_eok Hv.out) r)
    have Hd := Lib.hid hd
    have HP := Lib.hid (fun s => (pok_part (ls := ls) (s := s) (validE_eok Hv.out) hd))
    have HF8 := Lib.hid hsF
    have hd0 : (0 : Int) ≤ (kp : Int) := by omega
    have hq3 : (w8.alloc (.cells #[.slice DC ls.length mC] 40)).cell? ⟨tg, 0, none⟩ = some (.slice A1 ws.length c1) := Hg8.out.cell 0
    have hq4 : (w8.alloc (.cells #[.slice DC ls.length mC] 40)).cell? ⟨tg, 1, none⟩ = some (.slice A2 ns.length c2) := Hg8.out.cell 1
    have HFe := Lib.hid hFe
    have HWe := Lib.hid (And.intro hWe hNe)
    clear hd hsF hk1 hFe hWe hNe hwh
    go_wp2_with fail
    refine (Har.out _).mono ?_
    rintro e w9 ⟨rfl, rfl⟩
    clear Har
    go_wp2_with fail
    generalize hW8 : w8.alloc (.cells #[.slice DC ls.length mC] 40) = W8 at *
    clear hW8
    generalize w8.heap.size = tc at *
    have hin := refInput_any A1 A2 BF c1 c2 cF ws ns (inP (comp ns ws.length) r) W8 (own_si Ho1.out) (SL.of_own Ho2.out) (HFe.out ▸ HF8.out) Hsh.out (by omega) (by omega)
    rw [← HFe.out, ← HWe.out.1, ← HWe.out.2] at hin
    refine hin.mono ?_
    rintro e w10 ⟨A5, a5, B5, b5, rfl, ho5, hn5, hb10⟩
    have hz8 := Hbz.out _ Hb8.out
    have Hc10 := Lib.hid (Hc8.out.below hb10 Hc8.out.lt)
    have Hg10 := Lib.hid (Hg8.out.below hb10 Hg8.out.lt)
    have HC10 := Lib.hid (HC8.out.below hb10)
    have HF10 := Lib.hid (HF8.out.below hb10)
    have Hls := Lib.hid (own_below Hls.out hb10)
    have H5 := Lib.hid (And.intro (own_si ho5) (show ST w10 B5 Nl from SL.of_own hn5))
    have Hb10 := Lib.hid (Hb8.out.trans (hb10.mono hz8))
    clear ho5 hn5 hb10 hin hq2 hq3 hq4 Hc8 Hg8 HC8 HF8 Hb8 HL8
    go_wp2_with fail
    refine (own_any A5 B5 a5 b5 Wl.length Nl.length w10).mono ?_
    rintro e w11 ⟨rfl, hb11⟩
    have Hc11 := Lib.hid (Hc10.out.below hb11 Hc10.out.lt)
    have Hg11 := Lib.hid (Hg10.out.below hb11 Hg10.out.lt)
    have HC11 := Lib.hid (HC10.out.below hb11)
    have HF11 := Lib.hid (HF10.out.below hb11)
    have Hls := Lib.hid (own_below Hls.out hb11)
    have H51 := Lib.hid (And.intro (H5.out.1.below hb11) (H5.out.2.below hb11))
    have Hb11 := Lib.hid (Hb10.out.trans (hb11.mono (Hbz.out _ Hb10.out)))
    clear hb11 Hc10 Hg10 HC10 HF10 H5 Hb10
    have hoE : ofE Wl Nl ls = 0 := by rw [ofE_eq, Hvl.out, Hthr.out]; rfl
    have hoL : ofL Wl Nl ls = lists Wl Nl ls := by rw [ofL, if_pos hoE]
    go_wp2_with fail
    refine (of_any A5 B5 A3 a5 b5 c3 Wl Nl ls w11 H51.out.1 H51.out.2 (own_si Hls.out) (by omega) (by omega) (by omega)).mono ?_
    rintro e w12 ⟨DD, mD, vs2, he, hown, hLL, hb12⟩
    rw [hoE, hoL, lists_len] at he
    rw [hoL, lists_len] at hown
    rw [hoL] at hLL
    subst he
    have hw5 : ∀ l ∈ lists Wl Nl ls, l.length ≤ 1099511627776 := fun l hl => by rw [lists_lens l hl]; omega
    have HD12 := Lib.hid ((SLL.of_rows hown hLL hw5).below ((Below.refl _ _).alloc (Nat.le_refl _) (.cells #[.slice DD ls.length mD] 40)))
    have Hc12 := Lib.hid ((Hc11.out.below hb12 Hc11.out.lt).alloc (.cells #[.slice DD ls.length mD] 40))
    have Hg12 := Lib.hid ((Hg11.out.below hb12 Hg11.out.lt).alloc (.cells #[.slice DD ls.length mD] 40))
    have HC12 := Lib.hid ((HC11.out.below hb12).below ((Below.refl _ _).alloc (Nat.le_refl _) (.cells #[.slice DD ls.length mD] 40)))
    have HF12 := Lib.hid ((HF11.out.below hb12).alloc (.cells #[.slice DD ls.length mD] 40))
    have hb112 := Hb11.out.trans (hb12.mono (Hbz.out _ Hb11.out))
    have Hb12 := Lib.hid (hb112.alloc (Hbz.out _ hb112) (.cells #[.slice DD ls.length mD] 40))
    have Hd12 := Lib.hid (Bk.new w12 40 #[.slice DD ls.length mD])
    have hq5 : (w12.alloc (.cells #[.slice DD ls.length mD] 40)).cell? ⟨w12.heap.size, 0, none⟩ = some (.slice DD ls.length mD) := Hd12.out.cell 0
    clear hown hLL hb12 hb112 hw5 hoE hoL Hc11 Hg11 HC11 HF11 H51 Hb11 Hls
    go_wp2_with fail
    clear hq5
    generalize w12.alloc (.cells #[.slice DD ls.length mD] 40) = W12 at *
    generalize w12.heap.size = td at *
    go_loopw [19] (fun v wr => ∃ s : Nat, s ≤ ls.length ∧ v = .int .i64 s ∧ Qt W12 wr) (fun v _ => ls.length - (intOf v).toNat)
    case atStart => exact ⟨0, by omega, rfl, Qt.refl _⟩
    case round =>
      obtain ⟨s, hs, rfl, hq⟩ := hrel
      by_cases hlt : s < ls.length
      · obtain ⟨bD, oD, R1, cr1, l1, rfl, hcD0, hs1, hl1⟩ := HC12.out.get (k := s) (by rw [lists_len]; exact hlt)
        obtain ⟨bE, oE, R2, cr2, l2, rfl, hcE0, hs2, hl2⟩ := HD12.out.get (k := s) (by rw [lists_len]; exact hlt)
        have e1 : l1 = ix (ofAt ws ns ls s) := by have := hl1.out.symm.trans (lists_at hlt); exact Option.some.inj this
        have e2 : l2 = ix (ofAt Wl Nl ls s) := by have := hl2.out.symm.trans (lists_at hlt); exact Option.some.inj this
        have hP := HP.out s
        rw [← e2] at hP
        have hn1 : l1.length = ws.length := by rw [e1, ix_len, (ofAt_cn ws ns ls s).2]
        have hn2 := hP.len
        rw [hn1] at hcD0
        rw [hn2] at hcE0
        have hcD := cell_qt hcD0 hq
        have hcE := cell_qt hcE0 hq
        have HcDE := Lib.hid (And.intro hcD0 hcE0)
        have Hs12 := Lib.hid (And.intro hs1 hs2)
        have hsm : Hid (∀ i j, i < Fl.length → j < Fl.length → (l1.getD (Fl.getD i 0).toNat 0 = l1.getD (Fl.getD j 0).toNat 0 ↔ l2.getD (i + 1) 0 = l2.getD (j + 1) 0)) := fun i j hi hj => by
          have h1 := hP.at_ i hi
          have h2 := hP.at_ j hj
          have ho := (ofAt_cn ws ns ls s).2
          rw [hP.same i j hi hj, e1, ix_same (by omega) (by omega)]
        have hfb : Hid (∀ i, i < Fl.length → 0 < Fl.getD i 0 ∧ Fl.getD i 0 < ws.length) := fun i hi => by
          have h1 := hP.at_ i hi
          rw [(ofAt_cn ws ns ls s).2] at h1
          exact ⟨h1.1, h1.2.1⟩
        have Hn12 := Lib.hid (And.intro hn1 hn2)
        have Hq := Lib.hid hq
        have hqc : wr.cell? ⟨tc, 0, none⟩ = some (.slice (some ⟨bD, oD, none⟩) ls.length mC) := (Hc12.out.qt hq).cell 0
        have hqd : wr.cell? ⟨td, 0, none⟩ = some (.slice (some ⟨bE, oE, none⟩) ls.length mD) := (Hd12.out.qt hq).cell 0
        have hqg : wr.cell? ⟨tg, 0, none⟩ = some (.slice A1 ws.length c1) := (Hg12.out.qt hq).cell 0
        have hs0 : (0 : Int) ≤ (s : Int) := by omega
        have hwl : IntKind.i64.wrap ((Fl.length : Int) + 1) = ((Fl.length + 1 : Nat) : Int) := by rw [IntWalk.i64_in _ (by omega)]; omega
        have hne : (((Fl.length + 1 : Nat) : Int) != ((Fl.length + 1 : Nat) : Int)) = false := by simp
        have hl1l : l1.length ≤ 4096 := by omega
        have hfll2 : Fl.length + 1 ≤ 4097 := by omega
        clear hq e1 e2 hP hn1 hn2 hcD0 hcE0 hs1 hs2 hl1 hl2
        go_wp2_with fail
        go_quiet (fail)
        go_wp2_with fail
        have Hq2 := Lib.hid (Hq.out.drewN nq)
        clear hcD hcE hqc hqd hqg Hq hne hwl
        generalize wr.drewN nq = wq at *
        go_loopw [20] (fun v wr => ∃ a : Nat, a ≤ Fl.length ∧ v = .int .i64 a ∧ Qt W12 wr) (fun v _ => Fl.length - (intOf v).toNat)
        case atStart => exact ⟨0, by omega, rfl, Hq2.out⟩
        case round =>
          clear Hq2
          obtain ⟨a, ha, rfl, hq⟩ := hrel
          by_cases hla : a < Fl.length
          · have Hq := Lib.hid hq
            clear hq
            go_wp2_with fail
            go_loopw [21] (fun v wr => ∃ b : Nat, b ≤ Fl.length ∧ v = .int .i64 b ∧ Qt W12 wr) (fun v _ => Fl.length - (intOf v).toNat)
            case atStart => exact ⟨0, by omega, rfl, Hq.out⟩
            case round =>
              clear Hq
              obtain ⟨b, hbl, rfl, hq⟩ := hrel
              by_cases hlb : b < Fl.length
              · obtain ⟨bF, oF, xa, rfl, hca, hxa⟩ := HF12.out.get hla
                obtain ⟨bF', oF', xb, he, hcb, hxb⟩ := HF12.out.get hlb
                injection he with he
                injection he with he1 he2
                subst he1 he2
                have ea : Fl.getD a 0 = xa := by simp [List.getD, hxa.out]
                have eb : Fl.getD b 0 = xb := by simp [List.getD, hxb.out]
                have ba := hfb.out a hla
                have bb := hfb.out b hlb
                rw [ea] at ba
                rw [eb] at bb
                obtain ⟨fa, rfl⟩ : ∃ n : Nat, xa = (n : Int) := ⟨xa.toNat, by omega⟩
                obtain ⟨fb, rfl⟩ : ∃ n : Nat, xb = (n : Int) := ⟨xb.toNat, by omega⟩
                obtain ⟨bR, oR, za, rfl, hza, hza2⟩ := Hs12.out.1.get (k := fa) (by rw [Hn12.out.1]; omega)
                obtain ⟨bR', oR', zb, he, hzb, hzb2⟩ := Hs12.out.1.get (k := fb) (by rw [Hn12.out.1]; omega)
                injection he with he
                injection he with he1 he2
                subst he1 he2
                obtain ⟨bT, oT, ya, rfl, hya, hya2⟩ := Hs12.out.2.get (k := a + 1) (by rw [Hn12.out.2]; omega)
                obtain ⟨bT', oT', yb, he, hyb, hyb2⟩ := Hs12.out.2.get (k := b + 1) (by rw [Hn12.out.2]; omega)
                injection he with he
                injection he with he1 he2
                subst he1 he2
                have hsame : (za == zb) = (ya == yb) := by
                  have h := hsm.out a b hla hlb
                  rw [ea, eb, Int.toNat_natCast, Int.toNat_natCast] at h
                  have g1 : l1.getD fa 0 = za := by simp [List.getD, hza2.out]
                  have g2 : l1.getD fb 0 = zb := by simp [List.getD, hzb2.out]
                  have g3 : l2.getD (a + 1) 0 = ya := by simp [List.getD, hya2.out]
                  have g4 : l2.getD (b + 1) 0 = yb := by simp [List.getD, hyb2.out]
                  rw [g1, g2, g3, g4] at h
                  rw [Bool.eq_iff_iff]
                  simpa using h
                obtain ⟨t, ht⟩ : ∃ t, (ya == yb) = t := ⟨_, rfl⟩
                rw [ht] at hsame
                have hnt : (t != t) = false := by simp
                have q1 := cell_qt hca hq
                have q2 := cell_qt hcb hq
                have q3 := cell_qt hza hq
                have q4 := cell_qt hzb hq
                obtain ⟨a1, ha1⟩ : ∃ n, n = a + 1 := ⟨_, rfl⟩
                obtain ⟨b1, hb1⟩ : ∃ n, n = b + 1 := ⟨_, rfl⟩
                rw [← ha1] at hya
                rw [← hb1] at hyb
                have q5 := cell_qt hya hq
                have q6 := cell_qt hyb hq
                have hwa : IntKind.i64.wrap ((a : Int) + 1) = (a1 : Int) := by rw [IntWalk.i64_in _ (by omega)]; omega
                have hwb : IntKind.i64.wrap ((b : Int) + 1) = (b1 : Int) := by rw [IntWalk.i64_in _ (by omega)]; omega
                have q7 := cell_qt HcDE.out.1 hq
                have q8 := cell_qt HcDE.out.2 hq
                have q9 : wr.cell? ⟨tc, 0, none⟩ = some (.slice (some ⟨bD, oD, none⟩) ls.length mC) := (Hc12.out.qt hq).cell 0
                have q10 : wr.cell? ⟨td, 0, none⟩ = some (.slice (some ⟨bE, oE, none⟩) ls.length mD) := (Hd12.out.qt hq).cell 0
                have j1 : (0 : Int) ≤ (a : Int) := by omega
                have j2 : (0 : Int) ≤ (b : Int) := by omega
                have j3 : (0 : Int) ≤ (fa : Int) := by omega
                have j4 : (0 : Int) ≤ (fb : Int) := by omega
                have j5 : (fa : Int) < ws.length := by omega
                have j6 : (fb : Int) < ws.length := by omega
                have j7 : (a1 : Int) < (Fl.length + 1 : Nat) := by omega
                have j8 : (b1 : Int) < (Fl.length + 1 : Nat) := by omega
                have j9 : (0 : Int) ≤ (a1 : Int) := by omega
                have j10 : (0 : Int) ≤ (b1 : Int) := by omega
                have k1 : fa < ws.length := by omega
                have k2 : fb < ws.length := by omega
                have k3 : a1 < Fl.length + 1 := by omega
                have k4 : b1 < Fl.length + 1 := by omega
                have Hq := Lib.hid hq
                have Hb1 := Lib.hid hb1
                clear hq ea eb ba bb hca hcb hza hzb hya hyb hxa hxb hza2 hzb2 hya2 hyb2 ha1 hb1
                go_wp2_with fail
                go_quiet (fail)
                go_wp2_with fail
                go_roundw
                case rel => exact ⟨b + 1, by omega, by rw [Hb1.out], Hq.out.drewN nq⟩
                case measure => have := Hb1.out; simp [intOf]; omega
              · obtain rfl : b = Fl.length := by omega
                have Hq := Lib.hid hq
                clear hq
                go_wp2_with fail
                go_roundw
                case rel => exact ⟨a + 1, by omega, by go_num, Hq.out⟩
                case measure => simp [intOf]; omega
          · obtain rfl : a = Fl.length := by omega
            have Hq := Lib.hid hq
            clear hq
            go_wp2_with fail
            go_roundw
            case rel => exact ⟨s + 1, by omega, by go_num, Hq.out⟩
            case measure => simp [intOf]; omega
      · obtain rfl : s = ls.length := by omega
        have Hb13 := Lib.hid (hq.bl Hb12.out)
        clear hq
        go_wp2_with fail
        refine (lives_any _).mono ?_
        rintro e w14 ⟨rfl, hb14⟩
        go_wp2_with fail
        go_ret
        exact ⟨rfl, by rw [hSz.out]; exact Hb13.out.trans (hb14.mono (Hbz.out _ Hb13.out))⟩
end Go.Proofs.Ytmdgdphhedgojaa
