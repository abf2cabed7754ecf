import Derived.Test.YtaegfljpodhnhaaR43
import Derived.Deep.DeepCutAuto
import Derived.Deep.RegionHeld3
namespace Go.Proofs.Ytaegfljpodhnhaa
open Go.RowKit Go.Maps

/-- The answer behind the first tests. -/
def checkK (ws : List Int) (ns : List (Int × Int × Int)) (n : Int) (st : List (Int × Int)) (cl nl : List Int) : Int :=
  if listE ws.length cl ≠ 0 ∨ listE ws.length nl ≠ 0 then 1
  else if ix (scale ws ns (named nl) n).1 = cl ∧ (scale ws ns (named nl) n).2 = st then 0 else 24

set_option linter.unusedSimpArgs false in
set_option maxHeartbeats 8000000 in
set_option maxRecDepth 100000 in
theorem check_main (A B C D E : Option Addr) (c d f m q : Nat) (ws : List Int) (ns : List (Int × Int × Int)) (ls : List Int) (k : Nat) (st : List (Int × Int)) (cs : List (List Int)) (w : World) (hA : SI w A ws) (hB : ST w B ns) (hC : SI w C ls) (hD : SL w D (pairC st)) (hE : SLL w E cs) (hl1 : ws.length ≤ 4611686018427387904) (hl2 : ns.length ≤ 4611686018427387904) (hl3 : ls.length ≤ 4611686018427387904) (hl4 : st.length ≤ 4611686018427387904) (hl6 : ∀ l ∈ cs, l.length ≤ 4611686018427387904) (hz : ofE ws ns ls = 0) (hk1 : k < ls.length) (hk2 : k < cs.length) (n : Int) (hn : ls[k]? = some n) (cl : List Int) (hcl : cs[k]? = some cl) :
    Calls Try.prog 24 #[.agg #[.slice A ws.length c, .slice B ns.length d], .slice C ls.length f, .int .i64 k, .slice D st.length m, .agg #[.slice E cs.length q]] w fun e w' => e = .returned (.int .i64 (checkK ws ns n st cl (numL ws.length cs k))) ∧ Below w.heap.size w w' := by
  have Hz := Lib.hid hz
  have HG := Lib.hid (And.intro (validE_good (orI_two.1 hz).1) (thrE_good (orI_two.1 hz).2))
  have Hn := Lib.hid hn
  have Hclg := Lib.hid hcl
  have Hl6 := Lib.hid hl6
  clear hz hn hcl hl6
  go_enter Try.func24, Try.ntmps24
  go_wp2_with fail
  have hb0 := ((Below.refl w.heap.size w).alloc (Nat.le_refl _) (.cells #[.slice A ws.length c, .slice B ns.length d] 31)).alloc (by simp) (.cells #[.slice E cs.length q] 36)
  have hbk0 := (Bk.new w 31 #[.slice A ws.length c, .slice B ns.length d]).alloc (.cells #[.slice E cs.length q] 36)
  have hbc0 := Bk.new' (w.alloc (.cells #[.slice A ws.length c, .slice B ns.length d] 31)) 36 #[.slice E cs.length q] (g := w.heap.size + 1) (by simp)
  generalize (w.alloc (.cells #[.slice A ws.length c, .slice B ns.length d] 31)).alloc (.cells #[.slice E cs.length q] 36) = W0 at *
  have Hb0 := Lib.hid hb0
  have Hbk0 := Lib.hid hbk0
  have Hbc0 := Lib.hid hbc0
  clear hb0 hbk0 hbc0
  refine (valid_any A B c d ws ns W0 (hA.below Hb0.out) (hB.below Hb0.out) hl1 hl2).mono ?_
  rintro e w1 ⟨rfl, hb1⟩
  have Hbk1 := Lib.hid (Hbk0.out.below hb1 Hbk0.out.lt)
  have Hbc1 := Lib.hid (Hbc0.out.below hb1 Hbc0.out.lt)
  have Hb1 := Lib.hid (Hb0.out.trans (hb1.mono Hb0.out.size))
  clear hb1 Hbk0 Hb0 Hbc0
  go_wp2_with fail
  refine (thresholds_any C f ls w1 (hC.below Hb1.out) hl3).mono ?_
  rintro e w2 ⟨rfl, hq⟩
  have Hbk2 := Lib.hid (Hbk1.out.qt hq)
  have Hbc2 := Lib.hid (Hbc1.out.qt hq)
  have Hb2 := Lib.hid (hq.bl Hb1.out)
  have hE : Hid (ofE ws ns ls = orI [validE ws ns, thrE ls]) := rfl
  clear hq Hbk1 Hb1 Hbc1
  generalize validE ws ns = ve at *
  generalize thrE ls = te at *
  have hat := Bk.new w2 27 #[.int .i64 ve, .int .i64 te]
  have hsi : SI (w2.alloc (.cells #[.int .i64 ve, .int .i64 te] 27)) (some ⟨w2.heap.size, 0, none⟩) [ve, te] := si_pair (o := 0) (hat.cell 0) (hat.cell 1)
  have Hor := Lib.hid (orErr_any (some ⟨w2.heap.size, 0, none⟩) 2 [ve, te] _ hsi (by simp))
  have Hb3 := Lib.hid (Hb2.out.alloc Hb2.out.size (.cells #[.int .i64 ve, .int .i64 te] 27))
  have Hbk3 := Lib.hid (Hbk2.out.alloc (.cells #[.int .i64 ve, .int .i64 te] 27))
  have Hbc3 := Lib.hid (Hbc2.out.alloc (.cells #[.int .i64 ve, .int .i64 te] 27))
  clear hat hsi Hbk2 Hb2 Hbc2
  go_wp2_with fail
  refine Hor.out.mono ?_
  rintro e w' ⟨rfl, rfl⟩
  rw [← hE.out]
  clear Hor hE
  generalize w2.alloc (.cells #[.int .i64 ve, .int .i64 te] 27) = W3 at *
  rw [Hz.out]
  clear Hz
  obtain ⟨⟨g1, g2, g3, g4⟩, g5, g6⟩ := HG.out
  have HW := Lib.hid (And.intro g3 g4)
  clear g3 g4 HG
  have hcc : W3.cell? ⟨w.heap.size + 1, 0, none⟩ = some (.slice E cs.length q) := Hbc3.out.cell 0
  have hc0 : W3.cell? ⟨w.heap.size, 0, none⟩ = some (.slice A ws.length c) := Hbk3.out.cell 0
  have hc1 : W3.cell? ⟨w.heap.size, 1, none⟩ = some (.slice B ns.length d) := Hbk3.out.cell 1
  have i0 : (0 : Int) ≤ (k : Int) := by omega
  have i1 : (k : Int) < ls.length := by omega
  have i2 : (k : Int) < cs.length := by omega
  go_wp2_with fail
  refine (single_any A B c ns.length d ws.length W3 g1).mono ?_
  rintro e w4 ⟨gh, rfl, hgh, hghb, hb4⟩
  have Hbk4 := Lib.hid (Hbk3.out.below hb4 Hbk3.out.lt)
  have Hbc4 := Lib.hid (Hbc3.out.below hb4 Hbc3.out.lt)
  have Hb4 := Lib.hid (Hb3.out.trans (hb4.mono Hb3.out.size))
  have Hgh := Lib.hid hgh
  clear hgh hb4 Hb3 Hbk3 Hbc3 hcc hc0 hc1
  have hcc : w4.cell? ⟨w.heap.size + 1, 0, none⟩ = some (.slice E cs.length q) := Hbc4.out.cell 0
  go_upto_if 48 with fail
  go_cut [12] (fun v wx => ∃ NA nc, v = .slice NA (numL ws.length cs k).length nc ∧ SI wx NA (numL ws.length cs k) ∧ (numL ws.length cs k).length ≤ 4611686018427387904 ∧ wx = w4)
  case first =>
    by_cases hk0 : k = 0
    · subst hk0
      have hal := alone_len ws.length
      have hgsi : SI w4 (some ⟨gh, 0, none⟩) (alone ws.length) := si_row Hgh.out (by omega)
      have Hal := Lib.hid (And.intro hal hgsi)
      clear hal hgsi
      go_wp2_with fail
      go_meet
      exact ⟨some ⟨gh, 0, none⟩, ws.length, by rw [numL, if_pos rfl, Hal.out.1], by rw [numL, if_pos rfl]; exact Hal.out.2, by rw [numL, if_pos rfl, Hal.out.1]; omega, rfl⟩
    · obtain ⟨bx, ox, F, g, l, rfl, hce, hsi, hget⟩ := (hE.below Hb4.out).get (k := k - 1) (by omega)
      have hnum : Hid (numL ws.length cs k = l) := by
        show _ = _
        rw [numL, if_neg hk0, List.getD, hget.out]
        rfl
      have hk1' : 1 ≤ k := by omega
      obtain ⟨kp, rfl⟩ : ∃ kp, k = kp + 1 := ⟨k - 1, by omega⟩
      have hw1 : IntKind.i64.wrap (((kp + 1 : Nat) : Int) - 1) = (kp : Int) := by rw [IntWalk.i64_in _ (by omega)]; omega
      have hce' : w4.cell? ⟨bx, ox + kp, none⟩ = some (.slice F l.length g) := hce
      have hkp : kp < cs.length := by omega
      have hln := Hl6.out l (List.mem_of_getElem? hget.out)
      clear hce
      go_wp2_with fail
      go_meet
      exact ⟨F, g, by rw [hnum.out], by rw [hnum.out]; exact hsi, by rw [hnum.out]; exact hln, rfl⟩
  case rest =>
  obtain ⟨NA, nc, rfl, hnl, hnll, rfl⟩ := hcut
  generalize hnu : numL ws.length cs k = nl at *
  have Hnu := Lib.hid hnu
  clear hnu
  obtain ⟨be, oe, F, g, l', rfl, hce, hsi, hget⟩ := (hE.below Hb4.out).get (k := k) (by omega)
  have hll := hget.out.symm.trans Hclg.out
  injection hll with hll
  have hll := hll.symm
  subst hll
  have hln := Hl6.out cl (List.mem_of_getElem? hget.out)
  have HSg := Lib.hid (fun W (hW : Below wc.heap.size wc W) => And.intro ((Hbk4.out.below hW Hbk4.out.lt).cell 0) (And.intro ((Hbk4.out.below hW Hbk4.out.lt).cell 1) (And.intro ((Hbc4.out.below hW Hbc4.out.lt).cell 0) ((hW.cell (World.block_lt_of_cell? _ _ hce)).trans hce))))
  have Hnl := Lib.hid hnl
  have Hcl := Lib.hid hsi
  have Hb4d := Lib.hid ((Below.refl wc.heap.size wc).drew)
  have HS0 := Lib.hid (HSg.out _ Hb4d.out)
  have hkk : k < cs.length := hk2
  clear hnl hsi hce hcc Hgh Hl6 Hclg hget
  go_upto_region 9 with fail

  refine wp_region_noPanic ?_
  refine region_H (S := fun W => W.cell? ⟨w.heap.size, 0, none⟩ = some (.slice A ws.length c) ∧ W.cell? ⟨w.heap.size, 1, none⟩ = some (.slice B ns.length d) ∧ W.cell? ⟨w.heap.size + 1, 0, none⟩ = some (.slice (some ⟨be, oe, none⟩) cs.length q) ∧ W.cell? ⟨be, oe + k, none⟩ = some (.slice F cl.length g)) (by kernel_rfl) ?_
  change wpH _ _ _ _ 13 _ _ wc.drew
  refine H_takeD (k := 0) (v := .agg #[.slice A ws.length c, .slice B ns.length d]) (d := some 55) rfl rfl (by decide +kernel) (fun _ _ _ h => h) (Or.inl ⟨by rfl, fun W hW => by obtain ⟨s0, s1, s2, s3⟩ := hW; go_simp⟩) HS0.out ?_
  try simp only [Act.put, List.setIfInBounds_toArray, List.set_cons_zero, List.set_cons_succ]
  refine H_takeD (k := 1) (v := .pointer (some ⟨w.heap.size + 1, 0, none⟩)) (d := some 56) rfl rfl (by decide +kernel) (fun _ _ _ h => h) (Or.inl ⟨by rfl, fun W hW => by obtain ⟨s0, s1, s2, s3⟩ := hW; go_simp⟩) HS0.out ?_
  try simp only [Act.put, List.setIfInBounds_toArray, List.set_cons_zero, List.set_cons_succ]
  refine H_takeD (k := 2) (v := .slice (some ⟨be, oe, none⟩) cs.length q) (d := some 57) rfl rfl (by decide +kernel) (fun _ _ _ h => h) (Or.inl ⟨by rfl, fun W hW => by obtain ⟨s0, s1, s2, s3⟩ := hW; go_simp⟩) HS0.out ?_
  try simp only [Act.put, List.setIfInBounds_toArray, List.set_cons_zero, List.set_cons_succ]
  refine H_takeD (k := 3) (v := .int .i64 k) (d := some 58) rfl rfl (by decide +kernel) (fun _ _ _ h => h) (Or.inl ⟨by rfl, fun W hW => by obtain ⟨s0, s1, s2, s3⟩ := hW; go_simp⟩) HS0.out ?_
  try simp only [Act.put, List.setIfInBounds_toArray, List.set_cons_zero, List.set_cons_succ]
  refine H_takeD (k := 4) (v := .pointer (some ⟨be, oe + k, none⟩)) (d := some 59) rfl rfl (by decide +kernel) (fun _ _ _ h => h) (Or.inl ⟨by rfl, fun W hW => by obtain ⟨s0, s1, s2, s3⟩ := hW; go_simp⟩) HS0.out ?_
  try simp only [Act.put, List.setIfInBounds_toArray, List.set_cons_zero, List.set_cons_succ]
  refine H_takeD (k := 5) (v := .slice F cl.length g) (d := some 60) rfl rfl (by decide +kernel) (fun _ _ _ h => h) (Or.inl ⟨by rfl, fun W hW => by obtain ⟨s0, s1, s2, s3⟩ := hW; go_simp⟩) HS0.out ?_
  try simp only [Act.put, List.setIfInBounds_toArray, List.set_cons_zero, List.set_cons_succ]
  refine H_takeD (k := 7) (v := .agg #[.slice A ws.length c, .slice B ns.length d]) (d := some 62) rfl rfl (by decide +kernel) (fun _ _ _ h => h) (Or.inl ⟨by rfl, fun W hW => by obtain ⟨s0, s1, s2, s3⟩ := hW; go_simp⟩) HS0.out ?_
  try simp only [Act.put, List.setIfInBounds_toArray, List.set_cons_zero, List.set_cons_succ]
  refine H_takeD (k := 8) (v := .slice NA nl.length nc) (d := some 63) rfl rfl (by decide +kernel) (fun _ _ _ h => h) (Or.inl ⟨by rfl, fun W hW => by obtain ⟨s0, s1, s2, s3⟩ := hW; go_simp⟩) HS0.out ?_
  try simp only [Act.put, List.setIfInBounds_toArray, List.set_cons_zero, List.set_cons_succ]
  refine H_one (i := 6) (by decide +kernel) (H_step rfl rfl (fun K hK8 => ?_))
  have hK8 := Lib.hid hK8
  go_simp
  go_at_call 53
  refine (list_any A B F c d g ws.length ns.length cl _ (Hcl.out.below Hb4d.out) (by omega) (by omega)).mono ?_
  rintro e w5 ⟨rfl, hb5⟩
  have Hb5 := Lib.hid (Hb4d.out.trans (hb5.mono Hb4d.out.size))
  have HS5 := Lib.hid (HSg.out _ Hb5.out)
  clear hb5
  refine hK8.out _ _ HS5.out ?_
  try simp only [Act.put, List.setIfInBounds_toArray, List.set_cons_zero, List.set_cons_succ]
  refine H_one (i := 9) (by decide +kernel) (H_step rfl rfl (fun K hK9 => ?_))
  have hK9 := Lib.hid hK9
  go_simp
  go_at_call 53
  refine (list_any A B NA c d nc ws.length ns.length nl _ (Hnl.out.below Hb5.out) (by omega) (by omega)).mono ?_
  rintro e w6 ⟨rfl, hb6⟩
  have Hb6 := Lib.hid (Hb5.out.trans (hb6.mono Hb5.out.size))
  have HS6 := Lib.hid (HSg.out _ Hb6.out)
  clear hb6
  refine hK9.out _ _ HS6.out ?_
  try simp only [Act.put, List.setIfInBounds_toArray, List.set_cons_zero, List.set_cons_succ]
  refine H_one (i := 10) (by decide +kernel) (H_step rfl rfl (fun K hK10 => ?_))
  have hK10 := Lib.hid hK10
  go_simp
  have Hb7 := Lib.hid (Hb6.out.alloc Hb6.out.size (.cells #[.int .i64 (listE ws.length cl), .int .i64 (listE ws.length nl)] 27))
  have HS7 := Lib.hid (HSg.out _ Hb7.out)
  have hat := Bk.new w6 27 #[.int .i64 (listE ws.length cl), .int .i64 (listE ws.length nl)]
  have Hor := Lib.hid (orErr_any (some ⟨w6.heap.size, 0, none⟩) 2 [listE ws.length cl, listE ws.length nl] _ (si_pair (o := 0) (hat.cell 0) (hat.cell 1) : SI (w6.alloc (.cells #[.int .i64 (listE ws.length cl), .int .i64 (listE ws.length nl)] 27)) _ _) (by simp))
  clear hat
  refine hK10.out _ _ HS7.out ?_
  try simp only [Act.put, List.setIfInBounds_toArray, List.set_cons_zero, List.set_cons_succ]
  refine H_one (i := 11) (by decide +kernel) (H_step rfl rfl (fun K hK11 => ?_))
  have hK11 := Lib.hid hK11
  go_simp
  go_at_call 44
  refine Hor.out.mono ?_
  rintro e w' ⟨rfl, rfl⟩
  refine hK11.out _ _ HS7.out ?_
  try simp only [Act.put, List.setIfInBounds_toArray, List.set_cons_zero, List.set_cons_succ]
  refine H_one (i := 12) (by decide +kernel) (H_step rfl rfl (fun K hK12 => ?_))
  have hK12 := Lib.hid hK12
  go_simp
  refine hK12.out _ _ HS7.out ?_
  try simp only [Act.put, List.setIfInBounds_toArray, List.set_cons_zero, List.set_cons_succ]
  refine H_end (by decide +kernel) (NoPanic.normal ?_)
  try simp only [Act.put, List.setIfInBounds_toArray, List.set_cons_zero, List.set_cons_succ]
  clear HS0 HS5 HS6 Hb5 Hb6 Hor
  obtain ⟨le, hle⟩ : ∃ le, Hid (orI [listE ws.length cl, listE ws.length nl] = le) := ⟨_, rfl⟩
  rw [hle.out]
  have HbW := Lib.hid (Hb4.out.trans (Hb7.out.mono Hb4.out.size))
  by_cases hz : listE ws.length cl = 0 ∧ listE ws.length nl = 0
  · have h0 : le = 0 := by rw [← hle.out, hz.1, hz.2]; rfl
    subst h0
    have hN0 := (listE_good hz.2).1
    have hst := start_any A B NA c d nc ws ns nl (w6.alloc (.cells #[.int .i64 (listE ws.length cl), .int .i64 (listE ws.length nl)] 27)) (hA.below HbW.out) (hB.below HbW.out) (Hnl.out.below Hb7.out) HW.out.1 hN0 g1 (HW.out.2.len hN0.symm) g2 (w64_of (listE_good hz.2).2.2 (by omega))
    have Hst := Lib.hid hst
    have hof0 := And.intro (named_cn nl) (named_len nl)
    obtain ⟨of0, hof⟩ : ∃ of0, Hid (named nl = of0) := ⟨_, rfl⟩
    rw [hof.out] at Hst hof0
    have HCN := Lib.hid (And.intro hof0.1 (hof0.2.trans hN0))
    have hK : Hid (checkK ws ns n st cl nl = if ix (scale ws ns of0 n).1 = cl ∧ (scale ws ns of0 n).2 = st then 0 else 24) := by
      show _ = _
      rw [checkK, if_neg (by simp [hz]), hof.out]
    clear hst hof0 hN0 hof hz hle Hnl
    have hc0 := HS7.out.1
    have hc1 := HS7.out.2.1
    generalize w6.alloc (.cells #[.int .i64 (listE ws.length cl), .int .i64 (listE ws.length nl)] 27) = W7 at *
    go_wp2_with fail
    clear hc0 hc1
    refine Hst.out.mono ?_
    rintro e w8 ⟨p, gg, rw, rn, c', rfl, hG, hb8⟩
    have HG := Lib.hid hG
    have Hb8 := Lib.hid hb8
    have ho1 := Nat.le_of_eq HCN.out.2
    clear hG hb8 Hst
    go_wp2_with fail
    go_loopw [75] (fun v wr => ∃ (j fu : Nat) (ofc : List Int), j ≤ st.length ∧ v = .int .i64 j ∧ GS wr W7.heap.size p gg rw rn c' ws ns ofc ∧ Hid (CN ofc ∧ ofc.length = ws.length) ∧ Hid (roots ofc ≤ fu) ∧ Hid (scale ws ns of0 n = ((scaleF ws ns n fu ofc).1, st.take j ++ (scaleF ws ns n fu ofc).2)) ∧ Below W7.heap.size W7 wr) (fun v _ => st.length - (intOf v).toNat)
    case atStart => exact ⟨0, of0.length, of0, by omega, rfl, HG.out, HCN, Lib.hid (roots_le of0), Lib.hid (by simp [scale]), Hb8.out⟩
    case round =>
      clear HG Hb8 ho1
      obtain ⟨j, fu, ofc, hj, rfl, hG, hCN, hroots, hsc, hb⟩ := hrel
      have hof1 := Nat.le_of_eq hCN.out.2
      have hN : NOK ofc.length ns := HW.out.2.len hCN.out.2.symm
      have Hbl := Lib.hid (HbW.out.trans (hb.mono HbW.out.size))
      by_cases hlt : j < st.length
      · obtain ⟨b1, o1, m1, m2, rfl, hd0, hd1, hx⟩ := (hD.below Hbl.out).pair hlt
        have hba := Hbl.out.alloc Hbl.out.size (.cells #[.int .i64 m1, .int .i64 m2] 47)
        obtain ⟨b2, o2, x, rfl, hcn, hxn⟩ := (hC.below hba).get hk1
        have hxn := hxn.out.symm.trans Hn.out
        injection hxn with hxn
        have hxn := hxn.symm
        subst hxn
        have HGa := Lib.hid (hG.alloc (.cells #[.int .i64 m1, .int .i64 m2] 47))
        have Hma := Lib.hid (Bk.new wr 47 #[.int .i64 m1, .int .i64 m2])
        have Hba := Lib.hid (hb.alloc hb.size (.cells #[.int .i64 m1, .int .i64 m2] 47))
        clear hba hb hG
        go_wp2_with fail
        clear hcn
        generalize wr.alloc (.cells #[.int .i64 m1, .int .i64 m2] 47) = wa at *
        refine (nextP_any W7.heap.size p gg rw rn c' ws ns ofc n _ wa HGa.out rfl (by omega) hN g2 hCN.out.1.fok).mono ?_
        rintro e w9 ⟨a, b, found, rfl, hrel, hb9⟩
        have hnx := Lib.hid (next_rel hN hCN.out.1 rfl hrel)
        have HG9 := Lib.hid ((HGa.out.below hb9).alloc (.cells #[.int .i64 a, .int .i64 b] 47))
        have Hm9 := Lib.hid ((Hma.out.below hb9 Hma.out.lt).alloc (.cells #[.int .i64 a, .int .i64 b] 47))
        have Hw9 := Lib.hid (Bk.new w9 47 #[.int .i64 a, .int .i64 b])
        have hb9x := Hba.out.trans (hb9.mono Hba.out.size)
        have Hb9 := Lib.hid (hb9x.alloc hb9x.size (.cells #[.int .i64 a, .int .i64 b] 47))
        have hm0 : (w9.alloc (.cells #[.int .i64 a, .int .i64 b] 47)).cell? ⟨wr.heap.size, 0, none⟩ = some (.int .i64 m1) := Hm9.out.cell 0
        have hm1 : (w9.alloc (.cells #[.int .i64 a, .int .i64 b] 47)).cell? ⟨wr.heap.size, 1, none⟩ = some (.int .i64 m2) := Hm9.out.cell 1
        have hw0 : (w9.alloc (.cells #[.int .i64 a, .int .i64 b] 47)).cell? ⟨w9.heap.size, 0, none⟩ = some (.int .i64 a) := Hw9.out.cell 0
        have hw1 : (w9.alloc (.cells #[.int .i64 a, .int .i64 b] 47)).cell? ⟨w9.heap.size, 1, none⟩ = some (.int .i64 b) := Hw9.out.cell 1
        clear hrel hb9 HGa Hma Hba hb9x
        go_upto_region 17 with fail
        cases found
        · have hv : Hid (checkK ws ns n st cl nl = 24) := by
            show _ = _
            rw [hK.out, scale_stop hsc.out hnx.out.2.2, if_neg]
            rintro ⟨_, h⟩
            have := congrArg List.length h
            simp at this
            omega
          go_wp2_with fail
          go_ret
          exact ⟨ret_int (by rw [Hnu.out]; exact hv.out.symm), HbW.out.trans (Hb9.out.mono HbW.out.size)⟩
        · by_cases ha : a = m1
          · subst ha
            by_cases hb : b = m2
            · subst hb
              obtain ⟨fu, rfl⟩ : ∃ f', fu = f' + 1 := by
                have := next_roots hnx.out.2.2
                have := hroots.out
                exact ⟨fu - 1, by omega⟩
              have hsc2 := Lib.hid (scale_go hsc.out hnx.out)
              have hr2 : Hid (roots (merged ofc (a, b)) ≤ fu) := by
                have := next_roots hnx.out.2.2
                rw [hnx.out.1, hnx.out.2.1] at this
                have := hroots.out
                show _ ≤ _
                omega
              obtain ⟨a', b', ha1, hb1, ha2, hb2', ha3, hb3, hab⟩ := nextTo_spec ofc.length hnx.out.2.2
              have e1 : a = (a' : Int) := hnx.out.1.symm.trans ha1
              have e2 : b = (b' : Int) := hnx.out.2.1.symm.trans hb1
              have hC2 : Hid (CN (merged ofc (a, b)) ∧ (merged ofc (a, b)).length = ws.length) := by
                refine ⟨?_, (merged_len _ _).trans hCN.out.2⟩
                rw [e1, e2]
                exact hCN.out.1.merge ha2 hb2' ha3 hb3
              have hab' : a ≠ b := by omega
              have hba : 0 ≤ a ∧ a < 4096 := by omega
              have hbb : 0 ≤ b ∧ b < 4096 := by omega
              have htk := Lib.hid (take_snoc' hx.out)
              clear e1 e2 ha1 hb1 ha2 hb2' ha3 hb3 hab hsc hroots hnx
              go_wp2_with fail
              clear hm0 hm1 hw0 hw1
              refine (mergeP_any W7.heap.size p gg rw rn c' ws ns ofc a b _ HG9.out hab' hba hbb HW.out.1 (by omega) hN g2 hCN.out.1.fok).mono ?_
              rintro e w10 ⟨rfl, hG10, hf10⟩
              rw [← merged_eq] at hG10
              have Hb10 := Lib.hid (Hb9.out.trans (hf10.below Hb9.out.size HG9.out.bg HG9.out.bw HG9.out.bn))
              have HG10 := Lib.hid hG10
              clear hG10 hf10 HG9 Hm9 Hw9 Hb9
              go_wp2_with fail
              go_roundw
              case rel => exact ⟨j + 1, fu, merged ofc (a, b), by omega, by go_num, HG10.out, hC2, hr2, by rw [htk.out]; exact hsc2, Hb10.out⟩
              case measure => simp [intOf]; omega
            · have hbx : (b == m2) = false := by simpa using hb
              have Hne := Lib.hid hb
              clear hb
              have Hx := Lib.hid hx
              obtain ⟨fu, rfl⟩ : ∃ f', fu = f' + 1 := by
                have := next_roots hnx.out.2.2
                have := hroots.out
                exact ⟨fu - 1, by omega⟩
              have hv : Hid (checkK ws ns n st cl nl = 24) := by
                show _ = _
                rw [hK.out, if_neg]
                rintro ⟨_, h⟩
                exact scale_else rfl hsc.out hnx.out (by rw [Hx.out.out]; intro h; injection h with h; injection h with h1 h2; exact Hne.out h2.symm) h
              go_wp2_with fail
              go_ret
              exact ⟨ret_int (by rw [Hnu.out]; exact hv.out.symm), HbW.out.trans (Hb9.out.mono HbW.out.size)⟩
          · have hax : (a == m1) = false := by simpa using ha
            have Hne := Lib.hid ha
            clear ha
            have Hx := Lib.hid hx
            obtain ⟨fu, rfl⟩ : ∃ f', fu = f' + 1 := by
              have := next_roots hnx.out.2.2
              have := hroots.out
              exact ⟨fu - 1, by omega⟩
            have hv : Hid (checkK ws ns n st cl nl = 24) := by
              show _ = _
              rw [hK.out, if_neg]
              rintro ⟨_, h⟩
              exact scale_else rfl hsc.out hnx.out (by rw [Hx.out.out]; intro h; injection h with h; injection h with h1 h2; exact Hne.out h1.symm) h
            go_wp2_with fail
            go_ret
            exact ⟨ret_int (by rw [Hnu.out]; exact hv.out.symm), HbW.out.trans (Hb9.out.mono HbW.out.size)⟩
      · obtain rfl : j = st.length := by omega
        obtain ⟨b2, o2, x, rfl, hcn, hxn⟩ := (hC.below Hbl.out).get hk1
        have hxn := hxn.out.symm.trans Hn.out
        injection hxn with hxn
        have hxn := hxn.symm
        subst hxn
        have HG := Lib.hid hG
        have Hb := Lib.hid hb
        clear hb hG
        go_wp2_with fail
        clear hcn
        refine (nextP_any W7.heap.size p gg rw rn c' ws ns ofc n _ wr HG.out rfl (by omega) hN g2 hCN.out.1.fok).mono ?_
        rintro e w9 ⟨a, b, found, rfl, hrel, hb9⟩
        have hnx := Lib.hid (next_rel hN hCN.out.1 rfl hrel)
        have hb9x := Hb.out.trans (hb9.mono Hb.out.size)
        have Hb9 := Lib.hid (hb9x.alloc hb9x.size (.cells #[.int .i64 a, .int .i64 b] 47))
        have HG9 := Lib.hid ((HG.out.below hb9).alloc (.cells #[.int .i64 a, .int .i64 b] 47))
        clear hrel hb9 hb9x HG Hb
        go_upto_region 22 with fail
        generalize w9.alloc (.cells #[.int .i64 a, .int .i64 b] 47) = wz at *
        have HbZ := Lib.hid (Hb7.out.trans (Hb9.out.mono Hb7.out.size))
        have HbZd := Lib.hid HbZ.out.drew
        have HSz := Lib.hid (HSg.out _ HbZd.out)
        have HG9 := HG9
        cases found
        · have hfin : Hid (scale ws ns of0 n = (ofc, st)) := by
            show _ = _
            rw [scale_stop hsc.out hnx.out.2.2, List.take_length]
          clear hsc hroots hnx
          refine wp_region_noPanic ?_
          refine region_H (S := fun W => W.cell? ⟨w.heap.size, 0, none⟩ = some (.slice A ws.length c) ∧ W.cell? ⟨w.heap.size, 1, none⟩ = some (.slice B ns.length d) ∧ W.cell? ⟨w.heap.size + 1, 0, none⟩ = some (.slice (some ⟨be, oe, none⟩) cs.length q) ∧ W.cell? ⟨be, oe + k, none⟩ = some (.slice F cl.length g)) (by kernel_rfl) ?_
          change wpH _ _ _ _ 12 _ _ wz.drew
          refine H_takeD (k := 0) (v := .bool false) (d := some 108) rfl rfl (by decide +kernel) (fun _ _ _ h => h) (Or.inl ⟨by rfl, fun W hW => by obtain ⟨s0, s1, s2, s3⟩ := hW; go_simp⟩) HSz.out ?_
          try simp only [Act.put, List.setIfInBounds_toArray, List.set_cons_zero, List.set_cons_succ]
          refine H_takeD (k := 1) (v := .bool false) (d := some 109) rfl rfl (by decide +kernel) (fun _ _ _ h => h) (Or.inl ⟨by rfl, fun W hW => by obtain ⟨s0, s1, s2, s3⟩ := hW; go_simp⟩) HSz.out ?_
          try simp only [Act.put, List.setIfInBounds_toArray, List.set_cons_zero, List.set_cons_succ]
          refine H_takeD (k := 2) (v := .pointer (some ⟨p, 0, none⟩)) (d := some 110) rfl rfl (by decide +kernel) (fun _ _ _ h => h) (Or.inl ⟨by simp [Region.wanted, yielded], fun W hW => by obtain ⟨s0, s1, s2, s3⟩ := hW; go_simp⟩) HSz.out ?_
          try simp only [Act.put, List.setIfInBounds_toArray, List.set_cons_zero, List.set_cons_succ]
          refine H_takeD (k := 4) (v := .pointer (some ⟨w.heap.size + 1, 0, none⟩)) (d := some 112) rfl rfl (by decide +kernel) (fun _ _ _ h => h) (Or.inl ⟨by simp [Region.wanted, yielded], fun W hW => by obtain ⟨s0, s1, s2, s3⟩ := hW; go_simp⟩) HSz.out ?_
          try simp only [Act.put, List.setIfInBounds_toArray, List.set_cons_zero, List.set_cons_succ]
          refine H_takeD (k := 5) (v := .slice (some ⟨be, oe, none⟩) cs.length q) (d := some 113) rfl rfl (by decide +kernel) (fun _ _ _ h => h) (Or.inl ⟨by simp [Region.wanted, yielded], fun W hW => by obtain ⟨s0, s1, s2, s3⟩ := hW; go_simp⟩) HSz.out ?_
          try simp only [Act.put, List.setIfInBounds_toArray, List.set_cons_zero, List.set_cons_succ]
          refine H_takeD (k := 6) (v := .int .i64 k) (d := some 114) rfl rfl (by decide +kernel) (fun _ _ _ h => h) (Or.inl ⟨by simp [Region.wanted, yielded], fun W hW => by obtain ⟨s0, s1, s2, s3⟩ := hW; go_simp⟩) HSz.out ?_
          try simp only [Act.put, List.setIfInBounds_toArray, List.set_cons_zero, List.set_cons_succ]
          refine H_takeD (k := 7) (v := .pointer (some ⟨be, oe + k, none⟩)) (d := some 115) rfl rfl (by decide +kernel) (fun _ _ _ h => h) (Or.inl ⟨by simp [Region.wanted, yielded], fun W hW => by obtain ⟨s0, s1, s2, s3⟩ := hW; go_simp⟩) HSz.out ?_
          try simp only [Act.put, List.setIfInBounds_toArray, List.set_cons_zero, List.set_cons_succ]
          refine H_takeD (k := 8) (v := .slice F cl.length g) (d := some 116) rfl rfl (by decide +kernel) (fun _ _ _ h => h) (Or.inl ⟨by simp [Region.wanted, yielded], fun W hW => by obtain ⟨s0, s1, s2, s3⟩ := hW; go_simp⟩) HSz.out ?_
          try simp only [Act.put, List.setIfInBounds_toArray, List.set_cons_zero, List.set_cons_succ]
          refine H_one (i := 3) (by decide +kernel) (H_stepg rfl (by simp [Region.wanted, yielded]) (fun K hK8 => ?_))
          have hK8 := Lib.hid hK8
          go_simp
          go_at_call 58
          refine (indices_any p gg rw rn c' ofc wz.drew (Bk.drewN HG9.out.hp 1) (Bk.drewN HG9.out.hg 1) (by omega) (w64_of hCN.out.1.fok (by omega))).mono ?_
          rintro e w11 ⟨hh, rfl, hrow, hrb, hb11⟩
          have Hb11 := Lib.hid (HbZd.out.trans (hb11.mono HbZd.out.size))
          have HbE := Lib.hid (Hb9.out.drew.trans (hb11.mono Hb9.out.drew.size))
          have HS11 := Lib.hid (HSg.out _ Hb11.out)
          have Heq := equal_any (some ⟨hh, 0, none⟩) F ofc.length g (ix ofc) cl w11 (si_row hrow (by rw [ix_len]; omega)) (Hcl.out.below Hb11.out) (by rw [ix_len]; omega) hln
          rw [ix_len] at Heq
          have Heq := Lib.hid Heq
          clear hb11 hrow
          refine hK8.out _ _ HS11.out ?_
          try simp only [Act.put, List.setIfInBounds_toArray, List.set_cons_zero, List.set_cons_succ]
          refine H_one (i := 9) (by decide +kernel) (H_stepg rfl (by simp [Region.wanted, yielded]) (fun K hK9 => ?_))
          have hK9 := Lib.hid hK9
          go_simp
          go_at_call 57
          refine Heq.out.mono ?_
          rintro e w12 ⟨rfl, hq12⟩
          have Hb12 := Lib.hid (hq12.bl Hb11.out)
          have HS12 := Lib.hid (HSg.out _ Hb12.out)
          have HbF := Lib.hid (hq12.bl HbE.out)
          clear hq12
          refine hK9.out _ _ HS12.out ?_
          try simp only [Act.put, List.setIfInBounds_toArray, List.set_cons_zero, List.set_cons_succ]
          refine H_one (i := 10) (by decide +kernel) (H_stepg rfl (by simp [Region.wanted, yielded]) (fun K hK10 => ?_))
          have hK10 := Lib.hid hK10
          go_simp
          refine hK10.out _ _ HS12.out ?_
          try simp only [Act.put, List.setIfInBounds_toArray, List.set_cons_zero, List.set_cons_succ]
          refine H_one (i := 11) (by decide +kernel) (H_step rfl rfl (fun K hK11 => ?_))
          have hK11 := Lib.hid hK11
          go_simp
          refine hK11.out _ _ HS12.out ?_
          try simp only [Act.put, List.setIfInBounds_toArray, List.set_cons_zero, List.set_cons_succ]
          refine H_end (by decide +kernel) (NoPanic.normal ?_)
          try simp only [Act.put, List.setIfInBounds_toArray, List.set_cons_zero, List.set_cons_succ]
          by_cases hix : ix ofc = cl
          · have hv : Hid (checkK ws ns n st cl nl = 0) := by
              show _ = _
              rw [hK.out, hfin.out, if_pos ⟨hix, rfl⟩]
            have hdx : decide (ix ofc = cl) = true := by simp [hix]
            clear hix
            rw [hdx]
            go_wp2_with fail
            go_ret
            exact ⟨ret_int (by rw [Hnu.out]; exact hv.out.symm), HbW.out.trans (HbF.out.mono HbW.out.size)⟩
          · have hv : Hid (checkK ws ns n st cl nl = 24) := by
              show _ = _
              rw [hK.out, hfin.out, if_neg (fun h => hix h.1)]
            have hdx : decide (ix ofc = cl) = false := by simp [hix]
            clear hix
            rw [hdx]
            go_wp2_with fail
            go_ret
            exact ⟨ret_int (by rw [Hnu.out]; exact hv.out.symm), HbW.out.trans (HbF.out.mono HbW.out.size)⟩
        · obtain ⟨fu, rfl⟩ : ∃ f', fu = f' + 1 := by
            have := next_roots hnx.out.2.2
            have := hroots.out
            exact ⟨fu - 1, by omega⟩
          have hv : Hid (checkK ws ns n st cl nl = 24) := by
            show _ = _
            rw [hK.out, if_neg]
            rintro ⟨_, h⟩
            exact scale_else (j := st.length) rfl hsc.out hnx.out (by simp) h
          clear hsc hroots hnx
          refine wp_region_noPanic ?_
          refine region_H (S := fun W => W.cell? ⟨w.heap.size, 0, none⟩ = some (.slice A ws.length c) ∧ W.cell? ⟨w.heap.size, 1, none⟩ = some (.slice B ns.length d) ∧ W.cell? ⟨w.heap.size + 1, 0, none⟩ = some (.slice (some ⟨be, oe, none⟩) cs.length q) ∧ W.cell? ⟨be, oe + k, none⟩ = some (.slice F cl.length g)) (by kernel_rfl) ?_
          change wpH _ _ _ _ 12 _ _ wz.drew
          refine H_takeD (k := 0) (v := .bool true) (d := some 108) rfl rfl (by decide +kernel) (fun _ _ _ h => h) (Or.inl ⟨by rfl, fun W hW => by obtain ⟨s0, s1, s2, s3⟩ := hW; go_simp⟩) HSz.out ?_
          try simp only [Act.put, List.setIfInBounds_toArray, List.set_cons_zero, List.set_cons_succ]
          refine H_takeD (k := 1) (v := .bool true) (d := some 109) rfl rfl (by decide +kernel) (fun _ _ _ h => h) (Or.inl ⟨by rfl, fun W hW => by obtain ⟨s0, s1, s2, s3⟩ := hW; go_simp⟩) HSz.out ?_
          try simp only [Act.put, List.setIfInBounds_toArray, List.set_cons_zero, List.set_cons_succ]
          refine H_takeD (k := 2) (v := undef) (d := some 110) rfl rfl (by decide +kernel) (fun _ _ _ h => h) (Or.inr ⟨by simp [Region.wanted, yielded], rfl⟩) HSz.out ?_
          try simp only [Act.put, List.setIfInBounds_toArray, List.set_cons_zero, List.set_cons_succ]
          refine H_takeD (k := 3) (v := undef) (d := some 111) rfl rfl (by decide +kernel) (fun _ _ _ h => h) (Or.inr ⟨by simp [Region.wanted, yielded], rfl⟩) HSz.out ?_
          try simp only [Act.put, List.setIfInBounds_toArray, List.set_cons_zero, List.set_cons_succ]
          refine H_takeD (k := 4) (v := undef) (d := some 112) rfl rfl (by decide +kernel) (fun _ _ _ h => h) (Or.inr ⟨by simp [Region.wanted, yielded], rfl⟩) HSz.out ?_
          try simp only [Act.put, List.setIfInBounds_toArray, List.set_cons_zero, List.set_cons_succ]
          refine H_takeD (k := 5) (v := undef) (d := some 113) rfl rfl (by decide +kernel) (fun _ _ _ h => h) (Or.inr ⟨by simp [Region.wanted, yielded], rfl⟩) HSz.out ?_
          try simp only [Act.put, List.setIfInBounds_toArray, List.set_cons_zero, List.set_cons_succ]
          refine H_takeD (k := 6) (v := undef) (d := some 114) rfl rfl (by decide +kernel) (fun _ _ _ h => h) (Or.inr ⟨by simp [Region.wanted, yielded], rfl⟩) HSz.out ?_
          try simp only [Act.put, List.setIfInBounds_toArray, List.set_cons_zero, List.set_cons_succ]
          refine H_takeD (k := 7) (v := undef) (d := some 115) rfl rfl (by decide +kernel) (fun _ _ _ h => h) (Or.inr ⟨by simp [Region.wanted, yielded], rfl⟩) HSz.out ?_
          try simp only [Act.put, List.setIfInBounds_toArray, List.set_cons_zero, List.set_cons_succ]
          refine H_takeD (k := 8) (v := undef) (d := some 116) rfl rfl (by decide +kernel) (fun _ _ _ h => h) (Or.inr ⟨by simp [Region.wanted, yielded], rfl⟩) HSz.out ?_
          try simp only [Act.put, List.setIfInBounds_toArray, List.set_cons_zero, List.set_cons_succ]
          refine H_takeD (k := 9) (v := undef) (d := some 117) rfl rfl (by decide +kernel) (fun _ _ _ h => h) (Or.inr ⟨by simp [Region.wanted, yielded], rfl⟩) HSz.out ?_
          try simp only [Act.put, List.setIfInBounds_toArray, List.set_cons_zero, List.set_cons_succ]
          refine H_takeD (k := 10) (v := undef) (d := some 118) rfl rfl (by decide +kernel) (fun _ _ _ h => h) (Or.inr ⟨by simp [Region.wanted, yielded], rfl⟩) HSz.out ?_
          try simp only [Act.put, List.setIfInBounds_toArray, List.set_cons_zero, List.set_cons_succ]
          refine H_takeD (k := 11) (v := .bool true) (d := some 119) rfl rfl (by decide +kernel) (fun _ _ _ h => h) (Or.inl ⟨by rfl, fun W hW => by obtain ⟨s0, s1, s2, s3⟩ := hW; go_simp⟩) HSz.out ?_
          try simp only [Act.put, List.setIfInBounds_toArray, List.set_cons_zero, List.set_cons_succ]
          refine H_end (by decide +kernel) (NoPanic.normal ?_)
          try simp only [Act.put, List.setIfInBounds_toArray, List.set_cons_zero, List.set_cons_succ]
          go_wp2_with fail
          go_ret
          exact ⟨ret_int (by rw [Hnu.out]; exact hv.out.symm), HbW.out.trans (Hb9.out.drew.mono HbW.out.size)⟩
  · have h1 : le = 1 := by
      rw [← hle.out]
      rcases listE_one (n := ws.length) (l := cl) with a | a <;> rcases listE_one (n := ws.length) (l := nl) with b | b <;> simp [orI, a, b] at hz ⊢
    subst h1
    have hv : Hid (checkK ws ns n st cl nl = 1) := by
      show _ = _
      rw [checkK, if_pos (by omega)]
    clear hle hz
    go_wp2_with fail
    go_ret
    exact ⟨ret_int (by rw [Hnu.out]; exact hv.out.symm), HbW.out⟩
end Go.Proofs.Ytaegfljpodhnhaa
