import Derived.Test.YtaegfljpodhnhaaR46
import Derived.Deep.DeepCutAuto
import Derived.Deep.RegionHeld3
namespace Go.Proofs.Ytaegfljpodhnhaa
open Go.RowKit Go.Maps

set_option linter.unusedSimpArgs false in
set_option maxHeartbeats 8000000 in
set_option maxRecDepth 100000 in
theorem refCheck_main (A B C D E : Option Addr) (c d f m q : Nat) (ws : List Int) (ns : List (Int × Int × Int)) (ls : List Int) (k : Nat) (st : List (Int × Int)) (cs : List (List Int)) (w : World) (hA : SI w A ws) (hB : ST w B ns) (hC : SI w C ls) (hD : SL w D (pairC st)) (hE : SLL w E cs) (hl1 : ws.length ≤ 4611686018427387904) (hl2 : ns.length ≤ 4611686018427387904) (hl3 : ls.length ≤ 4611686018427387904) (hl6 : ∀ l ∈ cs, l.length ≤ 4611686018427387904) (hv : validE ws ns = 0) (ht : thrE ls = 0) (hk1 : k < ls.length) (hk2 : k < cs.length) (n : Int) (hn : ls[k]? = some n) (cl : List Int) (hcl : cs[k]? = some cl) :
    Calls Try.prog 25 #[.agg #[.slice A ws.length c, .slice B ns.length d], .slice C ls.length f, .int .i64 k, .slice D st.length m, .slice E cs.length q] w fun e w' => e = .returned (.int .i64 (checkK ws ns n st cl (numL ws.length cs k))) ∧ Below w.heap.size w w' := by
  have Hv := Lib.hid hv
  have Ht := Lib.hid ht
  have HG := Lib.hid (And.intro (validE_good hv) (thrE_good ht))
  have Hn := Lib.hid hn
  have Hclg := Lib.hid hcl
  have Hl6 := Lib.hid hl6
  clear hv ht hn hcl hl6
  go_enter Try.func25, Try.ntmps25
  go_wp2_with fail
  have hb0 := (Below.refl w.heap.size w).alloc (Nat.le_refl _) (.cells #[.slice A ws.length c, .slice B ns.length d] 33)
  have hbk0 := Bk.new w 33 #[.slice A ws.length c, .slice B ns.length d]
  generalize w.alloc (.cells #[.slice A ws.length c, .slice B ns.length d] 33) = W0 at *
  have Hb0 := Lib.hid hb0
  have Hbk0 := Lib.hid hbk0
  clear hb0 hbk0
  refine (refValid_any A B c d ws ns W0 (hA.below Hb0.out) (hB.below Hb0.out) hl1 hl2).mono ?_
  rintro e w1 ⟨rfl, hb1⟩
  have Hbk1 := Lib.hid (Hbk0.out.below hb1 Hbk0.out.lt)
  have Hb1 := Lib.hid (Hb0.out.trans (hb1.mono Hb0.out.size))
  clear hb1 Hbk0 Hb0
  rw [Hv.out]
  clear Hv
  go_wp2_with fail
  refine (refThr_any C f ls w1 (hC.below Hb1.out) hl3).mono ?_
  rintro e w' ⟨rfl, rfl⟩
  rw [Ht.out]
  clear Ht
  obtain ⟨⟨g1, g2, g3, g4⟩, g5, g6⟩ := HG.out
  have HW := Lib.hid (And.intro g3 g4)
  clear g3 g4 HG
  have hc0 : w1.cell? ⟨w.heap.size, 0, none⟩ = some (.slice A ws.length c) := Hbk1.out.cell 0
  have hc1 : w1.cell? ⟨w.heap.size, 1, none⟩ = some (.slice B ns.length d) := Hbk1.out.cell 1
  have i0 : (0 : Int) ≤ (k : Int) := by omega
  have i1 : (k : Int) < ls.length := by omega
  have i2 : (k : Int) < cs.length := by omega
  go_wp2_with fail
  clear hc0 hc1
  refine (alone_any ws.length w1 (by omega)).mono ?_
  rintro e w4 ⟨v4, rfl, hal, hb4⟩
  obtain ⟨Aa, ca, rfl⟩ := own_slice hal
  have Hbk4 := Lib.hid (Hbk1.out.below hb4 Hbk1.out.lt)
  have Hb4 := Lib.hid (Hb1.out.trans (hb4.mono Hb1.out.size))
  have Hal := Lib.hid (alone_si hal)
  clear hal hb4 Hb1 Hbk1
  obtain ⟨be, oe, F, g, l', rfl, hce, hsi, hget⟩ := (hE.below Hb4.out).get (k := k) (by omega)
  have hll := hget.out.symm.trans Hclg.out
  injection hll with hll
  have hll := hll.symm
  subst hll
  have hln := Hl6.out cl (List.mem_of_getElem? hget.out)
  have Hcl := Lib.hid hsi
  have Hce := Lib.hid hce
  have Hli := Lib.hid (fun W (hW : Below w4.heap.size w4 W) => listed_any A B F c d g ws.length ns.length cl W (hsi.below hW) (by omega) (by omega))
  have Hbd := Lib.hid (Below.refl w4.heap.size w4).drew
  have hkk : k < cs.length := hk2
  clear hsi hce hget
  -- the groups ahead
  have hnum : ∃ nl, Hid (numL ws.length cs k = nl) ∧ nl.length ≤ 4611686018427387904 := ⟨_, Lib.hid rfl, by
    unfold numL
    split
    · rw [alone_len]; omega
    · exact Hl6.out _ (by rw [List.getD, List.getElem?_eq_getElem (by omega)]; exact List.getElem_mem _)⟩
  obtain ⟨nl, Hnu, hnll⟩ := hnum
  go_upto_region 10 with fail
  go_cut [67] (fun v wx => v = .bool (decide (listE ws.length cl ≠ 0 ∨ listE ws.length nl ≠ 0)) ∧ Below w4.heap.size w4 wx)
  case first =>
   by_cases hz1 : listE ws.length cl = 0
   · by_cases hk0 : k = 0
     · subst hk0
       have hnl : Hid (listE ws.length nl = 0) := by show _ = _; rw [← Hnu.out, numL, if_pos rfl, listE_alone]
       have hdec : decide (listE ws.length cl ≠ 0 ∨ listE ws.length nl ≠ 0) = false := by simp [hz1, hnl.out]
       have Hdec := Lib.hid hdec
       rw [hz1] at Hli
       have hc0' : w4.cell? ⟨be, oe, none⟩ = some (.slice F cl.length g) := Hce.out
       have HSg := Lib.hid (fun W (hW : Below w4.heap.size w4 W) => And.intro ((Hbk4.out.below hW Hbk4.out.lt).cell 0) (And.intro ((Hbk4.out.below hW Hbk4.out.lt).cell 1) ((hW.cell (World.block_lt_of_cell? _ _ hc0')).trans hc0')))
       have HS0 := Lib.hid (HSg.out _ Hbd.out)
       clear hz1 hdec hc0' hnl
       refine wp_region_noPanic ?_
       refine region_H (S := fun W => W.cell? ⟨w.heap.size, 0, none⟩ = some (.slice A ws.length c) ∧ W.cell? ⟨w.heap.size, 1, none⟩ = some (.slice B ns.length d) ∧ W.cell? ⟨be, oe, none⟩ = some (.slice F cl.length g)) (by kernel_rfl) ?_
       change wpH _ _ _ _ 21 _ _ w4.drew
       refine H_takeD (k := 0) (v := .agg #[.slice A ws.length c, .slice B ns.length d]) (d := some 47) rfl rfl (by decide +kernel) (fun _ _ _ h => h) (Or.inl ⟨by rfl, fun W hW => by obtain ⟨s0, s1, s2⟩ := hW; go_simp⟩) HS0.out ?_
       try simp only [Act.put, List.setIfInBounds_toArray, List.set_cons_zero, List.set_cons_succ]
       refine H_takeD (k := 1) (v := .slice (some ⟨be, oe, none⟩) cs.length q) (d := some 48) rfl rfl (by decide +kernel) (fun _ _ _ h => h) (Or.inl ⟨by rfl, fun W hW => by obtain ⟨s0, s1, s2⟩ := hW; go_simp⟩) HS0.out ?_
       try simp only [Act.put, List.setIfInBounds_toArray, List.set_cons_zero, List.set_cons_succ]
       refine H_takeD (k := 2) (v := .int .i64 0) (d := some 49) rfl rfl (by decide +kernel) (fun _ _ _ h => h) (Or.inl ⟨by rfl, fun W hW => by obtain ⟨s0, s1, s2⟩ := hW; go_simp⟩) HS0.out ?_
       try simp only [Act.put, List.setIfInBounds_toArray, List.set_cons_zero, List.set_cons_succ]
       refine H_takeD (k := 3) (v := .pointer (some ⟨be, oe, none⟩)) (d := some 50) rfl rfl (by decide +kernel) (fun _ _ _ h => h) (Or.inl ⟨by rfl, fun W hW => by obtain ⟨s0, s1, s2⟩ := hW; go_simp⟩) HS0.out ?_
       try simp only [Act.put, List.setIfInBounds_toArray, List.set_cons_zero, List.set_cons_succ]
       refine H_takeD (k := 4) (v := .slice F cl.length g) (d := some 51) rfl rfl (by decide +kernel) (fun _ _ _ h => h) (Or.inl ⟨by rfl, fun W hW => by obtain ⟨s0, s1, s2⟩ := hW; go_simp⟩) HS0.out ?_
       try simp only [Act.put, List.setIfInBounds_toArray, List.set_cons_zero, List.set_cons_succ]
       refine H_one (i := 5) (by decide +kernel) (H_step rfl rfl (fun K hK5 => ?_))
       have hK5 := Lib.hid hK5
       go_simp
       go_at_call 59
       refine (Hli.out _ Hbd.out).mono ?_
       rintro e w5 ⟨rfl, hb5⟩
       have Hb5 := Lib.hid (Hbd.out.trans (hb5.mono Hbd.out.size))
       have HS5 := Lib.hid (HSg.out _ Hb5.out)
       clear hb5
       refine hK5.out _ _ HS5.out ?_
       try simp only [Act.put, List.setIfInBounds_toArray, List.set_cons_zero, List.set_cons_succ]
       refine H_takeD (k := 6) (v := .bool false) (d := some 53) rfl rfl (by decide +kernel) (fun _ _ _ h => h) (Or.inl ⟨by rfl, fun W hW => by obtain ⟨s0, s1, s2⟩ := hW; go_simp⟩) HS5.out ?_
       try simp only [Act.put, List.setIfInBounds_toArray, List.set_cons_zero, List.set_cons_succ]
       refine H_takeD (k := 7) (v := .bool false) (d := some 54) rfl rfl (by decide +kernel) (fun _ _ _ h => h) (Or.inl ⟨by rfl, fun W hW => by obtain ⟨s0, s1, s2⟩ := hW; go_simp⟩) HS5.out ?_
       try simp only [Act.put, List.setIfInBounds_toArray, List.set_cons_zero, List.set_cons_succ]
       refine H_takeD (k := 8) (v := .int .i64 0) (d := some 55) rfl rfl (by decide +kernel) (fun _ _ _ h => h) (Or.inl ⟨by simp [Region.wanted, yielded], fun W hW => by obtain ⟨s0, s1, s2⟩ := hW; go_simp⟩) HS5.out ?_
       try simp only [Act.put, List.setIfInBounds_toArray, List.set_cons_zero, List.set_cons_succ]
       refine H_takeD (k := 9) (v := .bool false) (d := some 56) rfl rfl (by decide +kernel) (fun _ _ _ h => h) (Or.inl ⟨by simp [Region.wanted, yielded], fun W hW => by obtain ⟨s0, s1, s2⟩ := hW; go_simp⟩) HS5.out ?_
       try simp only [Act.put, List.setIfInBounds_toArray, List.set_cons_zero, List.set_cons_succ]
       refine H_takeD (k := 10) (v := .bool false) (d := some 57) rfl rfl (by decide +kernel) (fun _ _ _ h => h) (Or.inl ⟨by simp [Region.wanted, yielded], fun W hW => by obtain ⟨s0, s1, s2⟩ := hW; go_simp⟩) HS5.out ?_
       try simp only [Act.put, List.setIfInBounds_toArray, List.set_cons_zero, List.set_cons_succ]
       refine H_takeD (k := 11) (v := undef) (d := some 58) rfl rfl (by decide +kernel) (fun _ _ _ h => h) (Or.inr ⟨by simp [Region.wanted, yielded, undef], rfl⟩) HS5.out ?_
       try simp only [Act.put, List.setIfInBounds_toArray, List.set_cons_zero, List.set_cons_succ]
       refine H_takeD (k := 12) (v := undef) (d := some 59) rfl rfl (by decide +kernel) (fun _ _ _ h => h) (Or.inr ⟨by simp [Region.wanted, yielded, undef], rfl⟩) HS5.out ?_
       try simp only [Act.put, List.setIfInBounds_toArray, List.set_cons_zero, List.set_cons_succ]
       refine H_takeD (k := 13) (v := undef) (d := some 60) rfl rfl (by decide +kernel) (fun _ _ _ h => h) (Or.inr ⟨by simp [Region.wanted, yielded, undef], rfl⟩) HS5.out ?_
       try simp only [Act.put, List.setIfInBounds_toArray, List.set_cons_zero, List.set_cons_succ]
       refine H_takeD (k := 14) (v := undef) (d := some 61) rfl rfl (by decide +kernel) (fun _ _ _ h => h) (Or.inr ⟨by simp [Region.wanted, yielded, undef], rfl⟩) HS5.out ?_
       try simp only [Act.put, List.setIfInBounds_toArray, List.set_cons_zero, List.set_cons_succ]
       refine H_takeD (k := 15) (v := undef) (d := some 62) rfl rfl (by decide +kernel) (fun _ _ _ h => h) (Or.inr ⟨by simp [Region.wanted, yielded, undef], rfl⟩) HS5.out ?_
       try simp only [Act.put, List.setIfInBounds_toArray, List.set_cons_zero, List.set_cons_succ]
       refine H_takeD (k := 16) (v := undef) (d := some 63) rfl rfl (by decide +kernel) (fun _ _ _ h => h) (Or.inr ⟨by simp [Region.wanted, yielded, undef], rfl⟩) HS5.out ?_
       try simp only [Act.put, List.setIfInBounds_toArray, List.set_cons_zero, List.set_cons_succ]
       refine H_takeD (k := 17) (v := undef) (d := some 64) rfl rfl (by decide +kernel) (fun _ _ _ h => h) (Or.inr ⟨by simp [Region.wanted, yielded, undef], rfl⟩) HS5.out ?_
       try simp only [Act.put, List.setIfInBounds_toArray, List.set_cons_zero, List.set_cons_succ]
       refine H_takeD (k := 18) (v := undef) (d := some 65) rfl rfl (by decide +kernel) (fun _ _ _ h => h) (Or.inr ⟨by simp [Region.wanted, yielded, undef], rfl⟩) HS5.out ?_
       try simp only [Act.put, List.setIfInBounds_toArray, List.set_cons_zero, List.set_cons_succ]
       refine H_takeD (k := 19) (v := .bool false) (d := some 66) rfl rfl (by decide +kernel) (fun _ _ _ h => h) (Or.inl ⟨by simp [Region.wanted, yielded], fun W hW => by obtain ⟨s0, s1, s2⟩ := hW; go_simp⟩) HS5.out ?_
       try simp only [Act.put, List.setIfInBounds_toArray, List.set_cons_zero, List.set_cons_succ]
       refine H_takeD (k := 20) (v := .bool false) (d := some 67) rfl rfl (by decide +kernel) (fun _ _ _ h => h) (Or.inl ⟨by rfl, fun W hW => by obtain ⟨s0, s1, s2⟩ := hW; go_simp⟩) HS5.out ?_
       try simp only [Act.put, List.setIfInBounds_toArray, List.set_cons_zero, List.set_cons_succ]
       refine H_end (by decide +kernel) (NoPanic.normal ?_)
       try simp only [Act.put, List.setIfInBounds_toArray, List.set_cons_zero, List.set_cons_succ]
       go_wp2_with fail
       go_meet
       exact ⟨by rw [Hdec.out], Hb5.out⟩
     · obtain ⟨kp, Hkp⟩ : ∃ kp, Hid (k = kp + 1) := ⟨k - 1, Lib.hid (by omega)⟩
       obtain ⟨be', oe', F2, g2, l2, he, hce2, hsi2, hget2⟩ := (hE.below Hb4.out).get (k := kp) (by have := Hkp.out; omega)
       injection he with he
       injection he with he1 he2
       subst he1 he2
       have hl2' : Hid (nl = l2) := by show _ = _; rw [← Hnu.out, numL, if_neg hk0, List.getD, show k - 1 = kp by have := Hkp.out; omega, hget2.out]; rfl
       have hl2' := hl2'.out
       subst hl2'
       have hdec : decide (listE ws.length cl ≠ 0 ∨ listE ws.length nl ≠ 0) = (listE ws.length nl != 0) := by simp [hz1, bne, BEq.beq]
       have Hdec := Lib.hid hdec
       rw [hz1] at Hli
       have hce1 := Hce.out
       have HSg := Lib.hid (fun W (hW : Below w4.heap.size w4 W) => And.intro ((Hbk4.out.below hW Hbk4.out.lt).cell 0) (And.intro ((Hbk4.out.below hW Hbk4.out.lt).cell 1) (And.intro ((hW.cell (World.block_lt_of_cell? _ _ hce1)).trans hce1) ((hW.cell (World.block_lt_of_cell? _ _ hce2)).trans hce2))))
       have Hlj := Lib.hid (fun W (hW : Below w4.heap.size w4 W) => listed_any A B F2 c d g2 ws.length ns.length nl W (hsi2.below hW) (by omega) (by omega))
       have HS0 := Lib.hid (HSg.out _ Hbd.out)
       have hw1 : IntKind.i64.wrap ((k : Int) - 1) = (kp : Int) := by have := Hkp.out; rw [IntWalk.i64_in _ (by omega)]; omega
       have hkp : kp < cs.length := by have := Hkp.out; omega
       have hkp1 : 0 < k := by have := Hkp.out; omega
       have hkp0 : (0 : Int) ≤ (kp : Int) := by omega
       clear hz1 hdec hce1 hce2 hsi2 hget2 hk0
       refine wp_region_noPanic ?_
       refine region_H (S := fun W => W.cell? ⟨w.heap.size, 0, none⟩ = some (.slice A ws.length c) ∧ W.cell? ⟨w.heap.size, 1, none⟩ = some (.slice B ns.length d) ∧ W.cell? ⟨be, oe + k, none⟩ = some (.slice F cl.length g) ∧ W.cell? ⟨be, oe + kp, none⟩ = some (.slice F2 nl.length g2)) (by kernel_rfl) ?_
       change wpH _ _ _ _ 21 _ _ w4.drew
       refine H_takeD (k := 0) (v := .agg #[.slice A ws.length c, .slice B ns.length d]) (d := some 47) rfl rfl (by decide +kernel) (fun _ _ _ h => h) (Or.inl ⟨by rfl, fun W hW => by obtain ⟨s0, s1, s2, s3⟩ := hW; go_simp⟩) HS0.out ?_
       try simp only [Act.put, List.setIfInBounds_toArray, List.set_cons_zero, List.set_cons_succ]
       refine H_takeD (k := 1) (v := .slice (some ⟨be, oe, none⟩) cs.length q) (d := some 48) rfl rfl (by decide +kernel) (fun _ _ _ h => h) (Or.inl ⟨by rfl, fun W hW => by obtain ⟨s0, s1, s2, s3⟩ := hW; go_simp⟩) HS0.out ?_
       try simp only [Act.put, List.setIfInBounds_toArray, List.set_cons_zero, List.set_cons_succ]
       refine H_takeD (k := 2) (v := .int .i64 k) (d := some 49) rfl rfl (by decide +kernel) (fun _ _ _ h => h) (Or.inl ⟨by rfl, fun W hW => by obtain ⟨s0, s1, s2, s3⟩ := hW; go_simp⟩) HS0.out ?_
       try simp only [Act.put, List.setIfInBounds_toArray, List.set_cons_zero, List.set_cons_succ]
       refine H_takeD (k := 3) (v := .pointer (some ⟨be, oe + k, none⟩)) (d := some 50) rfl rfl (by decide +kernel) (fun _ _ _ h => h) (Or.inl ⟨by rfl, fun W hW => by obtain ⟨s0, s1, s2, s3⟩ := hW; go_simp⟩) HS0.out ?_
       try simp only [Act.put, List.setIfInBounds_toArray, List.set_cons_zero, List.set_cons_succ]
       refine H_takeD (k := 4) (v := .slice F cl.length g) (d := some 51) rfl rfl (by decide +kernel) (fun _ _ _ h => h) (Or.inl ⟨by rfl, fun W hW => by obtain ⟨s0, s1, s2, s3⟩ := hW; go_simp⟩) HS0.out ?_
       try simp only [Act.put, List.setIfInBounds_toArray, List.set_cons_zero, List.set_cons_succ]
       refine H_one (i := 5) (by decide +kernel) (H_step rfl rfl (fun K hK5 => ?_))
       have hK5 := Lib.hid hK5
       go_simp
       go_at_call 59
       refine (Hli.out _ Hbd.out).mono ?_
       rintro e w5 ⟨rfl, hb5⟩
       have Hb5 := Lib.hid (Hbd.out.trans (hb5.mono Hbd.out.size))
       have HS5 := Lib.hid (HSg.out _ Hb5.out)
       clear hb5
       refine hK5.out _ _ HS5.out ?_
       try simp only [Act.put, List.setIfInBounds_toArray, List.set_cons_zero, List.set_cons_succ]
       refine H_takeD (k := 6) (v := .bool false) (d := some 53) rfl rfl (by decide +kernel) (fun _ _ _ h => h) (Or.inl ⟨by rfl, fun W hW => by obtain ⟨s0, s1, s2, s3⟩ := hW; go_simp⟩) HS5.out ?_
       try simp only [Act.put, List.setIfInBounds_toArray, List.set_cons_zero, List.set_cons_succ]
       refine H_takeD (k := 7) (v := .bool false) (d := some 54) rfl rfl (by decide +kernel) (fun _ _ _ h => h) (Or.inl ⟨by rfl, fun W hW => by obtain ⟨s0, s1, s2, s3⟩ := hW; go_simp⟩) HS5.out ?_
       try simp only [Act.put, List.setIfInBounds_toArray, List.set_cons_zero, List.set_cons_succ]
       refine H_takeD (k := 8) (v := .int .i64 k) (d := some 55) rfl rfl (by decide +kernel) (fun _ _ _ h => h) (Or.inl ⟨by simp [Region.wanted, yielded], fun W hW => by obtain ⟨s0, s1, s2, s3⟩ := hW; go_simp⟩) HS5.out ?_
       try simp only [Act.put, List.setIfInBounds_toArray, List.set_cons_zero, List.set_cons_succ]
       refine H_takeD (k := 9) (v := .bool true) (d := some 56) rfl rfl (by decide +kernel) (fun _ _ _ h => h) (Or.inl ⟨by simp [Region.wanted, yielded], fun W hW => by obtain ⟨s0, s1, s2, s3⟩ := hW; go_simp⟩) HS5.out ?_
       try simp only [Act.put, List.setIfInBounds_toArray, List.set_cons_zero, List.set_cons_succ]
       refine H_takeD (k := 10) (v := .bool true) (d := some 57) rfl rfl (by decide +kernel) (fun _ _ _ h => h) (Or.inl ⟨by simp [Region.wanted, yielded], fun W hW => by obtain ⟨s0, s1, s2, s3⟩ := hW; go_simp⟩) HS5.out ?_
       try simp only [Act.put, List.setIfInBounds_toArray, List.set_cons_zero, List.set_cons_succ]
       refine H_takeD (k := 11) (v := .agg #[.slice A ws.length c, .slice B ns.length d]) (d := some 58) rfl rfl (by decide +kernel) (fun _ _ _ h => h) (Or.inl ⟨by simp [Region.wanted, yielded], fun W hW => by obtain ⟨s0, s1, s2, s3⟩ := hW; go_simp⟩) HS5.out ?_
       try simp only [Act.put, List.setIfInBounds_toArray, List.set_cons_zero, List.set_cons_succ]
       refine H_takeD (k := 12) (v := .slice (some ⟨be, oe, none⟩) cs.length q) (d := some 59) rfl rfl (by decide +kernel) (fun _ _ _ h => h) (Or.inl ⟨by simp [Region.wanted, yielded], fun W hW => by obtain ⟨s0, s1, s2, s3⟩ := hW; go_simp⟩) HS5.out ?_
       try simp only [Act.put, List.setIfInBounds_toArray, List.set_cons_zero, List.set_cons_succ]
       refine H_takeD (k := 13) (v := .int .i64 k) (d := some 60) rfl rfl (by decide +kernel) (fun _ _ _ h => h) (Or.inl ⟨by simp [Region.wanted, yielded], fun W hW => by obtain ⟨s0, s1, s2, s3⟩ := hW; go_simp⟩) HS5.out ?_
       try simp only [Act.put, List.setIfInBounds_toArray, List.set_cons_zero, List.set_cons_succ]
       refine H_takeD (k := 14) (v := .int .i64 kp) (d := some 61) rfl rfl (by decide +kernel) (fun _ _ _ h => h) (Or.inl ⟨by simp [Region.wanted, yielded], fun W hW => by obtain ⟨s0, s1, s2, s3⟩ := hW; go_simp⟩) HS5.out ?_
       try simp only [Act.put, List.setIfInBounds_toArray, List.set_cons_zero, List.set_cons_succ]
       refine H_takeD (k := 15) (v := .pointer (some ⟨be, oe + kp, none⟩)) (d := some 62) rfl rfl (by decide +kernel) (fun _ _ _ h => h) (Or.inl ⟨by simp [Region.wanted, yielded], fun W hW => by obtain ⟨s0, s1, s2, s3⟩ := hW; go_simp⟩) HS5.out ?_
       try simp only [Act.put, List.setIfInBounds_toArray, List.set_cons_zero, List.set_cons_succ]
       refine H_takeD (k := 16) (v := .slice F2 nl.length g2) (d := some 63) rfl rfl (by decide +kernel) (fun _ _ _ h => h) (Or.inl ⟨by simp [Region.wanted, yielded], fun W hW => by obtain ⟨s0, s1, s2, s3⟩ := hW; go_simp⟩) HS5.out ?_
       try simp only [Act.put, List.setIfInBounds_toArray, List.set_cons_zero, List.set_cons_succ]
       refine H_one (i := 17) (by decide +kernel) (H_stepg rfl (by simp [Region.wanted, yielded]) (fun K hK17 => ?_))
       have hK17 := Lib.hid hK17
       go_simp
       go_at_call 59
       refine (Hlj.out _ Hb5.out).mono ?_
       rintro e w6 ⟨rfl, hb6⟩
       have Hb6 := Lib.hid (Hb5.out.trans (hb6.mono Hb5.out.size))
       have HS6 := Lib.hid (HSg.out _ Hb6.out)
       clear hb6
       refine hK17.out _ _ HS6.out ?_
       try simp only [Act.put, List.setIfInBounds_toArray, List.set_cons_zero, List.set_cons_succ]
       refine H_takeD (k := 18) (v := .bool (listE ws.length nl != 0)) (d := some 65) rfl rfl (by decide +kernel) (fun _ _ _ h => h) (Or.inl ⟨by simp [Region.wanted, yielded], fun W hW => by obtain ⟨s0, s1, s2, s3⟩ := hW; go_simp⟩) HS6.out ?_
       try simp only [Act.put, List.setIfInBounds_toArray, List.set_cons_zero, List.set_cons_succ]
       refine H_takeD (k := 19) (v := .bool (listE ws.length nl != 0)) (d := some 66) rfl rfl (by decide +kernel) (fun _ _ _ h => h) (Or.inl ⟨by simp [Region.wanted, yielded], fun W hW => by obtain ⟨s0, s1, s2, s3⟩ := hW; go_simp⟩) HS6.out ?_
       try simp only [Act.put, List.setIfInBounds_toArray, List.set_cons_zero, List.set_cons_succ]
       refine H_takeD (k := 20) (v := .bool (listE ws.length nl != 0)) (d := some 67) rfl rfl (by decide +kernel) (fun _ _ _ h => h) (Or.inl ⟨by rfl, fun W hW => by obtain ⟨s0, s1, s2, s3⟩ := hW; go_simp⟩) HS6.out ?_
       try simp only [Act.put, List.setIfInBounds_toArray, List.set_cons_zero, List.set_cons_succ]
       refine H_end (by decide +kernel) (NoPanic.normal ?_)
       try simp only [Act.put, List.setIfInBounds_toArray, List.set_cons_zero, List.set_cons_succ]
       go_wp2_with fail
       go_meet
       exact ⟨by rw [Hdec.out], Hb6.out⟩
   · have hdec : decide (listE ws.length cl ≠ 0 ∨ listE ws.length nl ≠ 0) = true := by simp [hz1]
     have Hdec := Lib.hid hdec
     have hzb : (listE ws.length cl != 0) = true := by simpa using hz1
     have hce1 := Hce.out
     have HSg := Lib.hid (fun W (hW : Below w4.heap.size w4 W) => And.intro ((Hbk4.out.below hW Hbk4.out.lt).cell 0) (And.intro ((Hbk4.out.below hW Hbk4.out.lt).cell 1) ((hW.cell (World.block_lt_of_cell? _ _ hce1)).trans hce1)))
     have HS0 := Lib.hid (HSg.out _ Hbd.out)
     clear hz1 hdec hce1
     refine wp_region_noPanic ?_
     refine region_H (S := fun W => W.cell? ⟨w.heap.size, 0, none⟩ = some (.slice A ws.length c) ∧ W.cell? ⟨w.heap.size, 1, none⟩ = some (.slice B ns.length d) ∧ W.cell? ⟨be, oe + k, none⟩ = some (.slice F cl.length g)) (by kernel_rfl) ?_
     change wpH _ _ _ _ 21 _ _ w4.drew
     refine H_takeD (k := 0) (v := .agg #[.slice A ws.length c, .slice B ns.length d]) (d := some 47) rfl rfl (by decide +kernel) (fun _ _ _ h => h) (Or.inl ⟨by rfl, fun W hW => by obtain ⟨s0, s1, s2⟩ := hW; go_simp⟩) HS0.out ?_
     try simp only [Act.put, List.setIfInBounds_toArray, List.set_cons_zero, List.set_cons_succ]
     refine H_takeD (k := 1) (v := .slice (some ⟨be, oe, none⟩) cs.length q) (d := some 48) rfl rfl (by decide +kernel) (fun _ _ _ h => h) (Or.inl ⟨by rfl, fun W hW => by obtain ⟨s0, s1, s2⟩ := hW; go_simp⟩) HS0.out ?_
     try simp only [Act.put, List.setIfInBounds_toArray, List.set_cons_zero, List.set_cons_succ]
     refine H_takeD (k := 2) (v := .int .i64 k) (d := some 49) rfl rfl (by decide +kernel) (fun _ _ _ h => h) (Or.inl ⟨by rfl, fun W hW => by obtain ⟨s0, s1, s2⟩ := hW; go_simp⟩) HS0.out ?_
     try simp only [Act.put, List.setIfInBounds_toArray, List.set_cons_zero, List.set_cons_succ]
     refine H_takeD (k := 3) (v := .pointer (some ⟨be, oe + k, none⟩)) (d := some 50) rfl rfl (by decide +kernel) (fun _ _ _ h => h) (Or.inl ⟨by rfl, fun W hW => by obtain ⟨s0, s1, s2⟩ := hW; go_simp⟩) HS0.out ?_
     try simp only [Act.put, List.setIfInBounds_toArray, List.set_cons_zero, List.set_cons_succ]
     refine H_takeD (k := 4) (v := .slice F cl.length g) (d := some 51) rfl rfl (by decide +kernel) (fun _ _ _ h => h) (Or.inl ⟨by rfl, fun W hW => by obtain ⟨s0, s1, s2⟩ := hW; go_simp⟩) HS0.out ?_
     try simp only [Act.put, List.setIfInBounds_toArray, List.set_cons_zero, List.set_cons_succ]
     refine H_one (i := 5) (by decide +kernel) (H_step rfl rfl (fun K hK5 => ?_))
     have hK5 := Lib.hid hK5
     go_simp
     go_at_call 59
     refine (Hli.out _ Hbd.out).mono ?_
     rintro e w5 ⟨rfl, hb5⟩
     have Hb5 := Lib.hid (Hbd.out.trans (hb5.mono Hbd.out.size))
     have HS5 := Lib.hid (HSg.out _ Hb5.out)
     clear hb5
     refine hK5.out _ _ HS5.out ?_
     try simp only [Act.put, List.setIfInBounds_toArray, List.set_cons_zero, List.set_cons_succ]
     refine H_takeD (k := 6) (v := .bool true) (d := some 53) rfl rfl (by decide +kernel) (fun _ _ _ h => h) (Or.inl ⟨by rfl, fun W hW => by obtain ⟨s0, s1, s2⟩ := hW; go_simp⟩) HS5.out ?_
     try simp only [Act.put, List.setIfInBounds_toArray, List.set_cons_zero, List.set_cons_succ]
     refine H_takeD (k := 7) (v := .bool true) (d := some 54) rfl rfl (by decide +kernel) (fun _ _ _ h => h) (Or.inl ⟨by rfl, fun W hW => by obtain ⟨s0, s1, s2⟩ := hW; go_simp⟩) HS5.out ?_
     try simp only [Act.put, List.setIfInBounds_toArray, List.set_cons_zero, List.set_cons_succ]
     refine H_takeD (k := 8) (v := undef) (d := some 55) rfl rfl (by decide +kernel) (fun _ _ _ h => h) (Or.inr ⟨by simp [Region.wanted, yielded, undef], rfl⟩) HS5.out ?_
     try simp only [Act.put, List.setIfInBounds_toArray, List.set_cons_zero, List.set_cons_succ]
     refine H_takeD (k := 9) (v := undef) (d := some 56) rfl rfl (by decide +kernel) (fun _ _ _ h => h) (Or.inr ⟨by simp [Region.wanted, yielded, undef], rfl⟩) HS5.out ?_
     try simp only [Act.put, List.setIfInBounds_toArray, List.set_cons_zero, List.set_cons_succ]
     refine H_takeD (k := 10) (v := undef) (d := some 57) rfl rfl (by decide +kernel) (fun _ _ _ h => h) (Or.inr ⟨by simp [Region.wanted, yielded, undef], rfl⟩) HS5.out ?_
     try simp only [Act.put, List.setIfInBounds_toArray, List.set_cons_zero, List.set_cons_succ]
     refine H_takeD (k := 11) (v := undef) (d := some 58) rfl rfl (by decide +kernel) (fun _ _ _ h => h) (Or.inr ⟨by simp [Region.wanted, yielded, undef], rfl⟩) HS5.out ?_
     try simp only [Act.put, List.setIfInBounds_toArray, List.set_cons_zero, List.set_cons_succ]
     refine H_takeD (k := 12) (v := undef) (d := some 59) rfl rfl (by decide +kernel) (fun _ _ _ h => h) (Or.inr ⟨by simp [Region.wanted, yielded, undef], rfl⟩) HS5.out ?_
     try simp only [Act.put, List.setIfInBounds_toArray, List.set_cons_zero, List.set_cons_succ]
     refine H_takeD (k := 13) (v := undef) (d := some 60) rfl rfl (by decide +kernel) (fun _ _ _ h => h) (Or.inr ⟨by simp [Region.wanted, yielded, undef], rfl⟩) HS5.out ?_
     try simp only [Act.put, List.setIfInBounds_toArray, List.set_cons_zero, List.set_cons_succ]
     refine H_takeD (k := 14) (v := undef) (d := some 61) rfl rfl (by decide +kernel) (fun _ _ _ h => h) (Or.inr ⟨by simp [Region.wanted, yielded, undef], rfl⟩) HS5.out ?_
     try simp only [Act.put, List.setIfInBounds_toArray, List.set_cons_zero, List.set_cons_succ]
     refine H_takeD (k := 15) (v := undef) (d := some 62) rfl rfl (by decide +kernel) (fun _ _ _ h => h) (Or.inr ⟨by simp [Region.wanted, yielded, undef], rfl⟩) HS5.out ?_
     try simp only [Act.put, List.setIfInBounds_toArray, List.set_cons_zero, List.set_cons_succ]
     refine H_takeD (k := 16) (v := undef) (d := some 63) rfl rfl (by decide +kernel) (fun _ _ _ h => h) (Or.inr ⟨by simp [Region.wanted, yielded, undef], rfl⟩) HS5.out ?_
     try simp only [Act.put, List.setIfInBounds_toArray, List.set_cons_zero, List.set_cons_succ]
     refine H_takeD (k := 17) (v := undef) (d := some 64) rfl rfl (by decide +kernel) (fun _ _ _ h => h) (Or.inr ⟨by simp [Region.wanted, yielded, undef], rfl⟩) HS5.out ?_
     try simp only [Act.put, List.setIfInBounds_toArray, List.set_cons_zero, List.set_cons_succ]
     refine H_takeD (k := 18) (v := undef) (d := some 65) rfl rfl (by decide +kernel) (fun _ _ _ h => h) (Or.inr ⟨by simp [Region.wanted, yielded, undef], rfl⟩) HS5.out ?_
     try simp only [Act.put, List.setIfInBounds_toArray, List.set_cons_zero, List.set_cons_succ]
     refine H_takeD (k := 19) (v := undef) (d := some 66) rfl rfl (by decide +kernel) (fun _ _ _ h => h) (Or.inr ⟨by simp [Region.wanted, yielded, undef], rfl⟩) HS5.out ?_
     try simp only [Act.put, List.setIfInBounds_toArray, List.set_cons_zero, List.set_cons_succ]
     refine H_takeD (k := 20) (v := .bool true) (d := some 67) rfl rfl (by decide +kernel) (fun _ _ _ h => h) (Or.inl ⟨by rfl, fun W hW => by obtain ⟨s0, s1, s2⟩ := hW; go_simp⟩) HS5.out ?_
     try simp only [Act.put, List.setIfInBounds_toArray, List.set_cons_zero, List.set_cons_succ]
     refine H_end (by decide +kernel) (NoPanic.normal ?_)
     try simp only [Act.put, List.setIfInBounds_toArray, List.set_cons_zero, List.set_cons_succ]
     go_wp2_with fail
     go_meet
     exact ⟨by rw [Hdec.out], Hb5.out⟩
  case rest =>
  obtain ⟨rfl, hbc⟩ := hcut
  obtain ⟨w5, rfl⟩ : ∃ x, x = wc := ⟨wc, rfl⟩
  have Hbc := Lib.hid hbc
  clear hbc
  by_cases hbad : listE ws.length cl ≠ 0 ∨ listE ws.length nl ≠ 0
  · have hv : Hid (checkK ws ns n st cl nl = 1) := by show _ = _; rw [checkK, if_pos hbad]
    have hdt : decide (listE ws.length cl ≠ 0 ∨ listE ws.length nl ≠ 0) = true := by simpa using hbad
    rw [hdt]
    clear hbad hdt
    go_wp2_with fail
    go_ret
    exact ⟨ret_int (by rw [Hnu.out]; exact hv.out.symm), Hb4.out.trans (Hbc.out.mono Hb4.out.size)⟩
  · have hdt : decide (listE ws.length cl ≠ 0 ∨ listE ws.length nl ≠ 0) = false := decide_eq_false hbad
    rw [hdt]
    have hz : listE ws.length cl = 0 ∧ listE ws.length nl = 0 := by omega
    have hN0 := (listE_good hz.2).1
    have hof0 := And.intro (named_cn nl) (named_len nl)
    obtain ⟨of0, hof⟩ : ∃ of0, Hid (named nl = of0) := ⟨_, rfl⟩
    rw [hof.out] at hof0
    have HCN := Lib.hid (And.intro hof0.1 (hof0.2.trans hN0))
    have hol := Nat.le_of_eq HCN.out.2
    have HN0 := Lib.hid hN0
    have hnl4 : nl.length ≤ 4096 := by omega
    have hK : Hid (checkK ws ns n st cl nl = if ix (scale ws ns of0 n).1 = cl ∧ (scale ws ns of0 n).2 = st then 0 else 24) := by
      show _ = _
      rw [checkK, if_neg hbad, hof.out]
    clear hbad hdt hz hN0 hof0
    go_upto_if 69 with fail
    go_cut [13] (fun v wx => ∃ NA nc, v = .slice NA of0.length nc ∧ SI wx NA of0 ∧ Below w4.heap.size w4 wx)
    case first =>
      by_cases hk0 : k = 0
      · subst hk0
        have e : Hid (of0 = alone ws.length) := by show _ = _; rw [← hof.out, ← Hnu.out, numL, if_pos rfl, named_alone]
        go_wp2_with fail
        go_meet
        exact ⟨Aa, ca, by rw [e.out, alone_len], by rw [e.out]; exact Hal.out.below Hbc.out, Hbc.out⟩
      · obtain ⟨kp, Hkp⟩ : ∃ kp, Hid (k = kp + 1) := ⟨k - 1, Lib.hid (by omega)⟩
        obtain ⟨be', oe', F2, g2, l2, he, hce2, hsi2, hget2⟩ := (hE.below (Hb4.out.trans (Hbc.out.mono Hb4.out.size))).get (k := kp) (by have := Hkp.out; omega)
        injection he with he
        injection he with he1 he2
        subst he1 he2
        have hl2' : Hid (nl = l2) := by show _ = _; rw [← Hnu.out, numL, if_neg hk0, List.getD, show k - 1 = kp by have := Hkp.out; omega, hget2.out]; rfl
        have hl2' := hl2'.out
        subst hl2'
        have hw1 : IntKind.i64.wrap ((k : Int) - 1) = (kp : Int) := by have := Hkp.out; rw [IntWalk.i64_in _ (by omega)]; omega
        have hkp : kp < cs.length := by have := Hkp.out; omega
        have hkp1 : 0 < k := by have := Hkp.out; omega
        have hkp0 : (0 : Int) ≤ (kp : Int) := by omega
        have Hnm := Lib.hid (refNamed_any F2 g2 nl w5 hsi2 (by omega))
        clear hsi2 hget2 hk0
        go_wp2_with fail
        refine Hnm.out.mono ?_
        rintro e wn ⟨vn, rfl, hown, hbn⟩
        rw [hof.out] at hown
        obtain ⟨An, cn, rfl⟩ := own_slice hown
        have Hown := Lib.hid hown
        clear hown hce2
        obtain ⟨nlen, hnlen⟩ : ∃ x, Hid (nl.length = x) := ⟨_, rfl⟩
        rw [hnlen.out]
        go_wp2_with fail
        go_meet
        exact ⟨An, cn, by rw [← hnlen.out, HCN.out.2, HN0.out], SL.of_own Hown.out, Hbc.out.trans (hbn.mono Hbc.out.size)⟩
    case rest =>
    obtain ⟨NA, nc, rfl, hna, hbd⟩ := hcut
    obtain ⟨wd, rfl⟩ : ∃ x, x = wc := ⟨wc, rfl⟩
    have Hbk7 := Lib.hid (Hbk4.out.below hbd Hbk4.out.lt)
    have Hb7 := Lib.hid (Hb4.out.trans (hbd.mono Hb4.out.size))
    obtain ⟨b2, o2, x, rfl, hcn, hxn⟩ := (hC.below Hb7.out).get hk1
    have hxn := hxn.out.symm.trans Hn.out
    injection hxn with hxn
    have hxn := hxn.symm
    subst hxn
    have hcl7 := (hbd.cell (World.block_lt_of_cell? _ _ Hce.out)).trans Hce.out
    have HSn := Lib.hid (fun W (hW : Below wd.heap.size wd W) => And.intro ((Hbk7.out.below hW Hbk7.out.lt).cell 0) (And.intro ((Hbk7.out.below hW Hbk7.out.lt).cell 1) ((hW.cell (World.block_lt_of_cell? _ _ hcn)).trans hcn)))
    have HSl := Lib.hid (fun W (hW : Below wd.heap.size wd W) => (hW.cell (World.block_lt_of_cell? _ _ hcl7)).trans hcl7)
    have Hb7d := Lib.hid (Below.refl wd.heap.size wd).drew
    have Hcl7 := Lib.hid (Hcl.out.below hbd)
    have hsc := scale_any2 A B NA c d nc ws ns of0 n wd.drew (hA.below (Hb7.out.trans (Hb7d.out.mono Hb7.out.size))) (hB.below (Hb7.out.trans (Hb7d.out.mono Hb7.out.size))) (hna.below Hb7d.out) HW.out.1 HCN.out.2 g1 (HW.out.2.len HCN.out.2.symm) g2
    have hcn1 : CN (scale ws ns of0 n).1 := (CN.scaleF (ws := ws) (ns := ns) (least := n) of0.length of0 HCN.out.1).1
    obtain ⟨r1, hr1⟩ : ∃ r, Hid ((scale ws ns of0 n).1 = r) := ⟨_, rfl⟩
    obtain ⟨r2, hr2⟩ : ∃ r, Hid ((scale ws ns of0 n).2 = r) := ⟨_, rfl⟩
    rw [hr1.out, hr2.out] at hsc hK
    rw [hr1.out] at hcn1
    have Hsc := Lib.hid hsc
    have Hcn1 := Lib.hid hcn1
    have HS0 := Lib.hid (HSn.out _ Hb7d.out)
    have HDw := Lib.hid (hD.below Hb7.out)
    have hkl := hk1
    clear hsc hcn1 hna hbd hcn hcl7 hr1 hr2 Hce Hcl Hbc
    go_upto_region 14 with fail
    refine wp_region_noPanic ?_
    refine region_H (S := fun W => W.cell? ⟨w.heap.size, 0, none⟩ = some (.slice A ws.length c) ∧ W.cell? ⟨w.heap.size, 1, none⟩ = some (.slice B ns.length d) ∧ W.cell? ⟨b2, o2 + k, none⟩ = some (.int .i64 n)) (by kernel_rfl) ?_
    change wpH _ _ _ _ 12 _ _ wd.drew
    refine H_takeD (k := 0) (v := .agg #[.slice A ws.length c, .slice B ns.length d]) (d := some 77) rfl rfl (by decide +kernel) (fun _ _ _ h => h) (Or.inl ⟨by rfl, fun W hW => by obtain ⟨s0, s1, s2⟩ := hW; go_simp⟩) HS0.out ?_
    try simp only [Act.put, List.setIfInBounds_toArray, List.set_cons_zero, List.set_cons_succ]
    refine H_takeD (k := 1) (v := .slice NA of0.length nc) (d := some 78) rfl rfl (by decide +kernel) (fun _ _ _ h => h) (Or.inl ⟨by rfl, fun W hW => by obtain ⟨s0, s1, s2⟩ := hW; go_simp⟩) HS0.out ?_
    try simp only [Act.put, List.setIfInBounds_toArray, List.set_cons_zero, List.set_cons_succ]
    refine H_takeD (k := 2) (v := .slice (some ⟨b2, o2, none⟩) ls.length f) (d := some 79) rfl rfl (by decide +kernel) (fun _ _ _ h => h) (Or.inl ⟨by rfl, fun W hW => by obtain ⟨s0, s1, s2⟩ := hW; go_simp⟩) HS0.out ?_
    try simp only [Act.put, List.setIfInBounds_toArray, List.set_cons_zero, List.set_cons_succ]
    refine H_takeD (k := 3) (v := .int .i64 k) (d := some 80) rfl rfl (by decide +kernel) (fun _ _ _ h => h) (Or.inl ⟨by rfl, fun W hW => by obtain ⟨s0, s1, s2⟩ := hW; go_simp⟩) HS0.out ?_
    try simp only [Act.put, List.setIfInBounds_toArray, List.set_cons_zero, List.set_cons_succ]
    refine H_takeD (k := 4) (v := .pointer (some ⟨b2, o2 + k, none⟩)) (d := some 81) rfl rfl (by decide +kernel) (fun _ _ _ h => h) (Or.inl ⟨by rfl, fun W hW => by obtain ⟨s0, s1, s2⟩ := hW; go_simp⟩) HS0.out ?_
    try simp only [Act.put, List.setIfInBounds_toArray, List.set_cons_zero, List.set_cons_succ]
    refine H_takeD (k := 5) (v := .int .i64 n) (d := some 82) rfl rfl (by decide +kernel) (fun _ _ _ h => h) (Or.inl ⟨by rfl, fun W hW => by obtain ⟨s0, s1, s2⟩ := hW; go_simp⟩) HS0.out ?_
    try simp only [Act.put, List.setIfInBounds_toArray, List.set_cons_zero, List.set_cons_succ]
    refine H_one (i := 6) (by decide +kernel) (H_step rfl rfl (fun K hK6 => ?_))
    have hK6 := Lib.hid hK6
    go_simp
    go_at_call 49
    refine Hsc.out.mono ?_
    rintro e w8 ⟨X1, x1, X2, x2, rfl, hx1, _, hx2, hxl1, hxl2, hb8⟩
    have Hb8 := Lib.hid (Hb7d.out.trans (hb8.mono Hb7d.out.size))
    have HS8 := Lib.hid (HSn.out _ Hb8.out)
    have Hx1 := Lib.hid hx1
    have Hx2 := Lib.hid hx2
    have hxl := Nat.le_of_eq hxl1
    clear hb8 hx1 hx2 hxl1
    refine hK6.out _ _ HS8.out ?_
    try simp only [Act.put, List.setIfInBounds_toArray, List.set_cons_zero, List.set_cons_succ]
    refine H_takeD (k := 7) (v := .tuple #[.slice X1 r1.length x1, .slice X2 r2.length x2]) (d := some 76) rfl rfl (by decide +kernel) (fun _ _ _ h => h) (Or.inl ⟨by rfl, fun W hW => by obtain ⟨s0, s1, s2⟩ := hW; go_simp⟩) HS8.out ?_
    try simp only [Act.put, List.setIfInBounds_toArray, List.set_cons_zero, List.set_cons_succ]
    refine H_takeD (k := 8) (v := .slice X1 r1.length x1) (d := some 84) rfl rfl (by decide +kernel) (fun _ _ _ h => h) (Or.inl ⟨by rfl, fun W hW => by obtain ⟨s0, s1, s2⟩ := hW; go_simp⟩) HS8.out ?_
    try simp only [Act.put, List.setIfInBounds_toArray, List.set_cons_zero, List.set_cons_succ]
    refine H_takeD (k := 9) (v := .slice X2 r2.length x2) (d := some 85) rfl rfl (by decide +kernel) (fun _ _ _ h => h) (Or.inl ⟨by rfl, fun W hW => by obtain ⟨s0, s1, s2⟩ := hW; go_simp⟩) HS8.out ?_
    try simp only [Act.put, List.setIfInBounds_toArray, List.set_cons_zero, List.set_cons_succ]
    refine H_one (i := 10) (by decide +kernel) (H_step rfl rfl (fun K hK10 => ?_))
    have hK10 := Lib.hid hK10
    go_simp
    refine hK10.out _ _ HS8.out ?_
    try simp only [Act.put, List.setIfInBounds_toArray, List.set_cons_zero, List.set_cons_succ]
    refine H_one (i := 11) (by decide +kernel) (H_step rfl rfl (fun K hK11 => ?_))
    have hK11 := Lib.hid hK11
    go_simp
    refine hK11.out _ _ HS8.out ?_
    try simp only [Act.put, List.setIfInBounds_toArray, List.set_cons_zero, List.set_cons_succ]
    refine H_end (by decide +kernel) (NoPanic.normal ?_)
    try simp only [Act.put, List.setIfInBounds_toArray, List.set_cons_zero, List.set_cons_succ]
    clear HS0 HS8 Hsc
    have hrl : r1.length ≤ 4096 := by omega
    have hrl2 : r2.length ≤ 4096 := by omega
    go_wp2_with fail
    refine (refIndices_any X1 x1 r1 w8 Hx1.out Hcn1.out hrl).mono ?_
    rintro e w9 ⟨v9, rfl, hown9, hb9⟩
    obtain ⟨Ai, ci, rfl⟩ := own_slice hown9
    have Hb9 := Lib.hid (Hb8.out.trans (hb9.mono Hb8.out.size))
    have Hx2 := Lib.hid (Hx2.out.below hb9)
    have hsm := sameInts_any Ai F ci g (ix r1) cl w9 (SL.of_own hown9) (Hcl7.out.below Hb9.out) (by rw [ix_len]; omega) hln
    rw [ix_len] at hsm
    have Hsm := Lib.hid hsm
    have hcz := HSl.out _ Hb9.out
    clear hown9 hb9 hsm Hx1 Hb8
    go_wp2_with fail
    clear hcz
    refine Hsm.out.mono ?_
    rintro e w10 ⟨rfl, hq10⟩
    have Hx2 := Lib.hid (Hx2.out.qt hq10)
    have Hb10 := Lib.hid (hq10.bl Hb9.out)
    have HDz := Lib.hid (HDw.out.below Hb10.out)
    have HbF := Lib.hid (Hb7.out.trans (Hb10.out.mono Hb7.out.size))
    clear hq10 Hsm Hb9
    by_cases hix : ix r1 = cl
    · have hdx : decide (ix r1 = cl) = true := by simp [hix]
      rw [hdx]
      by_cases hlen : r2.length = st.length
      · have hlb : ((r2.length : Int) != (st.length : Int)) = false := by simp [hlen]
        have Hlen := Lib.hid hlen
        have Hix := Lib.hid hix
        have hlen1 : r2.length ≤ st.length := by omega
        have hlen2 : st.length ≤ r2.length := by omega
        clear hix hdx hlen
        go_wp2_with fail
        clear hlb
        go_loopw [18] (fun v wr => ∃ x : Nat, x ≤ r2.length ∧ v = .int .i64 x ∧ Hid (r2.take x = st.take x) ∧ Qt w10 wr) (fun v _ => r2.length - (intOf v).toNat)
        case atStart => exact ⟨0, by omega, rfl, Lib.hid rfl, ⟨0, rfl⟩⟩
        case round =>
          obtain ⟨x, hx, rfl, htk, hq⟩ := hrel
          by_cases hlt4 : x < r2.length
          · obtain ⟨b3, o3, p1, p2, rfl, hd0, hd1, hz1⟩ := (Hx2.out.qt hq).pair hlt4
            obtain ⟨b4, o4, q1, q2, rfl, hd2, hd3, hz2⟩ := (HDz.out.qt hq).pair (k := x) (by omega)
            have hx0 : (0 : Int) ≤ (x : Int) := by omega
            have hx1 : x < st.length := by omega
            have Hq := Lib.hid hq
            clear hq
            by_cases hpq : p1 = q1 ∧ p2 = q2
            · obtain ⟨rfl, rfl⟩ := hpq
              have htk2 : Hid (r2.take (x + 1) = st.take (x + 1)) := by show _ = _; rw [take_snoc' hz1.out, take_snoc' hz2.out, htk.out]
              go_wp2_with fail
              go_quiet (fail)
              have Hq2 := Lib.hid (Hq.out.drewN nq)
              go_wp2_with fail
              go_roundw
              case rel => exact ⟨x + 1, by omega, by go_num, htk2, Hq2.out⟩
              case measure => simp [intOf]; omega
            · have hv : Hid (checkK ws ns n st cl nl = 24) := by
                show _ = _
                rw [hK.out, if_neg]
                rintro ⟨_, h⟩
                rw [h] at hz1
                have h2 := hz1.out.symm.trans hz2.out
                injection h2 with h2
                injection h2 with h3 h4
                exact hpq ⟨h3, h4⟩
              by_cases hp1 : p1 = q1
              · subst hp1
                have hp2 : (p2 == q2) = false := by simpa using hpq
                clear hpq
                go_wp2_with fail
                go_quiet (fail)
                have Hq2 := Lib.hid (Hq.out.drewN nq)
                go_wp2_with fail
                go_ret
                exact ⟨ret_int (by rw [Hnu.out]; exact hv.out.symm), Hq2.out.bl HbF.out⟩
              · have hp2 : (p1 == q1) = false := by simpa using hp1
                clear hpq hp1
                go_wp2_with fail
                go_quiet (fail)
                have Hq2 := Lib.hid (Hq.out.drewN nq)
                go_wp2_with fail
                go_ret
                exact ⟨ret_int (by rw [Hnu.out]; exact hv.out.symm), Hq2.out.bl HbF.out⟩
          · obtain rfl : x = r2.length := by omega
            have hv : Hid (checkK ws ns n st cl nl = 0) := by
              show _ = _
              have h := htk.out
              rw [List.take_length, List.take_of_length_le hlen2] at h
              rw [hK.out, if_pos ⟨Hix.out, h⟩]
            go_wp2_with fail
            go_ret
            exact ⟨ret_int (by rw [Hnu.out]; exact hv.out.symm), hq.bl HbF.out⟩
      · have hlb : ((r2.length : Int) != (st.length : Int)) = true := by simp; omega
        have hv : Hid (checkK ws ns n st cl nl = 24) := by
          show _ = _
          rw [hK.out, if_neg]
          rintro ⟨_, h⟩
          exact hlen (by rw [h])
        clear hix hdx hlen
        go_wp2_with fail
        go_ret
        exact ⟨ret_int (by rw [Hnu.out]; exact hv.out.symm), HbF.out⟩
    · have hdx : decide (ix r1 = cl) = false := by simp [hix]
      have hv : Hid (checkK ws ns n st cl nl = 24) := by
        show _ = _
        rw [hK.out, if_neg (fun h => hix h.1)]
      rw [hdx]
      clear hix hdx
      go_wp2_with fail
      go_ret
      exact ⟨ret_int (by rw [Hnu.out]; exact hv.out.symm), HbF.out⟩
end Go.Proofs.Ytaegfljpodhnhaa
