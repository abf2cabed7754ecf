import Derived.Test.YtaegfljpodhnhaaR31
namespace Go.Proofs.Ytaegfljpodhnhaa
open Go.RowKit Go.Maps

theorem steps_last {ws : List Int} {ns : List (Int × Int × Int)} {ls : List Int} {k : Nat} {n : Int} (h : ls[k]? = some n) : (scale ws ns (after ws ns (alone ws.length) (ls.take k)) n).2 = steps ws ns ls k := by
  have h1 := chain_take_snoc (ws := ws) (ns := ns) (of := alone ws.length) h
  have h2 := steps_at (ws := ws) (ns := ns) (ls := ls) (k := k) (List.getElem?_eq_some_iff.1 h).1
  have h3 : (chain ws ns (alone ws.length) (ls.take k)).length = k := by
    rw [chain_len, List.length_take]
    have := (List.getElem?_eq_some_iff.1 h).1
    omega
  rw [h1, List.map_append, List.getElem?_append_right (by simp [h3]), List.length_map, h3, Nat.sub_self] at h2
  simpa using h2

set_option maxHeartbeats 4000000 in
set_option maxRecDepth 100000 in
theorem refSteps_any (A B C : Option Addr) (c d f : Nat) (ws : List Int) (ns : List (Int × Int × Int)) (ls : List Int) (s : Int) (w : World) (hA : SI w A ws) (hB : ST w B ns) (hC : SI w C ls) (hl1 : ws.length ≤ 4611686018427387904) (hl2 : ns.length ≤ 4611686018427387904) (hl3 : ls.length ≤ 4611686018427387904) :
    Calls Try.prog 20 #[.agg #[.slice A ws.length c, .slice B ns.length d], .slice C ls.length f, .int .i64 s] w fun e w' => ∃ D m, e = .returned (.tuple #[.slice D (stL ws ns ls s).length m, .int .i64 (stE ws ns ls s)]) ∧ SL w' D (pairC (stL ws ns ls s)) ∧ Below w.heap.size w w' := by
  go_enter Try.func20, Try.ntmps20
  go_wp2_with fail
  have hb0 := (Below.refl w.heap.size w).alloc (Nat.le_refl _) (.cells #[.slice A ws.length c, .slice B ns.length d] 33)
  have hbk0 := Bk.new w 33 #[.slice A ws.length c, .slice B ns.length d]
  generalize w.alloc (.cells #[.slice A ws.length c, .slice B ns.length d] 33) = W0 at *
  have Hb0 := Lib.hid hb0
  have Hbk0 := Lib.hid hbk0
  clear hb0 hbk0
  refine (refOf_any A B C c d f ws ns ls W0 (hA.below Hb0.out) (hB.below Hb0.out) (hC.below Hb0.out) hl1 hl2 hl3).mono ?_
  rintro e w1 ⟨D0, m0, rfl, _, hb1⟩
  have Hbk1 := Lib.hid (Hbk0.out.below hb1 Hbk0.out.lt)
  have Hb1 := Lib.hid (Hb0.out.trans (hb1.mono Hb0.out.size))
  clear hb1 Hbk0 Hb0
  have hG : Hid (ofE ws ns ls = 0 → (ws.length ≤ 4096 ∧ ns.length ≤ 16384 ∧ W40 ws ∧ NOK ws.length ns) ∧ 1 ≤ ls.length ∧ ls.length ≤ 24) := fun h => ⟨validE_good (orI_two.1 h).1, thrE_good (orI_two.1 h).2⟩
  generalize (ofL ws ns ls).length = nL
  by_cases hz : ofE ws ns ls = 0
  · have hzb : (ofE ws ns ls != 0) = false := by simpa using hz
    by_cases hs : s < 0 ∨ (ls.length : Int) ≤ s
    · have hS : Hid (stE ws ns ls s = 7) := by show _ = _; rw [stE, if_neg (by simp [hz]), if_pos hs]
      have hL : Hid (stL ws ns ls s = []) := by show _ = _; rw [stL, if_neg (by rw [hS.out]; decide)]
      clear hG hz
      obtain ⟨oe, hoe⟩ : ∃ oe, Hid (ofE ws ns ls = oe) := ⟨_, rfl⟩
      rw [hoe.out] at hzb
      rw [hoe.out]
      by_cases h1 : s < 0
      · go_wp2_with fail
        go_ret2
        exact ⟨none, 0, by rw [hL.out, hS.out]; rfl, by rw [hL.out]; exact SL.nil_, Hb1.out⟩
      · have h2 : (ls.length : Int) ≤ s := by omega
        go_wp2_with fail
        go_ret2
        exact ⟨none, 0, by rw [hL.out, hS.out]; rfl, by rw [hL.out]; exact SL.nil_, Hb1.out⟩
    · have hS : Hid (stE ws ns ls s = 0) := by show _ = _; rw [stE, if_neg (by simp [hz]), if_neg hs]
      obtain ⟨k, rfl⟩ := Int.eq_ofNat_of_zero_le (show 0 ≤ s by omega)
      have hL : Hid (stL ws ns ls k = steps ws ns ls k) := by show _ = _; rw [stL, if_pos hS.out]; rfl
      obtain ⟨⟨g1, g2, g3, g4⟩, g5, g6⟩ := hG.out hz
      have hkl : k < ls.length := by omega
      have Hg := Lib.hid (And.intro g3 g4)
      clear hG hz g3 g4 hs
      obtain ⟨oe, hoe⟩ : ∃ oe, Hid (ofE ws ns ls = oe) := ⟨_, rfl⟩
      rw [hoe.out] at hzb
      rw [hoe.out]
      have hc0 : w1.cell? ⟨w.heap.size, 0, none⟩ = some (.slice A ws.length c) := Hbk1.out.cell 0
      go_wp2_with fail
      refine (alone_any ws.length w1 (by omega)).mono ?_
      rintro e w2 ⟨v2, rfl, hown2, hb2⟩
      obtain ⟨A2, c2, rfl⟩ := own_slice hown2
      have Hbk2 := Lib.hid (Hbk1.out.below hb2 Hbk1.out.lt)
      have Hb2 := Lib.hid (Hb1.out.trans (hb2.mono Hb1.out.size))
      have Hsi2 := Lib.hid (alone_si hown2)
      clear hown2 hb2 hc0 Hbk1 Hb1
      go_wp2_with fail
      go_loopw [10, 11, 12] (fun v8 v9 i wr => ∃ (j c8 : Nat) (A8 : Option Addr) (of : List Int) (A9 : Option Addr) (c9 : Nat) (st : List (Int × Int)), j ≤ k + 1 ∧ i = .int .i64 j ∧ v8 = .slice A8 ws.length c8 ∧ v9 = .slice A9 st.length c9 ∧ Hid (after ws ns (alone ws.length) (ls.take j) = of) ∧ Hid (of.length = ws.length) ∧ Hid (CN of) ∧ SI wr A8 of ∧
        SL wr A9 (pairC st) ∧ Hid (j = k + 1 → st = steps ws ns ls k) ∧ Below w.heap.size w wr ∧ Bk wr w.heap.size 33 #[.slice A ws.length c, .slice B ns.length d]) (fun _ _ i _ => k + 1 - (intOf i).toNat)
      case atStart => exact ⟨0, c2, A2, alone ws.length, none, 0, [], by omega, rfl, rfl, rfl, rfl, alone_len _, alone_cn _, Hsi2.out, SL.nil_, (fun h => by omega), Hb2.out, Hbk2.out⟩
      case round =>
        clear Hsi2 Hbk2 Hb2
        obtain ⟨j, c8, A8, of, A9, c9, st, hj, rfl, rfl, rfl, haf, hol, hCN, hsi, hst, hfin, hb, hbk⟩ := hrel
        have hbs := hb.size
        by_cases hlt : j ≤ k
        · obtain ⟨b1, o1, n, rfl, hcn, hn1⟩ := (hC.below hb).get (k := j) (by omega)
          have hc0 : wr.cell? ⟨w.heap.size, 0, none⟩ = some (.slice A ws.length c) := hbk.cell 0
          have hc1 : wr.cell? ⟨w.heap.size, 1, none⟩ = some (.slice B ns.length d) := hbk.cell 1
          have hsc := scale_any A B A8 c d c8 ws ns of n wr.drew (hA.below hb.drew) (hB.below hb.drew) hsi Hg.out.1 hol.out g1 (Hg.out.2.len hol.out.symm) g2
          rw [hol.out] at hsc
          have Hsc := Lib.hid hsc
          have Hb := Lib.hid hb
          have Hbkd := Lib.hid (hbk.qt ⟨1, rfl⟩ : Bk wr.drew _ _ _)
          have hbl := Hbkd.out.lt
          clear hsc hsi hst hb hbk hfin
          have hCs := CN.scaleF (ws := ws) (ns := ns) (least := n) of.length of hCN.out
          have HCs : Hid (CN (scale ws ns of n).1 ∧ (scale ws ns of n).1.length = ws.length) := ⟨hCs.1, hCs.2.trans hol.out⟩
          have haf2 := Lib.hid (after_take (ws := ws) (ns := ns) (of := alone ws.length) hn1.out)
          have hlast : Hid (j + 1 = k + 1 → (scale ws ns of n).2 = steps ws ns ls k) := fun h => by
            obtain rfl : j = k := by omega
            rw [← haf.out]
            exact steps_last hn1.out
          rw [haf.out] at haf2
          clear hCs haf
          have j0 : (0 : Int) ≤ (j : Int) := by omega
          have j1 : (j : Int) ≤ (k : Int) := by omega
          have j2 : j < ls.length := by omega
          go_wp2_with fail
          go_region_held3 (fun W => W.cell? ⟨w.heap.size, 0, none⟩ = some (.slice A ws.length c) ∧ W.cell? ⟨w.heap.size, 1, none⟩ = some (.slice B ns.length d) ∧ W.cell? ⟨b1, o1 + j, none⟩ = some (.int .i64 n)) (go_keep) ((go_at_call 49; refine Hsc.out.mono ?_; rintro e w4 ⟨A1, c1, A9', c9', rfl, hs1, hs2, hs3, hs4, hb4⟩; have hbk4 := Hbkd.out.below hb4 hbl; have hc04 : w4.cell? ⟨w.heap.size, 0, none⟩ = some (.slice A ws.length c) := hbk4.cell 0; have hc14 : w4.cell? ⟨w.heap.size, 1, none⟩ = some (.slice B ns.length d) := hbk4.cell 1; have hcn4 : w4.cell? ⟨b1, o1 + j, none⟩ = some (.int .i64 n) := (hb4.cell (World.block_lt_of_cell? _ _ hcn)).trans hcn; clear hbk4))
          all_goals
            have Hs1 := Lib.hid (And.intro hs1 hs2)
            have Hb4 := Lib.hid (Hb.out.drew.trans (hb4.mono hbs))
            have Hbk4 := Lib.hid (Hbkd.out.below hb4 hbl)
            clear hs1 hs2 hs3 hs4 hb4 hc0 hc1 hcn hc04 hc14 hcn4 Hb Hbkd
            go_wp2_with fail
            go_roundw
            case rel => exact ⟨j + 1, c1, A1, (scale ws ns of n).1, A9', c9', (scale ws ns of n).2, by omega, by go_num, rfl, rfl, haf2.out, HCs.out.2, HCs.out.1, Hs1.out.1, Hs1.out.2, hlast.out, Hb4.out, Hbk4.out⟩
            case measure => simp [intOf]; omega
        · obtain rfl : j = k + 1 := by omega
          have hst2 := hfin.out rfl
          have Hst2 := Lib.hid hst2
          clear hst2
          have j1 : (k : Int) < ((k + 1 : Nat) : Int) := by omega
          go_wp2_with fail
          go_ret2
          exact ⟨A9, ⟨c9, by rw [hL.out, hS.out, ← Hst2.out]; rfl⟩, by rw [hL.out, ← Hst2.out]; exact hst, hb⟩
  · have hS : Hid (stE ws ns ls s = ofE ws ns ls) := by show _ = _; rw [stE, if_pos hz]
    have hL : Hid (stL ws ns ls s = []) := by show _ = _; rw [stL, if_neg (by rw [hS.out]; exact hz)]
    have hzb : (ofE ws ns ls != 0) = true := by simpa using hz
    clear hG hz
    obtain ⟨oe, hoe⟩ : ∃ oe, Hid (ofE ws ns ls = oe) := ⟨_, rfl⟩
    rw [hoe.out] at hzb
    rw [hoe.out]
    go_wp2_with fail
    go_ret2
    exact ⟨none, 0, by rw [hL.out, hS.out, hoe.out]; rfl, by rw [hL.out]; exact SL.nil_, Hb1.out⟩
end Go.Proofs.Ytaegfljpodhnhaa
