import Derived.Test.YtmdgdphhedgojaaR23
namespace Go.Proofs.Ytmdgdphhedgojaa
open Go.RowKit Go.Maps

/-- The rows of ints behind some slices, all in blocks from b on. -/
structure LLB (w : World) (b : Nat) (vs : List Value) (ls : List (List Int)) : Prop where
  len : vs.length = ls.length
  el : ∀ (j : Nat) v l, vs[j]? = some v → ls[j]? = some l → ∃ h, v = Value.slice (some ⟨h, 0, none⟩) l.length l.length ∧ Bk w h 3 (rowI l) ∧ b ≤ h
section
variable {w w' : World} {b : Nat} {vs : List Value} {ls : List (List Int)}
theorem LLB.nil (w : World) (b : Nat) : LLB w b [] [] := ⟨rfl, fun j v l h => by simp at h⟩
theorem LLB.ll (h : LLB w b vs ls) : LL w vs ls := ⟨h.len, fun j v l hv hl => by
  obtain ⟨g, e, hg, _⟩ := h.el j v l hv hl
  exact ⟨g, e, hg⟩⟩
theorem LLB.below (h : LLB w b vs ls) (hb : Below w.heap.size w w') : LLB w' b vs ls := ⟨h.len, fun j v l hv hl => by
  obtain ⟨g, e, hg, h2⟩ := h.el j v l hv hl
  exact ⟨g, e, hg.below hb hg.lt, h2⟩⟩
theorem LLB.grown (h : LLB w b vs ls) {base n size : Nat} {e : TypeId} {v : Value} {xs : List Value} (ho : w.ownsRow base e size v n xs) (he : e ≠ 3) (hg : w.grownBy w' v.ownBlock) : LLB w' b vs ls := ⟨h.len, fun j u l hv hl => by
  obtain ⟨k, eq, hk, h2⟩ := h.el j u l hv hl
  exact ⟨k, eq, hk.grown hg (hk.ne_own ho he), h2⟩⟩
theorem LLB.set_ (h : LLB w b vs ls) {k : Nat} {t : TypeId} {cs : Array Value} (hk : Bk w k t cs) (he : t ≠ 3) (i : Nat) (u : Value) : LLB (w.setCell ⟨k, i, none⟩ u) b vs ls := ⟨h.len, fun j v l hv hl => by
  obtain ⟨g, e, hg, h2⟩ := h.el j v l hv hl
  exact ⟨g, e, hg.far (Ne.symm (Bk.ne_ hk hg he)) u, h2⟩⟩
theorem LLB.snoc (h : LLB w b vs ls) {g : Nat} {l : List Int} (hg : Bk w g 3 (rowI l)) (hb : b ≤ g) : LLB w b (vs ++ [.slice (some ⟨g, 0, none⟩) l.length l.length]) (ls ++ [l]) := ⟨by simp [h.len], fun j v k hv hk => by
  have hlen := h.len
  rcases snoc_get hv with ⟨hv, h1⟩ | ⟨h1, rfl⟩ <;> rcases snoc_get hk with ⟨hk, h2⟩ | ⟨h2, rfl⟩
  · exact h.el j v k hv hk
  · omega
  · omega
  · exact ⟨g, rfl, hg, hb⟩⟩
end

theorem LLB.mono {w : World} {b b' : Nat} {vs : List Value} {ls : List (List Int)} (h : LLB w b vs ls) (hb : b' ≤ b) : LLB w b' vs ls := ⟨h.len, fun j v l hv hl => by
  obtain ⟨g, e, hg, h2⟩ := h.el j v l hv hl
  exact ⟨g, e, hg, by omega⟩⟩

set_option maxHeartbeats 4000000 in
set_option maxRecDepth 100000 in
theorem runB_any (A B C : Option Addr) (c d f : Nat) (ws : List Int) (ns : List (Int × Int × Int)) (ls : List Int) (w : World) (hA : SI w A ws) (hB : ST w B ns) (hC : SI w C ls) (hw : W40 ws) (hl : ws.length ≤ 4096) (hn : NOK ws.length ns) (hl3 : ns.length ≤ 16384) (hlen : ls.length ≤ 24) :
    Calls Try.prog 39 #[.agg #[.slice A ws.length c, .slice B ns.length d], .slice C ls.length f] w fun e w' => ∃ v1 v2 vs1 vs2, e = .returned (.tuple #[v1, v2]) ∧ w'.ownsRow w.heap.size 22 1 v1 ls.length vs1 ∧ w'.ownsRow w.heap.size 95 1 v2 ls.length vs2 ∧
      LLB w' w.heap.size vs1 ((chain ws ns (alone ws.length) ls).map fun s => ix s.1) ∧ PL w' vs2 ((chain ws ns (alone ws.length) ls).map fun s => s.2) ∧ Below w.heap.size w w' := by
  go_enter Try.func39, Try.ntmps39
  go_wp2_with fail
  have hbk0 := Bk.new w 36 #[.slice A ws.length c, .slice B ns.length d]
  have hb0 := (Below.refl w.heap.size w).alloc (Nat.le_refl _) (.cells #[.slice A ws.length c, .slice B ns.length d] 36)
  have hbk0l := hbk0.lt
  generalize w.alloc (.cells #[.slice A ws.length c, .slice B ns.length d] 36) = W0 at *
  have Hbk0 := Lib.hid hbk0
  have Hb0 := Lib.hid hb0
  clear hbk0 hb0
  refine (single_any A B c ns.length d ws.length W0 hl).mono ?_
  rintro e w1 ⟨gh, rfl, hgh, hghb, hb1⟩
  have Hbk1 := Lib.hid (Hbk0.out.below hb1 hbk0l)
  have hbs0 := Hb0.out.size
  have Hb1 := Lib.hid (Hb0.out.trans (hb1.mono hbs0))
  have Hgh := Lib.hid hgh
  clear hgh hb1
  go_wp2_with fail
  go_loopw [6, 7, 8, 19] (fun v6 v7 v8 i wr => ∃ (k gh : Nat) (nl : List Int) (vs6 vs7 : List Value), k ≤ ls.length ∧ i = .int .i64 k ∧ v8 = .slice (some ⟨gh, 0, none⟩) ws.length ws.length ∧ Bk wr gh 3 (rowI nl) ∧ Hid (named nl = after ws ns (alone ws.length) (ls.take k)) ∧ Hid (nl.length = ws.length) ∧ Hid (∀ v ∈ nl, 0 ≤ v ∧ v < nl.length) ∧
    wr.ownsRow w.heap.size 22 1 v6 k vs6 ∧ wr.ownsRow w.heap.size 95 1 v7 k vs7 ∧ LLB wr w.heap.size vs6 ((chain ws ns (alone ws.length) (ls.take k)).map fun s => ix s.1) ∧ PL wr vs7 ((chain ws ns (alone ws.length) (ls.take k)).map fun s => s.2) ∧ Below w.heap.size w wr ∧ Bk wr w.heap.size 36 #[.slice A ws.length c, .slice B ns.length d]) (fun _ _ _ i _ => ls.length - (intOf i).toNat)
  case atStart =>
    exact ⟨0, gh, alone ws.length, [], [], by omega, rfl, rfl, Hgh.out, by show _ = _; rw [named_alone]; rfl, alone_len _, (fun v hv => by
      obtain ⟨k, hk, rfl⟩ := List.getElem_of_mem hv
      rw [alone_len] at hk
      have := alone_at hk
      simp only [List.getD, List.getElem?_eq_getElem (show k < (alone ws.length).length by rw [alone_len]; exact hk), Option.getD_some] at this
      rw [alone_len]
      omega), World.ownsRow_nil _ _ _ _, World.ownsRow_nil _ _ _ _, LLB.nil _ _, PL.nil _, Hb1.out, Hbk1.out⟩
  case round =>
    clear Hgh Hb1 Hbk1 Hbk0 Hb0
    obtain ⟨k, gh, nl, vs6, vs7, hk, rfl, rfl, hgh, hnl, hnll, hnlb, hown6, hown7, hLL, hPL, hb, hbk⟩ := hrel
    have hbs := hb.size
    by_cases hlt : k < ls.length
    · obtain ⟨b1, o1, n, rfl, hcn, hn1⟩ := (hC.below hb).get hlt
      have hc0 : wr.cell? ⟨w.heap.size, 0, none⟩ = some (.slice A ws.length c) := hbk.cell 0
      have hc1 : wr.cell? ⟨w.heap.size, 1, none⟩ = some (.slice B ns.length d) := hbk.cell 1
      have hnlL := hnll.out
      have hst := start_any A B (some ⟨gh, 0, none⟩) c d ws.length ws ns nl wr (hA.below hb) (hB.below hb) (si_row hgh (by omega)) hw hnll.out hl (hn.len hnll.out.symm) hl3 (w64_of hnlb.out (by omega))
      have hst' : Calls Try.prog 58 #[.agg #[.slice A ws.length c, .slice B ns.length d], .slice (some ⟨gh, 0, none⟩) ws.length ws.length] wr _ := hnlL ▸ hst
      have Hst := Lib.hid hst'
      have hCN0 := CN.after (ws := ws) (ns := ns) (ls.take k) _ (alone_cn ws.length)
      rw [alone_len, ← hnl.out] at hCN0
      have HCN := Lib.hid hCN0
      obtain ⟨wo, rfl⟩ : ∃ wo, wo = wr := ⟨wr, rfl⟩
      have Hown6 := Lib.hid hown6
      have Hown7 := Lib.hid hown7
      have Hb := Lib.hid hb
      have Hbk := Lib.hid hbk
      clear hst hst' hCN0 hown6 hown7 hb hbk hgh hnlL
      generalize named nl = of0 at *
      go_wp2_with fail
      clear hcn hc0 hc1
      refine Hst.out.mono ?_
      rintro e w2 ⟨p, g, rw, rn, c', rfl, hG, hb2⟩
      have hCl1 : of0.length ≤ ws.length := Nat.le_of_eq HCN.out.2
      have hN0 : NOK of0.length ns := hn.len HCN.out.2.symm
      have hz2 := hb2.size
      have HG := Lib.hid hG
      have Hb2 := Lib.hid hb2
      clear hG hb2 Hst
      go_wp2_with fail
      refine (nextP_any wo.heap.size p g rw rn c' ws ns of0 n _ w2 HG.out rfl (by omega) hN0 hl3 HCN.out.1.fok).mono ?_
      rintro e w3 ⟨a, b, found, rfl, hrel, hb3⟩
      have hnx := Lib.hid (next_rel hN0 HCN.out.1 rfl hrel)
      have Hb3 := Lib.hid (Hb2.out.trans (hb3.mono hz2))
      have hz3 := Hb3.out.size
      have HG3 := Lib.hid ((HG.out.below hb3).alloc (.cells #[.int .i64 a, .int .i64 b] 114))
      have Hm3 := Lib.hid (Bk.new w3 114 #[.int .i64 a, .int .i64 b])
      have Hb3a := Lib.hid (Hb3.out.alloc hz3 (.cells #[.int .i64 a, .int .i64 b] 114))
      clear hb3 HG Hb2 hrel hN0 Hb3
      go_wp2_with fail
      go_loopw [12, 13, 14] (fun v12 v13 v14 wi => ∃ (mb fu : Nat) (a b : Int) (found : Bool) (ofc : List Int) (st : List (Int × Int)), v13 = .pointer (some ⟨mb, 0, none⟩) ∧ v14 = .bool found ∧ GS wi wo.heap.size p g rw rn c' ws ns ofc ∧ Bk wi mb 114 #[.int .i64 a, .int .i64 b] ∧ wi.ownsRow wo.heap.size 114 2 v12 st.length (pairC st) ∧ Hid (some mb ≠ v12.ownBlock) ∧
        Hid (CN ofc ∧ ofc.length = ws.length) ∧ Hid ((next ws ns ofc n).1 = a ∧ (next ws ns ofc n).2.1 = b ∧ (next ws ns ofc n).2.2.1 = found) ∧ st.length + fu ≤ ws.length ∧ Hid (roots ofc ≤ fu) ∧ Hid (scale ws ns of0 n = ((scaleF ws ns n fu ofc).1, st ++ (scaleF ws ns n fu ofc).2)) ∧ Below wo.heap.size wo wi) (fun v12 _ _ _ => ws.length - lenOf v12)
      case atStart => exact ⟨_, of0.length, a, b, found, of0, [], rfl, rfl, HG3.out, Hm3.out, World.ownsRow_nil _ _ _ _, by simp [Value.ownBlock, Hid], HCN.out, hnx.out, by simp; omega, roots_le of0, by show _ = _; simp [scale], Hb3a.out⟩
      case round =>
        clear HG3 Hm3 Hb3a hnx
        obtain ⟨mb, fu, a, b, found, ofc, st, rfl, rfl, hG, hm, hown, hnr, hC, hnx, hfu, hroots, hsc, hb⟩ := hrel
        have hbs2 := hb.size
        have hCl2 : ofc.length ≤ ws.length := Nat.le_of_eq hC.out.2
        have hCl3 : ws.length ≤ ofc.length := Nat.le_of_eq hC.out.2.symm
        have hN : NOK ofc.length ns := hn.len hC.out.2.symm
        cases found
        · have hfin : Hid (scale ws ns of0 n = (ofc, st)) := by
            show _ = _
            rw [hsc.out]
            cases fu <;> simp [scaleF, hnx.out.2.2]
          obtain ⟨A2, c2, rfl⟩ := own_slice hown
          have HG := Lib.hid hG
          have Hown := Lib.hid hown
          have Hb2 := Lib.hid hb
          clear hG hown hb hm hsc hnx hroots
          go_wp2_with fail
          refine (indices_any p g rw rn c' ofc wr HG.out.hp HG.out.hg (by omega) (w64_of hC.out.1.fok (by omega))).mono ?_
          rintro e w5 ⟨h, rfl, hh, hhb, hb5⟩
          have hbo5 := Hb2.out.trans (hb5.mono hbs2)
          have hown6 := own_below Hown6.out hbo5
          have hown7 := own_below Hown7.out hbo5
          have Hst := Lib.hid (own_below Hown.out hb5)
          have Hbk5 := Lib.hid (Hbk.out.below hbo5 Hbk.out.lt)
          have Hb5 := Lib.hid (Hb.out.trans (hbo5.mono hbs))
          have HLL := Lib.hid (hLL.below hbo5)
          have HPL := Lib.hid (hPL.below hbo5)
          have hzz : w.heap.size ≤ w5.heap.size := Hb5.out.size
          have Hh := Lib.hid hh
          have Hhb := Lib.hid (show w.heap.size ≤ h by omega)
          clear hbo5 hb5 hh Hb2 Hb HG Hown
          go_wp2_with (at_builtin; first
            | (refine wpList_app2 (w := w5) rfl _ _ rfl elt_lists hown6 hzz rfl rfl (by simp) rfl rfl (by omega) ?_; intro v1 w6 hown6a hg6 hz6; have hown7a := own_grown hown7 hg6 (own_ne hown7 hown6 (by decide)); have hzz6 : w.heap.size ≤ w6.heap.size := by omega)
            | (refine wpList_app2 (w := w6) rfl _ _ rfl elt_steps hown7a hzz6 rfl rfl (by simp) rfl rfl (by omega) ?_; intro v2 w7 hown7b hg7 hz7))
          go_roundw
          case rel =>
            have hh6 := Hh.out.grown hg6 (Hh.out.ne_own hown6 (by decide))
            have hch : chain ws ns (alone ws.length) (ls.take (k + 1)) = chain ws ns (alone ws.length) (ls.take k) ++ [(ofc, st)] := by
              rw [take_snoc' hn1.out, chain_snoc, ← hnl.out, hfin.out]
            have haf : after ws ns (alone ws.length) (ls.take (k + 1)) = ofc := by
              rw [take_snoc' hn1.out, after_snoc, ← hnl.out, hfin.out]
            refine ⟨k + 1, h, ix ofc, _, _, by omega, by go_num, by rw [hC.out.2], hh6.grown hg7 (hh6.ne_own hown7a (by decide)), by show _ = _; rw [named_ix hC.out.1, haf], (ix_len ofc).trans hC.out.2, (fun v hv => by have := ix_mem ofc v hv; rw [ix_len]; exact this), own_grown hown6a hg7 (own_ne hown6a hown7a (by decide)), hown7b, ?_, ?_, ?_, ?_⟩
            · rw [hch, List.map_append]
              have := (HLL.out.grown hown6 (by decide) hg6).snoc hh6 (by have := Hhb.out; omega)
              rw [ix_len] at this
              exact this.grown hown7a (by decide) hg7
            · rw [hch, List.map_append]
              exact ((HPL.out.grown hown6 (by decide) hg6).snoc (own_grown Hst.out hg6 (own_ne Hst.out hown6 (by decide)))).grown hown7a (by decide) hg7
            · exact (Hb5.out.grown hg6 hzz (fun k hk => (hown6.lt k hk).1)).grown hg7 hzz6 (fun k hk => (hown7a.lt k hk).1)
            · exact (Hbk5.out.grown hg6 (Hbk5.out.ne_own hown6 (by decide))).grown hg7 ((Hbk5.out.grown hg6 (Hbk5.out.ne_own hown6 (by decide))).ne_own hown7a (by decide))
          case measure => simp [intOf]; omega
        · obtain ⟨fu, rfl⟩ : ∃ f', fu = f' + 1 := by
            have := next_roots hnx.out.2.2
            have := hroots.out
            exact ⟨fu - 1, by omega⟩
          have hsc2 : Hid (scale ws ns of0 n = ((scaleF ws ns n fu (merged ofc (a, b))).1, (st ++ [(a, b)]) ++ (scaleF ws ns n fu (merged ofc (a, b))).2)) := by
            show _ = _
            rw [hsc.out, scaleF, if_pos hnx.out.2.2, hnx.out.1, hnx.out.2.1]
            simp
          have hr2 : Hid (roots (merged ofc (a, b)) ≤ fu) := by
            have := next_roots hnx.out.2.2
            rw [hnx.out.1, hnx.out.2.1] at this
            have := hroots.out
            show _ ≤ _
            omega
          obtain ⟨a', b', ha1, hb1, ha2, hb2', ha3, hb3, hab⟩ := nextTo_spec ofc.length hnx.out.2.2
          have e1 : a = (a' : Int) := hnx.out.1.symm.trans ha1
          have e2 : b = (b' : Int) := hnx.out.2.1.symm.trans hb1
          have hC2 : Hid (CN (merged ofc (a, b)) ∧ (merged ofc (a, b)).length = ws.length) := by
            refine ⟨?_, (merged_len _ _).trans hC.out.2⟩
            rw [e1, e2]
            exact hC.out.1.merge ha2 hb2' ha3 hb3
          have hab' : a ≠ b := by omega
          have hba : 0 ≤ a ∧ a < 4096 := by omega
          have hbb : 0 ≤ b ∧ b < 4096 := by omega
          clear e1 e2 ha1 hb1 ha2 hb2' ha3 hb3 hab hsc hroots hnx
          have hm0 : wr.cell? ⟨mb, 0, none⟩ = some (.int .i64 a) := hm.cell 0
          have hm1 : wr.cell? ⟨mb, 1, none⟩ = some (.int .i64 b) := hm.cell 1
          have HG := Lib.hid hG
          have Hm := Lib.hid hm
          have Hown := Lib.hid hown
          have Hb2 := Lib.hid hb
          clear hG hm hown hb
          go_wp2_with (at_builtin; refine wpList_app2 (w := wr) rfl _ _ rfl elt_pair Hown.out hbs2 rfl rfl (by simp) rfl rfl (by omega) ?_; intro v1 w4 hown4 hg4 hz4; have hbt := Hm.out.grown hg4 hnr.out; have hq0 : w4.cell? ⟨mb, 0, none⟩ = some (.int .i64 a) := hbt.cell 0; have hq1 : w4.cell? ⟨mb, 1, none⟩ = some (.int .i64 b) := hbt.cell 1; clear hbt)
          have hG4 := HG.out.grown Hown.out (by decide) (by decide) hg4
          have Hm4 := Lib.hid (Hm.out.grown hg4 hnr.out)
          have Hb4 := Lib.hid (Hb2.out.grown hg4 hbs2 (fun k hk => (Hown.out.lt k hk).1))
          have hbs4 := Hb4.out.size
          have HG4 := Lib.hid hG4
          have Hown4 := Lib.hid hown4
          clear hG4 hown4 hg4 HG Hm Hb2 hm0 hm1
          refine (mergeP_any wo.heap.size p g rw rn c' ws ns ofc a b w4 HG4.out hab' hba hbb hw (by omega) hN hl3 hC.out.1.fok).mono ?_
          rintro e w5 ⟨rfl, hG5, hf5⟩
          rw [← merged_eq] at hG5
          have hnb := HG4.out.ne_bk Hm4.out (by decide)
          have hm5 := Hm4.out.fr hf5 hnb.1 hnb.2.1 hnb.2.2
          have Hown5 := Lib.hid (own_fr Hown4.out hf5 (HG4.out.ne_row Hown4.out (by decide)))
          have Hb5 := Lib.hid (Hb4.out.trans (hf5.below hbs4 HG4.out.bg HG4.out.bw HG4.out.bn))
          have hbs5 := Hb5.out.size
          have HG5 := Lib.hid (hG5.alloc (.cells #[.int .i64 a, .int .i64 b] 114))
          have Hm5 := Lib.hid (Bk.new w5 114 #[.int .i64 a, .int .i64 b])
          have Hb5a := Lib.hid (Hb5.out.alloc hbs5 (.cells #[.int .i64 a, .int .i64 b] 114))
          have hml : (merged ofc (a, b)).length ≤ 4096 := by rw [merged_len]; omega
          have hq0 : w5.cell? ⟨mb, 0, none⟩ = some (.int .i64 a) := hm5.cell 0
          have hq1 : w5.cell? ⟨mb, 1, none⟩ = some (.int .i64 b) := hm5.cell 1
          have hmlN : NOK (merged ofc (a, b)).length ns := by rw [merged_len]; exact hN
          clear hG5 hf5 hm5 HG4 Hm4 Hown4 Hb4 Hb5 hnr
          go_wp2_with fail
          refine (nextP_any wo.heap.size p g rw rn c' ws ns (merged ofc (a, b)) n _ _ HG5.out rfl hml hmlN hl3 hC2.out.1.fok).mono ?_
          rintro e w6 ⟨a2, b2, found2, rfl, hrel2, hb6⟩
          have hnx2 := Lib.hid (next_rel hmlN hC2.out.1 rfl hrel2)
          have hm6 := Hm5.out.below hb6 Hm5.out.lt
          have hr0 : w6.cell? ⟨w5.heap.size, 0, none⟩ = some (.int .i64 a) := hm6.cell 0
          have hr1 : w6.cell? ⟨w5.heap.size, 1, none⟩ = some (.int .i64 b) := hm6.cell 1
          have hf0 := hm6.frozen 0
          have hf1 := hm6.frozen 1
          have HG6 := Lib.hid (((HG5.out.below hb6).set_ hm6 (by decide) (by decide) 0 (.int .i64 a2)).set_ (hm6.set_ 0 (.int .i64 a2)) (by decide) (by decide) 1 (.int .i64 b2))
          have Hm7 := Lib.hid ((hm6.set_ 0 (.int .i64 a2)).set_ 1 (.int .i64 b2))
          have hne5 : some w5.heap.size ≠ v1.ownBlock := fun h => by
            have := (Hown5.out.lt _ h.symm).2
            omega
          have Hown7 := Lib.hid (own_set (own_set (own_below (own_below Hown5.out ((Below.refl _ _).alloc (Nat.le_refl _) (.cells #[.int .i64 a, .int .i64 b] 114))) hb6) (i := 0) hne5 (.int .i64 a2)) (i := 1) hne5 (.int .i64 b2))
          have Hb7 := Lib.hid (((Hb5a.out.trans (hb6.mono Hb5a.out.size)).setCell (p := ⟨w5.heap.size, 0, none⟩) hbs5 (.int .i64 a2)).setCell (p := ⟨w5.heap.size, 1, none⟩) hbs5 (.int .i64 b2))
          clear hb6 hm6 hrel2 HG5 Hm5 Hown5 Hb5a hq0 hq1
          go_wp2_with fail
          go_roundw
          case rel => exact ⟨_, fu, a2, b2, found2, merged ofc (a, b), st ++ [(a, b)], rfl, rfl, HG6.out, Hm7.out, by rw [pairC_append, List.length_append]; exact Hown7.out, hne5, hC2, hnx2.out, by simp; omega, hr2, hsc2, Hb7.out⟩
          case measure =>
            obtain ⟨A4, c4, rfl⟩ := own_slice Hown7.out
            obtain ⟨A5, c5, rfl⟩ := own_slice Hown.out
            simp [lenOf]
            omega
    · obtain rfl : k = ls.length := by omega
      have Hown6 := Lib.hid hown6
      have Hown7 := Lib.hid hown7
      rw [List.take_length] at hLL hPL
      clear hown6 hown7
      go_wp2_with fail
      go_ret2
      exact ⟨_, _, vs6, vs7, rfl, Hown6.out, Hown7.out, hLL, hPL, hb⟩

set_option maxHeartbeats 4000000 in
set_option maxRecDepth 100000 in
theorem ofB_any (A B C : Option Addr) (c d f : Nat) (ws : List Int) (ns : List (Int × Int × Int)) (ls : List Int) (w : World) (hA : SI w A ws) (hB : ST w B ns) (hC : SI w C ls) (hl1 : ws.length ≤ 4611686018427387904) (hl2 : ns.length ≤ 4611686018427387904) (hl3 : ls.length ≤ 4611686018427387904) :
    Calls Try.prog 15 #[.agg #[.slice A ws.length c, .slice B ns.length d], .slice C ls.length f] w fun e w' => ∃ D m vs, e = .returned (.tuple #[.agg #[.slice D (ofL ws ns ls).length m], .int .i64 (ofE ws ns ls)]) ∧ w'.ownsRow w.heap.size 22 1 (.slice D (ofL ws ns ls).length m) (ofL ws ns ls).length vs ∧ LLB w' w.heap.size vs (ofL ws ns ls) ∧ Below w.heap.size w w' := by
  go_enter Try.func15, Try.ntmps15
  go_wp2_with fail
  have hb0 := ((Below.refl w.heap.size w).alloc (Nat.le_refl _) (.cells #[.slice A ws.length c, .slice B ns.length d] 36)).alloc (by simp) (.cells #[.slice none 0 0] 40)
  have hbk0 := (Bk.new w 36 #[.slice A ws.length c, .slice B ns.length d]).alloc (.cells #[.slice none 0 0] 40)
  have hbc0 := Bk.new' (w.alloc (.cells #[.slice A ws.length c, .slice B ns.length d] 36)) 40 #[.slice none 0 0] (g := w.heap.size + 1) (by simp)
  generalize (w.alloc (.cells #[.slice A ws.length c, .slice B ns.length d] 36)).alloc (.cells #[.slice none 0 0] 40) = W0 at *
  have Hb0 := Lib.hid hb0
  have Hbk0 := Lib.hid hbk0
  have Hbc0 := Lib.hid hbc0
  clear hb0 hbk0 hbc0
  refine (valid_any A B c d ws ns W0 (hA.below Hb0.out) (hB.below Hb0.out) hl1 hl2).mono ?_
  rintro e w1 ⟨rfl, hb1⟩
  have Hbk1 := Lib.hid (Hbk0.out.below hb1 Hbk0.out.lt)
  have Hbc1 := Lib.hid (Hbc0.out.below hb1 Hbc0.out.lt)
  have Hb1 := Lib.hid (Hb0.out.trans (hb1.mono Hb0.out.size))
  clear hb1 Hbk0 Hbc0 Hb0
  go_wp2_with fail
  refine (thresholds_any C f ls w1 (hC.below Hb1.out) hl3).mono ?_
  rintro e w2 ⟨rfl, hq⟩
  have Hbk2 := Lib.hid (Hbk1.out.qt hq)
  have Hbc2 := Lib.hid (Hbc1.out.qt hq)
  have Hb2 := Lib.hid (hq.bl Hb1.out)
  have hE : Hid (ofE ws ns ls = orI [validE ws ns, thrE ls]) := rfl
  have hG : Hid (ofE ws ns ls = 0 → (ws.length ≤ 4096 ∧ ns.length ≤ 16384 ∧ W40 ws ∧ NOK ws.length ns) ∧ 1 ≤ ls.length ∧ ls.length ≤ 24) := fun h => ⟨validE_good (orI_two.1 h).1, thrE_good (orI_two.1 h).2⟩
  clear hq Hbk1 Hbc1 Hb1
  generalize validE ws ns = ve at *
  generalize thrE ls = te at *
  have hat := Bk.new w2 25 #[.int .i64 ve, .int .i64 te]
  have hsi : SI (w2.alloc (.cells #[.int .i64 ve, .int .i64 te] 25)) (some ⟨w2.heap.size, 0, none⟩) [ve, te] := si_pair (o := 0) (hat.cell 0) (hat.cell 1)
  have Hor := Lib.hid (orErr_any (some ⟨w2.heap.size, 0, none⟩) 2 [ve, te] _ hsi (by simp))
  have Hb3 := Lib.hid (Hb2.out.alloc Hb2.out.size (.cells #[.int .i64 ve, .int .i64 te] 25))
  have Hbk3 := Lib.hid (Hbk2.out.alloc (.cells #[.int .i64 ve, .int .i64 te] 25))
  have Hbc3 := Lib.hid (Hbc2.out.alloc (.cells #[.int .i64 ve, .int .i64 te] 25))
  clear hat hsi Hbk2 Hbc2 Hb2
  go_wp2_with fail
  refine Hor.out.mono ?_
  rintro e w' ⟨rfl, rfl⟩
  rw [← hE.out]
  clear Hor hE
  generalize w2.alloc (.cells #[.int .i64 ve, .int .i64 te] 25) = W3 at *
  have hce : W3.cell? ⟨w.heap.size + 1, 0, none⟩ = some (.slice none 0 0) := Hbc3.out.cell 0
  have hfr := Hbc3.out.frozen 0
  by_cases hz : ofE ws ns ls = 0
  · obtain ⟨⟨g1, g2, g3, g4⟩, g5, g6⟩ := hG.out hz
    have hL : Hid (ofL ws ns ls = lists ws ns ls) := by show _ = _; rw [ofL, if_pos hz]
    have hL2 : Hid ((ofL ws ns ls).length = ls.length) := by show _ = _; rw [hL.out, lists_len]
    have hzb : (ofE ws ns ls != 0) = false := by simpa using hz
    have Hz := Lib.hid hz
    have Hg := Lib.hid (And.intro g3 g4)
    clear hz hG g3 g4
    obtain ⟨oe, hoe⟩ : ∃ oe, Hid (ofE ws ns ls = oe) := ⟨_, rfl⟩
    rw [hoe.out] at hzb
    rw [hoe.out]
    have hc0 : W3.cell? ⟨w.heap.size, 0, none⟩ = some (.slice A ws.length c) := Hbk3.out.cell 0
    have hc1 : W3.cell? ⟨w.heap.size, 1, none⟩ = some (.slice B ns.length d) := Hbk3.out.cell 1
    go_wp2_with fail
    refine (runB_any A B C c d f ws ns ls W3 (hA.below Hb3.out) (hB.below Hb3.out) (hC.below Hb3.out) Hg.out.1 g1 Hg.out.2 g2 g6).mono ?_
    rintro e w4 ⟨v1, v2, vs1, vs2, rfl, hown1, _, hLL, _, hb4⟩
    obtain ⟨D, m, rfl⟩ := own_slice hown1
    have hbc4 := Hbc3.out.below hb4 Hbc3.out.lt
    have hce4 : w4.cell? ⟨w.heap.size + 1, 0, none⟩ = some (.slice none 0 0) := hbc4.cell 0
    have hfr4 := hbc4.frozen 0
    have hz0 := (hbc4.set_ 0 (.slice D ls.length m)).cell 0
    have hl3s := Hbc3.out.lt
    have hne : some (w.heap.size + 1) ≠ (Value.slice D ls.length m).ownBlock := fun h => by
      have := (hown1.lt _ h.symm).1
      omega
    have hb5 := (Hb3.out.trans (hb4.mono Hb3.out.size)).setCell (p := ⟨w.heap.size + 1, 0, none⟩) (by show w.heap.size ≤ w.heap.size + 1; omega) (.slice D ls.length m)
    have Hb5 := Lib.hid hb5
    have Hown := Lib.hid (own_mono (own_set (i := 0) hown1 hne (.slice D ls.length m)) Hb3.out.size)
    have HLL := Lib.hid ((hLL.set_ hbc4 (by decide) 0 (.slice D ls.length m)).mono Hb3.out.size)
    clear hc0 hc1 hce hfr hbc4 hb4 hb5 hown1 hLL
    go_wp2_with fail
    refine bodyPost_ret (v := .tuple #[.agg #[.slice D ls.length m], .int .i64 0]) (by simp [results, Try.results15, go_sem, hz0]) rfl ⟨D, m, vs1, by rw [hL2.out, Hz.out], by rw [hL2.out]; exact Hown.out, by rw [hL.out]; exact HLL.out, Hb5.out⟩
  · have hL : Hid (ofL ws ns ls = []) := by show _ = _; rw [ofL, if_neg hz]
    have hzb : (ofE ws ns ls != 0) = true := by simpa using hz
    have hz0 := (Hbc3.out.set_ 0 (.slice none 0 0)).cell 0
    have Hb5 := Lib.hid (Hb3.out.setCell (p := ⟨w.heap.size + 1, 0, none⟩) (by show w.heap.size ≤ w.heap.size + 1; omega) (.slice none 0 0))
    clear hG hz
    obtain ⟨oe, hoe⟩ : ∃ oe, Hid (ofE ws ns ls = oe) := ⟨_, rfl⟩
    rw [hoe.out] at hzb
    rw [hoe.out]
    go_wp2_with fail
    refine bodyPost_ret (v := .tuple #[.agg #[.slice none 0 0], .int .i64 oe]) (by simp [results, Try.results15, go_sem, hz0]) rfl ⟨none, 0, [], by rw [hL.out, hoe.out]; rfl, by rw [hL.out]; exact World.ownsRow_nil _ _ _ _, by rw [hL.out]; exact LLB.nil _ _, Hb5.out⟩
end Go.Proofs.Ytmdgdphhedgojaa
