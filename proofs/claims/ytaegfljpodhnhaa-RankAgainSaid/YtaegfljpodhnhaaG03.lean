import Derived.Test.YtaegfljpodhnhaaG02
import Derived.Test.YtaegfljpodhnhaaR28
import Derived.Deep.RegionHeld3
namespace Go.Proofs.Ytaegfljpodhnhaa
open Go.RowKit Go.Maps

set_option maxHeartbeats 8000000 in
set_option maxRecDepth 100000 in
theorem refAt_any (A B E : Option Addr) (c d q : Nat) (ws : List Int) (ns : List (Int × Int × Int)) (cs : List (List Int)) (s : Int) (w : World) (hA : SI w A ws) (hB : ST w B ns) (hE : SLL w E cs) (hl1 : ws.length ≤ 4611686018427387904) (hl2 : ns.length ≤ 4611686018427387904) (hl4 : ∀ l ∈ cs, l.length ≤ 1099511627776) :
    Calls Try.prog 37 #[.agg #[.slice A ws.length c, .slice B ns.length d], .slice E cs.length q, .int .i64 s] w fun e w' => ∃ X x Y y, e = .returned (.tuple #[.agg #[.slice X (atW ws ns cs s).length x, .slice Y (atN ws ns cs s).length y], .int .i64 (atE ws ns cs s)]) ∧ SI w' X (atW ws ns cs s) ∧ ST w' Y (atN ws ns cs s) ∧ Below w.heap.size w w' := by
  have hbk := (Bk.new w 33 #[.slice A ws.length c, .slice B ns.length d]).alloc (.cells #[.slice none 0 0, .slice none 0 0] 33)
  have hbr := Bk.new' (w.alloc (.cells #[.slice A ws.length c, .slice B ns.length d] 33)) 33 #[.slice none 0 0, .slice none 0 0] (g := w.heap.size + 1) (by simp)
  have hb0 : Below w.heap.size w ((w.alloc (.cells #[.slice A ws.length c, .slice B ns.length d] 33)).alloc (.cells #[.slice none 0 0, .slice none 0 0] 33)) := ((Below.refl _ _).alloc (Nat.le_refl _) _).alloc (by simp) _
  go_enter Try.func37, Try.ntmps37
  go_wp2_with fail
  generalize (w.alloc (.cells #[.slice A ws.length c, .slice B ns.length d] 33)).alloc (.cells #[.slice none 0 0, .slice none 0 0] 33) = W0 at *
  have Hbk := Lib.hid hbk
  have Hbr := Lib.hid hbr
  have Hb0 := Lib.hid hb0
  clear hbk hbr hb0
  refine (refValid_any A B c d ws ns W0 (hA.below Hb0.out) (hB.below Hb0.out) hl1 hl2).mono ?_
  rintro e w1 ⟨rfl, hb1⟩
  have Hbk1 := Lib.hid (Hbk.out.below hb1 Hbk.out.lt)
  have Hbr1 := Lib.hid (Hbr.out.below hb1 Hbr.out.lt)
  have Hb1 := Lib.hid (Hb0.out.trans (hb1.mono Hb0.out.size))
  clear hb1 Hbk Hbr Hb0
  have hend : ∀ (er : Int), atE ws ns cs s = er → er ≠ 0 → ∀ W : World, Below w.heap.size w W → ∃ X x Y y, Ending.returned (.tuple #[.agg #[.slice none 0 0, .slice none 0 0], .int .i64 er]) = .returned (.tuple #[.agg #[.slice X (atW ws ns cs s).length x, .slice Y (atN ws ns cs s).length y], .int .i64 (atE ws ns cs s)]) ∧ SI W X (atW ws ns cs s) ∧ ST W Y (atN ws ns cs s) ∧ Below w.heap.size w W := by
    intro er h1 h2 W hb
    have e1 : atW ws ns cs s = [] := by rw [atW, if_neg (by rw [h1]; exact h2)]
    have e2 : atN ws ns cs s = [] := by rw [atN, if_neg (by rw [h1]; exact h2)]
    rw [e1, e2, h1]
    exact ⟨none, 0, none, 0, rfl, SL.nil_, SL.nil_, hb⟩
  have Hend := Lib.hid hend
  clear hend
  have hr0 : w1.cell? ⟨w.heap.size + 1, 0, none⟩ = some (.slice none 0 0) := Hbr1.out.cell 0
  have hr1 : w1.cell? ⟨w.heap.size + 1, 1, none⟩ = some (.slice none 0 0) := Hbr1.out.cell 1
  have hf0 := Hbr1.out.frozen 0
  have hf1 := Hbr1.out.frozen 1
  have hz0 := ((Hbr1.out.set_ 0 (.slice none 0 0)).set_ 1 (.slice none 0 0)).cell 0
  have hz1 := ((Hbr1.out.set_ 0 (.slice none 0 0)).set_ 1 (.slice none 0 0)).cell 1
  have HbZ := Lib.hid ((Hb1.out.setCell (p := ⟨w.heap.size + 1, 0, none⟩) (show w.heap.size ≤ w.heap.size + 1 by omega) (.slice none 0 0)).setCell (p := ⟨w.heap.size + 1, 1, none⟩) (show w.heap.size ≤ w.heap.size + 1 by omega) (.slice none 0 0))
  by_cases hv : validE ws ns = 0
  · have hg := validE_good hv
    obtain ⟨g1, g2, g3, g4⟩ := hg
    have Hg := Lib.hid (And.intro g3 g4)
    have hvb : (validE ws ns != 0) = false := by simpa using hv
    have Hv := Lib.hid hv
    clear g3 g4 hv
    obtain ⟨ve, hve⟩ : ∃ ve, Hid (validE ws ns = ve) := ⟨_, rfl⟩
    rw [hve.out] at hvb
    rw [hve.out]
    by_cases hs0 : s < 0
    · have hE7 : atE ws ns cs s = 7 := by rw [atE, if_neg (by rw [Hv.out]; simp), if_pos (.inl hs0)]
      have HE := Lib.hid (Hend.out 7 hE7 (by omega) _ HbZ.out)
      clear hE7
      go_wp2_with fail
      exact bodyPost_ret (v := .tuple #[.agg #[.slice none 0 0, .slice none 0 0], .int .i64 7]) (by simp [results, Try.results37, go_sem, hz0, hz1]) rfl HE.out
    · by_cases hs1 : (cs.length : Int) ≤ s
      · have hE7 : atE ws ns cs s = 7 := by rw [atE, if_neg (by rw [Hv.out]; simp), if_pos (.inr hs1)]
        have HE := Lib.hid (Hend.out 7 hE7 (by omega) _ HbZ.out)
        clear hE7
        go_wp2_with fail
        exact bodyPost_ret (v := .tuple #[.agg #[.slice none 0 0, .slice none 0 0], .int .i64 7]) (by simp [results, Try.results37, go_sem, hz0, hz1]) rfl HE.out
      · obtain ⟨k, rfl⟩ : ∃ k : Nat, s = k := ⟨s.toNat, by omega⟩
        have hk : k < cs.length := by omega
        obtain ⟨b1, o1, B2, c2, l, rfl, hcl, hsi, hx⟩ := (hE.below Hb1.out).get hk
        have hgl : cs.getD ((k : Nat) : Int).toNat [] = l := by rw [Int.toNat_natCast, List.getD, hx.out]; rfl
        have hll := hl4 l (List.mem_of_getElem? hx.out)
        have hEl := Lib.hid (show atE ws ns cs k = if listE ws.length l ≠ 0 then listE ws.length l else if overB ws ns l then 4 else 0 by rw [atE, if_neg (by rw [Hv.out]; simp), if_neg (by omega), hgl])
        have hWat := Lib.hid (show atW ws ns cs k = if atE ws ns cs k = 0 then qW ws l else [] by rw [atW, hgl])
        have hNat := Lib.hid (show atN ws ns cs k = if atE ws ns cs k = 0 then qN ns l else [] by rw [atN, hgl])
        have hc0 : w1.cell? ⟨w.heap.size, 0, none⟩ = some (.slice A ws.length c) := Hbk1.out.cell 0
        have hc1 : w1.cell? ⟨w.heap.size, 1, none⟩ = some (.slice B ns.length d) := Hbk1.out.cell 1
        have hli := listed_any A B B2 c d c2 ws.length ns.length l w1.drew hsi.drew (by omega) hl1
        have Hli := Lib.hid hli
        have Hsi := Lib.hid hsi
        have hkb1 := Hbk1.out.lt
        have hrb1 := Hbr1.out.lt
        clear hli hsi hgl hx hs0 hs1
        have j0 : (0 : Int) ≤ (k : Int) := by omega
        clear hr0 hr1 hf0 hf1 hz0 hz1 HbZ
        go_wp2_with fail
        go_region_held3 (fun W => W.cell? ⟨w.heap.size, 0, none⟩ = some (.slice A ws.length c) ∧ W.cell? ⟨w.heap.size, 1, none⟩ = some (.slice B ns.length d) ∧ W.cell? ⟨b1, o1 + k, none⟩ = some (.slice B2 l.length c2)) (go_keep) ((go_at_call 59; refine Hli.out.mono ?_; rintro e w2 ⟨rfl, hb2⟩; have hbk2 := (show Bk w1.drew w.heap.size 33 _ from Hbk1.out).below hb2 hkb1; have hc02 : w2.cell? ⟨w.heap.size, 0, none⟩ = some (.slice A ws.length c) := hbk2.cell 0; have hc12 : w2.cell? ⟨w.heap.size, 1, none⟩ = some (.slice B ns.length d) := hbk2.cell 1; have hcl2 : w2.cell? ⟨b1, o1 + k, none⟩ = some (.slice B2 l.length c2) := (hb2.cell (World.block_lt_of_cell? _ _ hcl)).trans hcl))
        have Hbr2 := Lib.hid ((show Bk w1.drew (w.heap.size + 1) 33 _ from Hbr1.out).below hb2 hrb1)
        have Hbk2 := Lib.hid hbk2
        have Hsi2 := Lib.hid (SI.below (show SI w1.drew B2 l from Hsi.out) hb2)
        have Hb2 := Lib.hid (Hb1.out.trans (Below.trans (Below.refl _ _).drew (hb2.mono Hb1.out.size)))
        clear hb2 hbk2 hc0 hc1 hcl hc02 hc12 hkb1 hrb1 Hbk1 Hbr1 Hsi Hb1 Hli
        by_cases hle : listE ws.length l = 0
        · have hgood := listE_good hle
          have hlen : Hid (l.length = ws.length) := Lib.hid hgood.1
          have hG := Lib.hid (good_of hgood.2.1)
          have hEl2 : Hid (atE ws ns cs k = if overB ws ns l then 4 else 0) := by show _ = _; rw [hEl.out, if_neg (by simp [hle])]
          have hlb : (listE ws.length l != 0) = false := by simpa using hle
          clear hgood hle hEl
          obtain ⟨le, hle⟩ : ∃ le, Hid (listE ws.length l = le) := ⟨_, rfl⟩
          rw [hle.out] at hlb
          rw [hle.out]
          go_wp2_with fail
          refine (refNamed_any B2 c2 l w2 Hsi2.out hll).mono ?_
          rintro e w3 ⟨v3, rfl, hown3, hb3⟩
          have hnl3 := Lib.hid (named_len l)
          obtain ⟨A3, c3, rfl⟩ := own_slice hown3
          have HN3 := Lib.hid (show SI w3 A3 (named l) from SL.of_own hown3)
          have Hbr3 := Lib.hid (Hbr2.out.below hb3 Hbr2.out.lt)
          have Hbk3 := Lib.hid (Hbk2.out.below hb3 Hbk2.out.lt)
          have Hb3 := Lib.hid (Hb2.out.trans (hb3.mono Hb2.out.size))
          clear hown3 hb3 Hsi2 Hbr2 Hbk2 Hb2 hcl2
          have hnget : ∀ i, i < l.length → ∃ b o, A3 = some ⟨b, o, none⟩ ∧ ∀ W, Below w3.heap.size w3 W → W.cell? ⟨b, o + i, none⟩ = some (.int .i64 ((named l).getD i 0)) := by
            intro i hi
            obtain ⟨b, o, x, e, hc, hx⟩ := HN3.out.get (k := i) (by rw [hnl3.out]; exact hi)
            refine ⟨b, o, e, fun W hW => (hW.cell (World.block_lt_of_cell? _ _ hc)).trans ?_⟩
            rw [hc]
            simp [List.getD, hx.out]
          have HNg := Lib.hid hnget
          clear hnget
          go_wp2_with fail
          go_loopw [11, 12] (fun v i wr => ∃ m : Nat, m ≤ l.length ∧ i = .int .i64 m ∧ wr.ownsRow w3.heap.size 3 1 v (nmTo (named l) m).length ((nmTo (named l) m).map (Value.int .i64)) ∧ Below w3.heap.size w3 wr) (fun _ i _ => l.length - (intOf i).toNat)
          case atStart => exact ⟨0, by omega, rfl, World.ownsRow_nil _ _ _ _, Below.refl _ _⟩
          case round =>
            obtain ⟨m, hm, rfl, hown, hb⟩ := hrel
            have hbs := hb.size
            by_cases hlt : m < l.length
            · obtain ⟨b3, o3, rfl, hcn⟩ := HNg.out m hlt
              have hcn := hcn _ hb
              have hnm := Lib.hid (show nmTo (named l) (m + 1) = if (named l).getD m 0 = (m : Int) then nmTo (named l) m ++ [(m : Int)] else nmTo (named l) m from rfl)
              have hnml : (nmTo (named l) m).length ≤ m := by
                rw [nm_eq hG.out m hm]
                simp
                exact gk_le l m
              generalize (named l).getD m 0 = x at *
              generalize nmTo (named l) m = N at *
              by_cases hxm : x = (m : Int)
              · have hnm2 : Hid (nmTo (named l) (m + 1) = N ++ [(m : Int)]) := by show _ = _; rw [hnm.out, if_pos hxm]
                subst hxm
                clear hnm
                go_wp2_with (at_builtin; refine wpList_app2 (w := wr) rfl _ _ rfl elt_int hown hbs rfl rfl (by simp) rfl rfl (by omega) ?_; intro v4 w4 hown4 hg4 hz4)
                go_roundw
                case rel => exact ⟨m + 1, by omega, by go_num, by rw [hnm2.out, List.map_append, List.length_append]; exact hown4, hb.grown hg4 hbs (fun k hk => (hown.lt k hk).1)⟩
                case measure => simp [intOf]; omega
              · have hnm2 : Hid (nmTo (named l) (m + 1) = N) := by show _ = _; rw [hnm.out, if_neg hxm]
                have hxb : (x == (m : Int)) = false := by simpa using hxm
                clear hnm
                go_wp2_with fail
                go_roundw
                case rel => exact ⟨m + 1, by omega, by go_num, by rw [hnm2.out]; exact hown, hb⟩
                case measure => simp [intOf]; omega
            · obtain rfl : m = l.length := by omega
              obtain ⟨wO, rfl⟩ : ∃ x, x = wr := ⟨wr, rfl⟩
              have hNl : (nmTo (named l) l.length).length = gk l l.length := by rw [nm_eq hG.out _ (Nat.le_refl _)]; simp
              obtain ⟨G, hGd⟩ : ∃ G, gk l l.length = G := ⟨_, rfl⟩
              have hgG := gk_le l l.length
              rw [hGd] at hNl hgG
              have hlw := hlen.out
              have hG4 : G ≤ 4096 := by omega
              clear hlw
              have HGd := Lib.hid hGd
              clear hGd
              rw [hNl] at hown
              obtain ⟨NA, nc, rfl⟩ := own_slice hown
              have hNS : SI wO NA (nmTo (named l) l.length) := SL.of_own hown
              have HNN := Lib.hid (show ∀ i, i < G → ∃ b o, NA = some ⟨b, o, none⟩ ∧ ∀ W, Below wO.heap.size wO W → W.cell? ⟨b, o + i, none⟩ = some (.int .i64 (rt l i)) from by
                intro i hi
                obtain ⟨b, o, x, e, hc, hx⟩ := hNS.get (k := i) (by rw [hNl]; exact hi)
                have hx2 := hx.out
                rw [nm_at hG.out (by rw [HGd.out]; exact hi)] at hx2
                injection hx2 with hx2
                exact ⟨b, o, e, fun W hW => (hW.cell (World.block_lt_of_cell? _ _ hc)).trans (by rw [hc, hx2])⟩)
              have hkw := Hb3.out.size
              have hk3 := Hbk3.out.lt
              have hr3 := Hbr3.out.lt
              have hkO : w.heap.size + 1 < wO.heap.size := by omega
              have HKb := Lib.hid (fun W (hW : Below wO.heap.size wO W) => (Hbk3.out.below hb hk3).below hW (show w.heap.size < wO.heap.size by omega))
              have HKr := Lib.hid (fun W (hW : Below wO.heap.size wO W) => (Hbr3.out.below hb hr3).below hW hkO)
              have HKn := Lib.hid (fun W (hW : Below wO.heap.size wO W) => HN3.out.below (hb.trans (hW.mono hbs)))
              have HbR := Lib.hid (Hb3.out.trans (hb.mono hkw))
              clear hown hNS HN3 Hbk3 Hbr3 hk3 hr3 hkw
              have hgO := Bk.new wO 33 #[.slice none 0 0, .slice none 0 0]
              have hbO := (Below.refl wO.heap.size wO).alloc (Nat.le_refl _) (.cells #[.slice none 0 0, .slice none 0 0] 33)
              have HgO := Lib.hid hgO
              have HbO := Lib.hid hbO
              have hbR2 := HbR.out.size
              clear hgO hbO hb hbs hlt hm Hb3
              go_wp2_with fail
              generalize wO.alloc (.cells #[.slice none 0 0, .slice none 0 0] 33) = W5 at *
              have HbW := Lib.hid (fun W (hW : Below wO.heap.size wO W) => HbR.out.trans (hW.mono hbR2))
              go_loopw [14] (fun i wq => ∃ (j : Nat) (v1 v2 : Value), j ≤ G ∧ i = .int .i64 j ∧ Bk wq wO.heap.size 33 #[v1, v2] ∧ wq.ownsRow wO.heap.size 3 1 v1 j (((qW ws l).take j).map (Value.int .i64)) ∧ wq.ownsRow wO.heap.size 52 3 v2 (nrTo ns l G j).length (triC (nrTo ns l G j)) ∧ Hid (∀ i : Nat, i < j → weight ws l i ≤ 1099511627776) ∧ Hid (∀ t ∈ nrTo ns l G j, t.2.2 ≤ 1099511627776) ∧ Below wO.heap.size wO wq) (fun i _ => G - (intOf i).toNat)
              case atStart => exact ⟨0, _, _, by omega, rfl, HgO.out, World.ownsRow_nil _ _ _ _, World.ownsRow_nil _ _ _ _, (fun i hi => by omega), (fun t ht => by simp [nrTo] at ht), HbO.out⟩
              case round =>
                clear HgO HbO
                obtain ⟨j, v1, v2, hj, rfl, hgo, ho1, ho2, hw1, hn2, hbq⟩ := hrel
                have hbqs := hbq.size
                by_cases hjG : j < G
                · obtain ⟨b5, o5, rfl, hcn⟩ := HNN.out j hjG
                  have hmem : ((j : Nat) : Int) ∈ l := gk_mem (by rw [HGd.out]; exact hjG)
                  have hcall := weight_any A B A3 c d c3 ws (named l) ns.length (rt l j) wr.drew (hA.below (HbW.out _ hbq).drew) (HKn.out _ hbq.drew) Hg.out.1 (hnl3.out.trans hlen.out) g1
                  rw [hnl3.out, weight_named ws hmem] at hcall
                  have hqj := Lib.hid (qW_at ws (l := l) (j := j) (by rw [HGd.out]; exact hjG))
                  have hov := Lib.hid (fun h => over_w (ws := ws) (ns := ns) (l := l) (i := j) (by rw [HGd.out]; exact hjG) h)
                  have hw1s := Lib.hid (show weight ws l j ≤ 1099511627776 → ∀ i : Nat, i < j + 1 → weight ws l i ≤ 1099511627776 from fun hx i hi => by
                    rcases Nat.lt_or_ge i j with h | h
                    · exact hw1.out i h
                    · obtain rfl : i = j := by omega
                      exact hx)
                  have hc0 : wr.cell? ⟨w.heap.size, 0, none⟩ = some (.slice A ws.length c) := (HKb.out wr hbq).cell 0
                  have hc1 : wr.cell? ⟨w.heap.size, 1, none⟩ = some (.slice B ns.length d) := (HKb.out wr hbq).cell 1
                  have hcj : wr.cell? ⟨b5, o5 + j, none⟩ = some (.int .i64 (rt l j)) := hcn wr hbq
                  generalize weight ws l j = x at *
                  have Hcall := Lib.hid hcall
                  have Hgo := Lib.hid hgo
                  have Ho1 := Lib.hid ho1
                  have Ho2 := Lib.hid ho2
                  have Hbq := Lib.hid hbq
                  have Hcn := Lib.hid hcn
                  have hgl := hgo.lt
                  clear hcall hgo ho1 ho2 hbq hcn hw1
                  have j0 : (0 : Int) ≤ (j : Int) := by omega
                  go_wp2_with fail
                  go_region_held3 (fun W => W.cell? ⟨w.heap.size, 0, none⟩ = some (.slice A ws.length c) ∧ W.cell? ⟨w.heap.size, 1, none⟩ = some (.slice B ns.length d) ∧ W.cell? ⟨b5, o5 + j, none⟩ = some (.int .i64 (rt l j))) (go_keep) ((go_at_call 77; refine Hcall.out.mono ?_; rintro e w6 ⟨rfl, hb6⟩; have hb06 := Hbq.out.drew.trans (hb6.mono hbqs); have hc06 : w6.cell? ⟨w.heap.size, 0, none⟩ = some (.slice A ws.length c) := (HKb.out w6 hb06).cell 0; have hc16 : w6.cell? ⟨w.heap.size, 1, none⟩ = some (.slice B ns.length d) := (HKb.out w6 hb06).cell 1; have hcj6 : w6.cell? ⟨b5, o5 + j, none⟩ = some (.int .i64 (rt l j)) := Hcn.out w6 hb06))
                  all_goals
                    have Hgo6 := Lib.hid ((show Bk wr.drew wO.heap.size 33 _ from Hgo.out).below hb6 hgl)
                    have Ho16 := Lib.hid (own_below (own_qt Ho1.out ⟨1, rfl⟩ : wr.drew.ownsRow _ _ _ _ _ _) hb6)
                    have Ho26 := Lib.hid (own_below (own_qt Ho2.out ⟨1, rfl⟩ : wr.drew.ownsRow _ _ _ _ _ _) hb6)
                    have Hb06 := Lib.hid hb06
                    have hbs6 := hb06.size
                    clear hb6 hb06 hc0 hc1 hcj hc06 hc16 hcj6 Hgo Ho1 Ho2 Hbq Hcall hgl hbqs
                    by_cases hxx : 1099511627776 < x
                    · have hE4 : atE ws ns cs k = 4 := by rw [hEl2.out, if_pos (hov.out hxx)]
                      have hbr := HKr.out w6 Hb06.out
                      have hr0 : (w6).cell? ⟨w.heap.size + 1, 0, none⟩ = some (.slice none 0 0) := hbr.cell 0
                      have hr1 : (w6).cell? ⟨w.heap.size + 1, 1, none⟩ = some (.slice none 0 0) := hbr.cell 1
                      have hf0 := hbr.frozen 0
                      have hf1 := hbr.frozen 1
                      have hz0 := ((hbr.set_ 0 (.slice none 0 0)).set_ 1 (.slice none 0 0)).cell 0
                      have hz1 := ((hbr.set_ 0 (.slice none 0 0)).set_ 1 (.slice none 0 0)).cell 1
                      have HE := Lib.hid (Hend.out 4 hE4 (by omega) _ (((HbW.out w6 Hb06.out).setCell (p := ⟨w.heap.size + 1, 0, none⟩) (show w.heap.size ≤ w.heap.size + 1 by omega) (.slice none 0 0)).setCell (p := ⟨w.heap.size + 1, 1, none⟩) (show w.heap.size ≤ w.heap.size + 1 by omega) (.slice none 0 0)))
                      clear hE4 hbr
                      go_wp2_with fail
                      exact bodyPost_ret (v := .tuple #[.agg #[.slice none 0 0, .slice none 0 0], .int .i64 4]) (by simp [results, Try.results37, go_sem, hz0, hz1]) rfl HE.out
                    · have hxle : x ≤ 1099511627776 := by omega
                      have Hw1s := Lib.hid (hw1s.out hxle)
                      have hc0 : w6.cell? ⟨wO.heap.size, 0, none⟩ = some v1 := Hgo6.out.cell 0
                      have hrow := Hgo6.out.ne_own Ho16.out (by decide)
                      have ho16 := Ho16.out
                      clear hw1s hov
                      go_wp2_with (at_builtin; refine wpList_app2 (w := w6) rfl _ _ rfl elt_int ho16 hbs6 rfl rfl (by simp) rfl rfl (by omega) ?_; intro v7 w7 hown7 hg7 hz7; obtain ⟨A7, c7, rfl⟩ := own_slice hown7; have hg8 := Hgo6.out.grown hg7 hrow; have hq0 : w7.cell? ⟨wO.heap.size, 0, none⟩ = some v1 := hg8.cell 0; have hq1 := hg8.frozen 0; have Hg8 := Lib.hid hg8; clear hg8)
                      have hgo8 := Hg8.out.set_ 0 (.slice A7 (j + 1) c7)
                      have ho18 := own_set (i := 0) hown7 (Hg8.out.ne_own hown7 (by decide)) (.slice A7 (j + 1) c7)
                      have ho28 := own_grown Ho26.out hg7 (own_ne Ho26.out ho16 (by decide))
                      have ho29 := own_set (i := 0) ho28 (Hg8.out.ne_own ho28 (by decide)) (.slice A7 (j + 1) c7)
                      have hb8 := (Hb06.out.grown hg7 hbs6 (fun k hk => (ho16.lt k hk).1)).setCell (p := ⟨wO.heap.size, 0, none⟩) (Nat.le_refl _) (.slice A7 (j + 1) c7)
                      have htk := take_snoc' hqj.out
                      rw [← List.map_singleton, ← List.map_append, ← htk] at ho18
                      generalize w7.setCell ⟨wO.heap.size, 0, none⟩ (.slice A7 (j + 1) c7) = W8 at *
                      have Hgo8 := Lib.hid hgo8
                      have Ho18 := Lib.hid ho18
                      have Ho29 := Lib.hid ho29
                      have Hb8 := Lib.hid hb8
                      clear hgo8 ho18 ho28 ho29 hb8 htk hown7 hg7 hz7 hq0 hq1 hc0 hrow ho16 hbs6 Hg8 Hgo6 Ho16 Ho26 Hb06 hxx
                      go_loopw [16] (fun i wz => ∃ (m : Nat) (v2 : Value), j + 1 + m ≤ G ∧ i = .int .i64 (j + 1 + m : Nat) ∧ Bk wz wO.heap.size 33 #[.slice A7 (j + 1) c7, v2] ∧ wz.ownsRow wO.heap.size 3 1 (.slice A7 (j + 1) c7) (j + 1) (((qW ws l).take (j + 1)).map (Value.int .i64)) ∧ wz.ownsRow wO.heap.size 52 3 v2 (nrTo ns l G j ++ rowTo ns l j m).length (triC (nrTo ns l G j ++ rowTo ns l j m)) ∧ Hid (∀ t ∈ nrTo ns l G j ++ rowTo ns l j m, t.2.2 ≤ 1099511627776) ∧ Below wO.heap.size wO wz) (fun i _ => G - (intOf i).toNat)
                      case atStart => exact ⟨0, v2, by omega, by go_num, Hgo8.out, Ho18.out, by rw [rowTo, List.append_nil]; exact Ho29.out, by rw [rowTo, List.append_nil]; exact hn2, Hb8.out⟩
                      case round =>
                        clear Hgo8 Ho18 Ho29 Hb8 hn2
                        obtain ⟨m, v3, hm, rfl, hgo, ho1, ho2, hn3, hbq⟩ := hrel
                        have hbqs := hbq.size
                        have hnb := nr_bd ns l (j := j) (m := m) hG4 hj (by omega)
                        by_cases hmG : j + 1 + m < G
                        · obtain ⟨k2, hk2⟩ : ∃ k2, Hid (j + 1 + m = k2) := ⟨_, Lib.hid rfl⟩
                          have hjk : j < k2 := by have := hk2.out; omega
                          obtain ⟨b6, o6, he6, hcn2⟩ := HNN.out j hjG
                          rw [hk2.out] at hmG
                          rw [hk2.out]
                          obtain ⟨b7, o7, he7, hcn3⟩ := HNN.out k2 hmG
                          cases he6
                          cases he7
                          have hmem2 : ((k2 : Nat) : Int) ∈ l := gk_mem (by rw [HGd.out]; exact hmG)
                          have hcall := common_any A B A3 c d c3 ws.length ns (named l) (rt l j) (rt l k2) wr.drew (hB.below (HbW.out _ hbq).drew) (HKn.out _ hbq.drew) (Hg.out.2.len (hnl3.out.trans hlen.out).symm) g2
                          rw [hnl3.out, common_named (Hg.out.2.len hlen.out.symm) hmem hmem2] at hcall
                          have hrow0 := Lib.hid (show rowTo ns l j (m + 1) = rowTo ns l j m ++ if 0 < common ns l j k2 then [((j : Int), (k2 : Int), common ns l j k2)] else [] by rw [rowTo, hk2.out])
                          have hov := Lib.hid (fun h => over_n (ws := ws) (ns := ns) (l := l) hjk (by rw [HGd.out]; exact hmG) h)
                          have hc0 : wr.cell? ⟨w.heap.size, 0, none⟩ = some (.slice A ws.length c) := (HKb.out wr hbq).cell 0
                          have hc1 : wr.cell? ⟨w.heap.size, 1, none⟩ = some (.slice B ns.length d) := (HKb.out wr hbq).cell 1
                          have hcj : wr.cell? ⟨b5, o5 + j, none⟩ = some (.int .i64 (rt l j)) := hcn2 wr hbq
                          have hck : wr.cell? ⟨b5, o5 + k2, none⟩ = some (.int .i64 (rt l k2)) := hcn3 wr hbq
                          generalize common ns l j k2 = y at *
                          have Hcall := Lib.hid hcall
                          have Hgo := Lib.hid hgo
                          have Ho1 := Lib.hid ho1
                          have Ho2 := Lib.hid ho2
                          have Hbq := Lib.hid hbq
                          have Hcn2 := Lib.hid hcn2
                          have Hcn3 := Lib.hid hcn3
                          have hgl := hgo.lt
                          clear hcall hgo ho1 ho2 hbq hcn2 hcn3 hm
                          have j0 : (0 : Int) ≤ (j : Int) := by omega
                          have k0 : (0 : Int) ≤ (k2 : Int) := by omega
                          go_wp2_with fail
                          go_region_held3 (fun W => W.cell? ⟨w.heap.size, 0, none⟩ = some (.slice A ws.length c) ∧ W.cell? ⟨w.heap.size, 1, none⟩ = some (.slice B ns.length d) ∧ W.cell? ⟨b5, o5 + j, none⟩ = some (.int .i64 (rt l j)) ∧ W.cell? ⟨b5, o5 + k2, none⟩ = some (.int .i64 (rt l k2))) (go_keep) ((go_at_call 78; refine Hcall.out.mono ?_; rintro e w6 ⟨rfl, hb6⟩; have hb06 := Hbq.out.drew.trans (hb6.mono hbqs); have hc06 : w6.cell? ⟨w.heap.size, 0, none⟩ = some (.slice A ws.length c) := (HKb.out w6 hb06).cell 0; have hc16 : w6.cell? ⟨w.heap.size, 1, none⟩ = some (.slice B ns.length d) := (HKb.out w6 hb06).cell 1; have hcj6 : w6.cell? ⟨b5, o5 + j, none⟩ = some (.int .i64 (rt l j)) := Hcn2.out w6 hb06; have hck6 : w6.cell? ⟨b5, o5 + k2, none⟩ = some (.int .i64 (rt l k2)) := Hcn3.out w6 hb06))
                          all_goals
                            have Hgo6 := Lib.hid ((show Bk wr.drew wO.heap.size 33 _ from Hgo.out).below hb6 hgl)
                            have Ho16 := Lib.hid (own_below (own_qt Ho1.out ⟨1, rfl⟩ : wr.drew.ownsRow _ _ _ _ _ _) hb6)
                            have Ho26 := Lib.hid (own_below (own_qt Ho2.out ⟨1, rfl⟩ : wr.drew.ownsRow _ _ _ _ _ _) hb6)
                            have Hb06 := Lib.hid hb06
                            have hbs6 := hb06.size
                            clear hb6 hb06 hc0 hc1 hcj hck hc06 hc16 hcj6 hck6 Hgo Ho1 Ho2 Hbq Hcall hgl hbqs
                            by_cases hyy : 1099511627776 < y
                            · have hE4 : atE ws ns cs k = 4 := by rw [hEl2.out, if_pos (hov.out hyy)]
                              have hbr := HKr.out w6 Hb06.out
                              have hr0 : (w6).cell? ⟨w.heap.size + 1, 0, none⟩ = some (.slice none 0 0) := hbr.cell 0
                              have hr1 : (w6).cell? ⟨w.heap.size + 1, 1, none⟩ = some (.slice none 0 0) := hbr.cell 1
                              have hf0 := hbr.frozen 0
                              have hf1 := hbr.frozen 1
                              have hz0 := ((hbr.set_ 0 (.slice none 0 0)).set_ 1 (.slice none 0 0)).cell 0
                              have hz1 := ((hbr.set_ 0 (.slice none 0 0)).set_ 1 (.slice none 0 0)).cell 1
                              have HE := Lib.hid (Hend.out 4 hE4 (by omega) _ (((HbW.out w6 Hb06.out).setCell (p := ⟨w.heap.size + 1, 0, none⟩) (show w.heap.size ≤ w.heap.size + 1 by omega) (.slice none 0 0)).setCell (p := ⟨w.heap.size + 1, 1, none⟩) (show w.heap.size ≤ w.heap.size + 1 by omega) (.slice none 0 0)))
                              clear hE4 hbr
                              go_wp2_with fail
                              exact bodyPost_ret (v := .tuple #[.agg #[.slice none 0 0, .slice none 0 0], .int .i64 4]) (by simp [results, Try.results37, go_sem, hz0, hz1]) rfl HE.out
                            · have hyle : y ≤ 1099511627776 := by omega
                              by_cases hy0 : 0 < y
                              · have hrow1 : Hid (nrTo ns l G j ++ rowTo ns l j (m + 1) = (nrTo ns l G j ++ rowTo ns l j m) ++ [((j : Int), (k2 : Int), y)]) := by show _ = _; rw [hrow0.out, if_pos hy0, List.append_assoc]
                                have hn4 : Hid (∀ t ∈ nrTo ns l G j ++ rowTo ns l j (m + 1), t.2.2 ≤ 1099511627776) := by
                                  show ∀ _ ∈ _, _
                                  rw [hrow1.out]
                                  intro t ht
                                  rcases List.mem_append.1 ht with ht | ht
                                  · exact hn3.out t ht
                                  · simp only [List.mem_singleton] at ht
                                    subst ht
                                    exact hyle
                                clear hrow0 hn3 hov
                                have ho26 := Ho26.out
                                generalize nrTo ns l G j ++ rowTo ns l j m = T at *
                                have hc1 : w6.cell? ⟨wO.heap.size, 1, none⟩ = some v3 := Hgo6.out.cell 1
                                have hrow := Hgo6.out.ne_own ho26 (by decide)
                                go_wp2_with (at_builtin; refine wpList_app2 (w := w6) rfl _ _ rfl elt_tri ho26 hbs6 rfl rfl (by simp) rfl rfl (by omega) ?_; intro v7 w7 hown7 hg7 hz7; obtain ⟨A8, c8, rfl⟩ := own_slice hown7; have hg8 := Hgo6.out.grown hg7 hrow; have hq0 : w7.cell? ⟨wO.heap.size, 1, none⟩ = some v3 := hg8.cell 1; have hq1 := hg8.frozen 1; have Hg8 := Lib.hid hg8; clear hg8)
                                have ho18 := own_grown Ho16.out hg7 (own_ne Ho16.out ho26 (by decide))
                                have ho19 := own_set (i := 1) ho18 (Hg8.out.ne_own ho18 (by decide)) (.slice A8 (T.length + 1) c8)
                                have ho29 := own_set (i := 1) hown7 (Hg8.out.ne_own hown7 (by decide)) (.slice A8 (T.length + 1) c8)
                                have hb8 := (Hb06.out.grown hg7 hbs6 (fun k hk => (ho26.lt k hk).1)).setCell (p := ⟨wO.heap.size, 1, none⟩) (Nat.le_refl _) (.slice A8 (T.length + 1) c8)
                                go_roundw
                                case rel => exact ⟨m + 1, _, by have := hk2.out; omega, by have := hk2.out; go_num, Hg8.out.set_ 1 _, ho19, by rw [hrow1.out, triC_append, List.length_append]; exact ho29, hn4, hb8⟩
                                case measure => simp [intOf]; omega
                              · have hrow1 : Hid (rowTo ns l j (m + 1) = rowTo ns l j m) := by show _ = _; rw [hrow0.out, if_neg hy0, List.append_nil]
                                go_wp2_with fail
                                go_roundw
                                case rel => exact ⟨m + 1, v3, by have := hk2.out; omega, by have := hk2.out; go_num, Hgo6.out, Ho16.out, by rw [hrow1.out]; exact Ho26.out, by rw [hrow1.out]; exact hn3, Hb06.out⟩
                                case measure => simp [intOf]; omega
                        · have hmG2 : Hid (m = G - (j + 1)) := Lib.hid (by omega)
                          have hnr : Hid (nrTo ns l G j ++ rowTo ns l j m = nrTo ns l G (j + 1)) := by show _ = _; rw [nrTo, hmG2.out]
                          rw [hnr.out] at ho2 hn3
                          go_wp2_with fail
                          go_roundw
                          case rel => exact ⟨j + 1, _, _, by omega, by go_num, hgo, ho1, ho2, Hw1s, hn3, hbq⟩
                          case measure => simp [intOf]; omega
                · obtain rfl : j = G := by omega
                  have hqWl : (qW ws l).length = j := by rw [qW, wTo_len, HGd.out]
                  rw [List.take_of_length_le (by omega)] at ho1
                  have hqN : Hid (nrTo ns l j j = qN ns l) := by show _ = _; rw [qN, HGd.out]
                  rw [hqN.out] at ho2 hn2
                  have hE0 : atE ws ns cs k = 0 := by rw [hEl2.out, over_not (by rw [HGd.out]; exact hw1.out) hn2.out]; simp
                  have hWf : atW ws ns cs k = qW ws l := by rw [hWat.out, if_pos hE0]
                  have hNf : atN ws ns cs k = qN ns l := by rw [hNat.out, if_pos hE0]
                  obtain ⟨A7, c7, rfl⟩ := own_slice ho1
                  obtain ⟨A8, c8, rfl⟩ := own_slice ho2
                  have hbr := HKr.out wr hbq
                  have hc0 : wr.cell? ⟨wO.heap.size, 0, none⟩ = some (.slice A7 j c7) := hgo.cell 0
                  have hc1 : wr.cell? ⟨wO.heap.size, 1, none⟩ = some (.slice A8 (qN ns l).length c8) := hgo.cell 1
                  have hr0 : wr.cell? ⟨w.heap.size + 1, 0, none⟩ = some (.slice none 0 0) := hbr.cell 0
                  have hr1 : wr.cell? ⟨w.heap.size + 1, 1, none⟩ = some (.slice none 0 0) := hbr.cell 1
                  have hf0 := hbr.frozen 0
                  have hf1 := hbr.frozen 1
                  have hz0 := ((hbr.set_ 0 (.slice A7 j c7)).set_ 1 (.slice A8 (qN ns l).length c8)).cell 0
                  have hz1 := ((hbr.set_ 0 (.slice A7 j c7)).set_ 1 (.slice A8 (qN ns l).length c8)).cell 1
                  have HbF := Lib.hid (((HbW.out wr hbq).setCell (p := ⟨w.heap.size + 1, 0, none⟩) (show w.heap.size ≤ w.heap.size + 1 by omega) (.slice A7 j c7)).setCell (p := ⟨w.heap.size + 1, 1, none⟩) (show w.heap.size ≤ w.heap.size + 1 by omega) (.slice A8 (qN ns l).length c8))
                  have HI1 := Lib.hid (SL.of_own (own_set (i := 1) (own_set (i := 0) ho1 (hbr.ne_own ho1 (by decide)) (.slice A7 j c7)) ((hbr.set_ 0 (.slice A7 j c7)).ne_own (own_set (i := 0) ho1 (hbr.ne_own ho1 (by decide)) (.slice A7 j c7)) (by decide)) (.slice A8 (qN ns l).length c8)))
                  have HI2 := Lib.hid (SL.of_own (own_set (i := 1) (own_set (i := 0) ho2 (hbr.ne_own ho2 (by decide)) (.slice A7 j c7)) ((hbr.set_ 0 (.slice A7 j c7)).ne_own (own_set (i := 0) ho2 (hbr.ne_own ho2 (by decide)) (.slice A7 j c7)) (by decide)) (.slice A8 (qN ns l).length c8)))
                  have Hfin := Lib.hid (And.intro hE0 (And.intro hWf (And.intro hNf hqWl)))
                  clear hE0 hWf hNf hqWl hbr hgo ho1 ho2 hbq
                  go_wp2_with fail
                  refine bodyPost_ret (v := .tuple #[.agg #[.slice A7 j c7, .slice A8 (qN ns l).length c8], .int .i64 0]) (by simp [results, Try.results37, go_sem, hz0, hz1]) rfl ⟨A7, c7, A8, c8, ?_, ?_, ?_, HbF.out⟩
                  · rw [Hfin.out.1, Hfin.out.2.1, Hfin.out.2.2.1, Hfin.out.2.2.2]
                  · rw [Hfin.out.2.1]; exact HI1.out
                  · rw [Hfin.out.2.2.1]; exact HI2.out
        · have hlb : (listE ws.length l != 0) = true := by simpa using hle
          have HE := Lib.hid (hEl.out.trans (if_pos hle))
          have hr0 : w2.cell? ⟨w.heap.size + 1, 0, none⟩ = some (.slice none 0 0) := Hbr2.out.cell 0
          have hr1 : w2.cell? ⟨w.heap.size + 1, 1, none⟩ = some (.slice none 0 0) := Hbr2.out.cell 1
          have hf0 := Hbr2.out.frozen 0
          have hf1 := Hbr2.out.frozen 1
          have hz0 := ((Hbr2.out.set_ 0 (.slice none 0 0)).set_ 1 (.slice none 0 0)).cell 0
          have hz1 := ((Hbr2.out.set_ 0 (.slice none 0 0)).set_ 1 (.slice none 0 0)).cell 1
          have HbZ := Lib.hid ((Hb2.out.setCell (p := ⟨w.heap.size + 1, 0, none⟩) (show w.heap.size ≤ w.heap.size + 1 by omega) (.slice none 0 0)).setCell (p := ⟨w.heap.size + 1, 1, none⟩) (show w.heap.size ≤ w.heap.size + 1 by omega) (.slice none 0 0))
          have HE := Lib.hid (Hend.out _ HE.out hle _ HbZ.out)
          clear hle
          generalize listE ws.length l = le at *
          go_wp2_with fail
          exact bodyPost_ret (v := .tuple #[.agg #[.slice none 0 0, .slice none 0 0], .int .i64 le]) (by simp [results, Try.results37, go_sem, hz0, hz1]) rfl HE.out
  · have hvb : (validE ws ns != 0) = true := by simpa using hv
    have hEv : atE ws ns cs s = validE ws ns := by rw [atE, if_pos hv]
    have HE := Lib.hid (Hend.out (validE ws ns) hEv hv _ HbZ.out)
    clear hEv hv
    obtain ⟨ve, hve⟩ : ∃ ve, Hid (validE ws ns = ve) := ⟨_, rfl⟩
    rw [hve.out] at hvb HE
    rw [hve.out]
    go_wp2_with fail
    exact bodyPost_ret (v := .tuple #[.agg #[.slice none 0 0, .slice none 0 0], .int .i64 ve]) (by simp [results, Try.results37, go_sem, hz0, hz1]) rfl HE.out
end Go.Proofs.Ytaegfljpodhnhaa
