import Derived.Test.YtaegfljpodhnhaaG05
import Derived.Test.YtaegfljpodhnhaaT3
namespace Go.Proofs.Ytaegfljpodhnhaa
open Go.RowKit Go.Maps

theorem sl_set2 {w : World} {A : Option Addr} {xs : List Value} {r : Nat} (h : SL w A xs) (hA : ∀ b o, A = some ⟨b, o, none⟩ → b ≠ r) (u v : Value) : SL ((w.setCell ⟨r, 0, none⟩ u).setCell ⟨r, 1, none⟩ v) A xs := fun j x hx => by
  obtain ⟨b, o, rfl, hb, hc⟩ := h j x hx
  have hne := hA b o rfl
  refine ⟨b, o, rfl, by simpa [World.setCell] using hb, ?_⟩
  exact (World.cell?_setCell_other _ _ _ _ (fun e => hne (by injection e with e1; exact e1.symm))).trans ((World.cell?_setCell_other _ _ _ _ (fun e => hne (by injection e with e1; exact e1.symm))).trans hc)
theorem own_at1 {w : World} {base g n m c : Nat} {l : List Int} {z : Int} (h : w.ownsRow base 3 1 (.slice (some ⟨g, 0, none⟩) m c) m (l.map (Value.int .i64))) (hz : l[n]? = some z) : w.cell? ⟨g, n, none⟩ = some (.int .i64 z) := by
  obtain ⟨cur, hb, hc⟩ := own_bk h
  rw [hb.cell]
  have h1 : (cur.toList.take (m * 1))[n]? = some (.int .i64 z) := by rw [hc]; simp [hz]
  rw [List.getElem?_take] at h1
  split at h1
  · simpa using h1
  · cases h1

set_option linter.unusedSimpArgs false in
set_option maxHeartbeats 8000000 in
set_option maxRecDepth 100000 in
theorem at_any (A B E : Option Addr) (c d q : Nat) (ws : List Int) (ns : List (Int × Int × Int)) (cs : List (List Int)) (s : Int) (w : World) (hA : SI w A ws) (hB : ST w B ns) (hE : SLL w E cs) (hl1 : ws.length ≤ 4611686018427387904) (hl2 : ns.length ≤ 4611686018427387904) (hl4 : ∀ l ∈ cs, l.length ≤ 1099511627776) :
    Calls Try.prog 36 #[.agg #[.slice A ws.length c, .slice B ns.length d], .agg #[.slice E cs.length q], .int .i64 s] w fun e w' => ∃ X x Y y, e = .returned (.tuple #[.agg #[.slice X (atW ws ns cs s).length x, .slice Y (atN ws ns cs s).length y], .int .i64 (atE ws ns cs s)]) ∧ SI w' X (atW ws ns cs s) ∧ ST w' Y (atN ws ns cs s) ∧ Below w.heap.size w w' := by
  have hbk := ((Bk.new w 31 #[.slice A ws.length c, .slice B ns.length d]).alloc (.cells #[.slice E cs.length q] 36)).alloc (.cells #[.slice none 0 0, .slice none 0 0] 31)
  have hbc := (Bk.new' (w.alloc (.cells #[.slice A ws.length c, .slice B ns.length d] 31)) 36 #[.slice E cs.length q] (g := w.heap.size + 1) (by simp)).alloc (.cells #[.slice none 0 0, .slice none 0 0] 31)
  have hbr := Bk.new' ((w.alloc (.cells #[.slice A ws.length c, .slice B ns.length d] 31)).alloc (.cells #[.slice E cs.length q] 36)) 31 #[.slice none 0 0, .slice none 0 0] (g := w.heap.size + 2) (by simp)
  have hb0 : Below w.heap.size w (((w.alloc (.cells #[.slice A ws.length c, .slice B ns.length d] 31)).alloc (.cells #[.slice E cs.length q] 36)).alloc (.cells #[.slice none 0 0, .slice none 0 0] 31)) := (((Below.refl _ _).alloc (Nat.le_refl _) _).alloc (by simp) _).alloc (by simp; omega) _
  go_enter Try.func36, Try.ntmps36
  go_wp2_with fail
  generalize ((w.alloc (.cells #[.slice A ws.length c, .slice B ns.length d] 31)).alloc (.cells #[.slice E cs.length q] 36)).alloc (.cells #[.slice none 0 0, .slice none 0 0] 31) = W0 at *
  have Hbk := Lib.hid hbk
  have Hbc := Lib.hid hbc
  have Hbr := Lib.hid hbr
  have Hb0 := Lib.hid hb0
  clear hbk hbc hbr hb0
  refine (valid_any A B c d ws ns W0 (hA.below Hb0.out) (hB.below Hb0.out) hl1 hl2).mono ?_
  rintro e w1 ⟨rfl, hb1⟩
  have Hbk1 := Lib.hid (Hbk.out.below hb1 Hbk.out.lt)
  have Hbc1 := Lib.hid (Hbc.out.below hb1 Hbc.out.lt)
  have Hbr1 := Lib.hid (Hbr.out.below hb1 Hbr.out.lt)
  have Hb1 := Lib.hid (Hb0.out.trans (hb1.mono Hb0.out.size))
  clear hb1 Hbk Hbc Hbr Hb0
  have hch : w1.cell? ⟨w.heap.size + 1, 0, none⟩ = some (.slice E cs.length q) := Hbc1.out.cell 0
  have hend : ∀ (er : Int), atE ws ns cs s = er → er ≠ 0 → ∀ W : World, Below w.heap.size w W → ∃ X x Y y, Ending.returned (.tuple #[.agg #[.slice none 0 0, .slice none 0 0], .int .i64 er]) = .returned (.tuple #[.agg #[.slice X (atW ws ns cs s).length x, .slice Y (atN ws ns cs s).length y], .int .i64 (atE ws ns cs s)]) ∧ SI W X (atW ws ns cs s) ∧ ST W Y (atN ws ns cs s) ∧ Below w.heap.size w W := by
    intro er h1 h2 W hb
    have e1 : atW ws ns cs s = [] := by rw [atW, if_neg (by rw [h1]; exact h2)]
    have e2 : atN ws ns cs s = [] := by rw [atN, if_neg (by rw [h1]; exact h2)]
    rw [e1, e2, h1]
    exact ⟨none, 0, none, 0, rfl, SL.nil_, SL.nil_, hb⟩
  have Hend := Lib.hid hend
  clear hend
  have hr0 : w1.cell? ⟨w.heap.size + 2, 0, none⟩ = some (.slice none 0 0) := Hbr1.out.cell 0
  have hr1 : w1.cell? ⟨w.heap.size + 2, 1, none⟩ = some (.slice none 0 0) := Hbr1.out.cell 1
  have hf0 := Hbr1.out.frozen 0
  have hf1 := Hbr1.out.frozen 1
  have hz0 := ((Hbr1.out.set_ 0 (.slice none 0 0)).set_ 1 (.slice none 0 0)).cell 0
  have hz1 := ((Hbr1.out.set_ 0 (.slice none 0 0)).set_ 1 (.slice none 0 0)).cell 1
  have HbZ := Lib.hid ((Hb1.out.setCell (p := ⟨w.heap.size + 2, 0, none⟩) (show w.heap.size ≤ w.heap.size + 2 by omega) (.slice none 0 0)).setCell (p := ⟨w.heap.size + 2, 1, none⟩) (show w.heap.size ≤ w.heap.size + 2 by omega) (.slice none 0 0))
  by_cases hv : validE ws ns = 0
  · have hg := validE_good hv
    obtain ⟨g1, g2, g3, g4⟩ := hg
    have Hg := Lib.hid (And.intro g3 g4)
    have hvb : (validE ws ns != 0) = false := by simpa using hv
    have Hv := Lib.hid hv
    clear g3 g4 hv
    obtain ⟨ve, hve⟩ : ∃ ve, Hid (validE ws ns = ve) := ⟨_, rfl⟩
    rw [hve.out] at hvb
    rw [hve.out]
    by_cases hs0 : s < 0
    · have hE7 : atE ws ns cs s = 7 := by rw [atE, if_neg (by rw [Hv.out]; simp), if_pos (.inl hs0)]
      have HE := Lib.hid (Hend.out 7 hE7 (by omega) _ HbZ.out)
      clear hE7
      go_wp2_with fail
      exact bodyPost_ret (v := .tuple #[.agg #[.slice none 0 0, .slice none 0 0], .int .i64 7]) (by simp [results, Try.results36, go_sem, hz0, hz1]) rfl HE.out
    · by_cases hs1 : (cs.length : Int) ≤ s
      · have hE7 : atE ws ns cs s = 7 := by rw [atE, if_neg (by rw [Hv.out]; simp), if_pos (.inr hs1)]
        have HE := Lib.hid (Hend.out 7 hE7 (by omega) _ HbZ.out)
        clear hE7
        go_wp2_with fail
        exact bodyPost_ret (v := .tuple #[.agg #[.slice none 0 0, .slice none 0 0], .int .i64 7]) (by simp [results, Try.results36, go_sem, hz0, hz1]) rfl HE.out
      · obtain ⟨k, rfl⟩ : ∃ k : Nat, s = k := ⟨s.toNat, by omega⟩
        have hk : k < cs.length := by omega
        obtain ⟨b1, o1, B2, c2, l, rfl, hcl, hsi, hx⟩ := (hE.below Hb1.out).get hk
        have hgl : cs.getD ((k : Nat) : Int).toNat [] = l := by rw [Int.toNat_natCast, List.getD, hx.out]; rfl
        have hll := hl4 l (List.mem_of_getElem? hx.out)
        have hEl := Lib.hid (show atE ws ns cs k = if listE ws.length l ≠ 0 then listE ws.length l else if overB ws ns l then 4 else 0 by rw [atE, if_neg (by rw [Hv.out]; simp), if_neg (by omega), hgl])
        have hWat := Lib.hid (show atW ws ns cs k = if atE ws ns cs k = 0 then qW ws l else [] by rw [atW, hgl])
        have hNat := Lib.hid (show atN ws ns cs k = if atE ws ns cs k = 0 then qN ns l else [] by rw [atN, hgl])
        have hc0 : w1.cell? ⟨w.heap.size, 0, none⟩ = some (.slice A ws.length c) := Hbk1.out.cell 0
        have hc1 : w1.cell? ⟨w.heap.size, 1, none⟩ = some (.slice B ns.length d) := Hbk1.out.cell 1
        have hli := list_any A B B2 c d c2 ws.length ns.length l w1 hsi (by omega) hl1
        have Hli := Lib.hid hli
        have Hsi := Lib.hid hsi
        have hkb1 := Hbk1.out.lt
        have hrb1 := Hbr1.out.lt
        have hcb1 := Hbc1.out.lt
        clear hli hsi hgl hx hs0 hs1
        have j0 : (0 : Int) ≤ (k : Int) := by omega
        clear hr0 hr1 hf0 hf1 hz0 hz1 HbZ
        go_wp2_with fail
        refine Hli.out.mono ?_
        rintro e w2 ⟨rfl, hb2⟩
        have Hbr2 := Lib.hid (Hbr1.out.below hb2 hrb1)
        have Hbk2 := Lib.hid (Hbk1.out.below hb2 hkb1)
        have Hsi2 := Lib.hid (SI.below Hsi.out hb2)
        have Hb2 := Lib.hid (Hb1.out.trans (hb2.mono Hb1.out.size))
        clear hb2 hc0 hc1 hcl hch hkb1 hrb1 hcb1 Hbk1 Hbr1 Hbc1 Hsi Hb1 Hli
        by_cases hle : listE ws.length l = 0
        · have hgood := listE_good hle
          have hlen : Hid (l.length = ws.length) := Lib.hid hgood.1
          have hG := Lib.hid (good_of hgood.2.1)
          have hEl2 : Hid (atE ws ns cs k = if overB ws ns l then 4 else 0) := by show _ = _; rw [hEl.out, if_neg (by simp [hle])]
          have hlb : (listE ws.length l != 0) = false := by simpa using hle
          clear hgood hle hEl
          obtain ⟨le, hle⟩ : ∃ le, Hid (listE ws.length l = le) := ⟨_, rfl⟩
          rw [hle.out] at hlb
          rw [hle.out]
          have hgO := Bk.new w2 31 #[.slice none 0 0, .slice none 0 0]
          have hbO := (Below.refl w2.heap.size w2).alloc (Nat.le_refl _) (.cells #[.slice none 0 0, .slice none 0 0] 31)
          have HgO := Lib.hid hgO
          have HbO := Lib.hid hbO
          clear hgO hbO
          have hkw := Hb2.out.size
          have hkk := Hbk2.out.lt
          have hkr := Hbr2.out.lt
          have HKb := Lib.hid (fun W (hW : Below w2.heap.size w2 W) => Hbk2.out.below hW hkk)
          have HKr := Lib.hid (fun W (hW : Below w2.heap.size w2 W) => Hbr2.out.below hW hkr)
          have HKl := Lib.hid (fun W (hW : Below w2.heap.size w2 W) => Hsi2.out.below hW)
          have HbW := Lib.hid (fun W (hW : Below w2.heap.size w2 W) => Hb2.out.trans (hW.mono hkw))
          clear Hsi2 Hbk2 Hbr2
          go_wp2_with fail
          generalize w2.alloc (.cells #[.slice none 0 0, .slice none 0 0] 31) = W5 at *
          obtain ⟨gO, hgO⟩ : ∃ gO, w2.heap.size = gO := ⟨_, rfl⟩
          rw [hgO] at hkk hkr hkw HgO HbO HKb HKr HKl HbW
          rw [hgO]
          clear hgO Hb2
          go_loopw [52] (fun i wr => ∃ (k2 : Nat) (v1 : Value), k2 ≤ l.length ∧ i = .int .i64 k2 ∧ Bk wr gO 31 #[v1, .slice none 0 0] ∧ wr.ownsRow gO 3 1 v1 (gk l k2) ((wTo ws l k2).map (Value.int .i64)) ∧ Below gO w2 wr) (fun i _ => l.length - (intOf i).toNat)
          case atStart => exact ⟨0, _, by omega, rfl, HgO.out, World.ownsRow_nil _ _ _ _, HbO.out⟩
          case round =>
            clear HgO HbO
            obtain ⟨k2, v1, hk2, rfl, hgo, ho1, hbq⟩ := hrel
            have hbqs := hbq.size
            by_cases hlt : k2 < l.length
            · obtain ⟨b3, o3, x, rfl, hcx, hx⟩ := (HKl.out wr hbq).get (k := k2) hlt
              have hxg : l.getD k2 0 = x := by rw [List.getD, hx.out]; rfl
              have hxb := hG.out k2 hlt
              rw [hxg] at hxb
              obtain ⟨n, rfl⟩ := Int.eq_ofNat_of_zero_le hxb.1
              have hng : n ≤ gk l k2 := by omega
              obtain ⟨b4, o4, y, rfl, hcy, hy⟩ := (hA.below (HbW.out wr hbq)).get (k := k2) (by have := hlen.out; omega)
              have hyg : ws.getD k2 0 = y := by rw [List.getD, hy.out]; rfl
              have hyb := Hg.out.1.getD k2
              rw [hyg] at hyb
              have hyz := weightTo_bd (of := l) (g := (n : Int)) Hg.out.1 k2
              have hst := wTo_succ ws hG.out hlt hxg hyg
              have hk4 : k2 < ws.length := by have := hlen.out; omega
              have HG2 := Lib.hid (show gk l (k2 + 1) = if (n : Int) = (gk l k2 : Int) then gk l k2 + 1 else gk l k2 by rw [gk, hxg])
              have hTl : Hid ((wTo ws l k2).length = gk l k2) := Lib.hid (wTo_len ws l k2)
              have hTn : Hid (n < gk l k2 → (wTo ws l k2)[n]? = some (weightTo ws l n k2)) := Lib.hid (fun h => by simp [wTo, h])
              have hgle := gk_le l k2
              have Hst := Lib.hid hst
              have Hyc := Lib.hid (fun W (hW : Below gO w2 W) => (show W.cell? ⟨b4, o4 + k2, none⟩ = some (.int .i64 y) from by
                obtain ⟨b5, o5, y2, he, hc5, hy5⟩ := (hA.below (HbW.out W hW)).get (k := k2) hk4
                cases he
                have := hy.out.symm.trans hy5.out
                injection this with this
                subst this
                exact hc5))
              have hws4 : k2 < 4096 := by omega
              clear hxg hyg hst hx hy hcy hxb
              generalize weightTo ws l n k2 = zz at *
              generalize wTo ws l k2 = T at *
              generalize gk l k2 = G2 at *
              have Hgo := Lib.hid hgo
              have Ho1 := Lib.hid ho1
              have Hbq := Lib.hid hbq
              have hc0 : wr.cell? ⟨gO, 0, none⟩ = some v1 := Hgo.out.cell 0
              clear hgo ho1 hbq
              by_cases hnG : n = G2
              · obtain rfl := hnG
                have hmg : n + 1 = gk l (k2 + 1) := by rw [HG2.out, if_pos rfl]
                have hHm : wTo ws l (k2 + 1) = (T ++ [0]).set n (0 + y) := by
                  rw [Hst.out, ← hmg, Nat.add_sub_cancel_left]
                  have e : (T ++ List.replicate 1 0).getD n 0 = 0 := by
                    rw [List.getD, List.getElem?_append_right (by have := hTl.out; omega)]
                    have := hTl.out
                    simp [this]
                  rw [e]
                  rfl
                have hLn : Hid ((T ++ [0])[n]? = some 0) := by
                  show _ = _
                  have := hTl.out
                  rw [List.getElem?_append_right (by omega), this, Nat.sub_self]
                  rfl
                have Hm := Lib.hid hHm
                have Hmg := Lib.hid hmg
                clear hHm HG2 Hst hTn hTl hmg
                obtain ⟨A1, c1, rfl⟩ := own_slice Ho1.out
                have hrow := Hgo.out.ne_own Ho1.out (by decide)
                have ho1 := Ho1.out
                have hgs : gO ≤ wr.heap.size := by have := Hgo.out.lt; omega
                go_wp2_with (at_builtin; refine wpList_app2 (w := wr) rfl _ _ rfl elt_int ho1 hgs rfl rfl (by simp) rfl rfl (by omega) ?_; intro v7 w7 hown7 hg7 hz7; obtain ⟨gv, cv, rfl, _⟩ := hown7.form (Nat.succ_pos _); have hg8 := Hgo.out.grown hg7 hrow; have hq0 : w7.cell? ⟨gO, 0, none⟩ = some (.slice A1 n c1) := hg8.cell 0; have hq1 := hg8.frozen 0; have Hg8 := Lib.hid hg8; clear hg8)
                obtain ⟨m, hm⟩ : ∃ m, n + 1 = m := ⟨_, rfl⟩
                have hgo8 := Hg8.out.set_ 0 (.slice (some ⟨gv, 0, none⟩) (n + 1) cv)
                have ho8 := own_set (i := 0) hown7 (Hg8.out.ne_own hown7 (by decide)) (.slice (some ⟨gv, 0, none⟩) (n + 1) cv)
                have hb8 := (Hbq.out.grown hg7 hgs (fun k hk => (ho1.lt k hk).1)).setCell (p := ⟨gO, 0, none⟩) (Nat.le_refl _) (.slice (some ⟨gv, 0, none⟩) (n + 1) cv)
                have hmg : m = gk l (k2 + 1) := by rw [← Hmg.out, hm]
                have hnm : n < m := by omega
                obtain ⟨z, hz0⟩ : ∃ z : Int, (0 : Int) = z := ⟨_, rfl⟩
                rw [show [Value.int .i64 0] = [(0 : Int)].map (Value.int .i64) from rfl, ← List.map_append] at ho8
                generalize hLm : T ++ [(0 : Int)] = Lm at *
                rw [hz0] at hLn Hm
                rw [hm] at hgo8 ho8 hb8
                rw [hm]
                have hzb : -1 ≤ z ∧ z ≤ 4503599627370496 := by omega
                have Hmg2 := Lib.hid hmg
                clear hmg hLm hz0 hm
                generalize w7.setCell ⟨gO, 0, none⟩ (.slice (some ⟨gv, 0, none⟩) m cv) = W8 at *
                have Hgo8 := Lib.hid hgo8
                have Ho8 := Lib.hid ho8
                have Hb8 := Lib.hid hb8
                clear hgo8 ho8 hb8 hown7 hg7 hz7 hq0 hq1 hc0 hrow ho1 hgs Hg8 Hgo Ho1 Hbq Hmg hcx
                have h0c : W8.cell? ⟨gO, 0, none⟩ = some (.slice (some ⟨gv, 0, none⟩) m cv) := Hgo8.out.cell 0
                have h1c : W8.cell? ⟨gv, n, none⟩ = some (.int .i64 z) := own_at1 Ho8.out hLn.out
                have h1f : W8.frozen? ⟨gv, n, none⟩ = false := by obtain ⟨cur, hcur, _⟩ := own_bk Ho8.out; exact hcur.frozen n
                have h2c : W8.cell? ⟨w.heap.size, 0, none⟩ = some (.slice (some ⟨b4, o4, none⟩) ws.length c) := (HKb.out _ Hb8.out).cell 0
                have h3c : W8.cell? ⟨b4, o4 + k2, none⟩ = some (.int .i64 y) := Hyc.out _ Hb8.out
                have hwrap : IntKind.i64.wrap (z + y) = z + y := IntWalk.i64_in _ (by omega)
                have h1d : W8.drew.cell? ⟨gv, n, none⟩ = some (.int .i64 z) := h1c
                have h1g : W8.drew.frozen? ⟨gv, n, none⟩ = false := h1f
                have HS0 := Lib.hid (And.intro (show W8.drew.cell? ⟨gO, 0, none⟩ = some (.slice (some ⟨gv, 0, none⟩) m cv) from h0c) (And.intro (show W8.drew.cell? ⟨gv, n, none⟩ = some (.int .i64 z) from h1c) (And.intro (show W8.drew.cell? ⟨w.heap.size, 0, none⟩ = some (.slice (some ⟨b4, o4, none⟩) ws.length c) from h2c) (show W8.drew.cell? ⟨b4, o4 + k2, none⟩ = some (.int .i64 y) from h3c))))
                refine wp_region_noPanic ?_
                refine region_T (s := 12) (S := fun W => W.cell? ⟨gO, 0, none⟩ = some (.slice (some ⟨gv, 0, none⟩) m cv) ∧ W.cell? ⟨gv, n, none⟩ = some (.int .i64 z) ∧ W.cell? ⟨w.heap.size, 0, none⟩ = some (.slice (some ⟨b4, o4, none⟩) ws.length c) ∧ W.cell? ⟨b4, o4 + k2, none⟩ = some (.int .i64 y)) (by kernel_rfl) ?_
                change wpT _ _ _ _ _ 13 _ _ W8.drew
                refine T_take (k := 0) (v := .pointer (some ⟨gO, 0, none⟩)) rfl (by decide +kernel) (fun _ _ _ h => h) (Or.inl ⟨by rfl, fun W hW => by obtain ⟨s0, s1, s2, s3⟩ := hW; go_simp⟩) HS0.out ?_
                try simp only [Act.put, List.setIfInBounds_toArray, List.set_cons_zero, List.set_cons_succ]
                refine T_take (k := 1) (v := .slice (some ⟨gv, 0, none⟩) m cv) rfl (by decide +kernel) (fun _ _ _ h => h) (Or.inl ⟨by rfl, fun W hW => by obtain ⟨s0, s1, s2, s3⟩ := hW; go_simp⟩) HS0.out ?_
                try simp only [Act.put, List.setIfInBounds_toArray, List.set_cons_zero, List.set_cons_succ]
                refine T_take (k := 2) (v := .int .i64 n) rfl (by decide +kernel) (fun _ _ _ h => h) (Or.inl ⟨by rfl, fun W hW => by obtain ⟨s0, s1, s2, s3⟩ := hW; go_simp⟩) HS0.out ?_
                try simp only [Act.put, List.setIfInBounds_toArray, List.set_cons_zero, List.set_cons_succ]
                refine T_take (k := 3) (v := .pointer (some ⟨gv, n, none⟩)) rfl (by decide +kernel) (fun _ _ _ h => h) (Or.inl ⟨by rfl, fun W hW => by obtain ⟨s0, s1, s2, s3⟩ := hW; go_simp⟩) HS0.out ?_
                try simp only [Act.put, List.setIfInBounds_toArray, List.set_cons_zero, List.set_cons_succ]
                refine T_take (k := 4) (v := .int .i64 z) rfl (by decide +kernel) (fun _ _ _ h => h) (Or.inl ⟨by rfl, fun W hW => by obtain ⟨s0, s1, s2, s3⟩ := hW; go_simp⟩) HS0.out ?_
                try simp only [Act.put, List.setIfInBounds_toArray, List.set_cons_zero, List.set_cons_succ]
                refine T_take (k := 5) (v := .pointer (some ⟨w.heap.size, 0, none⟩)) rfl (by decide +kernel) (fun _ _ _ h => h) (Or.inl ⟨by rfl, fun W hW => by obtain ⟨s0, s1, s2, s3⟩ := hW; go_simp⟩) HS0.out ?_
                try simp only [Act.put, List.setIfInBounds_toArray, List.set_cons_zero, List.set_cons_succ]
                refine T_take (k := 6) (v := .slice (some ⟨b4, o4, none⟩) ws.length c) rfl (by decide +kernel) (fun _ _ _ h => h) (Or.inl ⟨by rfl, fun W hW => by obtain ⟨s0, s1, s2, s3⟩ := hW; go_simp⟩) HS0.out ?_
                try simp only [Act.put, List.setIfInBounds_toArray, List.set_cons_zero, List.set_cons_succ]
                refine T_take (k := 7) (v := .int .i64 k2) rfl (by decide +kernel) (fun _ _ _ h => h) (Or.inl ⟨by rfl, fun W hW => by obtain ⟨s0, s1, s2, s3⟩ := hW; go_simp⟩) HS0.out ?_
                try simp only [Act.put, List.setIfInBounds_toArray, List.set_cons_zero, List.set_cons_succ]
                refine T_take (k := 8) (v := .pointer (some ⟨b4, o4 + k2, none⟩)) rfl (by decide +kernel) (fun _ _ _ h => h) (Or.inl ⟨by rfl, fun W hW => by obtain ⟨s0, s1, s2, s3⟩ := hW; go_simp⟩) HS0.out ?_
                try simp only [Act.put, List.setIfInBounds_toArray, List.set_cons_zero, List.set_cons_succ]
                refine T_take (k := 9) (v := .int .i64 y) rfl (by decide +kernel) (fun _ _ _ h => h) (Or.inl ⟨by rfl, fun W hW => by obtain ⟨s0, s1, s2, s3⟩ := hW; go_simp⟩) HS0.out ?_
                try simp only [Act.put, List.setIfInBounds_toArray, List.set_cons_zero, List.set_cons_succ]
                refine T_take (k := 10) (v := .int .i64 (z + y)) rfl (by decide +kernel) (fun _ _ _ h => h) (Or.inl ⟨by rfl, fun W hW => by obtain ⟨s0, s1, s2, s3⟩ := hW; go_simp⟩) HS0.out ?_
                try simp only [Act.put, List.setIfInBounds_toArray, List.set_cons_zero, List.set_cons_succ]
                refine T_take (k := 11) (v := .pointer (some ⟨gv, n, none⟩)) rfl (by decide +kernel) (fun _ _ _ h => h) (Or.inl ⟨by rfl, fun W hW => by obtain ⟨s0, s1, s2, s3⟩ := hW; go_simp⟩) HS0.out ?_
                try simp only [Act.put, List.setIfInBounds_toArray, List.set_cons_zero, List.set_cons_succ]
                clear HS0 h0c h1c h1f h2c h3c
                refine T_last (by decide +kernel) (by decide +kernel) (by decide +kernel) rfl rfl (fun K3 hK3 => ?_)
                have hK3 := Lib.hid hK3
                go_simp
                refine hK3.out _ _ (NoPanic.normal ?_)
                try simp only [Act.put, List.setIfInBounds_toArray, List.set_cons_zero, List.set_cons_succ]
                clear hK3 h1d h1g hwrap
                have hne := Hgo8.out.ne_own Ho8.out (by decide)
                have hgv := (Ho8.out.lt gv rfl).1
                have ho9 := own_put (i := n) (own_qt Ho8.out ⟨1, rfl⟩ : W8.drew.ownsRow _ _ _ _ _ _) (.int .i64 (z + y))
                rw [← List.map_set, ← Hm.out] at ho9
                have hgo9 := (show Bk W8.drew gO 31 _ from Hgo8.out).far (p := ⟨gv, n, none⟩) (fun e => hne (by simp [Value.ownBlock, e])) (.int .i64 (z + y))
                have hb9 := Hb8.out.drew.setCell (p := ⟨gv, n, none⟩) hgv (.int .i64 (z + y))
                go_wp2_with fail
                go_roundw
                case rel => exact ⟨k2 + 1, _, by omega, by go_num, hgo9, by rw [← Hmg2.out]; exact ho9, hb9⟩
                case measure => simp [intOf]; omega
              · have hlt2 : n < G2 := by omega
                have hmg : G2 = gk l (k2 + 1) := by rw [HG2.out, if_neg (by omega)]
                have hHm : wTo ws l (k2 + 1) = T.set n (zz + y) := by
                  rw [Hst.out, ← hmg, Nat.sub_self, List.replicate_zero, List.append_nil, List.getD, hTn.out hlt2]
                  rfl
                have hLn := Lib.hid (hTn.out hlt2)
                have Hm := Lib.hid hHm
                have Hmg2 := Lib.hid hmg
                clear hHm HG2 Hst hTn hTl hmg
                obtain ⟨gv, cv, rfl, _⟩ := Ho1.out.form (by omega)
                have hnb : ((n : Int) == (G2 : Int)) = false := by rw [beq_eq_false_iff_ne]; omega
                have hzb : -1 ≤ zz ∧ zz ≤ 4503599627370496 := by omega
                go_wp2_with fail
                clear hnb hc0 hcx
                obtain ⟨W8, rfl⟩ : ∃ x, x = wr := ⟨wr, rfl⟩
                obtain ⟨z, rfl⟩ : ∃ x, x = zz := ⟨zz, rfl⟩
                obtain ⟨m, rfl⟩ : ∃ x, x = G2 := ⟨G2, rfl⟩
                obtain ⟨Lm, rfl⟩ : ∃ x, x = T := ⟨T, rfl⟩
                have hnm : n < m := hlt2
                have Hgo8 := Hgo
                have Ho8 := Ho1
                have Hb8 := Hbq
                clear Hgo Ho1 Hbq
                have h0c : W8.cell? ⟨gO, 0, none⟩ = some (.slice (some ⟨gv, 0, none⟩) m cv) := Hgo8.out.cell 0
                have h1c : W8.cell? ⟨gv, n, none⟩ = some (.int .i64 z) := own_at1 Ho8.out hLn.out
                have h1f : W8.frozen? ⟨gv, n, none⟩ = false := by obtain ⟨cur, hcur, _⟩ := own_bk Ho8.out; exact hcur.frozen n
                have h2c : W8.cell? ⟨w.heap.size, 0, none⟩ = some (.slice (some ⟨b4, o4, none⟩) ws.length c) := (HKb.out _ Hb8.out).cell 0
                have h3c : W8.cell? ⟨b4, o4 + k2, none⟩ = some (.int .i64 y) := Hyc.out _ Hb8.out
                have hwrap : IntKind.i64.wrap (z + y) = z + y := IntWalk.i64_in _ (by omega)
                have h1d : W8.drew.cell? ⟨gv, n, none⟩ = some (.int .i64 z) := h1c
                have h1g : W8.drew.frozen? ⟨gv, n, none⟩ = false := h1f
                have HS0 := Lib.hid (And.intro (show W8.drew.cell? ⟨gO, 0, none⟩ = some (.slice (some ⟨gv, 0, none⟩) m cv) from h0c) (And.intro (show W8.drew.cell? ⟨gv, n, none⟩ = some (.int .i64 z) from h1c) (And.intro (show W8.drew.cell? ⟨w.heap.size, 0, none⟩ = some (.slice (some ⟨b4, o4, none⟩) ws.length c) from h2c) (show W8.drew.cell? ⟨b4, o4 + k2, none⟩ = some (.int .i64 y) from h3c))))
                refine wp_region_noPanic ?_
                refine region_T (s := 12) (S := fun W => W.cell? ⟨gO, 0, none⟩ = some (.slice (some ⟨gv, 0, none⟩) m cv) ∧ W.cell? ⟨gv, n, none⟩ = some (.int .i64 z) ∧ W.cell? ⟨w.heap.size, 0, none⟩ = some (.slice (some ⟨b4, o4, none⟩) ws.length c) ∧ W.cell? ⟨b4, o4 + k2, none⟩ = some (.int .i64 y)) (by kernel_rfl) ?_
                change wpT _ _ _ _ _ 13 _ _ W8.drew
                refine T_take (k := 0) (v := .pointer (some ⟨gO, 0, none⟩)) rfl (by decide +kernel) (fun _ _ _ h => h) (Or.inl ⟨by rfl, fun W hW => by obtain ⟨s0, s1, s2, s3⟩ := hW; go_simp⟩) HS0.out ?_
                try simp only [Act.put, List.setIfInBounds_toArray, List.set_cons_zero, List.set_cons_succ]
                refine T_take (k := 1) (v := .slice (some ⟨gv, 0, none⟩) m cv) rfl (by decide +kernel) (fun _ _ _ h => h) (Or.inl ⟨by rfl, fun W hW => by obtain ⟨s0, s1, s2, s3⟩ := hW; go_simp⟩) HS0.out ?_
                try simp only [Act.put, List.setIfInBounds_toArray, List.set_cons_zero, List.set_cons_succ]
                refine T_take (k := 2) (v := .int .i64 n) rfl (by decide +kernel) (fun _ _ _ h => h) (Or.inl ⟨by rfl, fun W hW => by obtain ⟨s0, s1, s2, s3⟩ := hW; go_simp⟩) HS0.out ?_
                try simp only [Act.put, List.setIfInBounds_toArray, List.set_cons_zero, List.set_cons_succ]
                refine T_take (k := 3) (v := .pointer (some ⟨gv, n, none⟩)) rfl (by decide +kernel) (fun _ _ _ h => h) (Or.inl ⟨by rfl, fun W hW => by obtain ⟨s0, s1, s2, s3⟩ := hW; go_simp⟩) HS0.out ?_
                try simp only [Act.put, List.setIfInBounds_toArray, List.set_cons_zero, List.set_cons_succ]
                refine T_take (k := 4) (v := .int .i64 z) rfl (by decide +kernel) (fun _ _ _ h => h) (Or.inl ⟨by rfl, fun W hW => by obtain ⟨s0, s1, s2, s3⟩ := hW; go_simp⟩) HS0.out ?_
                try simp only [Act.put, List.setIfInBounds_toArray, List.set_cons_zero, List.set_cons_succ]
                refine T_take (k := 5) (v := .pointer (some ⟨w.heap.size, 0, none⟩)) rfl (by decide +kernel) (fun _ _ _ h => h) (Or.inl ⟨by rfl, fun W hW => by obtain ⟨s0, s1, s2, s3⟩ := hW; go_simp⟩) HS0.out ?_
                try simp only [Act.put, List.setIfInBounds_toArray, List.set_cons_zero, List.set_cons_succ]
                refine T_take (k := 6) (v := .slice (some ⟨b4, o4, none⟩) ws.length c) rfl (by decide +kernel) (fun _ _ _ h => h) (Or.inl ⟨by rfl, fun W hW => by obtain ⟨s0, s1, s2, s3⟩ := hW; go_simp⟩) HS0.out ?_
                try simp only [Act.put, List.setIfInBounds_toArray, List.set_cons_zero, List.set_cons_succ]
                refine T_take (k := 7) (v := .int .i64 k2) rfl (by decide +kernel) (fun _ _ _ h => h) (Or.inl ⟨by rfl, fun W hW => by obtain ⟨s0, s1, s2, s3⟩ := hW; go_simp⟩) HS0.out ?_
                try simp only [Act.put, List.setIfInBounds_toArray, List.set_cons_zero, List.set_cons_succ]
                refine T_take (k := 8) (v := .pointer (some ⟨b4, o4 + k2, none⟩)) rfl (by decide +kernel) (fun _ _ _ h => h) (Or.inl ⟨by rfl, fun W hW => by obtain ⟨s0, s1, s2, s3⟩ := hW; go_simp⟩) HS0.out ?_
                try simp only [Act.put, List.setIfInBounds_toArray, List.set_cons_zero, List.set_cons_succ]
                refine T_take (k := 9) (v := .int .i64 y) rfl (by decide +kernel) (fun _ _ _ h => h) (Or.inl ⟨by rfl, fun W hW => by obtain ⟨s0, s1, s2, s3⟩ := hW; go_simp⟩) HS0.out ?_
                try simp only [Act.put, List.setIfInBounds_toArray, List.set_cons_zero, List.set_cons_succ]
                refine T_take (k := 10) (v := .int .i64 (z + y)) rfl (by decide +kernel) (fun _ _ _ h => h) (Or.inl ⟨by rfl, fun W hW => by obtain ⟨s0, s1, s2, s3⟩ := hW; go_simp⟩) HS0.out ?_
                try simp only [Act.put, List.setIfInBounds_toArray, List.set_cons_zero, List.set_cons_succ]
                refine T_take (k := 11) (v := .pointer (some ⟨gv, n, none⟩)) rfl (by decide +kernel) (fun _ _ _ h => h) (Or.inl ⟨by rfl, fun W hW => by obtain ⟨s0, s1, s2, s3⟩ := hW; go_simp⟩) HS0.out ?_
                try simp only [Act.put, List.setIfInBounds_toArray, List.set_cons_zero, List.set_cons_succ]
                clear HS0 h0c h1c h1f h2c h3c
                refine T_last (by decide +kernel) (by decide +kernel) (by decide +kernel) rfl rfl (fun K3 hK3 => ?_)
                have hK3 := Lib.hid hK3
                go_simp
                refine hK3.out _ _ (NoPanic.normal ?_)
                try simp only [Act.put, List.setIfInBounds_toArray, List.set_cons_zero, List.set_cons_succ]
                clear hK3 h1d h1g hwrap
                have hne := Hgo8.out.ne_own Ho8.out (by decide)
                have hgv := (Ho8.out.lt gv rfl).1
                have ho9 := own_put (i := n) (own_qt Ho8.out ⟨1, rfl⟩ : W8.drew.ownsRow _ _ _ _ _ _) (.int .i64 (z + y))
                rw [← List.map_set, ← Hm.out] at ho9
                have hgo9 := (show Bk W8.drew gO 31 _ from Hgo8.out).far (p := ⟨gv, n, none⟩) (fun e => hne (by simp [Value.ownBlock, e])) (.int .i64 (z + y))
                have hb9 := Hb8.out.drew.setCell (p := ⟨gv, n, none⟩) hgv (.int .i64 (z + y))
                go_wp2_with fail
                go_roundw
                case rel => exact ⟨k2 + 1, _, by omega, by go_num, hgo9, by rw [← Hmg2.out]; exact ho9, hb9⟩
                case measure => simp [intOf]; omega
            · obtain rfl : k2 = l.length := by omega
              obtain ⟨wA, rfl⟩ : ∃ x, x = wr := ⟨wr, rfl⟩
              have Hqw := Lib.hid (show wTo ws l l.length = qW ws l from rfl)
              rw [Hqw.out] at ho1
              obtain ⟨G, hGd⟩ : ∃ G, gk l l.length = G := ⟨_, rfl⟩
              have hgG := gk_le l l.length
              have hgB := fun j (hj : j < l.length) => gk_lt hG.out hj hj
              rw [hGd] at ho1 hgG hgB
              have HGd := Lib.hid hGd
              have HgB := Lib.hid hgB
              clear hGd hgB
              have hN : NOK l.length ns := Hg.out.2.len hlen.out.symm
              have hlw : l.length ≤ 4096 := by have := hlen.out; omega
              have hgoA := hgo.lt
              have Hgo := Lib.hid hgo
              have Ho1 := Lib.hid ho1
              have Hbq := Lib.hid hbq
              have HN := Lib.hid hN
              have hgAs : gO ≤ wA.heap.size := by omega
              clear hgo ho1 hbq hlt hk2 hN
              have hmm := @run_makeMap Try.prog
              have hcg : (wA.alloc (.map #[] 0)).cell? ⟨w.heap.size, 1, none⟩ = some (.slice B ns.length d) := (HKb.out _ (Hbq.out.alloc hgAs (.map #[] 0))).cell 1
              go_wp2_with fail
              clear hmm hcg
              have hmn0 := MapF.new pV iV Try.prog 47 wA
              have hbM0 := (Below.refl wA.heap.size wA).alloc (Nat.le_refl _) (.map #[] 0)
              have e0 : nearL ns l 0 = fun _ => none := by funext q; simp [nearL, commonTo]
              rw [← e0] at hmn0
              generalize wA.alloc (.map #[] 0) = W6 at *
              obtain ⟨rn, hrn⟩ : ∃ rn, wA.heap.size = rn := ⟨_, rfl⟩
              have HbA := Lib.hid (fun W (hW : Below rn wA W) => Hbq.out.trans (hW.mono (by omega)))
              rw [hrn] at hmn0 hbM0 hgAs hgoA
              rw [hrn]
              have Hmn := Lib.hid hmn0
              have HbM := Lib.hid hbM0
              have hrnO := Lib.hid hrn
              have hkn : w.heap.size ≤ rn := by omega
              clear hmn0 hbM0 e0 hrn
              go_loopw [84] (fun i wr => ∃ (i' nn : Nat), i' ≤ ns.length ∧ i = .int .i64 i' ∧ nn ≤ i' ∧ MapF pV iV Try.prog 47 wr rn (nearL ns l i') nn ∧ Below rn wA wr) (fun i _ => ns.length - (intOf i).toNat)
              case atStart => exact ⟨0, 0, by omega, rfl, Nat.le_refl _, Hmn.out, HbM.out⟩
              case round =>
                clear Hmn HbM
                obtain ⟨i, nn, hi, rfl, hnn, hmn, hb⟩ := hrel
                by_cases hlt2 : i < ns.length
                · obtain ⟨b5, o5, x, y, z, rfl, hc0, hc1, hc2, ht⟩ := (hB.below (HbW.out _ (HbA.out wr hb))).get hlt2
                  obtain ⟨hx1, hx2, hy1, hy2, hz1, hz2⟩ := HN.out.at ht.out
                  dsimp only at hx1 hx2 hy1 hy2 hz1 hz2
                  obtain ⟨x, rfl⟩ := Int.eq_ofNat_of_zero_le hx1
                  obtain ⟨y, rfl⟩ := Int.eq_ofNat_of_zero_le hy1
                  have hxl : x < l.length := by omega
                  have hyl : y < l.length := by omega
                  have hab1 := HgB.out x hxl
                  have hab2 := HgB.out y hyl
                  have hgx : l[x]? = some (l.getD x 0) := by rw [List.getD, List.getElem?_eq_getElem hxl]; rfl
                  have hgy : l[y]? = some (l.getD y 0) := by rw [List.getD, List.getElem?_eq_getElem hyl]; rfl
                  obtain ⟨a, ha⟩ : ∃ a, l.getD x 0 = a := ⟨_, rfl⟩
                  obtain ⟨b, hb'⟩ : ∃ b, l.getD y 0 = b := ⟨_, rfl⟩
                  rw [ha] at hab1 hgx
                  rw [hb'] at hab2 hgy
                  have hga := Lib.hid ha
                  have hgb := Lib.hid hb'
                  have Hgx := Lib.hid hgx
                  have Hgy := Lib.hid hgy
                  clear ha hb' hgx hgy
                  obtain ⟨ha1, ha2⟩ := hab1
                  obtain ⟨hb1', hb2'⟩ := hab2
                  have j0 : (0 : Int) ≤ (x : Int) := by omega
                  have j1 : (0 : Int) ≤ (y : Int) := by omega
                  have hrs : rn ≤ wr.heap.size := by have := hb.size; have := hrnO.out; omega
                  go_wp2_with fail
                  clear hc0 hc1 hc2
                  have hat := Bk.new wr 52 #[.int .i64 (x : Nat), .int .i64 (y : Nat), .int .i64 z]
                  have hmn1 := hmn.alloc (.cells #[.int .i64 (x : Nat), .int .i64 (y : Nat), .int .i64 z] 52)
                  have Hb1 := Lib.hid (hb.alloc hrs (.cells #[.int .i64 (x : Nat), .int .i64 (y : Nat), .int .i64 z] 52))
                  clear hmn hb
                  generalize wr.alloc (.cells #[.int .i64 (x : Nat), .int .i64 (y : Nat), .int .i64 z] 52) = W1 at hat hmn1 Hb1 ⊢
                  generalize wr.heap.size = t at hat ⊢
                  have hlk : ∀ W, Below rn wA W → ∀ (j : Nat) (v : Int), l[j]? = some v → ∃ b o, B2 = some ⟨b, o, none⟩ ∧ W.cell? ⟨b, o + j, none⟩ = some (.int .i64 v) := fun W hW j v hj => by
                    obtain ⟨b, o, x2, e, hc, hx⟩ := (HKl.out W (HbA.out W hW)).get (k := j) (List.getElem?_eq_some_iff.1 hj).1
                    have := hx.out.symm.trans hj
                    injection this with this
                    subst this
                    exact ⟨b, o, e, hc⟩
                  obtain ⟨b6, o6, rfl, hq3⟩ := hlk W1 Hb1.out x a Hgx.out
                  obtain ⟨b7, o7, he7, hq4⟩ := hlk W1 Hb1.out y b Hgy.out
                  cases he7
                  have hq1 : W1.cell? ⟨t, 0, none⟩ = some (.int .i64 (x : Nat)) := hat.cell 0
                  have hq2 : W1.cell? ⟨t, 1, none⟩ = some (.int .i64 (y : Nat)) := hat.cell 1
                  have Hat := Lib.hid hat
                  clear hat
                  go_quiet (fail)
                  clear hq1 hq2 hq3 hq4 hlk
                  have hqn : Qt W1 (W1.drewN nq) := ⟨nq, rfl⟩
                  generalize W1.drewN nq = W2 at hqn ⊢
                  have Ht2 := Lib.hid (Hat.out.qt hqn)
                  have hmn2 := hmn1.qt hqn
                  have Hb2 := Lib.hid (hqn.bl Hb1.out)
                  clear Hat hmn1 Hb1 hqn
                  by_cases hab : a = b
                  · have hbeq : (a != b) = false := by simpa using hab
                    have hsame := Lib.hid (nearL_same ht.out hga.out (hab ▸ hgb.out))
                    clear hab
                    go_wp2_with fail
                    go_roundw
                    case rel => exact ⟨i + 1, nn, by omega, by go_num, by omega, by rw [hsame.out]; exact hmn2, Hb2.out⟩
                    case measure => simp [intOf]; omega
                  · have hbeq : (a != b) = true := by simpa using hab
                    have hstep := nearL_step HN.out ht.out hga.out hgb.out hab
                    have hcb := commonTo_bd (of := l) (a := min a b) (b := max a b) HN.out i
                    have hgd := nearL_getD (of := l) HN.out i (p := (min a b, max a b)) (by show min a b < max a b; omega)
                    have hmi : ∀ (W : World) (ts : Array TypeId) (t : TypeId), (Builtin.min_ ts t #[.int .i64 a, .int .i64 b]).run Try.prog W = .ok (.int .i64 (min a b)) W := fun W ts t => Lib.run_min_ints W ts t .i64 .i64 a b
                    have hma : ∀ (W : World) (ts : Array TypeId) (t : TypeId), (Builtin.max_ ts t #[.int .i64 a, .int .i64 b]).run Try.prog W = .ok (.int .i64 (max a b)) W := fun W ts t => Lib.run_max_ints W ts t .i64 .i64 a b
                    have hmib : 0 ≤ min a b ∧ min a b ≤ 4096 ∧ 0 ≤ max a b ∧ max a b ≤ 4096 := by omega
                    obtain ⟨mi, hmie⟩ : ∃ mi, min a b = mi := ⟨_, rfl⟩
                    obtain ⟨ma, hmae⟩ : ∃ ma, max a b = ma := ⟨_, rfl⟩
                    rw [hmie] at hstep hcb hgd hmi hmib
                    rw [hmae] at hstep hcb hgd hma hmib
                    simp only at hgd
                    rw [hgd] at hstep
                    have Hstep := Lib.hid hstep
                    have hai : i64 mi := ⟨by omega, by omega⟩
                    have hbi : i64 ma := ⟨by omega, by omega⟩
                    have Hab := Lib.hid hab
                    clear hab hstep hmie hmae
                    go_wp2_with fail
                    have hgkw4 := good_pair (p := (mi, ma)) hai hbi
                    have hczw4 : W2.cell? ⟨t, 2, none⟩ = some (.int .i64 z) := Ht2.out.cell 2
                    have hlw4 : (Instr.lookup 116 (.map (some rn)) (.agg #[.int .i64 mi, .int .i64 ma]) false).run Try.prog W2.drew = .ok (.int .i64 (commonTo ns l mi ma i)) W2.drew := by
                      have := hmn2.drew.lookup inj_pV keyed_pair Try.underlying116 (zero_int W2.drew) hgkw4
                      rw [hgd] at this
                      exact this
                    obtain ⟨w4, st, hmew4, ht4, hm4, hst4⟩ := hmn2.drew.entry_ inj_pV keyed_pair Try.underlying116 (zero_int W2.drew) hgkw4
                    rw [hgd] at hmew4 hm4
                    have hlw5 : (Instr.lookup 116 (.map (some rn)) (.agg #[.int .i64 mi, .int .i64 ma]) false).run Try.prog w4 = .ok (.int .i64 (commonTo ns l mi ma i)) w4 := by
                      have := hm4.lookup inj_pV keyed_pair Try.underlying116 (zero_int w4) hgkw4
                      rw [show setF _ (mi, ma) _ (mi, ma) = some _ from if_pos rfl] at this
                      exact this
                    obtain ⟨w5, hesw5, hm5, ht5⟩ := hst4 116 w4 (commonTo ns l mi ma i + z) rfl
                    have hme' : (Instr.mapEntry 116 (.map (some rn)) (.agg #[.int .i64 mi, .int .i64 ma])).run Try.prog W2.drew = .ok (.tuple #[.int .i64 (commonTo ns l mi ma i), .int .i64 st]) w4 := hmew4
                    have hes' : (Instr.entryStore 116 (.map (some rn)) (.int .i64 st) (.int .i64 (commonTo ns l mi ma i + z))).run Try.prog w4 = .ok () w5 := hesw5
                    have ht45 := ht4.trans ht5
                    have hnt := hmn2.bk_ne Ht2.out
                    have hk4' : w4.cell? ⟨t, 2, none⟩ = some (.int .i64 z) := (ht4.cell (p := ⟨t, 2, none⟩) hnt).trans hczw4
                    have hk5' : w5.cell? ⟨t, 2, none⟩ = some (.int .i64 z) := (ht45.cell (p := ⟨t, 2, none⟩) hnt).trans hczw4
                    have Hb5 := Lib.hid (ht45.below Hb2.out.drew (Nat.le_refl _))
                    have hcnt : cnt (nearL ns l i) (mi, ma) nn ≤ i + 1 := by unfold cnt; split <;> omega
                    have Hm5 := Lib.hid hm5
                    clear hmew4 hesw5 hst4 hm5 ht4 ht5 ht45 hm4 hnt hgkw4 hmn2
                    obtain ⟨qv, hqv⟩ : ∃ qv, commonTo ns l mi ma i = qv := ⟨_, rfl⟩
                    rw [hqv] at hlw4 hlw5 hme' hes' hcb
                    have Hqv := Lib.hid hqv
                    clear hqv hgd
                    have hwrap : IntKind.i64.wrap (qv + z) = qv + z := IntWalk.i64_in _ (by omega)
                    go_region_held3 (fun w' => w'.cell? ⟨t, 2, none⟩ = some (.int .i64 z)) (go_keep) (fail)
                    all_goals
                      clear hwrap hme' hes' hk4' hk5' hczw4 hlw4 hlw5 hmi hma
                      go_wp2_with fail
                      go_roundw
                      case rel => exact ⟨i + 1, _, by omega, by go_num, hcnt, by rw [Hstep.out]; exact Hm5.out, Hb5.out⟩
                      case measure => simp [intOf]; omega
                · obtain rfl : i = ns.length := by omega
                  obtain ⟨wB, rfl⟩ : ∃ x, x = wr := ⟨wr, rfl⟩
                  obtain ⟨wC, hrg, hit, hgr, hsz⟩ := hmn.range Try.underlying116
                  have hBs := hb.size
                  have hrB : rn < wB.heap.size := hmn.lt
                  have hgoB := Hgo.out.below hb hgoA
                  have ho1B := own_below Ho1.out (hrnO.out ▸ hb)
                  have hbC : Fr gO gO gO wB wC := (Fr.refl gO gO gO wB).grown hgr (fun k e => by cases e)
                  obtain ⟨it, hit0⟩ : ∃ it, wB.heap.size = it := ⟨_, rfl⟩
                  rw [hit0] at hrg hit hrB
                  have HgoC := Lib.hid (hgoB.grown hgr (by simp))
                  have HgoB := Lib.hid hgoB
                  have Ho1B := Lib.hid ho1B
                  have Hit := Lib.hid hit
                  have HbC := Lib.hid hbC
                  have HbB := Lib.hid (HbA.out wB hb)
                  have hit1 := Lib.hid hit0
                  have hgi : gO < it := by omega
                  have hn16 : nn ≤ 16384 := by omega
                  clear hit hgr hsz hgoB ho1B hbC hmn hb hlt2 hi hit0
                  go_wp2_with fail
                  clear hrg
                  go_loopw [118] (fun _ wr => ∃ (done : List (Int × Int)) (c' : Nat) (v2 : Value), Bk wr gO 31 #[v1, v2] ∧ wr.ownsRow it 52 3 v2 (done.map fun p => (p.1, p.2, (nearL ns l ns.length p).getD 0)).length (triC (done.map fun p => (p.1, p.2, (nearL ns l ns.length p).getD 0))) ∧ Iter pV iV Try.prog 47 wr it rn (nearL ns l ns.length) nn done c' ∧ Hid (done.Nodup ∧ ∀ p ∈ done, (nearL ns l ns.length p).isSome = true) ∧ done.length + c' ≤ nn ∧ Fr gO gO gO wB wr) (fun _ wr => itLeft wr it rn)
                  case atStart => exact ⟨[], nn, _, HgoC.out, World.ownsRow_nil _ _ _ _, Hit.out, ⟨List.nodup_nil, by simp⟩, by simp, HbC.out⟩
                  case round =>
                    clear HgoC Hit HbC
                    obtain ⟨done, c', v2, hgo, ho2, hit, hdn, hle2, hfr⟩ := hrel
                    have hleft := Lib.hid hit.left
                    have hwB : it ≤ wr.heap.size := by have := hfr.size; have := hit1.out; omega
                    rcases hit.next inj_pV 0 with ⟨hall, hnx⟩ | ⟨p, v, w7, c2', hq1, hq2, hq3, hnx, hit2, hlt, ht2, hen⟩
                    · have hnx' : ∀ ty, (Instr.next (.pointer (some ⟨it, 0, none⟩)) false ty).run Try.prog wr = .ok (.tuple #[.bool false]) wr := fun ty => hnx
                      clear hnx
                      have hkeys : ∀ p, p ∈ done ↔ (nearL ns l ns.length p).isSome = true := fun p => ⟨hdn.out.2 p, fun h => hall p (fun e => by rw [e] at h; cases h)⟩
                      have Hkeys := Lib.hid hkeys
                      have hdl := Lib.hid (show (done.map fun p => (p.1, p.2, (nearL ns l ns.length p).getD 0)).length = done.length from List.length_map _)
                      have hTl : (done.map fun p => (p.1, p.2, (nearL ns l ns.length p).getD 0)).length ≤ 1099511627776 := by have := hdl.out; omega
                      have hdone := Lib.hid (fun ts (h1 : List.Perm ts (done.map fun p => (p.1, p.2, (nearL ns l ns.length p).getD 0))) h2 => near_sorted HN.out hG.out hdn.out.1 Hkeys.out h1 h2)
                      clear hall hkeys hdl Hkeys hdn hleft hle2
                      generalize done.map (fun p => (p.1, p.2, (nearL ns l ns.length p).getD 0)) = TS at *
                      obtain ⟨A2, c2', rfl⟩ := own_slice ho2
                      have hcg1 : wr.cell? ⟨gO, 1, none⟩ = some (.slice A2 TS.length c2') := hgo.cell 1
                      have Hsrt := Lib.hid (sort_any ho2 hTl)
                      have Hgo := Lib.hid hgo
                      have Ho2 := Lib.hid ho2
                      have Hfr := Lib.hid hfr
                      clear hgo ho2 hfr hit hwB
                      go_wp2_with fail
                      refine Hsrt.out.mono ?_
                      rintro e wS ⟨rfl, ts, hp1, hp2, hST, hgS⟩
                      have hlts := hp1.length_eq
                      have htsN := hdone.out ts hp1 hp2
                      have hrow2 := Hgo.out.ne_own Ho2.out (by decide)
                      have hgoS := Hgo.out.grown hgS hrow2
                      have ho1b : ∀ b, some b = (Value.slice A2 TS.length c2').ownBlock → it ≤ b := fun b hb => (Ho2.out.lt b hb.symm).1
                      have hfrS := Hfr.out.grown hgS (fun k hk => by have := ho1b k hk.symm; have := hit1.out; omega)
                      subst htsN
                      rw [← hlts] at hgoS hcg1
                      rw [← hlts]
                      have hne1 : some gO ≠ v1.ownBlock := HgoB.out.ne_own Ho1B.out (by decide)
                      have ho1S := own_fr Ho1B.out hfrS ⟨hne1, hne1, hne1⟩
                      have hbS := HbB.out.trans (hfrS.below (base := gO) (by have := hit1.out; omega) (Nat.le_refl _) (Nat.le_refl _) (Nat.le_refl _))
                      obtain ⟨A1, c1, rfl⟩ := own_slice ho1S
                      have hA1 : ∀ b o, A1 = some ⟨b, o, none⟩ → b ≠ w.heap.size + 2 := by
                        rintro b o rfl
                        have := (ho1S.lt b rfl).1
                        omega
                      have hA2 : ∀ b o, A2 = some ⟨b, o, none⟩ → b ≠ w.heap.size + 2 := by
                        rintro b o rfl
                        have := ho1b b rfl
                        omega
                      have HgoS := Lib.hid hgoS
                      have HST := Lib.hid hST
                      have HW1 := Lib.hid (show SI wS A1 (qW ws l) from SL.of_own ho1S)
                      have HbS := Lib.hid hbS
                      have hTN : (qN ns l).length ≤ 1099511627776 := by omega
                      have hqWl : (qW ws l).length = G := by rw [qW, wTo_len, HGd.out]
                      clear hlts hgS hgoS hfrS ho1S hbS Hsrt Hgo Ho2 Hfr hp1 hp2 hcg1 hdone hTl ho1b hrow2 hne1 hST
                      have hcg2 : wS.cell? ⟨gO, 1, none⟩ = some (.slice A2 (qN ns l).length c2') := HgoS.out.cell 1
                      have HgoX := Lib.hid (show ∀ W, Below gO w2 W → (∀ b o, A1 = some ⟨b, o, none⟩ → b ≠ w.heap.size + 2) ∧ (∀ b o, A2 = some ⟨b, o, none⟩ → b ≠ w.heap.size + 2) from fun _ _ => ⟨hA1, hA2⟩)
                      go_wp2_with fail
                      refine (containsT_any A2 c2' (qN ns l) wS HST.out hTN).mono ?_
                      rintro e w9 ⟨rfl, hb9⟩
                      have Hgo9 := Lib.hid (HgoS.out.below hb9 HgoS.out.lt)
                      have HST9 := Lib.hid (HST.out.below hb9)
                      have HW19 := Lib.hid (HW1.out.below hb9)
                      have hSs := HgoS.out.lt
                      have Hb9 := Lib.hid (HbS.out.trans (hb9.mono (Nat.le_of_lt hSs)))
                      clear hb9 HgoS HST HW1 HbS hcg2 hSs
                      have hcg3 : w9.cell? ⟨gO, 0, none⟩ = some (.slice A1 G c1) := by have := Hgo9.out.cell 0; rw [this]; rfl
                      obtain ⟨ob, hob⟩ : ∃ ob, (qN ns l).any (fun t => decide (1099511627776 < t.2.2)) = ob := ⟨_, rfl⟩
                      have Hob := Lib.hid hob
                      rw [hob]
                      clear hob
                      cases ob
                      · by_cases hG0 : 0 < G
                        · have hmx := max_any A1 c1 (qW ws l) w9 HW19.out (by omega) (by omega)
                          rw [hqWl] at hmx
                          have hov2 := maxTo_any (ws := qW ws l) (by omega)
                          rw [hqWl] at hov2
                          have Hov2 := Lib.hid hov2
                          have Hmx := Lib.hid hmx
                          clear hmx hov2
                          obtain ⟨mx, hmxe⟩ : ∃ mx, maxTo (qW ws l) (G - 1) = mx := ⟨_, rfl⟩
                          rw [hmxe] at Hov2 Hmx
                          clear hmxe
                          go_wp2_with fail
                          refine Hmx.out.mono ?_
                          rintro e w' ⟨rfl, rfl⟩
                          by_cases hmo : 1099511627776 < mx
                          · have hovb : overB ws ns l = true := by unfold overB; rw [Hob.out, ← Hov2.out, decide_eq_true hmo]; rfl
                            have Hovb := Lib.hid hovb
                            clear hovb
                            have hE4 : atE ws ns cs k = 4 := by rw [hEl2.out, if_pos (Hovb.out)]
                            have hbr := HKr.out w9 Hb9.out
                            have hr0 : w9.cell? ⟨w.heap.size + 2, 0, none⟩ = some (.slice none 0 0) := hbr.cell 0
                            have hr1 : w9.cell? ⟨w.heap.size + 2, 1, none⟩ = some (.slice none 0 0) := hbr.cell 1
                            have hf0 := hbr.frozen 0
                            have hf1 := hbr.frozen 1
                            have hz0 := ((hbr.set_ 0 (.slice none 0 0)).set_ 1 (.slice none 0 0)).cell 0
                            have hz1 := ((hbr.set_ 0 (.slice none 0 0)).set_ 1 (.slice none 0 0)).cell 1
                            have HE := Lib.hid (Hend.out 4 hE4 (by omega) _ (((HbW.out w9 Hb9.out).setCell (p := ⟨w.heap.size + 2, 0, none⟩) (show w.heap.size ≤ w.heap.size + 2 by omega) (.slice none 0 0)).setCell (p := ⟨w.heap.size + 2, 1, none⟩) (show w.heap.size ≤ w.heap.size + 2 by omega) (.slice none 0 0)))
                            clear hE4 hbr
                            go_wp2_with fail
                            exact bodyPost_ret (v := .tuple #[.agg #[.slice none 0 0, .slice none 0 0], .int .i64 4]) (by simp [results, Try.results36, go_sem, hz0, hz1]) rfl HE.out
                          · have hovb : overB ws ns l = false := by unfold overB; rw [Hob.out, ← Hov2.out, decide_eq_false hmo]; rfl
                            have Hovb := Lib.hid hovb
                            clear hovb
                            have hE0 : atE ws ns cs k = 0 := by rw [hEl2.out, Hovb.out]; simp
                            have hWf : atW ws ns cs k = qW ws l := by rw [hWat.out, if_pos hE0]
                            have hNf : atN ws ns cs k = qN ns l := by rw [hNat.out, if_pos hE0]
                            have hbr := HKr.out w9 Hb9.out
                            have hc1 : w9.cell? ⟨gO, 1, none⟩ = some (.slice A2 (qN ns l).length c2') := Hgo9.out.cell 1
                            have hr0 : w9.cell? ⟨w.heap.size + 2, 0, none⟩ = some (.slice none 0 0) := hbr.cell 0
                            have hr1 : w9.cell? ⟨w.heap.size + 2, 1, none⟩ = some (.slice none 0 0) := hbr.cell 1
                            have hf0 := hbr.frozen 0
                            have hf1 := hbr.frozen 1
                            have hz0 := ((hbr.set_ 0 (.slice A1 G c1)).set_ 1 (.slice A2 (qN ns l).length c2')).cell 0
                            have hz1 := ((hbr.set_ 0 (.slice A1 G c1)).set_ 1 (.slice A2 (qN ns l).length c2')).cell 1
                            have HbF := Lib.hid (((HbW.out w9 Hb9.out).setCell (p := ⟨w.heap.size + 2, 0, none⟩) (show w.heap.size ≤ w.heap.size + 2 by omega) (.slice A1 G c1)).setCell (p := ⟨w.heap.size + 2, 1, none⟩) (show w.heap.size ≤ w.heap.size + 2 by omega) (.slice A2 (qN ns l).length c2'))
                            have HI1 := Lib.hid (sl_set2 HW19.out (HgoX.out w9 Hb9.out).1 (.slice A1 G c1) (.slice A2 (qN ns l).length c2'))
                            have HI2 := Lib.hid (sl_set2 HST9.out (HgoX.out w9 Hb9.out).2 (.slice A1 G c1) (.slice A2 (qN ns l).length c2'))
                            have Hfin := Lib.hid (And.intro hE0 (And.intro hWf (And.intro hNf hqWl)))
                            clear hE0 hWf hNf hqWl hbr
                            go_wp2_with fail
                            refine bodyPost_ret (v := .tuple #[.agg #[.slice A1 G c1, .slice A2 (qN ns l).length c2'], .int .i64 0]) (by simp [results, Try.results36, go_sem, hz0, hz1]) rfl ⟨A1, c1, A2, c2', ?_, ?_, ?_, HbF.out⟩
                            · rw [Hfin.out.1, Hfin.out.2.1, Hfin.out.2.2.1, Hfin.out.2.2.2]
                            · rw [Hfin.out.2.1]; exact HI1.out
                            · rw [Hfin.out.2.2.1]; exact HI2.out
                        · have hG00 : G = 0 := by omega
                          have hqn : qW ws l = [] := List.eq_nil_of_length_eq_zero (by omega)
                          have hovb : overB ws ns l = false := by unfold overB; rw [Hob.out, hqn]; rfl
                          have Hovb := Lib.hid hovb
                          clear hovb hqn hG00
                          have hE0 : atE ws ns cs k = 0 := by rw [hEl2.out, Hovb.out]; simp
                          have hWf : atW ws ns cs k = qW ws l := by rw [hWat.out, if_pos hE0]
                          have hNf : atN ws ns cs k = qN ns l := by rw [hNat.out, if_pos hE0]
                          have hbr := HKr.out w9 Hb9.out
                          have hc1 : w9.cell? ⟨gO, 1, none⟩ = some (.slice A2 (qN ns l).length c2') := Hgo9.out.cell 1
                          have hr0 : w9.cell? ⟨w.heap.size + 2, 0, none⟩ = some (.slice none 0 0) := hbr.cell 0
                          have hr1 : w9.cell? ⟨w.heap.size + 2, 1, none⟩ = some (.slice none 0 0) := hbr.cell 1
                          have hf0 := hbr.frozen 0
                          have hf1 := hbr.frozen 1
                          have hz0 := ((hbr.set_ 0 (.slice A1 G c1)).set_ 1 (.slice A2 (qN ns l).length c2')).cell 0
                          have hz1 := ((hbr.set_ 0 (.slice A1 G c1)).set_ 1 (.slice A2 (qN ns l).length c2')).cell 1
                          have HbF := Lib.hid (((HbW.out w9 Hb9.out).setCell (p := ⟨w.heap.size + 2, 0, none⟩) (show w.heap.size ≤ w.heap.size + 2 by omega) (.slice A1 G c1)).setCell (p := ⟨w.heap.size + 2, 1, none⟩) (show w.heap.size ≤ w.heap.size + 2 by omega) (.slice A2 (qN ns l).length c2'))
                          have HI1 := Lib.hid (sl_set2 HW19.out (HgoX.out w9 Hb9.out).1 (.slice A1 G c1) (.slice A2 (qN ns l).length c2'))
                          have HI2 := Lib.hid (sl_set2 HST9.out (HgoX.out w9 Hb9.out).2 (.slice A1 G c1) (.slice A2 (qN ns l).length c2'))
                          have Hfin := Lib.hid (And.intro hE0 (And.intro hWf (And.intro hNf hqWl)))
                          clear hE0 hWf hNf hqWl hbr
                          go_wp2_with fail
                          refine bodyPost_ret (v := .tuple #[.agg #[.slice A1 G c1, .slice A2 (qN ns l).length c2'], .int .i64 0]) (by simp [results, Try.results36, go_sem, hz0, hz1]) rfl ⟨A1, c1, A2, c2', ?_, ?_, ?_, HbF.out⟩
                          · rw [Hfin.out.1, Hfin.out.2.1, Hfin.out.2.2.1, Hfin.out.2.2.2]
                          · rw [Hfin.out.2.1]; exact HI1.out
                          · rw [Hfin.out.2.2.1]; exact HI2.out
                      · have hovb : overB ws ns l = true := by unfold overB; rw [Hob.out]; simp
                        have Hovb := Lib.hid hovb
                        clear hovb
                        have hE4 : atE ws ns cs k = 4 := by rw [hEl2.out, if_pos (Hovb.out)]
                        have hbr := HKr.out w9 Hb9.out
                        have hr0 : w9.cell? ⟨w.heap.size + 2, 0, none⟩ = some (.slice none 0 0) := hbr.cell 0
                        have hr1 : w9.cell? ⟨w.heap.size + 2, 1, none⟩ = some (.slice none 0 0) := hbr.cell 1
                        have hf0 := hbr.frozen 0
                        have hf1 := hbr.frozen 1
                        have hz0 := ((hbr.set_ 0 (.slice none 0 0)).set_ 1 (.slice none 0 0)).cell 0
                        have hz1 := ((hbr.set_ 0 (.slice none 0 0)).set_ 1 (.slice none 0 0)).cell 1
                        have HE := Lib.hid (Hend.out 4 hE4 (by omega) _ (((HbW.out w9 Hb9.out).setCell (p := ⟨w.heap.size + 2, 0, none⟩) (show w.heap.size ≤ w.heap.size + 2 by omega) (.slice none 0 0)).setCell (p := ⟨w.heap.size + 2, 1, none⟩) (show w.heap.size ≤ w.heap.size + 2 by omega) (.slice none 0 0)))
                        clear hE4 hbr
                        go_wp2_with fail
                        exact bodyPost_ret (v := .tuple #[.agg #[.slice none 0 0, .slice none 0 0], .int .i64 4]) (by simp [results, Try.results36, go_sem, hz0, hz1]) rfl HE.out
                    · have hnx' : ∀ ty, (Instr.next (.pointer (some ⟨it, 0, none⟩)) false ty).run Try.prog wr = .ok (.tuple #[.bool true, .agg #[.int .i64 p.1, .int .i64 p.2], .int .i64 v]) w7 := fun ty => hnx
                      have hen' : (Instr.entry (.pointer (some ⟨it, 0, none⟩))).run Try.prog w7 = .ok (.tuple #[.agg #[.int .i64 p.1, .int .i64 p.2], .int .i64 v]) w7 := hen
                      clear hnx hen
                      obtain ⟨p1, p2⟩ := p
                      dsimp only at hnx' hen'
                      have hdn2 : Hid ((done ++ [(p1, p2)]).Nodup ∧ ∀ p ∈ done ++ [(p1, p2)], (nearL ns l ns.length p).isSome = true) := by
                        refine ⟨?_, fun p hp => ?_⟩
                        · rw [List.nodup_append]
                          refine ⟨hdn.out.1, by simp, fun a ha b hb e => ?_⟩
                          simp only [List.mem_singleton] at hb
                          subst hb e
                          exact hq1 ha
                        · rcases List.mem_append.1 hp with hp | hp
                          · exact hdn.out.2 p hp
                          · simp only [List.mem_singleton] at hp
                            subst hp
                            rw [hq2]
                            rfl
                      have hmap2 : Hid ((done ++ [(p1, p2)]).map (fun p => (p.1, p.2, (nearL ns l ns.length p).getD 0)) = done.map (fun p => (p.1, p.2, (nearL ns l ns.length p).getD 0)) ++ [(p1, p2, v)]) := by
                        show _ = _
                        rw [List.map_append, List.map_singleton, hq2]
                        rfl
                      have hdl := Lib.hid (show (done.map fun p => (p.1, p.2, (nearL ns l ns.length p).getD 0)).length = done.length from List.length_map _)
                      generalize done.map (fun p => (p.1, p.2, (nearL ns l ns.length p).getD 0)) = TS at *
                      have hne1 := hit.bk_ne hgo
                      have hgo7 : Bk w7 gO 31 #[v1, v2] := (ht2.block gO hne1).trans hgo
                      have ho27 := own_turn ho2 ht2 (hit.own_ne ho2)
                      have hfr7 := Turn.fr ht2 hfr (.inr (.inr (Nat.le_of_eq hit1.out)))
                      have hgo1 := hgo7.alloc (.cells #[.int .i64 p1, .int .i64 p2] 47)
                      have ho21 := ho27.alloc (.cells #[.int .i64 p1, .int .i64 p2] 47)
                      have hit11 := hit2.keep (w' := w7.alloc (.cells #[.int .i64 p1, .int .i64 p2] 47)) (Below.heap_alloc _ _ _ hit2.lt) (Below.heap_alloc _ _ _ hit2.map.lt)
                      have hfr1 := hfr7.alloc (.cells #[.int .i64 p1, .int .i64 p2] 47)
                      have ht1 := Bk.new w7 47 #[.int .i64 p1, .int .i64 p2]
                      have hs1 : it ≤ (w7.alloc (.cells #[.int .i64 p1, .int .i64 p2] 47)).heap.size := by have := hfr1.size; have := hit1.out; omega
                      clear hgo ho2 hit hfr ht2 hit2 hgo7 ho27 hfr7 hwB hdn hq1 hq2 hq3 hne1
                      have hcg1 : (w7.alloc (.cells #[.int .i64 p1, .int .i64 p2] 47)).cell? ⟨gO, 1, none⟩ = some v2 := hgo1.cell 1
                      have hct0 : (w7.alloc (.cells #[.int .i64 p1, .int .i64 p2] 47)).cell? ⟨w7.heap.size, 0, none⟩ = some (.int .i64 p1) := ht1.cell 0
                      have hct1 : (w7.alloc (.cells #[.int .i64 p1, .int .i64 p2] 47)).cell? ⟨w7.heap.size, 1, none⟩ = some (.int .i64 p2) := ht1.cell 1
                      have hrow := hgo1.ne_own ho21 (by decide)
                      have Hgo1 := Lib.hid hgo1
                      have Hit11 := Lib.hid hit11
                      have Hfr1 := Lib.hid hfr1
                      have hdle : TS.length < 16385 := by have := hdl.out; omega
                      clear hgo1 hit11 hfr1 ht1
                      go_wp2_with (at_builtin; refine wpList_app2 (w := w7.alloc (.cells #[.int .i64 p1, .int .i64 p2] 47)) rfl _ _ rfl elt_tri ho21 hs1 rfl rfl (by simp) rfl rfl (by omega) ?_; intro v3 w8 hown8 hg8 hz8; obtain ⟨A8, c8, rfl⟩ := own_slice hown8; have hg9 := Hgo1.out.grown hg8 hrow; have hq0 : w8.cell? ⟨gO, 1, none⟩ = some v2 := hg9.cell 1; have hq1 := hg9.frozen 1; have Hg9 := Lib.hid hg9; clear hg9)
                      have hk8 := Hit11.out.keep (w' := w8) (hg8.block _ Hit11.out.lt (Hit11.out.own_ne ho21)) (hg8.block rn Hit11.out.map.lt (MapF.own_ne Hit11.out.map ho21))
                      have hk9 := hk8.keep (w' := w8.setCell ⟨gO, 1, none⟩ (.slice A8 (TS.length + 1) c8)) (Below.heap_setCell _ _ _ _ (by show it ≠ gO; omega)) (Below.heap_setCell _ _ _ _ (by show rn ≠ gO; omega))
                      have ho9 := own_set (i := 1) hown8 (Hg9.out.ne_own hown8 (by decide)) (.slice A8 (TS.length + 1) c8)
                      have hf9 := (Hfr1.out.grown hg8 (fun k hk => by have := (ho21.lt k hk).1; have := hit1.out; omega)).setCell (p := ⟨gO, 1, none⟩) rfl (.slice A8 (TS.length + 1) c8)
                      go_roundw
                      case rel => exact ⟨done ++ [(p1, p2)], c2', _, Hg9.out.set_ 1 _, by rw [hmap2.out, triC_append, List.length_append]; exact ho9, hk9, hdn2, by simp; omega, hf9⟩
                      case measure => rw [hleft.out, hk9.left]; exact hlt
        · have hlb : (listE ws.length l != 0) = true := by simpa using hle
          have HE := Lib.hid (hEl.out.trans (if_pos hle))
          have hr0 : w2.cell? ⟨w.heap.size + 2, 0, none⟩ = some (.slice none 0 0) := Hbr2.out.cell 0
          have hr1 : w2.cell? ⟨w.heap.size + 2, 1, none⟩ = some (.slice none 0 0) := Hbr2.out.cell 1
          have hf0 := Hbr2.out.frozen 0
          have hf1 := Hbr2.out.frozen 1
          have hz0 := ((Hbr2.out.set_ 0 (.slice none 0 0)).set_ 1 (.slice none 0 0)).cell 0
          have hz1 := ((Hbr2.out.set_ 0 (.slice none 0 0)).set_ 1 (.slice none 0 0)).cell 1
          have HbZ := Lib.hid ((Hb2.out.setCell (p := ⟨w.heap.size + 2, 0, none⟩) (show w.heap.size ≤ w.heap.size + 2 by omega) (.slice none 0 0)).setCell (p := ⟨w.heap.size + 2, 1, none⟩) (show w.heap.size ≤ w.heap.size + 2 by omega) (.slice none 0 0))
          have HE := Lib.hid (Hend.out _ HE.out hle _ HbZ.out)
          clear hle
          generalize listE ws.length l = le at *
          go_wp2_with fail
          exact bodyPost_ret (v := .tuple #[.agg #[.slice none 0 0, .slice none 0 0], .int .i64 le]) (by simp [results, Try.results36, go_sem, hz0, hz1]) rfl HE.out
  · have hvb : (validE ws ns != 0) = true := by simpa using hv
    have hEv : atE ws ns cs s = validE ws ns := by rw [atE, if_pos hv]
    have HE := Lib.hid (Hend.out (validE ws ns) hEv hv _ HbZ.out)
    clear hEv hv
    obtain ⟨ve, hve⟩ : ∃ ve, Hid (validE ws ns = ve) := ⟨_, rfl⟩
    rw [hve.out] at hvb HE
    rw [hve.out]
    go_wp2_with fail
    exact bodyPost_ret (v := .tuple #[.agg #[.slice none 0 0, .slice none 0 0], .int .i64 ve]) (by simp [results, Try.results36, go_sem, hz0, hz1]) rfl HE.out
end Go.Proofs.Ytaegfljpodhnhaa
