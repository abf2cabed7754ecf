import Derived.Test.YtaegfljpodhnhaaG06
import Derived.Test.YtaegfljpodhnhaaG07
import Derived.Test.YtaegfljpodhnhaaR38
import Derived.Deep.RegionHeld3
import Derived.Test.YtaegfljpodhnhaaT3
import Derived.Test.YtaegfljpodhnhaaR27
import Derived.Test.YtaegfljpodhnhaaR37
import Derived.Deep.DeepCutAuto
namespace Go.Proofs.Ytaegfljpodhnhaa
open Go.RowKit Go.Maps

set_option maxHeartbeats 4000000 in
set_option maxRecDepth 100000 in
theorem refOf_own (A B C : Option Addr) (c d f : Nat) (ws : List Int) (ns : List (Int × Int × Int)) (ls : List Int) (w : World) (hA : SI w A ws) (hB : ST w B ns) (hC : SI w C ls) (hl1 : ws.length ≤ 4611686018427387904) (hl2 : ns.length ≤ 4611686018427387904) (hl3 : ls.length ≤ 4611686018427387904) :
    Calls Try.prog 16 #[.agg #[.slice A ws.length c, .slice B ns.length d], .slice C ls.length f] w fun e w' => ∃ D m vs, e = .returned (.tuple #[.slice D (ofL ws ns ls).length m, .int .i64 (ofE ws ns ls)]) ∧ w'.ownsRow w.heap.size 22 1 (.slice D (ofL ws ns ls).length m) (ofL ws ns ls).length vs ∧ IL w' vs (ofL ws ns ls) ∧ Below w.heap.size w w' := by
  go_enter Try.func16, Try.ntmps16
  go_wp2_with fail
  have hb0 := (Below.refl w.heap.size w).alloc (Nat.le_refl _) (.cells #[.slice A ws.length c, .slice B ns.length d] 33)
  have hbk0 := Bk.new w 33 #[.slice A ws.length c, .slice B ns.length d]
  generalize w.alloc (.cells #[.slice A ws.length c, .slice B ns.length d] 33) = W0 at *
  have Hb0 := Lib.hid hb0
  have Hbk0 := Lib.hid hbk0
  clear hb0 hbk0
  refine (refValid_any A B c d ws ns W0 (hA.below Hb0.out) (hB.below Hb0.out) hl1 hl2).mono ?_
  rintro e w1 ⟨rfl, hb1⟩
  have Hbk1 := Lib.hid (Hbk0.out.below hb1 Hbk0.out.lt)
  have Hb1 := Lib.hid (Hb0.out.trans (hb1.mono Hb0.out.size))
  clear hb1 Hbk0 Hb0
  have hE := Lib.hid (ofE_eq ws ns ls)
  by_cases hv : validE ws ns = 0
  · have hg := validE_good hv
    obtain ⟨g1, g2, g3, g4⟩ := hg
    have Hg := Lib.hid (And.intro g3 g4)
    have hEt : Hid (ofE ws ns ls = thrE ls) := by show _ = _; rw [hE.out, if_neg (by simp [hv])]
    have hvb : (validE ws ns != 0) = false := by simpa using hv
    have Hv := Lib.hid hv
    clear hE g3 g4 hv
    obtain ⟨ve, hve⟩ : ∃ ve, Hid (validE ws ns = ve) := ⟨_, rfl⟩
    rw [hve.out] at hvb
    rw [hve.out]
    go_wp2_with fail
    refine (refThr_any C f ls w1 (hC.below Hb1.out) hl3).mono ?_
    rintro e w' ⟨rfl, rfl⟩
    by_cases ht : thrE ls = 0
    · have hT := thrE_good ht
      obtain ⟨t1, t2⟩ := hT
      have hE0 : Hid (ofE ws ns ls = 0) := by show _ = _; rw [hEt.out, ht]
      have hL : Hid (ofL ws ns ls = lists ws ns ls) := by show _ = _; rw [ofL, if_pos hE0.out]
      have htb : (thrE ls != 0) = false := by simpa using ht
      clear ht hEt
      obtain ⟨te, hte⟩ : ∃ te, Hid (thrE ls = te) := ⟨_, rfl⟩
      rw [hte.out] at htb
      rw [hte.out]
      have hc0 : w1.cell? ⟨w.heap.size, 0, none⟩ = some (.slice A ws.length c) := Hbk1.out.cell 0
      go_wp2_with fail
      refine (alone_any ws.length w1 (by omega)).mono ?_
      rintro e w2 ⟨v2, rfl, hown2, hb2⟩
      obtain ⟨A2, c2, rfl⟩ := own_slice hown2
      have hsi2 := alone_si hown2
      have Hbk2 := Lib.hid (Hbk1.out.below hb2 Hbk1.out.lt)
      have Hb2 := Lib.hid (Hb1.out.trans (hb2.mono Hb1.out.size))
      have Hsi2 := Lib.hid hsi2
      clear hown2 hsi2 hb2 hc0 Hbk1 Hb1
      go_wp2_with fail
      go_loopw [8, 9, 10] (fun v8 v9 i wr => ∃ (k c8 : Nat) (A8 : Option Addr) (of : List Int) (vs : List Value), k ≤ ls.length ∧ i = .int .i64 k ∧ v8 = .slice A8 ws.length c8 ∧ Hid (after ws ns (alone ws.length) (ls.take k) = of) ∧ Hid (of.length = ws.length) ∧ Hid (CN of) ∧ SLo wr A8 (of.map (Value.int .i64)) v9.ownBlock ∧
        wr.ownsRow w.heap.size 22 1 v9 k vs ∧ IL wr vs ((chain ws ns (alone ws.length) (ls.take k)).map fun s => ix s.1) ∧ Below w.heap.size w wr ∧ Bk wr w.heap.size 33 #[.slice A ws.length c, .slice B ns.length d]) (fun _ _ i _ => ls.length - (intOf i).toNat)
      case atStart => exact ⟨0, c2, A2, alone ws.length, [], by omega, rfl, rfl, rfl, alone_len _, alone_cn _, SLo.of_sl Hsi2.out (Below.refl _ _) (by simp [Value.ownBlock]), World.ownsRow_nil _ _ _ _, IL.nil _, Hb2.out, Hbk2.out⟩
      case round =>
        clear Hsi2 Hbk2 Hb2
        obtain ⟨k, c8, A8, of, vs, hk, rfl, rfl, haf, hol, hCN, hsi, hown, hIL, hb, hbk⟩ := hrel
        have hbs := hb.size
        by_cases hlt : k < ls.length
        · obtain ⟨b1, o1, n, rfl, hcn, hn1⟩ := (hC.below hb).get hlt
          have hc0 : wr.cell? ⟨w.heap.size, 0, none⟩ = some (.slice A ws.length c) := hbk.cell 0
          have hc1 : wr.cell? ⟨w.heap.size, 1, none⟩ = some (.slice B ns.length d) := hbk.cell 1
          have hsc := scale_any2 A B A8 c d c8 ws ns of n wr.drew (hA.below hb.drew) (hB.below hb.drew) hsi.sl Hg.out.1 hol.out g1 (Hg.out.2.len hol.out.symm) g2
          rw [hol.out] at hsc
          have Hsc := Lib.hid hsc
          have Hown := Lib.hid hown
          have Hsi := Lib.hid hsi
          have HIL := Lib.hid hIL
          have Hb := Lib.hid hb
          have Hbk := Lib.hid hbk
          have Hbkd := Lib.hid (hbk.qt ⟨1, rfl⟩ : Bk wr.drew _ _ _)
          have hbl := Hbkd.out.lt
          clear hsc hown hsi hIL hb hbk
          have hCs := CN.scaleF (ws := ws) (ns := ns) (least := n) of.length of hCN.out
          have HCs : Hid (CN (scale ws ns of n).1 ∧ (scale ws ns of n).1.length = ws.length) := ⟨hCs.1, hCs.2.trans hol.out⟩
          have haf2 := Lib.hid (after_take (ws := ws) (ns := ns) (of := alone ws.length) hn1.out)
          have hch2 := Lib.hid (chain_take_snoc (ws := ws) (ns := ns) (of := alone ws.length) hn1.out)
          rw [haf.out] at haf2 hch2
          clear hCs haf
          have j0 : (0 : Int) ≤ (k : Int) := by omega
          go_wp2_with fail
          go_region_held3 (fun W => W.cell? ⟨w.heap.size, 0, none⟩ = some (.slice A ws.length c) ∧ W.cell? ⟨w.heap.size, 1, none⟩ = some (.slice B ns.length d) ∧ W.cell? ⟨b1, o1 + k, none⟩ = some (.int .i64 n)) (go_keep) ((go_at_call 49; refine Hsc.out.mono ?_; rintro e w4 ⟨A1, c1, A9, c9, rfl, hs1, hd, hs2, hs3, hs4, hb4⟩; have hbk4 := Hbkd.out.below hb4 hbl; have hc04 : w4.cell? ⟨w.heap.size, 0, none⟩ = some (.slice A ws.length c) := hbk4.cell 0; have hc14 : w4.cell? ⟨w.heap.size, 1, none⟩ = some (.slice B ns.length d) := hbk4.cell 1; have hcn4 : w4.cell? ⟨b1, o1 + k, none⟩ = some (.int .i64 n) := (hb4.cell (World.block_lt_of_cell? _ _ hcn)).trans hcn; clear hbk4))
          all_goals
            have Hs1 := Lib.hid hs1
            have hsl := SLo.of_scale Hown.out Hsi.out hs1 (hs3.trans hol.out.symm) hd
            have Hsl := Lib.hid hsl
            have Hown4 := Lib.hid (own_below (own_qt Hown.out ⟨1, rfl⟩ : wr.drew.ownsRow _ _ _ _ _ _) hb4)
            have Hb4 := Lib.hid (Hb.out.drew.trans (hb4.mono hbs))
            have HIL4 := Lib.hid ((HIL.out.below ((Below.refl wr.heap.size wr).drew : Below wr.heap.size wr wr.drew)).below hb4)
            have Hbk4 := Lib.hid (Hbkd.out.below hb4 hbl)
            clear hs1 hsl hs2 hb4 hc0 hc1 hcn hc04 hc14 hcn4 Hown Hsi HIL Hb Hbk Hbkd
            go_wp2_with fail
            have hix := refIndices_any A1 c1 (scale ws ns of n).1 w4 Hs1.out HCs.out.1 (by rw [HCs.out.2]; exact g1)
            rw [HCs.out.2] at hix
            refine hix.mono ?_
            rintro e w5 ⟨v5, rfl, hown5, hb5⟩
            obtain ⟨A5, c5, rfl⟩ := own_slice hown5
            have hown6 := own_below Hown4.out hb5
            have hb6 := Hb4.out.trans (hb5.mono Hb4.out.size)
            have Hsl5 := Lib.hid (Hsl.out.below hb5)
            have HIL5 := Lib.hid (HIL4.out.below hb5)
            have Hbk5 := Lib.hid (Hbk4.out.below hb5 Hbk4.out.lt)
            have Hown5 := Lib.hid hown5
            clear hown5 hb5 hix Hs1
            go_wp2_with (at_builtin; refine wpList_app1 (w := w5) rfl _ _ rfl elt_lists hown6 hb6 rfl rfl (by simp) rfl rfl (by omega) ?_; intro v7 w7 hown7 hb7 hg7 hat7 hz7)
            go_roundw
            case rel =>
              have hlen5 : (ix (scale ws ns of n).1).length = ws.length := (ix_len _).trans HCs.out.2
              refine ⟨k + 1, c1, A1, (scale ws ns of n).1, _, by omega, by go_num, rfl, haf2.out, HCs.out.2, HCs.out.1, ?_, hown7, ?_, hb7, Hbk5.out.grown hg7 (Hbk5.out.ne_own hown6 (by decide))⟩
              · refine Hsl5.out.grown hg7 (fun k hk => ?_)
                rcases hat7 with h | h <;> rw [hk] at h
                · exact .inl h.symm
                · right; injection h with h; omega
              · rw [hch2.out, List.map_append]
                have h1 := HIL5.out.snoc (by rw [hlen5]; exact Hown5.out : w5.ownsRow _ 3 1 (.slice A5 (ix (scale ws ns of n).1).length c5) (ix (scale ws ns of n).1).length ((ix (scale ws ns of n).1).map (Value.int .i64)))
                rw [hlen5] at h1
                exact h1.grown hown6 (by decide) hg7
            case measure => simp [intOf]; omega
        · obtain rfl : k = ls.length := by omega
          rw [List.take_length] at hIL
          obtain ⟨D, m, rfl⟩ := own_slice hown
          have hL2 : Hid ((ofL ws ns ls).length = ls.length) := by show _ = _; rw [hL.out, lists_len]
          go_wp2_with fail
          go_ret2
          exact ⟨D, m, vs, by rw [hL2.out, hE0.out]; rfl, by rw [hL2.out]; exact hown, by rw [hL.out]; exact hIL, hb⟩
    · have htb : (thrE ls != 0) = true := by simpa using ht
      have hL : Hid (ofL ws ns ls = []) := by show _ = _; rw [ofL, if_neg (by rw [hEt.out]; exact ht)]
      clear ht
      obtain ⟨te, hte⟩ : ∃ te, Hid (thrE ls = te) := ⟨_, rfl⟩
      rw [hte.out] at htb
      rw [hte.out]
      go_wp2_with fail
      go_ret2
      exact ⟨none, 0, [], by rw [hL.out, hEt.out, hte.out]; rfl, by rw [hL.out]; exact World.ownsRow_nil _ _ _ _, by rw [hL.out]; exact IL.nil _, Hb1.out⟩
  · have hvb : (validE ws ns != 0) = true := by simpa using hv
    have hEv : Hid (ofE ws ns ls = validE ws ns) := by show _ = _; rw [hE.out, if_pos hv]
    have hL : Hid (ofL ws ns ls = []) := by show _ = _; rw [ofL, if_neg (by rw [hEv.out]; exact hv)]
    clear hv hE
    obtain ⟨ve, hve⟩ : ∃ ve, Hid (validE ws ns = ve) := ⟨_, rfl⟩
    rw [hve.out] at hvb
    rw [hve.out]
    go_wp2_with fail
    go_ret2
    exact ⟨none, 0, [], by rw [hL.out, hEv.out, hve.out]; rfl, by rw [hL.out]; exact World.ownsRow_nil _ _ _ _, by rw [hL.out]; exact IL.nil _, Hb1.out⟩

theorem plain_any (A B : Option Addr) (c d n m : Nat) (w : World) :
    Calls Try.prog 39 #[.agg #[.slice A n c, .slice B m d]] w fun e w' => e = .returned (.agg #[.slice A n c, .slice B m d]) ∧ Below w.heap.size w w' := by
  go_enter Try.func39, Try.ntmps39
  go_wp2
  refine bodyPost_ret (v := .agg #[.slice A n c, .slice B m d]) (by simp [results, Try.results39, go_sem]) rfl ⟨rfl, ?_⟩
  exact ((Below.refl _ _).alloc (Nat.le_refl _) _).alloc (by simp) _

theorem sum_snoc (l : List Int) (x : Int) : (l ++ [x]).sum = l.sum + x := by simp
theorem sum_zero (L : List Int) (n : Nat) : (L ++ List.replicate n 0).sum = L.sum := by
  induction n with
  | zero => simp
  | succ n ih =>
    have e : List.replicate (n + 1) (0 : Int) = List.replicate n 0 ++ [0] := by rw [List.replicate_succ']
    rw [e, ← List.append_assoc, sum_snoc, ih]
    omega
theorem sum_set : ∀ (L : List Int) (n : Nat) (y : Int), n < L.length → (L.set n (L.getD n 0 + y)).sum = L.sum + y
  | [], n, y, h => by simp at h
  | x :: L, 0, y, _ => by
    simp only [List.set_cons_zero, List.getD_cons_zero, List.sum_cons]
    omega
  | x :: L, n + 1, y, h => by
    have ih := sum_set L n y (by simpa using h)
    simp only [List.set_cons_succ, List.getD_cons_succ, List.sum_cons, ih]
    omega
theorem wTo_sum (ws : List Int) {l : List Int} (h : GoodL l) (hl : l.length = ws.length) : ∀ k, k ≤ l.length → (wTo ws l k).sum = (ws.take k).sum
  | 0, _ => by simp [wTo, gk]
  | k + 1, hk => by
    have hb := h k (by omega)
    have hx : ws[k]? = some ws[k] := List.getElem?_eq_getElem (by omega)
    have hs := wTo_succ ws h (k := k) (n := (l.getD k 0).toNat) (x := ws[k]) (by omega) (by omega) (by rw [List.getD, hx]; rfl)
    have hg : gk l (k + 1) = if l.getD k 0 = (gk l k : Int) then gk l k + 1 else gk l k := rfl
    have hgs := gk_step l k
    rw [hs, sum_set _ _ _ (by
      rw [List.length_append, wTo_len, List.length_replicate]
      split at hg <;> omega), sum_zero, wTo_sum ws h hl k (by omega), take_snoc' hx, sum_snoc]
/-- The weights of the groups together are those of the faces. -/
theorem qW_sum (ws : List Int) {l : List Int} (h : GoodL l) (hl : l.length = ws.length) : (qW ws l).sum = ws.sum := by
  rw [qW, wTo_sum ws h hl _ (Nat.le_refl _), List.take_of_length_le (by omega)]
theorem take_sum_bd {ws : List Int} {M : Int} (h : ∀ x ∈ ws, 0 ≤ x ∧ x ≤ M) : ∀ k, k ≤ ws.length → 0 ≤ (ws.take k).sum ∧ (ws.take k).sum ≤ M * k
  | 0, _ => by simp
  | k + 1, hk => by
    have ih := take_sum_bd h k (by omega)
    have hx : ws[k]? = some ws[k] := List.getElem?_eq_getElem (by omega)
    have hb := h ws[k] (List.getElem_mem _)
    rw [take_snoc' hx, sum_snoc, Int.natCast_succ, Int.mul_add]
    omega
theorem atE_zero {ws : List Int} {ns : List (Int × Int × Int)} {cs : List (List Int)} {s : Int} (h : atE ws ns cs s = 0) : ∃ k : Nat, s = k ∧ k < cs.length ∧ validE ws ns = 0 ∧ listE ws.length (cs.getD k []) = 0 ∧ overB ws ns (cs.getD k []) = false ∧ atW ws ns cs s = qW ws (cs.getD k []) := by
  have h0 := h
  unfold atE at h
  by_cases h1 : validE ws ns = 0
  · rw [if_neg (by simp [h1])] at h
    by_cases h2 : s < 0 ∨ (cs.length : Int) ≤ s
    · rw [if_pos h2] at h
      omega
    · rw [if_neg h2] at h
      by_cases h3 : listE ws.length (cs.getD s.toNat []) = 0
      · rw [if_neg (fun hh => hh h3)] at h
        by_cases h4 : overB ws ns (cs.getD s.toNat []) = true
        · rw [if_pos h4] at h
          omega
        · exact ⟨s.toNat, by omega, by omega, h1, h3, by simpa using h4, by rw [atW, if_pos h0]⟩
      · rw [if_pos h3] at h
        exact (h3 h).elim
  · rw [if_pos h1] at h
    exact (h1 h).elim
end Go.Proofs.Ytaegfljpodhnhaa

namespace Go.Proofs.Ytaegfljpodhnhaa
open Go.RowKit Go.Maps

theorem ofL_len' {ws : List Int} {ns : List (Int × Int × Int)} {ls : List Int} (hz : ofE ws ns ls = 0) : (ofL ws ns ls).length = ls.length := by rw [ofL, if_pos hz, lists_len]
theorem ofL_le' {ws : List Int} {ns : List (Int × Int × Int)} {ls : List Int} : (ofL ws ns ls).length ≤ ls.length := by unfold ofL; split <;> simp [lists_len]
theorem ints_is (l : List Int) : ∀ u ∈ l.map (Value.int .i64), ∃ z, u = .int .i64 z := fun u hu => by
  obtain ⟨z, _, rfl⟩ := List.mem_map.1 hu
  exact ⟨z, rfl⟩
theorem tris_is (ns : List (Int × Int × Int)) : ∀ u ∈ triC ns, ∃ z, u = .int .i64 z := fun u hu => by
  unfold triC at hu
  obtain ⟨t, _, ht⟩ := List.mem_flatMap.1 hu
  simp only [List.mem_cons, List.not_mem_nil, or_false] at ht
  rcases ht with rfl | rfl | rfl <;> exact ⟨_, rfl⟩
/-- A block of two slices takes two new ones: rows of ints stay. -/
theorem sl_two {w : World} {X A B : Option Addr} {p n m c d : Nat} {t : TypeId} {xs : List Value} (h : SL w X xs) (hk : Bk w p t #[.slice A n c, .slice B m d]) (hx : ∀ u ∈ xs, ∃ z, u = .int .i64 z) (u v : Value) :
    SL ((w.setCell ⟨p, 0, none⟩ u).setCell ⟨p, 1, none⟩ v) X xs := fun j y hy => by
  obtain ⟨b, o, e, hb, hc⟩ := h j y hy
  obtain ⟨z, rfl⟩ := hx y (List.mem_of_getElem? hy)
  have hne : b ≠ p := by
    rintro rfl
    rw [hk.cell] at hc
    rcases Nat.lt_or_ge (o + j) 2 with hl | hl
    · rcases (by omega : o + j = 0 ∨ o + j = 1) with h0 | h0 <;> rw [h0] at hc <;> simp at hc
    · rw [Array.getElem?_eq_none (by simpa using hl)] at hc
      cases hc
  refine ⟨b, o, e, by simpa [World.setCell] using hb, ?_⟩
  rw [World.cell?_setCell_other _ _ _ _ (fun e => hne (by injection e with e; exact e.symm)), World.cell?_setCell_other _ _ _ _ (fun e => hne (by injection e with e; exact e.symm))]
  exact hc

theorem qW_nn {ws : List Int} {l : List Int} (h : W40 ws) : ∀ x ∈ qW ws l, 0 ≤ x := fun x hx => by
  unfold qW wTo at hx
  obtain ⟨i, _, rfl⟩ := List.mem_map.1 hx
  exact (weightTo_bd h _).1
theorem sum_nn : ∀ l : List Int, (∀ x ∈ l, 0 ≤ x) → 0 ≤ l.sum
  | [], _ => by simp
  | x :: l, h => by
    have h1 := sum_nn l (fun y hy => h y (by simp [hy]))
    have h2 := h x (by simp)
    rw [List.sum_cons]
    omega
theorem take_sum_le {l : List Int} (h : ∀ x ∈ l, 0 ≤ x) (k : Nat) : 0 ≤ (l.take k).sum ∧ (l.take k).sum ≤ l.sum := by
  have h1 := sum_nn (l.take k) (fun x hx => h x (List.mem_of_mem_take hx))
  have h2 := sum_nn (l.drop k) (fun x hx => h x (List.mem_of_mem_drop hx))
  have h3 : l.sum = (l.take k).sum + (l.drop k).sum := by rw [← List.sum_append, List.take_append_drop]
  omega
/-- The weights of the graph of groups, and their sums. -/
theorem atW_sums (ws : List Int) (ns : List (Int × Int × Int)) (cs : List (List Int)) (s : Int) (hl : ws.length ≤ 4096) :
    (atW ws ns cs s).length ≤ 1099511627776 ∧ (atN ws ns cs s).length ≤ 1099511627776 ∧ (atW ws ns cs s).sum = (if atE ws ns cs s = 0 then ws.sum else 0) ∧ (∀ k : Nat, 0 ≤ ((atW ws ns cs s).take k).sum ∧ ((atW ws ns cs s).take k).sum ≤ 4503599627370496) ∧
    (atE ws ns cs s = 0 → ∀ k : Nat, 0 ≤ (ws.take k).sum ∧ (ws.take k).sum ≤ 4503599627370496) := by
  by_cases h0 : atE ws ns cs s = 0
  · obtain ⟨k, rfl, hk, hv, hle, _, hq⟩ := atE_zero h0
    obtain ⟨_, _, hW, _⟩ := validE_good hv
    obtain ⟨g1, g2, _⟩ := listE_good hle
    have hG := good_of g2
    have hsum := qW_sum ws hG g1
    have hnn := qW_nn (l := cs.getD k []) hW
    have ht := take_sum_bd (ws := ws) hW ws.length (Nat.le_refl _)
    rw [List.take_length] at ht
    have hg := gk_le (cs.getD k []) (cs.getD k []).length
    have hN : atN ws ns cs k = qN ns (cs.getD k []) := by rw [atN, if_pos h0]; rfl
    rw [hq, hN, if_pos h0]
    refine ⟨?_, ?_, hsum, fun j => ?_, fun _ j => ?_⟩
    · rw [qW, wTo_len]; omega
    · have h1 := nr_len ns (cs.getD k []) (gk (cs.getD k []) (cs.getD k []).length) (gk (cs.getD k []) (cs.getD k []).length)
      have h2 : gk (cs.getD k []) (cs.getD k []).length * gk (cs.getD k []) (cs.getD k []).length ≤ 4096 * 4096 := Nat.mul_le_mul (by omega) (by omega)
      rw [qN]
      omega
    · have := take_sum_le hnn j
      omega
    · have := take_sum_le (l := ws) (fun x hx => (hW x hx).1) j
      omega
  · have hw : atW ws ns cs s = [] := by rw [atW, if_neg h0]
    have hn : atN ws ns cs s = [] := by rw [atN, if_neg h0]
    rw [hw, hn, if_neg h0]
    exact ⟨by simp, by simp, by simp, fun k => by simp, fun h => absurd h h0⟩

set_option linter.unusedSimpArgs false in
set_option maxHeartbeats 16000000 in
set_option maxRecDepth 100000 in
theorem groups_walk (A B C : Option Addr) (ca cb cc : Nat) (l m k : List Int) (at_ how by_ scale_ : Int) (w : World) (hA : SI w A l) (hB : SI w B m) (hC : SI w C k) (hwl : W64 l) (hwm : W64 m) (hwk : W64 k)
    (h1 : -9223372036854775808 ≤ at_ ∧ at_ ≤ 9223372036854775807) (h2 : -9223372036854775808 ≤ how ∧ how ≤ 9223372036854775807) (h3 : -9223372036854775808 ≤ by_ ∧ by_ ≤ 9223372036854775807) (h4 : -9223372036854775808 ≤ scale_ ∧ scale_ ≤ 9223372036854775807) :
    Calls Try.prog 7 #[.slice A l.length ca, .slice B m.length cb, .slice C k.length cc, .int .i64 at_, .int .i64 how, .int .i64 by_, .int .i64 scale_] w fun e w' => e = .returned (.bool true) ∧ Below w.heap.size w w' := by
  go_enter Try.func7, Try.ntmps7
  go_wp2_with fail
  refine (graphs_any A B ca cb l m at_ how by_ w hA hB hwl hwm h1 h2 h3).mono ?_
  rintro e w1 ⟨g, gs, rfl, hG1, hb1⟩
  have HG := Lib.hid hG1
  have Hb1 := Lib.hid hb1
  have Hk := Lib.hid (hC.below hb1)
  have Hk := Lib.hid (fun W (hW : Below w1.heap.size w1 W) => Hk.out.below hW)
  clear hG1 hb1
  go_wp2_with fail
  go_loopw [16] (fun i wr => ∃ j : Nat, j ≤ 3 ∧ i = .int .i64 j ∧ Below w1.heap.size w1 wr) (fun i _ => 3 - (intOf i).toNat)
  case atStart => exact ⟨0, by omega, rfl, Below.refl _ _⟩
  case round =>
    obtain ⟨j, hj, rfl, hb⟩ := hrel
    by_cases hlt : j < 3
    · obtain ⟨jj, hjj⟩ : ∃ jj : Nat, Hid (2 - j = jj) := ⟨_, Lib.hid rfl⟩
      have hjv : IntKind.i64.wrap (2 - (j : Int)) = (jj : Int) := by rw [IntWalk.i64_in _ (by omega)]; have := hjj.out; omega
      have hj2 : jj < 3 := by have := hjj.out; omega
      obtain ⟨A1, c1, B1, d1, hga, hgb, hs1, hs2, hl1, hl2⟩ := HG.out j hlt
      obtain ⟨A2, c2, B2, d2, hgc, hgd, hs3, hs4, hl3, hl4⟩ := HG.out jj hj2
      generalize (gs j).1 = ws at *
      generalize (gs j).2 = ns at *
      generalize (gs jj).1 = ws2 at *
      generalize (gs jj).2 = ns2 at *
      have HSj := Lib.hid (fun W (hW : Below w1.heap.size w1 W) => And.intro ((hW.cell (World.block_lt_of_cell? _ _ hga)).trans hga) ((hW.cell (World.block_lt_of_cell? _ _ hgb)).trans hgb))
      have HSk := Lib.hid (fun W (hW : Below w1.heap.size w1 W) => And.intro ((hW.cell (World.block_lt_of_cell? _ _ hgc)).trans hgc) ((hW.cell (World.block_lt_of_cell? _ _ hgd)).trans hgd))
      have Hs1 := Lib.hid hs1
      have Hs2 := Lib.hid hs2
      have Hs3 := Lib.hid hs3
      have Hs4 := Lib.hid hs4
      have Hb := Lib.hid hb
      have hj0 : (0 : Int) ≤ (j : Int) := by omega
      have hj3 : (j : Int) < 3 := by omega
      have hk0 : (0 : Int) ≤ (jj : Int) := by omega
      have hk3 : (jj : Int) < 3 := by omega
      clear hga hgb hgc hgd hs1 hs2 hs3 hs4 hb hj
      go_upto_region 5 with fail
      go_cut [17] (fun v wx => ∃ D cL md, v = .slice D cL.length md ∧ SLL wx D cL ∧ cL.length ≤ 100 ∧ (∀ l ∈ cL, l.length ≤ 8192) ∧ Below w1.heap.size w1 wx)
      case first =>
        as_aux_lemma =>
        have HbD := Lib.hid Hb.out.drew
        have HS0 := Lib.hid (HSk.out _ HbD.out)
        refine wp_region_noPanic ?_
        refine region_H (S := fun W => W.cell? ⟨g, jj * 2, none⟩ = some (.slice A2 ws2.length c2) ∧ W.cell? ⟨g, jj * 2 + 1, none⟩ = some (.slice B2 ns2.length d2)) (by kernel_rfl) ?_
        change wpH _ _ _ _ 13 _ _ wr.drew
        refine H_takeD (k := 0) (v := .slice (some ⟨g, 0, none⟩) 3 3) (d := some 46) rfl rfl (by decide +kernel) (fun _ _ _ h => h) (Or.inl ⟨by rfl, fun W hW => by obtain ⟨s0, s1⟩ := hW; go_simp⟩) HS0.out ?_
        try simp only [Act.put, List.setIfInBounds_toArray, List.set_cons_zero, List.set_cons_succ]
        refine H_takeD (k := 1) (v := .int .i64 j) (d := some 47) rfl rfl (by decide +kernel) (fun _ _ _ h => h) (Or.inl ⟨by rfl, fun W hW => by obtain ⟨s0, s1⟩ := hW; go_simp⟩) HS0.out ?_
        try simp only [Act.put, List.setIfInBounds_toArray, List.set_cons_zero, List.set_cons_succ]
        refine H_takeD (k := 2) (v := .int .i64 jj) (d := some 48) rfl rfl (by decide +kernel) (fun _ _ _ h => h) (Or.inl ⟨by rfl, fun W hW => by obtain ⟨s0, s1⟩ := hW; go_simp⟩) HS0.out ?_
        try simp only [Act.put, List.setIfInBounds_toArray, List.set_cons_zero, List.set_cons_succ]
        refine H_takeD (k := 3) (v := .pointer (some ⟨g, jj * 2, none⟩)) (d := some 49) rfl rfl (by decide +kernel) (fun _ _ _ h => h) (Or.inl ⟨by rfl, fun W hW => by obtain ⟨s0, s1⟩ := hW; go_simp⟩) HS0.out ?_
        try simp only [Act.put, List.setIfInBounds_toArray, List.set_cons_zero, List.set_cons_succ]
        refine H_takeD (k := 4) (v := .agg #[.slice A2 ws2.length c2, .slice B2 ns2.length d2]) (d := some 50) rfl rfl (by decide +kernel) (fun _ _ _ h => h) (Or.inl ⟨by rfl, fun W hW => by obtain ⟨s0, s1⟩ := hW; go_simp⟩) HS0.out ?_
        try simp only [Act.put, List.setIfInBounds_toArray, List.set_cons_zero, List.set_cons_succ]
        refine H_takeD (k := 5) (v := .slice C k.length cc) (d := some 51) rfl rfl (by decide +kernel) (fun _ _ _ h => h) (Or.inl ⟨by rfl, fun W hW => by obtain ⟨s0, s1⟩ := hW; go_simp⟩) HS0.out ?_
        try simp only [Act.put, List.setIfInBounds_toArray, List.set_cons_zero, List.set_cons_succ]
        refine H_one (i := 6) (by decide +kernel) (H_step rfl rfl (fun K hK6 => ?_))
        have hK6 := Lib.hid hK6
        go_simp
        go_at_call 23
        refine (least_any C cc k _ (Hk.out _ HbD.out) hwk).mono ?_
        rintro e w2 ⟨v3, ls, rfl, hown3, hT, hb2⟩
        obtain ⟨A3, c3, rfl⟩ := own_slice hown3
        have n1 := hT.n1
        have n2 := hT.n2
        have Hls := Lib.hid (own_si hown3)
        have Hb2 := Lib.hid (HbD.out.trans (hb2.mono HbD.out.size))
        have HS2 := Lib.hid (HSk.out _ Hb2.out)
        clear hown3 hT hb2
        refine hK6.out _ _ HS2.out ?_
        try simp only [Act.put, List.setIfInBounds_toArray, List.set_cons_zero, List.set_cons_succ]
        refine H_one (i := 7) (by decide +kernel) (H_step rfl rfl (fun K hK7 => ?_))
        have hK7 := Lib.hid hK7
        go_simp
        go_at_call 16
        refine (refOf_any A2 B2 A3 c2 d2 c3 ws2 ns2 ls w2 (Hs3.out.below Hb2.out) (Hs4.out.below Hb2.out) Hls.out (by omega) (by omega) (by omega)).mono ?_
        rintro e w3 ⟨D3, m3, rfl, hll, hb3⟩
        have HL1 := Lib.hid (ofL_le' (ws := ws2) (ns := ns2) (ls := ls))
        have HL2 := Lib.hid (fun (l : List Int) (hl : l ∈ ofL ws2 ns2 ls) => (show l.length ≤ 4096 by have := ofL_lens (ws := ws2) (ns := ns2) (ls := ls) l hl; omega))
        generalize ofL ws2 ns2 ls = L at *
        generalize ofE ws2 ns2 ls = oe at *
        have Hll := Lib.hid hll
        have Hb3 := Lib.hid (Hb2.out.trans (hb3.mono Hb2.out.size))
        have HS3 := Lib.hid (HSk.out _ Hb3.out)
        clear hll hb3
        refine hK7.out _ _ HS3.out ?_
        try simp only [Act.put, List.setIfInBounds_toArray, List.set_cons_zero, List.set_cons_succ]
        refine H_takeD (k := 8) (v := .tuple #[.slice D3 L.length m3, .int .i64 oe]) (d := some 45) rfl rfl (by decide +kernel) (fun _ _ _ h => h) (Or.inl ⟨by rfl, fun W hW => by obtain ⟨s0, s1⟩ := hW; go_simp⟩) HS3.out ?_
        try simp only [Act.put, List.setIfInBounds_toArray, List.set_cons_zero, List.set_cons_succ]
        refine H_takeD (k := 9) (v := .slice D3 L.length m3) (d := some 54) rfl rfl (by decide +kernel) (fun _ _ _ h => h) (Or.inl ⟨by rfl, fun W hW => by obtain ⟨s0, s1⟩ := hW; go_simp⟩) HS3.out ?_
        try simp only [Act.put, List.setIfInBounds_toArray, List.set_cons_zero, List.set_cons_succ]
        refine H_takeD (k := 10) (v := .int .i64 oe) (d := some 55) rfl rfl (by decide +kernel) (fun _ _ _ h => h) (Or.inl ⟨by rfl, fun W hW => by obtain ⟨s0, s1⟩ := hW; go_simp⟩) HS3.out ?_
        try simp only [Act.put, List.setIfInBounds_toArray, List.set_cons_zero, List.set_cons_succ]
        refine H_one (i := 11) (by decide +kernel) (H_step rfl rfl (fun K hK11 => ?_))
        have hK11 := Lib.hid hK11
        go_simp
        refine hK11.out _ _ HS3.out ?_
        try simp only [Act.put, List.setIfInBounds_toArray, List.set_cons_zero, List.set_cons_succ]
        refine H_one (i := 12) (by decide +kernel) (H_step rfl rfl (fun K hK12 => ?_))
        have hK12 := Lib.hid hK12
        go_simp
        refine hK12.out _ _ HS3.out ?_
        try simp only [Act.put, List.setIfInBounds_toArray, List.set_cons_zero, List.set_cons_succ]
        refine H_end (by decide +kernel) (NoPanic.normal ?_)
        try simp only [Act.put, List.setIfInBounds_toArray, List.set_cons_zero, List.set_cons_succ]
        go_wp2_with fail
        go_meet
        have h1 := HL1.out
        exact ⟨D3, L, m3, rfl, Hll.out, by omega, fun l hl => by have := HL2.out l hl; omega, Hb3.out⟩
      case rest =>
      obtain ⟨Dc, cL, mc, rfl, hcl, hcn, hcm, hbp⟩ := hcut
      obtain ⟨wp, rfl⟩ : ∃ x, x = wc := ⟨wc, rfl⟩
      have Hcl := Lib.hid (fun W (hW : Below wp.heap.size wp W) => hcl.below hW)
      have Hcm := Lib.hid hcm
      have Hbp := Lib.hid hbp
      have HU := Lib.hid (fun W (hW : Below wp.heap.size wp W) => hbp.trans (hW.mono hbp.size))
      have HSj := Lib.hid (fun W (hW : Below wp.heap.size wp W) => HSj.out W (HU.out W hW))
      have Hk1 := Lib.hid (fun W (hW : Below wp.heap.size wp W) => Hk.out W (HU.out W hW))
      have Hs1 := Lib.hid (Hs1.out.below hbp)
      have Hs2 := Lib.hid (Hs2.out.below hbp)
      clear hcl hcm hbp HSk Hs3 Hs4 hjj hjv Hb hk0 hk3 hj2
      go_upto_region 6 with fail
      go_cut [19, 20] (fun v v2 wx => ∃ D L md oe vs, v = .slice D (L : List (List Int)).length md ∧ v2 = .int .i64 oe ∧ wx.ownsRow wp.heap.size 22 1 (.slice D L.length md) L.length vs ∧ IL wx vs L ∧ L.length ≤ 100 ∧ (∀ l ∈ L, l.length ≤ 4096) ∧ (oe = 0 → 1 ≤ L.length) ∧ Below wp.heap.size wp wx)
      case first =>
        as_aux_lemma =>
        clear Hk
        have Hk := Lib.hid Hk1.out
        have HbD := Lib.hid (Below.refl wp.heap.size wp).drew
        have HS0 := Lib.hid (HSj.out _ HbD.out)
        refine wp_region_noPanic ?_
        refine region_H (S := fun W => W.cell? ⟨g, j * 2, none⟩ = some (.slice A1 ws.length c1) ∧ W.cell? ⟨g, j * 2 + 1, none⟩ = some (.slice B1 ns.length d1)) (by kernel_rfl) ?_
        change wpH _ _ _ _ 12 _ _ wp.drew
        refine H_takeD (k := 0) (v := .slice (some ⟨g, 0, none⟩) 3 3) (d := some 57) rfl rfl (by decide +kernel) (fun _ _ _ h => h) (Or.inl ⟨by rfl, fun W hW => by obtain ⟨s0, s1⟩ := hW; go_simp⟩) HS0.out ?_
        try simp only [Act.put, List.setIfInBounds_toArray, List.set_cons_zero, List.set_cons_succ]
        refine H_takeD (k := 1) (v := .int .i64 j) (d := some 58) rfl rfl (by decide +kernel) (fun _ _ _ h => h) (Or.inl ⟨by rfl, fun W hW => by obtain ⟨s0, s1⟩ := hW; go_simp⟩) HS0.out ?_
        try simp only [Act.put, List.setIfInBounds_toArray, List.set_cons_zero, List.set_cons_succ]
        refine H_takeD (k := 2) (v := .pointer (some ⟨g, j * 2, none⟩)) (d := some 59) rfl rfl (by decide +kernel) (fun _ _ _ h => h) (Or.inl ⟨by rfl, fun W hW => by obtain ⟨s0, s1⟩ := hW; go_simp⟩) HS0.out ?_
        try simp only [Act.put, List.setIfInBounds_toArray, List.set_cons_zero, List.set_cons_succ]
        refine H_takeD (k := 3) (v := .agg #[.slice A1 ws.length c1, .slice B1 ns.length d1]) (d := some 60) rfl rfl (by decide +kernel) (fun _ _ _ h => h) (Or.inl ⟨by rfl, fun W hW => by obtain ⟨s0, s1⟩ := hW; go_simp⟩) HS0.out ?_
        try simp only [Act.put, List.setIfInBounds_toArray, List.set_cons_zero, List.set_cons_succ]
        refine H_takeD (k := 4) (v := .slice C k.length cc) (d := some 61) rfl rfl (by decide +kernel) (fun _ _ _ h => h) (Or.inl ⟨by rfl, fun W hW => by obtain ⟨s0, s1⟩ := hW; go_simp⟩) HS0.out ?_
        try simp only [Act.put, List.setIfInBounds_toArray, List.set_cons_zero, List.set_cons_succ]
        refine H_one (i := 5) (by decide +kernel) (H_step rfl rfl (fun K hK5 => ?_))
        have hK5 := Lib.hid hK5
        go_simp
        go_at_call 23
        refine (least_any C cc k _ (Hk.out _ HbD.out) hwk).mono ?_
        rintro e w2 ⟨v3, ls, rfl, hown3, hT, hb2⟩
        obtain ⟨A3, c3, rfl⟩ := own_slice hown3
        have n1 := hT.n1
        have n2 := hT.n2
        have Hls := Lib.hid (own_si hown3)
        have Hb2 := Lib.hid (HbD.out.trans (hb2.mono HbD.out.size))
        have HS2 := Lib.hid (HSj.out _ Hb2.out)
        clear hown3 hT hb2
        refine hK5.out _ _ HS2.out ?_
        try simp only [Act.put, List.setIfInBounds_toArray, List.set_cons_zero, List.set_cons_succ]
        refine H_one (i := 6) (by decide +kernel) (H_step rfl rfl (fun K hK6 => ?_))
        have hK6 := Lib.hid hK6
        go_simp
        go_at_call 16
        refine (refOf_own A1 B1 A3 c1 d1 c3 ws ns ls w2 (Hs1.out.below Hb2.out) (Hs2.out.below Hb2.out) Hls.out (by omega) (by omega) (by omega)).mono ?_
        rintro e w3 ⟨D3, m3, vs3, rfl, hown, hIL, hb3⟩
        have HL1 := Lib.hid (ofL_le' (ws := ws) (ns := ns) (ls := ls))
        have HL3 := Lib.hid (fun h : ofE ws ns ls = 0 => ofL_len' (ws := ws) (ns := ns) (ls := ls) h)
        have HL2 := Lib.hid (fun (l : List Int) (hl : l ∈ ofL ws ns ls) => (show l.length ≤ 4096 by have := ofL_lens (ws := ws) (ns := ns) (ls := ls) l hl; omega))
        generalize ofL ws ns ls = L at *
        generalize ofE ws ns ls = oe at *
        have Hown := Lib.hid (own_mono hown Hb2.out.size)
        have HIL := Lib.hid hIL
        have Hb3 := Lib.hid (Hb2.out.trans (hb3.mono Hb2.out.size))
        have HS3 := Lib.hid (HSj.out _ Hb3.out)
        clear hown hIL hb3
        refine hK6.out _ _ HS3.out ?_
        try simp only [Act.put, List.setIfInBounds_toArray, List.set_cons_zero, List.set_cons_succ]
        refine H_takeD (k := 7) (v := .tuple #[.slice D3 L.length m3, .int .i64 oe]) (d := some 56) rfl rfl (by decide +kernel) (fun _ _ _ h => h) (Or.inl ⟨by rfl, fun W hW => by obtain ⟨s0, s1⟩ := hW; go_simp⟩) HS3.out ?_
        try simp only [Act.put, List.setIfInBounds_toArray, List.set_cons_zero, List.set_cons_succ]
        refine H_takeD (k := 8) (v := .slice D3 L.length m3) (d := some 64) rfl rfl (by decide +kernel) (fun _ _ _ h => h) (Or.inl ⟨by rfl, fun W hW => by obtain ⟨s0, s1⟩ := hW; go_simp⟩) HS3.out ?_
        try simp only [Act.put, List.setIfInBounds_toArray, List.set_cons_zero, List.set_cons_succ]
        refine H_takeD (k := 9) (v := .int .i64 oe) (d := some 65) rfl rfl (by decide +kernel) (fun _ _ _ h => h) (Or.inl ⟨by rfl, fun W hW => by obtain ⟨s0, s1⟩ := hW; go_simp⟩) HS3.out ?_
        try simp only [Act.put, List.setIfInBounds_toArray, List.set_cons_zero, List.set_cons_succ]
        refine H_one (i := 10) (by decide +kernel) (H_step rfl rfl (fun K hK10 => ?_))
        have hK10 := Lib.hid hK10
        go_simp
        refine hK10.out _ _ HS3.out ?_
        try simp only [Act.put, List.setIfInBounds_toArray, List.set_cons_zero, List.set_cons_succ]
        refine H_one (i := 11) (by decide +kernel) (H_step rfl rfl (fun K hK11 => ?_))
        have hK11 := Lib.hid hK11
        go_simp
        refine hK11.out _ _ HS3.out ?_
        try simp only [Act.put, List.setIfInBounds_toArray, List.set_cons_zero, List.set_cons_succ]
        refine H_end (by decide +kernel) (NoPanic.normal ?_)
        try simp only [Act.put, List.setIfInBounds_toArray, List.set_cons_zero, List.set_cons_succ]
        go_wp2_with fail
        go_meet
        have h1 := HL1.out
        exact ⟨D3, L, m3, oe, vs3, rfl, rfl, Hown.out, HIL.out, by omega, HL2.out, fun h => by have := HL3.out h; omega, Hb3.out⟩
      case rest =>
      obtain ⟨D, L, md, oe, vs, rfl, rfl, hown, hIL, hLn, hLm, hLp, hbq⟩ := hcut
      obtain ⟨wq, rfl⟩ : ∃ x, x = wc := ⟨wc, rfl⟩
      have Hown := Lib.hid hown
      have HIL := Lib.hid hIL
      have HLm := Lib.hid hLm
      have HLp := Lib.hid hLp
      have Hbq := Lib.hid hbq
      have hqz := hbq.size
      clear hown hIL hLm hLp hbq Hk1 Hk
      go_upto_region 7 with fail
      go_cut [74] (fun v wx => v = .bool (decide (oe = 0 ∧ 0 < (L.getD 0 []).length)) ∧ wx = wq)
      case first =>
        as_aux_lemma =>
        by_cases hoe : oe = 0
        · obtain rfl := hoe
          have hL0 := HLp.out rfl
          obtain ⟨b0, o0, B0, cc0, l0, rfl, hc0, hs0, hg0⟩ := (SLL.of_il Hown.out HIL.out).get (k := 0) (by omega)
          rw [Nat.add_zero] at hc0
          have hl04 := HLm.out l0 (List.mem_of_getElem? hg0.out)
          have hdec : Hid (decide ((0 : Int) = 0 ∧ 0 < (L.getD 0 []).length) = decide (0 < l0.length)) := by
            show _ = _
            rw [List.getD, hg0.out, Option.getD_some]
            simp
          clear hs0 hg0
          by_cases hl0 : 0 < l0.length
          · have hdt : Hid (decide (0 < l0.length) = true) := Lib.hid (decide_eq_true hl0)
            go_wp2_with fail
            go_meet
            exact ⟨by rw [hdec.out, hdt.out], rfl⟩
          · have hl0' : l0.length ≤ 0 := by omega
            have hdt : Hid (decide (0 < l0.length) = false) := Lib.hid (decide_eq_false hl0)
            clear hl0
            go_wp2_with fail
            go_meet
            exact ⟨by rw [hdec.out, hdt.out], rfl⟩
        · have hb0 : (oe == 0) = false := by simpa using hoe
          have hdec : Hid (decide (oe = 0 ∧ 0 < (L.getD 0 []).length) = false) := Lib.hid (decide_eq_false (fun h => hoe h.1))
          clear hoe
          go_wp2_with fail
          go_meet
          exact ⟨by rw [hdec.out], rfl⟩
      case rest =>
      obtain ⟨rfl, rfl⟩ := hcut
      obtain ⟨wb, rfl⟩ : ∃ x, x = wc := ⟨wc, rfl⟩
      go_upto_if 74 with fail
      go_cut [19] (fun v wx => ∃ D L md, v = .slice D (L : List (List Int)).length md ∧ SLL wx D L ∧ L.length ≤ 200 ∧ (∀ l ∈ L, l.length ≤ 8192) ∧ Below wp.heap.size wp wx)
      case first =>
        as_aux_lemma =>
        by_cases hcond : oe = 0 ∧ 0 < (L.getD 0 []).length
        · rw [decide_eq_true hcond]
          obtain ⟨rfl, hl0⟩ := hcond
          have hL0 := HLp.out rfl
          obtain ⟨gD, cD', hv, hgD, hgl⟩ := Hown.out.form (by omega)
          injection hv with hv1 hv2 hv3
          subst hv1 hv3
          obtain ⟨l0, hg0⟩ : ∃ l0, Hid (L[0]? = some l0) := ⟨L[0], List.getElem?_eq_getElem (by omega)⟩
          rw [show L.getD 0 [] = l0 by rw [List.getD, hg0.out]; rfl] at hl0
          have hvl := HIL.out.len
          obtain ⟨B0, c0, hv0, hown0⟩ := HIL.out.el 0 _ l0 (List.getElem?_eq_getElem (show 0 < vs.length by omega)) hg0.out
          obtain ⟨b1, o1, he, _, hc0⟩ := SL.of_own Hown.out 0 _ (List.getElem?_eq_getElem (show 0 < vs.length by omega))
          injection he with he
          injection he with he1 he2
          subst he1 he2
          rw [hv0] at hc0
          have hl04 := HLm.out l0 (List.mem_of_getElem? hg0.out)
          have hsi0 := own_si hown0
          have ho0 := World.ownsRow_nil wb wb.heap.size 3 1
          have Hsi0 := Lib.hid hsi0
          clear hvl hv0 hown0 hg0 hsi0
          rw [Nat.zero_add] at hc0
          go_upto_region 9 with fail
          go_cut [21] (fun v wx => ∃ gW cW, v = .slice (some ⟨gW, 0, none⟩) l0.length cW ∧ wx.ownsRow wb.heap.size 3 1 (.slice (some ⟨gW, 0, none⟩) l0.length cW) l0.length (l0.map (Value.int .i64)) ∧ Below wb.heap.size wb wx)
          case first =>
            as_aux_lemma =>
            go_wp2_with (at_builtin; refine wpList_appM (w := wb) rfl _ _ rfl elt_int ho0 (Nat.le_refl _) rfl rfl Hsi0.out (by simp) (ints_all l0) (by omega) ?_; intro v2 W2 hown2 hg2; obtain ⟨A2, c2, rfl⟩ := own_slice hown2)
            go_meet
            rw [List.nil_append, Nat.zero_add] at hown2
            have hb2 := (Below.refl wb.heap.size wb).grown hg2 (Nat.le_refl _) (fun k hk => by simp [Value.ownBlock] at hk)
            obtain ⟨gW, cW', hv, hgb, hgl⟩ := hown2.form hl0
            injection hv with hv1 hv2 hv3
            subst hv1 hv3
            exact ⟨gW, c2, rfl, hown2, hb2⟩
          case rest =>
          obtain ⟨gW, cW, rfl, howW, hbW⟩ := hcut
          obtain ⟨wv, rfl⟩ : ∃ x, x = wc := ⟨wc, rfl⟩
          obtain ⟨_, _, hv, hgb, hgl2⟩ := howW.form hl0
          cases hv
          obtain ⟨cur, hcur, htk⟩ := own_bk howW
          obtain ⟨hk1, hk2⟩ := around_bd at_ l0.length (by omega)
          have Ha1 := Lib.hid (fun W => around_any at_ l0.length W h1.1 h1.2 (by omega) (by omega))
          generalize around at_ l0.length = k' at *
          obtain ⟨i, rfl⟩ := Int.eq_ofNat_of_zero_le hk1
          have hil : i < l0.length := by omega
          obtain ⟨hs1, hs2⟩ := around_bd by_ 4 (by omega)
          have Has := Lib.hid (fun W => around_any by_ 4 W h3.1 h3.2 (by omega) (by omega))
          generalize around by_ 4 = s' at *
          obtain ⟨s, rfl⟩ := Int.eq_ofNat_of_zero_le hs1
          obtain ⟨xk, hxk⟩ : ∃ x, cur[i]? = some (.int .i64 x) := by
            have h1 : (cur.toList.take (l0.length * 1))[i]? = some (.int .i64 l0[i]) := by rw [htk]; simp [hil]
            rw [List.getElem?_take_of_lt (by omega)] at h1
            exact ⟨l0[i], by simpa using h1⟩
          have hcura := hcur.alloc (.cells #[.int .i64 by_, .int .i64 0, .int .i64 1, .int .i64 2] 3)
          have hcwa : (wv.alloc (.cells #[.int .i64 by_, .int .i64 0, .int .i64 1, .int .i64 2] 3)).cell? ⟨gW, i, none⟩ = some (.int .i64 xk) := (hcura.cell _).trans hxk
          have hfwa := hcura.frozen i
          obtain ⟨val, hval⟩ : ∃ val, (wv.alloc (.cells #[.int .i64 by_, .int .i64 0, .int .i64 1, .int .i64 2] 3)).cell? ⟨wv.heap.size, s, none⟩ = some (.int .i64 val) := by
            have h := Bk.new wv 3 #[.int .i64 by_, .int .i64 0, .int .i64 1, .int .i64 2]
            rcases (by omega : s = 0 ∨ s = 1 ∨ s = 2 ∨ s = 3) with rfl | rfl | rfl | rfl
            · exact ⟨_, h.cell 0⟩
            · exact ⟨_, h.cell 1⟩
            · exact ⟨_, h.cell 2⟩
            · exact ⟨_, h.cell 3⟩
          have j1 : (0 : Int) ≤ (s : Int) := by omega
          have j2 : (s : Int) < 4 := by omega
          have j6 : (0 : Int) ≤ (i : Int) := by omega
          have HowW := Lib.hid howW
          have HbW := Lib.hid hbW
          clear hcur hcura hxk htk hk1 hs1 howW hbW ho0 hc0
          go_wp2_with fail
          refine (Ha1.out _).mono ?_
          rintro e w' ⟨rfl, rfl⟩
          go_wp2_with fail
          refine (Has.out _).mono ?_
          rintro e w' ⟨rfl, rfl⟩
          have hown3 := own_put (i := i) (HowW.out.alloc (.cells #[.int .i64 by_, .int .i64 0, .int .i64 1, .int .i64 2] 3)) (.int .i64 val)
          rw [← List.map_set] at hown3
          have hb3 : Below wb.heap.size wb ((wv.alloc (.cells #[.int .i64 by_, .int .i64 0, .int .i64 1, .int .i64 2] 3)).setCell ⟨gW, i, none⟩ (.int .i64 val)) := (HbW.out.alloc HbW.out.size (.cells #[.int .i64 by_, .int .i64 0, .int .i64 1, .int .i64 2] 3)).setCell (p := ⟨gW, i, none⟩) hgb (.int .i64 val)
          have hownD := own_below Hown.out hb3
          have hILD := HIL.out.below hb3
          have hsz3 := hb3.size
          clear Ha1 Has hgl2
          go_upto_region 11 with fail
          generalize hWF : (wv.alloc (.cells #[.int .i64 by_, .int .i64 0, .int .i64 1, .int .i64 2] 3)).setCell ⟨gW, i, none⟩ (.int .i64 val) = W3 at *
          clear hWF
          go_wp2_with (at_builtin; refine wpList_app2 (w := W3) rfl _ _ rfl elt_lists hownD (by omega) rfl rfl (by simp) rfl rfl (by omega) ?_; intro v4 W4 hown4 hg4 hz4; obtain ⟨D4, m4, rfl⟩ := own_slice hown4)
          go_meet
          have hlen : (l0.set i val).length = l0.length := by simp
          have hIL2 := hILD.snoc (B := some ⟨gW, 0, none⟩) (c := cW) (l := l0.set i val) (by rw [hlen]; exact hown3)
          rw [hlen] at hIL2
          have hIL4 := hIL2.grown hownD (by decide) hg4
          refine ⟨D4, L ++ [l0.set i val], m4, by simp, SLL.of_il hown4 hIL4, by simp; omega, fun l hl => ?_, (Hbq.out.trans (hb3.mono hqz)).grown hg4 (Nat.le_trans hqz hsz3) (fun k hk => (hownD.lt k hk).1)⟩
          · rcases List.mem_append.1 hl with h | h
            · have := HLm.out l h; omega
            · simp only [List.mem_singleton] at h
              subst h
              omega
        · rw [decide_eq_false hcond]
          clear hcond
          go_wp2_with fail
          go_meet
          exact ⟨D, L, md, rfl, SLL.of_il Hown.out HIL.out, by omega, fun l hl => by have := HLm.out l hl; omega, Hbq.out⟩
      case rest =>
      obtain ⟨Dd, dL, md2, rfl, hdl, hdn, hdm, hbx⟩ := hcut
      obtain ⟨wx, rfl⟩ : ∃ x, x = wc := ⟨wc, rfl⟩
      have Hs1 := Lib.hid (Hs1.out.below hbx)
      have Hs2 := Lib.hid (Hs2.out.below hbx)
      have HU := Lib.hid (fun W (hW : Below wx.heap.size wx W) => HU.out W (hbx.trans (hW.mono hbx.size)))
      have HSj := Lib.hid (fun W (hW : Below wx.heap.size wx W) => HSj.out W (hbx.trans (hW.mono hbx.size)))
      have Hcl := Lib.hid (Hcl.out _ hbx)
      have Hdl := Lib.hid hdl
      have Hdm := Lib.hid hdm
      clear hdl hdm hbx HLm HLp Hbq Hown HIL Hbp
      go_upto_region 12 with fail
      go_cut [22] (fun v wu => ∃ kc, v = .slice (some ⟨kc, 0, none⟩) 3 3 ∧ (∀ y, y < 3 → ∃ Y ys c, wu.cell? ⟨kc, y, none⟩ = some (.slice Y (ys : List (List Int)).length c) ∧ SLL wu Y ys ∧ ys.length ≤ 200 ∧ ∀ l ∈ ys, l.length ≤ 8192) ∧ Below wx.heap.size wx wu)
      case first =>
        as_aux_lemma =>
        have Hn := Lib.hid (Bk.new wx 25 #[.slice Dc cL.length mc, .slice Dd dL.length md2, .slice none 0 0])
        have Hx := Lib.hid ((Below.refl wx.heap.size wx).alloc (Nat.le_refl _) (.cells #[.slice Dc cL.length mc, .slice Dd dL.length md2, .slice none 0 0] 25))
        go_wp2_with fail
        go_meet
        refine ⟨wx.heap.size, rfl, fun y hy => ?_, Hx.out⟩
        rcases (by omega : y = 0 ∨ y = 1 ∨ y = 2) with rfl | rfl | rfl
        · exact ⟨Dc, cL, mc, Hn.out.cell 0, Hcl.out.below Hx.out, by omega, Hcm.out⟩
        · exact ⟨Dd, dL, md2, Hn.out.cell 1, Hdl.out.below Hx.out, by omega, Hdm.out⟩
        · exact ⟨none, [], 0, Hn.out.cell 2, ⟨[], SL.nil_, rfl, fun j v l hv => by simp at hv⟩, by simp, fun l hl => by simp at hl⟩
      case rest =>
      obtain ⟨kc, rfl, hchs, hb12⟩ := hcut
      obtain ⟨wu, rfl⟩ : ∃ x, x = wc := ⟨wc, rfl⟩
      have Hs1 := Lib.hid (Hs1.out.below hb12)
      have Hs2 := Lib.hid (Hs2.out.below hb12)
      have HU := Lib.hid (fun W (hW : Below wu.heap.size wu W) => HU.out W (hb12.trans (hW.mono hb12.size)))
      have HSj := Lib.hid (fun W (hW : Below wu.heap.size wu W) => HSj.out W (hb12.trans (hW.mono hb12.size)))
      have Hchs := Lib.hid hchs
      clear hchs hb12 Hcl Hdl Hdm Hcm
      go_wp2_with fail
      go_loopw [23] (fun v wr => ∃ y : Nat, y ≤ 3 ∧ v = .int .i64 y ∧ Below wu.heap.size wu wr) (fun v _ => 3 - (intOf v).toNat)
      case atStart => exact ⟨0, by omega, rfl, Below.refl _ _⟩
      case round =>
        obtain ⟨y, hy3, rfl, hb⟩ := hrel
        by_cases hly : y < 3
        · obtain ⟨Y, ys, cy, hcY, hsY, hnY, hmY⟩ := Hchs.out y hly
          have HSy := Lib.hid (fun W (hW : Below wu.heap.size wu W) => (hW.cell (World.block_lt_of_cell? _ _ hcY)).trans hcY)
          have HsY := Lib.hid hsY
          have HmY := Lib.hid hmY
          have Hb := Lib.hid hb
          have hy0 : (0 : Int) ≤ (y : Int) := by omega
          have hy3' : (y : Int) < 3 := by omega
          have hwn : IntKind.i64.wrap ((ys.length : Int) + 1) = (ys.length : Int) + 1 := IntWalk.i64_in _ (by omega)
          have hwm : IntKind.i64.wrap ((ys.length : Int) - 1) = (ys.length : Int) - 1 := IntWalk.i64_in _ (by omega)
          have Har := Lib.hid (fun W => around_any scale_ ((ys.length : Int) + 1) W h4.1 h4.2 (by omega) (by omega))
          generalize around scale_ ((ys.length : Int) + 1) = ar at *
          clear hcY hsY hmY hb hy3
          go_upto_region 16 with fail
          go_cut [24] (fun v wx => ∃ kb, v = .slice (some ⟨kb, 0, none⟩) 4 4 ∧ (∀ n, n < 4 → ∃ s, wx.cell? ⟨kb, n, none⟩ = some (.int .i64 s)) ∧ Below wu.heap.size wu wx)
          case first =>
            as_aux_lemma =>
            have HbD := Lib.hid Hb.out.drew
            have HS0 := Lib.hid (HSy.out _ HbD.out)
            refine wp_region_noPanic ?_
            refine region_H (S := fun W => W.cell? ⟨kc, y, none⟩ = some (.slice Y ys.length cy)) (by kernel_rfl) ?_
            change wpH _ _ _ _ 17 _ _ wr.drew
            refine H_takeD (k := 0) (v := .int .i64 scale_) (d := some 103) rfl rfl (by decide +kernel) (fun _ _ _ h => h) (Or.inl ⟨by rfl, fun W hW => by have s0 := hW; go_simp⟩) HS0.out ?_
            try simp only [Act.put, List.setIfInBounds_toArray, List.set_cons_zero, List.set_cons_succ]
            refine H_takeD (k := 1) (v := .slice (some ⟨kc, 0, none⟩) 3 3) (d := some 104) rfl rfl (by decide +kernel) (fun _ _ _ h => h) (Or.inl ⟨by rfl, fun W hW => by have s0 := hW; go_simp⟩) HS0.out ?_
            try simp only [Act.put, List.setIfInBounds_toArray, List.set_cons_zero, List.set_cons_succ]
            refine H_takeD (k := 2) (v := .int .i64 y) (d := some 105) rfl rfl (by decide +kernel) (fun _ _ _ h => h) (Or.inl ⟨by rfl, fun W hW => by have s0 := hW; go_simp⟩) HS0.out ?_
            try simp only [Act.put, List.setIfInBounds_toArray, List.set_cons_zero, List.set_cons_succ]
            refine H_takeD (k := 3) (v := .pointer (some ⟨kc, y, none⟩)) (d := some 106) rfl rfl (by decide +kernel) (fun _ _ _ h => h) (Or.inl ⟨by rfl, fun W hW => by have s0 := hW; go_simp⟩) HS0.out ?_
            try simp only [Act.put, List.setIfInBounds_toArray, List.set_cons_zero, List.set_cons_succ]
            refine H_takeD (k := 4) (v := .slice Y ys.length cy) (d := some 107) rfl rfl (by decide +kernel) (fun _ _ _ h => h) (Or.inl ⟨by rfl, fun W hW => by have s0 := hW; go_simp⟩) HS0.out ?_
            try simp only [Act.put, List.setIfInBounds_toArray, List.set_cons_zero, List.set_cons_succ]
            refine H_takeD (k := 5) (v := .int .i64 ys.length) (d := some 108) rfl rfl (by decide +kernel) (fun _ _ _ h => h) (Or.inl ⟨by rfl, fun W hW => by have s0 := hW; go_simp⟩) HS0.out ?_
            try simp only [Act.put, List.setIfInBounds_toArray, List.set_cons_zero, List.set_cons_succ]
            refine H_takeD (k := 6) (v := .int .i64 ((ys.length : Int) + 1)) (d := some 109) rfl rfl (by decide +kernel) (fun _ _ _ h => h) (Or.inl ⟨by rfl, fun W hW => by have s0 := hW; go_simp⟩) HS0.out ?_
            try simp only [Act.put, List.setIfInBounds_toArray, List.set_cons_zero, List.set_cons_succ]
            refine H_takeD (k := 8) (v := .int .i64 scale_) (d := some 111) rfl rfl (by decide +kernel) (fun _ _ _ h => h) (Or.inl ⟨by rfl, fun W hW => by have s0 := hW; go_simp⟩) HS0.out ?_
            try simp only [Act.put, List.setIfInBounds_toArray, List.set_cons_zero, List.set_cons_succ]
            refine H_takeD (k := 9) (v := .slice (some ⟨kc, 0, none⟩) 3 3) (d := some 112) rfl rfl (by decide +kernel) (fun _ _ _ h => h) (Or.inl ⟨by rfl, fun W hW => by have s0 := hW; go_simp⟩) HS0.out ?_
            try simp only [Act.put, List.setIfInBounds_toArray, List.set_cons_zero, List.set_cons_succ]
            refine H_takeD (k := 10) (v := .int .i64 y) (d := some 113) rfl rfl (by decide +kernel) (fun _ _ _ h => h) (Or.inl ⟨by rfl, fun W hW => by have s0 := hW; go_simp⟩) HS0.out ?_
            try simp only [Act.put, List.setIfInBounds_toArray, List.set_cons_zero, List.set_cons_succ]
            refine H_takeD (k := 11) (v := .pointer (some ⟨kc, y, none⟩)) (d := some 114) rfl rfl (by decide +kernel) (fun _ _ _ h => h) (Or.inl ⟨by rfl, fun W hW => by have s0 := hW; go_simp⟩) HS0.out ?_
            try simp only [Act.put, List.setIfInBounds_toArray, List.set_cons_zero, List.set_cons_succ]
            refine H_takeD (k := 12) (v := .slice Y ys.length cy) (d := some 115) rfl rfl (by decide +kernel) (fun _ _ _ h => h) (Or.inl ⟨by rfl, fun W hW => by have s0 := hW; go_simp⟩) HS0.out ?_
            try simp only [Act.put, List.setIfInBounds_toArray, List.set_cons_zero, List.set_cons_succ]
            refine H_takeD (k := 13) (v := .int .i64 ys.length) (d := some 116) rfl rfl (by decide +kernel) (fun _ _ _ h => h) (Or.inl ⟨by rfl, fun W hW => by have s0 := hW; go_simp⟩) HS0.out ?_
            try simp only [Act.put, List.setIfInBounds_toArray, List.set_cons_zero, List.set_cons_succ]
            refine H_takeD (k := 14) (v := .int .i64 ((ys.length : Int) - 1)) (d := some 117) rfl rfl (by decide +kernel) (fun _ _ _ h => h) (Or.inl ⟨by rfl, fun W hW => by have s0 := hW; go_simp⟩) HS0.out ?_
            try simp only [Act.put, List.setIfInBounds_toArray, List.set_cons_zero, List.set_cons_succ]
            refine H_one (i := 7) (by decide +kernel) (H_step rfl rfl (fun K hK14 => ?_))
            have hK14 := Lib.hid hK14
            go_simp
            go_at_call 18
            refine (Har.out _).mono ?_
            rintro e w' ⟨rfl, rfl⟩
            refine hK14.out _ _ HS0.out ?_
            try simp only [Act.put, List.setIfInBounds_toArray, List.set_cons_zero, List.set_cons_succ]
            refine H_one (i := 15) (by decide +kernel) (H_step rfl rfl (fun K hK15 => ?_))
            have hK15 := Lib.hid hK15
            go_simp
            have HbV := Lib.hid (HbD.out.alloc HbD.out.size (.cells #[.int .i64 ar, .int .i64 scale_, .int .i64 (-1), .int .i64 ((ys.length : Int) - 1)] 3))
            have HkV := Lib.hid (Bk.new wr.drew 3 #[.int .i64 ar, .int .i64 scale_, .int .i64 (-1), .int .i64 ((ys.length : Int) - 1)])
            have HS1 := Lib.hid (HSy.out _ HbV.out)
            refine hK15.out _ _ HS1.out ?_
            try simp only [Act.put, List.setIfInBounds_toArray, List.set_cons_zero, List.set_cons_succ]
            refine H_one (i := 16) (by decide +kernel) (H_step rfl rfl (fun K hK16 => ?_))
            have hK16 := Lib.hid hK16
            go_simp
            refine hK16.out _ _ HS1.out ?_
            try simp only [Act.put, List.setIfInBounds_toArray, List.set_cons_zero, List.set_cons_succ]
            refine H_end (by decide +kernel) (NoPanic.normal ?_)
            try simp only [Act.put, List.setIfInBounds_toArray, List.set_cons_zero, List.set_cons_succ]
            go_wp2_with fail
            go_meet
            refine ⟨wr.heap.size, rfl, fun n hn => ?_, HbV.out⟩
            rcases (by omega : n = 0 ∨ n = 1 ∨ n = 2 ∨ n = 3) with rfl | rfl | rfl | rfl
            · exact ⟨_, HkV.out.cell 0⟩
            · exact ⟨_, HkV.out.cell 1⟩
            · exact ⟨_, HkV.out.cell 2⟩
            · exact ⟨_, HkV.out.cell 3⟩
          case rest =>
          obtain ⟨kb, rfl, hkb, hb16⟩ := hcut
          obtain ⟨wv, rfl⟩ : ∃ x, x = wc := ⟨wc, rfl⟩
          have Hkb := Lib.hid hkb
          have Hb16 := Lib.hid hb16
          have HSy := Lib.hid (fun W (hW : Below wv.heap.size wv W) => HSy.out W (hb16.trans (hW.mono hb16.size)))
          have HsY := Lib.hid (HsY.out.below hb16)
          have Hs1 := Lib.hid (Hs1.out.below hb16)
          have Hs2 := Lib.hid (Hs2.out.below hb16)
          have HSj := Lib.hid (fun W (hW : Below wv.heap.size wv W) => HSj.out W (hb16.trans (hW.mono hb16.size)))
          clear hkb hb16 hwn hwm Har Hb
          go_wp2_with fail
          go_loopw [25] (fun v wr => ∃ n : Nat, n ≤ 4 ∧ v = .int .i64 n ∧ Below wv.heap.size wv wr) (fun v _ => 4 - (intOf v).toNat)
          case atStart => exact ⟨0, by omega, rfl, Below.refl _ _⟩
          case round =>
            obtain ⟨n, hn4, rfl, hb⟩ := hrel
            by_cases hln : n < 4
            · obtain ⟨s, hcs⟩ := Hkb.out n hln
              have HSq := Lib.hid (fun W (hW : Below wv.heap.size wv W) => And.intro (HSj.out W hW).1 (And.intro (HSj.out W hW).2 (And.intro (HSy.out W hW) ((hW.cell (World.block_lt_of_cell? _ _ hcs)).trans hcs))))
              have Hb := Lib.hid hb
              have hn0 : (0 : Int) ≤ (n : Int) := by omega
              have hn4' : (n : Int) < 4 := by omega
              have hat := fun W (hW : Below wv.heap.size wv W) => at_any A1 B1 Y c1 d1 cy ws ns ys s W (Hs1.out.below hW) (Hs2.out.below hW) (HsY.out.below hW) (by omega) (by omega) (fun l hl => by have := HmY.out l hl; omega)
              have hrat := fun W (hW : Below wv.heap.size wv W) => refAt_any A1 B1 Y c1 d1 cy ws ns ys s W (Hs1.out.below hW) (Hs2.out.below hW) (HsY.out.below hW) (by omega) (by omega) (fun l hl => by have := HmY.out l hl; omega)
              obtain ⟨hTl, hNl, hsT, hpT, hpW⟩ := atW_sums ws ns ys s hl1
              generalize atW ws ns ys s = TW at *
              generalize atN ws ns ys s = TN at *
              generalize atE ws ns ys s = E0 at *
              have Hat := Lib.hid hat
              have Hrat := Lib.hid hrat
              have HsT := Lib.hid hsT
              have HpT := Lib.hid hpT
              have HpW := Lib.hid hpW
              clear hat hrat hsT hpT hpW hcs hb hn4
              go_upto_region 20 with fail
              go_cut [26, 27] (fun v v2 wx => ∃ pa X x Y9 y9, v = .pointer (some ⟨pa, 0, none⟩) ∧ v2 = .int .i64 E0 ∧ Bk wx pa 31 #[.slice X TW.length x, .slice Y9 TN.length y9] ∧ SI wx X TW ∧ ST wx Y9 TN ∧ Below wv.heap.size wv wx)
              case first =>
                as_aux_lemma =>
                have HbD := Lib.hid Hb.out.drew
                have HS0 := Lib.hid (HSq.out _ HbD.out)
                refine wp_region_noPanic ?_
                refine region_H (S := fun W => W.cell? ⟨g, j * 2, none⟩ = some (.slice A1 ws.length c1) ∧ W.cell? ⟨g, j * 2 + 1, none⟩ = some (.slice B1 ns.length d1) ∧ W.cell? ⟨kc, y, none⟩ = some (.slice Y ys.length cy) ∧ W.cell? ⟨kb, n, none⟩ = some (.int .i64 s)) (by kernel_rfl) ?_
                change wpH _ _ _ _ 21 _ _ wr.drew
                refine H_takeD (k := 0) (v := .slice (some ⟨g, 0, none⟩) 3 3) (d := some 124) rfl rfl (by decide +kernel) (fun _ _ _ h => h) (Or.inl ⟨by rfl, fun W hW => by obtain ⟨s0, s1, s2, s3⟩ := hW; go_simp⟩) HS0.out ?_
                try simp only [Act.put, List.setIfInBounds_toArray, List.set_cons_zero, List.set_cons_succ]
                refine H_takeD (k := 1) (v := .int .i64 j) (d := some 125) rfl rfl (by decide +kernel) (fun _ _ _ h => h) (Or.inl ⟨by rfl, fun W hW => by obtain ⟨s0, s1, s2, s3⟩ := hW; go_simp⟩) HS0.out ?_
                try simp only [Act.put, List.setIfInBounds_toArray, List.set_cons_zero, List.set_cons_succ]
                refine H_takeD (k := 2) (v := .pointer (some ⟨g, j * 2, none⟩)) (d := some 126) rfl rfl (by decide +kernel) (fun _ _ _ h => h) (Or.inl ⟨by rfl, fun W hW => by obtain ⟨s0, s1, s2, s3⟩ := hW; go_simp⟩) HS0.out ?_
                try simp only [Act.put, List.setIfInBounds_toArray, List.set_cons_zero, List.set_cons_succ]
                refine H_takeD (k := 3) (v := .agg #[.slice A1 ws.length c1, .slice B1 ns.length d1]) (d := some 127) rfl rfl (by decide +kernel) (fun _ _ _ h => h) (Or.inl ⟨by rfl, fun W hW => by obtain ⟨s0, s1, s2, s3⟩ := hW; go_simp⟩) HS0.out ?_
                try simp only [Act.put, List.setIfInBounds_toArray, List.set_cons_zero, List.set_cons_succ]
                refine H_takeD (k := 5) (v := .slice (some ⟨kc, 0, none⟩) 3 3) (d := some 129) rfl rfl (by decide +kernel) (fun _ _ _ h => h) (Or.inl ⟨by rfl, fun W hW => by obtain ⟨s0, s1, s2, s3⟩ := hW; go_simp⟩) HS0.out ?_
                try simp only [Act.put, List.setIfInBounds_toArray, List.set_cons_zero, List.set_cons_succ]
                refine H_takeD (k := 6) (v := .int .i64 y) (d := some 130) rfl rfl (by decide +kernel) (fun _ _ _ h => h) (Or.inl ⟨by rfl, fun W hW => by obtain ⟨s0, s1, s2, s3⟩ := hW; go_simp⟩) HS0.out ?_
                try simp only [Act.put, List.setIfInBounds_toArray, List.set_cons_zero, List.set_cons_succ]
                refine H_takeD (k := 7) (v := .pointer (some ⟨kc, y, none⟩)) (d := some 131) rfl rfl (by decide +kernel) (fun _ _ _ h => h) (Or.inl ⟨by rfl, fun W hW => by obtain ⟨s0, s1, s2, s3⟩ := hW; go_simp⟩) HS0.out ?_
                try simp only [Act.put, List.setIfInBounds_toArray, List.set_cons_zero, List.set_cons_succ]
                refine H_takeD (k := 8) (v := .slice Y ys.length cy) (d := some 132) rfl rfl (by decide +kernel) (fun _ _ _ h => h) (Or.inl ⟨by rfl, fun W hW => by obtain ⟨s0, s1, s2, s3⟩ := hW; go_simp⟩) HS0.out ?_
                try simp only [Act.put, List.setIfInBounds_toArray, List.set_cons_zero, List.set_cons_succ]
                refine H_takeD (k := 9) (v := .agg #[.slice Y ys.length cy]) (d := some 133) rfl rfl (by decide +kernel) (fun _ _ _ h => h) (Or.inl ⟨by rfl, fun W hW => by obtain ⟨s0, s1, s2, s3⟩ := hW; go_simp⟩) HS0.out ?_
                try simp only [Act.put, List.setIfInBounds_toArray, List.set_cons_zero, List.set_cons_succ]
                refine H_takeD (k := 10) (v := .slice (some ⟨kb, 0, none⟩) 4 4) (d := some 134) rfl rfl (by decide +kernel) (fun _ _ _ h => h) (Or.inl ⟨by rfl, fun W hW => by obtain ⟨s0, s1, s2, s3⟩ := hW; go_simp⟩) HS0.out ?_
                try simp only [Act.put, List.setIfInBounds_toArray, List.set_cons_zero, List.set_cons_succ]
                refine H_takeD (k := 11) (v := .int .i64 n) (d := some 135) rfl rfl (by decide +kernel) (fun _ _ _ h => h) (Or.inl ⟨by rfl, fun W hW => by obtain ⟨s0, s1, s2, s3⟩ := hW; go_simp⟩) HS0.out ?_
                try simp only [Act.put, List.setIfInBounds_toArray, List.set_cons_zero, List.set_cons_succ]
                refine H_takeD (k := 12) (v := .pointer (some ⟨kb, n, none⟩)) (d := some 136) rfl rfl (by decide +kernel) (fun _ _ _ h => h) (Or.inl ⟨by rfl, fun W hW => by obtain ⟨s0, s1, s2, s3⟩ := hW; go_simp⟩) HS0.out ?_
                try simp only [Act.put, List.setIfInBounds_toArray, List.set_cons_zero, List.set_cons_succ]
                refine H_takeD (k := 13) (v := .int .i64 s) (d := some 137) rfl rfl (by decide +kernel) (fun _ _ _ h => h) (Or.inl ⟨by rfl, fun W hW => by obtain ⟨s0, s1, s2, s3⟩ := hW; go_simp⟩) HS0.out ?_
                try simp only [Act.put, List.setIfInBounds_toArray, List.set_cons_zero, List.set_cons_succ]
                refine H_two (i := 4) (j := 18) (by decide +kernel) (H_step rfl rfl (fun K hK13 => ?_)) (H_step rfl rfl (fun K hK13 => ?_))
                · have hK13 := Lib.hid hK13
                  go_simp
                  go_at_call 13
                  refine (own_any A1 B1 c1 d1 ws.length ns.length _).mono ?_
                  rintro e wO ⟨rfl, hbO⟩
                  have HbO := Lib.hid (HbD.out.trans (hbO.mono HbD.out.size))
                  have HSO := Lib.hid (HSq.out _ HbO.out)
                  clear hbO
                  refine hK13.out _ _ HSO.out ?_
                  try simp only [Act.put, List.setIfInBounds_toArray, List.set_cons_zero, List.set_cons_succ]
                  refine H_two (i := 14) (j := 18) (by decide +kernel) (H_step rfl rfl (fun K hK14 => ?_)) (H_step rfl rfl (fun K hK14 => ?_))
                  · have hK14 := Lib.hid hK14
                    go_simp
                    go_at_call 36
                    refine (Hat.out _ HbO.out).mono ?_
                    rintro e wA ⟨X, x, Y9, y9, rfl, hX, hY9, hbA⟩
                    have HbA := Lib.hid (HbO.out.trans (hbA.mono HbO.out.size))
                    have HSA := Lib.hid (HSq.out _ HbA.out)
                    have HX := Lib.hid hX
                    have HY9 := Lib.hid hY9
                    clear hbA hX hY9
                    refine hK14.out _ _ HSA.out ?_
                    try simp only [Act.put, List.setIfInBounds_toArray, List.set_cons_zero, List.set_cons_succ]
                    refine H_takeD (k := 15) (v := .tuple #[.agg #[.slice X TW.length x, .slice Y9 TN.length y9], .int .i64 E0]) (d := some 123) rfl rfl (by decide +kernel) (fun _ _ _ h => h) (Or.inl ⟨by rfl, fun W hW => by obtain ⟨s0, s1, s2, s3⟩ := hW; go_simp⟩) HSA.out ?_
                    try simp only [Act.put, List.setIfInBounds_toArray, List.set_cons_zero, List.set_cons_succ]
                    refine H_takeD (k := 16) (v := .agg #[.slice X TW.length x, .slice Y9 TN.length y9]) (d := some 139) rfl rfl (by decide +kernel) (fun _ _ _ h => h) (Or.inl ⟨by rfl, fun W hW => by obtain ⟨s0, s1, s2, s3⟩ := hW; go_simp⟩) HSA.out ?_
                    try simp only [Act.put, List.setIfInBounds_toArray, List.set_cons_zero, List.set_cons_succ]
                    refine H_takeD (k := 17) (v := .int .i64 E0) (d := some 140) rfl rfl (by decide +kernel) (fun _ _ _ h => h) (Or.inl ⟨by rfl, fun W hW => by obtain ⟨s0, s1, s2, s3⟩ := hW; go_simp⟩) HSA.out ?_
                    try simp only [Act.put, List.setIfInBounds_toArray, List.set_cons_zero, List.set_cons_succ]
                    refine H_one (i := 18) (by decide +kernel) (H_step rfl rfl (fun K hK18 => ?_))
                    have hK18 := Lib.hid hK18
                    go_simp
                    have HbN := Lib.hid (HbA.out.alloc HbA.out.size (.cells #[.slice none 0 0, .slice none 0 0] 31))
                    have HkN := Lib.hid (Bk.new (wA) 31 #[.slice none 0 0, .slice none 0 0])
                    have hpa := HbA.out.size
                    have HSN := Lib.hid (HSq.out _ HbN.out)
                    have HX0 := HX
                    have HY0 := HY9
                    have HX := Lib.hid (HX.out.below ((Below.refl _ _).alloc (Nat.le_refl _) (.cells #[.slice none 0 0, .slice none 0 0] 31)))
                    have HY9 := Lib.hid (HY9.out.below ((Below.refl _ _).alloc (Nat.le_refl _) (.cells #[.slice none 0 0, .slice none 0 0] 31)))
                    refine hK18.out _ _ HSN.out ?_
                    try simp only [Act.put, List.setIfInBounds_toArray, List.set_cons_zero, List.set_cons_succ]
                    refine H_one (i := 19) (by decide +kernel) (H_step rfl rfl (fun K hK19 => ?_))
                    have hK19 := Lib.hid hK19
                    go_simp
                    have HkS := Lib.hid (Bk.new (wA) 31 #[.slice X TW.length x, .slice Y9 TN.length y9])
                    have HbS := Lib.hid (HbA.out.alloc HbA.out.size (.cells #[.slice X TW.length x, .slice Y9 TN.length y9] 31))
                    have HXS := Lib.hid (HX0.out.below ((Below.refl _ _).alloc (Nat.le_refl _) (.cells #[.slice X TW.length x, .slice Y9 TN.length y9] 31)))
                    have HYS := Lib.hid (HY0.out.below ((Below.refl _ _).alloc (Nat.le_refl _) (.cells #[.slice X TW.length x, .slice Y9 TN.length y9] 31)))
                    have HSS := Lib.hid (HSq.out _ HbS.out)
                    refine hK19.out _ _ HSS.out ?_
                    try simp only [Act.put, List.setIfInBounds_toArray, List.set_cons_zero, List.set_cons_succ]
                    refine H_one (i := 20) (by decide +kernel) (H_step rfl rfl (fun K hK20 => ?_))
                    have hK20 := Lib.hid hK20
                    go_simp
                    refine hK20.out _ _ HSS.out ?_
                    try simp only [Act.put, List.setIfInBounds_toArray, List.set_cons_zero, List.set_cons_succ]
                    refine H_end (by decide +kernel) (NoPanic.normal ?_)
                    try simp only [Act.put, List.setIfInBounds_toArray, List.set_cons_zero, List.set_cons_succ]
                    go_wp2_with fail
                    go_meet
                    exact ⟨_, X, x, Y9, y9, rfl, rfl, HkS.out, HXS.out, HYS.out, HbS.out⟩
                  · have hK14 := Lib.hid hK14
                    go_simp
                    have HbN := Lib.hid (HbO.out.alloc HbO.out.size (.cells #[.slice none 0 0, .slice none 0 0] 31))
                    have HkN := Lib.hid (Bk.new (wO) 31 #[.slice none 0 0, .slice none 0 0])
                    have hpa := HbO.out.size
                    have HSN := Lib.hid (HSq.out _ HbN.out)
                    refine hK14.out _ _ HSN.out ?_
                    try simp only [Act.put, List.setIfInBounds_toArray, List.set_cons_zero, List.set_cons_succ]
                    refine H_one (i := 14) (by decide +kernel) (H_step rfl rfl (fun K hK15 => ?_))
                    have hK15 := Lib.hid hK15
                    go_simp
                    go_at_call 36
                    refine (Hat.out _ HbN.out).mono ?_
                    rintro e wA ⟨X, x, Y9, y9, rfl, hX, hY9, hbA⟩
                    have HbA := Lib.hid (HbN.out.trans (hbA.mono HbN.out.size))
                    have HSA := Lib.hid (HSq.out _ HbA.out)
                    have HX := Lib.hid hX
                    have HY9 := Lib.hid hY9
                    have HkA := Lib.hid (HkN.out.below hbA HkN.out.lt)
                    clear hbA hX hY9
                    refine hK15.out _ _ HSA.out ?_
                    try simp only [Act.put, List.setIfInBounds_toArray, List.set_cons_zero, List.set_cons_succ]
                    refine H_takeD (k := 15) (v := .tuple #[.agg #[.slice X TW.length x, .slice Y9 TN.length y9], .int .i64 E0]) (d := some 123) rfl rfl (by decide +kernel) (fun _ _ _ h => h) (Or.inl ⟨by rfl, fun W hW => by obtain ⟨s0, s1, s2, s3⟩ := hW; go_simp⟩) HSA.out ?_
                    try simp only [Act.put, List.setIfInBounds_toArray, List.set_cons_zero, List.set_cons_succ]
                    refine H_takeD (k := 16) (v := .agg #[.slice X TW.length x, .slice Y9 TN.length y9]) (d := some 139) rfl rfl (by decide +kernel) (fun _ _ _ h => h) (Or.inl ⟨by rfl, fun W hW => by obtain ⟨s0, s1, s2, s3⟩ := hW; go_simp⟩) HSA.out ?_
                    try simp only [Act.put, List.setIfInBounds_toArray, List.set_cons_zero, List.set_cons_succ]
                    refine H_takeD (k := 17) (v := .int .i64 E0) (d := some 140) rfl rfl (by decide +kernel) (fun _ _ _ h => h) (Or.inl ⟨by rfl, fun W hW => by obtain ⟨s0, s1, s2, s3⟩ := hW; go_simp⟩) HSA.out ?_
                    try simp only [Act.put, List.setIfInBounds_toArray, List.set_cons_zero, List.set_cons_succ]
                    refine H_one (i := 19) (by decide +kernel) (H_step rfl rfl (fun K hK19 => ?_))
                    have hK19 := Lib.hid hK19
                    have hq0 : (wA).cell? ⟨(wO).heap.size, 0, none⟩ = some (.slice none 0 0) := HkA.out.cell 0
                    have hq1 : (wA).cell? ⟨(wO).heap.size, 1, none⟩ = some (.slice none 0 0) := HkA.out.cell 1
                    have hf0 : (wA).frozen? ⟨(wO).heap.size, 0, none⟩ = false := HkA.out.frozen 0
                    have hf1 : (wA).frozen? ⟨(wO).heap.size, 1, none⟩ = false := HkA.out.frozen 1
                    have hr0 : (World.setCell (wA) ⟨(wO).heap.size, 0, none⟩ (.slice X TW.length x)).cell? ⟨(wO).heap.size, 1, none⟩ = some (.slice none 0 0) := (HkA.out.set_ 0 (.slice X TW.length x)).cell 1
                    have hr1 : (World.setCell (wA) ⟨(wO).heap.size, 0, none⟩ (.slice X TW.length x)).frozen? ⟨(wO).heap.size, 1, none⟩ = false := (HkA.out.set_ 0 (.slice X TW.length x)).frozen 1
                    have HkS := Lib.hid ((HkA.out.set_ 0 (.slice X TW.length x)).set_ 1 (.slice Y9 TN.length y9))
                    have HbS := Lib.hid ((HbA.out.setCell (p := ⟨(wO).heap.size, 0, none⟩) hpa (.slice X TW.length x)).setCell (p := ⟨(wO).heap.size, 1, none⟩) hpa (.slice Y9 TN.length y9))
                    have HXS := Lib.hid (sl_two HX.out HkA.out (ints_is _) (.slice X TW.length x) (.slice Y9 TN.length y9))
                    have HYS := Lib.hid (sl_two HY9.out HkA.out (tris_is _) (.slice X TW.length x) (.slice Y9 TN.length y9))
                    have HSS := Lib.hid (HSq.out _ HbS.out)
                    go_simp
                    clear hq0 hq1 hf0 hf1 hr0 hr1
                    refine hK19.out _ _ HSS.out ?_
                    try simp only [Act.put, List.setIfInBounds_toArray, List.set_cons_zero, List.set_cons_succ]
                    refine H_one (i := 20) (by decide +kernel) (H_step rfl rfl (fun K hK20 => ?_))
                    have hK20 := Lib.hid hK20
                    go_simp
                    refine hK20.out _ _ HSS.out ?_
                    try simp only [Act.put, List.setIfInBounds_toArray, List.set_cons_zero, List.set_cons_succ]
                    refine H_end (by decide +kernel) (NoPanic.normal ?_)
                    try simp only [Act.put, List.setIfInBounds_toArray, List.set_cons_zero, List.set_cons_succ]
                    go_wp2_with fail
                    go_meet
                    exact ⟨_, X, x, Y9, y9, rfl, rfl, HkS.out, HXS.out, HYS.out, HbS.out⟩
                · have hK13 := Lib.hid hK13
                  go_simp
                  have HbN := Lib.hid (HbD.out.alloc HbD.out.size (.cells #[.slice none 0 0, .slice none 0 0] 31))
                  have HkN := Lib.hid (Bk.new (wr.drew) 31 #[.slice none 0 0, .slice none 0 0])
                  have hpa := HbD.out.size
                  have HSN := Lib.hid (HSq.out _ HbN.out)
                  refine hK13.out _ _ HSN.out ?_
                  try simp only [Act.put, List.setIfInBounds_toArray, List.set_cons_zero, List.set_cons_succ]
                  refine H_one (i := 4) (by decide +kernel) (H_step rfl rfl (fun K hK14 => ?_))
                  have hK14 := Lib.hid hK14
                  go_simp
                  go_at_call 13
                  refine (own_any A1 B1 c1 d1 ws.length ns.length _).mono ?_
                  rintro e wO ⟨rfl, hbO⟩
                  have HbO := Lib.hid (HbN.out.trans (hbO.mono HbN.out.size))
                  have HSO := Lib.hid (HSq.out _ HbO.out)
                  have HkO := Lib.hid (HkN.out.below hbO HkN.out.lt)
                  clear hbO
                  refine hK14.out _ _ HSO.out ?_
                  try simp only [Act.put, List.setIfInBounds_toArray, List.set_cons_zero, List.set_cons_succ]
                  refine H_one (i := 14) (by decide +kernel) (H_step rfl rfl (fun K hK15 => ?_))
                  have hK15 := Lib.hid hK15
                  go_simp
                  go_at_call 36
                  refine (Hat.out _ HbO.out).mono ?_
                  rintro e wA ⟨X, x, Y9, y9, rfl, hX, hY9, hbA⟩
                  have HbA := Lib.hid (HbO.out.trans (hbA.mono HbO.out.size))
                  have HSA := Lib.hid (HSq.out _ HbA.out)
                  have HX := Lib.hid hX
                  have HY9 := Lib.hid hY9
                  have HkA := Lib.hid (HkO.out.below hbA HkO.out.lt)
                  clear hbA hX hY9
                  refine hK15.out _ _ HSA.out ?_
                  try simp only [Act.put, List.setIfInBounds_toArray, List.set_cons_zero, List.set_cons_succ]
                  refine H_takeD (k := 15) (v := .tuple #[.agg #[.slice X TW.length x, .slice Y9 TN.length y9], .int .i64 E0]) (d := some 123) rfl rfl (by decide +kernel) (fun _ _ _ h => h) (Or.inl ⟨by rfl, fun W hW => by obtain ⟨s0, s1, s2, s3⟩ := hW; go_simp⟩) HSA.out ?_
                  try simp only [Act.put, List.setIfInBounds_toArray, List.set_cons_zero, List.set_cons_succ]
                  refine H_takeD (k := 16) (v := .agg #[.slice X TW.length x, .slice Y9 TN.length y9]) (d := some 139) rfl rfl (by decide +kernel) (fun _ _ _ h => h) (Or.inl ⟨by rfl, fun W hW => by obtain ⟨s0, s1, s2, s3⟩ := hW; go_simp⟩) HSA.out ?_
                  try simp only [Act.put, List.setIfInBounds_toArray, List.set_cons_zero, List.set_cons_succ]
                  refine H_takeD (k := 17) (v := .int .i64 E0) (d := some 140) rfl rfl (by decide +kernel) (fun _ _ _ h => h) (Or.inl ⟨by rfl, fun W hW => by obtain ⟨s0, s1, s2, s3⟩ := hW; go_simp⟩) HSA.out ?_
                  try simp only [Act.put, List.setIfInBounds_toArray, List.set_cons_zero, List.set_cons_succ]
                  refine H_one (i := 19) (by decide +kernel) (H_step rfl rfl (fun K hK19 => ?_))
                  have hK19 := Lib.hid hK19
                  have hq0 : (wA).cell? ⟨(wr).heap.size, 0, none⟩ = some (.slice none 0 0) := HkA.out.cell 0
                  have hq1 : (wA).cell? ⟨(wr).heap.size, 1, none⟩ = some (.slice none 0 0) := HkA.out.cell 1
                  have hf0 : (wA).frozen? ⟨(wr).heap.size, 0, none⟩ = false := HkA.out.frozen 0
                  have hf1 : (wA).frozen? ⟨(wr).heap.size, 1, none⟩ = false := HkA.out.frozen 1
                  have hr0 : (World.setCell (wA) ⟨(wr).heap.size, 0, none⟩ (.slice X TW.length x)).cell? ⟨(wr).heap.size, 1, none⟩ = some (.slice none 0 0) := (HkA.out.set_ 0 (.slice X TW.length x)).cell 1
                  have hr1 : (World.setCell (wA) ⟨(wr).heap.size, 0, none⟩ (.slice X TW.length x)).frozen? ⟨(wr).heap.size, 1, none⟩ = false := (HkA.out.set_ 0 (.slice X TW.length x)).frozen 1
                  have HkS := Lib.hid ((HkA.out.set_ 0 (.slice X TW.length x)).set_ 1 (.slice Y9 TN.length y9))
                  have HbS := Lib.hid ((HbA.out.setCell (p := ⟨(wr).heap.size, 0, none⟩) hpa (.slice X TW.length x)).setCell (p := ⟨(wr).heap.size, 1, none⟩) hpa (.slice Y9 TN.length y9))
                  have HXS := Lib.hid (sl_two HX.out HkA.out (ints_is _) (.slice X TW.length x) (.slice Y9 TN.length y9))
                  have HYS := Lib.hid (sl_two HY9.out HkA.out (tris_is _) (.slice X TW.length x) (.slice Y9 TN.length y9))
                  have HSS := Lib.hid (HSq.out _ HbS.out)
                  go_simp
                  clear hq0 hq1 hf0 hf1 hr0 hr1
                  refine hK19.out _ _ HSS.out ?_
                  try simp only [Act.put, List.setIfInBounds_toArray, List.set_cons_zero, List.set_cons_succ]
                  refine H_one (i := 20) (by decide +kernel) (H_step rfl rfl (fun K hK20 => ?_))
                  have hK20 := Lib.hid hK20
                  go_simp
                  refine hK20.out _ _ HSS.out ?_
                  try simp only [Act.put, List.setIfInBounds_toArray, List.set_cons_zero, List.set_cons_succ]
                  refine H_end (by decide +kernel) (NoPanic.normal ?_)
                  try simp only [Act.put, List.setIfInBounds_toArray, List.set_cons_zero, List.set_cons_succ]
                  go_wp2_with fail
                  go_meet
                  exact ⟨_, X, x, Y9, y9, rfl, rfl, HkS.out, HXS.out, HYS.out, HbS.out⟩
              case rest =>
              obtain ⟨pa, X, x, Y9, y9, rfl, rfl, hKa, hX, hY, hbX⟩ := hcut
              obtain ⟨wX, rfl⟩ : ∃ x, x = wc := ⟨wc, rfl⟩
              have HKa := Lib.hid hKa
              have HX := Lib.hid hX
              have HY := Lib.hid hY
              have HbX := Lib.hid hbX
              have HSq := Lib.hid (fun W (hW : Below wX.heap.size wX W) => HSq.out W (hbX.trans (hW.mono hbX.size)))
              have Hat := Lib.hid (fun W (hW : Below wX.heap.size wX W) => Hrat.out W (hbX.trans (hW.mono hbX.size)))
              clear hKa hX hY hbX Hb Hrat
              go_upto_region 21 with fail
              go_cut [28, 29] (fun v v2 wx => ∃ pb X2 x2 Y8 y8, v = .pointer (some ⟨pb, 0, none⟩) ∧ v2 = .int .i64 E0 ∧ Bk wx pb 33 #[.slice X2 TW.length x2, .slice Y8 TN.length y8] ∧ SI wx X2 TW ∧ ST wx Y8 TN ∧ Below wX.heap.size wX wx)
              case first =>
                as_aux_lemma =>
                clear HX HY HKa
                have HbD := Lib.hid (Below.refl wX.heap.size wX).drew
                have HS0 := Lib.hid (HSq.out _ HbD.out)
                refine wp_region_noPanic ?_
                refine region_H (S := fun W => W.cell? ⟨g, j * 2, none⟩ = some (.slice A1 ws.length c1) ∧ W.cell? ⟨g, j * 2 + 1, none⟩ = some (.slice B1 ns.length d1) ∧ W.cell? ⟨kc, y, none⟩ = some (.slice Y ys.length cy) ∧ W.cell? ⟨kb, n, none⟩ = some (.int .i64 s)) (by kernel_rfl) ?_
                change wpH _ _ _ _ 19 _ _ wX.drew
                refine H_takeD (k := 0) (v := .slice (some ⟨g, 0, none⟩) 3 3) (d := some 142) rfl rfl (by decide +kernel) (fun _ _ _ h => h) (Or.inl ⟨by rfl, fun W hW => by obtain ⟨s0, s1, s2, s3⟩ := hW; go_simp⟩) HS0.out ?_
                try simp only [Act.put, List.setIfInBounds_toArray, List.set_cons_zero, List.set_cons_succ]
                refine H_takeD (k := 1) (v := .int .i64 j) (d := some 143) rfl rfl (by decide +kernel) (fun _ _ _ h => h) (Or.inl ⟨by rfl, fun W hW => by obtain ⟨s0, s1, s2, s3⟩ := hW; go_simp⟩) HS0.out ?_
                try simp only [Act.put, List.setIfInBounds_toArray, List.set_cons_zero, List.set_cons_succ]
                refine H_takeD (k := 2) (v := .pointer (some ⟨g, j * 2, none⟩)) (d := some 144) rfl rfl (by decide +kernel) (fun _ _ _ h => h) (Or.inl ⟨by rfl, fun W hW => by obtain ⟨s0, s1, s2, s3⟩ := hW; go_simp⟩) HS0.out ?_
                try simp only [Act.put, List.setIfInBounds_toArray, List.set_cons_zero, List.set_cons_succ]
                refine H_takeD (k := 3) (v := .agg #[.slice A1 ws.length c1, .slice B1 ns.length d1]) (d := some 145) rfl rfl (by decide +kernel) (fun _ _ _ h => h) (Or.inl ⟨by rfl, fun W hW => by obtain ⟨s0, s1, s2, s3⟩ := hW; go_simp⟩) HS0.out ?_
                try simp only [Act.put, List.setIfInBounds_toArray, List.set_cons_zero, List.set_cons_succ]
                refine H_takeD (k := 4) (v := .slice (some ⟨kc, 0, none⟩) 3 3) (d := some 146) rfl rfl (by decide +kernel) (fun _ _ _ h => h) (Or.inl ⟨by rfl, fun W hW => by obtain ⟨s0, s1, s2, s3⟩ := hW; go_simp⟩) HS0.out ?_
                try simp only [Act.put, List.setIfInBounds_toArray, List.set_cons_zero, List.set_cons_succ]
                refine H_takeD (k := 5) (v := .int .i64 y) (d := some 147) rfl rfl (by decide +kernel) (fun _ _ _ h => h) (Or.inl ⟨by rfl, fun W hW => by obtain ⟨s0, s1, s2, s3⟩ := hW; go_simp⟩) HS0.out ?_
                try simp only [Act.put, List.setIfInBounds_toArray, List.set_cons_zero, List.set_cons_succ]
                refine H_takeD (k := 6) (v := .pointer (some ⟨kc, y, none⟩)) (d := some 148) rfl rfl (by decide +kernel) (fun _ _ _ h => h) (Or.inl ⟨by rfl, fun W hW => by obtain ⟨s0, s1, s2, s3⟩ := hW; go_simp⟩) HS0.out ?_
                try simp only [Act.put, List.setIfInBounds_toArray, List.set_cons_zero, List.set_cons_succ]
                refine H_takeD (k := 7) (v := .slice Y ys.length cy) (d := some 149) rfl rfl (by decide +kernel) (fun _ _ _ h => h) (Or.inl ⟨by rfl, fun W hW => by obtain ⟨s0, s1, s2, s3⟩ := hW; go_simp⟩) HS0.out ?_
                try simp only [Act.put, List.setIfInBounds_toArray, List.set_cons_zero, List.set_cons_succ]
                refine H_takeD (k := 8) (v := .slice (some ⟨kb, 0, none⟩) 4 4) (d := some 150) rfl rfl (by decide +kernel) (fun _ _ _ h => h) (Or.inl ⟨by rfl, fun W hW => by obtain ⟨s0, s1, s2, s3⟩ := hW; go_simp⟩) HS0.out ?_
                try simp only [Act.put, List.setIfInBounds_toArray, List.set_cons_zero, List.set_cons_succ]
                refine H_takeD (k := 9) (v := .int .i64 n) (d := some 151) rfl rfl (by decide +kernel) (fun _ _ _ h => h) (Or.inl ⟨by rfl, fun W hW => by obtain ⟨s0, s1, s2, s3⟩ := hW; go_simp⟩) HS0.out ?_
                try simp only [Act.put, List.setIfInBounds_toArray, List.set_cons_zero, List.set_cons_succ]
                refine H_takeD (k := 10) (v := .pointer (some ⟨kb, n, none⟩)) (d := some 152) rfl rfl (by decide +kernel) (fun _ _ _ h => h) (Or.inl ⟨by rfl, fun W hW => by obtain ⟨s0, s1, s2, s3⟩ := hW; go_simp⟩) HS0.out ?_
                try simp only [Act.put, List.setIfInBounds_toArray, List.set_cons_zero, List.set_cons_succ]
                refine H_takeD (k := 11) (v := .int .i64 s) (d := some 153) rfl rfl (by decide +kernel) (fun _ _ _ h => h) (Or.inl ⟨by rfl, fun W hW => by obtain ⟨s0, s1, s2, s3⟩ := hW; go_simp⟩) HS0.out ?_
                try simp only [Act.put, List.setIfInBounds_toArray, List.set_cons_zero, List.set_cons_succ]
                refine H_two (i := 12) (j := 16) (by decide +kernel) (H_step rfl rfl (fun K hK12 => ?_)) (H_step rfl rfl (fun K hK12 => ?_))
                · have hK12 := Lib.hid hK12
                  go_simp
                  go_at_call 37
                  refine (Hat.out _ HbD.out).mono ?_
                  rintro e wA ⟨X, x, Y9, y9, rfl, hX, hY9, hbA⟩
                  have HbA := Lib.hid (HbD.out.trans (hbA.mono HbD.out.size))
                  have HSA := Lib.hid (HSq.out _ HbA.out)
                  have HX := Lib.hid hX
                  have HY9 := Lib.hid hY9
                  clear hbA hX hY9
                  refine hK12.out _ _ HSA.out ?_
                  try simp only [Act.put, List.setIfInBounds_toArray, List.set_cons_zero, List.set_cons_succ]
                  refine H_takeD (k := 13) (v := .tuple #[.agg #[.slice X TW.length x, .slice Y9 TN.length y9], .int .i64 E0]) (d := some 141) rfl rfl (by decide +kernel) (fun _ _ _ h => h) (Or.inl ⟨by rfl, fun W hW => by obtain ⟨s0, s1, s2, s3⟩ := hW; go_simp⟩) HSA.out ?_
                  try simp only [Act.put, List.setIfInBounds_toArray, List.set_cons_zero, List.set_cons_succ]
                  refine H_takeD (k := 14) (v := .agg #[.slice X TW.length x, .slice Y9 TN.length y9]) (d := some 155) rfl rfl (by decide +kernel) (fun _ _ _ h => h) (Or.inl ⟨by rfl, fun W hW => by obtain ⟨s0, s1, s2, s3⟩ := hW; go_simp⟩) HSA.out ?_
                  try simp only [Act.put, List.setIfInBounds_toArray, List.set_cons_zero, List.set_cons_succ]
                  refine H_takeD (k := 15) (v := .int .i64 E0) (d := some 156) rfl rfl (by decide +kernel) (fun _ _ _ h => h) (Or.inl ⟨by rfl, fun W hW => by obtain ⟨s0, s1, s2, s3⟩ := hW; go_simp⟩) HSA.out ?_
                  try simp only [Act.put, List.setIfInBounds_toArray, List.set_cons_zero, List.set_cons_succ]
                  refine H_one (i := 16) (by decide +kernel) (H_step rfl rfl (fun K hK16 => ?_))
                  have hK16 := Lib.hid hK16
                  go_simp
                  have HbN := Lib.hid (HbA.out.alloc HbA.out.size (.cells #[.slice none 0 0, .slice none 0 0] 33))
                  have HkN := Lib.hid (Bk.new (wA) 33 #[.slice none 0 0, .slice none 0 0])
                  have hpa := HbA.out.size
                  have HSN := Lib.hid (HSq.out _ HbN.out)
                  have HX0 := HX
                  have HY0 := HY9
                  have HX := Lib.hid (HX.out.below ((Below.refl _ _).alloc (Nat.le_refl _) (.cells #[.slice none 0 0, .slice none 0 0] 33)))
                  have HY9 := Lib.hid (HY9.out.below ((Below.refl _ _).alloc (Nat.le_refl _) (.cells #[.slice none 0 0, .slice none 0 0] 33)))
                  refine hK16.out _ _ HSN.out ?_
                  try simp only [Act.put, List.setIfInBounds_toArray, List.set_cons_zero, List.set_cons_succ]
                  refine H_one (i := 17) (by decide +kernel) (H_step rfl rfl (fun K hK17 => ?_))
                  have hK17 := Lib.hid hK17
                  go_simp
                  have HkS := Lib.hid (Bk.new (wA) 33 #[.slice X TW.length x, .slice Y9 TN.length y9])
                  have HbS := Lib.hid (HbA.out.alloc HbA.out.size (.cells #[.slice X TW.length x, .slice Y9 TN.length y9] 33))
                  have HXS := Lib.hid (HX0.out.below ((Below.refl _ _).alloc (Nat.le_refl _) (.cells #[.slice X TW.length x, .slice Y9 TN.length y9] 33)))
                  have HYS := Lib.hid (HY0.out.below ((Below.refl _ _).alloc (Nat.le_refl _) (.cells #[.slice X TW.length x, .slice Y9 TN.length y9] 33)))
                  have HSS := Lib.hid (HSq.out _ HbS.out)
                  refine hK17.out _ _ HSS.out ?_
                  try simp only [Act.put, List.setIfInBounds_toArray, List.set_cons_zero, List.set_cons_succ]
                  refine H_one (i := 18) (by decide +kernel) (H_step rfl rfl (fun K hK18 => ?_))
                  have hK18 := Lib.hid hK18
                  go_simp
                  refine hK18.out _ _ HSS.out ?_
                  try simp only [Act.put, List.setIfInBounds_toArray, List.set_cons_zero, List.set_cons_succ]
                  refine H_end (by decide +kernel) (NoPanic.normal ?_)
                  try simp only [Act.put, List.setIfInBounds_toArray, List.set_cons_zero, List.set_cons_succ]
                  go_wp2_with fail
                  go_meet
                  exact ⟨_, X, x, Y9, y9, rfl, rfl, HkS.out, HXS.out, HYS.out, HbS.out⟩
                · have hK12 := Lib.hid hK12
                  go_simp
                  have HbN := Lib.hid (HbD.out.alloc HbD.out.size (.cells #[.slice none 0 0, .slice none 0 0] 33))
                  have HkN := Lib.hid (Bk.new (wX.drew) 33 #[.slice none 0 0, .slice none 0 0])
                  have hpa := HbD.out.size
                  have HSN := Lib.hid (HSq.out _ HbN.out)
                  refine hK12.out _ _ HSN.out ?_
                  try simp only [Act.put, List.setIfInBounds_toArray, List.set_cons_zero, List.set_cons_succ]
                  refine H_one (i := 12) (by decide +kernel) (H_step rfl rfl (fun K hK13 => ?_))
                  have hK13 := Lib.hid hK13
                  go_simp
                  go_at_call 37
                  refine (Hat.out _ HbN.out).mono ?_
                  rintro e wA ⟨X, x, Y9, y9, rfl, hX, hY9, hbA⟩
                  have HbA := Lib.hid (HbN.out.trans (hbA.mono HbN.out.size))
                  have HSA := Lib.hid (HSq.out _ HbA.out)
                  have HX := Lib.hid hX
                  have HY9 := Lib.hid hY9
                  have HkA := Lib.hid (HkN.out.below hbA HkN.out.lt)
                  clear hbA hX hY9
                  refine hK13.out _ _ HSA.out ?_
                  try simp only [Act.put, List.setIfInBounds_toArray, List.set_cons_zero, List.set_cons_succ]
                  refine H_takeD (k := 13) (v := .tuple #[.agg #[.slice X TW.length x, .slice Y9 TN.length y9], .int .i64 E0]) (d := some 141) rfl rfl (by decide +kernel) (fun _ _ _ h => h) (Or.inl ⟨by rfl, fun W hW => by obtain ⟨s0, s1, s2, s3⟩ := hW; go_simp⟩) HSA.out ?_
                  try simp only [Act.put, List.setIfInBounds_toArray, List.set_cons_zero, List.set_cons_succ]
                  refine H_takeD (k := 14) (v := .agg #[.slice X TW.length x, .slice Y9 TN.length y9]) (d := some 155) rfl rfl (by decide +kernel) (fun _ _ _ h => h) (Or.inl ⟨by rfl, fun W hW => by obtain ⟨s0, s1, s2, s3⟩ := hW; go_simp⟩) HSA.out ?_
                  try simp only [Act.put, List.setIfInBounds_toArray, List.set_cons_zero, List.set_cons_succ]
                  refine H_takeD (k := 15) (v := .int .i64 E0) (d := some 156) rfl rfl (by decide +kernel) (fun _ _ _ h => h) (Or.inl ⟨by rfl, fun W hW => by obtain ⟨s0, s1, s2, s3⟩ := hW; go_simp⟩) HSA.out ?_
                  try simp only [Act.put, List.setIfInBounds_toArray, List.set_cons_zero, List.set_cons_succ]
                  refine H_one (i := 17) (by decide +kernel) (H_step rfl rfl (fun K hK17 => ?_))
                  have hK17 := Lib.hid hK17
                  have hq0 : (wA).cell? ⟨(wX).heap.size, 0, none⟩ = some (.slice none 0 0) := HkA.out.cell 0
                  have hq1 : (wA).cell? ⟨(wX).heap.size, 1, none⟩ = some (.slice none 0 0) := HkA.out.cell 1
                  have hf0 : (wA).frozen? ⟨(wX).heap.size, 0, none⟩ = false := HkA.out.frozen 0
                  have hf1 : (wA).frozen? ⟨(wX).heap.size, 1, none⟩ = false := HkA.out.frozen 1
                  have hr0 : (World.setCell (wA) ⟨(wX).heap.size, 0, none⟩ (.slice X TW.length x)).cell? ⟨(wX).heap.size, 1, none⟩ = some (.slice none 0 0) := (HkA.out.set_ 0 (.slice X TW.length x)).cell 1
                  have hr1 : (World.setCell (wA) ⟨(wX).heap.size, 0, none⟩ (.slice X TW.length x)).frozen? ⟨(wX).heap.size, 1, none⟩ = false := (HkA.out.set_ 0 (.slice X TW.length x)).frozen 1
                  have HkS := Lib.hid ((HkA.out.set_ 0 (.slice X TW.length x)).set_ 1 (.slice Y9 TN.length y9))
                  have HbS := Lib.hid ((HbA.out.setCell (p := ⟨(wX).heap.size, 0, none⟩) hpa (.slice X TW.length x)).setCell (p := ⟨(wX).heap.size, 1, none⟩) hpa (.slice Y9 TN.length y9))
                  have HXS := Lib.hid (sl_two HX.out HkA.out (ints_is _) (.slice X TW.length x) (.slice Y9 TN.length y9))
                  have HYS := Lib.hid (sl_two HY9.out HkA.out (tris_is _) (.slice X TW.length x) (.slice Y9 TN.length y9))
                  have HSS := Lib.hid (HSq.out _ HbS.out)
                  go_simp
                  clear hq0 hq1 hf0 hf1 hr0 hr1
                  refine hK17.out _ _ HSS.out ?_
                  try simp only [Act.put, List.setIfInBounds_toArray, List.set_cons_zero, List.set_cons_succ]
                  refine H_one (i := 18) (by decide +kernel) (H_step rfl rfl (fun K hK18 => ?_))
                  have hK18 := Lib.hid hK18
                  go_simp
                  refine hK18.out _ _ HSS.out ?_
                  try simp only [Act.put, List.setIfInBounds_toArray, List.set_cons_zero, List.set_cons_succ]
                  refine H_end (by decide +kernel) (NoPanic.normal ?_)
                  try simp only [Act.put, List.setIfInBounds_toArray, List.set_cons_zero, List.set_cons_succ]
                  go_wp2_with fail
                  go_meet
                  exact ⟨_, X, x, Y9, y9, rfl, rfl, HkS.out, HXS.out, HYS.out, HbS.out⟩
              case rest =>
              obtain ⟨pb, X2, x2, Y8, y8, rfl, rfl, hKb, hX2, hY2, hbY⟩ := hcut
              obtain ⟨wY, rfl⟩ : ∃ x, x = wc := ⟨wc, rfl⟩
              have HKa := Lib.hid (HKa.out.below hbY HKa.out.lt)
              have HX := Lib.hid (HX.out.below hbY)
              have HY := Lib.hid (HY.out.below hbY)
              have HX2 := Lib.hid hX2
              have HY2 := Lib.hid hY2
              have HSz := Lib.hid (fun W (hW : Below wY.heap.size wY W) => And.intro ((HKa.out.below hW HKa.out.lt).cell 0) (And.intro ((HKa.out.below hW HKa.out.lt).cell 1) (And.intro ((hKb.below hW hKb.lt).cell 0) ((hKb.below hW hKb.lt).cell 1))))
              have HbY := Lib.hid (HbX.out.trans (hbY.mono HbX.out.size))
              have HSq := Lib.hid (fun W (hW : Below wY.heap.size wY W) => HSq.out W (hbY.trans (hW.mono hbY.size)))
              have HsW := Lib.hid (Hs1.out.below HbY.out)
              clear hKb hX2 hY2 hbY Hat HbX
              go_upto_region 22 with fail
              go_cut [166] (fun v wx => v = .bool false ∧ Below wY.heap.size wY wx)
              case first =>
                as_aux_lemma =>
                have HbD := Lib.hid (Below.refl wY.heap.size wY).drew
                have HS0 := Lib.hid (HSz.out _ HbD.out)
                have hbe := bne_self_eq_false E0
                refine wp_region_noPanic ?_
                refine region_H (S := fun W => W.cell? ⟨pa, 0, none⟩ = some (.slice X TW.length x) ∧ W.cell? ⟨pa, 1, none⟩ = some (.slice Y9 TN.length y9) ∧ W.cell? ⟨pb, 0, none⟩ = some (.slice X2 TW.length x2) ∧ W.cell? ⟨pb, 1, none⟩ = some (.slice Y8 TN.length y8)) (by kernel_rfl) ?_
                change wpH _ _ _ _ 10 _ _ wY.drew
                refine H_takeD (k := 0) (v := .int .i64 E0) (d := some 157) rfl rfl (by decide +kernel) (fun _ _ _ h => h) (Or.inl ⟨by rfl, fun W hW => by obtain ⟨s0, s1, s2, s3⟩ := hW; go_simp⟩) HS0.out ?_
                try simp only [Act.put, List.setIfInBounds_toArray, List.set_cons_zero, List.set_cons_succ]
                refine H_takeD (k := 1) (v := .int .i64 E0) (d := some 158) rfl rfl (by decide +kernel) (fun _ _ _ h => h) (Or.inl ⟨by rfl, fun W hW => by obtain ⟨s0, s1, s2, s3⟩ := hW; go_simp⟩) HS0.out ?_
                try simp only [Act.put, List.setIfInBounds_toArray, List.set_cons_zero, List.set_cons_succ]
                refine H_takeD (k := 2) (v := .bool false) (d := some 159) rfl rfl (by decide +kernel) (fun _ _ _ h => h) (Or.inl ⟨by rfl, fun W hW => by obtain ⟨s0, s1, s2, s3⟩ := hW; go_simp⟩) HS0.out ?_
                try simp only [Act.put, List.setIfInBounds_toArray, List.set_cons_zero, List.set_cons_succ]
                refine H_takeD (k := 3) (v := .bool false) (d := some 160) rfl rfl (by decide +kernel) (fun _ _ _ h => h) (Or.inl ⟨by rfl, fun W hW => by obtain ⟨s0, s1, s2, s3⟩ := hW; go_simp⟩) HS0.out ?_
                try simp only [Act.put, List.setIfInBounds_toArray, List.set_cons_zero, List.set_cons_succ]
                refine H_takeD (k := 4) (v := .agg #[.slice X TW.length x, .slice Y9 TN.length y9]) (d := some 161) rfl rfl (by decide +kernel) (fun _ _ _ h => h) (Or.inl ⟨by simp [Region.wanted, yielded], fun W hW => by obtain ⟨s0, s1, s2, s3⟩ := hW; go_simp⟩) HS0.out ?_
                try simp only [Act.put, List.setIfInBounds_toArray, List.set_cons_zero, List.set_cons_succ]
                refine H_takeD (k := 6) (v := .agg #[.slice X2 TW.length x2, .slice Y8 TN.length y8]) (d := some 163) rfl rfl (by decide +kernel) (fun _ _ _ h => h) (Or.inl ⟨by simp [Region.wanted, yielded], fun W hW => by obtain ⟨s0, s1, s2, s3⟩ := hW; go_simp⟩) HS0.out ?_
                try simp only [Act.put, List.setIfInBounds_toArray, List.set_cons_zero, List.set_cons_succ]
                refine H_one (i := 5) (by decide +kernel) (H_stepg rfl (by simp [Region.wanted, yielded]) (fun K hK6 => ?_))
                have hK6 := Lib.hid hK6
                go_simp
                go_at_call 39
                refine (plain_any X Y9 x y9 TW.length TN.length _).mono ?_
                rintro e wP ⟨rfl, hbP⟩
                have HbP := Lib.hid (HbD.out.trans (hbP.mono HbD.out.size))
                have HSP := Lib.hid (HSz.out _ HbP.out)
                clear hbP
                refine hK6.out _ _ HSP.out ?_
                try simp only [Act.put, List.setIfInBounds_toArray, List.set_cons_zero, List.set_cons_succ]
                refine H_one (i := 7) (by decide +kernel) (H_stepg rfl (by simp [Region.wanted, yielded]) (fun K hK7 => ?_))
                have hK7 := Lib.hid hK7
                go_simp
                go_at_call 38
                refine (same_any X Y9 X2 Y8 x y9 x2 y8 TW TN _ (HX.out.below HbP.out) (HY.out.below HbP.out) (HX2.out.below HbP.out) (HY2.out.below HbP.out) hTl hNl).mono ?_
                rintro e wQ ⟨rfl, hbQ⟩
                have HbQ := Lib.hid (HbP.out.trans (hbQ.mono HbP.out.size))
                have HSQ := Lib.hid (HSz.out _ HbQ.out)
                clear hbQ
                refine hK7.out _ _ HSQ.out ?_
                try simp only [Act.put, List.setIfInBounds_toArray, List.set_cons_zero, List.set_cons_succ]
                refine H_takeD (k := 8) (v := .bool false) (d := some 165) rfl rfl (by decide +kernel) (fun _ _ _ h => h) (Or.inl ⟨by simp [Region.wanted, yielded], fun W hW => by obtain ⟨s0, s1, s2, s3⟩ := hW; go_simp⟩) HSQ.out ?_
                try simp only [Act.put, List.setIfInBounds_toArray, List.set_cons_zero, List.set_cons_succ]
                refine H_takeD (k := 9) (v := .bool false) (d := some 166) rfl rfl (by decide +kernel) (fun _ _ _ h => h) (Or.inl ⟨by rfl, fun W hW => by obtain ⟨s0, s1, s2, s3⟩ := hW; go_simp⟩) HSQ.out ?_
                try simp only [Act.put, List.setIfInBounds_toArray, List.set_cons_zero, List.set_cons_succ]
                refine H_end (by decide +kernel) (NoPanic.normal ?_)
                try simp only [Act.put, List.setIfInBounds_toArray, List.set_cons_zero, List.set_cons_succ]
                go_wp2_with fail
                go_meet
                exact ⟨rfl, HbQ.out⟩
              case rest =>
              obtain ⟨rfl, hbZ⟩ := hcut
              obtain ⟨wZ, rfl⟩ : ∃ x, x = wc := ⟨wc, rfl⟩
              have HKa := Lib.hid (fun W (hW : Below wZ.heap.size wZ W) => And.intro ((HKa.out.below (hbZ.trans (hW.mono hbZ.size)) HKa.out.lt).cell 0) ((HKa.out.below (hbZ.trans (hW.mono hbZ.size)) HKa.out.lt).cell 1))
              have HX := Lib.hid (HX.out.below hbZ)
              have HsW := Lib.hid (HsW.out.below hbZ)
              have HSq := Lib.hid (fun W (hW : Below wZ.heap.size wZ W) => HSq.out W (hbZ.trans (hW.mono hbZ.size)))
              have HbZ := Lib.hid (HbY.out.trans (hbZ.mono HbY.out.size))
              clear hbZ HX2 HY2 HSz HY
              go_wp2_with fail
              go_loopw [30, 31] (fun v v2 wr => ∃ xk : Nat, xk ≤ ws.length ∧ v = .int .i64 (if E0 = 0 then (ws.take xk).sum else 0) ∧ v2 = .int .i64 xk ∧ Below wZ.heap.size wZ wr) (fun _ v2 _ => ws.length - (intOf v2).toNat)
              case atStart => exact ⟨0, by omega, by simp, rfl, Below.refl _ _⟩
              case round =>
                obtain ⟨xk, hxk, rfl, rfl, hb⟩ := hrel
                obtain ⟨hq0, hq1⟩ := HSq.out _ hb
                clear hq1
                by_cases hlx : xk < ws.length
                · by_cases hE : E0 = 0
                  · rw [if_pos hE]
                    obtain ⟨b5, o5, z5, rfl, hcz, hz⟩ := (HsW.out.below hb).get (k := xk) hlx
                    have hsum := take_snoc' hz.out
                    have hbd := HpW.out hE (xk + 1)
                    have hbd0 := HpW.out hE xk
                    rw [hsum, sum_snoc] at hbd
                    have hE1 : (E0 == 0) = true := by simpa using hE
                    have hwr : IntKind.i64.wrap ((ws.take xk).sum + z5) = (ws.take xk).sum + z5 := IntWalk.i64_in _ (by omega)
                    have Hsum := Lib.hid (show (ws.take (xk + 1)).sum = (ws.take xk).sum + z5 by rw [hsum, sum_snoc])
                    have HE := Lib.hid hE
                    have Hb := Lib.hid hb
                    have hx0 : (0 : Int) ≤ (xk : Int) := by omega
                    clear hsum hbd hbd0 hE hb hz hxk
                    generalize (ws.take xk).sum = sk at *
                    go_wp2_with fail
                    go_roundw
                    case rel => exact ⟨xk + 1, by omega, by rw [if_pos HE.out, Hsum.out], by go_num, Hb.out⟩
                    case measure => simp [intOf]; omega
                  · have hE1 : (E0 == 0) = false := by simpa using hE
                    have HS : TW.sum = (if E0 = 0 then (ws.take xk).sum else 0) := by rw [HsT.out, if_neg hE, if_neg hE]
                    generalize (if E0 = 0 then (ws.take xk).sum else 0) = S0 at HS ⊢
                    have HS := Lib.hid HS
                    clear hE
                    obtain ⟨wr0, rfl⟩ : ∃ x, x = wr := ⟨wr, rfl⟩
                    have HX := Lib.hid (HX.out.below hb)
                    have HKa := Lib.hid (fun W (hW : Below wr0.heap.size wr0 W) => HKa.out W (hb.trans (hW.mono hb.size)))
                    have HbE := Lib.hid (HbZ.out.trans (hb.mono HbZ.out.size))
                    clear hb hxk HsW HSq HbZ HpW
                    go_wp2_with fail
                    go_loopw [30, 32] (fun v v2 wr => ∃ xj : Nat, xj ≤ TW.length ∧ v = .int .i64 (S0 - (TW.take xj).sum) ∧ v2 = .int .i64 xj ∧ Below wr0.heap.size wr0 wr) (fun _ v2 _ => TW.length - (intOf v2).toNat)
                    case atStart => exact ⟨0, by omega, by simp, rfl, Below.refl _ _⟩
                    case round =>
                      obtain ⟨xj, hxj, rfl, rfl, hb⟩ := hrel
                      obtain ⟨hq0, hq1⟩ := HKa.out _ hb
                      clear hq1
                      have hS1 := HpT.out TW.length
                      rw [List.take_length, HS.out] at hS1
                      by_cases hlt : xj < TW.length
                      · obtain ⟨b6, o6, z6, rfl, hcz, hz⟩ := (HX.out.below hb).get (k := xj) hlt
                        have hsum := take_snoc' hz.out
                        have hbd := HpT.out (xj + 1)
                        have hbd0 := HpT.out xj
                        rw [hsum, sum_snoc] at hbd
                        have hwr : IntKind.i64.wrap (S0 - (TW.take xj).sum - z6) = S0 - (TW.take xj).sum - z6 := IntWalk.i64_in _ (by omega)
                        have Hsum := Lib.hid (show (TW.take (xj + 1)).sum = (TW.take xj).sum + z6 by rw [hsum, sum_snoc])
                        have Hb := Lib.hid hb
                        have hx0 : (0 : Int) ≤ (xj : Int) := by omega
                        clear hsum hbd hbd0 hb hz hxj hS1
                        generalize (TW.take xj).sum = sk at *
                        go_wp2_with fail
                        go_roundw
                        case rel => exact ⟨xj + 1, by omega, by rw [Hsum.out]; congr 1; omega, by go_num, Hb.out⟩
                        case measure => simp [intOf]; omega
                      · obtain rfl : xj = TW.length := by omega
                        have hz0 : S0 - (TW.take TW.length).sum = 0 := by rw [List.take_length, HS.out]; omega
                        rw [hz0]
                        have HbF := Lib.hid (HbE.out.trans (hb.mono HbE.out.size))
                        clear hb hxj hz0 hS1 hlt
                        go_wp2_with fail
                        go_roundw
                        case rel => exact ⟨n + 1, by omega, by go_num, HbF.out⟩
                        case measure => simp [intOf]; omega
                · obtain rfl : xk = ws.length := by omega
                  have HS : TW.sum = (if E0 = 0 then (ws.take ws.length).sum else 0) := by rw [HsT.out, List.take_length]
                  generalize (if E0 = 0 then (ws.take ws.length).sum else 0) = S0 at HS ⊢
                  have HS := Lib.hid HS
                  obtain ⟨wr0, rfl⟩ : ∃ x, x = wr := ⟨wr, rfl⟩
                  have HX := Lib.hid (HX.out.below hb)
                  have HKa := Lib.hid (fun W (hW : Below wr0.heap.size wr0 W) => HKa.out W (hb.trans (hW.mono hb.size)))
                  have HbE := Lib.hid (HbZ.out.trans (hb.mono HbZ.out.size))
                  clear hb hxk HsW HSq HbZ HpW
                  go_wp2_with fail
                  go_loopw [30, 32] (fun v v2 wr => ∃ xj : Nat, xj ≤ TW.length ∧ v = .int .i64 (S0 - (TW.take xj).sum) ∧ v2 = .int .i64 xj ∧ Below wr0.heap.size wr0 wr) (fun _ v2 _ => TW.length - (intOf v2).toNat)
                  case atStart => exact ⟨0, by omega, by simp, rfl, Below.refl _ _⟩
                  case round =>
                    obtain ⟨xj, hxj, rfl, rfl, hb⟩ := hrel
                    obtain ⟨hq0, hq1⟩ := HKa.out _ hb
                    clear hq1
                    have hS1 := HpT.out TW.length
                    rw [List.take_length, HS.out] at hS1
                    by_cases hlt : xj < TW.length
                    · obtain ⟨b6, o6, z6, rfl, hcz, hz⟩ := (HX.out.below hb).get (k := xj) hlt
                      have hsum := take_snoc' hz.out
                      have hbd := HpT.out (xj + 1)
                      have hbd0 := HpT.out xj
                      rw [hsum, sum_snoc] at hbd
                      have hwr : IntKind.i64.wrap (S0 - (TW.take xj).sum - z6) = S0 - (TW.take xj).sum - z6 := IntWalk.i64_in _ (by omega)
                      have Hsum := Lib.hid (show (TW.take (xj + 1)).sum = (TW.take xj).sum + z6 by rw [hsum, sum_snoc])
                      have Hb := Lib.hid hb
                      have hx0 : (0 : Int) ≤ (xj : Int) := by omega
                      clear hsum hbd hbd0 hb hz hxj hS1
                      generalize (TW.take xj).sum = sk at *
                      go_wp2_with fail
                      go_roundw
                      case rel => exact ⟨xj + 1, by omega, by rw [Hsum.out]; congr 1; omega, by go_num, Hb.out⟩
                      case measure => simp [intOf]; omega
                    · obtain rfl : xj = TW.length := by omega
                      have hz0 : S0 - (TW.take TW.length).sum = 0 := by rw [List.take_length, HS.out]; omega
                      rw [hz0]
                      have HbF := Lib.hid (HbE.out.trans (hb.mono HbE.out.size))
                      clear hb hxj hz0 hS1 hlt
                      go_wp2_with fail
                      go_roundw
                      case rel => exact ⟨n + 1, by omega, by go_num, HbF.out⟩
                      case measure => simp [intOf]; omega
            · obtain rfl : n = 4 := by omega
              have HbE := Lib.hid (Hb16.out.trans (hb.mono Hb16.out.size))
              clear hb
              go_wp2_with fail
              go_roundw
              case rel => exact ⟨y + 1, by omega, by go_num, HbE.out⟩
              case measure => simp [intOf]; omega
        · obtain rfl : y = 3 := by omega
          have HbE := Lib.hid (HU.out _ hb)
          clear hb
          go_wp2_with fail
          go_roundw
          case rel => exact ⟨j + 1, by omega, by go_num, HbE.out⟩
          case measure => simp [intOf]; omega
    · obtain rfl : j = 3 := by omega
      have HbE := Lib.hid (Hb1.out.trans (hb.mono Hb1.out.size))
      clear hb
      go_wp2_with fail
      refine (lives_any wr).mono ?_
      rintro e wd ⟨rfl, hbd⟩
      go_wp2_with fail
      go_ret
      exact ⟨rfl, HbE.out.trans (hbd.mono HbE.out.size)⟩
end Go.Proofs.Ytaegfljpodhnhaa
