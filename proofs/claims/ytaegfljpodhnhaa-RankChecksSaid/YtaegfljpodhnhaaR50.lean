import Derived.Test.YtaegfljpodhnhaaR49
import Derived.Test.YtaegfljpodhnhaaR27
import Derived.Test.YtaegfljpodhnhaaR25
import Derived.Deep.DeepCutAuto
namespace Go.Proofs.Ytaegfljpodhnhaa
open Go.RowKit Go.Maps

section
variable {ws : List Int} {ns : List (Int × Int × Int)} {ls : List Int} {k : Nat}
theorem stE_in (hk : k < ls.length) : stE ws ns ls k = ofE ws ns ls := by
  unfold stE
  split
  · rfl
  · rename_i h
    rw [if_neg (by omega)]
    omega
theorem check_flag (hk : k < ls.length) : (checkE ws ns ls k (stL ws ns ls k) (ofL ws ns ls) == 0) = (ofE ws ns ls == 0) := by
  by_cases hz : ofE ws ns ls = 0
  · rw [check_own hz hk, hz]
  · rw [checkE_bad hz]
theorem ofL_len (hz : ofE ws ns ls = 0) : (ofL ws ns ls).length = ls.length := by rw [ofL, if_pos hz, lists_len]
theorem ofL_le : (ofL ws ns ls).length ≤ ls.length := by unfold ofL; split <;> simp [lists_len]
end
theorem SL.pre {w : World} {A : Option Addr} {xs ys : List Value} (h : SL w A xs) (hp : ∀ (j : Nat) (u : Value), ys[j]? = some u → xs[j]? = some u) : SL w A ys := fun j u hu => h j u (hp j u hu)
theorem pairC_take (T : List (Int × Int)) (n : Nat) (j : Nat) (u : Value) (h : (pairC (T.take n))[j]? = some u) : (pairC T)[j]? = some u := by
  have e : pairC T = pairC (T.take n) ++ pairC (T.drop n) := by rw [← pairC_append, List.take_append_drop]
  rw [e, List.getElem?_append_left (List.getElem?_eq_some_iff.1 h).1]
  exact h
theorem pairC_drop (T : List (Int × Int)) (n : Nat) (hn : n ≤ T.length) : (pairC T).drop (n * 2) = pairC (T.drop n) := by
  have e : pairC T = pairC (T.take n) ++ pairC (T.drop n) := by rw [← pairC_append, List.take_append_drop]
  rw [e, List.drop_append_of_le_length (by rw [pairC_len]; simp [Nat.min_eq_left hn]), List.drop_of_length_le (by rw [pairC_len]; simp [Nat.min_eq_left hn])]
  rfl
theorem SL.dropAt {w : World} {b o : Nat} {xs : List Value} (h : SL w (some ⟨b, o, none⟩) xs) (n : Nat) : SL w (some ⟨b, o + n, none⟩) (xs.drop n) := fun j u hu => by
  rw [List.getElem?_drop] at hu
  obtain ⟨b', o', e, hb, hc⟩ := h _ _ hu
  injection e with e
  injection e with e1 e2
  subst e1 e2
  exact ⟨b, o + n, rfl, hb, by rw [Nat.add_assoc]; exact hc⟩
theorem SLL.takeN {w : World} {A : Option Addr} {ls : List (List Int)} (h : SLL w A ls) (n : Nat) : SLL w A (ls.take n) := by
  obtain ⟨vs, h1, h2, h3⟩ := h
  have hg : ∀ (α : Type) (l : List α) (j : Nat) (u : α), (l.take n)[j]? = some u → l[j]? = some u := fun α l j u hu => by
    have hj := (List.getElem?_eq_some_iff.1 hu).1
    simp only [List.length_take] at hj
    rwa [List.getElem?_take_of_lt (by omega)] at hu
  exact ⟨vs.take n, h1.pre (fun j u hu => hg _ _ j u hu), by simp [h2], fun j v l hv hl => h3 j v l (hg _ _ j v hv) (hg _ _ j l hl)⟩
theorem pairs_all : ∀ T : List (Int × Int), (pairC T).all (·.oneCell') = true
  | [] => rfl
  | t :: T => by
    have h := pairs_all T
    simp only [pairC, List.flatMap_cons, List.all_append, Bool.and_eq_true] at h ⊢
    exact ⟨rfl, h⟩

set_option linter.unusedSimpArgs false in
set_option maxHeartbeats 16000000 in
set_option maxRecDepth 100000 in
theorem checks_walk (A B C : Option Addr) (ca cb cc : Nat) (l m k : List Int) (at_ how by_ scale_ : Int) (w : World) (hA : SI w A l) (hB : SI w B m) (hC : SI w C k) (hwl : W64 l) (hwm : W64 m) (hwk : W64 k)
    (h1 : -9223372036854775808 ≤ at_ ∧ at_ ≤ 9223372036854775807) (h2 : -9223372036854775808 ≤ how ∧ how ≤ 9223372036854775807) (h3 : -9223372036854775808 ≤ by_ ∧ by_ ≤ 9223372036854775807) (h4 : -9223372036854775808 ≤ scale_ ∧ scale_ ≤ 9223372036854775807) :
    Calls Try.prog 5 #[.slice A l.length ca, .slice B m.length cb, .slice C k.length cc, .int .i64 at_, .int .i64 how, .int .i64 by_, .int .i64 scale_] w fun e w' => e = .returned (.bool true) ∧ Below w.heap.size w w' := by
  go_enter Try.func5, Try.ntmps5
  go_wp2_with fail
  refine (graphs_any A B ca cb l m at_ how by_ w hA hB hwl hwm h1 h2 h3).mono ?_
  rintro e w1 ⟨g, gs, rfl, hG1, hb1⟩
  have HG1 := Lib.hid hG1
  have Hb1 := Lib.hid hb1
  clear hG1 hb1
  go_wp2_with fail
  refine (least_any C cc k w1 (hC.below Hb1.out) hwk).mono ?_
  rintro e w2 ⟨v3, ls, rfl, hown3, hT, hb2⟩
  obtain ⟨A3, c3, rfl⟩ := own_slice hown3
  have hcap3 := own_cap hown3
  have hn1 := hT.n1
  have hn2 := hT.n2
  have Hls := Lib.hid (own_si hown3)
  have HG := Lib.hid (HG1.out.below hb2)
  have HB2 := Lib.hid (Hb1.out.trans (hb2.mono Hb1.out.size))
  clear hown3 hT hb2 HG1 Hb1
  go_wp2_with fail
  go_loopw [17] (fun i wr => ∃ j : Nat, j ≤ 3 ∧ i = .int .i64 j ∧ Below w2.heap.size w2 wr) (fun i _ => 3 - (intOf i).toNat)
  case atStart => exact ⟨0, by omega, rfl, Below.refl _ _⟩
  case round =>
    obtain ⟨j, hj, rfl, hb⟩ := hrel
    by_cases hlt : j < 3
    · obtain ⟨A1, c1, B1, d1, hga, hgb, hs1, hs2, hl1, hl2⟩ := HG.out j hlt
      generalize (gs j).1 = ws at *
      generalize (gs j).2 = ns at *
      have HSg0 := Lib.hid (fun W (hW : Below w2.heap.size w2 W) => And.intro ((hW.cell (World.block_lt_of_cell? _ _ hga)).trans hga) ((hW.cell (World.block_lt_of_cell? _ _ hgb)).trans hgb))
      have Hs1 := Lib.hid hs1
      have Hs2 := Lib.hid hs2
      have Hb := Lib.hid hb
      have hj0 : (0 : Int) ≤ (j : Int) := by omega
      have hj3 : (j : Int) < 3 := by omega
      obtain ⟨hq0, hq1⟩ := HSg0.out _ Hb.out
      clear hga hgb hs1 hs2 hb hj
      go_wp2_with fail
      clear hq0 hq1
      refine (own_any A1 B1 c1 d1 ws.length ns.length _).mono ?_
      rintro e w4 ⟨rfl, hb4⟩
      have Hb4 := Lib.hid (Hb.out.trans (hb4.mono Hb.out.size))
      clear hb4 Hb
      go_wp2_with fail
      refine (of_any A1 B1 A3 c1 d1 c3 ws ns ls w4 (Hs1.out.below Hb4.out) (Hs2.out.below Hb4.out) (Hls.out.below Hb4.out) (by omega) (by omega) (by omega)).mono ?_
      rintro e w8 ⟨D8, m8, vs8, rfl, hown8, hLL8, hb8⟩
      have hcap8 := own_cap hown8
      have Hb8 := Lib.hid ((Hb4.out.trans (hb8.mono Hb4.out.size)).alloc (Hb4.out.trans (hb8.mono Hb4.out.size)).size (.cells #[.slice D8 (ofL ws ns ls).length m8] 36))
      have hx := (Below.refl w8.heap.size w8).alloc (Nat.le_refl _) (.cells #[.slice D8 (ofL ws ns ls).length m8] 36)
      have Hsl8 := Lib.hid ((SLL.of_rows hown8 hLL8 (fun l hl => by have := ofL_lens (ws := ws) (ns := ns) (ls := ls) l hl; omega)).below hx)
      have Hbk8 := Lib.hid (Bk.new w8 36 #[.slice D8 (ofL ws ns ls).length m8])
      clear hb8 hown8 hLL8 hx Hb4
      obtain ⟨hk1, hk2⟩ := around_bd scale_ ls.length (by omega)
      have Har := Lib.hid (fun W => around_any scale_ ls.length W h4.1 h4.2 (by omega) (by omega))
      generalize around scale_ ls.length = s0 at *
      obtain ⟨s, rfl⟩ := Int.eq_ofNat_of_zero_le hk1
      have hsl : s < ls.length := by omega
      have hL1 := ofL_le (ws := ws) (ns := ns) (ls := ls)
      have hL2 : ∀ l ∈ ofL ws ns ls, l.length ≤ 4096 := fun l hl => by
        have := ofL_lens (ws := ws) (ns := ns) (ls := ls) l hl
        omega
      have hst := fun W (hW : Below w2.heap.size w2 W) => steps_any A1 B1 A3 c1 d1 c3 ws ns ls s W (Hs1.out.below hW) (Hs2.out.below hW) (Hls.out.below hW) (by omega) (by omega) (by omega) hcap3
      rw [stE_in hsl] at hst
      have hT1 := stL_len ws ns ls s
      have hfl := check_flag (ws := ws) (ns := ns) hsl
      have hol := ofL_len (ws := ws) (ns := ns) (ls := ls)
      have hck := fun (D E : Option Addr) (m q : Nat) W (hW : Below w2.heap.size w2 W) (hD : SL W D (pairC (stL ws ns ls s))) (hE : SLL W E (ofL ws ns ls)) => check_any A1 B1 A3 D E c1 d1 c3 m q ws ns ls s (stL ws ns ls s) (ofL ws ns ls) W (Hs1.out.below hW) (Hs2.out.below hW) (Hls.out.below hW) hD hE (by omega) (by omega) (by omega) (by omega) (fun l hl => by have := hL2 l hl; omega)
      have HL2 := Lib.hid hL2
      have Hst := Lib.hid hst
      have Hck := Lib.hid hck
      have Hfl := Lib.hid hfl
      have Hol := Lib.hid hol
      clear hL2 hst hck hfl hol hk1
      generalize checkE ws ns ls s (stL ws ns ls s) (ofL ws ns ls) = ck at *
      generalize ofL ws ns ls = L at *
      generalize ofE ws ns ls = oe at *
      generalize stL ws ns ls s = T at *
      go_wp2_with fail
      generalize w8.alloc (.cells #[.slice D8 L.length m8] 36) = wc8 at *
      generalize w8.heap.size = t8 at *
      refine (Har.out _).mono ?_
      rintro e w' ⟨rfl, rfl⟩
      clear Har
      obtain ⟨hq0, hq1⟩ := HSg0.out _ Hb8.out
      go_wp2_with fail
      clear hq0 hq1
      refine (own_any A1 B1 c1 d1 ws.length ns.length _).mono ?_
      rintro e w13 ⟨rfl, hb13⟩
      have Hb13 := Lib.hid (Hb8.out.trans (hb13.mono Hb8.out.size))
      have Hsl8 := Lib.hid (Hsl8.out.below hb13)
      have Hbk8 := Lib.hid (Hbk8.out.below hb13 Hbk8.out.lt)
      clear hb13 Hb8
      go_wp2_with fail
      refine (Hst.out _ Hb13.out).mono ?_
      rintro e w14 ⟨D14, m14, rfl, hown14, hb14⟩
      have hcap14 := own_cap hown14
      have Hown14 := Lib.hid hown14
      have Hb14 := Lib.hid (Hb13.out.trans (hb14.mono Hb13.out.size))
      have Hsl8 := Lib.hid (Hsl8.out.below hb14)
      have Hbk8 := Lib.hid (Hbk8.out.below hb14 Hbk8.out.lt)
      clear hb14 hown14 Hb13 Hst
      go_upto_region 9 with fail
      go_cut [104] (fun v wx => v = .bool false ∧ Below w14.heap.size w14 wx)
      case first =>
        as_aux_lemma =>
        have HSg := Lib.hid (fun W (hW : Below w14.heap.size w14 W) => And.intro (HSg0.out W (Hb14.out.trans (hW.mono Hb14.out.size))).1 (And.intro (HSg0.out W (Hb14.out.trans (hW.mono Hb14.out.size))).2 ((Hbk8.out.below hW Hbk8.out.lt).cell 0)))
        have Hb14d := Lib.hid (Below.refl w14.heap.size w14).drew
        have HS0 := Lib.hid (HSg.out _ Hb14d.out)
        have Hck := Lib.hid (fun W (hW : Below w14.heap.size w14 W) => Hck.out D14 D8 m14 m8 W (Hb14.out.trans (hW.mono Hb14.out.size)) ((SL.of_own Hown14.out).below hW) (Hsl8.out.below hW))
        by_cases hz : oe = 0
        · have hoe : (oe == 0) = true := by simp [hz]
          have hck0 : (ck == 0) = true := by rw [Hfl.out]; exact hoe
          have hll : ((L.length : Int) != (ls.length : Int)) = false := by rw [Hol.out hz]; simp
          clear hz
          refine wp_region_noPanic ?_
          refine region_H (S := fun W => W.cell? ⟨g, j * 2, none⟩ = some (.slice A1 ws.length c1) ∧ W.cell? ⟨g, j * 2 + 1, none⟩ = some (.slice B1 ns.length d1) ∧ W.cell? ⟨t8, 0, none⟩ = some (.slice D8 L.length m8)) (by kernel_rfl) ?_
          change wpH _ _ _ _ 31 _ _ w14.drew
          refine H_takeD (k := 0) (v := .int .i64 oe) (d := some 74) rfl rfl (by decide +kernel) (fun _ _ _ h => h) (Or.inl ⟨by rfl, fun W hW => by obtain ⟨s0, s1, s2⟩ := hW; go_simp⟩) HS0.out ?_
          try simp only [Act.put, List.setIfInBounds_toArray, List.set_cons_zero, List.set_cons_succ]
          refine H_takeD (k := 1) (v := .int .i64 oe) (d := some 75) rfl rfl (by decide +kernel) (fun _ _ _ h => h) (Or.inl ⟨by rfl, fun W hW => by obtain ⟨s0, s1, s2⟩ := hW; go_simp⟩) HS0.out ?_
          try simp only [Act.put, List.setIfInBounds_toArray, List.set_cons_zero, List.set_cons_succ]
          refine H_takeD (k := 2) (v := .bool false) (d := some 76) rfl rfl (by decide +kernel) (fun _ _ _ h => h) (Or.inl ⟨by rfl, fun W hW => by obtain ⟨s0, s1, s2⟩ := hW; go_simp⟩) HS0.out ?_
          try simp only [Act.put, List.setIfInBounds_toArray, List.set_cons_zero, List.set_cons_succ]
          refine H_takeD (k := 3) (v := .bool false) (d := some 77) rfl rfl (by decide +kernel) (fun _ _ _ h => h) (Or.inl ⟨by rfl, fun W hW => by obtain ⟨s0, s1, s2⟩ := hW; go_simp⟩) HS0.out ?_
          try simp only [Act.put, List.setIfInBounds_toArray, List.set_cons_zero, List.set_cons_succ]
          refine H_takeD (k := 4) (v := .slice (some ⟨g, 0, none⟩) 3 3) (d := some 78) rfl rfl (by decide +kernel) (fun _ _ _ h => h) (Or.inl ⟨by simp [Region.wanted, yielded], fun W hW => by obtain ⟨s0, s1, s2⟩ := hW; go_simp⟩) HS0.out ?_
          try simp only [Act.put, List.setIfInBounds_toArray, List.set_cons_zero, List.set_cons_succ]
          refine H_takeD (k := 5) (v := .int .i64 j) (d := some 79) rfl rfl (by decide +kernel) (fun _ _ _ h => h) (Or.inl ⟨by simp [Region.wanted, yielded], fun W hW => by obtain ⟨s0, s1, s2⟩ := hW; go_simp⟩) HS0.out ?_
          try simp only [Act.put, List.setIfInBounds_toArray, List.set_cons_zero, List.set_cons_succ]
          refine H_takeD (k := 6) (v := .pointer (some ⟨g, j * 2, none⟩)) (d := some 80) rfl rfl (by decide +kernel) (fun _ _ _ h => h) (Or.inl ⟨by simp [Region.wanted, yielded], fun W hW => by obtain ⟨s0, s1, s2⟩ := hW; go_simp⟩) HS0.out ?_
          try simp only [Act.put, List.setIfInBounds_toArray, List.set_cons_zero, List.set_cons_succ]
          refine H_takeD (k := 7) (v := .agg #[.slice A1 ws.length c1, .slice B1 ns.length d1]) (d := some 81) rfl rfl (by decide +kernel) (fun _ _ _ h => h) (Or.inl ⟨by simp [Region.wanted, yielded], fun W hW => by obtain ⟨s0, s1, s2⟩ := hW; go_simp⟩) HS0.out ?_
          try simp only [Act.put, List.setIfInBounds_toArray, List.set_cons_zero, List.set_cons_succ]
          refine H_takeD (k := 9) (v := .slice A3 ls.length c3) (d := some 83) rfl rfl (by decide +kernel) (fun _ _ _ h => h) (Or.inl ⟨by simp [Region.wanted, yielded], fun W hW => by obtain ⟨s0, s1, s2⟩ := hW; go_simp⟩) HS0.out ?_
          try simp only [Act.put, List.setIfInBounds_toArray, List.set_cons_zero, List.set_cons_succ]
          refine H_takeD (k := 10) (v := .int .i64 s) (d := some 84) rfl rfl (by decide +kernel) (fun _ _ _ h => h) (Or.inl ⟨by simp [Region.wanted, yielded], fun W hW => by obtain ⟨s0, s1, s2⟩ := hW; go_simp⟩) HS0.out ?_
          try simp only [Act.put, List.setIfInBounds_toArray, List.set_cons_zero, List.set_cons_succ]
          refine H_takeD (k := 11) (v := .slice D14 T.length m14) (d := some 85) rfl rfl (by decide +kernel) (fun _ _ _ h => h) (Or.inl ⟨by simp [Region.wanted, yielded], fun W hW => by obtain ⟨s0, s1, s2⟩ := hW; go_simp⟩) HS0.out ?_
          try simp only [Act.put, List.setIfInBounds_toArray, List.set_cons_zero, List.set_cons_succ]
          refine H_takeD (k := 12) (v := .agg #[.slice D8 L.length m8]) (d := some 86) rfl rfl (by decide +kernel) (fun _ _ _ h => h) (Or.inl ⟨by simp [Region.wanted, yielded], fun W hW => by obtain ⟨s0, s1, s2⟩ := hW; go_simp⟩) HS0.out ?_
          try simp only [Act.put, List.setIfInBounds_toArray, List.set_cons_zero, List.set_cons_succ]
          refine H_takeD (k := 15) (v := .int .i64 oe) (d := some 89) rfl rfl (by decide +kernel) (fun _ _ _ h => h) (Or.inl ⟨by simp [Region.wanted, yielded], fun W hW => by obtain ⟨s0, s1, s2⟩ := hW; go_simp⟩) HS0.out ?_
          try simp only [Act.put, List.setIfInBounds_toArray, List.set_cons_zero, List.set_cons_succ]
          refine H_takeD (k := 16) (v := .bool true) (d := some 90) rfl rfl (by decide +kernel) (fun _ _ _ h => h) (Or.inl ⟨by simp [Region.wanted, yielded], fun W hW => by obtain ⟨s0, s1, s2⟩ := hW; go_simp⟩) HS0.out ?_
          try simp only [Act.put, List.setIfInBounds_toArray, List.set_cons_zero, List.set_cons_succ]
          refine H_one (i := 8) (by decide +kernel) (H_stepg rfl (by simp [Region.wanted, yielded]) (fun K hK14 => ?_))
          have hK14 := Lib.hid hK14
          go_simp
          go_at_call 13
          refine (own_any A1 B1 c1 d1 ws.length ns.length _).mono ?_
          rintro e w15 ⟨rfl, hb15⟩
          have Hb15 := Lib.hid (Hb14d.out.trans (hb15.mono Hb14d.out.size))
          have HS15 := Lib.hid (HSg.out _ Hb15.out)
          clear hb15
          refine hK14.out _ _ HS15.out ?_
          try simp only [Act.put, List.setIfInBounds_toArray, List.set_cons_zero, List.set_cons_succ]
          refine H_one (i := 13) (by decide +kernel) (H_stepg rfl (by simp [Region.wanted, yielded]) (fun K hK15 => ?_))
          have hK15 := Lib.hid hK15
          go_simp
          go_at_call 24
          refine (Hck.out _ Hb15.out).mono ?_
          rintro e w16 ⟨rfl, hb16⟩
          have Hb16 := Lib.hid (Hb15.out.trans (hb16.mono Hb15.out.size))
          have HS16 := Lib.hid (HSg.out _ Hb16.out)
          clear hb16
          refine hK15.out _ _ HS16.out ?_
          try simp only [Act.put, List.setIfInBounds_toArray, List.set_cons_zero, List.set_cons_succ]
          refine H_takeD (k := 14) (v := .bool true) (d := some 88) rfl rfl (by decide +kernel) (fun _ _ _ h => h) (Or.inl ⟨by simp [Region.wanted, yielded], fun W hW => by obtain ⟨s0, s1, s2⟩ := hW; go_simp⟩) HS16.out ?_
          try simp only [Act.put, List.setIfInBounds_toArray, List.set_cons_zero, List.set_cons_succ]
          refine H_takeD (k := 17) (v := .bool false) (d := some 91) rfl rfl (by decide +kernel) (fun _ _ _ h => h) (Or.inl ⟨by simp [Region.wanted, yielded], fun W hW => by obtain ⟨s0, s1, s2⟩ := hW; go_simp⟩) HS16.out ?_
          try simp only [Act.put, List.setIfInBounds_toArray, List.set_cons_zero, List.set_cons_succ]
          refine H_takeD (k := 18) (v := .bool false) (d := some 92) rfl rfl (by decide +kernel) (fun _ _ _ h => h) (Or.inl ⟨by rfl, fun W hW => by obtain ⟨s0, s1, s2⟩ := hW; go_simp⟩) HS16.out ?_
          try simp only [Act.put, List.setIfInBounds_toArray, List.set_cons_zero, List.set_cons_succ]
          refine H_takeD (k := 19) (v := .bool false) (d := some 93) rfl rfl (by decide +kernel) (fun _ _ _ h => h) (Or.inl ⟨by rfl, fun W hW => by obtain ⟨s0, s1, s2⟩ := hW; go_simp⟩) HS16.out ?_
          try simp only [Act.put, List.setIfInBounds_toArray, List.set_cons_zero, List.set_cons_succ]
          refine H_takeD (k := 20) (v := .int .i64 oe) (d := some 94) rfl rfl (by decide +kernel) (fun _ _ _ h => h) (Or.inl ⟨by simp [Region.wanted, yielded], fun W hW => by obtain ⟨s0, s1, s2⟩ := hW; go_simp⟩) HS16.out ?_
          try simp only [Act.put, List.setIfInBounds_toArray, List.set_cons_zero, List.set_cons_succ]
          refine H_takeD (k := 21) (v := .bool true) (d := some 95) rfl rfl (by decide +kernel) (fun _ _ _ h => h) (Or.inl ⟨by simp [Region.wanted, yielded], fun W hW => by obtain ⟨s0, s1, s2⟩ := hW; go_simp⟩) HS16.out ?_
          try simp only [Act.put, List.setIfInBounds_toArray, List.set_cons_zero, List.set_cons_succ]
          refine H_takeD (k := 22) (v := .bool true) (d := some 96) rfl rfl (by decide +kernel) (fun _ _ _ h => h) (Or.inl ⟨by simp [Region.wanted, yielded], fun W hW => by obtain ⟨s0, s1, s2⟩ := hW; go_simp⟩) HS16.out ?_
          try simp only [Act.put, List.setIfInBounds_toArray, List.set_cons_zero, List.set_cons_succ]
          refine H_takeD (k := 23) (v := .pointer (some ⟨t8, 0, none⟩)) (d := some 97) rfl rfl (by decide +kernel) (fun _ _ _ h => h) (Or.inl ⟨by simp [Region.wanted, yielded], fun W hW => by obtain ⟨s0, s1, s2⟩ := hW; go_simp⟩) HS16.out ?_
          try simp only [Act.put, List.setIfInBounds_toArray, List.set_cons_zero, List.set_cons_succ]
          refine H_takeD (k := 24) (v := .slice D8 L.length m8) (d := some 98) rfl rfl (by decide +kernel) (fun _ _ _ h => h) (Or.inl ⟨by simp [Region.wanted, yielded], fun W hW => by obtain ⟨s0, s1, s2⟩ := hW; go_simp⟩) HS16.out ?_
          try simp only [Act.put, List.setIfInBounds_toArray, List.set_cons_zero, List.set_cons_succ]
          refine H_takeD (k := 25) (v := .int .i64 L.length) (d := some 99) rfl rfl (by decide +kernel) (fun _ _ _ h => h) (Or.inl ⟨by simp [Region.wanted, yielded], fun W hW => by obtain ⟨s0, s1, s2⟩ := hW; go_simp⟩) HS16.out ?_
          try simp only [Act.put, List.setIfInBounds_toArray, List.set_cons_zero, List.set_cons_succ]
          refine H_takeD (k := 26) (v := .slice A3 ls.length c3) (d := some 100) rfl rfl (by decide +kernel) (fun _ _ _ h => h) (Or.inl ⟨by simp [Region.wanted, yielded], fun W hW => by obtain ⟨s0, s1, s2⟩ := hW; go_simp⟩) HS16.out ?_
          try simp only [Act.put, List.setIfInBounds_toArray, List.set_cons_zero, List.set_cons_succ]
          refine H_takeD (k := 27) (v := .int .i64 ls.length) (d := some 101) rfl rfl (by decide +kernel) (fun _ _ _ h => h) (Or.inl ⟨by simp [Region.wanted, yielded], fun W hW => by obtain ⟨s0, s1, s2⟩ := hW; go_simp⟩) HS16.out ?_
          try simp only [Act.put, List.setIfInBounds_toArray, List.set_cons_zero, List.set_cons_succ]
          refine H_takeD (k := 28) (v := .bool false) (d := some 102) rfl rfl (by decide +kernel) (fun _ _ _ h => h) (Or.inl ⟨by simp [Region.wanted, yielded], fun W hW => by obtain ⟨s0, s1, s2⟩ := hW; go_simp⟩) HS16.out ?_
          try simp only [Act.put, List.setIfInBounds_toArray, List.set_cons_zero, List.set_cons_succ]
          refine H_takeD (k := 29) (v := .bool false) (d := some 103) rfl rfl (by decide +kernel) (fun _ _ _ h => h) (Or.inl ⟨by simp [Region.wanted, yielded], fun W hW => by obtain ⟨s0, s1, s2⟩ := hW; go_simp⟩) HS16.out ?_
          try simp only [Act.put, List.setIfInBounds_toArray, List.set_cons_zero, List.set_cons_succ]
          refine H_takeD (k := 30) (v := .bool false) (d := some 104) rfl rfl (by decide +kernel) (fun _ _ _ h => h) (Or.inl ⟨by rfl, fun W hW => by obtain ⟨s0, s1, s2⟩ := hW; go_simp⟩) HS16.out ?_
          try simp only [Act.put, List.setIfInBounds_toArray, List.set_cons_zero, List.set_cons_succ]
          refine H_end (by decide +kernel) (NoPanic.normal ?_)
          try simp only [Act.put, List.setIfInBounds_toArray, List.set_cons_zero, List.set_cons_succ]
          go_wp2_with fail
          go_meet
          exact ⟨rfl, Hb16.out⟩
        · have hoe : (oe == 0) = false := by simpa using hz
          have hck0 : (ck == 0) = false := by rw [Hfl.out]; exact hoe
          clear hz
          refine wp_region_noPanic ?_
          refine region_H (S := fun W => W.cell? ⟨g, j * 2, none⟩ = some (.slice A1 ws.length c1) ∧ W.cell? ⟨g, j * 2 + 1, none⟩ = some (.slice B1 ns.length d1) ∧ W.cell? ⟨t8, 0, none⟩ = some (.slice D8 L.length m8)) (by kernel_rfl) ?_
          change wpH _ _ _ _ 31 _ _ w14.drew
          refine H_takeD (k := 0) (v := .int .i64 oe) (d := some 74) rfl rfl (by decide +kernel) (fun _ _ _ h => h) (Or.inl ⟨by rfl, fun W hW => by obtain ⟨s0, s1, s2⟩ := hW; go_simp⟩) HS0.out ?_
          try simp only [Act.put, List.setIfInBounds_toArray, List.set_cons_zero, List.set_cons_succ]
          refine H_takeD (k := 1) (v := .int .i64 oe) (d := some 75) rfl rfl (by decide +kernel) (fun _ _ _ h => h) (Or.inl ⟨by rfl, fun W hW => by obtain ⟨s0, s1, s2⟩ := hW; go_simp⟩) HS0.out ?_
          try simp only [Act.put, List.setIfInBounds_toArray, List.set_cons_zero, List.set_cons_succ]
          refine H_takeD (k := 2) (v := .bool false) (d := some 76) rfl rfl (by decide +kernel) (fun _ _ _ h => h) (Or.inl ⟨by rfl, fun W hW => by obtain ⟨s0, s1, s2⟩ := hW; go_simp⟩) HS0.out ?_
          try simp only [Act.put, List.setIfInBounds_toArray, List.set_cons_zero, List.set_cons_succ]
          refine H_takeD (k := 3) (v := .bool false) (d := some 77) rfl rfl (by decide +kernel) (fun _ _ _ h => h) (Or.inl ⟨by rfl, fun W hW => by obtain ⟨s0, s1, s2⟩ := hW; go_simp⟩) HS0.out ?_
          try simp only [Act.put, List.setIfInBounds_toArray, List.set_cons_zero, List.set_cons_succ]
          refine H_takeD (k := 4) (v := .slice (some ⟨g, 0, none⟩) 3 3) (d := some 78) rfl rfl (by decide +kernel) (fun _ _ _ h => h) (Or.inl ⟨by simp [Region.wanted, yielded], fun W hW => by obtain ⟨s0, s1, s2⟩ := hW; go_simp⟩) HS0.out ?_
          try simp only [Act.put, List.setIfInBounds_toArray, List.set_cons_zero, List.set_cons_succ]
          refine H_takeD (k := 5) (v := .int .i64 j) (d := some 79) rfl rfl (by decide +kernel) (fun _ _ _ h => h) (Or.inl ⟨by simp [Region.wanted, yielded], fun W hW => by obtain ⟨s0, s1, s2⟩ := hW; go_simp⟩) HS0.out ?_
          try simp only [Act.put, List.setIfInBounds_toArray, List.set_cons_zero, List.set_cons_succ]
          refine H_takeD (k := 6) (v := .pointer (some ⟨g, j * 2, none⟩)) (d := some 80) rfl rfl (by decide +kernel) (fun _ _ _ h => h) (Or.inl ⟨by simp [Region.wanted, yielded], fun W hW => by obtain ⟨s0, s1, s2⟩ := hW; go_simp⟩) HS0.out ?_
          try simp only [Act.put, List.setIfInBounds_toArray, List.set_cons_zero, List.set_cons_succ]
          refine H_takeD (k := 7) (v := .agg #[.slice A1 ws.length c1, .slice B1 ns.length d1]) (d := some 81) rfl rfl (by decide +kernel) (fun _ _ _ h => h) (Or.inl ⟨by simp [Region.wanted, yielded], fun W hW => by obtain ⟨s0, s1, s2⟩ := hW; go_simp⟩) HS0.out ?_
          try simp only [Act.put, List.setIfInBounds_toArray, List.set_cons_zero, List.set_cons_succ]
          refine H_takeD (k := 9) (v := .slice A3 ls.length c3) (d := some 83) rfl rfl (by decide +kernel) (fun _ _ _ h => h) (Or.inl ⟨by simp [Region.wanted, yielded], fun W hW => by obtain ⟨s0, s1, s2⟩ := hW; go_simp⟩) HS0.out ?_
          try simp only [Act.put, List.setIfInBounds_toArray, List.set_cons_zero, List.set_cons_succ]
          refine H_takeD (k := 10) (v := .int .i64 s) (d := some 84) rfl rfl (by decide +kernel) (fun _ _ _ h => h) (Or.inl ⟨by simp [Region.wanted, yielded], fun W hW => by obtain ⟨s0, s1, s2⟩ := hW; go_simp⟩) HS0.out ?_
          try simp only [Act.put, List.setIfInBounds_toArray, List.set_cons_zero, List.set_cons_succ]
          refine H_takeD (k := 11) (v := .slice D14 T.length m14) (d := some 85) rfl rfl (by decide +kernel) (fun _ _ _ h => h) (Or.inl ⟨by simp [Region.wanted, yielded], fun W hW => by obtain ⟨s0, s1, s2⟩ := hW; go_simp⟩) HS0.out ?_
          try simp only [Act.put, List.setIfInBounds_toArray, List.set_cons_zero, List.set_cons_succ]
          refine H_takeD (k := 12) (v := .agg #[.slice D8 L.length m8]) (d := some 86) rfl rfl (by decide +kernel) (fun _ _ _ h => h) (Or.inl ⟨by simp [Region.wanted, yielded], fun W hW => by obtain ⟨s0, s1, s2⟩ := hW; go_simp⟩) HS0.out ?_
          try simp only [Act.put, List.setIfInBounds_toArray, List.set_cons_zero, List.set_cons_succ]
          refine H_takeD (k := 15) (v := .int .i64 oe) (d := some 89) rfl rfl (by decide +kernel) (fun _ _ _ h => h) (Or.inl ⟨by simp [Region.wanted, yielded], fun W hW => by obtain ⟨s0, s1, s2⟩ := hW; go_simp⟩) HS0.out ?_
          try simp only [Act.put, List.setIfInBounds_toArray, List.set_cons_zero, List.set_cons_succ]
          refine H_takeD (k := 16) (v := .bool false) (d := some 90) rfl rfl (by decide +kernel) (fun _ _ _ h => h) (Or.inl ⟨by simp [Region.wanted, yielded], fun W hW => by obtain ⟨s0, s1, s2⟩ := hW; go_simp⟩) HS0.out ?_
          try simp only [Act.put, List.setIfInBounds_toArray, List.set_cons_zero, List.set_cons_succ]
          refine H_one (i := 8) (by decide +kernel) (H_stepg rfl (by simp [Region.wanted, yielded]) (fun K hK14 => ?_))
          have hK14 := Lib.hid hK14
          go_simp
          go_at_call 13
          refine (own_any A1 B1 c1 d1 ws.length ns.length _).mono ?_
          rintro e w15 ⟨rfl, hb15⟩
          have Hb15 := Lib.hid (Hb14d.out.trans (hb15.mono Hb14d.out.size))
          have HS15 := Lib.hid (HSg.out _ Hb15.out)
          clear hb15
          refine hK14.out _ _ HS15.out ?_
          try simp only [Act.put, List.setIfInBounds_toArray, List.set_cons_zero, List.set_cons_succ]
          refine H_one (i := 13) (by decide +kernel) (H_stepg rfl (by simp [Region.wanted, yielded]) (fun K hK15 => ?_))
          have hK15 := Lib.hid hK15
          go_simp
          go_at_call 24
          refine (Hck.out _ Hb15.out).mono ?_
          rintro e w16 ⟨rfl, hb16⟩
          have Hb16 := Lib.hid (Hb15.out.trans (hb16.mono Hb15.out.size))
          have HS16 := Lib.hid (HSg.out _ Hb16.out)
          clear hb16
          refine hK15.out _ _ HS16.out ?_
          try simp only [Act.put, List.setIfInBounds_toArray, List.set_cons_zero, List.set_cons_succ]
          refine H_takeD (k := 14) (v := .bool false) (d := some 88) rfl rfl (by decide +kernel) (fun _ _ _ h => h) (Or.inl ⟨by simp [Region.wanted, yielded], fun W hW => by obtain ⟨s0, s1, s2⟩ := hW; go_simp⟩) HS16.out ?_
          try simp only [Act.put, List.setIfInBounds_toArray, List.set_cons_zero, List.set_cons_succ]
          refine H_takeD (k := 17) (v := .bool false) (d := some 91) rfl rfl (by decide +kernel) (fun _ _ _ h => h) (Or.inl ⟨by simp [Region.wanted, yielded], fun W hW => by obtain ⟨s0, s1, s2⟩ := hW; go_simp⟩) HS16.out ?_
          try simp only [Act.put, List.setIfInBounds_toArray, List.set_cons_zero, List.set_cons_succ]
          refine H_takeD (k := 18) (v := .bool false) (d := some 92) rfl rfl (by decide +kernel) (fun _ _ _ h => h) (Or.inl ⟨by rfl, fun W hW => by obtain ⟨s0, s1, s2⟩ := hW; go_simp⟩) HS16.out ?_
          try simp only [Act.put, List.setIfInBounds_toArray, List.set_cons_zero, List.set_cons_succ]
          refine H_takeD (k := 19) (v := .bool false) (d := some 93) rfl rfl (by decide +kernel) (fun _ _ _ h => h) (Or.inl ⟨by rfl, fun W hW => by obtain ⟨s0, s1, s2⟩ := hW; go_simp⟩) HS16.out ?_
          try simp only [Act.put, List.setIfInBounds_toArray, List.set_cons_zero, List.set_cons_succ]
          refine H_takeD (k := 20) (v := .int .i64 oe) (d := some 94) rfl rfl (by decide +kernel) (fun _ _ _ h => h) (Or.inl ⟨by simp [Region.wanted, yielded], fun W hW => by obtain ⟨s0, s1, s2⟩ := hW; go_simp⟩) HS16.out ?_
          try simp only [Act.put, List.setIfInBounds_toArray, List.set_cons_zero, List.set_cons_succ]
          refine H_takeD (k := 21) (v := .bool false) (d := some 95) rfl rfl (by decide +kernel) (fun _ _ _ h => h) (Or.inl ⟨by simp [Region.wanted, yielded], fun W hW => by obtain ⟨s0, s1, s2⟩ := hW; go_simp⟩) HS16.out ?_
          try simp only [Act.put, List.setIfInBounds_toArray, List.set_cons_zero, List.set_cons_succ]
          refine H_takeD (k := 22) (v := .bool false) (d := some 96) rfl rfl (by decide +kernel) (fun _ _ _ h => h) (Or.inl ⟨by simp [Region.wanted, yielded], fun W hW => by obtain ⟨s0, s1, s2⟩ := hW; go_simp⟩) HS16.out ?_
          try simp only [Act.put, List.setIfInBounds_toArray, List.set_cons_zero, List.set_cons_succ]
          refine H_takeD (k := 23) (v := undef) (d := some 97) rfl rfl (by decide +kernel) (fun _ _ _ h => h) (Or.inr ⟨by simp [Region.wanted, yielded, undef], rfl⟩) HS16.out ?_
          try simp only [Act.put, List.setIfInBounds_toArray, List.set_cons_zero, List.set_cons_succ]
          refine H_takeD (k := 24) (v := undef) (d := some 98) rfl rfl (by decide +kernel) (fun _ _ _ h => h) (Or.inr ⟨by simp [Region.wanted, yielded, undef], rfl⟩) HS16.out ?_
          try simp only [Act.put, List.setIfInBounds_toArray, List.set_cons_zero, List.set_cons_succ]
          refine H_takeD (k := 25) (v := undef) (d := some 99) rfl rfl (by decide +kernel) (fun _ _ _ h => h) (Or.inr ⟨by simp [Region.wanted, yielded, undef], rfl⟩) HS16.out ?_
          try simp only [Act.put, List.setIfInBounds_toArray, List.set_cons_zero, List.set_cons_succ]
          refine H_takeD (k := 26) (v := undef) (d := some 100) rfl rfl (by decide +kernel) (fun _ _ _ h => h) (Or.inr ⟨by simp [Region.wanted, yielded, undef], rfl⟩) HS16.out ?_
          try simp only [Act.put, List.setIfInBounds_toArray, List.set_cons_zero, List.set_cons_succ]
          refine H_takeD (k := 27) (v := undef) (d := some 101) rfl rfl (by decide +kernel) (fun _ _ _ h => h) (Or.inr ⟨by simp [Region.wanted, yielded, undef], rfl⟩) HS16.out ?_
          try simp only [Act.put, List.setIfInBounds_toArray, List.set_cons_zero, List.set_cons_succ]
          refine H_takeD (k := 28) (v := undef) (d := some 102) rfl rfl (by decide +kernel) (fun _ _ _ h => h) (Or.inr ⟨by simp [Region.wanted, yielded, undef], rfl⟩) HS16.out ?_
          try simp only [Act.put, List.setIfInBounds_toArray, List.set_cons_zero, List.set_cons_succ]
          refine H_takeD (k := 29) (v := .bool false) (d := some 103) rfl rfl (by decide +kernel) (fun _ _ _ h => h) (Or.inl ⟨by simp [Region.wanted, yielded], fun W hW => by obtain ⟨s0, s1, s2⟩ := hW; go_simp⟩) HS16.out ?_
          try simp only [Act.put, List.setIfInBounds_toArray, List.set_cons_zero, List.set_cons_succ]
          refine H_takeD (k := 30) (v := .bool false) (d := some 104) rfl rfl (by decide +kernel) (fun _ _ _ h => h) (Or.inl ⟨by rfl, fun W hW => by obtain ⟨s0, s1, s2⟩ := hW; go_simp⟩) HS16.out ?_
          try simp only [Act.put, List.setIfInBounds_toArray, List.set_cons_zero, List.set_cons_succ]
          refine H_end (by decide +kernel) (NoPanic.normal ?_)
          try simp only [Act.put, List.setIfInBounds_toArray, List.set_cons_zero, List.set_cons_succ]
          go_wp2_with fail
          go_meet
          exact ⟨rfl, Hb16.out⟩
      case rest =>
      as_aux_lemma =>
      obtain ⟨rfl, hbc⟩ := hcut
      obtain ⟨wK, rfl⟩ : ∃ x, x = wc := ⟨wc, rfl⟩
      have HbK := Lib.hid (Hb14.out.trans (hbc.mono Hb14.out.size))
      have Hsl8 := Lib.hid (Hsl8.out.below hbc)
      have Hbk8 := Lib.hid (Hbk8.out.below hbc Hbk8.out.lt)
      have Hown14 := Lib.hid (own_below Hown14.out hbc)
      clear hbc Hb14 Hck Hfl Hol
      go_wp2_with fail
      go_loopw [23, 24] (fun v i wr => ∃ (x : Nat) (vs : List Value), x ≤ L.length ∧ i = .int .i64 x ∧ wr.ownsRow wK.heap.size 22 1 v x vs ∧ IB wr wK.heap.size vs (L.take x) ∧ Below wK.heap.size wK wr) (fun _ i _ => L.length - (intOf i).toNat)
      case atStart => exact ⟨0, [], by omega, rfl, World.ownsRow_nil _ _ _ _, IB.nil _ _, Below.refl _ _⟩
      case round =>
        obtain ⟨x, vs, hx, rfl, hown, hIB, hb⟩ := hrel
        have hbs := hb.size
        by_cases hlt2 : x < L.length
        · obtain ⟨bD, oD, Bx, cx, lx, rfl, hcx, hsx, hgx⟩ := (Hsl8.out.below hb).get hlt2
          have hch : wr.cell? ⟨t8, 0, none⟩ = some (.slice (some ⟨bD, oD, none⟩) L.length m8) := (Hbk8.out.below hb Hbk8.out.lt).cell 0
          have hlx := HL2.out lx (List.mem_of_getElem? hgx.out)
          have hx1 := (Below.refl wr.heap.size wr).alloc (Nat.le_refl _) (.cells #[] 3)
          have hcx1 := (hx1.cell (World.block_lt_of_cell? _ _ hcx)).trans hcx
          have hch1 := (hx1.cell (World.block_lt_of_cell? _ _ hch)).trans hch
          have Hv := Lib.hid (own_void (base := wK.heap.size) (size := 1) (Bk.new wr 3 #[]) hbs)
          have Hsx := Lib.hid (hsx.below hx1)
          have hsz : wK.heap.size ≤ (wr.alloc (.cells #[] 3)).heap.size := by simp; omega
          have Hx1 := Lib.hid hx1
          have HIB := Lib.hid hIB
          have Hown := Lib.hid hown
          have Hb := Lib.hid hb
          have i0 : (0 : Int) ≤ (x : Int) := by omega
          clear hown hIB hb hx1 hsx
          go_wp2_with (at_builtin; first
            | (refine wpList_appM (w := wr.alloc (.cells #[] 3)) rfl _ _ rfl elt_int Hv.out hsz rfl rfl Hsx.out (by simp) (ints_all lx) (by omega) ?_; intro v2 W2 hown2 hg2; obtain ⟨A2, c2, rfl⟩ := own_slice hown2; have hbW := Hx1.out.grown hg2 (by simp) (fun k hk => by simp [Value.ownBlock] at hk; omega); have hownO := own_below Hown.out hbW; have hsz2 := Nat.le_trans hbs hbW.size)
            | (refine wpList_app2 (w := W2) rfl _ _ rfl elt_lists hownO hsz2 rfl rfl (by simp) rfl rfl (by omega) ?_; intro v3 W3 hown3 hg3 hz3))
          go_roundw
          case rel =>
            have hIB2 := (HIB.out.below hbW).snoc (by simpa using hown2)
            refine ⟨x + 1, _, by omega, by go_num, hown3, ?_, (Hb.out.trans (hbW.mono hbs)).grown hg3 hsz2 (fun k hk => (hownO.lt k hk).1)⟩
            rw [take_snoc' hgx.out]
            exact hIB2.grown hownO (by decide) hg3
          case measure => simp [intOf]; omega
        · obtain rfl : x = L.length := by omega
          rw [List.take_length] at hIB
          have hch : wr.cell? ⟨t8, 0, none⟩ = some (.slice D8 L.length m8) := (Hbk8.out.below hb Hbk8.out.lt).cell 0
          obtain ⟨BA, cB, rfl⟩ := own_slice hown
          have Hown := Lib.hid hown
          have HIB := Lib.hid hIB
          have Hb := Lib.hid hb
          clear hown hIB hb
          go_upto_region 16 with fail
          clear hch
          go_cut [131] (fun v wx => v = .bool (decide (0 < L.length ∧ 0 < (L.getD 0 []).length)) ∧ wx = wr)
          case first =>
            as_aux_lemma =>
            by_cases hL0 : L.length = 0
            · have hL0' : L.length ≤ 0 := by omega
              have hdec : Hid (decide (0 < L.length ∧ 0 < (L.getD 0 []).length) = false) := Lib.hid (decide_eq_false (by omega))
              clear hL0
              go_wp2_with fail
              go_meet
              exact ⟨by rw [hdec.out], rfl⟩
            · have hL0' : 0 < L.length := by omega
              clear hL0
              obtain ⟨gB, cB', hv, hgB, hgl⟩ := Hown.out.form hL0'
              injection hv with hv1 hv2 hv3
              subst hv1 hv3
              obtain ⟨b0, o0, B0, cc0, l0, he, hc0, hs0, hg0⟩ := (HIB.out.sll Hown.out).get (k := 0) hL0'
              injection he with he
              injection he with he1 he2
              subst he1 he2
              have hc0' : wr.cell? ⟨gB, 0, none⟩ = some (.slice B0 l0.length cc0) := hc0
              have hdec : Hid (decide (0 < L.length ∧ 0 < (L.getD 0 []).length) = decide (0 < l0.length)) := by
                show _ = _
                rw [List.getD, hg0.out, Option.getD_some]
                simp [hL0']
              have hl04 := HL2.out l0 (List.mem_of_getElem? hg0.out)
              clear hc0 hs0 hg0
              by_cases hl0 : 0 < l0.length
              · have hdt : Hid (decide (0 < l0.length) = true) := Lib.hid (decide_eq_true hl0)
                go_wp2_with fail
                go_meet
                exact ⟨by rw [hdec.out, hdt.out], rfl⟩
              · have hl0' : l0.length ≤ 0 := by omega
                have hdt : Hid (decide (0 < l0.length) = false) := Lib.hid (decide_eq_false hl0)
                clear hl0
                go_wp2_with fail
                go_meet
                exact ⟨by rw [hdec.out, hdt.out], rfl⟩
          case rest =>
          as_aux_lemma =>
          obtain ⟨rfl, rfl⟩ := hcut
          obtain ⟨wb, rfl⟩ : ∃ x, x = wc := ⟨wc, rfl⟩
          go_upto_if 131 with fail
          go_cut [25] (fun v wx => ∃ bs, SLL wx BA bs ∧ bs.length = L.length ∧ (∀ l ∈ bs, l.length ≤ 4096) ∧ Below wK.heap.size wK wx)
          case first =>
            as_aux_lemma =>
            by_cases hcond : 0 < L.length ∧ 0 < (L.getD 0 []).length
            · rw [decide_eq_true hcond]
              obtain ⟨hL0', _⟩ := hcond
              · obtain ⟨gB, cB', hv, hgB, hgl⟩ := Hown.out.form hL0'
                injection hv with hv1 hv2 hv3
                subst hv1 hv3
                obtain ⟨hy1, hy2⟩ := around_bd by_ L.length (by omega)
                have Hay := Lib.hid (fun W => around_any by_ L.length W h3.1 h3.2 (by omega) (by omega))
                generalize around by_ L.length = y0 at *
                obtain ⟨y, rfl⟩ := Int.eq_ofNat_of_zero_le hy1
                have hyl : y < L.length := by omega
                have hvl := HIB.out.len
                obtain ⟨By, cy, hvy, howny⟩ := HIB.out.el y _ _ (List.getElem?_eq_getElem (show y < vs.length by omega)) (List.getElem?_eq_getElem hyl)
                obtain ⟨ly, hly⟩ : ∃ ly, Hid (L[y] = ly) := ⟨_, Lib.hid rfl⟩
                rw [hly.out] at hvy howny
                obtain ⟨b1, o1, he, _, hcy⟩ := SL.of_own Hown.out y _ (List.getElem?_eq_getElem (show y < vs.length by omega))
                injection he with he
                injection he with he1 he2
                subst he1 he2
                rw [hvy, Nat.zero_add] at hcy
                have Howny := Lib.hid howny
                have hly4 : ly.length ≤ 4096 := by rw [← hly.out]; exact HL2.out _ (List.getElem_mem hyl)
                clear hvl hvy howny hly hy1
                have i0 : (0 : Int) ≤ (y : Int) := by omega
                go_wp2_with fail
                refine (Hay.out _).mono ?_
                rintro e w' ⟨rfl, rfl⟩
                by_cases hl1 : ly.length = 0
                · have hl1' : ly.length ≤ 0 := by omega
                  clear hl1
                  go_wp2_with fail
                  go_meet
                  exact ⟨L, HIB.out.sll Hown.out, rfl, HL2.out, Hb.out⟩
                · have hl1' : 0 < ly.length := by omega
                  clear hl1
                  obtain ⟨gy, cy', hv, hgy, hgyl⟩ := Howny.out.form hl1'
                  injection hv with hv1 hv2 hv3
                  subst hv1 hv3
                  obtain ⟨cur, hcur, htk⟩ := own_bk Howny.out
                  obtain ⟨hz1, hz2⟩ := around_bd at_ ly.length (by omega)
                  have Haz := Lib.hid (fun W => around_any at_ ly.length W h1.1 h1.2 (by omega) (by omega))
                  generalize around at_ ly.length = z0 at *
                  obtain ⟨z, rfl⟩ := Int.eq_ofNat_of_zero_le hz1
                  have hzl : z < ly.length := by omega
                  obtain ⟨hf1, hf2⟩ := around_bd by_ 5 (by omega)
                  have Haf := Lib.hid (fun W => around_any by_ 5 W h3.1 h3.2 (by omega) (by omega))
                  generalize around by_ 5 = f0 at *
                  have hwf : IntKind.i64.wrap (f0 - 1) = f0 - 1 := IntWalk.i64_in _ (by omega)
                  have hxk : cur[z]? = some (.int .i64 ly[z]) := by
                    have h1 : (cur.toList.take (ly.length * 1))[z]? = some (.int .i64 ly[z]) := by rw [htk]; simp [hzl]
                    rw [List.getElem?_take_of_lt (by omega)] at h1
                    simpa using h1
                  have hcw : wb.cell? ⟨gy, z, none⟩ = some (.int .i64 ly[z]) := (hcur.cell _).trans hxk
                  have hfw := hcur.frozen z
                  have i1 : (0 : Int) ≤ (z : Int) := by omega
                  have hput := (HIB.out.sll Hown.out).put (y := f0 - 1) hcw
                  have Hput := Lib.hid hput
                  clear hput hcur htk hxk hz1
                  generalize ly[z] = xz at *
                  go_wp2_with fail
                  refine (Haz.out _).mono ?_
                  rintro e w' ⟨rfl, rfl⟩
                  go_wp2_with fail
                  refine (Haf.out _).mono ?_
                  rintro e w' ⟨rfl, rfl⟩
                  go_wp2_with fail
                  go_meet
                  obtain ⟨bs, hp1, hp2, hp3⟩ := Hput.out
                  exact ⟨bs, hp1, hp2, hp3 _ HL2.out, Hb.out.setCell (p := ⟨gy, z, none⟩) hgy _⟩
            · rw [decide_eq_false hcond]
              clear hcond
              go_wp2_with fail
              go_meet
              exact ⟨L, HIB.out.sll Hown.out, rfl, HL2.out, Hb.out⟩
          case rest =>
          as_aux_lemma =>
          obtain ⟨bs, hbent, hbl, hbm, hbz⟩ := hcut
          obtain ⟨wz, rfl⟩ : ∃ x, x = wc := ⟨wc, rfl⟩
          have Hbent := Lib.hid hbent
          have Hbm := Lib.hid hbm
          have Hbl := Lib.hid hbl
          have hble := Nat.le_of_eq hbl
          have HbZ := Lib.hid (HbK.out.trans (hbz.mono HbK.out.size))
          have Hsl8 := Lib.hid (Hsl8.out.below hbz)
          have Hbk8 := Lib.hid (Hbk8.out.below hbz Hbk8.out.lt)
          have Hown14 := Lib.hid (own_below Hown14.out hbz)
          clear hbent hbm hbl hbz HIB Hown Hb
          obtain ⟨hn1, hn2⟩ := around_bd at_ ((T.length : Int) + 1) (by omega)
          have Han := Lib.hid (fun W => around_any at_ ((T.length : Int) + 1) W h1.1 h1.2 (by omega) (by omega))
          have hwn : IntKind.i64.wrap ((T.length : Int) + 1) = (T.length : Int) + 1 := IntWalk.i64_in _ (by omega)
          generalize around at_ ((T.length : Int) + 1) = n0 at *
          obtain ⟨nn, rfl⟩ := Int.eq_ofNat_of_zero_le hn1
          have hnn : nn ≤ T.length := by omega
          have HT := Lib.hid (SL.of_own Hown14.out)
          clear hn1
          go_upto_region 20 with fail
          go_wp2_with fail
          refine (Han.out _).mono ?_
          rintro e w' ⟨rfl, rfl⟩
          clear Han hwn
          go_upto_region 21 with fail
          go_cut [27] (fun v wx => ∃ X c, v = .slice X nn c ∧ SL wx X (pairC (T.take nn)) ∧ Below wz.heap.size wz wx)
          case first =>
            as_aux_lemma =>
            have Hv := Lib.hid (own_void (base := wz.heap.size) (size := 2) (Bk.new wz 47 #[]) (Nat.le_refl _))
            have hsz : wz.heap.size ≤ (wz.alloc (.cells #[] 47)).heap.size := by simp
            have Hxv := Lib.hid ((Below.refl wz.heap.size wz).alloc (Nat.le_refl _) (.cells #[] 47))
            have HTt := Lib.hid ((HT.out.below Hxv.out).pre (pairC_take T nn))
            have i0 : (0 : Int) ≤ (nn : Int) := by omega
            have i1 : (nn : Int) ≤ m14 := by omega
            have i2 : nn ≤ m14 := by omega
            go_wp2_with (at_builtin; refine wpList_appM (w := wz.alloc (.cells #[] 47)) (B := D14) (m := nn) (us := pairC (T.take nn)) rfl _ _ rfl elt_pair Hv.out hsz rfl rfl HTt.out (by rw [pairC_len]; simp [Nat.min_eq_left hnn]) (pairs_all _) (by omega) ?_; intro v2 W2 hown2 hg2; obtain ⟨X, cX, rfl⟩ := own_slice hown2)
            go_meet
            exact ⟨X, cX, by simp, by simpa using SL.of_own hown2, Hxv.out.grown hg2 hsz (fun k hk => by simp [Value.ownBlock] at hk; omega)⟩
          case rest =>
          as_aux_lemma =>
          obtain ⟨X1, x1, rfl, hX1, hb21⟩ := hcut
          obtain ⟨wx, rfl⟩ : ∃ x, x = wc := ⟨wc, rfl⟩
          have HX1 := Lib.hid hX1
          have Hb21 := Lib.hid hb21
          obtain ⟨hf1, hf2⟩ := around_bd by_ 5 (by omega)
          have Haf := Lib.hid (fun W => around_any by_ 5 W h3.1 h3.2 (by omega) (by omega))
          generalize around by_ 5 = f0 at *
          clear hX1 hb21
          go_upto_region 22 with fail
          go_cut [28] (fun v wy => ∃ X c, v = .slice X (nn + 1) c ∧ SL wy X (pairC (T.take nn ++ [(f0, 1)])) ∧ Below wx.heap.size wx wy)
          case first =>
            as_aux_lemma =>
            have Hv := Lib.hid (own_void (base := wx.heap.size) (size := 2) (Bk.new wx 47 #[]) (Nat.le_refl _))
            have hsz : wx.heap.size ≤ (wx.alloc (.cells #[] 47)).heap.size := by simp
            have Hxv := Lib.hid ((Below.refl wx.heap.size wx).alloc (Nat.le_refl _) (.cells #[] 47))
            have HTt := Lib.hid (HX1.out.below Hxv.out)
            go_wp2_with (at_builtin; refine wpList_appM (w := wx.alloc (.cells #[] 47)) (B := X1) (m := nn) (us := pairC (T.take nn)) rfl _ _ rfl elt_pair Hv.out hsz rfl rfl HTt.out (by rw [pairC_len]; simp [Nat.min_eq_left hnn]) (pairs_all _) (by omega) ?_; intro v2 W2 hown2 hg2; obtain ⟨X, cX, rfl⟩ := own_slice hown2)
            simp only [Nat.zero_add, List.nil_append] at hown2
            have hb2 := Hxv.out.grown hg2 hsz (fun k hk => by simp [Value.ownBlock] at hk; omega)
            have hsz2 := hb2.size
            refine (Haf.out _).mono ?_
            rintro e w' ⟨rfl, rfl⟩
            go_wp2_with (at_builtin; refine wpList_app2 (w := W2) rfl _ _ rfl elt_pair hown2 hsz2 rfl rfl (by simp) rfl rfl (by omega) ?_; intro v3 W3 hown3 hg3 hz3; obtain ⟨X3, cX3, rfl⟩ := own_slice hown3)
            go_meet
            exact ⟨X3, cX3, by simp, by rw [pairC_append]; exact SL.of_own hown3, hb2.grown hg3 hsz2 (fun k hk => (hown2.lt k hk).1)⟩
          case rest =>
          as_aux_lemma =>
          obtain ⟨X2, x2, rfl, hX2, hb22⟩ := hcut
          obtain ⟨wy, rfl⟩ : ∃ x, x = wc := ⟨wc, rfl⟩
          have HX2 := Lib.hid hX2
          have Hb22 := Lib.hid hb22
          clear hX2 hb22 Haf
          have Hbzy := Lib.hid (Hb21.out.trans (Hb22.out.mono Hb21.out.size))
          go_upto_region 23 with fail
          go_cut [29] (fun v wv => ∃ lb, v = .slice (some ⟨lb, 0, none⟩) 4 4 ∧ (∀ x, x < 4 → ∃ X l c, wv.cell? ⟨lb, x, none⟩ = some (.slice X (l : List (Int × Int)).length c) ∧ SL wv X (pairC l) ∧ l.length ≤ 16384) ∧ Below wy.heap.size wy wv)
          case first =>
            as_aux_lemma =>
            have HTy := Lib.hid (HT.out.below Hbzy.out)
            have i0 : (0 : Int) ≤ (nn : Int) := by omega
            rcases Hown14.out.2 with ⟨he, h0⟩ | ⟨gT, capT, curT, he, _⟩
            · injection he with e1 e2 e3
              subst e1 e3
              obtain rfl : T = [] := List.eq_nil_of_length_eq_zero e2
              obtain rfl : nn = 0 := by simpa using hnn
              clear e2 h0
              have HTd0 := Lib.hid (SL.nil_ : SL wy none (pairC (List.drop 0 [])))
              simp only [List.length_nil]
              refine wp_region_noPanic ?_
              refine region_H (S := fun _ => True) (by kernel_rfl) ?_
              change wpH _ _ _ _ 12 _ _ wy.drew
              refine H_takeD (k := 0) (v := .slice none 0 0) (d := some 169) rfl rfl (by decide +kernel) (fun _ _ _ h => h) (Or.inl ⟨by rfl, fun W hW => by go_simp⟩) trivial ?_
              try simp only [Act.put, List.setIfInBounds_toArray, List.set_cons_zero, List.set_cons_succ]
              refine H_takeD (k := 1) (v := .slice X1 0 x1) (d := some 170) rfl rfl (by decide +kernel) (fun _ _ _ h => h) (Or.inl ⟨by rfl, fun W hW => by go_simp⟩) trivial ?_
              try simp only [Act.put, List.setIfInBounds_toArray, List.set_cons_zero, List.set_cons_succ]
              refine H_takeD (k := 2) (v := .slice X2 1 x2) (d := some 171) rfl rfl (by decide +kernel) (fun _ _ _ h => h) (Or.inl ⟨by rfl, fun W hW => by go_simp⟩) trivial ?_
              try simp only [Act.put, List.setIfInBounds_toArray, List.set_cons_zero, List.set_cons_succ]
              refine H_takeD (k := 4) (v := .slice X2 1 x2) (d := some 173) rfl rfl (by decide +kernel) (fun _ _ _ h => h) (Or.inl ⟨by rfl, fun W hW => by go_simp⟩) trivial ?_
              try simp only [Act.put, List.setIfInBounds_toArray, List.set_cons_zero, List.set_cons_succ]
              refine H_takeD (k := 6) (v := .slice none 0 0) (d := some 175) rfl rfl (by decide +kernel) (fun _ _ _ h => h) (Or.inl ⟨by rfl, fun W hW => by go_simp⟩) trivial ?_
              try simp only [Act.put, List.setIfInBounds_toArray, List.set_cons_zero, List.set_cons_succ]
              refine H_takeD (k := 7) (v := .int .i64 0) (d := some 176) rfl rfl (by decide +kernel) (fun _ _ _ h => h) (Or.inl ⟨by rfl, fun W hW => by go_simp⟩) trivial ?_
              try simp only [Act.put, List.setIfInBounds_toArray, List.set_cons_zero, List.set_cons_succ]
              refine H_takeD (k := 8) (v := .slice none 0 0) (d := some 177) rfl rfl (by decide +kernel) (fun _ _ _ h => h) (Or.inl ⟨by rfl, fun W hW => by go_simp⟩) trivial ?_
              try simp only [Act.put, List.setIfInBounds_toArray, List.set_cons_zero, List.set_cons_succ]
              refine H_one (i := 3) (by decide +kernel) (H_step rfl rfl (fun K hK7 => ?_))
              have hK7 := Lib.hid hK7
              go_simp
              have Hv := Lib.hid (own_void (base := wy.heap.size) (size := 2) (Bk.new wy.drew 47 #[]) (Nat.le_refl _))
              have hsz : wy.heap.size ≤ (wy.drew.alloc (.cells #[] 47)).heap.size := by simp
              have hxv := ((Below.refl wy.heap.size wy).drew).alloc (Nat.le_refl _) (.cells #[] 47)
              have Hxv := Lib.hid hxv
              clear hxv
              refine hK7.out _ _ trivial ?_
              try simp only [Act.put, List.setIfInBounds_toArray, List.set_cons_zero, List.set_cons_succ]
              refine H_one (i := 5) (by decide +kernel) (H_step rfl rfl (fun K hK8 => ?_))
              have hK8 := Lib.hid hK8
              refine app_wpM (w := wy.drew.alloc (.cells #[] 47)) (us := pairC ([] ++ [(f0, 1)])) (B := X2) (.tmp 172) (.tmp 173) rfl elt_pair Hv.out hsz rfl rfl (HX2.out.below Hxv.out) (by rw [pairC_len]; simp []) (pairs_all _) (by omega) ?_
              intro v5 W5 hown5 hg5
              simp only [List.nil_append] at hown5
              have Hown5 := Lib.hid hown5
              have Hb5 := Lib.hid (Hxv.out.grown hg5 hsz (fun k hk => by simp [Value.ownBlock] at hk; omega))
              clear hown5 hg5
              refine hK8.out _ _ trivial ?_
              try simp only [Act.put, List.setIfInBounds_toArray, List.set_cons_zero, List.set_cons_succ]
              refine H_one (i := 9) (by decide +kernel) (H_step rfl rfl (fun K hK9 => ?_))
              have hK9 := Lib.hid hK9
              refine app_wpM (w := W5) (us := pairC ([])) (B := none) (.tmp 174) (.tmp 177) rfl elt_pair Hown5.out Hb5.out.size rfl rfl (HTd0.out.below Hb5.out) (by rw [pairC_len]; simp) (pairs_all _) (by omega) ?_
              intro v6 W6 hown6 hg6
              obtain ⟨X6, x6, rfl⟩ := own_slice hown6
              have Hb6 := Lib.hid (Hb5.out.grown hg6 Hb5.out.size (fun k hk => (Hown5.out.lt k hk).1))
              have HX6 := Lib.hid (SL.of_own hown6)
              clear hown6 hg6
              refine hK9.out _ _ trivial ?_
              try simp only [Act.put, List.setIfInBounds_toArray, List.set_cons_zero, List.set_cons_succ]
              refine H_one (i := 10) (by decide +kernel) (H_step rfl rfl (fun K hK10 => ?_))
              have hK10 := Lib.hid hK10
              go_simp
              have Hb10 := Lib.hid (Hb6.out.alloc Hb6.out.size (.cells #[.slice none 0 0, .slice X1 0 x1, .slice X2 1 x2, .slice X6 (0 + 1 + (0)) x6] 43))
              have Hn10 := Lib.hid (Bk.new W6 43 #[.slice none 0 0, .slice X1 0 x1, .slice X2 1 x2, .slice X6 (0 + 1 + (0)) x6])
              have HX6 := Lib.hid (HX6.out.below ((Below.refl _ _).alloc (Nat.le_refl _) (.cells #[.slice none 0 0, .slice X1 0 x1, .slice X2 1 x2, .slice X6 (0 + 1 + (0)) x6] 43)))
              try simp only [Nat.zero_add]
              refine hK10.out _ _ trivial ?_
              try simp only [Act.put, List.setIfInBounds_toArray, List.set_cons_zero, List.set_cons_succ]
              refine H_one (i := 11) (by decide +kernel) (H_step rfl rfl (fun K hK11 => ?_))
              have hK11 := Lib.hid hK11
              go_simp
              refine hK11.out _ _ trivial ?_
              try simp only [Act.put, List.setIfInBounds_toArray, List.set_cons_zero, List.set_cons_succ]
              refine H_end (by decide +kernel) (NoPanic.normal ?_)
              try simp only [Act.put, List.setIfInBounds_toArray, List.set_cons_zero, List.set_cons_succ]
              go_wp2_with fail
              go_meet
              refine ⟨W6.heap.size, rfl, fun x hx => ?_, by simpa using Hb10.out⟩
              have Hn10 := Hn10.out
              try simp only [Nat.zero_add] at Hn10 Hb10 HX6
              rcases (by omega : x = 0 ∨ x = 1 ∨ x = 2 ∨ x = 3) with rfl | rfl | rfl | rfl
              · exact ⟨none, [], 0, Hn10.cell 0, HTy.out.below Hb10.out, by first | omega | (simp <;> omega)⟩
              · exact ⟨X1, [], x1, (Hn10.cell 1).trans (by simp []), HX1.out.below (Hb22.out.trans (Hb10.out.mono Hb22.out.size)), by first | omega | (simp <;> omega)⟩
              · exact ⟨X2, [] ++ [(f0, 1)], x2, (Hn10.cell 2).trans (by simp []), HX2.out.below Hb10.out, by first | omega | (simp <;> omega)⟩
              · exact ⟨X6, ([] ++ [(f0, 1)]) ++ [], x6, (Hn10.cell 3).trans (by simp [] <;> omega), by rw [pairC_append]; exact HX6.out, by first | omega | (simp <;> omega)⟩
            · injection he with e1 e2 e3
              subst e1
              clear e2 e3
              have i1 : (nn : Int) ≤ T.length := by omega
              by_cases hm : m14 = nn
              · subst hm
                have HTd0 := Lib.hid (SL.nil_ : SL wy (some ⟨gT, 0, none⟩) (pairC []))
                refine wp_region_noPanic ?_
                refine region_H (S := fun _ => True) (by kernel_rfl) ?_
                change wpH _ _ _ _ 12 _ _ wy.drew
                refine H_takeD (k := 0) (v := .slice (some ⟨gT, 0, none⟩) T.length m14) (d := some 169) rfl rfl (by decide +kernel) (fun _ _ _ h => h) (Or.inl ⟨by rfl, fun W hW => by go_simp⟩) trivial ?_
                try simp only [Act.put, List.setIfInBounds_toArray, List.set_cons_zero, List.set_cons_succ]
                refine H_takeD (k := 1) (v := .slice X1 m14 x1) (d := some 170) rfl rfl (by decide +kernel) (fun _ _ _ h => h) (Or.inl ⟨by rfl, fun W hW => by go_simp⟩) trivial ?_
                try simp only [Act.put, List.setIfInBounds_toArray, List.set_cons_zero, List.set_cons_succ]
                refine H_takeD (k := 2) (v := .slice X2 (m14 + 1) x2) (d := some 171) rfl rfl (by decide +kernel) (fun _ _ _ h => h) (Or.inl ⟨by rfl, fun W hW => by go_simp⟩) trivial ?_
                try simp only [Act.put, List.setIfInBounds_toArray, List.set_cons_zero, List.set_cons_succ]
                refine H_takeD (k := 4) (v := .slice X2 (m14 + 1) x2) (d := some 173) rfl rfl (by decide +kernel) (fun _ _ _ h => h) (Or.inl ⟨by rfl, fun W hW => by go_simp⟩) trivial ?_
                try simp only [Act.put, List.setIfInBounds_toArray, List.set_cons_zero, List.set_cons_succ]
                refine H_takeD (k := 6) (v := .slice (some ⟨gT, 0, none⟩) T.length m14) (d := some 175) rfl rfl (by decide +kernel) (fun _ _ _ h => h) (Or.inl ⟨by rfl, fun W hW => by go_simp⟩) trivial ?_
                try simp only [Act.put, List.setIfInBounds_toArray, List.set_cons_zero, List.set_cons_succ]
                refine H_takeD (k := 7) (v := .int .i64 m14) (d := some 176) rfl rfl (by decide +kernel) (fun _ _ _ h => h) (Or.inl ⟨by rfl, fun W hW => by go_simp⟩) trivial ?_
                try simp only [Act.put, List.setIfInBounds_toArray, List.set_cons_zero, List.set_cons_succ]
                refine H_takeD (k := 8) (v := .slice (some ⟨gT, 0, none⟩) 0 0) (d := some 177) rfl rfl (by decide +kernel) (fun _ _ _ h => h) (Or.inl ⟨by rfl, fun W hW => by go_simp⟩) trivial ?_
                try simp only [Act.put, List.setIfInBounds_toArray, List.set_cons_zero, List.set_cons_succ]
                refine H_one (i := 3) (by decide +kernel) (H_step rfl rfl (fun K hK7 => ?_))
                have hK7 := Lib.hid hK7
                go_simp
                have Hv := Lib.hid (own_void (base := wy.heap.size) (size := 2) (Bk.new wy.drew 47 #[]) (Nat.le_refl _))
                have hsz : wy.heap.size ≤ (wy.drew.alloc (.cells #[] 47)).heap.size := by simp
                have hxv := ((Below.refl wy.heap.size wy).drew).alloc (Nat.le_refl _) (.cells #[] 47)
                have Hxv := Lib.hid hxv
                clear hxv
                refine hK7.out _ _ trivial ?_
                try simp only [Act.put, List.setIfInBounds_toArray, List.set_cons_zero, List.set_cons_succ]
                refine H_one (i := 5) (by decide +kernel) (H_step rfl rfl (fun K hK8 => ?_))
                have hK8 := Lib.hid hK8
                refine app_wpM (w := wy.drew.alloc (.cells #[] 47)) (us := pairC (T.take m14 ++ [(f0, 1)])) (B := X2) (.tmp 172) (.tmp 173) rfl elt_pair Hv.out hsz rfl rfl (HX2.out.below Hxv.out) (by rw [pairC_len]; simp [Nat.min_eq_left hnn]) (pairs_all _) (by omega) ?_
                intro v5 W5 hown5 hg5
                simp only [List.nil_append] at hown5
                have Hown5 := Lib.hid hown5
                have Hb5 := Lib.hid (Hxv.out.grown hg5 hsz (fun k hk => by simp [Value.ownBlock] at hk; omega))
                clear hown5 hg5
                refine hK8.out _ _ trivial ?_
                try simp only [Act.put, List.setIfInBounds_toArray, List.set_cons_zero, List.set_cons_succ]
                refine H_one (i := 9) (by decide +kernel) (H_step rfl rfl (fun K hK9 => ?_))
                have hK9 := Lib.hid hK9
                refine app_wpM (w := W5) (us := pairC ([])) (B := some ⟨gT, 0, none⟩) (.tmp 174) (.tmp 177) rfl elt_pair Hown5.out Hb5.out.size rfl rfl (HTd0.out.below Hb5.out) (by rw [pairC_len]; simp) (pairs_all _) (by omega) ?_
                intro v6 W6 hown6 hg6
                obtain ⟨X6, x6, rfl⟩ := own_slice hown6
                have Hb6 := Lib.hid (Hb5.out.grown hg6 Hb5.out.size (fun k hk => (Hown5.out.lt k hk).1))
                have HX6 := Lib.hid (SL.of_own hown6)
                clear hown6 hg6
                refine hK9.out _ _ trivial ?_
                try simp only [Act.put, List.setIfInBounds_toArray, List.set_cons_zero, List.set_cons_succ]
                refine H_one (i := 10) (by decide +kernel) (H_step rfl rfl (fun K hK10 => ?_))
                have hK10 := Lib.hid hK10
                go_simp
                have Hb10 := Lib.hid (Hb6.out.alloc Hb6.out.size (.cells #[.slice (some ⟨gT, 0, none⟩) T.length m14, .slice X1 m14 x1, .slice X2 (m14 + 1) x2, .slice X6 (0 + (m14 + 1) + 0) x6] 43))
                have Hn10 := Lib.hid (Bk.new W6 43 #[.slice (some ⟨gT, 0, none⟩) T.length m14, .slice X1 m14 x1, .slice X2 (m14 + 1) x2, .slice X6 (0 + (m14 + 1) + 0) x6])
                have HX6 := Lib.hid (HX6.out.below ((Below.refl _ _).alloc (Nat.le_refl _) (.cells #[.slice (some ⟨gT, 0, none⟩) T.length m14, .slice X1 m14 x1, .slice X2 (m14 + 1) x2, .slice X6 (0 + (m14 + 1) + 0) x6] 43)))
                try simp only [Nat.zero_add]
                refine hK10.out _ _ trivial ?_
                try simp only [Act.put, List.setIfInBounds_toArray, List.set_cons_zero, List.set_cons_succ]
                refine H_one (i := 11) (by decide +kernel) (H_step rfl rfl (fun K hK11 => ?_))
                have hK11 := Lib.hid hK11
                go_simp
                refine hK11.out _ _ trivial ?_
                try simp only [Act.put, List.setIfInBounds_toArray, List.set_cons_zero, List.set_cons_succ]
                refine H_end (by decide +kernel) (NoPanic.normal ?_)
                try simp only [Act.put, List.setIfInBounds_toArray, List.set_cons_zero, List.set_cons_succ]
                go_wp2_with fail
                go_meet
                refine ⟨W6.heap.size, rfl, fun x hx => ?_, by simpa using Hb10.out⟩
                have Hn10 := Hn10.out
                try simp only [Nat.zero_add] at Hn10 Hb10 HX6
                rcases (by omega : x = 0 ∨ x = 1 ∨ x = 2 ∨ x = 3) with rfl | rfl | rfl | rfl
                · exact ⟨(some ⟨gT, 0, none⟩), T, m14, Hn10.cell 0, HTy.out.below Hb10.out, by first | omega | (simp <;> omega)⟩
                · exact ⟨X1, T.take m14, x1, (Hn10.cell 1).trans (by simp [Nat.min_eq_left hnn]), HX1.out.below (Hb22.out.trans (Hb10.out.mono Hb22.out.size)), by first | omega | (simp <;> omega)⟩
                · exact ⟨X2, T.take m14 ++ [(f0, 1)], x2, (Hn10.cell 2).trans (by simp [Nat.min_eq_left hnn]), HX2.out.below Hb10.out, by first | omega | (simp <;> omega)⟩
                · exact ⟨X6, (T.take m14 ++ [(f0, 1)]) ++ [], x6, (Hn10.cell 3).trans (by simp [Nat.min_eq_left hnn] <;> omega), by rw [pairC_append]; exact HX6.out, by first | omega | (simp <;> omega)⟩
              · have HTd0 := Lib.hid (show SL wy (some ⟨gT, nn * 2, none⟩) (pairC (T.drop nn)) from by
                  have h := HTy.out.dropAt (nn * 2)
                  rw [pairC_drop T nn hnn, Nat.zero_add] at h
                  exact h)
                refine wp_region_noPanic ?_
                refine region_H (S := fun _ => True) (by kernel_rfl) ?_
                change wpH _ _ _ _ 12 _ _ wy.drew
                refine H_takeD (k := 0) (v := .slice (some ⟨gT, 0, none⟩) T.length m14) (d := some 169) rfl rfl (by decide +kernel) (fun _ _ _ h => h) (Or.inl ⟨by rfl, fun W hW => by go_simp⟩) trivial ?_
                try simp only [Act.put, List.setIfInBounds_toArray, List.set_cons_zero, List.set_cons_succ]
                refine H_takeD (k := 1) (v := .slice X1 nn x1) (d := some 170) rfl rfl (by decide +kernel) (fun _ _ _ h => h) (Or.inl ⟨by rfl, fun W hW => by go_simp⟩) trivial ?_
                try simp only [Act.put, List.setIfInBounds_toArray, List.set_cons_zero, List.set_cons_succ]
                refine H_takeD (k := 2) (v := .slice X2 (nn + 1) x2) (d := some 171) rfl rfl (by decide +kernel) (fun _ _ _ h => h) (Or.inl ⟨by rfl, fun W hW => by go_simp⟩) trivial ?_
                try simp only [Act.put, List.setIfInBounds_toArray, List.set_cons_zero, List.set_cons_succ]
                refine H_takeD (k := 4) (v := .slice X2 (nn + 1) x2) (d := some 173) rfl rfl (by decide +kernel) (fun _ _ _ h => h) (Or.inl ⟨by rfl, fun W hW => by go_simp⟩) trivial ?_
                try simp only [Act.put, List.setIfInBounds_toArray, List.set_cons_zero, List.set_cons_succ]
                refine H_takeD (k := 6) (v := .slice (some ⟨gT, 0, none⟩) T.length m14) (d := some 175) rfl rfl (by decide +kernel) (fun _ _ _ h => h) (Or.inl ⟨by rfl, fun W hW => by go_simp⟩) trivial ?_
                try simp only [Act.put, List.setIfInBounds_toArray, List.set_cons_zero, List.set_cons_succ]
                refine H_takeD (k := 7) (v := .int .i64 nn) (d := some 176) rfl rfl (by decide +kernel) (fun _ _ _ h => h) (Or.inl ⟨by rfl, fun W hW => by go_simp⟩) trivial ?_
                try simp only [Act.put, List.setIfInBounds_toArray, List.set_cons_zero, List.set_cons_succ]
                refine H_takeD (k := 8) (v := .slice (some ⟨gT, nn * 2, none⟩) (T.length - nn) (m14 - nn)) (d := some 177) rfl rfl (by decide +kernel) (fun _ _ _ h => h) (Or.inl ⟨by rfl, fun W hW => by go_simp⟩) trivial ?_
                try simp only [Act.put, List.setIfInBounds_toArray, List.set_cons_zero, List.set_cons_succ]
                refine H_one (i := 3) (by decide +kernel) (H_step rfl rfl (fun K hK7 => ?_))
                have hK7 := Lib.hid hK7
                go_simp
                have Hv := Lib.hid (own_void (base := wy.heap.size) (size := 2) (Bk.new wy.drew 47 #[]) (Nat.le_refl _))
                have hsz : wy.heap.size ≤ (wy.drew.alloc (.cells #[] 47)).heap.size := by simp
                have hxv := ((Below.refl wy.heap.size wy).drew).alloc (Nat.le_refl _) (.cells #[] 47)
                have Hxv := Lib.hid hxv
                clear hxv
                refine hK7.out _ _ trivial ?_
                try simp only [Act.put, List.setIfInBounds_toArray, List.set_cons_zero, List.set_cons_succ]
                refine H_one (i := 5) (by decide +kernel) (H_step rfl rfl (fun K hK8 => ?_))
                have hK8 := Lib.hid hK8
                refine app_wpM (w := wy.drew.alloc (.cells #[] 47)) (us := pairC (T.take nn ++ [(f0, 1)])) (B := X2) (.tmp 172) (.tmp 173) rfl elt_pair Hv.out hsz rfl rfl (HX2.out.below Hxv.out) (by rw [pairC_len]; simp [Nat.min_eq_left hnn]) (pairs_all _) (by omega) ?_
                intro v5 W5 hown5 hg5
                simp only [List.nil_append] at hown5
                have Hown5 := Lib.hid hown5
                have Hb5 := Lib.hid (Hxv.out.grown hg5 hsz (fun k hk => by simp [Value.ownBlock] at hk; omega))
                clear hown5 hg5
                refine hK8.out _ _ trivial ?_
                try simp only [Act.put, List.setIfInBounds_toArray, List.set_cons_zero, List.set_cons_succ]
                refine H_one (i := 9) (by decide +kernel) (H_step rfl rfl (fun K hK9 => ?_))
                have hK9 := Lib.hid hK9
                refine app_wpM (w := W5) (us := pairC (T.drop nn)) (B := some ⟨gT, nn * 2, none⟩) (.tmp 174) (.tmp 177) rfl elt_pair Hown5.out Hb5.out.size rfl rfl (HTd0.out.below Hb5.out) (by rw [pairC_len]; simp) (pairs_all _) (by omega) ?_
                intro v6 W6 hown6 hg6
                obtain ⟨X6, x6, rfl⟩ := own_slice hown6
                have Hb6 := Lib.hid (Hb5.out.grown hg6 Hb5.out.size (fun k hk => (Hown5.out.lt k hk).1))
                have HX6 := Lib.hid (SL.of_own hown6)
                clear hown6 hg6
                refine hK9.out _ _ trivial ?_
                try simp only [Act.put, List.setIfInBounds_toArray, List.set_cons_zero, List.set_cons_succ]
                refine H_one (i := 10) (by decide +kernel) (H_step rfl rfl (fun K hK10 => ?_))
                have hK10 := Lib.hid hK10
                go_simp
                have Hb10 := Lib.hid (Hb6.out.alloc Hb6.out.size (.cells #[.slice (some ⟨gT, 0, none⟩) T.length m14, .slice X1 nn x1, .slice X2 (nn + 1) x2, .slice X6 (0 + (nn + 1) + (T.length - nn)) x6] 43))
                have Hn10 := Lib.hid (Bk.new W6 43 #[.slice (some ⟨gT, 0, none⟩) T.length m14, .slice X1 nn x1, .slice X2 (nn + 1) x2, .slice X6 (0 + (nn + 1) + (T.length - nn)) x6])
                have HX6 := Lib.hid (HX6.out.below ((Below.refl _ _).alloc (Nat.le_refl _) (.cells #[.slice (some ⟨gT, 0, none⟩) T.length m14, .slice X1 nn x1, .slice X2 (nn + 1) x2, .slice X6 (0 + (nn + 1) + (T.length - nn)) x6] 43)))
                try simp only [Nat.zero_add]
                refine hK10.out _ _ trivial ?_
                try simp only [Act.put, List.setIfInBounds_toArray, List.set_cons_zero, List.set_cons_succ]
                refine H_one (i := 11) (by decide +kernel) (H_step rfl rfl (fun K hK11 => ?_))
                have hK11 := Lib.hid hK11
                go_simp
                refine hK11.out _ _ trivial ?_
                try simp only [Act.put, List.setIfInBounds_toArray, List.set_cons_zero, List.set_cons_succ]
                refine H_end (by decide +kernel) (NoPanic.normal ?_)
                try simp only [Act.put, List.setIfInBounds_toArray, List.set_cons_zero, List.set_cons_succ]
                go_wp2_with fail
                go_meet
                refine ⟨W6.heap.size, rfl, fun x hx => ?_, by simpa using Hb10.out⟩
                have Hn10 := Hn10.out
                try simp only [Nat.zero_add] at Hn10 Hb10 HX6
                rcases (by omega : x = 0 ∨ x = 1 ∨ x = 2 ∨ x = 3) with rfl | rfl | rfl | rfl
                · exact ⟨(some ⟨gT, 0, none⟩), T, m14, Hn10.cell 0, HTy.out.below Hb10.out, by first | omega | (simp <;> omega)⟩
                · exact ⟨X1, T.take nn, x1, (Hn10.cell 1).trans (by simp [Nat.min_eq_left hnn]), HX1.out.below (Hb22.out.trans (Hb10.out.mono Hb22.out.size)), by first | omega | (simp <;> omega)⟩
                · exact ⟨X2, T.take nn ++ [(f0, 1)], x2, (Hn10.cell 2).trans (by simp [Nat.min_eq_left hnn]), HX2.out.below Hb10.out, by first | omega | (simp <;> omega)⟩
                · exact ⟨X6, (T.take nn ++ [(f0, 1)]) ++ T.drop nn, x6, (Hn10.cell 3).trans (by simp [Nat.min_eq_left hnn] <;> omega), by rw [pairC_append]; exact HX6.out, by first | omega | (simp <;> omega)⟩
          case rest =>
          as_aux_lemma =>
          obtain ⟨lb, rfl, hlst, hb23⟩ := hcut
          obtain ⟨wv, rfl⟩ : ∃ x, x = wc := ⟨wc, rfl⟩
          have Hlst := Lib.hid hlst
          have Hbzv := Lib.hid (Hbzy.out.trans (hb23.mono Hbzy.out.size))
          have Hbk8v := Lib.hid (Hbk8.out.below Hbzv.out Hbk8.out.lt)
          have Hsl8v := Lib.hid (Hsl8.out.below Hbzv.out)
          have Hbent := Lib.hid (Hbent.out.below Hbzv.out)
          clear hlst hb23
          obtain ⟨hh, Hhh⟩ : ∃ x, Hid (L.length / 2 = x) := ⟨_, Lib.hid rfl⟩
          have hhl : hh ≤ L.length := by have := Hhh.out; omega
          have hhm : hh ≤ m8 := by omega
          have hhm2 : (hh : Int) ≤ m8 := by omega
          have hq2 : IntKind.i64.wrap ((L.length : Int).tdiv 2) = (hh : Int) := by
            have h0 := Hhh.out
            have e : (L.length : Int).tdiv 2 = ((L.length / 2 : Nat) : Int) := by rw [Int.tdiv_eq_ediv_of_nonneg (by omega)]; rfl
            rw [e, h0, IntWalk.i64_in _ (by omega)]
          have hq3 : IntKind.i64.wrap ((L.length : Int) / 2) = (hh : Int) := by rw [← hq2, Int.tdiv_eq_ediv_of_nonneg (by omega)]
          have hh0 : (0 : Int) ≤ (hh : Int) := by omega
          go_upto_region 24 with fail
          go_cut [30] (fun v wu => ∃ cbk, v = .slice (some ⟨cbk, 0, none⟩) 3 3 ∧ (∀ y, y < 3 → ∃ Y ys c, wu.cell? ⟨cbk, y, none⟩ = some (.slice Y (ys : List (List Int)).length c) ∧ SLL wu Y ys ∧ ∀ l ∈ ys, l.length ≤ 4096) ∧ Below wv.heap.size wv wu)
          case first =>
            as_aux_lemma =>
            have HSg24 := Lib.hid (fun W (hW : Below wv.heap.size wv W) => (Hbk8v.out.below hW Hbk8v.out.lt).cell 0)
            have HS0 := Lib.hid (HSg24.out _ (Below.refl wv.heap.size wv).drew)
            refine wp_region_noPanic ?_
            refine region_H (S := fun W => W.cell? ⟨t8, 0, none⟩ = some (.slice D8 L.length m8)) (by kernel_rfl) ?_
            change wpH _ _ _ _ 12 _ _ wv.drew
            refine H_takeD (k := 0) (v := .pointer (some ⟨t8, 0, none⟩)) (d := some 180) rfl rfl (by decide +kernel) (fun _ _ _ h => h) (Or.inl ⟨by rfl, fun W hW => by go_simp⟩) HS0.out ?_
            try simp only [Act.put, List.setIfInBounds_toArray, List.set_cons_zero, List.set_cons_succ]
            refine H_takeD (k := 1) (v := .slice D8 L.length m8) (d := some 181) rfl rfl (by decide +kernel) (fun _ _ _ h => h) (Or.inl ⟨by rfl, fun W hW => by go_simp⟩) HS0.out ?_
            try simp only [Act.put, List.setIfInBounds_toArray, List.set_cons_zero, List.set_cons_succ]
            refine H_takeD (k := 2) (v := .slice BA L.length cB) (d := some 182) rfl rfl (by decide +kernel) (fun _ _ _ h => h) (Or.inl ⟨by rfl, fun W hW => by go_simp⟩) HS0.out ?_
            try simp only [Act.put, List.setIfInBounds_toArray, List.set_cons_zero, List.set_cons_succ]
            refine H_takeD (k := 3) (v := .pointer (some ⟨t8, 0, none⟩)) (d := some 183) rfl rfl (by decide +kernel) (fun _ _ _ h => h) (Or.inl ⟨by rfl, fun W hW => by go_simp⟩) HS0.out ?_
            try simp only [Act.put, List.setIfInBounds_toArray, List.set_cons_zero, List.set_cons_succ]
            refine H_takeD (k := 4) (v := .slice D8 L.length m8) (d := some 184) rfl rfl (by decide +kernel) (fun _ _ _ h => h) (Or.inl ⟨by rfl, fun W hW => by go_simp⟩) HS0.out ?_
            try simp only [Act.put, List.setIfInBounds_toArray, List.set_cons_zero, List.set_cons_succ]
            refine H_takeD (k := 5) (v := .pointer (some ⟨t8, 0, none⟩)) (d := some 185) rfl rfl (by decide +kernel) (fun _ _ _ h => h) (Or.inl ⟨by rfl, fun W hW => by go_simp⟩) HS0.out ?_
            try simp only [Act.put, List.setIfInBounds_toArray, List.set_cons_zero, List.set_cons_succ]
            refine H_takeD (k := 6) (v := .slice D8 L.length m8) (d := some 186) rfl rfl (by decide +kernel) (fun _ _ _ h => h) (Or.inl ⟨by rfl, fun W hW => by go_simp⟩) HS0.out ?_
            try simp only [Act.put, List.setIfInBounds_toArray, List.set_cons_zero, List.set_cons_succ]
            refine H_takeD (k := 7) (v := .int .i64 L.length) (d := some 187) rfl rfl (by decide +kernel) (fun _ _ _ h => h) (Or.inl ⟨by rfl, fun W hW => by go_simp⟩) HS0.out ?_
            try simp only [Act.put, List.setIfInBounds_toArray, List.set_cons_zero, List.set_cons_succ]
            refine H_takeD (k := 8) (v := .int .i64 hh) (d := some 188) rfl rfl (by decide +kernel) (fun _ _ _ h => h) (Or.inl ⟨by rfl, fun W hW => by go_simp⟩) HS0.out ?_
            try simp only [Act.put, List.setIfInBounds_toArray, List.set_cons_zero, List.set_cons_succ]
            refine H_takeD (k := 9) (v := .slice D8 hh m8) (d := some 189) rfl rfl (by decide +kernel) (fun _ _ _ h => h) (Or.inl ⟨by rfl, fun W hW => by go_simp⟩) HS0.out ?_
            try simp only [Act.put, List.setIfInBounds_toArray, List.set_cons_zero, List.set_cons_succ]
            refine H_one (i := 10) (by decide +kernel) (H_step rfl rfl (fun K hK10 => ?_))
            have hK10 := Lib.hid hK10
            go_simp
            have Hb24 := Lib.hid (show Below wv.heap.size wv ((wv.alloc (.cells #[.slice D8 L.length m8, .slice BA L.length cB, .slice D8 hh m8] 25)).drew) from (((Below.refl wv.heap.size wv).drew).alloc (Nat.le_refl _) (.cells #[.slice D8 L.length m8, .slice BA L.length cB, .slice D8 hh m8] 25)))
            have Hn24 := Lib.hid (show Bk ((wv.alloc (.cells #[.slice D8 L.length m8, .slice BA L.length cB, .slice D8 hh m8] 25)).drew) wv.heap.size 25 #[.slice D8 L.length m8, .slice BA L.length cB, .slice D8 hh m8] from Bk.new wv.drew _ _)
            have HS24 := Lib.hid (HSg24.out _ Hb24.out)
            refine hK10.out _ _ HS24.out ?_
            try simp only [Act.put, List.setIfInBounds_toArray, List.set_cons_zero, List.set_cons_succ]
            refine H_one (i := 11) (by decide +kernel) (H_step rfl rfl (fun K hK11 => ?_))
            have hK11 := Lib.hid hK11
            go_simp
            refine hK11.out _ _ HS24.out ?_
            try simp only [Act.put, List.setIfInBounds_toArray, List.set_cons_zero, List.set_cons_succ]
            refine H_end (by decide +kernel) (NoPanic.normal ?_)
            try simp only [Act.put, List.setIfInBounds_toArray, List.set_cons_zero, List.set_cons_succ]
            go_wp2_with fail
            go_meet
            refine ⟨wv.heap.size, rfl, fun y hy => ?_, Hb24.out⟩
            rcases (by omega : y = 0 ∨ y = 1 ∨ y = 2) with rfl | rfl | rfl
            · exact ⟨D8, L, m8, Hn24.out.cell 0, Hsl8v.out.below Hb24.out, HL2.out⟩
            · exact ⟨BA, bs, cB, (Hn24.out.cell 1).trans (by simp [Hbl.out]), Hbent.out.below Hb24.out, Hbm.out⟩
            · exact ⟨D8, L.take hh, m8, (Hn24.out.cell 2).trans (by simp [Nat.min_eq_left hhl]), (Hsl8v.out.below Hb24.out).takeN _, fun l hl => HL2.out l (List.mem_of_mem_take hl)⟩
          case rest =>
          as_aux_lemma =>
          obtain ⟨cbk, rfl, hchs, hb24⟩ := hcut
          obtain ⟨wu, rfl⟩ : ∃ x, x = wc := ⟨wc, rfl⟩
          have Hchs := Lib.hid hchs
          have Hb24 := Lib.hid hb24
          have HbU := Lib.hid (HbZ.out.trans ((Hbzv.out.trans (hb24.mono Hbzv.out.size)).mono HbZ.out.size))
          clear hchs hb24 hq2 hq3
          go_wp2_with fail
          go_loopw [31] (fun v wr => ∃ x : Nat, x ≤ 4 ∧ v = .int .i64 x ∧ Below wu.heap.size wu wr) (fun v _ => 4 - (intOf v).toNat)
          case atStart => exact ⟨0, by omega, rfl, Below.refl _ _⟩
          case round =>
            as_aux_lemma =>
            obtain ⟨x, hx4, rfl, hb⟩ := hrel
            by_cases hlx : x < 4
            · obtain ⟨X, xl, cx, hcX, hsX, hlX⟩ := Hlst.out x hlx
              have HcX := Lib.hid ((Hb24.out.cell (World.block_lt_of_cell? _ _ hcX)).trans hcX)
              have HsX := Lib.hid (hsX.below Hb24.out)
              have Hbx := Lib.hid hb
              have hx0 : (0 : Int) ≤ (x : Int) := by omega
              have hx4' : (x : Int) < 4 := by omega
              clear hcX hsX hb hx4
              go_wp2_with fail
              go_loopw [32] (fun v wr => ∃ y : Nat, y ≤ 3 ∧ v = .int .i64 y ∧ Below wu.heap.size wu wr) (fun v _ => 3 - (intOf v).toNat)
              case atStart => exact ⟨0, by omega, rfl, Hbx.out⟩
              case round =>
                clear Hbx
                obtain ⟨y, hy3, rfl, hb⟩ := hrel
                by_cases hly : y < 3
                · obtain ⟨Y, ys, cy, hcY, hsY, hlY⟩ := Hchs.out y hly
                  have HcY := Lib.hid hcY
                  have HsY := Lib.hid hsY
                  have HlY := Lib.hid hlY
                  have Hbx := Lib.hid hb
                  have hy0 : (0 : Int) ≤ (y : Int) := by omega
                  have hy3' : (y : Int) < 3 := by omega
                  clear hcY hsY hlY hb hy3
                  go_wp2_with fail
                  go_loopw [33] (fun v wr => ∃ z : Nat, z ≤ 2 ∧ v = .int .i64 z ∧ Below wu.heap.size wu wr) (fun v _ => 2 - (intOf v).toNat)
                  case atStart => exact ⟨0, by omega, rfl, Hbx.out⟩
                  case round =>
                    clear Hbx
                    obtain ⟨z, hz2, rfl, hb⟩ := hrel
                    by_cases hlz : z < 2
                    · have Hbx := Lib.hid hb
                      have hz0 : (0 : Int) ≤ (z : Int) := by omega
                      have hz2' : (z : Int) < 2 := by omega
                      clear hb hz2
                      go_upto_region 34 with fail
                      go_cut [34] (fun v wx => ∃ val, v = .int .i64 val ∧ Below wu.heap.size wu wx)
                      case first =>
                        as_aux_lemma =>
                        have hbl := Hbx.out.alloc Hbx.out.size (.cells #[.int .i64 s, .int .i64 scale_] 3)
                        have hbn := Bk.new wr 3 #[.int .i64 s, .int .i64 scale_]
                        obtain ⟨val, hval⟩ : ∃ val, (wr.alloc (.cells #[.int .i64 s, .int .i64 scale_] 3)).cell? ⟨wr.heap.size, z, none⟩ = some (.int .i64 val) := by
                          rcases (by omega : z = 0 ∨ z = 1) with rfl | rfl
                          · exact ⟨_, hbn.cell 0⟩
                          · exact ⟨_, hbn.cell 1⟩
                        have Hbl := Lib.hid hbl
                        clear hbl hbn
                        go_wp2_with fail
                        go_meet
                        exact ⟨val, rfl, Hbl.out⟩
                      case rest =>
                      as_aux_lemma =>
                      obtain ⟨val, rfl, hbI⟩ := hcut
                      obtain ⟨wI, rfl⟩ : ∃ x, x = wc := ⟨wc, rfl⟩
                      have HbI := Lib.hid hbI
                      have HbW := Lib.hid (fun W (hW : Below wI.heap.size wI W) => HbU.out.trans ((HbI.out.trans (hW.mono HbI.out.size)).mono HbU.out.size))
                      have HbJ := Lib.hid (fun W (hW : Below wI.heap.size wI W) => HbI.out.trans (hW.mono HbI.out.size))
                      have HSg35 := Lib.hid (fun W (hW : Below wI.heap.size wI W) => And.intro (HSg0.out W (HbW.out W hW)).1 (And.intro (HSg0.out W (HbW.out W hW)).2 (And.intro (((HbJ.out W hW).cell (World.block_lt_of_cell? _ _ HcX.out)).trans HcX.out) (((HbJ.out W hW).cell (World.block_lt_of_cell? _ _ HcY.out)).trans HcY.out))))
                      have hl6 : ∀ l ∈ ys, l.length ≤ 4611686018427387904 := fun l hl => by have := HlY.out l hl; omega
                      have HbId := Lib.hid (Below.refl wI.heap.size wI).drew
                      have HS0 := Lib.hid (HSg35.out _ HbId.out)
                      have hk0 : xl.length ≤ 4611686018427387904 := by omega
                      have Hck := Lib.hid (fun W (hW : Below wI.heap.size wI W) => check_any A1 B1 A3 X Y c1 d1 c3 cx cy ws ns ls val xl ys W (Hs1.out.below (HbW.out W hW)) (Hs2.out.below (HbW.out W hW)) (Hls.out.below (HbW.out W hW)) (HsX.out.below (HbJ.out W hW)) (HsY.out.below (HbJ.out W hW)) (by omega) (by omega) (by omega) hk0 hl6)
                      have Hrk := Lib.hid (fun W (hW : Below wI.heap.size wI W) => refCheck_any A1 B1 A3 X Y c1 d1 c3 cx cy ws ns ls val xl ys W (Hs1.out.below (HbW.out W hW)) (Hs2.out.below (HbW.out W hW)) (Hls.out.below (HbW.out W hW)) (HsX.out.below (HbJ.out W hW)) (HsY.out.below (HbJ.out W hW)) (by omega) (by omega) (by omega) hl6)
                      have hbe := bne_self_eq_false (checkE ws ns ls val xl ys)
                      generalize checkE ws ns ls val xl ys = ce at *
                      clear hl6
                      go_upto_region 35 with fail
                      go_cut [241] (fun v wx => v = .bool false ∧ Below wI.heap.size wI wx)
                      case first =>
                        as_aux_lemma =>
                        refine wp_region_noPanic ?_
                        refine region_H (S := fun W => W.cell? ⟨g, j * 2, none⟩ = some (.slice A1 ws.length c1) ∧ W.cell? ⟨g, j * 2 + 1, none⟩ = some (.slice B1 ns.length d1) ∧ W.cell? ⟨lb, x, none⟩ = some (.slice X xl.length cx) ∧ W.cell? ⟨cbk, y, none⟩ = some (.slice Y ys.length cy)) (by kernel_rfl) ?_
                        change wpH _ _ _ _ 33 _ _ wI.drew
                        refine H_takeD (k := 0) (v := .slice (some ⟨g, 0, none⟩) 3 3) (d := some 209) rfl rfl (by decide +kernel) (fun _ _ _ h => h) (Or.inl ⟨by rfl, fun W hW => by obtain ⟨s0, s1, s2, s3⟩ := hW; go_simp⟩) HS0.out ?_
                        try simp only [Act.put, List.setIfInBounds_toArray, List.set_cons_zero, List.set_cons_succ]
                        refine H_takeD (k := 1) (v := .int .i64 j) (d := some 210) rfl rfl (by decide +kernel) (fun _ _ _ h => h) (Or.inl ⟨by rfl, fun W hW => by obtain ⟨s0, s1, s2, s3⟩ := hW; go_simp⟩) HS0.out ?_
                        try simp only [Act.put, List.setIfInBounds_toArray, List.set_cons_zero, List.set_cons_succ]
                        refine H_takeD (k := 2) (v := .pointer (some ⟨g, j * 2, none⟩)) (d := some 211) rfl rfl (by decide +kernel) (fun _ _ _ h => h) (Or.inl ⟨by rfl, fun W hW => by obtain ⟨s0, s1, s2, s3⟩ := hW; go_simp⟩) HS0.out ?_
                        try simp only [Act.put, List.setIfInBounds_toArray, List.set_cons_zero, List.set_cons_succ]
                        refine H_takeD (k := 3) (v := .agg #[.slice A1 ws.length c1, .slice B1 ns.length d1]) (d := some 212) rfl rfl (by decide +kernel) (fun _ _ _ h => h) (Or.inl ⟨by rfl, fun W hW => by obtain ⟨s0, s1, s2, s3⟩ := hW; go_simp⟩) HS0.out ?_
                        try simp only [Act.put, List.setIfInBounds_toArray, List.set_cons_zero, List.set_cons_succ]
                        refine H_takeD (k := 5) (v := .slice A3 ls.length c3) (d := some 214) rfl rfl (by decide +kernel) (fun _ _ _ h => h) (Or.inl ⟨by rfl, fun W hW => by obtain ⟨s0, s1, s2, s3⟩ := hW; go_simp⟩) HS0.out ?_
                        try simp only [Act.put, List.setIfInBounds_toArray, List.set_cons_zero, List.set_cons_succ]
                        refine H_takeD (k := 6) (v := .int .i64 val) (d := some 215) rfl rfl (by decide +kernel) (fun _ _ _ h => h) (Or.inl ⟨by rfl, fun W hW => by obtain ⟨s0, s1, s2, s3⟩ := hW; go_simp⟩) HS0.out ?_
                        try simp only [Act.put, List.setIfInBounds_toArray, List.set_cons_zero, List.set_cons_succ]
                        refine H_takeD (k := 7) (v := .slice (some ⟨lb, 0, none⟩) 4 4) (d := some 216) rfl rfl (by decide +kernel) (fun _ _ _ h => h) (Or.inl ⟨by rfl, fun W hW => by obtain ⟨s0, s1, s2, s3⟩ := hW; go_simp⟩) HS0.out ?_
                        try simp only [Act.put, List.setIfInBounds_toArray, List.set_cons_zero, List.set_cons_succ]
                        refine H_takeD (k := 8) (v := .int .i64 x) (d := some 217) rfl rfl (by decide +kernel) (fun _ _ _ h => h) (Or.inl ⟨by rfl, fun W hW => by obtain ⟨s0, s1, s2, s3⟩ := hW; go_simp⟩) HS0.out ?_
                        try simp only [Act.put, List.setIfInBounds_toArray, List.set_cons_zero, List.set_cons_succ]
                        refine H_takeD (k := 9) (v := .pointer (some ⟨lb, x, none⟩)) (d := some 218) rfl rfl (by decide +kernel) (fun _ _ _ h => h) (Or.inl ⟨by rfl, fun W hW => by obtain ⟨s0, s1, s2, s3⟩ := hW; go_simp⟩) HS0.out ?_
                        try simp only [Act.put, List.setIfInBounds_toArray, List.set_cons_zero, List.set_cons_succ]
                        refine H_takeD (k := 10) (v := .slice X xl.length cx) (d := some 219) rfl rfl (by decide +kernel) (fun _ _ _ h => h) (Or.inl ⟨by rfl, fun W hW => by obtain ⟨s0, s1, s2, s3⟩ := hW; go_simp⟩) HS0.out ?_
                        try simp only [Act.put, List.setIfInBounds_toArray, List.set_cons_zero, List.set_cons_succ]
                        refine H_takeD (k := 11) (v := .slice (some ⟨cbk, 0, none⟩) 3 3) (d := some 220) rfl rfl (by decide +kernel) (fun _ _ _ h => h) (Or.inl ⟨by rfl, fun W hW => by obtain ⟨s0, s1, s2, s3⟩ := hW; go_simp⟩) HS0.out ?_
                        try simp only [Act.put, List.setIfInBounds_toArray, List.set_cons_zero, List.set_cons_succ]
                        refine H_takeD (k := 12) (v := .int .i64 y) (d := some 221) rfl rfl (by decide +kernel) (fun _ _ _ h => h) (Or.inl ⟨by rfl, fun W hW => by obtain ⟨s0, s1, s2, s3⟩ := hW; go_simp⟩) HS0.out ?_
                        try simp only [Act.put, List.setIfInBounds_toArray, List.set_cons_zero, List.set_cons_succ]
                        refine H_takeD (k := 13) (v := .pointer (some ⟨cbk, y, none⟩)) (d := some 222) rfl rfl (by decide +kernel) (fun _ _ _ h => h) (Or.inl ⟨by rfl, fun W hW => by obtain ⟨s0, s1, s2, s3⟩ := hW; go_simp⟩) HS0.out ?_
                        try simp only [Act.put, List.setIfInBounds_toArray, List.set_cons_zero, List.set_cons_succ]
                        refine H_takeD (k := 14) (v := .slice Y ys.length cy) (d := some 223) rfl rfl (by decide +kernel) (fun _ _ _ h => h) (Or.inl ⟨by rfl, fun W hW => by obtain ⟨s0, s1, s2, s3⟩ := hW; go_simp⟩) HS0.out ?_
                        try simp only [Act.put, List.setIfInBounds_toArray, List.set_cons_zero, List.set_cons_succ]
                        refine H_takeD (k := 15) (v := .agg #[.slice Y ys.length cy]) (d := some 224) rfl rfl (by decide +kernel) (fun _ _ _ h => h) (Or.inl ⟨by rfl, fun W hW => by obtain ⟨s0, s1, s2, s3⟩ := hW; go_simp⟩) HS0.out ?_
                        try simp only [Act.put, List.setIfInBounds_toArray, List.set_cons_zero, List.set_cons_succ]
                        refine H_takeD (k := 17) (v := .slice (some ⟨g, 0, none⟩) 3 3) (d := some 226) rfl rfl (by decide +kernel) (fun _ _ _ h => h) (Or.inl ⟨by rfl, fun W hW => by obtain ⟨s0, s1, s2, s3⟩ := hW; go_simp⟩) HS0.out ?_
                        try simp only [Act.put, List.setIfInBounds_toArray, List.set_cons_zero, List.set_cons_succ]
                        refine H_takeD (k := 18) (v := .int .i64 j) (d := some 227) rfl rfl (by decide +kernel) (fun _ _ _ h => h) (Or.inl ⟨by rfl, fun W hW => by obtain ⟨s0, s1, s2, s3⟩ := hW; go_simp⟩) HS0.out ?_
                        try simp only [Act.put, List.setIfInBounds_toArray, List.set_cons_zero, List.set_cons_succ]
                        refine H_takeD (k := 19) (v := .pointer (some ⟨g, j * 2, none⟩)) (d := some 228) rfl rfl (by decide +kernel) (fun _ _ _ h => h) (Or.inl ⟨by rfl, fun W hW => by obtain ⟨s0, s1, s2, s3⟩ := hW; go_simp⟩) HS0.out ?_
                        try simp only [Act.put, List.setIfInBounds_toArray, List.set_cons_zero, List.set_cons_succ]
                        refine H_takeD (k := 20) (v := .agg #[.slice A1 ws.length c1, .slice B1 ns.length d1]) (d := some 229) rfl rfl (by decide +kernel) (fun _ _ _ h => h) (Or.inl ⟨by rfl, fun W hW => by obtain ⟨s0, s1, s2, s3⟩ := hW; go_simp⟩) HS0.out ?_
                        try simp only [Act.put, List.setIfInBounds_toArray, List.set_cons_zero, List.set_cons_succ]
                        refine H_takeD (k := 21) (v := .slice A3 ls.length c3) (d := some 230) rfl rfl (by decide +kernel) (fun _ _ _ h => h) (Or.inl ⟨by rfl, fun W hW => by obtain ⟨s0, s1, s2, s3⟩ := hW; go_simp⟩) HS0.out ?_
                        try simp only [Act.put, List.setIfInBounds_toArray, List.set_cons_zero, List.set_cons_succ]
                        refine H_takeD (k := 22) (v := .int .i64 val) (d := some 231) rfl rfl (by decide +kernel) (fun _ _ _ h => h) (Or.inl ⟨by rfl, fun W hW => by obtain ⟨s0, s1, s2, s3⟩ := hW; go_simp⟩) HS0.out ?_
                        try simp only [Act.put, List.setIfInBounds_toArray, List.set_cons_zero, List.set_cons_succ]
                        refine H_takeD (k := 23) (v := .slice (some ⟨lb, 0, none⟩) 4 4) (d := some 232) rfl rfl (by decide +kernel) (fun _ _ _ h => h) (Or.inl ⟨by rfl, fun W hW => by obtain ⟨s0, s1, s2, s3⟩ := hW; go_simp⟩) HS0.out ?_
                        try simp only [Act.put, List.setIfInBounds_toArray, List.set_cons_zero, List.set_cons_succ]
                        refine H_takeD (k := 24) (v := .int .i64 x) (d := some 233) rfl rfl (by decide +kernel) (fun _ _ _ h => h) (Or.inl ⟨by rfl, fun W hW => by obtain ⟨s0, s1, s2, s3⟩ := hW; go_simp⟩) HS0.out ?_
                        try simp only [Act.put, List.setIfInBounds_toArray, List.set_cons_zero, List.set_cons_succ]
                        refine H_takeD (k := 25) (v := .pointer (some ⟨lb, x, none⟩)) (d := some 234) rfl rfl (by decide +kernel) (fun _ _ _ h => h) (Or.inl ⟨by rfl, fun W hW => by obtain ⟨s0, s1, s2, s3⟩ := hW; go_simp⟩) HS0.out ?_
                        try simp only [Act.put, List.setIfInBounds_toArray, List.set_cons_zero, List.set_cons_succ]
                        refine H_takeD (k := 26) (v := .slice X xl.length cx) (d := some 235) rfl rfl (by decide +kernel) (fun _ _ _ h => h) (Or.inl ⟨by rfl, fun W hW => by obtain ⟨s0, s1, s2, s3⟩ := hW; go_simp⟩) HS0.out ?_
                        try simp only [Act.put, List.setIfInBounds_toArray, List.set_cons_zero, List.set_cons_succ]
                        refine H_takeD (k := 27) (v := .slice (some ⟨cbk, 0, none⟩) 3 3) (d := some 236) rfl rfl (by decide +kernel) (fun _ _ _ h => h) (Or.inl ⟨by rfl, fun W hW => by obtain ⟨s0, s1, s2, s3⟩ := hW; go_simp⟩) HS0.out ?_
                        try simp only [Act.put, List.setIfInBounds_toArray, List.set_cons_zero, List.set_cons_succ]
                        refine H_takeD (k := 28) (v := .int .i64 y) (d := some 237) rfl rfl (by decide +kernel) (fun _ _ _ h => h) (Or.inl ⟨by rfl, fun W hW => by obtain ⟨s0, s1, s2, s3⟩ := hW; go_simp⟩) HS0.out ?_
                        try simp only [Act.put, List.setIfInBounds_toArray, List.set_cons_zero, List.set_cons_succ]
                        refine H_takeD (k := 29) (v := .pointer (some ⟨cbk, y, none⟩)) (d := some 238) rfl rfl (by decide +kernel) (fun _ _ _ h => h) (Or.inl ⟨by rfl, fun W hW => by obtain ⟨s0, s1, s2, s3⟩ := hW; go_simp⟩) HS0.out ?_
                        try simp only [Act.put, List.setIfInBounds_toArray, List.set_cons_zero, List.set_cons_succ]
                        refine H_takeD (k := 30) (v := .slice Y ys.length cy) (d := some 239) rfl rfl (by decide +kernel) (fun _ _ _ h => h) (Or.inl ⟨by rfl, fun W hW => by obtain ⟨s0, s1, s2, s3⟩ := hW; go_simp⟩) HS0.out ?_
                        try simp only [Act.put, List.setIfInBounds_toArray, List.set_cons_zero, List.set_cons_succ]
                        refine H_one (i := 4) (by decide +kernel) (H_step rfl rfl (fun K hK29 => ?_))
                        have hK29 := Lib.hid hK29
                        go_simp
                        go_at_call 13
                        refine (own_any A1 B1 c1 d1 ws.length ns.length _).mono ?_
                        rintro e w35 ⟨rfl, hb35⟩
                        have Hb35 := Lib.hid (HbId.out.trans (hb35.mono HbId.out.size))
                        have HS35 := Lib.hid (HSg35.out _ Hb35.out)
                        clear hb35
                        refine hK29.out _ _ HS35.out ?_
                        try simp only [Act.put, List.setIfInBounds_toArray, List.set_cons_zero, List.set_cons_succ]
                        refine H_one (i := 16) (by decide +kernel) (H_step rfl rfl (fun K hK30 => ?_))
                        have hK30 := Lib.hid hK30
                        go_simp
                        go_at_call 24
                        refine (Hck.out _ Hb35.out).mono ?_
                        rintro e w36 ⟨rfl, hb36⟩
                        have Hb36 := Lib.hid (Hb35.out.trans (hb36.mono Hb35.out.size))
                        have HS36 := Lib.hid (HSg35.out _ Hb36.out)
                        clear hb36
                        refine hK30.out _ _ HS36.out ?_
                        try simp only [Act.put, List.setIfInBounds_toArray, List.set_cons_zero, List.set_cons_succ]
                        refine H_one (i := 31) (by decide +kernel) (H_step rfl rfl (fun K hK31 => ?_))
                        have hK31 := Lib.hid hK31
                        go_simp
                        go_at_call 25
                        refine (Hrk.out _ Hb36.out).mono ?_
                        rintro e w37 ⟨rfl, hb37⟩
                        have Hb37 := Lib.hid (Hb36.out.trans (hb37.mono Hb36.out.size))
                        have HS37 := Lib.hid (HSg35.out _ Hb37.out)
                        clear hb37
                        refine hK31.out _ _ HS37.out ?_
                        try simp only [Act.put, List.setIfInBounds_toArray, List.set_cons_zero, List.set_cons_succ]
                        refine H_one (i := 32) (by decide +kernel) (H_step rfl rfl (fun K hK32 => ?_))
                        have hK32 := Lib.hid hK32
                        go_simp
                        refine hK32.out _ _ HS37.out ?_
                        try simp only [Act.put, List.setIfInBounds_toArray, List.set_cons_zero, List.set_cons_succ]
                        refine H_end (by decide +kernel) (NoPanic.normal ?_)
                        try simp only [Act.put, List.setIfInBounds_toArray, List.set_cons_zero, List.set_cons_succ]
                        go_wp2_with fail
                        go_meet
                        exact ⟨rfl, Hb37.out⟩
                      case rest =>
                      as_aux_lemma =>
                      obtain ⟨rfl, hb37⟩ := hcut
                      obtain ⟨wJ, rfl⟩ : ∃ x, x = wc := ⟨wc, rfl⟩
                      have HbE := Lib.hid (HbI.out.trans (hb37.mono HbI.out.size))
                      clear hb37
                      go_wp2_with fail
                      go_roundw
                      case rel => exact ⟨z + 1, by omega, by go_num, HbE.out⟩
                      case measure => simp [intOf]; omega
                    · obtain rfl : z = 2 := by omega
                      have HbE := Lib.hid hb
                      go_wp2_with fail
                      go_roundw
                      case rel => exact ⟨y + 1, by omega, by go_num, HbE.out⟩
                      case measure => simp [intOf]; omega
                · obtain rfl : y = 3 := by omega
                  have HbE := Lib.hid hb
                  go_wp2_with fail
                  go_roundw
                  case rel => exact ⟨x + 1, by omega, by go_num, HbE.out⟩
                  case measure => simp [intOf]; omega
            · obtain rfl : x = 4 := by omega
              have HbE := Lib.hid (HbU.out.trans (hb.mono HbU.out.size))
              go_wp2_with fail
              go_roundw
              case rel => exact ⟨j + 1, by omega, by go_num, HbE.out⟩
              case measure => simp [intOf]; omega
    · obtain rfl : j = 3 := by omega
      have HbE := Lib.hid (HB2.out.trans (hb.mono HB2.out.size))
      clear hb
      go_wp2_with fail
      refine (lives_any wr).mono ?_
      rintro e wd ⟨rfl, hbd⟩
      go_wp2_with fail
      go_ret
      exact ⟨rfl, HbE.out.trans (hbd.mono HbE.out.size)⟩
end Go.Proofs.Ytaegfljpodhnhaa
