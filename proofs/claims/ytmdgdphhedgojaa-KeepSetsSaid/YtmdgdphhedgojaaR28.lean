import Derived.Test.YtmdgdphhedgojaaR27
namespace Go.Proofs.Ytmdgdphhedgojaa
open Go.RowKit Go.Maps

theorem any_bad {ws : List Int} {k : Nat} {x : Int} (h : ws[k]? = some x) (hb : badW x = true) : ws.any badW = true := List.any_eq_true.2 ⟨x, List.mem_of_getElem? h, hb⟩

set_option maxHeartbeats 4000000 in
set_option maxRecDepth 100000 in
theorem refValid_any (A B : Option Addr) (c d : Nat) (ws : List Int) (ns : List (Int × Int × Int)) (w : World) (hA : SI w A ws) (hB : ST w B ns) (hl1 : ws.length ≤ 4611686018427387904) (hl2 : ns.length ≤ 4611686018427387904) :
    Calls Try.prog 42 #[.agg #[.slice A ws.length c, .slice B ns.length d]] w fun e w' => e = .returned (.int .i64 (validE ws ns)) ∧ Below w.heap.size w w' := by
  have hb0 := (Below.refl w.heap.size w).alloc (Nat.le_refl _) (.cells #[.slice A ws.length c, .slice B ns.length d] 30)
  have hbk0 := Bk.new w 30 #[.slice A ws.length c, .slice B ns.length d]
  have Hb0 := Lib.hid hb0
  have Hbk0 := Lib.hid hbk0
  clear hb0 hbk0
  by_cases h1 : 4096 < ws.length
  · have hs : Hid (validE ws ns = 4) := by show _ = _; rw [validE, if_pos (.inl h1)]
    go_enter Try.func42, Try.ntmps42
    go_wp2_with fail
    go_ret
    exact ⟨ret_int hs.out.symm, Hb0.out⟩
  by_cases h2 : 16384 < ns.length
  · have hs : Hid (validE ws ns = 4) := by show _ = _; rw [validE, if_pos (.inr h2)]
    go_enter Try.func42, Try.ntmps42
    go_wp2_with fail
    go_ret
    exact ⟨ret_int hs.out.symm, Hb0.out⟩
  have hw1 : Hid (ws.any badW = true → validE ws ns = 1) := fun h => by rw [validE, if_neg (by omega), if_pos h]
  go_enter Try.func42, Try.ntmps42
  go_wp2_with fail
  go_loopw [3] (fun i wr => ∃ k : Nat, k ≤ ws.length ∧ i = .int .i64 k ∧ Hid (∀ j x, j < k → ws[j]? = some x → badW x = false) ∧ Below w.heap.size w wr ∧ Bk wr w.heap.size 30 #[.slice A ws.length c, .slice B ns.length d]) (fun i _ => ws.length - (intOf i).toNat)
  case atStart => exact ⟨0, by omega, rfl, (fun j x hj => by omega), Hb0.out, Hbk0.out⟩
  case round =>
    clear Hb0 Hbk0
    obtain ⟨k, hk, rfl, hall, hb, hbk⟩ := hrel
    have hg0 : wr.cell? ⟨w.heap.size, 0, none⟩ = some (.slice A ws.length c) := hbk.cell 0
    by_cases hlt : k < ws.length
    · obtain ⟨b1, o1, x, rfl, hc0, hx⟩ := (hA.below hb).get hlt
      have Hbk := Lib.hid hbk
      have Hb := Lib.hid hb
      clear hbk hb
      by_cases q1 : x < 0
      · have hs := Lib.hid (hw1.out (any_bad hx.out (by simp [badW, q1])))
        go_wp2_with fail
        go_ret
        exact ⟨ret_int hs.out.symm, Hb.out⟩
      by_cases q2 : 1099511627776 < x
      · have hs := Lib.hid (hw1.out (any_bad hx.out (by simp [badW, q2])))
        go_wp2_with fail
        go_ret
        exact ⟨ret_int hs.out.symm, Hb.out⟩
      have hn : Hid (∀ j x, j < k + 1 → ws[j]? = some x → badW x = false) := fun j z hj hz => by
        rcases Nat.lt_or_ge j k with h | h
        · exact hall.out j z h hz
        · obtain rfl : j = k := by omega
          rw [hx.out] at hz
          injection hz with hz
          subst hz
          simp [badW]
          omega
      go_wp2_with fail
      go_roundw
      case rel => exact ⟨k + 1, by omega, by go_num, hn, Hb.out, Hbk.out⟩
      case measure => simp [intOf]; omega
    · obtain rfl : k = ws.length := by omega
      have h3 : ws.any badW = false := by
        rw [List.any_eq_false]
        intro z hz
        obtain ⟨j, hj, rfl⟩ := List.getElem_of_mem hz
        rw [hall.out j _ hj (List.getElem?_eq_getElem hj)]
        simp
      have hbad : Hid (∀ k, k < ns.length → badAt ws.length ns k = true → validE ws ns = 1) := fun k hk h => validE_bad (by omega) h3 hk h
      have hok : Hid ((∀ k, k < ns.length → badAt ws.length ns k = false) → validE ws ns = 0) := fun h => validE_ok (by omega) h3 h
      clear h3 hall hw1
      have Hb0 := Lib.hid hb
      have Hbk0 := Lib.hid hbk
      clear hb hbk
      go_wp2_with fail
      clear hg0
      go_loopw [4] (fun i wr => ∃ k : Nat, k ≤ ns.length ∧ i = .int .i64 k ∧ Hid (∀ j, j < k → badAt ws.length ns j = false) ∧ Below w.heap.size w wr ∧ Bk wr w.heap.size 30 #[.slice A ws.length c, .slice B ns.length d]) (fun i _ => ns.length - (intOf i).toNat)
      case atStart => exact ⟨0, by omega, rfl, (fun j hj => by omega), Hb0.out, Hbk0.out⟩
      case round =>
        clear Hb0 Hbk0
        obtain ⟨k, hk, rfl, hall, hb, hbk⟩ := hrel
        have hg0 : wr.cell? ⟨w.heap.size, 0, none⟩ = some (.slice A ws.length c) := hbk.cell 0
        have hg1 : wr.cell? ⟨w.heap.size, 1, none⟩ = some (.slice B ns.length d) := hbk.cell 1
        by_cases hlt : k < ns.length
        · obtain ⟨b1, o1, x, y, z, rfl, hc0, hc1, hc2, ht⟩ := (hB.below hb).get hlt
          have hbe : Hid (badAt ws.length ns k = decide (x < 0 ∨ y ≤ x ∨ (ws.length : Int) ≤ y ∨ z < 1 ∨ 1099511627776 < z ∨ 0 < k ∧ (x < (ns.getD (k - 1) (0, 0, 0)).1 ∨ (ns.getD (k - 1) (0, 0, 0)).1 = x ∧ y ≤ (ns.getD (k - 1) (0, 0, 0)).2.1))) := by
            show _ = _
            rw [badAt, tri_getD ht.out]
          have Hb1 := Lib.hid (hb.alloc hb.size (.cells #[.int .i64 x, .int .i64 y, .int .i64 z] 52))
          have hE : Hid (badAt ws.length ns k = true → validE ws ns = 1) := fun h => hbad.out k hlt h
          have hone : Hid (∀ p : Prop, [Decidable p] → badAt ws.length ns k = decide p → p → validE ws ns = 1) := fun p _ e hp => hE.out (by rw [e]; simpa using hp)
          have Hbk := Lib.hid hbk
          have hblt := hbk.lt
          have Hb := Lib.hid hb
          have hat := Bk.new wr 52 #[.int .i64 x, .int .i64 y, .int .i64 z]
          have hbka := hbk.alloc (.cells #[.int .i64 x, .int .i64 y, .int .i64 z] 52)
          have Hbka := Lib.hid hbka
          have hqn : ∀ nq, Qt (wr.alloc (.cells #[.int .i64 x, .int .i64 y, .int .i64 z] 52)) ((wr.alloc (.cells #[.int .i64 x, .int .i64 y, .int .i64 z] 52)).drewN nq) := fun nq => ⟨nq, rfl⟩
          have hga1 : (wr.alloc (.cells #[.int .i64 x, .int .i64 y, .int .i64 z] 52)).cell? ⟨w.heap.size, 1, none⟩ = some (.slice (some ⟨b1, o1, none⟩) ns.length d) := hbka.cell 1
          clear hbk hb hbka hat
          by_cases q1 : x < 0
          · go_wp2_with fail
            go_ret
            exact ⟨ret_int (hone.out _ hbe.out (.inl q1)).symm, Hb1.out⟩
          by_cases q2 : y ≤ x
          · go_wp2_with fail
            go_ret
            exact ⟨ret_int (hone.out _ hbe.out (.inr (.inl q2))).symm, Hb1.out⟩
          by_cases q3 : (ws.length : Int) ≤ y
          · go_wp2_with fail
            go_ret
            exact ⟨ret_int (hone.out _ hbe.out (.inr (.inr (.inl q3)))).symm, Hb1.out⟩
          by_cases q4 : z < 1
          · go_wp2_with fail
            go_ret
            exact ⟨ret_int (hone.out _ hbe.out (.inr (.inr (.inr (.inl q4))))).symm, Hb1.out⟩
          by_cases q5 : 1099511627776 < z
          · go_wp2_with fail
            go_ret
            exact ⟨ret_int (hone.out _ hbe.out (.inr (.inr (.inr (.inr (.inl q5)))))).symm, Hb1.out⟩
          by_cases q6 : 0 < k
          · obtain ⟨b2, o2, x', y', z', he, hd0, hd1, hd2, ht2⟩ := (hB.below Hb.out).get (k := k - 1) (by omega)
            injection he with he
            injection he with he1 he2
            subst he1 he2
            have hbe' : Hid (badAt ws.length ns k = decide (x < 0 ∨ y ≤ x ∨ (ws.length : Int) ≤ y ∨ z < 1 ∨ 1099511627776 < z ∨ 0 < k ∧ (x < x' ∨ x' = x ∧ y ≤ y'))) := by
              have := hbe.out
              rw [tri_getD ht2.out] at this
              exact this
            have hS1 := (si_pair hd0 hd1).alloc (.cells #[.int .i64 x, .int .i64 y, .int .i64 z] 52)
            have he0 : (wr.alloc (.cells #[.int .i64 x, .int .i64 y, .int .i64 z] 52)).cell? ⟨b1, o1 + (k - 1) * 3, none⟩ = some (.int .i64 x') := by
              rw [World.cell?_alloc_lt _ _ _ (World.block_lt_of_cell? _ _ hd0)]; exact hd0
            have he1 : (wr.alloc (.cells #[.int .i64 x, .int .i64 y, .int .i64 z] 52)).cell? ⟨b1, o1 + (k - 1) * 3 + 1, none⟩ = some (.int .i64 y') := by
              rw [World.cell?_alloc_lt _ _ _ (World.block_lt_of_cell? _ _ hd1)]; exact hd1
            clear hd0 hd1 hd2 hS1 hbe
            have i1 : (0 : Int) ≤ (k : Int) - 1 := by omega
            have i2 : (k : Int) - 1 < ns.length := by omega
            have e1 : IntKind.i64.wrap ((k : Int) - 1) = (k : Int) - 1 := IntWalk.i64_in _ (by omega)
            have e2 : ((k : Int) - 1).toNat = k - 1 := by omega
            have hk0 : decide ((0 : Int) < (k : Int)) = true := by simp; omega
            have hk00 : (0 : Int) < (k : Int) := by omega
            have hgood : Hid (¬ (x < x' ∨ x' = x ∧ y ≤ y') → ∀ j, j < k + 1 → badAt ws.length ns j = false) := fun hh j hj => by
              rcases Nat.lt_or_ge j k with h | h
              · exact hall.out j h
              · obtain rfl : j = k := by omega
                rw [hbe'.out]
                simp only [decide_eq_false_iff_not]
                omega
            have hbad2 : Hid ((x < x' ∨ x' = x ∧ y ≤ y') → validE ws ns = 1) := fun h => hone.out _ hbe'.out (.inr (.inr (.inr (.inr (.inr ⟨q6, h⟩)))))
            clear hone hE hbe'
            by_cases q7 : x < x'
            · have hv := Lib.hid (hbad2.out (.inl q7))
              have t1 : decide (x < x') = true := by simpa using q7
              go_wp2_with fail
              go_quiet (fail)
              go_wp2_with fail
              go_ret
              exact ⟨ret_int hv.out.symm, (hqn _).bl Hb1.out⟩
            · have t1 : decide (x < x') = false := by simpa using q7
              by_cases q8 : x' = x
              · have t2 : (x' == x) = true := by simpa using q8
                by_cases q9 : y ≤ y'
                · have hv := Lib.hid (hbad2.out (.inr ⟨q8, q9⟩))
                  have t3 : decide (y ≤ y') = true := by simpa using q9
                  clear hgood hbad2 q8
                  go_wp2_with fail
                  go_quiet (fail)
                  go_wp2_with fail
                  go_ret
                  exact ⟨ret_int hv.out.symm, (hqn _).bl Hb1.out⟩
                · have hv := Lib.hid (hgood.out (by omega))
                  have t3 : decide (y ≤ y') = false := by simpa using q9
                  clear hgood hbad2 q8
                  go_wp2_with fail
                  go_quiet (fail)
                  go_wp2_with fail
                  go_roundw
                  case rel => exact ⟨k + 1, by omega, by go_num, hv, (hqn _).bl Hb1.out, Hbka.out.qt (hqn _)⟩
                  case measure => simp [intOf]; omega
              · have t2 : (x' == x) = false := by simpa using q8
                have hv := Lib.hid (hgood.out (by omega))
                clear hgood hbad2 q8
                go_wp2_with fail
                go_quiet (fail)
                go_wp2_with fail
                go_roundw
                case rel => exact ⟨k + 1, by omega, by go_num, hv, (hqn _).bl Hb1.out, Hbka.out.qt (hqn _)⟩
                case measure => simp [intOf]; omega
          · have hnb : Hid (∀ j, j < k + 1 → badAt ws.length ns j = false) := fun j hj => by
              rcases Nat.lt_or_ge j k with h | h
              · exact hall.out j h
              · obtain rfl : j = k := by omega
                rw [hbe.out]
                simp; omega
            have hk0 : decide ((0 : Int) < (k : Int)) = false := by simp; omega
            have hk00 : k ≤ 0 := by omega
            clear hbe hE hone
            go_wp2_with fail
            go_quiet (fail)
            go_wp2_with fail
            go_roundw
            case rel => exact ⟨k + 1, by omega, by go_num, hnb, (hqn _).bl Hb1.out, Hbka.out.qt (hqn _)⟩
            case measure => simp [intOf]; omega
        · obtain rfl : k = ns.length := by omega
          have hs := Lib.hid (hok.out hall.out)
          go_wp2_with fail
          go_ret
          exact ⟨ret_int hs.out.symm, hb⟩
end Go.Proofs.Ytmdgdphhedgojaa
