import Derived.Test.YtmdgdphhedgojaaR19
namespace Go.Proofs.Ytmdgdphhedgojaa
open Go.RowKit Go.Maps

theorem si_pair {w : World} {b o : Nat} {x y : Int} (h0 : w.cell? ⟨b, o, none⟩ = some (.int .i64 x)) (h1 : w.cell? ⟨b, o + 1, none⟩ = some (.int .i64 y)) : SI w (some ⟨b, o, none⟩) [x, y] := fun j u hu => by
  have hb := World.block_lt_of_cell? w _ h0
  rcases (by
    have := (List.getElem?_eq_some_iff.1 hu).1
    simp at this
    omega : j = 0 ∨ j = 1) with rfl | rfl
  · simp at hu; subst hu; exact ⟨b, o, rfl, hb, h0⟩
  · simp at hu; subst hu; exact ⟨b, o, rfl, hb, h1⟩

/-- A border that is not one, or that comes too late. -/
def badAt (m : Nat) (ns : List (Int × Int × Int)) (i : Nat) : Bool :=
  decide ((ns.getD i (0, 0, 0)).1 < 0 ∨ (ns.getD i (0, 0, 0)).2.1 ≤ (ns.getD i (0, 0, 0)).1 ∨ (m : Int) ≤ (ns.getD i (0, 0, 0)).2.1 ∨ (ns.getD i (0, 0, 0)).2.2 < 1 ∨ 1099511627776 < (ns.getD i (0, 0, 0)).2.2 ∨
    0 < i ∧ ((ns.getD i (0, 0, 0)).1 < (ns.getD (i - 1) (0, 0, 0)).1 ∨ (ns.getD (i - 1) (0, 0, 0)).1 = (ns.getD i (0, 0, 0)).1 ∧ (ns.getD i (0, 0, 0)).2.1 ≤ (ns.getD (i - 1) (0, 0, 0)).2.1))

/-- The error of a graph. -/
def validE (ws : List Int) (ns : List (Int × Int × Int)) : Int :=
  if 4096 < ws.length ∨ 16384 < ns.length then 4 else if ws.any badW then 1 else if (List.range ns.length).any (badAt ws.length ns) then 1 else 0

theorem validE_bad {ws : List Int} {ns : List (Int × Int × Int)} {k : Nat} (h1 : ¬ (4096 < ws.length ∨ 16384 < ns.length)) (h2 : ws.any badW = false) (hk : k < ns.length) (h : badAt ws.length ns k = true) : validE ws ns = 1 := by
  have : (List.range ns.length).any (badAt ws.length ns) = true := List.any_eq_true.2 ⟨k, by simpa using hk, h⟩
  rw [validE, if_neg h1, h2, this]
  rfl
theorem validE_ok {ws : List Int} {ns : List (Int × Int × Int)} (h1 : ¬ (4096 < ws.length ∨ 16384 < ns.length)) (h2 : ws.any badW = false) (h : ∀ k, k < ns.length → badAt ws.length ns k = false) : validE ws ns = 0 := by
  have : (List.range ns.length).any (badAt ws.length ns) = false := by
    rw [List.any_eq_false]
    intro k hk
    rw [h k (by simpa using hk)]
    simp
  rw [validE, if_neg h1, h2, this]
  rfl

theorem validE_good {ws : List Int} {ns : List (Int × Int × Int)} (h : validE ws ns = 0) : ws.length ≤ 4096 ∧ ns.length ≤ 16384 ∧ W40 ws ∧ NOK ws.length ns := by
  unfold validE at h
  split at h
  · cases h
  · rename_i h1
    split at h
    · cases h
    · rename_i h2
      split at h
      · cases h
      · rename_i h3
        refine ⟨by omega, by omega, fun z hz => ?_, fun t ht => ?_⟩
        · have : badW z = false := by
            cases hb : badW z
            · rfl
            · exact (h2 (List.any_eq_true.2 ⟨z, hz, hb⟩)).elim
          simp only [badW, Bool.or_eq_false_iff, decide_eq_false_iff_not] at this
          omega
        · obtain ⟨i, hi, rfl⟩ := List.getElem_of_mem ht
          have : badAt ws.length ns i = false := by
            cases hb : badAt ws.length ns i
            · rfl
            · exact (h3 (List.any_eq_true.2 ⟨i, by simpa using hi, hb⟩)).elim
          simp only [badAt, decide_eq_false_iff_not, List.getD, List.getElem?_eq_getElem hi, Option.getD_some] at this
          omega

theorem cmp_two (a b c d : Int) : decide (0 ≤ cmpL [a, b] [c, d]) = decide (c < a ∨ a = c ∧ d ≤ b) := by
  have e1 : cmpI a c = -1 ∧ a < c ∨ cmpI a c = 1 ∧ c < a ∨ cmpI a c = 0 ∧ a = c := by unfold cmpI; repeat' split <;> omega
  have e2 : cmpI b d = -1 ∧ b < d ∨ cmpI b d = 1 ∧ d < b ∨ cmpI b d = 0 ∧ b = d := by unfold cmpI; repeat' split <;> omega
  rcases e1 with ⟨e, h⟩ | ⟨e, h⟩ | ⟨e, h⟩ <;> rcases e2 with ⟨e', h'⟩ | ⟨e', h'⟩ | ⟨e', h'⟩ <;> simp [cmpL, e, e'] <;> omega

set_option maxHeartbeats 4000000 in
set_option maxRecDepth 100000 in
theorem valid_any (A B : Option Addr) (c d : Nat) (ws : List Int) (ns : List (Int × Int × Int)) (w : World) (hA : SI w A ws) (hB : ST w B ns) (hl1 : ws.length ≤ 4611686018427387904) (hl2 : ns.length ≤ 4611686018427387904) :
    Calls Try.prog 33 #[.agg #[.slice A ws.length c, .slice B ns.length d]] w fun e w' => e = .returned (.int .i64 (validE ws ns)) ∧ Below w.heap.size w w' := by
  have hb0 := (Below.refl w.heap.size w).alloc (Nat.le_refl _) (.cells #[.slice A ws.length c, .slice B ns.length d] 36)
  have hbk0 := Bk.new w 36 #[.slice A ws.length c, .slice B ns.length d]
  have Hb0 := Lib.hid hb0
  have Hbk0 := Lib.hid hbk0
  clear hb0 hbk0
  by_cases h1 : 4096 < ws.length
  · have hs : Hid (validE ws ns = 4) := by show _ = _; rw [validE, if_pos (.inl h1)]
    go_enter Try.func33, Try.ntmps33
    go_wp2_with fail
    go_ret
    exact ⟨ret_int hs.out.symm, Hb0.out⟩
  by_cases h2 : 16384 < ns.length
  · have hs : Hid (validE ws ns = 4) := by show _ = _; rw [validE, if_pos (.inr h2)]
    go_enter Try.func33, Try.ntmps33
    go_wp2_with fail
    go_ret
    exact ⟨ret_int hs.out.symm, Hb0.out⟩
  have hcf := containsFunc_any A c ws _ (hA.below Hb0.out) hl1
  have Hcf := Lib.hid hcf
  clear hcf
  cases h3 : ws.any badW
  · rw [h3] at Hcf
    have hbad : Hid (∀ k, k < ns.length → badAt ws.length ns k = true → validE ws ns = 1) := fun k hk h => validE_bad (by omega) h3 hk h
    have hok : Hid ((∀ k, k < ns.length → badAt ws.length ns k = false) → validE ws ns = 0) := fun h => validE_ok (by omega) h3 h
    clear h3
    go_enter Try.func33, Try.ntmps33
    go_wp2_with fail
    refine Hcf.out.mono ?_
    rintro e w' ⟨rfl, rfl⟩
    go_wp2_with fail
    go_loopw [21] (fun i wr => ∃ k : Nat, k ≤ ns.length ∧ i = .int .i64 k ∧ Hid (∀ j, j < k → badAt ws.length ns j = false) ∧ Below w.heap.size w wr ∧ Bk wr w.heap.size 36 #[.slice A ws.length c, .slice B ns.length d]) (fun i _ => ns.length - (intOf i).toNat)
    case atStart => exact ⟨0, by omega, rfl, (fun j hj => by omega), Hb0.out, Hbk0.out⟩
    case round =>
      clear Hcf Hb0 Hbk0
      obtain ⟨k, hk, rfl, hall, hb, hbk⟩ := hrel
      by_cases hlt : k < ns.length
      · obtain ⟨b1, o1, x, y, z, rfl, hc0, hc1, hc2, ht⟩ := (hB.below hb).get hlt
        have hg0 : wr.cell? ⟨w.heap.size, 0, none⟩ = some (.slice A ws.length c) := hbk.cell 0
        have hg1 : wr.cell? ⟨w.heap.size, 1, none⟩ = some (.slice (some ⟨b1, o1, none⟩) ns.length d) := hbk.cell 1
        have hbe : Hid (badAt ws.length ns k = decide (x < 0 ∨ y ≤ x ∨ (ws.length : Int) ≤ y ∨ z < 1 ∨ 1099511627776 < z ∨ 0 < k ∧ (x < (ns.getD (k - 1) (0, 0, 0)).1 ∨ (ns.getD (k - 1) (0, 0, 0)).1 = x ∧ y ≤ (ns.getD (k - 1) (0, 0, 0)).2.1))) := by
          show _ = _
          rw [badAt, tri_getD ht.out]
        have Hb1 := Lib.hid (hb.alloc hb.size (.cells #[.int .i64 x, .int .i64 y, .int .i64 z] 52))
        have hE : Hid (badAt ws.length ns k = true → validE ws ns = 1) := fun h => hbad.out k hlt h
        have hone : Hid (∀ p : Prop, [Decidable p] → badAt ws.length ns k = decide p → p → validE ws ns = 1) := fun p _ e hp => hE.out (by rw [e]; simpa using hp)
        have Hbk := Lib.hid hbk
        have hblt := hbk.lt
        have Hb := Lib.hid hb
        clear hbk hb
        by_cases q1 : x < 0
        · go_wp2_with fail
          go_ret
          exact ⟨ret_int (hone.out _ hbe.out (.inl q1)).symm, Hb1.out⟩
        by_cases q2 : y ≤ x
        · go_wp2_with fail
          go_ret
          exact ⟨ret_int (hone.out _ hbe.out (.inr (.inl q2))).symm, Hb1.out⟩
        by_cases q3 : (ws.length : Int) ≤ y
        · go_wp2_with fail
          go_ret
          exact ⟨ret_int (hone.out _ hbe.out (.inr (.inr (.inl q3)))).symm, Hb1.out⟩
        by_cases q4 : z < 1
        · go_wp2_with fail
          go_ret
          exact ⟨ret_int (hone.out _ hbe.out (.inr (.inr (.inr (.inl q4))))).symm, Hb1.out⟩
        by_cases q5 : 1099511627776 < z
        · go_wp2_with fail
          go_ret
          exact ⟨ret_int (hone.out _ hbe.out (.inr (.inr (.inr (.inr (.inl q5)))))).symm, Hb1.out⟩
        by_cases q6 : 0 < k
        · obtain ⟨b2, o2, x', y', z', he, hd0, hd1, hd2, ht2⟩ := (hB.below Hb.out).get (k := k - 1) (by omega)
          injection he with he
          injection he with he1 he2
          subst he1 he2
          have hbe' : Hid (badAt ws.length ns k = decide (x < 0 ∨ y ≤ x ∨ (ws.length : Int) ≤ y ∨ z < 1 ∨ 1099511627776 < z ∨ 0 < k ∧ (x < x' ∨ x' = x ∧ y ≤ y'))) := by
            have := hbe.out
            rw [tri_getD ht2.out] at this
            exact this
          have hat := Bk.new wr 52 #[.int .i64 x, .int .i64 y, .int .i64 z]
          have hS1 : ∀ m, SI ((wr.alloc (.cells #[.int .i64 x, .int .i64 y, .int .i64 z] 52)).drewN m) (some ⟨b1, o1 + (k - 1) * 3, none⟩) [x', y'] := fun m =>
            ((si_pair hd0 hd1).alloc (.cells #[.int .i64 x, .int .i64 y, .int .i64 z] 52)).drewN m
          have hS2 : ∀ m, SI ((wr.alloc (.cells #[.int .i64 x, .int .i64 y, .int .i64 z] 52)).drewN m) (some ⟨wr.heap.size, 0, none⟩) [x, y] := fun m =>
            (si_pair (o := 0) (hat.cell 0) (hat.cell 1) : SI _ _ _).drewN m
          have HS1 := Lib.hid hS1
          have HS2 := Lib.hid hS2
          have hcmp := cmp_two x' y' x y
          have hg2 : (wr.alloc (.cells #[.int .i64 x, .int .i64 y, .int .i64 z] 52)).cell? ⟨w.heap.size, 1, none⟩ = some (.slice (some ⟨b1, o1, none⟩) ns.length d) := (Hbk.out.alloc _).cell 1
          clear hd0 hd1 hd2 hat hS1 hS2 hbe
          have i1 : (0 : Int) ≤ (k : Int) - 1 := by omega
          have i2 : (k : Int) - 1 < ns.length := by omega
          have e1 : IntKind.i64.wrap ((k : Int) - 1) = (k : Int) - 1 := IntWalk.i64_in _ (by omega)
          have e2 : ((k : Int) - 1).toNat = k - 1 := by omega
          have hk0 : decide ((0 : Int) < (k : Int)) = true := by simp; omega
          have hk00 : (0 : Int) < (k : Int) := by omega
          have hcmp2 : Hid ((0 ≤ cmpL [x', y'] [x, y]) ↔ (x < x' ∨ x' = x ∧ y ≤ y')) := decide_eq_decide.1 hcmp
          clear hcmp
          have hcall : ∀ m, Calls Try.prog 51 #[.slice (some ⟨b1, o1 + (k - 1) * 3, none⟩) 2 3, .slice (some ⟨wr.heap.size, 0, none⟩) 2 3] ((wr.alloc (.cells #[.int .i64 x, .int .i64 y, .int .i64 z] 52)).drewN m) fun e w' => e = .returned (.int .i64 (cmpL [x', y'] [x, y])) ∧ (wr.alloc (.cells #[.int .i64 x, .int .i64 y, .int .i64 z] 52)).drewN m = w' :=
            fun m => sliceCompare_any _ _ 3 3 [x', y'] [x, y] _ (HS1.out m) (HS2.out m) (by simp)
          have Hcall := Lib.hid hcall
          clear hcall
          go_wp2_with fail
          generalize cmpL [x', y'] [x, y] = cv at *
          have hqn : ∀ nq, Qt (wr.alloc (.cells #[.int .i64 x, .int .i64 y, .int .i64 z] 52)) ((wr.alloc (.cells #[.int .i64 x, .int .i64 y, .int .i64 z] 52)).drewN nq) := fun nq => ⟨nq, rfl⟩
          by_cases q7 : 0 ≤ cv
          · have hv := Lib.hid (hone.out _ hbe'.out (.inr (.inr (.inr (.inr (.inr ⟨q6, hcmp2.out.1 q7⟩))))))
            clear hone hE hbe'
            go_quiet ((go_at_call 51; exact (Hcall.out _).mono fun _ _ h => ⟨h.1, _, h.2.symm⟩))
            go_wp2_with fail
            go_ret
            exact ⟨ret_int hv.out.symm, (hqn _).bl Hb1.out⟩
          · have hnb : Hid (∀ j, j < k + 1 → badAt ws.length ns j = false) := fun j hj => by
              rcases Nat.lt_or_ge j k with h | h
              · exact hall.out j h
              · obtain rfl : j = k := by omega
                rw [hbe'.out]
                have : ¬ (x < x' ∨ x' = x ∧ y ≤ y') := fun h => q7 (hcmp2.out.2 h)
                simp only [decide_eq_false_iff_not]
                omega
            clear hone hE hbe'
            go_quiet ((go_at_call 51; exact (Hcall.out _).mono fun _ _ h => ⟨h.1, _, h.2.symm⟩))
            go_wp2_with fail
            go_roundw
            case rel => exact ⟨k + 1, by omega, by go_num, hnb, (hqn _).bl Hb1.out, (Hbk.out.alloc _).qt (hqn _)⟩
            case measure => simp [intOf]; omega
        · have hnb : Hid (∀ j, j < k + 1 → badAt ws.length ns j = false) := fun j hj => by
            rcases Nat.lt_or_ge j k with h | h
            · exact hall.out j h
            · obtain rfl : j = k := by omega
              rw [hbe.out]
              simp; omega
          have hk0 : decide ((0 : Int) < (k : Int)) = false := by simp; omega
          have hk00 : k ≤ 0 := by omega
          clear hbe hE hone
          go_wp2_with fail
          go_quiet ((go_at_call 51; exact (sliceCompare_any _ _ _ _ _ _ _ hA hA (by omega)).mono fun _ _ h => ⟨h.1, _, h.2.symm⟩))
          have hqn : Qt (wr.alloc (.cells #[.int .i64 x, .int .i64 y, .int .i64 z] 52)) ((wr.alloc (.cells #[.int .i64 x, .int .i64 y, .int .i64 z] 52)).drewN nq) := ⟨nq, rfl⟩
          go_wp2_with fail
          go_roundw
          case rel => exact ⟨k + 1, by omega, by go_num, hnb, hqn.bl Hb1.out, (Hbk.out.alloc _).qt hqn⟩
          case measure => simp [intOf]; omega
      · obtain rfl : k = ns.length := by omega
        have hs := Lib.hid (hok.out hall.out)
        go_wp2_with fail
        go_ret
        exact ⟨ret_int hs.out.symm, hb⟩
  · rw [h3] at Hcf
    have hs : Hid (validE ws ns = 1) := by show _ = _; rw [validE, if_neg (by omega), if_pos h3]
    clear h3
    go_enter Try.func33, Try.ntmps33
    go_wp2_with fail
    refine Hcf.out.mono ?_
    rintro e w' ⟨rfl, rfl⟩
    go_wp2_with fail
    go_ret
    exact ⟨ret_int hs.out.symm, Hb0.out⟩
end Go.Proofs.Ytmdgdphhedgojaa
