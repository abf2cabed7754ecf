import Derived.Test.YtgeciimakjfnfaaC8
namespace Go.Proofs.Ytgeciimakjfnfaa
open Go.RowKit Go.Maps

set_option linter.unusedSimpArgs false in
set_option maxHeartbeats 4000000 in
set_option maxRecDepth 100000 in
theorem alike_any (x y : Cl) (w : World) : Calls Try.prog 72 #[clV x, clV y] w fun e w' => e = .returned (.bool (decide (sameK x y))) ∧ Below w.heap.size w w' := by
  show Calls Try.prog 72 #[.agg #[.int .i64 x.kind, .int .i64 x.office, .int .i64 x.fr, .int .i64 x.til, .int .i64 x.dec], .agg #[.int .i64 y.kind, .int .i64 y.office, .int .i64 y.fr, .int .i64 y.til, .int .i64 y.dec]] w _
  have Hb := Lib.hid ((boxC x w).trans ((boxC y _).mono (by simp)))
  have hk1 := (boxC_k x w).alloc (.cells #[.int .i64 y.kind, .int .i64 y.office, .int .i64 y.fr, .int .i64 y.til, .int .i64 y.dec] 24)
  have hk2 := Bk.new' (w.alloc (.cells #[.int .i64 x.kind, .int .i64 x.office, .int .i64 x.fr, .int .i64 x.til, .int .i64 x.dec] 24)) 24 #[.int .i64 y.kind, .int .i64 y.office, .int .i64 y.fr, .int .i64 y.til, .int .i64 y.dec] (g := w.heap.size + 1) (by simp)
  have a0 := hk1.cell 0
  have a1 := hk1.cell 1
  have a4 := hk1.cell 4
  have b0 := hk2.cell 0
  have b1 := hk2.cell 1
  have b4 := hk2.cell 4
  simp only [List.getElem?_toArray, List.getElem?_cons_zero, List.getElem?_cons_succ] at a0 a1 a4 b0 b1 b4
  clear hk1 hk2
  by_cases h1 : x.kind = y.kind
  · have e1 : (x.kind == y.kind) = true := by simp [h1]
    by_cases h2 : x.office = y.office
    · have e2 : (x.office == y.office) = true := by simp [h2]
      by_cases h3 : x.dec = y.dec
      · have e3 : (x.dec == y.dec) = true := by simp [h3]
        have HS := Lib.hid (show decide (sameK x y) = true from decide_eq_true ⟨h1, h2, h3⟩)
        clear h1 h2 h3
        go_enter Try.func72, Try.ntmps72
        go_wp2_with fail
        go_ret
        exact ⟨by rw [HS.out]; rfl, Hb.out⟩
      · have e3 : (x.dec == y.dec) = false := by simp [h3]
        have HS := Lib.hid (show decide (sameK x y) = false from decide_eq_false fun h => h3 h.2.2)
        clear h1 h2 h3
        go_enter Try.func72, Try.ntmps72
        go_wp2_with fail
        go_ret
        exact ⟨by rw [HS.out]; rfl, Hb.out⟩
    · have e2 : (x.office == y.office) = false := by simp [h2]
      have HS := Lib.hid (show decide (sameK x y) = false from decide_eq_false fun h => h2 h.2.1)
      clear h1 h2
      go_enter Try.func72, Try.ntmps72
      go_wp2_with fail
      go_ret
      exact ⟨by rw [HS.out]; rfl, Hb.out⟩
  · have e1 : (x.kind == y.kind) = false := by simp [h1]
    have HS := Lib.hid (show decide (sameK x y) = false from decide_eq_false fun h => h1 h.1)
    clear h1
    go_enter Try.func72, Try.ntmps72
    go_wp2_with fail
    go_ret
    exact ⟨by rw [HS.out]; rfl, Hb.out⟩

/-- The first numbers that differ. -/
def lexL : List Int → List Int → Bool
  | x :: xs, y :: ys => if x != y then decide (x < y) else lexL xs ys
  | _, _ => false
theorem lexL_at {X Y : List Int} {k : Nat} {x y : Int} (hx : X[k]? = some x) (hy : Y[k]? = some y) : lexL (X.drop k) (Y.drop k) = if x != y then decide (x < y) else lexL (X.drop (k + 1)) (Y.drop (k + 1)) := by
  obtain ⟨h1, e1⟩ := List.getElem?_eq_some_iff.1 hx
  obtain ⟨h2, e2⟩ := List.getElem?_eq_some_iff.1 hy
  rw [List.drop_eq_getElem_cons h1, List.drop_eq_getElem_cons h2, e1, e2, lexL]
theorem lessC_lex (a b : Cl) : lessC a b = lexL [a.kind, a.office, a.dec, a.fr] [b.kind, b.office, b.dec, b.fr] := by
  have h : (lexL [a.kind, a.office, a.dec, a.fr] [b.kind, b.office, b.dec, b.fr] = true) ↔ lessC a b = true := by
    rw [lessC_iff]
    simp only [lexL]
    by_cases h1 : a.kind = b.kind
    · by_cases h2 : a.office = b.office
      · by_cases h3 : a.dec = b.dec
        · by_cases h4 : a.fr = b.fr
          · simp [h1, h2, h3, h4]
          · simp [h1, h2, h3, h4]
        · simp [h1, h2, h3]
      · simp [h1, h2]
    · simp [h1]
  cases hl : lessC a b
  · cases hx : lexL [a.kind, a.office, a.dec, a.fr] [b.kind, b.office, b.dec, b.fr]
    · rfl
    · rw [h.1 hx] at hl; cases hl
  · exact (h.2 hl).symm
set_option linter.unusedSimpArgs false in
set_option maxHeartbeats 4000000 in
set_option maxRecDepth 100000 in
theorem less_any (x y : Cl) (w : World) : Calls Try.prog 73 #[clV x, clV y] w fun e w' => e = .returned (.bool (lessC x y)) ∧ Below w.heap.size w w' := by
  show Calls Try.prog 73 #[.agg #[.int .i64 x.kind, .int .i64 x.office, .int .i64 x.fr, .int .i64 x.til, .int .i64 x.dec], .agg #[.int .i64 y.kind, .int .i64 y.office, .int .i64 y.fr, .int .i64 y.til, .int .i64 y.dec]] w _
  have hb0 := (boxC x w).trans ((boxC y _).mono (by simp))
  have hk1 := (boxC_k x w).alloc (.cells #[.int .i64 y.kind, .int .i64 y.office, .int .i64 y.fr, .int .i64 y.til, .int .i64 y.dec] 24)
  have hk2 := Bk.new' (w.alloc (.cells #[.int .i64 x.kind, .int .i64 x.office, .int .i64 x.fr, .int .i64 x.til, .int .i64 x.dec] 24)) 24 #[.int .i64 y.kind, .int .i64 y.office, .int .i64 y.fr, .int .i64 y.til, .int .i64 y.dec] (g := w.heap.size + 1) (by simp)
  have hb2 := (Below.refl _ ((w.alloc (.cells #[.int .i64 x.kind, .int .i64 x.office, .int .i64 x.fr, .int .i64 x.til, .int .i64 x.dec] 24)).alloc (.cells #[.int .i64 y.kind, .int .i64 y.office, .int .i64 y.fr, .int .i64 y.til, .int .i64 y.dec] 24))).alloc (Nat.le_refl _) (.cells #[.int .i64 x.kind, .int .i64 x.office, .int .i64 x.dec, .int .i64 x.fr] 3)
  have hk3 := hk2.below hb2 hk2.lt
  have a0 := hk1.cell 0
  have a1 := hk1.cell 1
  have a2 := hk1.cell 2
  have a4 := hk1.cell 4
  have b0 := hk3.cell 0
  have b1 := hk3.cell 1
  have b2 := hk3.cell 2
  have b4 := hk3.cell 4
  simp only [List.getElem?_toArray, List.getElem?_cons_zero, List.getElem?_cons_succ] at a0 a1 a2 a4 b0 b1 b2 b4
  have hb3 := hb2.alloc (by simp) (.cells #[.int .i64 y.kind, .int .i64 y.office, .int .i64 y.dec, .int .i64 y.fr] 3)
  have HX := Lib.hid ((Bk.new ((w.alloc (.cells #[.int .i64 x.kind, .int .i64 x.office, .int .i64 x.fr, .int .i64 x.til, .int .i64 x.dec] 24)).alloc (.cells #[.int .i64 y.kind, .int .i64 y.office, .int .i64 y.fr, .int .i64 y.til, .int .i64 y.dec] 24)) 3 #[.int .i64 x.kind, .int .i64 x.office, .int .i64 x.dec, .int .i64 x.fr]).alloc (.cells #[.int .i64 y.kind, .int .i64 y.office, .int .i64 y.dec, .int .i64 y.fr] 3))
  have HY := Lib.hid (Bk.new (((w.alloc (.cells #[.int .i64 x.kind, .int .i64 x.office, .int .i64 x.fr, .int .i64 x.til, .int .i64 x.dec] 24)).alloc (.cells #[.int .i64 y.kind, .int .i64 y.office, .int .i64 y.fr, .int .i64 y.til, .int .i64 y.dec] 24)).alloc (.cells #[.int .i64 x.kind, .int .i64 x.office, .int .i64 x.dec, .int .i64 x.fr] 3)) 3 #[.int .i64 y.kind, .int .i64 y.office, .int .i64 y.dec, .int .i64 y.fr])
  have HB := Lib.hid (hb0.trans (hb3.mono (by simp; omega)))
  have HL := Lib.hid (lessC_lex x y)
  clear hb0 hk1 hk2 hb2 hk3 hb3
  go_enter Try.func73, Try.ntmps73
  go_wp2_with fail
  clear a0 a1 a2 a4 b0 b1 b2 b4
  have SX := Lib.hid (show SI ((((w.alloc (.cells #[.int .i64 x.kind, .int .i64 x.office, .int .i64 x.fr, .int .i64 x.til, .int .i64 x.dec] 24)).alloc (.cells #[.int .i64 y.kind, .int .i64 y.office, .int .i64 y.fr, .int .i64 y.til, .int .i64 y.dec] 24)).alloc (.cells #[.int .i64 x.kind, .int .i64 x.office, .int .i64 x.dec, .int .i64 x.fr] 3)).alloc (.cells #[.int .i64 y.kind, .int .i64 y.office, .int .i64 y.dec, .int .i64 y.fr] 3)) (some ⟨w.heap.size + 1 + 1, 0, none⟩) [x.kind, x.office, x.dec, x.fr] from by have h := sl_bk HX.out; simp only [World.size_alloc] at h; exact h)
  have SY := Lib.hid (show SI ((((w.alloc (.cells #[.int .i64 x.kind, .int .i64 x.office, .int .i64 x.fr, .int .i64 x.til, .int .i64 x.dec] 24)).alloc (.cells #[.int .i64 y.kind, .int .i64 y.office, .int .i64 y.fr, .int .i64 y.til, .int .i64 y.dec] 24)).alloc (.cells #[.int .i64 x.kind, .int .i64 x.office, .int .i64 x.dec, .int .i64 x.fr] 3)).alloc (.cells #[.int .i64 y.kind, .int .i64 y.office, .int .i64 y.dec, .int .i64 y.fr] 3)) (some ⟨w.heap.size + 1 + 1 + 1, 0, none⟩) [y.kind, y.office, y.dec, y.fr] from by have h := sl_bk HY.out; simp only [World.size_alloc] at h; exact h)
  clear HX HY
  generalize (((w.alloc (.cells #[.int .i64 x.kind, .int .i64 x.office, .int .i64 x.fr, .int .i64 x.til, .int .i64 x.dec] 24)).alloc (.cells #[.int .i64 y.kind, .int .i64 y.office, .int .i64 y.fr, .int .i64 y.til, .int .i64 y.dec] 24)).alloc (.cells #[.int .i64 x.kind, .int .i64 x.office, .int .i64 x.dec, .int .i64 x.fr] 3)).alloc (.cells #[.int .i64 y.kind, .int .i64 y.office, .int .i64 y.dec, .int .i64 y.fr] 3) = W0 at *
  generalize w.heap.size + 1 + 1 + 1 = gy at *
  generalize w.heap.size + 1 + 1 = gx at *
  obtain ⟨X, hX⟩ : ∃ z, Hid ([x.kind, x.office, x.dec, x.fr] = z) := ⟨_, Lib.hid rfl⟩
  obtain ⟨Y, hY⟩ : ∃ z, Hid ([y.kind, y.office, y.dec, y.fr] = z) := ⟨_, Lib.hid rfl⟩
  have LX := Lib.hid (show X.length = 4 from by rw [← hX.out]; rfl)
  have LY := Lib.hid (show Y.length = 4 from by rw [← hY.out]; rfl)
  rw [hX.out] at SX HL
  rw [hY.out] at SY HL
  go_loopw [7] (fun i wr => ∃ k : Nat, k ≤ 4 ∧ i = .int .i64 (k : Int) ∧ Hid (lexL X Y = lexL (X.drop k) (Y.drop k)) ∧ Qt W0 wr) (fun i _ => 4 - (intOf i).toNat)
  case atStart => exact ⟨0, by omega, rfl, Lib.hid rfl, Qt.refl _⟩
  case round =>
    obtain ⟨k, hk, rfl, HF, hq⟩ := hrel
    by_cases hlt : k < 4
    · obtain ⟨b1, o1, p, he1, c0, hp⟩ := (SX.out.qt hq).get (k := k) (by rw [LX.out]; exact hlt)
      obtain ⟨b2, o2, q, he2, d0, hqq⟩ := (SY.out.qt hq).get (k := k) (by rw [LY.out]; exact hlt)
      injection he1 with he1
      injection he1 with e1 e2
      subst e1 e2
      injection he2 with he2
      injection he2 with e1 e2
      subst e1 e2
      rw [Nat.zero_add] at c0 d0
      have HN := Lib.hid (HF.out.trans (lexL_at hp.out hqq.out))
      have hnk : ¬ (4 ≤ k) := by omega
      clear HF hp hqq
      go_wp2
      go_quiet (fail)
      cases hpq : (p != q)
      · have HN2 := Lib.hid (show lexL X Y = lexL (X.drop (k + 1)) (Y.drop (k + 1)) from by rw [HN.out, hpq]; rfl)
        clear HN
        go_wp2_with fail
        go_roundw
        case rel => exact ⟨k + 1, by omega, by go_num, HN2, hq.drewN _⟩
        case measure => simp [intOf]; omega
      · have HN2 := Lib.hid (show lexL X Y = decide (p < q) from by rw [HN.out, hpq]; rfl)
        clear HN
        have c1 : (wr.drewN nq).cell? ⟨gx, k, none⟩ = some (.int .i64 p) := c0
        have d1 : (wr.drewN nq).cell? ⟨gy, k, none⟩ = some (.int .i64 q) := d0
        have Hq2 := Lib.hid (hq.drewN nq)
        clear c0 d0 hq hpq
        generalize wr.drewN nq = w2 at *
        go_wp2
        go_quiet (fail)
        go_wp2_with fail
        go_ret
        exact ⟨by rw [HL.out, HN2.out]; rfl, (Hq2.out.drewN _).bl HB.out⟩
    · obtain rfl : k = 4 := by omega
      have HN2 := Lib.hid (show lexL X Y = false from by rw [HF.out, List.drop_of_length_le (by rw [LX.out]; exact Nat.le_refl _)]; rfl)
      clear HF
      go_wp2_with fail
      go_ret
      exact ⟨by rw [HL.out, HN2.out]; rfl, hq.bl HB.out⟩
end Go.Proofs.Ytgeciimakjfnfaa
