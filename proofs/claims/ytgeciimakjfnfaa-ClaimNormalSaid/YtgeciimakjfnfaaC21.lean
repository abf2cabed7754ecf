import Derived.Test.YtgeciimakjfnfaaC20
import Derived.Test.YtgeciimakjfnfaaC14
import Derived.ChangeKeysEq
namespace Go.Proofs.Ytgeciimakjfnfaa
open Go.RowKit Go.Maps

theorem neq_cl (t : Cl) (W : World) : (binOp .neq 24 (.agg #[.int .i64 t.kind, .int .i64 t.office, .int .i64 t.fr, .int .i64 t.til, .int .i64 t.dec]) (.agg #[.int .i64 t.kind, .int .i64 t.office, .int .i64 t.fr, .int .i64 t.til, .int .i64 t.dec])).run Try.prog W = .ok (.bool false) W := by
  rw [run_neq_struct, show (10000 : Nat) = 9999 + 1 from rfl, run_equalIn_struct (P := Try.prog) W 9999 24 _ _ (by kernel_rfl) (by kernel_rfl)]
  have ha := Try.isAgg3
  have hu3 := Try.underlying3
  simp [Program.fieldsOf, Try.underlying24, Op.eqFields, part, ha, run_equalIn_int W 9998 3 .i64 .i64 _ _ hu3]
set_option linter.unusedSimpArgs false in
set_option maxHeartbeats 4000000 in
set_option maxRecDepth 100000 in
theorem same_any (A B : Option Addr) (c d : Nat) (l : List Cl) (w : World) (hA : SC w A l) (hB : SC w B l) (hl : l.length ≤ 1000000) :
    Calls Try.prog 22 #[.slice A l.length c, .slice B l.length d] w fun e w' => e = .returned (.bool true) ∧ Qt w w' := by
  go_enter Try.func22, Try.ntmps22
  go_wp2_with fail
  go_loopw [5] (fun iv wr => ∃ i : Nat, i ≤ l.length ∧ iv = .int .i64 (i : Int) ∧ Hid (Qt w wr)) (fun iv _ => l.length - (intOf iv).toNat)
  case atStart => exact ⟨0, by omega, rfl, Lib.hid (Qt.refl _)⟩
  case round =>
    obtain ⟨i, hi, rfl, Hq⟩ := hrel
    by_cases hlt : i < l.length
    · obtain ⟨b, o, t, hAe, c0, c1, c2, c3, c4, hx⟩ := SC.get (show SC wr A l from SL.qt hA Hq.out) (k := i) hlt
      obtain ⟨b2, o2, t2, hBe, d0, d1, d2, d3, d4, hy⟩ := SC.get (show SC wr B l from SL.qt hB Hq.out) (k := i) hlt
      obtain rfl : t2 = t := by have := hy.out; rw [hx.out] at this; injection this with this; exact this.symm
      have hneq := neq_cl t2
      have hni : ¬ (l.length ≤ i) := by omega
      rw [hAe, hBe]
      clear hAe hBe hx hy
      go_wp2
      go_quiet (fail)
      have Hq2 := Lib.hid (Hq.out.drewN nq)
      clear Hq hneq c0 c1 c2 c3 c4 d0 d1 d2 d3 d4
      go_wp2_with fail
      go_roundw
      case rel => exact ⟨i + 1, by omega, by go_num, Hq2⟩
      case measure => simp [intOf]; omega
    · go_wp2_with fail
      go_ret
      exact ⟨rfl, Hq.out⟩
theorem td_ext : ∀ {a b : List Int}, a.Pairwise (· < ·) → b.Pairwise (· < ·) → (∀ x, x ∈ a ↔ x ∈ b) → a = b
  | [], [], _, _, _ => rfl
  | [], b :: m, _, _, h => by have := (h b).2 (by simp); simp at this
  | a :: l, [], _, _, h => by have := (h a).1 (by simp); simp at this
  | a :: l, b :: m, hl, hm, h => by
    have hl' := List.pairwise_cons.1 hl
    have hm' := List.pairwise_cons.1 hm
    have e : a = b := by
      rcases List.mem_cons.1 ((h a).1 (by simp)) with h1 | h1
      · exact h1
      · rcases List.mem_cons.1 ((h b).2 (by simp)) with h2 | h2
        · exact h2.symm
        · have := hl'.1 b h2; have := hm'.1 a h1; omega
    subst e
    congr 1
    refine td_ext hl'.2 hm'.2 fun x => ⟨fun hx => ?_, fun hx => ?_⟩
    · rcases List.mem_cons.1 ((h x).1 (List.mem_cons_of_mem _ hx)) with h1 | h1
      · have := hl'.1 x hx; omega
      · exact h1
    · rcases List.mem_cons.1 ((h x).2 (List.mem_cons_of_mem _ hx)) with h1 | h1
      · have := hm'.1 x hx; omega
      · exact h1
theorem dys_is {l : List Cl} {ds : List Int} (h1 : ds.Pairwise (· < ·)) (h2 : ∀ x, x ∈ ds ↔ turnD l x) : dys l = ds :=
  td_ext (dys_td l).so h1 fun x => ((dys_td l).mem x).trans (h2 x).symm
def lvA : Cl := ⟨0, 1, 0, 9, 5⟩
def lvB : Cl := ⟨0, 1, 10, 20, 5⟩
def lvC : Cl := ⟨1, 1, 5, 6, 7⟩
theorem lv_n : nrmE [lvB, lvA] = 0 ∧ nrmR [lvB, lvA] = [⟨0, 1, 0, 20, 5⟩] := ⟨rfl, rfl⟩
theorem lv_ck : ckE 0 [1] [lvB, lvC, lvA] = 0 := by decide
theorem lv_d : dayL 0 [1] [lvB, lvC, lvA] = [(0, 4), (7, 20)] := by
  have h : dys [lvB, lvC, lvA] = [0, 5, 7, 10, 21, 73049] := dys_is (by decide) (fun x => by
    unfold turnD
    simp [lvA, lvB, lvC]
    omega)
  rw [dayL, if_pos lv_ck, h]
  rfl
theorem eql_04 (W : World) : (binOp .eql 49 (.agg #[.int .i64 0, .int .i64 4]) (.agg #[.int .i64 0, .int .i64 4])).run Try.prog W = .ok (.bool true) W := by kernel_rfl
theorem eql_720 (W : World) : (binOp .eql 49 (.agg #[.int .i64 7, .int .i64 20]) (.agg #[.int .i64 7, .int .i64 20])).run Try.prog W = .ok (.bool true) W := by kernel_rfl
set_option linter.unusedSimpArgs false in
set_option maxHeartbeats 8000000 in
set_option maxRecDepth 100000 in
theorem lives_any (w : World) : Calls Try.prog 18 #[] w fun e w' => e = .returned (.bool true) ∧ Below w.heap.size w w' := by
  have ka := (Bk.new w 24 #[.int .i64 0, .int .i64 1, .int .i64 0, .int .i64 9, .int .i64 5]).alloc (.cells #[.int .i64 0, .int .i64 1, .int .i64 10, .int .i64 20, .int .i64 5] 24) |>.alloc (.cells #[.int .i64 1, .int .i64 1, .int .i64 5, .int .i64 6, .int .i64 7] 24)
  have kb := (Bk.new' (w.alloc (.cells #[.int .i64 0, .int .i64 1, .int .i64 0, .int .i64 9, .int .i64 5] 24)) 24 #[.int .i64 0, .int .i64 1, .int .i64 10, .int .i64 20, .int .i64 5] (g := w.heap.size + 1) (by simp)).alloc (.cells #[.int .i64 1, .int .i64 1, .int .i64 5, .int .i64 6, .int .i64 7] 24)
  have kc := Bk.new' ((w.alloc (.cells #[.int .i64 0, .int .i64 1, .int .i64 0, .int .i64 9, .int .i64 5] 24)).alloc (.cells #[.int .i64 0, .int .i64 1, .int .i64 10, .int .i64 20, .int .i64 5] 24)) 24 #[.int .i64 1, .int .i64 1, .int .i64 5, .int .i64 6, .int .i64 7] (g := w.heap.size + 1 + 1) (by simp)
  have hb := ((((Below.refl w.heap.size w).alloc (Nat.le_refl _) (.cells #[.int .i64 0, .int .i64 1, .int .i64 0, .int .i64 9, .int .i64 5] 24)).alloc (by simp) (.cells #[.int .i64 0, .int .i64 1, .int .i64 10, .int .i64 20, .int .i64 5] 24)).alloc (by simp; omega) (.cells #[.int .i64 1, .int .i64 1, .int .i64 5, .int .i64 6, .int .i64 7] 24)).alloc (by simp; omega) (.cells #[.int .i64 0, .int .i64 1, .int .i64 10, .int .i64 20, .int .i64 5, .int .i64 0, .int .i64 1, .int .i64 0, .int .i64 9, .int .i64 5] 24)
  have Ka := Lib.hid (ka.alloc (.cells #[.int .i64 0, .int .i64 1, .int .i64 10, .int .i64 20, .int .i64 5, .int .i64 0, .int .i64 1, .int .i64 0, .int .i64 9, .int .i64 5] 24))
  have Kb := Lib.hid (kb.alloc (.cells #[.int .i64 0, .int .i64 1, .int .i64 10, .int .i64 20, .int .i64 5, .int .i64 0, .int .i64 1, .int .i64 0, .int .i64 9, .int .i64 5] 24))
  have Kc := Lib.hid (kc.alloc (.cells #[.int .i64 0, .int .i64 1, .int .i64 10, .int .i64 20, .int .i64 5, .int .i64 0, .int .i64 1, .int .i64 0, .int .i64 9, .int .i64 5] 24))
  have HB := Lib.hid hb
  have HN := Lib.hid (normal_any (some ⟨w.heap.size + 1 + 1 + 1, 0, none⟩) 2 [lvB, lvA] ((((w.alloc (.cells #[.int .i64 0, .int .i64 1, .int .i64 0, .int .i64 9, .int .i64 5] 24)).alloc (.cells #[.int .i64 0, .int .i64 1, .int .i64 10, .int .i64 20, .int .i64 5] 24)).alloc (.cells #[.int .i64 1, .int .i64 1, .int .i64 5, .int .i64 6, .int .i64 7] 24)).alloc (.cells #[.int .i64 0, .int .i64 1, .int .i64 10, .int .i64 20, .int .i64 5, .int .i64 0, .int .i64 1, .int .i64 0, .int .i64 9, .int .i64 5] 24)) (sl_bk (Bk.new' (((w.alloc (.cells #[.int .i64 0, .int .i64 1, .int .i64 0, .int .i64 9, .int .i64 5] 24)).alloc (.cells #[.int .i64 0, .int .i64 1, .int .i64 10, .int .i64 20, .int .i64 5] 24)).alloc (.cells #[.int .i64 1, .int .i64 1, .int .i64 5, .int .i64 6, .int .i64 7] 24)) 24 #[.int .i64 0, .int .i64 1, .int .i64 10, .int .i64 20, .int .i64 5, .int .i64 0, .int .i64 1, .int .i64 0, .int .i64 9, .int .i64 5] (g := w.heap.size + 1 + 1 + 1) (by simp))) (by decide))
  rw [lv_n.1, lv_n.2] at HN
  have a0 := ka.cell 0
  have a1 := ka.cell 1
  have a2 := ka.cell 2
  have a3 := ka.cell 3
  have a4 := ka.cell 4
  have b0 := kb.cell 0
  have b1 := kb.cell 1
  have b2 := kb.cell 2
  have b3 := kb.cell 3
  have b4 := kb.cell 4
  simp only [List.getElem?_toArray, List.getElem?_cons_zero, List.getElem?_cons_succ] at a0 a1 a2 a3 a4 b0 b1 b2 b3 b4
  clear ka kb kc hb
  go_enter Try.func18, Try.ntmps18
  go_wp2_with fail
  refine HN.out.mono ?_
  clear a0 a1 a2 a3 a4 b0 b1 b2 b3 b4 HN
  generalize (((w.alloc (.cells #[.int .i64 0, .int .i64 1, .int .i64 0, .int .i64 9, .int .i64 5] 24)).alloc (.cells #[.int .i64 0, .int .i64 1, .int .i64 10, .int .i64 20, .int .i64 5] 24)).alloc (.cells #[.int .i64 1, .int .i64 1, .int .i64 5, .int .i64 6, .int .i64 7] 24)).alloc (.cells #[.int .i64 0, .int .i64 1, .int .i64 10, .int .i64 20, .int .i64 5, .int .i64 0, .int .i64 1, .int .i64 0, .int .i64 9, .int .i64 5] 24) = W4 at *
  rintro e w1 ⟨v, rfl, hown, hb⟩
  obtain ⟨Av, cv, rfl⟩ := own_slice hown
  have hbL := (hb.alloc hb.size (.cells #[.int .i64 1] 3)).alloc (by have := hb.size; simp; omega) (.cells #[.int .i64 0, .int .i64 1, .int .i64 10, .int .i64 20, .int .i64 5, .int .i64 1, .int .i64 1, .int .i64 5, .int .i64 6, .int .i64 7, .int .i64 0, .int .i64 1, .int .i64 0, .int .i64 9, .int .i64 5] 24)
  have ka := (Ka.out.below hb Ka.out.lt).alloc (.cells #[.int .i64 1] 3)
  have kb := (Kb.out.below hb Kb.out.lt).alloc (.cells #[.int .i64 1] 3)
  have kc := (Kc.out.below hb Kc.out.lt).alloc (.cells #[.int .i64 1] 3)
  have HO := Lib.hid ((hown.alloc (.cells #[.int .i64 1] 3)).alloc (.cells #[.int .i64 0, .int .i64 1, .int .i64 10, .int .i64 20, .int .i64 5, .int .i64 1, .int .i64 1, .int .i64 5, .int .i64 6, .int .i64 7, .int .i64 0, .int .i64 1, .int .i64 0, .int .i64 9, .int .i64 5] 24))
  have HB2 := Lib.hid (HB.out.trans (hbL.mono HB.out.size))
  have HD := Lib.hid (days_any 0 (some ⟨w1.heap.size, 0, none⟩) 1 [1] (some ⟨w1.heap.size + 1, 0, none⟩) 3 [lvB, lvC, lvA] ((w1.alloc (.cells #[.int .i64 1] 3)).alloc (.cells #[.int .i64 0, .int .i64 1, .int .i64 10, .int .i64 20, .int .i64 5, .int .i64 1, .int .i64 1, .int .i64 5, .int .i64 6, .int .i64 7, .int .i64 0, .int .i64 1, .int .i64 0, .int .i64 9, .int .i64 5] 24)) (SL.alloc (sl_bk (Bk.new w1 3 #[.int .i64 1])) _) (by decide) (sl_bk (Bk.new' (w1.alloc (.cells #[.int .i64 1] 3)) 24 #[.int .i64 0, .int .i64 1, .int .i64 10, .int .i64 20, .int .i64 5, .int .i64 1, .int .i64 1, .int .i64 5, .int .i64 6, .int .i64 7, .int .i64 0, .int .i64 1, .int .i64 0, .int .i64 9, .int .i64 5] (g := w1.heap.size + 1) (by simp))) (by decide))
  rw [lv_ck, lv_d] at HD
  have a0 := ka.cell 0
  have a1 := ka.cell 1
  have a2 := ka.cell 2
  have a3 := ka.cell 3
  have a4 := ka.cell 4
  have b0 := kb.cell 0
  have b1 := kb.cell 1
  have b2 := kb.cell 2
  have b3 := kb.cell 3
  have b4 := kb.cell 4
  have c0 := kc.cell 0
  have c1 := kc.cell 1
  have c2 := kc.cell 2
  have c3 := kc.cell 3
  have c4 := kc.cell 4
  simp only [List.getElem?_toArray, List.getElem?_cons_zero, List.getElem?_cons_succ] at a0 a1 a2 a3 a4 b0 b1 b2 b3 b4 c0 c1 c2 c3 c4
  clear ka kb kc hbL hown hb HB
  go_wp2_with fail
  refine HD.out.mono ?_
  clear a0 a1 a2 a3 a4 b0 b1 b2 b3 b4 c0 c1 c2 c3 c4 HD Ka Kb Kc
  generalize (w1.alloc (.cells #[.int .i64 1] 3)).alloc (.cells #[.int .i64 0, .int .i64 1, .int .i64 10, .int .i64 20, .int .i64 5, .int .i64 1, .int .i64 1, .int .i64 5, .int .i64 6, .int .i64 7, .int .i64 0, .int .i64 1, .int .i64 0, .int .i64 9, .int .i64 5] 24) = W5 at *
  rintro e w2 ⟨v, rfl, hown, hb⟩
  obtain ⟨Ad, cd, rfl⟩ := own_slice hown
  have HS := Lib.hid (same_any Av (some ⟨w2.heap.size, 0, none⟩) cv 1 [⟨0, 1, 0, 20, 5⟩] (w2.alloc (.cells #[.int .i64 0, .int .i64 1, .int .i64 0, .int .i64 20, .int .i64 5] 24)) (SC.own ((own_below HO.out hb).alloc (.cells #[.int .i64 0, .int .i64 1, .int .i64 0, .int .i64 20, .int .i64 5] 24))) (sl_bk (Bk.new w2 24 #[.int .i64 0, .int .i64 1, .int .i64 0, .int .i64 20, .int .i64 5])) (by decide))
  have HB3 := Lib.hid ((HB2.out.trans (hb.mono HB2.out.size)).alloc (by have := HB2.out.size; have := hb.size; omega) (.cells #[.int .i64 0, .int .i64 1, .int .i64 0, .int .i64 20, .int .i64 5] 24))
  have HO2 := Lib.hid (hown.alloc (.cells #[.int .i64 0, .int .i64 1, .int .i64 0, .int .i64 20, .int .i64 5] 24))
  obtain ⟨g, hg⟩ : ∃ g, Ad = some ⟨g, 0, none⟩ := by
    rcases own_form hown with ⟨h1, h2⟩ | h
    · have h3 := own_cap hown
      have h4 : [((0 : Int), (4 : Int)), (7, 20)].length = 2 := rfl
      omega
    · exact h
  subst hg
  clear hown hb HB2 HO
  go_wp2_with fail
  refine HS.out.mono ?_
  generalize w2.alloc (.cells #[.int .i64 0, .int .i64 1, .int .i64 0, .int .i64 20, .int .i64 5] 24) = W6 at *
  rintro e w3 ⟨rfl, hq⟩
  obtain ⟨p0, p1, _⟩ := own_cellsP (own_qt HO2.out hq) (show [((0 : Int), (4 : Int)), (7, 20)][0]? = some (0, 4) from rfl)
  obtain ⟨p2, p3, _⟩ := own_cellsP (own_qt HO2.out hq) (show [((0 : Int), (4 : Int)), (7, 20)][1]? = some (7, 20) from rfl)
  have HB4 := Lib.hid (hq.bl HB3.out)
  have e1 := eql_04
  have e2 := eql_720
  clear hq HS HO2 HB3
  go_wp2_with fail
  go_ret
  exact ⟨rfl, HB4.out⟩
end Go.Proofs.Ytgeciimakjfnfaa
