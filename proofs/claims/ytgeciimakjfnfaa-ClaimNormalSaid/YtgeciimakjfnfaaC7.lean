import Derived.Test.YtgeciimakjfnfaaC6
namespace Go.Proofs.Ytgeciimakjfnfaa
open Go.RowKit Go.Maps

theorem mem_actL {l : List Cl} {k : Nat} {t : Cl} {d : Int} (h : l[k]? = some t) (h1 : t.fr ≤ d) (h2 : d ≤ t.til) : t ∈ actL l d := List.mem_filter.2 ⟨List.mem_of_getElem? h, inB_true ⟨h1, h2⟩⟩
theorem says_deny {l : List Cl} {k : Nat} {t : Cl} {d o : Int} (h : l[k]? = some t) (h1 : t.fr ≤ d) (h2 : d ≤ t.til) (h3 : t.office = o) (h4 : t.kind = 1) : saysL o (actL l d) = -1 := by
  have : (actL l d).any (pSay o 1) = true := List.any_eq_true.2 ⟨t, mem_actL h h1 h2, by simp [pSay, h3, h4]⟩
  rw [saysL, this]; rfl
theorem says_snoc {X : List Cl} {t : Cl} {o : Int} (h : X.any (pSay o 1) = false) (ht : pSay o 1 t = false) : (X ++ [t]).any (pSay o 1) = false ∧ saysL o (X ++ [t]) = if pSay o 0 t then 1 else saysL o X := by
  have h1 : (X ++ [t]).any (pSay o 1) = false := by rw [List.any_append, h]; simp [ht]
  refine ⟨h1, ?_⟩
  rw [saysL, h1, saysL, h, List.any_append]
  cases hp : pSay o 0 t
  · simp [hp]
  · simp [hp]
theorem pSay_off {t : Cl} {o k : Int} (h : t.office ≠ o) : pSay o k t = false := by simp [pSay, h]
theorem pSay_kind {t : Cl} {o k : Int} (h : t.kind ≠ k) : pSay o k t = false := by simp [pSay, h]
theorem pSay_yes {t : Cl} {o k : Int} (h : t.office = o) (h2 : t.kind = k) : pSay o k t = true := by simp [pSay, h, h2]

set_option linter.unusedSimpArgs false in
set_option maxHeartbeats 4000000 in
set_option maxRecDepth 100000 in
theorem refSays_any (o : Int) (A : Option Addr) (c : Nat) (l : List Cl) (d : Int) (w : World) (hA : SC w A l) (hl : l.length ≤ 1000000) :
    Calls Try.prog 28 #[.int .i64 o, .slice A l.length c, .int .i64 d] w fun e w' => e = .returned (.int .i64 (saysL o (actL l d))) ∧ Below w.heap.size w w' := by
  have HA := Lib.hid (fun (W : World) (h : Below w.heap.size w W) => (show SC W A l from hA.below h))
  clear hA
  go_enter Try.func28, Try.ntmps28
  go_wp2_with fail
  go_loopw [7, 8] (fun ov i wr => ∃ (k : Nat) (s : Int), k ≤ l.length ∧ i = .int .i64 (k : Int) ∧ ov = .int .i64 s ∧ Hid (saysL o (actL (l.take k) d) = s) ∧ Hid ((actL (l.take k) d).any (pSay o 1) = false) ∧ Hid (Below w.heap.size w wr)) (fun _ i _ => l.length - (intOf i).toNat)
  case atStart => exact ⟨0, 0, by omega, rfl, rfl, Lib.hid rfl, Lib.hid rfl, Lib.hid (Below.refl _ _)⟩
  case round =>
    obtain ⟨k, s, hk, rfl, rfl, HS, HN, HB⟩ := hrel
    by_cases hlt : k < l.length
    · obtain ⟨b, of_, t, hAe, c0, c1, c2, c3, c4, hi⟩ := (HA.out wr HB.out).get (k := k) hlt
      have HB1 := Lib.hid (HB.out.trans ((boxC t wr).mono HB.out.size))
      have hbk := boxC_k t wr
      have HX := Lib.hid (actL_next d hi.out)
      rw [hAe]
      have e0 : (wr.alloc (.cells #[.int .i64 t.kind, .int .i64 t.office, .int .i64 t.fr, .int .i64 t.til, .int .i64 t.dec] 24)).cell? ⟨wr.heap.size, 0, none⟩ = some (.int .i64 t.kind) := hbk.cell 0
      have e1 : (wr.alloc (.cells #[.int .i64 t.kind, .int .i64 t.office, .int .i64 t.fr, .int .i64 t.til, .int .i64 t.dec] 24)).cell? ⟨wr.heap.size, 1, none⟩ = some (.int .i64 t.office) := hbk.cell 1
      have e2 : (wr.alloc (.cells #[.int .i64 t.kind, .int .i64 t.office, .int .i64 t.fr, .int .i64 t.til, .int .i64 t.dec] 24)).cell? ⟨wr.heap.size, 2, none⟩ = some (.int .i64 t.fr) := hbk.cell 2
      have e3 : (wr.alloc (.cells #[.int .i64 t.kind, .int .i64 t.office, .int .i64 t.fr, .int .i64 t.til, .int .i64 t.dec] 24)).cell? ⟨wr.heap.size, 3, none⟩ = some (.int .i64 t.til) := hbk.cell 3
      clear hAe HB hbk
      by_cases h0 : t.office = o
      · have b1 : (t.office != o) = false := by simp [h0]
        have b2 : (t.office == o) = true := by simp [h0]
        by_cases h1 : d < t.fr
        · rw [inB_false (by omega)] at HX
          have HX2 := Lib.hid (show actL (l.take (k + 1)) d = actL (l.take k) d from HX.out)
          clear h0 HX hi
          go_wp2_with fail
          go_roundw
          case rel => exact ⟨k + 1, s, by omega, by go_num, rfl, Lib.hid (by rw [HX2.out]; exact HS.out), Lib.hid (by rw [HX2.out]; exact HN.out), HB1⟩
          case measure => simp [intOf]; omega
        · by_cases h2 : d > t.til
          · rw [inB_false (by omega)] at HX
            have HX2 := Lib.hid (show actL (l.take (k + 1)) d = actL (l.take k) d from HX.out)
            clear h0 HX hi
            go_wp2_with fail
            go_roundw
            case rel => exact ⟨k + 1, s, by omega, by go_num, rfl, Lib.hid (by rw [HX2.out]; exact HS.out), Lib.hid (by rw [HX2.out]; exact HN.out), HB1⟩
            case measure => simp [intOf]; omega
          · rw [inB_true (by omega)] at HX
            have HX2 := Lib.hid (show actL (l.take (k + 1)) d = actL (l.take k) d ++ [t] from HX.out)
            by_cases h3 : t.kind = 1
            · have HD := Lib.hid (says_deny (d := d) hi.out (by omega) (by omega) h0 h3)
              have b3 : (t.kind == 1) = true := by simp [h3]
              clear h0 HX hi h3
              go_wp2_with fail
              go_ret
              exact ⟨by rw [HD.out]; rfl, HB1.out⟩
            · obtain ⟨q1, q2⟩ := says_snoc HN.out (pSay_kind (o := o) h3)
              rw [HS.out] at q2
              have Q1 := Lib.hid q1
              have b3 : (t.kind == 1) = false := by simp [h3]
              by_cases h4 : t.kind = 0
              · rw [pSay_yes h0 h4] at q2
                have Q2 := Lib.hid (show saysL o (actL (l.take k) d ++ [t]) = 1 from q2)
                have b4 : (t.kind == 0) = true := by simp [h4]
                clear h0 HX hi h3 h4 q1 q2 HN HS
                go_wp2_with fail
                go_roundw
                case rel => exact ⟨k + 1, 1, by omega, by go_num, rfl, Lib.hid (by rw [HX2.out]; exact Q2.out), Lib.hid (by rw [HX2.out]; exact Q1.out), HB1⟩
                case measure => simp [intOf]; omega
              · rw [pSay_kind h4] at q2
                have Q2 := Lib.hid (show saysL o (actL (l.take k) d ++ [t]) = s from q2)
                have b4 : (t.kind == 0) = false := by simp [h4]
                clear h0 HX hi h3 h4 q1 q2 HN HS
                go_wp2_with fail
                go_roundw
                case rel => exact ⟨k + 1, s, by omega, by go_num, rfl, Lib.hid (by rw [HX2.out]; exact Q2.out), Lib.hid (by rw [HX2.out]; exact Q1.out), HB1⟩
                case measure => simp [intOf]; omega
      · have b1 : (t.office != o) = true := by simp [h0]
        have b2 : (t.office == o) = false := by simp [h0]
        obtain ⟨q1, q2⟩ := says_snoc HN.out (pSay_off (k := 1) h0)
        rw [pSay_off h0, HS.out] at q2
        have Q1 := Lib.hid (show (actL (l.take (k + 1)) d).any (pSay o 1) = false from by
          rw [HX.out]
          split
          · exact q1
          · exact HN.out)
        have Q2 := Lib.hid (show saysL o (actL (l.take (k + 1)) d) = s from by
          rw [HX.out]
          split
          · exact q2
          · exact HS.out)
        clear h0 HX hi q1 q2 HN HS
        go_wp2_with fail
        go_roundw
        case rel => exact ⟨k + 1, s, by omega, by go_num, rfl, Q2, Q1, HB1⟩
        case measure => simp [intOf]; omega
    · obtain rfl : k = l.length := by omega
      have HS2 := Lib.hid (show saysL o (actL l d) = s from by have := HS.out; rw [List.take_length] at this; exact this)
      clear HS HN
      go_wp2_with fail
      go_ret
      exact ⟨by rw [HS2.out]; rfl, HB.out⟩

theorem ctl_yes {l : List Cl} {k : Nat} {t : Cl} {d : Int} (h : l[k]? = some t) (h1 : t.fr ≤ d) (h2 : d ≤ t.til) (h3 : t.kind = 2) : (actL l d).any pCtl = true :=
  List.any_eq_true.2 ⟨t, mem_actL h h1 h2, by simp [pCtl, h3]⟩
set_option linter.unusedSimpArgs false in
set_option maxHeartbeats 4000000 in
set_option maxRecDepth 100000 in
theorem refShown_any (k : Int) (B : Option Addr) (cb : Nat) (os : List Int) (A : Option Addr) (c : Nat) (l : List Cl) (d : Int) (w : World) (hB : SI w B os) (hos : os.length ≤ 1000000) (hA : SC w A l) (hl : l.length ≤ 1000000) :
    Calls Try.prog 58 #[.agg #[.int .i64 k, .slice B os.length cb], .slice A l.length c, .int .i64 d] w fun e w' => e = .returned (.bool (shownD k os l d)) ∧ Below w.heap.size w w' := by
  have hb0 := (Below.refl w.heap.size w).alloc (Nat.le_refl _) (.cells #[.int .i64 k, .slice B os.length cb] 28)
  have hV := Bk.new w 28 #[.int .i64 k, .slice B os.length cb]
  have v0 : (w.alloc (.cells #[.int .i64 k, .slice B os.length cb] 28)).cell? ⟨w.heap.size, 0, none⟩ = some (.int .i64 k) := hV.cell 0
  have HV := Lib.hid hV
  have HA := Lib.hid (SC.below hA hb0)
  have HI := Lib.hid (SI.below hB hb0)
  have HB := Lib.hid hb0
  have HZ := Lib.hid (show w.heap.size ≤ (w.alloc (.cells #[.int .i64 k, .slice B os.length cb] 28)).heap.size from by simp)
  clear hA hB hV hb0
  by_cases hk : k = 2
  · subst hk
    have HS := Lib.hid (show shownD 2 os l d = (actL l d).any pCtl from by unfold shownD shownL; exact if_pos rfl)
    go_enter Try.func58, Try.ntmps58
    go_wp2_with fail
    generalize w.alloc (.cells #[.int .i64 2, .slice B os.length cb] 28) = W0 at *
    clear v0 HV HI
    go_loop [7] (fun i => ∃ j : Nat, j ≤ l.length ∧ i = .int .i64 (j : Int) ∧ Hid ((actL (l.take j) d).any pCtl = false)) (fun i => l.length - (intOf i).toNat)
    case atStart => exact ⟨0, by omega, rfl, Lib.hid rfl⟩
    case round =>
      obtain ⟨j, hj, rfl, HN⟩ := hrel
      by_cases hlt : j < l.length
      · obtain ⟨b, of_, t, hAe, c0, c1, c2, c3, c4, hi⟩ := HA.out.get (k := j) hlt
        have HX := Lib.hid (actL_next d hi.out)
        rw [hAe]
        clear hAe
        by_cases h3 : t.kind = 2
        · have b3 : (t.kind == 2) = true := by simp [h3]
          by_cases h1 : t.fr ≤ d
          · by_cases h2 : d ≤ t.til
            · have HD := Lib.hid (ctl_yes hi.out h1 h2 h3)
              clear HX hi h3
              go_wp2_with fail
              go_ret
              exact ⟨by rw [HS.out, HD.out]; rfl, HB.out⟩
            · rw [inB_false (by omega)] at HX
              have HX2 := Lib.hid (show actL (l.take (j + 1)) d = actL (l.take j) d from HX.out)
              clear HX hi h3
              go_wp2_with fail
              go_round
              case rel => exact ⟨j + 1, by omega, by go_num, Lib.hid (by rw [HX2.out]; exact HN.out)⟩
              case measure => simp [intOf]; omega
          · rw [inB_false (by omega)] at HX
            have HX2 := Lib.hid (show actL (l.take (j + 1)) d = actL (l.take j) d from HX.out)
            clear HX hi h3
            go_wp2_with fail
            go_round
            case rel => exact ⟨j + 1, by omega, by go_num, Lib.hid (by rw [HX2.out]; exact HN.out)⟩
            case measure => simp [intOf]; omega
        · have b3 : (t.kind == 2) = false := by simp [h3]
          have HX2 := Lib.hid (show (actL (l.take (j + 1)) d).any pCtl = false from by
            rw [HX.out]
            split
            · rw [List.any_append, HN.out]; simp [pCtl, h3]
            · exact HN.out)
          clear HX hi h3
          go_wp2_with fail
          go_round
          case rel => exact ⟨j + 1, by omega, by go_num, HX2⟩
          case measure => simp [intOf]; omega
      · obtain rfl : j = l.length := by omega
        have HN2 := Lib.hid (show (actL l d).any pCtl = false from by have := HN.out; rw [List.take_length] at this; exact this)
        clear HN
        go_wp2_with fail
        go_ret
        exact ⟨by rw [HS.out, HN2.out]; rfl, HB.out⟩
  · have HS := Lib.hid (show shownD k os l d = firstS (actL l d) os from by unfold shownD shownL; exact if_neg hk)
    rw [HS.out]
    have hk2 : (k == 2) = false := by simp [hk]
    clear hk HS
    go_enter Try.func58, Try.ntmps58
    go_wp2_with fail
    generalize w.alloc (.cells #[.int .i64 k, .slice B os.length cb] 28) = W0 at *
    have HAf := Lib.hid (fun (W : World) (h : Below W0.heap.size W0 W) => (show SC W A l from HA.out.below h))
    have HIf := Lib.hid (fun (W : World) (h : Below W0.heap.size W0 W) => (show SI W B os from HI.out.below h))
    clear v0 HA HI
    go_loopw [8] (fun i wr => ∃ j : Nat, j ≤ os.length ∧ i = .int .i64 (j : Int) ∧ Hid (firstS (actL l d) os = firstS (actL l d) (os.drop j)) ∧ Hid (Below W0.heap.size W0 wr)) (fun i _ => os.length - (intOf i).toNat)
    case atStart => exact ⟨0, by omega, rfl, Lib.hid rfl, Lib.hid (Below.refl _ _)⟩
    case round =>
      obtain ⟨j, hj, rfl, HF, HBr⟩ := hrel
      have v1 : wr.cell? ⟨w.heap.size, 1, none⟩ = some (.slice B os.length cb) := (HV.out.below HBr.out HV.out.lt).cell 1
      by_cases hlt : j < os.length
      · obtain ⟨b, of_, o, hBe, c0, hi⟩ := (HIf.out wr HBr.out).get (k := j) hlt
        have HX := Lib.hid (fun W h => refSays_any o A c l d W (HAf.out W h) hl)
        have HF1 := Lib.hid (HF.out.trans (firstS_at (L := actL l d) hi.out))
        rw [hBe] at v1
        rw [hBe]
        clear hBe hi HF
        rcases saysL_3 o (actL l d) with hs | hs | hs
        · rw [hs] at HX HF1
          have HF2 := Lib.hid (show firstS (actL l d) os = false from HF1.out)
          clear hs HF1
          go_wp2_with fail
          refine (HX.out _ HBr.out).mono ?_
          rintro e w1 ⟨rfl, hb⟩
          have HB1 := Lib.hid (HB.out.trans ((HBr.out.trans (hb.mono HBr.out.size)).mono HZ.out))
          clear hb HX c0
          go_wp2_with fail
          go_ret
          exact ⟨by rw [HF2.out]; rfl, HB1.out⟩
        · rw [hs] at HX HF1
          have HF2 := Lib.hid (show firstS (actL l d) os = firstS (actL l d) (os.drop (j + 1)) from HF1.out)
          clear hs HF1
          go_wp2_with fail
          refine (HX.out _ HBr.out).mono ?_
          rintro e w1 ⟨rfl, hb⟩
          have HB1 := Lib.hid (HBr.out.trans (hb.mono HBr.out.size))
          clear hb HX c0
          go_wp2_with fail
          go_roundw
          case rel => exact ⟨j + 1, by omega, by go_num, HF2, HB1⟩
          case measure => simp [intOf]; omega
        · rw [hs] at HX HF1
          have HF2 := Lib.hid (show firstS (actL l d) os = true from HF1.out)
          clear hs HF1
          go_wp2_with fail
          refine (HX.out _ HBr.out).mono ?_
          rintro e w1 ⟨rfl, hb⟩
          have HB1 := Lib.hid (HB.out.trans ((HBr.out.trans (hb.mono HBr.out.size)).mono HZ.out))
          clear hb HX c0
          go_wp2_with fail
          go_ret
          exact ⟨by rw [HF2.out]; rfl, HB1.out⟩
      · have HF2 := Lib.hid (show firstS (actL l d) os = false from by rw [HF.out, List.drop_of_length_le (by omega)]; rfl)
        have HB1 := Lib.hid (HB.out.trans (HBr.out.mono HZ.out))
        clear HF HBr
        go_wp2_with fail
        go_ret
        exact ⟨by rw [HF2.out]; rfl, HB1.out⟩
end Go.Proofs.Ytgeciimakjfnfaa
