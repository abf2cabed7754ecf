import Derived.Test.YtgeciimakjfnfaaC15
namespace Go.Proofs.Ytgeciimakjfnfaa
open Go.RowKit Go.Maps

def badO (x : Int) : Bool := !inB x 0 63
theorem badO_any (x : Int) (w : World) : Calls Try.prog 43 #[.int .i64 x] w fun e w' => e = .returned (.bool (badO x)) ∧ w = w' := by
  have H := Lib.hid (show badO x = !inB x 0 63 from rfl)
  go_enter Try.func43, Try.ntmps43
  go_wp2_with fail
  refine (isOffice_any x _).mono ?_
  rintro e w1 ⟨rfl, rfl⟩
  go_wp2_with fail
  go_ret
  exact ⟨ret_bool (by rw [H.out]), rfl⟩
/-- The index of the first element that a predicate holds of, or -1. -/
def indexI (p : Int → Bool) : List Int → Int
  | [] => -1
  | x :: zs => if p x then 0 else if indexI p zs < 0 then -1 else indexI p zs + 1
theorem indexI_none {p : Int → Bool} : ∀ {zs : List Int}, (∀ x ∈ zs, p x = false) → indexI p zs = -1
  | [], _ => rfl
  | x :: zs, h => by
    rw [indexI, h x (by simp), indexI_none (zs := zs) fun y hy => h y (by simp [hy])]; simp
theorem indexI_some {p : Int → Bool} : ∀ {zs : List Int} {k : Nat} {x : Int}, zs[k]? = some x → p x = true → (∀ j y, j < k → zs[j]? = some y → p y = false) → indexI p zs = k
  | [], k, x, h, _, _ => by simp at h
  | z :: zs, 0, x, h, hp, _ => by
    simp at h; subst h; rw [indexI, if_pos hp]; rfl
  | z :: zs, k + 1, x, h, hp, hn => by
    have h0 := hn 0 z (by omega) rfl
    have ih := indexI_some (zs := zs) (k := k) (x := x) (by simpa using h) hp fun j y hj hy => hn (j + 1) y (by omega) (by simpa using hy)
    rw [indexI, h0, ih]
    simp
    omega
theorem indexI_nonneg {p : Int → Bool} (zs : List Int) : decide (0 ≤ indexI p zs) = zs.any p := by
  induction zs with
  | nil => simp [indexI]
  | cons x zs ih =>
    rw [List.any_cons, ← ih, indexI]
    by_cases hp : p x
    · simp [hp]
    · simp only [hp, Bool.false_eq_true, if_false, Bool.false_or]
      by_cases h : indexI p zs < 0
      · rw [if_pos h]; simp; omega
      · rw [if_neg h]; simp; omega
set_option maxHeartbeats 1000000 in
theorem indexFunc_any (A : Option Addr) (c : Nat) (zs : List Int) (w : World) (hA : SI w A zs) (hl : zs.length ≤ 4611686018427387904) :
    Calls Try.prog 65 #[.slice A zs.length c, .func (.func 43) #[] #[]] w fun e w' => e = .returned (.int .i64 (indexI badO zs)) ∧ w = w' := by
  go_enter Try.func65, Try.ntmps65
  go_wp2
  go_loop [8] (fun i => ∃ k : Nat, k ≤ zs.length ∧ i = .int .i64 k ∧ Hid (∀ j y, j < k → zs[j]? = some y → badO y = false)) (fun i => zs.length - (intOf i).toNat)
  case atStart => exact ⟨0, by omega, rfl, (fun j _ hj _ => by omega)⟩
  case round =>
    obtain ⟨k, hk, rfl, hall⟩ := hrel
    by_cases hlt : k < zs.length
    · obtain ⟨b1, o1, x, rfl, hc1, hx⟩ := hA.get (k := k) hlt
      go_wp2_with fail
      refine (badO_any x _).mono ?_
      rintro e w' ⟨rfl, rfl⟩
      cases hp : badO x
      · go_wp2_with fail
        go_round
        case rel =>
          refine ⟨k + 1, by omega, by go_num, fun j y hj hy => ?_⟩
          by_cases e : j = k
          · subst e
            have := hx.out
            rw [hy] at this
            injection this with this
            subst this
            exact hp
          · exact hall.out j y (by omega) hy
        case measure => simp [intOf]; omega
      · go_wp2_with fail
        go_ret
        exact ⟨ret_int (indexI_some hx.out hp hall.out).symm, rfl⟩
    · obtain rfl : k = zs.length := by omega
      go_wp2
      go_ret
      exact ⟨ret_int (indexI_none fun x hx => by
        obtain ⟨j, hj, e⟩ := List.getElem_of_mem hx
        exact hall.out j x hj (by rw [List.getElem?_eq_getElem hj, e])).symm, rfl⟩
set_option maxHeartbeats 400000 in
theorem containsFunc_any (A : Option Addr) (c : Nat) (zs : List Int) (w : World) (hA : SI w A zs) (hl : zs.length ≤ 4611686018427387904) :
    Calls Try.prog 42 #[.slice A zs.length c, .func (.func 43) #[] #[]] w fun e w' => e = .returned (.bool (zs.any badO)) ∧ w = w' := by
  have h := indexFunc_any A c zs w hA hl
  have H := Lib.hid h
  clear h
  go_enter Try.func42, Try.ntmps42
  go_wp2_with fail
  refine H.out.mono ?_
  rintro e w' ⟨rfl, rfl⟩
  go_wp2_with fail
  go_ret
  exact ⟨ret_bool (indexI_nonneg zs), rfl⟩
set_option maxHeartbeats 1000000 in
theorem sorted_any (Bs cap : Nat) (A : Option Addr) (l : List Int) (w : World) (hBs : Bs < w.heap.size) (hc : w.cell? ⟨Bs, 0, none⟩ = some (.slice A l.length cap)) (hS : SI w A l) (hl : l.length ≤ 1000000) :
    Calls Try.prog 39 #[.func (.func 64) #[] #[.pointer (some ⟨Bs, 0, none⟩)]] w fun e w' => ∃ v, e = .returned v ∧ w'.ownsRow w.heap.size 3 1 v l.length ((srt l).map (Value.int .i64)) ∧ Below w.heap.size w w' := by
  have H := Lib.hid (collectI_any Bs cap A l w hBs hc hS hl)
  clear hc hS
  go_enter Try.func39, Try.ntmps39
  go_wp2_with fail
  refine H.out.mono ?_
  rintro e w1 ⟨v, rfl, hown, hb⟩
  have HO := Lib.hid hown
  have HB := Lib.hid hb
  clear hown hb H
  go_wp2_with fail
  refine (sortI_any HO.out hl).mono ?_
  rintro e w2 ⟨rfl, hown, hg⟩
  have HO2 := Lib.hid hown
  have HB2 := Lib.hid (HB.out.grown hg HB.out.size (fun q hq => (HO.out.lt q hq).1))
  clear hown hg
  go_wp2_with fail
  go_ret
  exact ⟨v, rfl, HO2.out, HB2.out⟩

/-- How many offices a view of a kind has. -/
def lenOK (k : Int) (n : Nat) : Bool := decide (k = 0 ∧ n = 1 ∨ k = 1 ∧ 1 ≤ n ∧ n ≤ 8 ∨ k = 2 ∧ n = 0)
/-- The error of a view. -/
def vwE (k : Int) (os : List Int) : Int := if lenOK k os.length = true ∧ os.Nodup ∧ os.any badO = false then 0 else 1
theorem vwE_len {k : Int} {os : List Int} (h : lenOK k os.length = false) : vwE k os = 1 := if_neg fun q => by rw [h] at q; cases q.1
theorem vwE_dup {k : Int} {os : List Int} (h : ¬ os.Nodup) : vwE k os = 1 := if_neg fun q => h q.2.1
theorem vwE_bad {k : Int} {os : List Int} (h : os.any badO = true) : vwE k os = 1 := if_neg fun q => by rw [h] at q; cases q.2.2
theorem vwE_ok {k : Int} {os : List Int} (h1 : lenOK k os.length = true) (h2 : os.Nodup) (h3 : os.any badO = false) : vwE k os = 0 := if_pos ⟨h1, h2, h3⟩
theorem vwE_01 (k : Int) (os : List Int) : vwE k os = 0 ∨ vwE k os = 1 := by unfold vwE; split <;> simp

set_option linter.unusedSimpArgs false in
set_option maxHeartbeats 8000000 in
set_option maxRecDepth 100000 in
theorem validView_any (k : Int) (B : Option Addr) (cb : Nat) (os : List Int) (w : World) (hB : SI w B os) (hos : os.length ≤ 1000000) :
    Calls Try.prog 16 #[.agg #[.int .i64 k, .slice B os.length cb]] w fun e w' => e = .returned (.int .i64 (vwE k os)) ∧ Below w.heap.size w w' := by
  have hb0 := (Below.refl w.heap.size w).alloc (Nat.le_refl _) (.cells #[.int .i64 k, .slice B os.length cb] 28)
  have HV := Lib.hid (Bk.new w 28 #[.int .i64 k, .slice B os.length cb])
  have HI := Lib.hid (SI.below hB hb0)
  have HB := Lib.hid hb0
  clear hb0 hB
  by_cases hk : k = 0 ∨ k = 1 ∨ k = 2
  · rcases hk with rfl | rfl | rfl
    · have v0 : (w.alloc (.cells #[.int .i64 0, .slice B os.length cb] 28)).cell? ⟨w.heap.size, 0, none⟩ = some (.int .i64 0) := HV.out.cell 0
      have v1 : (w.alloc (.cells #[.int .i64 0, .slice B os.length cb] 28)).cell? ⟨w.heap.size, 1, none⟩ = some (.slice B os.length cb) := HV.out.cell 1
      have HZ := Lib.hid (show w.heap.size < (w.alloc (.cells #[.int .i64 0, .slice B os.length cb] 28)).heap.size from by simp)
      go_enter Try.func16, Try.ntmps16
      go_wp2_with fail
      refine (valuesI_any _ _ _ _).mono ?_
      generalize w.alloc (.cells #[.int .i64 0, .slice B os.length cb] 28) = W0 at *
      rintro e w1 ⟨rfl, rfl⟩
      have hbb := (Below.refl W0.heap.size W0).alloc (Nat.le_refl _) (.cells #[.slice B os.length cb] 22)
      have HF := Lib.hid (sorted_any W0.heap.size cb B os _ (by simp) ((Bk.new W0 22 #[.slice B os.length cb]).cell 0) (SI.below HI.out hbb) hos)
      have HV1 := Lib.hid (HV.out.below hbb HV.out.lt)
      have HB1 := Lib.hid (HB.out.trans (hbb.mono HB.out.size))
      have HIf := Lib.hid (SI.below HI.out hbb)
      have HZ1 := Lib.hid (show w.heap.size < (W0.alloc (.cells #[.slice B os.length cb] 22)).heap.size from by have := HZ.out; simp; omega)
      clear hbb v0 v1 HV HB HI HZ
      go_wp2_with fail
      refine HF.out.mono ?_
      generalize W0.alloc (.cells #[.slice B os.length cb] 22) = W1 at *
      rintro e w2 ⟨v, rfl, hown, hb⟩
      obtain ⟨N, hN⟩ : ∃ q, Hid (w.heap.size = q) := ⟨_, Lib.hid rfl⟩
      obtain ⟨M, hM⟩ : ∃ q, Hid (W1.heap.size = q) := ⟨_, Lib.hid rfl⟩
      obtain ⟨m, hm⟩ : ∃ q, Hid (os.length = q) := ⟨_, Lib.hid rfl⟩
      obtain ⟨m2, hm2⟩ : ∃ q, Hid ((cmpZ (srt os)).length = q) := ⟨_, Lib.hid rfl⟩
      have HV2 := Lib.hid (show Bk w2.drew N 28 #[.int .i64 0, .slice B m cb] from hN.out ▸ hm.out ▸ HV1.out.below hb.drew HV1.out.lt)
      have HB2 := Lib.hid (show Below w.heap.size w w2.drew from (HB1.out.trans (hb.mono HB1.out.size)).drew)
      have HIb := Lib.hid (fun (W : World) (h : Below M w2.drew W) => show SI W B os from SI.below HIf.out (hM.out.symm ▸ (show Below M W1 w2.drew from hM.out ▸ hb.drew).trans h))
      have HMX := Lib.hid (show M ≤ w2.drew.heap.size from by rw [← hM.out]; exact hb.drew.size)
      have HNB := Lib.hid (show N < M from by rw [← hN.out, ← hM.out]; exact HZ1.out)
      obtain ⟨A1, c1, rfl⟩ := own_slice hown
      rw [hm.out, hM.out] at hown
      have HO2 := Lib.hid (show w2.drew.ownsRow M 3 1 (.slice A1 m c1) m ((srt os).map (Value.int .i64)) from own_qt hown ⟨1, rfl⟩)
      have HC := Lib.hid (fun (W : World) (h : W.ownsRow M 3 1 (.slice A1 m c1) m ((srt os).map (Value.int .i64))) => compactI_any h (by rw [← hm.out]; exact hos))
      rw [hm2.out] at HC
      have hmd := cmpZ_lt (l := os)
      rw [hm.out, hm2.out] at hmd
      have HMd := Lib.hid hmd
      have hml : m ≤ 1000000 := by rw [← hm.out]; exact hos
      simp only [hN.out, hm.out]
      clear hown hb HV1 HB1 hmd HIf HZ1 HF
      by_cases hin : 1 ≤ (m : Int) ∧ (m : Int) ≤ 1
      · have HIn := Lib.hid (fun W => inB_true hin ▸ in_any (m : Int) 1 1 W)
        have HLo := Lib.hid (show lenOK 0 os.length = true from by unfold lenOK; rw [hm.out]; exact decide_eq_true (by omega))
        clear hin
        by_cases hlt : m2 < m
        · have HE := Lib.hid (vwE_dup (k := 0) (HMd.out.1 hlt))
          go_upto_region 10 with fail
          refine wp_region_noPanic ?_
          refine region_H (S := fun W => W.cell? ⟨N, 1, none⟩ = some (.slice B m cb)) (by kernel_rfl) ?_
          change wpH _ _ _ _ 15 _ _ w2.drew
          generalize w2.drew = X0 at *
          refine H_takeD (k := 0) (v := .slice A1 m c1) (d := some 18) rfl rfl (by decide +kernel) (fun _ _ _ h => h) (Or.inl ⟨by rfl, fun W hW => by go_simp⟩) (HV2.out.cell 1) ?_
          try simp only [Act.put, List.setIfInBounds_toArray, List.set_cons_zero, List.set_cons_succ]
          refine H_takeD (k := 1) (v := .int .i64 (m : Int)) (d := some 19) rfl rfl (by decide +kernel) (fun _ _ _ h => h) (Or.inl ⟨by rfl, fun W hW => by go_simp⟩) (HV2.out.cell 1) ?_
          try simp only [Act.put, List.setIfInBounds_toArray, List.set_cons_zero, List.set_cons_succ]
          refine H_takeD (k := 2) (v := .int .i64 1) (d := some 20) rfl rfl (by decide +kernel) (fun _ _ _ h => h) (Or.inl ⟨by rfl, fun W hW => by go_simp⟩) (HV2.out.cell 1) ?_
          try simp only [Act.put, List.setIfInBounds_toArray, List.set_cons_zero, List.set_cons_succ]
          refine H_takeD (k := 3) (v := .int .i64 1) (d := some 21) rfl rfl (by decide +kernel) (fun _ _ _ h => h) (Or.inl ⟨by rfl, fun W hW => by go_simp⟩) (HV2.out.cell 1) ?_
          try simp only [Act.put, List.setIfInBounds_toArray, List.set_cons_zero, List.set_cons_succ]
          refine H_one (i := 4) (by decide +kernel) (H_step rfl rfl (fun K hK4 => ?_))
          have hK4 := Lib.hid hK4
          go_simp
          go_at_call 36
          refine (HIn.out _).mono ?_
          rintro e wv ⟨rfl, rfl⟩
          refine hK4.out _ _ (HV2.out.cell 1) ?_
          try simp only [Act.put, List.setIfInBounds_toArray, List.set_cons_zero, List.set_cons_succ]
          refine H_takeD (k := 5) (v := .bool false) (d := some 23) rfl rfl (by decide +kernel) (fun _ _ _ h => h) (Or.inl ⟨by rfl, fun W hW => by go_simp⟩) (HV2.out.cell 1) ?_
          try simp only [Act.put, List.setIfInBounds_toArray, List.set_cons_zero, List.set_cons_succ]
          refine H_takeD (k := 6) (v := .bool false) (d := some 24) rfl rfl (by decide +kernel) (fun _ _ _ h => h) (Or.inl ⟨by rfl, fun W hW => by go_simp⟩) (HV2.out.cell 1) ?_
          try simp only [Act.put, List.setIfInBounds_toArray, List.set_cons_zero, List.set_cons_succ]
          refine H_takeD (k := 7) (v := .slice A1 m c1) (d := some 25) rfl rfl (by decide +kernel) (fun _ _ _ h => h) (Or.inl ⟨by simp [Region.wanted, yielded], fun W hW => by go_simp⟩) (HV2.out.cell 1) ?_
          try simp only [Act.put, List.setIfInBounds_toArray, List.set_cons_zero, List.set_cons_succ]
          refine H_takeD (k := 10) (v := .pointer (some ⟨N, 1, none⟩)) (d := some 28) rfl rfl (by decide +kernel) (fun _ _ _ h => h) (Or.inl ⟨by simp [Region.wanted, yielded], fun W hW => by go_simp⟩) (HV2.out.cell 1) ?_
          try simp only [Act.put, List.setIfInBounds_toArray, List.set_cons_zero, List.set_cons_succ]
          refine H_takeD (k := 11) (v := .slice B m cb) (d := some 29) rfl rfl (by decide +kernel) (fun _ _ _ h => h) (Or.inl ⟨by simp [Region.wanted, yielded], fun W hW => by go_simp⟩) (HV2.out.cell 1) ?_
          try simp only [Act.put, List.setIfInBounds_toArray, List.set_cons_zero, List.set_cons_succ]
          refine H_takeD (k := 12) (v := .int .i64 (m : Int)) (d := some 30) rfl rfl (by decide +kernel) (fun _ _ _ h => h) (Or.inl ⟨by simp [Region.wanted, yielded], fun W hW => by go_simp⟩) (HV2.out.cell 1) ?_
          try simp only [Act.put, List.setIfInBounds_toArray, List.set_cons_zero, List.set_cons_succ]
          refine H_one (i := 8) (by decide +kernel) (H_stepg rfl (by simp [Region.wanted, yielded]) (fun K hK11 => ?_))
          have hK11 := Lib.hid hK11
          go_simp
          go_at_call 41
          refine (HC.out X0 HO2.out).mono ?_
          rintro e wz ⟨v2, rfl, hown, hg⟩
          obtain ⟨A2, c2, rfl⟩ := own_slice hown
          have HV3 := Lib.hid (HV2.out.grown hg (fun e => by have := (HO2.out.lt N e.symm).1; have := HNB.out; omega))
          have HB3 := Lib.hid (HB2.out.grown hg HB2.out.size (fun q hq => by have := (HO2.out.lt q hq).1; have := HNB.out; have := hN.out; omega))
          have HI3 := Lib.hid (HIb.out wz (by have := hg; exact (Below.refl M X0).grown hg HMX.out (fun q hq => (HO2.out.lt q hq).1)))
          clear hown hg
          refine hK11.out _ _ (HV3.out.cell 1) ?_
          try simp only [Act.put, List.setIfInBounds_toArray, List.set_cons_zero, List.set_cons_succ]
          refine H_takeD (k := 9) (v := .int .i64 (m2 : Int)) (d := some 27) rfl rfl (by decide +kernel) (fun _ _ _ h => h) (Or.inl ⟨by simp [Region.wanted, yielded], fun W hW => by go_simp⟩) (HV3.out.cell 1) ?_
          try simp only [Act.put, List.setIfInBounds_toArray, List.set_cons_zero, List.set_cons_succ]
          refine H_takeD (k := 13) (v := .bool true) (d := some 31) rfl rfl (by decide +kernel) (fun _ _ _ h => h) (Or.inl ⟨by simp [Region.wanted, yielded], fun W hW => by go_simp⟩) (HV3.out.cell 1) ?_
          try simp only [Act.put, List.setIfInBounds_toArray, List.set_cons_zero, List.set_cons_succ]
          refine H_takeD (k := 14) (v := .bool true) (d := some 32) rfl rfl (by decide +kernel) (fun _ _ _ h => h) (Or.inl ⟨by rfl, fun W hW => by go_simp⟩) (HV3.out.cell 1) ?_
          try simp only [Act.put, List.setIfInBounds_toArray, List.set_cons_zero, List.set_cons_succ]
          refine H_end (by decide +kernel) (NoPanic.normal ?_)
          try simp only [Act.put, List.setIfInBounds_toArray, List.set_cons_zero, List.set_cons_succ]
          go_wp2_with fail
          go_ret
          exact ⟨by rw [HE.out]; rfl, HB3.out⟩
        · have HNd := Lib.hid (show os.Nodup from Classical.byContradiction fun h => hlt (HMd.out.2 h))
          go_upto_region 10 with fail
          refine wp_region_noPanic ?_
          refine region_H (S := fun W => W.cell? ⟨N, 1, none⟩ = some (.slice B m cb)) (by kernel_rfl) ?_
          change wpH _ _ _ _ 15 _ _ w2.drew
          generalize w2.drew = X0 at *
          refine H_takeD (k := 0) (v := .slice A1 m c1) (d := some 18) rfl rfl (by decide +kernel) (fun _ _ _ h => h) (Or.inl ⟨by rfl, fun W hW => by go_simp⟩) (HV2.out.cell 1) ?_
          try simp only [Act.put, List.setIfInBounds_toArray, List.set_cons_zero, List.set_cons_succ]
          refine H_takeD (k := 1) (v := .int .i64 (m : Int)) (d := some 19) rfl rfl (by decide +kernel) (fun _ _ _ h => h) (Or.inl ⟨by rfl, fun W hW => by go_simp⟩) (HV2.out.cell 1) ?_
          try simp only [Act.put, List.setIfInBounds_toArray, List.set_cons_zero, List.set_cons_succ]
          refine H_takeD (k := 2) (v := .int .i64 1) (d := some 20) rfl rfl (by decide +kernel) (fun _ _ _ h => h) (Or.inl ⟨by rfl, fun W hW => by go_simp⟩) (HV2.out.cell 1) ?_
          try simp only [Act.put, List.setIfInBounds_toArray, List.set_cons_zero, List.set_cons_succ]
          refine H_takeD (k := 3) (v := .int .i64 1) (d := some 21) rfl rfl (by decide +kernel) (fun _ _ _ h => h) (Or.inl ⟨by rfl, fun W hW => by go_simp⟩) (HV2.out.cell 1) ?_
          try simp only [Act.put, List.setIfInBounds_toArray, List.set_cons_zero, List.set_cons_succ]
          refine H_one (i := 4) (by decide +kernel) (H_step rfl rfl (fun K hK4 => ?_))
          have hK4 := Lib.hid hK4
          go_simp
          go_at_call 36
          refine (HIn.out _).mono ?_
          rintro e wv ⟨rfl, rfl⟩
          refine hK4.out _ _ (HV2.out.cell 1) ?_
          try simp only [Act.put, List.setIfInBounds_toArray, List.set_cons_zero, List.set_cons_succ]
          refine H_takeD (k := 5) (v := .bool false) (d := some 23) rfl rfl (by decide +kernel) (fun _ _ _ h => h) (Or.inl ⟨by rfl, fun W hW => by go_simp⟩) (HV2.out.cell 1) ?_
          try simp only [Act.put, List.setIfInBounds_toArray, List.set_cons_zero, List.set_cons_succ]
          refine H_takeD (k := 6) (v := .bool false) (d := some 24) rfl rfl (by decide +kernel) (fun _ _ _ h => h) (Or.inl ⟨by rfl, fun W hW => by go_simp⟩) (HV2.out.cell 1) ?_
          try simp only [Act.put, List.setIfInBounds_toArray, List.set_cons_zero, List.set_cons_succ]
          refine H_takeD (k := 7) (v := .slice A1 m c1) (d := some 25) rfl rfl (by decide +kernel) (fun _ _ _ h => h) (Or.inl ⟨by simp [Region.wanted, yielded], fun W hW => by go_simp⟩) (HV2.out.cell 1) ?_
          try simp only [Act.put, List.setIfInBounds_toArray, List.set_cons_zero, List.set_cons_succ]
          refine H_takeD (k := 10) (v := .pointer (some ⟨N, 1, none⟩)) (d := some 28) rfl rfl (by decide +kernel) (fun _ _ _ h => h) (Or.inl ⟨by simp [Region.wanted, yielded], fun W hW => by go_simp⟩) (HV2.out.cell 1) ?_
          try simp only [Act.put, List.setIfInBounds_toArray, List.set_cons_zero, List.set_cons_succ]
          refine H_takeD (k := 11) (v := .slice B m cb) (d := some 29) rfl rfl (by decide +kernel) (fun _ _ _ h => h) (Or.inl ⟨by simp [Region.wanted, yielded], fun W hW => by go_simp⟩) (HV2.out.cell 1) ?_
          try simp only [Act.put, List.setIfInBounds_toArray, List.set_cons_zero, List.set_cons_succ]
          refine H_takeD (k := 12) (v := .int .i64 (m : Int)) (d := some 30) rfl rfl (by decide +kernel) (fun _ _ _ h => h) (Or.inl ⟨by simp [Region.wanted, yielded], fun W hW => by go_simp⟩) (HV2.out.cell 1) ?_
          try simp only [Act.put, List.setIfInBounds_toArray, List.set_cons_zero, List.set_cons_succ]
          refine H_one (i := 8) (by decide +kernel) (H_stepg rfl (by simp [Region.wanted, yielded]) (fun K hK11 => ?_))
          have hK11 := Lib.hid hK11
          go_simp
          go_at_call 41
          refine (HC.out X0 HO2.out).mono ?_
          rintro e wz ⟨v2, rfl, hown, hg⟩
          obtain ⟨A2, c2, rfl⟩ := own_slice hown
          have HV3 := Lib.hid (HV2.out.grown hg (fun e => by have := (HO2.out.lt N e.symm).1; have := HNB.out; omega))
          have HB3 := Lib.hid (HB2.out.grown hg HB2.out.size (fun q hq => by have := (HO2.out.lt q hq).1; have := HNB.out; have := hN.out; omega))
          have HI3 := Lib.hid (HIb.out wz (by have := hg; exact (Below.refl M X0).grown hg HMX.out (fun q hq => (HO2.out.lt q hq).1)))
          clear hown hg
          refine hK11.out _ _ (HV3.out.cell 1) ?_
          try simp only [Act.put, List.setIfInBounds_toArray, List.set_cons_zero, List.set_cons_succ]
          refine H_takeD (k := 9) (v := .int .i64 (m2 : Int)) (d := some 27) rfl rfl (by decide +kernel) (fun _ _ _ h => h) (Or.inl ⟨by simp [Region.wanted, yielded], fun W hW => by go_simp⟩) (HV3.out.cell 1) ?_
          try simp only [Act.put, List.setIfInBounds_toArray, List.set_cons_zero, List.set_cons_succ]
          refine H_takeD (k := 13) (v := .bool false) (d := some 31) rfl rfl (by decide +kernel) (fun _ _ _ h => h) (Or.inl ⟨by simp [Region.wanted, yielded], fun W hW => by go_simp⟩) (HV3.out.cell 1) ?_
          try simp only [Act.put, List.setIfInBounds_toArray, List.set_cons_zero, List.set_cons_succ]
          refine H_takeD (k := 14) (v := .bool false) (d := some 32) rfl rfl (by decide +kernel) (fun _ _ _ h => h) (Or.inl ⟨by rfl, fun W hW => by go_simp⟩) (HV3.out.cell 1) ?_
          try simp only [Act.put, List.setIfInBounds_toArray, List.set_cons_zero, List.set_cons_succ]
          refine H_end (by decide +kernel) (NoPanic.normal ?_)
          try simp only [Act.put, List.setIfInBounds_toArray, List.set_cons_zero, List.set_cons_succ]
          have v1 : wz.cell? ⟨N, 1, none⟩ = some (.slice B m cb) := HV3.out.cell 1
          have HCf := Lib.hid (containsFunc_any B cb os wz HI3.out (by rw [hm.out]; omega))
          rw [hm.out] at HCf
          go_wp2_with fail
          refine HCf.out.mono ?_
          rintro e w5 ⟨rfl, rfl⟩
          cases hbd : os.any badO
          · have HE := Lib.hid (vwE_ok HLo.out HNd.out hbd)
            clear hbd
            go_wp2_with fail
            go_ret
            exact ⟨by rw [HE.out]; rfl, HB3.out⟩
          · have HE := Lib.hid (vwE_bad (k := 0) hbd)
            clear hbd
            go_wp2_with fail
            go_ret
            exact ⟨by rw [HE.out]; rfl, HB3.out⟩
      · have HIn := Lib.hid (fun W => inB_false hin ▸ in_any (m : Int) 1 1 W)
        have HE := Lib.hid (show vwE 0 os = 1 from vwE_len (by unfold lenOK; rw [hm.out]; exact decide_eq_false (by omega)))
        clear hin
        go_upto_region 10 with fail
        refine wp_region_noPanic ?_
        refine region_H (S := fun W => W.cell? ⟨N, 1, none⟩ = some (.slice B m cb)) (by kernel_rfl) ?_
        change wpH _ _ _ _ 15 _ _ w2.drew
        generalize w2.drew = X0 at *
        refine H_takeD (k := 0) (v := .slice A1 m c1) (d := some 18) rfl rfl (by decide +kernel) (fun _ _ _ h => h) (Or.inl ⟨by rfl, fun W hW => by go_simp⟩) (HV2.out.cell 1) ?_
        try simp only [Act.put, List.setIfInBounds_toArray, List.set_cons_zero, List.set_cons_succ]
        refine H_takeD (k := 1) (v := .int .i64 (m : Int)) (d := some 19) rfl rfl (by decide +kernel) (fun _ _ _ h => h) (Or.inl ⟨by rfl, fun W hW => by go_simp⟩) (HV2.out.cell 1) ?_
        try simp only [Act.put, List.setIfInBounds_toArray, List.set_cons_zero, List.set_cons_succ]
        refine H_takeD (k := 2) (v := .int .i64 1) (d := some 20) rfl rfl (by decide +kernel) (fun _ _ _ h => h) (Or.inl ⟨by rfl, fun W hW => by go_simp⟩) (HV2.out.cell 1) ?_
        try simp only [Act.put, List.setIfInBounds_toArray, List.set_cons_zero, List.set_cons_succ]
        refine H_takeD (k := 3) (v := .int .i64 1) (d := some 21) rfl rfl (by decide +kernel) (fun _ _ _ h => h) (Or.inl ⟨by rfl, fun W hW => by go_simp⟩) (HV2.out.cell 1) ?_
        try simp only [Act.put, List.setIfInBounds_toArray, List.set_cons_zero, List.set_cons_succ]
        refine H_one (i := 4) (by decide +kernel) (H_step rfl rfl (fun K hK4 => ?_))
        have hK4 := Lib.hid hK4
        go_simp
        go_at_call 36
        refine (HIn.out _).mono ?_
        rintro e wv ⟨rfl, rfl⟩
        refine hK4.out _ _ (HV2.out.cell 1) ?_
        try simp only [Act.put, List.setIfInBounds_toArray, List.set_cons_zero, List.set_cons_succ]
        refine H_takeD (k := 5) (v := .bool true) (d := some 23) rfl rfl (by decide +kernel) (fun _ _ _ h => h) (Or.inl ⟨by rfl, fun W hW => by go_simp⟩) (HV2.out.cell 1) ?_
        try simp only [Act.put, List.setIfInBounds_toArray, List.set_cons_zero, List.set_cons_succ]
        refine H_takeD (k := 6) (v := .bool true) (d := some 24) rfl rfl (by decide +kernel) (fun _ _ _ h => h) (Or.inl ⟨by rfl, fun W hW => by go_simp⟩) (HV2.out.cell 1) ?_
        try simp only [Act.put, List.setIfInBounds_toArray, List.set_cons_zero, List.set_cons_succ]
        refine H_takeD (k := 7) (v := undef) (d := some 25) rfl rfl (by decide +kernel) (fun _ _ _ h => h) (Or.inr ⟨by simp [Region.wanted, yielded, undef], rfl⟩) (HV2.out.cell 1) ?_
        try simp only [Act.put, List.setIfInBounds_toArray, List.set_cons_zero, List.set_cons_succ]
        refine H_takeD (k := 8) (v := undef) (d := some 26) rfl rfl (by decide +kernel) (fun _ _ _ h => h) (Or.inr ⟨by simp [Region.wanted, yielded, undef], rfl⟩) (HV2.out.cell 1) ?_
        try simp only [Act.put, List.setIfInBounds_toArray, List.set_cons_zero, List.set_cons_succ]
        refine H_takeD (k := 9) (v := undef) (d := some 27) rfl rfl (by decide +kernel) (fun _ _ _ h => h) (Or.inr ⟨by simp [Region.wanted, yielded, undef], rfl⟩) (HV2.out.cell 1) ?_
        try simp only [Act.put, List.setIfInBounds_toArray, List.set_cons_zero, List.set_cons_succ]
        refine H_takeD (k := 10) (v := undef) (d := some 28) rfl rfl (by decide +kernel) (fun _ _ _ h => h) (Or.inr ⟨by simp [Region.wanted, yielded, undef], rfl⟩) (HV2.out.cell 1) ?_
        try simp only [Act.put, List.setIfInBounds_toArray, List.set_cons_zero, List.set_cons_succ]
        refine H_takeD (k := 11) (v := undef) (d := some 29) rfl rfl (by decide +kernel) (fun _ _ _ h => h) (Or.inr ⟨by simp [Region.wanted, yielded, undef], rfl⟩) (HV2.out.cell 1) ?_
        try simp only [Act.put, List.setIfInBounds_toArray, List.set_cons_zero, List.set_cons_succ]
        refine H_takeD (k := 12) (v := undef) (d := some 30) rfl rfl (by decide +kernel) (fun _ _ _ h => h) (Or.inr ⟨by simp [Region.wanted, yielded, undef], rfl⟩) (HV2.out.cell 1) ?_
        try simp only [Act.put, List.setIfInBounds_toArray, List.set_cons_zero, List.set_cons_succ]
        refine H_takeD (k := 13) (v := undef) (d := some 31) rfl rfl (by decide +kernel) (fun _ _ _ h => h) (Or.inr ⟨by simp [Region.wanted, yielded, undef], rfl⟩) (HV2.out.cell 1) ?_
        try simp only [Act.put, List.setIfInBounds_toArray, List.set_cons_zero, List.set_cons_succ]
        refine H_takeD (k := 14) (v := .bool true) (d := some 32) rfl rfl (by decide +kernel) (fun _ _ _ h => h) (Or.inl ⟨by rfl, fun W hW => by go_simp⟩) (HV2.out.cell 1) ?_
        try simp only [Act.put, List.setIfInBounds_toArray, List.set_cons_zero, List.set_cons_succ]
        refine H_end (by decide +kernel) (NoPanic.normal ?_)
        try simp only [Act.put, List.setIfInBounds_toArray, List.set_cons_zero, List.set_cons_succ]
        go_wp2_with fail
        go_ret
        exact ⟨by rw [HE.out]; rfl, HB2.out⟩
    · have v0 : (w.alloc (.cells #[.int .i64 1, .slice B os.length cb] 28)).cell? ⟨w.heap.size, 0, none⟩ = some (.int .i64 1) := HV.out.cell 0
      have v1 : (w.alloc (.cells #[.int .i64 1, .slice B os.length cb] 28)).cell? ⟨w.heap.size, 1, none⟩ = some (.slice B os.length cb) := HV.out.cell 1
      have HZ := Lib.hid (show w.heap.size < (w.alloc (.cells #[.int .i64 1, .slice B os.length cb] 28)).heap.size from by simp)
      go_enter Try.func16, Try.ntmps16
      go_wp2_with fail
      refine (valuesI_any _ _ _ _).mono ?_
      generalize w.alloc (.cells #[.int .i64 1, .slice B os.length cb] 28) = W0 at *
      rintro e w1 ⟨rfl, rfl⟩
      have hbb := (Below.refl W0.heap.size W0).alloc (Nat.le_refl _) (.cells #[.slice B os.length cb] 22)
      have HF := Lib.hid (sorted_any W0.heap.size cb B os _ (by simp) ((Bk.new W0 22 #[.slice B os.length cb]).cell 0) (SI.below HI.out hbb) hos)
      have HV1 := Lib.hid (HV.out.below hbb HV.out.lt)
      have HB1 := Lib.hid (HB.out.trans (hbb.mono HB.out.size))
      have HIf := Lib.hid (SI.below HI.out hbb)
      have HZ1 := Lib.hid (show w.heap.size < (W0.alloc (.cells #[.slice B os.length cb] 22)).heap.size from by have := HZ.out; simp; omega)
      clear hbb v0 v1 HV HB HI HZ
      go_wp2_with fail
      refine HF.out.mono ?_
      generalize W0.alloc (.cells #[.slice B os.length cb] 22) = W1 at *
      rintro e w2 ⟨v, rfl, hown, hb⟩
      obtain ⟨N, hN⟩ : ∃ q, Hid (w.heap.size = q) := ⟨_, Lib.hid rfl⟩
      obtain ⟨M, hM⟩ : ∃ q, Hid (W1.heap.size = q) := ⟨_, Lib.hid rfl⟩
      obtain ⟨m, hm⟩ : ∃ q, Hid (os.length = q) := ⟨_, Lib.hid rfl⟩
      obtain ⟨m2, hm2⟩ : ∃ q, Hid ((cmpZ (srt os)).length = q) := ⟨_, Lib.hid rfl⟩
      have HV2 := Lib.hid (show Bk w2.drew N 28 #[.int .i64 1, .slice B m cb] from hN.out ▸ hm.out ▸ HV1.out.below hb.drew HV1.out.lt)
      have HB2 := Lib.hid (show Below w.heap.size w w2.drew from (HB1.out.trans (hb.mono HB1.out.size)).drew)
      have HIb := Lib.hid (fun (W : World) (h : Below M w2.drew W) => show SI W B os from SI.below HIf.out (hM.out.symm ▸ (show Below M W1 w2.drew from hM.out ▸ hb.drew).trans h))
      have HMX := Lib.hid (show M ≤ w2.drew.heap.size from by rw [← hM.out]; exact hb.drew.size)
      have HNB := Lib.hid (show N < M from by rw [← hN.out, ← hM.out]; exact HZ1.out)
      obtain ⟨A1, c1, rfl⟩ := own_slice hown
      rw [hm.out, hM.out] at hown
      have HO2 := Lib.hid (show w2.drew.ownsRow M 3 1 (.slice A1 m c1) m ((srt os).map (Value.int .i64)) from own_qt hown ⟨1, rfl⟩)
      have HC := Lib.hid (fun (W : World) (h : W.ownsRow M 3 1 (.slice A1 m c1) m ((srt os).map (Value.int .i64))) => compactI_any h (by rw [← hm.out]; exact hos))
      rw [hm2.out] at HC
      have hmd := cmpZ_lt (l := os)
      rw [hm.out, hm2.out] at hmd
      have HMd := Lib.hid hmd
      have hml : m ≤ 1000000 := by rw [← hm.out]; exact hos
      simp only [hN.out, hm.out]
      clear hown hb HV1 HB1 hmd HIf HZ1 HF
      by_cases hin : 1 ≤ (m : Int) ∧ (m : Int) ≤ 8
      · have HIn := Lib.hid (fun W => inB_true hin ▸ in_any (m : Int) 1 8 W)
        have HLo := Lib.hid (show lenOK 1 os.length = true from by unfold lenOK; rw [hm.out]; exact decide_eq_true (by omega))
        clear hin
        by_cases hlt : m2 < m
        · have HE := Lib.hid (vwE_dup (k := 1) (HMd.out.1 hlt))
          go_upto_region 10 with fail
          refine wp_region_noPanic ?_
          refine region_H (S := fun W => W.cell? ⟨N, 1, none⟩ = some (.slice B m cb)) (by kernel_rfl) ?_
          change wpH _ _ _ _ 15 _ _ w2.drew
          generalize w2.drew = X0 at *
          refine H_takeD (k := 0) (v := .slice A1 m c1) (d := some 18) rfl rfl (by decide +kernel) (fun _ _ _ h => h) (Or.inl ⟨by rfl, fun W hW => by go_simp⟩) (HV2.out.cell 1) ?_
          try simp only [Act.put, List.setIfInBounds_toArray, List.set_cons_zero, List.set_cons_succ]
          refine H_takeD (k := 1) (v := .int .i64 (m : Int)) (d := some 19) rfl rfl (by decide +kernel) (fun _ _ _ h => h) (Or.inl ⟨by rfl, fun W hW => by go_simp⟩) (HV2.out.cell 1) ?_
          try simp only [Act.put, List.setIfInBounds_toArray, List.set_cons_zero, List.set_cons_succ]
          refine H_takeD (k := 2) (v := .int .i64 1) (d := some 20) rfl rfl (by decide +kernel) (fun _ _ _ h => h) (Or.inl ⟨by rfl, fun W hW => by go_simp⟩) (HV2.out.cell 1) ?_
          try simp only [Act.put, List.setIfInBounds_toArray, List.set_cons_zero, List.set_cons_succ]
          refine H_takeD (k := 3) (v := .int .i64 8) (d := some 21) rfl rfl (by decide +kernel) (fun _ _ _ h => h) (Or.inl ⟨by rfl, fun W hW => by go_simp⟩) (HV2.out.cell 1) ?_
          try simp only [Act.put, List.setIfInBounds_toArray, List.set_cons_zero, List.set_cons_succ]
          refine H_one (i := 4) (by decide +kernel) (H_step rfl rfl (fun K hK4 => ?_))
          have hK4 := Lib.hid hK4
          go_simp
          go_at_call 36
          refine (HIn.out _).mono ?_
          rintro e wv ⟨rfl, rfl⟩
          refine hK4.out _ _ (HV2.out.cell 1) ?_
          try simp only [Act.put, List.setIfInBounds_toArray, List.set_cons_zero, List.set_cons_succ]
          refine H_takeD (k := 5) (v := .bool false) (d := some 23) rfl rfl (by decide +kernel) (fun _ _ _ h => h) (Or.inl ⟨by rfl, fun W hW => by go_simp⟩) (HV2.out.cell 1) ?_
          try simp only [Act.put, List.setIfInBounds_toArray, List.set_cons_zero, List.set_cons_succ]
          refine H_takeD (k := 6) (v := .bool false) (d := some 24) rfl rfl (by decide +kernel) (fun _ _ _ h => h) (Or.inl ⟨by rfl, fun W hW => by go_simp⟩) (HV2.out.cell 1) ?_
          try simp only [Act.put, List.setIfInBounds_toArray, List.set_cons_zero, List.set_cons_succ]
          refine H_takeD (k := 7) (v := .slice A1 m c1) (d := some 25) rfl rfl (by decide +kernel) (fun _ _ _ h => h) (Or.inl ⟨by simp [Region.wanted, yielded], fun W hW => by go_simp⟩) (HV2.out.cell 1) ?_
          try simp only [Act.put, List.setIfInBounds_toArray, List.set_cons_zero, List.set_cons_succ]
          refine H_takeD (k := 10) (v := .pointer (some ⟨N, 1, none⟩)) (d := some 28) rfl rfl (by decide +kernel) (fun _ _ _ h => h) (Or.inl ⟨by simp [Region.wanted, yielded], fun W hW => by go_simp⟩) (HV2.out.cell 1) ?_
          try simp only [Act.put, List.setIfInBounds_toArray, List.set_cons_zero, List.set_cons_succ]
          refine H_takeD (k := 11) (v := .slice B m cb) (d := some 29) rfl rfl (by decide +kernel) (fun _ _ _ h => h) (Or.inl ⟨by simp [Region.wanted, yielded], fun W hW => by go_simp⟩) (HV2.out.cell 1) ?_
          try simp only [Act.put, List.setIfInBounds_toArray, List.set_cons_zero, List.set_cons_succ]
          refine H_takeD (k := 12) (v := .int .i64 (m : Int)) (d := some 30) rfl rfl (by decide +kernel) (fun _ _ _ h => h) (Or.inl ⟨by simp [Region.wanted, yielded], fun W hW => by go_simp⟩) (HV2.out.cell 1) ?_
          try simp only [Act.put, List.setIfInBounds_toArray, List.set_cons_zero, List.set_cons_succ]
          refine H_one (i := 8) (by decide +kernel) (H_stepg rfl (by simp [Region.wanted, yielded]) (fun K hK11 => ?_))
          have hK11 := Lib.hid hK11
          go_simp
          go_at_call 41
          refine (HC.out X0 HO2.out).mono ?_
          rintro e wz ⟨v2, rfl, hown, hg⟩
          obtain ⟨A2, c2, rfl⟩ := own_slice hown
          have HV3 := Lib.hid (HV2.out.grown hg (fun e => by have := (HO2.out.lt N e.symm).1; have := HNB.out; omega))
          have HB3 := Lib.hid (HB2.out.grown hg HB2.out.size (fun q hq => by have := (HO2.out.lt q hq).1; have := HNB.out; have := hN.out; omega))
          have HI3 := Lib.hid (HIb.out wz (by have := hg; exact (Below.refl M X0).grown hg HMX.out (fun q hq => (HO2.out.lt q hq).1)))
          clear hown hg
          refine hK11.out _ _ (HV3.out.cell 1) ?_
          try simp only [Act.put, List.setIfInBounds_toArray, List.set_cons_zero, List.set_cons_succ]
          refine H_takeD (k := 9) (v := .int .i64 (m2 : Int)) (d := some 27) rfl rfl (by decide +kernel) (fun _ _ _ h => h) (Or.inl ⟨by simp [Region.wanted, yielded], fun W hW => by go_simp⟩) (HV3.out.cell 1) ?_
          try simp only [Act.put, List.setIfInBounds_toArray, List.set_cons_zero, List.set_cons_succ]
          refine H_takeD (k := 13) (v := .bool true) (d := some 31) rfl rfl (by decide +kernel) (fun _ _ _ h => h) (Or.inl ⟨by simp [Region.wanted, yielded], fun W hW => by go_simp⟩) (HV3.out.cell 1) ?_
          try simp only [Act.put, List.setIfInBounds_toArray, List.set_cons_zero, List.set_cons_succ]
          refine H_takeD (k := 14) (v := .bool true) (d := some 32) rfl rfl (by decide +kernel) (fun _ _ _ h => h) (Or.inl ⟨by rfl, fun W hW => by go_simp⟩) (HV3.out.cell 1) ?_
          try simp only [Act.put, List.setIfInBounds_toArray, List.set_cons_zero, List.set_cons_succ]
          refine H_end (by decide +kernel) (NoPanic.normal ?_)
          try simp only [Act.put, List.setIfInBounds_toArray, List.set_cons_zero, List.set_cons_succ]
          go_wp2_with fail
          go_ret
          exact ⟨by rw [HE.out]; rfl, HB3.out⟩
        · have HNd := Lib.hid (show os.Nodup from Classical.byContradiction fun h => hlt (HMd.out.2 h))
          go_upto_region 10 with fail
          refine wp_region_noPanic ?_
          refine region_H (S := fun W => W.cell? ⟨N, 1, none⟩ = some (.slice B m cb)) (by kernel_rfl) ?_
          change wpH _ _ _ _ 15 _ _ w2.drew
          generalize w2.drew = X0 at *
          refine H_takeD (k := 0) (v := .slice A1 m c1) (d := some 18) rfl rfl (by decide +kernel) (fun _ _ _ h => h) (Or.inl ⟨by rfl, fun W hW => by go_simp⟩) (HV2.out.cell 1) ?_
          try simp only [Act.put, List.setIfInBounds_toArray, List.set_cons_zero, List.set_cons_succ]
          refine H_takeD (k := 1) (v := .int .i64 (m : Int)) (d := some 19) rfl rfl (by decide +kernel) (fun _ _ _ h => h) (Or.inl ⟨by rfl, fun W hW => by go_simp⟩) (HV2.out.cell 1) ?_
          try simp only [Act.put, List.setIfInBounds_toArray, List.set_cons_zero, List.set_cons_succ]
          refine H_takeD (k := 2) (v := .int .i64 1) (d := some 20) rfl rfl (by decide +kernel) (fun _ _ _ h => h) (Or.inl ⟨by rfl, fun W hW => by go_simp⟩) (HV2.out.cell 1) ?_
          try simp only [Act.put, List.setIfInBounds_toArray, List.set_cons_zero, List.set_cons_succ]
          refine H_takeD (k := 3) (v := .int .i64 8) (d := some 21) rfl rfl (by decide +kernel) (fun _ _ _ h => h) (Or.inl ⟨by rfl, fun W hW => by go_simp⟩) (HV2.out.cell 1) ?_
          try simp only [Act.put, List.setIfInBounds_toArray, List.set_cons_zero, List.set_cons_succ]
          refine H_one (i := 4) (by decide +kernel) (H_step rfl rfl (fun K hK4 => ?_))
          have hK4 := Lib.hid hK4
          go_simp
          go_at_call 36
          refine (HIn.out _).mono ?_
          rintro e wv ⟨rfl, rfl⟩
          refine hK4.out _ _ (HV2.out.cell 1) ?_
          try simp only [Act.put, List.setIfInBounds_toArray, List.set_cons_zero, List.set_cons_succ]
          refine H_takeD (k := 5) (v := .bool false) (d := some 23) rfl rfl (by decide +kernel) (fun _ _ _ h => h) (Or.inl ⟨by rfl, fun W hW => by go_simp⟩) (HV2.out.cell 1) ?_
          try simp only [Act.put, List.setIfInBounds_toArray, List.set_cons_zero, List.set_cons_succ]
          refine H_takeD (k := 6) (v := .bool false) (d := some 24) rfl rfl (by decide +kernel) (fun _ _ _ h => h) (Or.inl ⟨by rfl, fun W hW => by go_simp⟩) (HV2.out.cell 1) ?_
          try simp only [Act.put, List.setIfInBounds_toArray, List.set_cons_zero, List.set_cons_succ]
          refine H_takeD (k := 7) (v := .slice A1 m c1) (d := some 25) rfl rfl (by decide +kernel) (fun _ _ _ h => h) (Or.inl ⟨by simp [Region.wanted, yielded], fun W hW => by go_simp⟩) (HV2.out.cell 1) ?_
          try simp only [Act.put, List.setIfInBounds_toArray, List.set_cons_zero, List.set_cons_succ]
          refine H_takeD (k := 10) (v := .pointer (some ⟨N, 1, none⟩)) (d := some 28) rfl rfl (by decide +kernel) (fun _ _ _ h => h) (Or.inl ⟨by simp [Region.wanted, yielded], fun W hW => by go_simp⟩) (HV2.out.cell 1) ?_
          try simp only [Act.put, List.setIfInBounds_toArray, List.set_cons_zero, List.set_cons_succ]
          refine H_takeD (k := 11) (v := .slice B m cb) (d := some 29) rfl rfl (by decide +kernel) (fun _ _ _ h => h) (Or.inl ⟨by simp [Region.wanted, yielded], fun W hW => by go_simp⟩) (HV2.out.cell 1) ?_
          try simp only [Act.put, List.setIfInBounds_toArray, List.set_cons_zero, List.set_cons_succ]
          refine H_takeD (k := 12) (v := .int .i64 (m : Int)) (d := some 30) rfl rfl (by decide +kernel) (fun _ _ _ h => h) (Or.inl ⟨by simp [Region.wanted, yielded], fun W hW => by go_simp⟩) (HV2.out.cell 1) ?_
          try simp only [Act.put, List.setIfInBounds_toArray, List.set_cons_zero, List.set_cons_succ]
          refine H_one (i := 8) (by decide +kernel) (H_stepg rfl (by simp [Region.wanted, yielded]) (fun K hK11 => ?_))
          have hK11 := Lib.hid hK11
          go_simp
          go_at_call 41
          refine (HC.out X0 HO2.out).mono ?_
          rintro e wz ⟨v2, rfl, hown, hg⟩
          obtain ⟨A2, c2, rfl⟩ := own_slice hown
          have HV3 := Lib.hid (HV2.out.grown hg (fun e => by have := (HO2.out.lt N e.symm).1; have := HNB.out; omega))
          have HB3 := Lib.hid (HB2.out.grown hg HB2.out.size (fun q hq => by have := (HO2.out.lt q hq).1; have := HNB.out; have := hN.out; omega))
          have HI3 := Lib.hid (HIb.out wz (by have := hg; exact (Below.refl M X0).grown hg HMX.out (fun q hq => (HO2.out.lt q hq).1)))
          clear hown hg
          refine hK11.out _ _ (HV3.out.cell 1) ?_
          try simp only [Act.put, List.setIfInBounds_toArray, List.set_cons_zero, List.set_cons_succ]
          refine H_takeD (k := 9) (v := .int .i64 (m2 : Int)) (d := some 27) rfl rfl (by decide +kernel) (fun _ _ _ h => h) (Or.inl ⟨by simp [Region.wanted, yielded], fun W hW => by go_simp⟩) (HV3.out.cell 1) ?_
          try simp only [Act.put, List.setIfInBounds_toArray, List.set_cons_zero, List.set_cons_succ]
          refine H_takeD (k := 13) (v := .bool false) (d := some 31) rfl rfl (by decide +kernel) (fun _ _ _ h => h) (Or.inl ⟨by simp [Region.wanted, yielded], fun W hW => by go_simp⟩) (HV3.out.cell 1) ?_
          try simp only [Act.put, List.setIfInBounds_toArray, List.set_cons_zero, List.set_cons_succ]
          refine H_takeD (k := 14) (v := .bool false) (d := some 32) rfl rfl (by decide +kernel) (fun _ _ _ h => h) (Or.inl ⟨by rfl, fun W hW => by go_simp⟩) (HV3.out.cell 1) ?_
          try simp only [Act.put, List.setIfInBounds_toArray, List.set_cons_zero, List.set_cons_succ]
          refine H_end (by decide +kernel) (NoPanic.normal ?_)
          try simp only [Act.put, List.setIfInBounds_toArray, List.set_cons_zero, List.set_cons_succ]
          have v1 : wz.cell? ⟨N, 1, none⟩ = some (.slice B m cb) := HV3.out.cell 1
          have HCf := Lib.hid (containsFunc_any B cb os wz HI3.out (by rw [hm.out]; omega))
          rw [hm.out] at HCf
          go_wp2_with fail
          refine HCf.out.mono ?_
          rintro e w5 ⟨rfl, rfl⟩
          cases hbd : os.any badO
          · have HE := Lib.hid (vwE_ok HLo.out HNd.out hbd)
            clear hbd
            go_wp2_with fail
            go_ret
            exact ⟨by rw [HE.out]; rfl, HB3.out⟩
          · have HE := Lib.hid (vwE_bad (k := 1) hbd)
            clear hbd
            go_wp2_with fail
            go_ret
            exact ⟨by rw [HE.out]; rfl, HB3.out⟩
      · have HIn := Lib.hid (fun W => inB_false hin ▸ in_any (m : Int) 1 8 W)
        have HE := Lib.hid (show vwE 1 os = 1 from vwE_len (by unfold lenOK; rw [hm.out]; exact decide_eq_false (by omega)))
        clear hin
        go_upto_region 10 with fail
        refine wp_region_noPanic ?_
        refine region_H (S := fun W => W.cell? ⟨N, 1, none⟩ = some (.slice B m cb)) (by kernel_rfl) ?_
        change wpH _ _ _ _ 15 _ _ w2.drew
        generalize w2.drew = X0 at *
        refine H_takeD (k := 0) (v := .slice A1 m c1) (d := some 18) rfl rfl (by decide +kernel) (fun _ _ _ h => h) (Or.inl ⟨by rfl, fun W hW => by go_simp⟩) (HV2.out.cell 1) ?_
        try simp only [Act.put, List.setIfInBounds_toArray, List.set_cons_zero, List.set_cons_succ]
        refine H_takeD (k := 1) (v := .int .i64 (m : Int)) (d := some 19) rfl rfl (by decide +kernel) (fun _ _ _ h => h) (Or.inl ⟨by rfl, fun W hW => by go_simp⟩) (HV2.out.cell 1) ?_
        try simp only [Act.put, List.setIfInBounds_toArray, List.set_cons_zero, List.set_cons_succ]
        refine H_takeD (k := 2) (v := .int .i64 1) (d := some 20) rfl rfl (by decide +kernel) (fun _ _ _ h => h) (Or.inl ⟨by rfl, fun W hW => by go_simp⟩) (HV2.out.cell 1) ?_
        try simp only [Act.put, List.setIfInBounds_toArray, List.set_cons_zero, List.set_cons_succ]
        refine H_takeD (k := 3) (v := .int .i64 8) (d := some 21) rfl rfl (by decide +kernel) (fun _ _ _ h => h) (Or.inl ⟨by rfl, fun W hW => by go_simp⟩) (HV2.out.cell 1) ?_
        try simp only [Act.put, List.setIfInBounds_toArray, List.set_cons_zero, List.set_cons_succ]
        refine H_one (i := 4) (by decide +kernel) (H_step rfl rfl (fun K hK4 => ?_))
        have hK4 := Lib.hid hK4
        go_simp
        go_at_call 36
        refine (HIn.out _).mono ?_
        rintro e wv ⟨rfl, rfl⟩
        refine hK4.out _ _ (HV2.out.cell 1) ?_
        try simp only [Act.put, List.setIfInBounds_toArray, List.set_cons_zero, List.set_cons_succ]
        refine H_takeD (k := 5) (v := .bool true) (d := some 23) rfl rfl (by decide +kernel) (fun _ _ _ h => h) (Or.inl ⟨by rfl, fun W hW => by go_simp⟩) (HV2.out.cell 1) ?_
        try simp only [Act.put, List.setIfInBounds_toArray, List.set_cons_zero, List.set_cons_succ]
        refine H_takeD (k := 6) (v := .bool true) (d := some 24) rfl rfl (by decide +kernel) (fun _ _ _ h => h) (Or.inl ⟨by rfl, fun W hW => by go_simp⟩) (HV2.out.cell 1) ?_
        try simp only [Act.put, List.setIfInBounds_toArray, List.set_cons_zero, List.set_cons_succ]
        refine H_takeD (k := 7) (v := undef) (d := some 25) rfl rfl (by decide +kernel) (fun _ _ _ h => h) (Or.inr ⟨by simp [Region.wanted, yielded, undef], rfl⟩) (HV2.out.cell 1) ?_
        try simp only [Act.put, List.setIfInBounds_toArray, List.set_cons_zero, List.set_cons_succ]
        refine H_takeD (k := 8) (v := undef) (d := some 26) rfl rfl (by decide +kernel) (fun _ _ _ h => h) (Or.inr ⟨by simp [Region.wanted, yielded, undef], rfl⟩) (HV2.out.cell 1) ?_
        try simp only [Act.put, List.setIfInBounds_toArray, List.set_cons_zero, List.set_cons_succ]
        refine H_takeD (k := 9) (v := undef) (d := some 27) rfl rfl (by decide +kernel) (fun _ _ _ h => h) (Or.inr ⟨by simp [Region.wanted, yielded, undef], rfl⟩) (HV2.out.cell 1) ?_
        try simp only [Act.put, List.setIfInBounds_toArray, List.set_cons_zero, List.set_cons_succ]
        refine H_takeD (k := 10) (v := undef) (d := some 28) rfl rfl (by decide +kernel) (fun _ _ _ h => h) (Or.inr ⟨by simp [Region.wanted, yielded, undef], rfl⟩) (HV2.out.cell 1) ?_
        try simp only [Act.put, List.setIfInBounds_toArray, List.set_cons_zero, List.set_cons_succ]
        refine H_takeD (k := 11) (v := undef) (d := some 29) rfl rfl (by decide +kernel) (fun _ _ _ h => h) (Or.inr ⟨by simp [Region.wanted, yielded, undef], rfl⟩) (HV2.out.cell 1) ?_
        try simp only [Act.put, List.setIfInBounds_toArray, List.set_cons_zero, List.set_cons_succ]
        refine H_takeD (k := 12) (v := undef) (d := some 30) rfl rfl (by decide +kernel) (fun _ _ _ h => h) (Or.inr ⟨by simp [Region.wanted, yielded, undef], rfl⟩) (HV2.out.cell 1) ?_
        try simp only [Act.put, List.setIfInBounds_toArray, List.set_cons_zero, List.set_cons_succ]
        refine H_takeD (k := 13) (v := undef) (d := some 31) rfl rfl (by decide +kernel) (fun _ _ _ h => h) (Or.inr ⟨by simp [Region.wanted, yielded, undef], rfl⟩) (HV2.out.cell 1) ?_
        try simp only [Act.put, List.setIfInBounds_toArray, List.set_cons_zero, List.set_cons_succ]
        refine H_takeD (k := 14) (v := .bool true) (d := some 32) rfl rfl (by decide +kernel) (fun _ _ _ h => h) (Or.inl ⟨by rfl, fun W hW => by go_simp⟩) (HV2.out.cell 1) ?_
        try simp only [Act.put, List.setIfInBounds_toArray, List.set_cons_zero, List.set_cons_succ]
        refine H_end (by decide +kernel) (NoPanic.normal ?_)
        try simp only [Act.put, List.setIfInBounds_toArray, List.set_cons_zero, List.set_cons_succ]
        go_wp2_with fail
        go_ret
        exact ⟨by rw [HE.out]; rfl, HB2.out⟩
    · have v0 : (w.alloc (.cells #[.int .i64 2, .slice B os.length cb] 28)).cell? ⟨w.heap.size, 0, none⟩ = some (.int .i64 2) := HV.out.cell 0
      have v1 : (w.alloc (.cells #[.int .i64 2, .slice B os.length cb] 28)).cell? ⟨w.heap.size, 1, none⟩ = some (.slice B os.length cb) := HV.out.cell 1
      have HZ := Lib.hid (show w.heap.size < (w.alloc (.cells #[.int .i64 2, .slice B os.length cb] 28)).heap.size from by simp)
      go_enter Try.func16, Try.ntmps16
      go_wp2_with fail
      refine (valuesI_any _ _ _ _).mono ?_
      generalize w.alloc (.cells #[.int .i64 2, .slice B os.length cb] 28) = W0 at *
      rintro e w1 ⟨rfl, rfl⟩
      have hbb := (Below.refl W0.heap.size W0).alloc (Nat.le_refl _) (.cells #[.slice B os.length cb] 22)
      have HF := Lib.hid (sorted_any W0.heap.size cb B os _ (by simp) ((Bk.new W0 22 #[.slice B os.length cb]).cell 0) (SI.below HI.out hbb) hos)
      have HV1 := Lib.hid (HV.out.below hbb HV.out.lt)
      have HB1 := Lib.hid (HB.out.trans (hbb.mono HB.out.size))
      have HIf := Lib.hid (SI.below HI.out hbb)
      have HZ1 := Lib.hid (show w.heap.size < (W0.alloc (.cells #[.slice B os.length cb] 22)).heap.size from by have := HZ.out; simp; omega)
      clear hbb v0 v1 HV HB HI HZ
      go_wp2_with fail
      refine HF.out.mono ?_
      generalize W0.alloc (.cells #[.slice B os.length cb] 22) = W1 at *
      rintro e w2 ⟨v, rfl, hown, hb⟩
      obtain ⟨N, hN⟩ : ∃ q, Hid (w.heap.size = q) := ⟨_, Lib.hid rfl⟩
      obtain ⟨M, hM⟩ : ∃ q, Hid (W1.heap.size = q) := ⟨_, Lib.hid rfl⟩
      obtain ⟨m, hm⟩ : ∃ q, Hid (os.length = q) := ⟨_, Lib.hid rfl⟩
      obtain ⟨m2, hm2⟩ : ∃ q, Hid ((cmpZ (srt os)).length = q) := ⟨_, Lib.hid rfl⟩
      have HV2 := Lib.hid (show Bk w2.drew N 28 #[.int .i64 2, .slice B m cb] from hN.out ▸ hm.out ▸ HV1.out.below hb.drew HV1.out.lt)
      have HB2 := Lib.hid (show Below w.heap.size w w2.drew from (HB1.out.trans (hb.mono HB1.out.size)).drew)
      have HIb := Lib.hid (fun (W : World) (h : Below M w2.drew W) => show SI W B os from SI.below HIf.out (hM.out.symm ▸ (show Below M W1 w2.drew from hM.out ▸ hb.drew).trans h))
      have HMX := Lib.hid (show M ≤ w2.drew.heap.size from by rw [← hM.out]; exact hb.drew.size)
      have HNB := Lib.hid (show N < M from by rw [← hN.out, ← hM.out]; exact HZ1.out)
      obtain ⟨A1, c1, rfl⟩ := own_slice hown
      rw [hm.out, hM.out] at hown
      have HO2 := Lib.hid (show w2.drew.ownsRow M 3 1 (.slice A1 m c1) m ((srt os).map (Value.int .i64)) from own_qt hown ⟨1, rfl⟩)
      have HC := Lib.hid (fun (W : World) (h : W.ownsRow M 3 1 (.slice A1 m c1) m ((srt os).map (Value.int .i64))) => compactI_any h (by rw [← hm.out]; exact hos))
      rw [hm2.out] at HC
      have hmd := cmpZ_lt (l := os)
      rw [hm.out, hm2.out] at hmd
      have HMd := Lib.hid hmd
      have hml : m ≤ 1000000 := by rw [← hm.out]; exact hos
      simp only [hN.out, hm.out]
      clear hown hb HV1 HB1 hmd HIf HZ1 HF
      by_cases hin : 0 ≤ (m : Int) ∧ (m : Int) ≤ 0
      · have HIn := Lib.hid (fun W => inB_true hin ▸ in_any (m : Int) 0 0 W)
        have HLo := Lib.hid (show lenOK 2 os.length = true from by unfold lenOK; rw [hm.out]; exact decide_eq_true (by omega))
        clear hin
        by_cases hlt : m2 < m
        · have HE := Lib.hid (vwE_dup (k := 2) (HMd.out.1 hlt))
          go_upto_region 10 with fail
          refine wp_region_noPanic ?_
          refine region_H (S := fun W => W.cell? ⟨N, 1, none⟩ = some (.slice B m cb)) (by kernel_rfl) ?_
          change wpH _ _ _ _ 15 _ _ w2.drew
          generalize w2.drew = X0 at *
          refine H_takeD (k := 0) (v := .slice A1 m c1) (d := some 18) rfl rfl (by decide +kernel) (fun _ _ _ h => h) (Or.inl ⟨by rfl, fun W hW => by go_simp⟩) (HV2.out.cell 1) ?_
          try simp only [Act.put, List.setIfInBounds_toArray, List.set_cons_zero, List.set_cons_succ]
          refine H_takeD (k := 1) (v := .int .i64 (m : Int)) (d := some 19) rfl rfl (by decide +kernel) (fun _ _ _ h => h) (Or.inl ⟨by rfl, fun W hW => by go_simp⟩) (HV2.out.cell 1) ?_
          try simp only [Act.put, List.setIfInBounds_toArray, List.set_cons_zero, List.set_cons_succ]
          refine H_takeD (k := 2) (v := .int .i64 0) (d := some 20) rfl rfl (by decide +kernel) (fun _ _ _ h => h) (Or.inl ⟨by rfl, fun W hW => by go_simp⟩) (HV2.out.cell 1) ?_
          try simp only [Act.put, List.setIfInBounds_toArray, List.set_cons_zero, List.set_cons_succ]
          refine H_takeD (k := 3) (v := .int .i64 0) (d := some 21) rfl rfl (by decide +kernel) (fun _ _ _ h => h) (Or.inl ⟨by rfl, fun W hW => by go_simp⟩) (HV2.out.cell 1) ?_
          try simp only [Act.put, List.setIfInBounds_toArray, List.set_cons_zero, List.set_cons_succ]
          refine H_one (i := 4) (by decide +kernel) (H_step rfl rfl (fun K hK4 => ?_))
          have hK4 := Lib.hid hK4
          go_simp
          go_at_call 36
          refine (HIn.out _).mono ?_
          rintro e wv ⟨rfl, rfl⟩
          refine hK4.out _ _ (HV2.out.cell 1) ?_
          try simp only [Act.put, List.setIfInBounds_toArray, List.set_cons_zero, List.set_cons_succ]
          refine H_takeD (k := 5) (v := .bool false) (d := some 23) rfl rfl (by decide +kernel) (fun _ _ _ h => h) (Or.inl ⟨by rfl, fun W hW => by go_simp⟩) (HV2.out.cell 1) ?_
          try simp only [Act.put, List.setIfInBounds_toArray, List.set_cons_zero, List.set_cons_succ]
          refine H_takeD (k := 6) (v := .bool false) (d := some 24) rfl rfl (by decide +kernel) (fun _ _ _ h => h) (Or.inl ⟨by rfl, fun W hW => by go_simp⟩) (HV2.out.cell 1) ?_
          try simp only [Act.put, List.setIfInBounds_toArray, List.set_cons_zero, List.set_cons_succ]
          refine H_takeD (k := 7) (v := .slice A1 m c1) (d := some 25) rfl rfl (by decide +kernel) (fun _ _ _ h => h) (Or.inl ⟨by simp [Region.wanted, yielded], fun W hW => by go_simp⟩) (HV2.out.cell 1) ?_
          try simp only [Act.put, List.setIfInBounds_toArray, List.set_cons_zero, List.set_cons_succ]
          refine H_takeD (k := 10) (v := .pointer (some ⟨N, 1, none⟩)) (d := some 28) rfl rfl (by decide +kernel) (fun _ _ _ h => h) (Or.inl ⟨by simp [Region.wanted, yielded], fun W hW => by go_simp⟩) (HV2.out.cell 1) ?_
          try simp only [Act.put, List.setIfInBounds_toArray, List.set_cons_zero, List.set_cons_succ]
          refine H_takeD (k := 11) (v := .slice B m cb) (d := some 29) rfl rfl (by decide +kernel) (fun _ _ _ h => h) (Or.inl ⟨by simp [Region.wanted, yielded], fun W hW => by go_simp⟩) (HV2.out.cell 1) ?_
          try simp only [Act.put, List.setIfInBounds_toArray, List.set_cons_zero, List.set_cons_succ]
          refine H_takeD (k := 12) (v := .int .i64 (m : Int)) (d := some 30) rfl rfl (by decide +kernel) (fun _ _ _ h => h) (Or.inl ⟨by simp [Region.wanted, yielded], fun W hW => by go_simp⟩) (HV2.out.cell 1) ?_
          try simp only [Act.put, List.setIfInBounds_toArray, List.set_cons_zero, List.set_cons_succ]
          refine H_one (i := 8) (by decide +kernel) (H_stepg rfl (by simp [Region.wanted, yielded]) (fun K hK11 => ?_))
          have hK11 := Lib.hid hK11
          go_simp
          go_at_call 41
          refine (HC.out X0 HO2.out).mono ?_
          rintro e wz ⟨v2, rfl, hown, hg⟩
          obtain ⟨A2, c2, rfl⟩ := own_slice hown
          have HV3 := Lib.hid (HV2.out.grown hg (fun e => by have := (HO2.out.lt N e.symm).1; have := HNB.out; omega))
          have HB3 := Lib.hid (HB2.out.grown hg HB2.out.size (fun q hq => by have := (HO2.out.lt q hq).1; have := HNB.out; have := hN.out; omega))
          have HI3 := Lib.hid (HIb.out wz (by have := hg; exact (Below.refl M X0).grown hg HMX.out (fun q hq => (HO2.out.lt q hq).1)))
          clear hown hg
          refine hK11.out _ _ (HV3.out.cell 1) ?_
          try simp only [Act.put, List.setIfInBounds_toArray, List.set_cons_zero, List.set_cons_succ]
          refine H_takeD (k := 9) (v := .int .i64 (m2 : Int)) (d := some 27) rfl rfl (by decide +kernel) (fun _ _ _ h => h) (Or.inl ⟨by simp [Region.wanted, yielded], fun W hW => by go_simp⟩) (HV3.out.cell 1) ?_
          try simp only [Act.put, List.setIfInBounds_toArray, List.set_cons_zero, List.set_cons_succ]
          refine H_takeD (k := 13) (v := .bool true) (d := some 31) rfl rfl (by decide +kernel) (fun _ _ _ h => h) (Or.inl ⟨by simp [Region.wanted, yielded], fun W hW => by go_simp⟩) (HV3.out.cell 1) ?_
          try simp only [Act.put, List.setIfInBounds_toArray, List.set_cons_zero, List.set_cons_succ]
          refine H_takeD (k := 14) (v := .bool true) (d := some 32) rfl rfl (by decide +kernel) (fun _ _ _ h => h) (Or.inl ⟨by rfl, fun W hW => by go_simp⟩) (HV3.out.cell 1) ?_
          try simp only [Act.put, List.setIfInBounds_toArray, List.set_cons_zero, List.set_cons_succ]
          refine H_end (by decide +kernel) (NoPanic.normal ?_)
          try simp only [Act.put, List.setIfInBounds_toArray, List.set_cons_zero, List.set_cons_succ]
          go_wp2_with fail
          go_ret
          exact ⟨by rw [HE.out]; rfl, HB3.out⟩
        · have HNd := Lib.hid (show os.Nodup from Classical.byContradiction fun h => hlt (HMd.out.2 h))
          go_upto_region 10 with fail
          refine wp_region_noPanic ?_
          refine region_H (S := fun W => W.cell? ⟨N, 1, none⟩ = some (.slice B m cb)) (by kernel_rfl) ?_
          change wpH _ _ _ _ 15 _ _ w2.drew
          generalize w2.drew = X0 at *
          refine H_takeD (k := 0) (v := .slice A1 m c1) (d := some 18) rfl rfl (by decide +kernel) (fun _ _ _ h => h) (Or.inl ⟨by rfl, fun W hW => by go_simp⟩) (HV2.out.cell 1) ?_
          try simp only [Act.put, List.setIfInBounds_toArray, List.set_cons_zero, List.set_cons_succ]
          refine H_takeD (k := 1) (v := .int .i64 (m : Int)) (d := some 19) rfl rfl (by decide +kernel) (fun _ _ _ h => h) (Or.inl ⟨by rfl, fun W hW => by go_simp⟩) (HV2.out.cell 1) ?_
          try simp only [Act.put, List.setIfInBounds_toArray, List.set_cons_zero, List.set_cons_succ]
          refine H_takeD (k := 2) (v := .int .i64 0) (d := some 20) rfl rfl (by decide +kernel) (fun _ _ _ h => h) (Or.inl ⟨by rfl, fun W hW => by go_simp⟩) (HV2.out.cell 1) ?_
          try simp only [Act.put, List.setIfInBounds_toArray, List.set_cons_zero, List.set_cons_succ]
          refine H_takeD (k := 3) (v := .int .i64 0) (d := some 21) rfl rfl (by decide +kernel) (fun _ _ _ h => h) (Or.inl ⟨by rfl, fun W hW => by go_simp⟩) (HV2.out.cell 1) ?_
          try simp only [Act.put, List.setIfInBounds_toArray, List.set_cons_zero, List.set_cons_succ]
          refine H_one (i := 4) (by decide +kernel) (H_step rfl rfl (fun K hK4 => ?_))
          have hK4 := Lib.hid hK4
          go_simp
          go_at_call 36
          refine (HIn.out _).mono ?_
          rintro e wv ⟨rfl, rfl⟩
          refine hK4.out _ _ (HV2.out.cell 1) ?_
          try simp only [Act.put, List.setIfInBounds_toArray, List.set_cons_zero, List.set_cons_succ]
          refine H_takeD (k := 5) (v := .bool false) (d := some 23) rfl rfl (by decide +kernel) (fun _ _ _ h => h) (Or.inl ⟨by rfl, fun W hW => by go_simp⟩) (HV2.out.cell 1) ?_
          try simp only [Act.put, List.setIfInBounds_toArray, List.set_cons_zero, List.set_cons_succ]
          refine H_takeD (k := 6) (v := .bool false) (d := some 24) rfl rfl (by decide +kernel) (fun _ _ _ h => h) (Or.inl ⟨by rfl, fun W hW => by go_simp⟩) (HV2.out.cell 1) ?_
          try simp only [Act.put, List.setIfInBounds_toArray, List.set_cons_zero, List.set_cons_succ]
          refine H_takeD (k := 7) (v := .slice A1 m c1) (d := some 25) rfl rfl (by decide +kernel) (fun _ _ _ h => h) (Or.inl ⟨by simp [Region.wanted, yielded], fun W hW => by go_simp⟩) (HV2.out.cell 1) ?_
          try simp only [Act.put, List.setIfInBounds_toArray, List.set_cons_zero, List.set_cons_succ]
          refine H_takeD (k := 10) (v := .pointer (some ⟨N, 1, none⟩)) (d := some 28) rfl rfl (by decide +kernel) (fun _ _ _ h => h) (Or.inl ⟨by simp [Region.wanted, yielded], fun W hW => by go_simp⟩) (HV2.out.cell 1) ?_
          try simp only [Act.put, List.setIfInBounds_toArray, List.set_cons_zero, List.set_cons_succ]
          refine H_takeD (k := 11) (v := .slice B m cb) (d := some 29) rfl rfl (by decide +kernel) (fun _ _ _ h => h) (Or.inl ⟨by simp [Region.wanted, yielded], fun W hW => by go_simp⟩) (HV2.out.cell 1) ?_
          try simp only [Act.put, List.setIfInBounds_toArray, List.set_cons_zero, List.set_cons_succ]
          refine H_takeD (k := 12) (v := .int .i64 (m : Int)) (d := some 30) rfl rfl (by decide +kernel) (fun _ _ _ h => h) (Or.inl ⟨by simp [Region.wanted, yielded], fun W hW => by go_simp⟩) (HV2.out.cell 1) ?_
          try simp only [Act.put, List.setIfInBounds_toArray, List.set_cons_zero, List.set_cons_succ]
          refine H_one (i := 8) (by decide +kernel) (H_stepg rfl (by simp [Region.wanted, yielded]) (fun K hK11 => ?_))
          have hK11 := Lib.hid hK11
          go_simp
          go_at_call 41
          refine (HC.out X0 HO2.out).mono ?_
          rintro e wz ⟨v2, rfl, hown, hg⟩
          obtain ⟨A2, c2, rfl⟩ := own_slice hown
          have HV3 := Lib.hid (HV2.out.grown hg (fun e => by have := (HO2.out.lt N e.symm).1; have := HNB.out; omega))
          have HB3 := Lib.hid (HB2.out.grown hg HB2.out.size (fun q hq => by have := (HO2.out.lt q hq).1; have := HNB.out; have := hN.out; omega))
          have HI3 := Lib.hid (HIb.out wz (by have := hg; exact (Below.refl M X0).grown hg HMX.out (fun q hq => (HO2.out.lt q hq).1)))
          clear hown hg
          refine hK11.out _ _ (HV3.out.cell 1) ?_
          try simp only [Act.put, List.setIfInBounds_toArray, List.set_cons_zero, List.set_cons_succ]
          refine H_takeD (k := 9) (v := .int .i64 (m2 : Int)) (d := some 27) rfl rfl (by decide +kernel) (fun _ _ _ h => h) (Or.inl ⟨by simp [Region.wanted, yielded], fun W hW => by go_simp⟩) (HV3.out.cell 1) ?_
          try simp only [Act.put, List.setIfInBounds_toArray, List.set_cons_zero, List.set_cons_succ]
          refine H_takeD (k := 13) (v := .bool false) (d := some 31) rfl rfl (by decide +kernel) (fun _ _ _ h => h) (Or.inl ⟨by simp [Region.wanted, yielded], fun W hW => by go_simp⟩) (HV3.out.cell 1) ?_
          try simp only [Act.put, List.setIfInBounds_toArray, List.set_cons_zero, List.set_cons_succ]
          refine H_takeD (k := 14) (v := .bool false) (d := some 32) rfl rfl (by decide +kernel) (fun _ _ _ h => h) (Or.inl ⟨by rfl, fun W hW => by go_simp⟩) (HV3.out.cell 1) ?_
          try simp only [Act.put, List.setIfInBounds_toArray, List.set_cons_zero, List.set_cons_succ]
          refine H_end (by decide +kernel) (NoPanic.normal ?_)
          try simp only [Act.put, List.setIfInBounds_toArray, List.set_cons_zero, List.set_cons_succ]
          have v1 : wz.cell? ⟨N, 1, none⟩ = some (.slice B m cb) := HV3.out.cell 1
          have HCf := Lib.hid (containsFunc_any B cb os wz HI3.out (by rw [hm.out]; omega))
          rw [hm.out] at HCf
          go_wp2_with fail
          refine HCf.out.mono ?_
          rintro e w5 ⟨rfl, rfl⟩
          cases hbd : os.any badO
          · have HE := Lib.hid (vwE_ok HLo.out HNd.out hbd)
            clear hbd
            go_wp2_with fail
            go_ret
            exact ⟨by rw [HE.out]; rfl, HB3.out⟩
          · have HE := Lib.hid (vwE_bad (k := 2) hbd)
            clear hbd
            go_wp2_with fail
            go_ret
            exact ⟨by rw [HE.out]; rfl, HB3.out⟩
      · have HIn := Lib.hid (fun W => inB_false hin ▸ in_any (m : Int) 0 0 W)
        have HE := Lib.hid (show vwE 2 os = 1 from vwE_len (by unfold lenOK; rw [hm.out]; exact decide_eq_false (by omega)))
        clear hin
        go_upto_region 10 with fail
        refine wp_region_noPanic ?_
        refine region_H (S := fun W => W.cell? ⟨N, 1, none⟩ = some (.slice B m cb)) (by kernel_rfl) ?_
        change wpH _ _ _ _ 15 _ _ w2.drew
        generalize w2.drew = X0 at *
        refine H_takeD (k := 0) (v := .slice A1 m c1) (d := some 18) rfl rfl (by decide +kernel) (fun _ _ _ h => h) (Or.inl ⟨by rfl, fun W hW => by go_simp⟩) (HV2.out.cell 1) ?_
        try simp only [Act.put, List.setIfInBounds_toArray, List.set_cons_zero, List.set_cons_succ]
        refine H_takeD (k := 1) (v := .int .i64 (m : Int)) (d := some 19) rfl rfl (by decide +kernel) (fun _ _ _ h => h) (Or.inl ⟨by rfl, fun W hW => by go_simp⟩) (HV2.out.cell 1) ?_
        try simp only [Act.put, List.setIfInBounds_toArray, List.set_cons_zero, List.set_cons_succ]
        refine H_takeD (k := 2) (v := .int .i64 0) (d := some 20) rfl rfl (by decide +kernel) (fun _ _ _ h => h) (Or.inl ⟨by rfl, fun W hW => by go_simp⟩) (HV2.out.cell 1) ?_
        try simp only [Act.put, List.setIfInBounds_toArray, List.set_cons_zero, List.set_cons_succ]
        refine H_takeD (k := 3) (v := .int .i64 0) (d := some 21) rfl rfl (by decide +kernel) (fun _ _ _ h => h) (Or.inl ⟨by rfl, fun W hW => by go_simp⟩) (HV2.out.cell 1) ?_
        try simp only [Act.put, List.setIfInBounds_toArray, List.set_cons_zero, List.set_cons_succ]
        refine H_one (i := 4) (by decide +kernel) (H_step rfl rfl (fun K hK4 => ?_))
        have hK4 := Lib.hid hK4
        go_simp
        go_at_call 36
        refine (HIn.out _).mono ?_
        rintro e wv ⟨rfl, rfl⟩
        refine hK4.out _ _ (HV2.out.cell 1) ?_
        try simp only [Act.put, List.setIfInBounds_toArray, List.set_cons_zero, List.set_cons_succ]
        refine H_takeD (k := 5) (v := .bool true) (d := some 23) rfl rfl (by decide +kernel) (fun _ _ _ h => h) (Or.inl ⟨by rfl, fun W hW => by go_simp⟩) (HV2.out.cell 1) ?_
        try simp only [Act.put, List.setIfInBounds_toArray, List.set_cons_zero, List.set_cons_succ]
        refine H_takeD (k := 6) (v := .bool true) (d := some 24) rfl rfl (by decide +kernel) (fun _ _ _ h => h) (Or.inl ⟨by rfl, fun W hW => by go_simp⟩) (HV2.out.cell 1) ?_
        try simp only [Act.put, List.setIfInBounds_toArray, List.set_cons_zero, List.set_cons_succ]
        refine H_takeD (k := 7) (v := undef) (d := some 25) rfl rfl (by decide +kernel) (fun _ _ _ h => h) (Or.inr ⟨by simp [Region.wanted, yielded, undef], rfl⟩) (HV2.out.cell 1) ?_
        try simp only [Act.put, List.setIfInBounds_toArray, List.set_cons_zero, List.set_cons_succ]
        refine H_takeD (k := 8) (v := undef) (d := some 26) rfl rfl (by decide +kernel) (fun _ _ _ h => h) (Or.inr ⟨by simp [Region.wanted, yielded, undef], rfl⟩) (HV2.out.cell 1) ?_
        try simp only [Act.put, List.setIfInBounds_toArray, List.set_cons_zero, List.set_cons_succ]
        refine H_takeD (k := 9) (v := undef) (d := some 27) rfl rfl (by decide +kernel) (fun _ _ _ h => h) (Or.inr ⟨by simp [Region.wanted, yielded, undef], rfl⟩) (HV2.out.cell 1) ?_
        try simp only [Act.put, List.setIfInBounds_toArray, List.set_cons_zero, List.set_cons_succ]
        refine H_takeD (k := 10) (v := undef) (d := some 28) rfl rfl (by decide +kernel) (fun _ _ _ h => h) (Or.inr ⟨by simp [Region.wanted, yielded, undef], rfl⟩) (HV2.out.cell 1) ?_
        try simp only [Act.put, List.setIfInBounds_toArray, List.set_cons_zero, List.set_cons_succ]
        refine H_takeD (k := 11) (v := undef) (d := some 29) rfl rfl (by decide +kernel) (fun _ _ _ h => h) (Or.inr ⟨by simp [Region.wanted, yielded, undef], rfl⟩) (HV2.out.cell 1) ?_
        try simp only [Act.put, List.setIfInBounds_toArray, List.set_cons_zero, List.set_cons_succ]
        refine H_takeD (k := 12) (v := undef) (d := some 30) rfl rfl (by decide +kernel) (fun _ _ _ h => h) (Or.inr ⟨by simp [Region.wanted, yielded, undef], rfl⟩) (HV2.out.cell 1) ?_
        try simp only [Act.put, List.setIfInBounds_toArray, List.set_cons_zero, List.set_cons_succ]
        refine H_takeD (k := 13) (v := undef) (d := some 31) rfl rfl (by decide +kernel) (fun _ _ _ h => h) (Or.inr ⟨by simp [Region.wanted, yielded, undef], rfl⟩) (HV2.out.cell 1) ?_
        try simp only [Act.put, List.setIfInBounds_toArray, List.set_cons_zero, List.set_cons_succ]
        refine H_takeD (k := 14) (v := .bool true) (d := some 32) rfl rfl (by decide +kernel) (fun _ _ _ h => h) (Or.inl ⟨by rfl, fun W hW => by go_simp⟩) (HV2.out.cell 1) ?_
        try simp only [Act.put, List.setIfInBounds_toArray, List.set_cons_zero, List.set_cons_succ]
        refine H_end (by decide +kernel) (NoPanic.normal ?_)
        try simp only [Act.put, List.setIfInBounds_toArray, List.set_cons_zero, List.set_cons_succ]
        go_wp2_with fail
        go_ret
        exact ⟨by rw [HE.out]; rfl, HB2.out⟩
  · have HE := Lib.hid (show vwE k os = 1 from vwE_len (by unfold lenOK; exact decide_eq_false (by omega)))
    have v0 : (w.alloc (.cells #[.int .i64 k, .slice B os.length cb] 28)).cell? ⟨w.heap.size, 0, none⟩ = some (.int .i64 k) := HV.out.cell 0
    have k0 : (k == 0) = false := by simp; omega
    have k1 : (k == 1) = false := by simp; omega
    have k2 : (k == 2) = false := by simp; omega
    clear hk
    go_enter Try.func16, Try.ntmps16
    go_wp2_with fail
    go_ret
    exact ⟨by rw [HE.out]; rfl, HB.out⟩
end Go.Proofs.Ytgeciimakjfnfaa
