import Derived.Test.YtgeciimakjfnfaaC18
namespace Go.Proofs.Ytgeciimakjfnfaa
open Go.RowKit Go.Maps

def shwE (k : Int) (os : List Int) (l : List Cl) (d : Int) : Int := if ckE k os l = 0 then (if inB d 0 73048 then 0 else 5) else 1
def shwR (k : Int) (os : List Int) (l : List Cl) (d : Int) : Bool := if shwE k os l d = 0 then shownD k os l d else false
theorem shw_bad {k : Int} {os : List Int} {l : List Cl} {d : Int} (h : ckE k os l = 1) : shwE k os l d = 1 ∧ shwR k os l d = false := by
  have : shwE k os l d = 1 := by rw [shwE, if_neg (by omega)]
  exact ⟨this, by rw [shwR, this]; rfl⟩
theorem shw_day {k : Int} {os : List Int} {l : List Cl} {d : Int} (h : ckE k os l = 0) (hd : inB d 0 73048 = false) : shwE k os l d = 5 ∧ shwR k os l d = false := by
  have : shwE k os l d = 5 := by rw [shwE, if_pos h, hd]; rfl
  exact ⟨this, by rw [shwR, this]; rfl⟩
theorem shw_ok {k : Int} {os : List Int} {l : List Cl} {d : Int} (h : ckE k os l = 0) (hd : inB d 0 73048 = true) : shwE k os l d = 0 ∧ shwR k os l d = shownD k os l d := by
  have : shwE k os l d = 0 := by rw [shwE, if_pos h, hd]; rfl
  exact ⟨this, by rw [shwR, this]; rfl⟩
set_option linter.unusedSimpArgs false in
set_option maxHeartbeats 4000000 in
set_option maxRecDepth 100000 in
theorem Shows_any (k : Int) (B : Option Addr) (cb : Nat) (os : List Int) (A : Option Addr) (c : Nat) (l : List Cl) (d : Int) (w : World) (hB : SI w B os) (hos : os.length ≤ 1000000) (hA : SC w A l) (hl : l.length ≤ 1000000) :
    Calls Try.prog 23 #[.agg #[.int .i64 k, .slice B os.length cb], .slice A l.length c, .int .i64 d] w fun e w' => e = .returned (.tuple #[.bool (shwR k os l d), .int .i64 (shwE k os l d)]) ∧ Below w.heap.size w w' := by
  have hb0 := (Below.refl w.heap.size w).alloc (Nat.le_refl _) (.cells #[.int .i64 k, .slice B os.length cb] 28)
  have HV := Lib.hid (Bk.new w 28 #[.int .i64 k, .slice B os.length cb])
  have v0 : (w.alloc (.cells #[.int .i64 k, .slice B os.length cb] 28)).cell? ⟨w.heap.size, 0, none⟩ = some (.int .i64 k) := HV.out.cell 0
  have v1 : (w.alloc (.cells #[.int .i64 k, .slice B os.length cb] 28)).cell? ⟨w.heap.size, 1, none⟩ = some (.slice B os.length cb) := HV.out.cell 1
  have HA := Lib.hid (SC.below hA hb0)
  have HI := Lib.hid (SI.below hB hb0)
  have HB := Lib.hid hb0
  have HZ := Lib.hid (show w.heap.size < (w.alloc (.cells #[.int .i64 k, .slice B os.length cb] 28)).heap.size from by simp)
  have HC := Lib.hid (check_any k B cb os A c l _ HI.out hos HA.out hl)
  clear hA hB hb0
  rcases ckE_01 k os l with he | he
  · rw [he] at HC
    cases hd : inB d 0 73048
    · have hE := shw_day he hd
      have HE := Lib.hid hE.1
      have HR := Lib.hid hE.2
      have HD := Lib.hid (fun W => hd ▸ isDay_any d W)
      clear he hd hE
      go_enter Try.func23, Try.ntmps23
      go_wp2_with fail
      refine HC.out.mono ?_
      generalize w.alloc (.cells #[.int .i64 k, .slice B os.length cb] 28) = W0 at *
      rintro e w1 ⟨rfl, hb⟩
      have HB1 := Lib.hid (HB.out.trans (hb.mono (Nat.le_of_lt HZ.out)))
      clear hb v0 v1
      go_wp2_with fail
      refine (HD.out _).mono ?_
      rintro e w2 ⟨rfl, rfl⟩
      go_wp2_with fail
      exact bodyPost_ret (v := .tuple #[.bool false, .int .i64 5]) (by simp [results, Try.results23, go_sem]) rfl ⟨by rw [HE.out, HR.out], HB1.out⟩
    · have hE := shw_ok he hd
      have HE := Lib.hid hE.1
      have HR := Lib.hid hE.2
      have HD := Lib.hid (fun W => hd ▸ isDay_any d W)
      clear he hd hE
      go_enter Try.func23, Try.ntmps23
      go_wp2_with fail
      refine HC.out.mono ?_
      generalize w.alloc (.cells #[.int .i64 k, .slice B os.length cb] 28) = W0 at *
      rintro e w1 ⟨rfl, hb⟩
      have HB1 := Lib.hid (HB.out.trans (hb.mono (Nat.le_of_lt HZ.out)))
      have HA1 := Lib.hid (SC.below HA.out hb)
      have HI1 := Lib.hid (SI.below HI.out hb)
      have HV1 := Lib.hid (HV.out.below hb HV.out.lt)
      clear hb v0 v1 HC HB HA HI HV
      go_wp2_with fail
      refine (HD.out _).mono ?_
      rintro e w2 ⟨rfl, rfl⟩
      generalize w1 = w2 at *
      have HB2 := Lib.hid (show Below w.heap.size w w2.drew from HB1.out.drew)
      have HA2 := Lib.hid (show SC w2.drew A l from HA1.out)
      have HI2 := Lib.hid (show SI w2.drew B os from HI1.out)
      have HV2 := Lib.hid (show Bk w2.drew w.heap.size 28 #[.int .i64 k, .slice B os.length cb] from HV1.out)
      obtain ⟨N, hN⟩ : ∃ q, Hid (w.heap.size = q) := ⟨_, Lib.hid rfl⟩
      rw [hN.out] at HV2
      obtain ⟨sh, hsh⟩ : ∃ q, Hid (shownD k os l d = q) := ⟨_, Lib.hid rfl⟩
      have HSh := Lib.hid (show shownL k os (actL l d) = sh from hsh.out)
      clear HB1 HA1 HI1 HV1
      go_upto_region 6 with fail
      simp only [hN.out]
      refine wp_region_noPanic ?_
      refine region_H (S := fun W => W.cell? ⟨N, 0, none⟩ = some (.int .i64 k) ∧ W.cell? ⟨N, 1, none⟩ = some (.slice B os.length cb)) (by kernel_rfl) ?_
      change wpH _ _ _ _ 7 _ _ w2.drew
      generalize w2.drew = X0 at *
      refine H_takeD (k := 0) (v := .agg #[.int .i64 k, .slice B os.length cb]) (d := some 18) rfl rfl (by decide +kernel) (fun _ _ _ h => h) (Or.inl ⟨by rfl, fun W hW => by obtain ⟨s0, s1⟩ := hW; go_simp⟩) ⟨HV2.out.cell 0, HV2.out.cell 1⟩ ?_
      try simp only [Act.put, List.setIfInBounds_toArray, List.set_cons_zero, List.set_cons_succ]
      refine H_takeD (k := 1) (v := .slice A l.length c) (d := some 19) rfl rfl (by decide +kernel) (fun _ _ _ h => h) (Or.inl ⟨by rfl, fun W hW => by obtain ⟨s0, s1⟩ := hW; go_simp⟩) ⟨HV2.out.cell 0, HV2.out.cell 1⟩ ?_
      try simp only [Act.put, List.setIfInBounds_toArray, List.set_cons_zero, List.set_cons_succ]
      refine H_takeD (k := 2) (v := .int .i64 d) (d := some 20) rfl rfl (by decide +kernel) (fun _ _ _ h => h) (Or.inl ⟨by rfl, fun W hW => by obtain ⟨s0, s1⟩ := hW; go_simp⟩) ⟨HV2.out.cell 0, HV2.out.cell 1⟩ ?_
      try simp only [Act.put, List.setIfInBounds_toArray, List.set_cons_zero, List.set_cons_succ]
      refine H_one (i := 3) (by decide +kernel) (H_step rfl rfl (fun K hK3 => ?_))
      have hK3 := Lib.hid hK3
      go_simp
      go_at_call 54
      refine (active_any A c l d _ HA2.out hl).mono ?_
      rintro e w3 ⟨v3, rfl, hown, hb⟩
      obtain ⟨A3, c3, rfl⟩ := own_slice hown
      have HO3 := Lib.hid (SC.own hown)
      have HB3 := Lib.hid (HB2.out.trans (hb.mono HB2.out.size))
      have HV3 := Lib.hid (HV2.out.below hb HV2.out.lt)
      have HI3 := Lib.hid (SI.below HI2.out hb)
      clear hown hb
      refine hK3.out _ _ ⟨HV3.out.cell 0, HV3.out.cell 1⟩ ?_
      try simp only [Act.put, List.setIfInBounds_toArray, List.set_cons_zero, List.set_cons_succ]
      refine H_one (i := 4) (by decide +kernel) (H_step rfl rfl (fun K hK4 => ?_))
      have hK4 := Lib.hid hK4
      go_simp
      go_at_call 53
      refine (shows_any k B cb os A3 c3 (actL l d) w3 HI3.out hos HO3.out (Nat.le_trans (List.length_filter_le _ _) hl)).mono ?_
      rintro e w4 ⟨rfl, hb⟩
      have HB4 := Lib.hid (HB3.out.trans (hb.mono HB3.out.size))
      have HV4 := Lib.hid (HV3.out.below hb HV3.out.lt)
      rw [HSh.out]
      clear hb
      refine hK4.out _ _ ⟨HV4.out.cell 0, HV4.out.cell 1⟩ ?_
      try simp only [Act.put, List.setIfInBounds_toArray, List.set_cons_zero, List.set_cons_succ]
      refine H_takeD (k := 5) (v := .bool sh) (d := some 6) rfl rfl (by decide +kernel) (fun _ _ _ h => h) (Or.inl ⟨by rfl, fun W hW => by obtain ⟨s0, s1⟩ := hW; go_simp⟩) ⟨HV4.out.cell 0, HV4.out.cell 1⟩ ?_
      try simp only [Act.put, List.setIfInBounds_toArray, List.set_cons_zero, List.set_cons_succ]
      refine H_takeD (k := 6) (v := .int .i64 0) (d := some 7) rfl rfl (by decide +kernel) (fun _ _ _ h => h) (Or.inl ⟨by rfl, fun W hW => by obtain ⟨s0, s1⟩ := hW; go_simp⟩) ⟨HV4.out.cell 0, HV4.out.cell 1⟩ ?_
      try simp only [Act.put, List.setIfInBounds_toArray, List.set_cons_zero, List.set_cons_succ]
      refine H_end (by decide +kernel) (NoPanic.normal ?_)
      try simp only [Act.put, List.setIfInBounds_toArray, List.set_cons_zero, List.set_cons_succ]
      go_wp2_with fail
      exact bodyPost_ret (v := .tuple #[.bool sh, .int .i64 0]) (by simp [results, Try.results23, go_sem]) rfl ⟨by rw [HE.out, HR.out, hsh.out], HB4.out⟩
  · have hE := shw_bad (d := d) he
    have HE := Lib.hid hE.1
    have HR := Lib.hid hE.2
    rw [he] at HC
    clear he hE
    go_enter Try.func23, Try.ntmps23
    go_wp2_with fail
    refine HC.out.mono ?_
    generalize w.alloc (.cells #[.int .i64 k, .slice B os.length cb] 28) = W0 at *
    rintro e w1 ⟨rfl, hb⟩
    have HB1 := Lib.hid (HB.out.trans (hb.mono (Nat.le_of_lt HZ.out)))
    clear hb v0 v1
    go_wp2_with fail
    exact bodyPost_ret (v := .tuple #[.bool false, .int .i64 1]) (by simp [results, Try.results23, go_sem]) rfl ⟨by rw [HE.out, HR.out], HB1.out⟩
set_option linter.unusedSimpArgs false in
set_option maxHeartbeats 4000000 in
set_option maxRecDepth 100000 in
theorem refShows_any (k : Int) (B : Option Addr) (cb : Nat) (os : List Int) (A : Option Addr) (c : Nat) (l : List Cl) (d : Int) (w : World) (hB : SI w B os) (hos : os.length ≤ 1000000) (hA : SC w A l) (hl : l.length ≤ 1000000) :
    Calls Try.prog 29 #[.agg #[.int .i64 k, .slice B os.length cb], .slice A l.length c, .int .i64 d] w fun e w' => e = .returned (.tuple #[.bool (shwR k os l d), .int .i64 (shwE k os l d)]) ∧ Below w.heap.size w w' := by
  have hb0 := (Below.refl w.heap.size w).alloc (Nat.le_refl _) (.cells #[.int .i64 k, .slice B os.length cb] 28)
  have HV := Lib.hid (Bk.new w 28 #[.int .i64 k, .slice B os.length cb])
  have v0 : (w.alloc (.cells #[.int .i64 k, .slice B os.length cb] 28)).cell? ⟨w.heap.size, 0, none⟩ = some (.int .i64 k) := HV.out.cell 0
  have v1 : (w.alloc (.cells #[.int .i64 k, .slice B os.length cb] 28)).cell? ⟨w.heap.size, 1, none⟩ = some (.slice B os.length cb) := HV.out.cell 1
  have HA := Lib.hid (SC.below hA hb0)
  have HI := Lib.hid (SI.below hB hb0)
  have HB := Lib.hid hb0
  have HZ := Lib.hid (show w.heap.size < (w.alloc (.cells #[.int .i64 k, .slice B os.length cb] 28)).heap.size from by simp)
  have HC := Lib.hid (refCheck_any k B cb os A c l _ HI.out hos HA.out hl)
  clear hA hB hb0
  rcases ckE_01 k os l with he | he
  · rw [he] at HC
    have hdc : d < 0 ∨ (¬ d < 0 ∧ d > 73048) ∨ (¬ d < 0 ∧ ¬ d > 73048) := by omega
    rcases hdc with h0 | ⟨h0, h1⟩ | ⟨h0, h1⟩
    · have hE := shw_day he (show inB d 0 73048 = false from inB_false (by omega))
      have HE := Lib.hid hE.1
      have HR := Lib.hid hE.2
      clear he hE
      go_enter Try.func29, Try.ntmps29
      go_wp2_with fail
      refine HC.out.mono ?_
      generalize w.alloc (.cells #[.int .i64 k, .slice B os.length cb] 28) = W0 at *
      rintro e w1 ⟨rfl, hb⟩
      have HB1 := Lib.hid (HB.out.trans (hb.mono (Nat.le_of_lt HZ.out)))
      clear hb v0 v1
      go_wp2_with fail
      exact bodyPost_ret (v := .tuple #[.bool false, .int .i64 5]) (by simp [results, Try.results29, go_sem]) rfl ⟨by rw [HE.out, HR.out], HB1.out⟩
    · have hE := shw_day he (show inB d 0 73048 = false from inB_false (by omega))
      have HE := Lib.hid hE.1
      have HR := Lib.hid hE.2
      clear he hE
      go_enter Try.func29, Try.ntmps29
      go_wp2_with fail
      refine HC.out.mono ?_
      generalize w.alloc (.cells #[.int .i64 k, .slice B os.length cb] 28) = W0 at *
      rintro e w1 ⟨rfl, hb⟩
      have HB1 := Lib.hid (HB.out.trans (hb.mono (Nat.le_of_lt HZ.out)))
      clear hb v0 v1
      go_wp2_with fail
      exact bodyPost_ret (v := .tuple #[.bool false, .int .i64 5]) (by simp [results, Try.results29, go_sem]) rfl ⟨by rw [HE.out, HR.out], HB1.out⟩
    · have hE := shw_ok he (show inB d 0 73048 = true from inB_true (by omega))
      have HE := Lib.hid hE.1
      have HR := Lib.hid hE.2
      clear he hE
      go_enter Try.func29, Try.ntmps29
      go_wp2_with fail
      refine HC.out.mono ?_
      generalize w.alloc (.cells #[.int .i64 k, .slice B os.length cb] 28) = W0 at *
      rintro e w1 ⟨rfl, hb⟩
      have HB1 := Lib.hid (HB.out.trans (hb.mono (Nat.le_of_lt HZ.out)))
      have HS := Lib.hid (refShown_any k B cb os A c l d w1 (SI.below HI.out hb) hos (SC.below HA.out hb) hl)
      have x0 : w1.cell? ⟨w.heap.size, 0, none⟩ = some (.int .i64 k) := (HV.out.below hb HV.out.lt).cell 0
      have x1 : w1.cell? ⟨w.heap.size, 1, none⟩ = some (.slice B os.length cb) := (HV.out.below hb HV.out.lt).cell 1
      obtain ⟨sh, hsh⟩ : ∃ q, Hid (shownD k os l d = q) := ⟨_, Lib.hid rfl⟩
      rw [hsh.out] at HS HR
      clear hb v0 v1
      go_wp2_with fail
      refine HS.out.mono ?_
      rintro e w2 ⟨rfl, hb⟩
      have HB2 := Lib.hid (HB1.out.trans (hb.mono HB1.out.size))
      clear hb
      go_wp2_with fail
      exact bodyPost_ret (v := .tuple #[.bool sh, .int .i64 0]) (by simp [results, Try.results29, go_sem]) rfl ⟨by rw [HE.out, HR.out], HB2.out⟩
  · have hE := shw_bad (d := d) he
    have HE := Lib.hid hE.1
    have HR := Lib.hid hE.2
    rw [he] at HC
    clear he hE
    go_enter Try.func29, Try.ntmps29
    go_wp2_with fail
    refine HC.out.mono ?_
    generalize w.alloc (.cells #[.int .i64 k, .slice B os.length cb] 28) = W0 at *
    rintro e w1 ⟨rfl, hb⟩
    have HB1 := Lib.hid (HB.out.trans (hb.mono (Nat.le_of_lt HZ.out)))
    clear hb v0 v1
    go_wp2_with fail
    exact bodyPost_ret (v := .tuple #[.bool false, .int .i64 1]) (by simp [results, Try.results29, go_sem]) rfl ⟨by rw [HE.out, HR.out], HB1.out⟩
end Go.Proofs.Ytgeciimakjfnfaa
