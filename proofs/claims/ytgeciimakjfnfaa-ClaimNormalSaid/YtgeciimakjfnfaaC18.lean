import Derived.Test.YtgeciimakjfnfaaC17
namespace Go.Proofs.Ytgeciimakjfnfaa
open Go.RowKit Go.Maps

/-- The error of a view and claims. -/
def ckE (k : Int) (os : List Int) (l : List Cl) : Int := if vwE k os = 0 then allE l else 1
theorem ckE_01 (k : Int) (os : List Int) (l : List Cl) : ckE k os l = 0 ∨ ckE k os l = 1 := by
  unfold ckE
  split
  · exact allE_01 l
  · exact .inr rfl
theorem ckE_iff {k : Int} {os : List Int} {l : List Cl} : ckE k os l = 0 ↔ vwE k os = 0 ∧ allE l = 0 := by
  unfold ckE
  by_cases h : vwE k os = 0
  · rw [if_pos h]; exact ⟨fun q => ⟨h, q⟩, fun q => q.2⟩
  · rw [if_neg h]; exact ⟨fun q => (by cases q), fun q => (h q.1).elim⟩
theorem orErr_any (A : Option Addr) (c : Nat) (zs : List Int) (w : World) (hA : SI w A zs) (hl : zs.length ≤ 1099511627776) :
    Calls Try.prog 74 #[.slice A zs.length c] w fun e w' => e = .returned (.int .i64 (orE zs)) ∧ w = w' := by
  go_enter Try.func74, Try.ntmps74
  go_wp2
  go_loop [8] (fun i => ∃ k : Nat, k ≤ zs.length ∧ i = .int .i64 k ∧ Hid (orE zs = orE (zs.drop k))) (fun i => zs.length - (intOf i).toNat)
  case atStart => exact ⟨0, by omega, rfl, rfl⟩
  case round =>
    obtain ⟨k, hk, rfl, hall⟩ := hrel
    by_cases hlt : k < zs.length
    · obtain ⟨b1, o1, x, rfl, hc1, hx⟩ := hA.get (k := k) hlt
      have hs : Hid (orE zs = if x ≠ 0 then x else orE (zs.drop (k + 1))) := by
        show _ = _
        rw [hall.out, orE_drop hx.out]
      clear hall
      cases hc : (x != 0)
      · have hx0 : x = 0 := by simpa using hc
        have hs2 : Hid (orE zs = orE (zs.drop (k + 1))) := by show _ = _; rw [hs.out, if_neg (by simp [hx0])]
        clear hx0
        go_wp2
        go_round
        case rel => exact ⟨k + 1, by omega, by go_num, hs2⟩
        case measure => simp [intOf]; omega
      · have hx0 : x ≠ 0 := by simpa using hc
        have hs2 : Hid (orE zs = x) := by show _ = _; rw [hs.out, if_pos hx0]
        clear hx0
        go_wp2
        go_ret
        exact ⟨ret_int hs2.out.symm, rfl⟩
    · have hs : Hid (orE zs = 0) := by
        show _ = _
        rw [hall.out, List.drop_of_length_le (by omega : zs.length ≤ k)]; rfl
      go_wp2
      go_ret
      exact ⟨ret_int hs.out.symm, rfl⟩
theorem ck_or (k : Int) (os : List Int) (l : List Cl) : orE [vwE k os, allE l] = ckE k os l := by
  unfold ckE
  rcases vwE_01 k os with h | h
  · rcases allE_01 l with h2 | h2 <;> simp [orE, h, h2]
  · simp [orE, h]
set_option linter.unusedSimpArgs false in
set_option maxHeartbeats 2000000 in
set_option maxRecDepth 100000 in
theorem check_any (k : Int) (B : Option Addr) (cb : Nat) (os : List Int) (A : Option Addr) (c : Nat) (l : List Cl) (w : World) (hB : SI w B os) (hos : os.length ≤ 1000000) (hA : SC w A l) (hl : l.length ≤ 1000000) :
    Calls Try.prog 52 #[.agg #[.int .i64 k, .slice B os.length cb], .slice A l.length c] w fun e w' => e = .returned (.int .i64 (ckE k os l)) ∧ Below w.heap.size w w' := by
  have hb0 := (Below.refl w.heap.size w).alloc (Nat.le_refl _) (.cells #[.int .i64 k, .slice B os.length cb] 28)
  have hV := Bk.new w 28 #[.int .i64 k, .slice B os.length cb]
  have v0 : (w.alloc (.cells #[.int .i64 k, .slice B os.length cb] 28)).cell? ⟨w.heap.size, 0, none⟩ = some (.int .i64 k) := hV.cell 0
  have v1 : (w.alloc (.cells #[.int .i64 k, .slice B os.length cb] 28)).cell? ⟨w.heap.size, 1, none⟩ = some (.slice B os.length cb) := hV.cell 1
  have HA := Lib.hid (SC.below hA hb0)
  have HI := Lib.hid (SI.below hB hb0)
  have HB := Lib.hid hb0
  have HZ := Lib.hid (show w.heap.size ≤ (w.alloc (.cells #[.int .i64 k, .slice B os.length cb] 28)).heap.size from by simp)
  have HC := Lib.hid (ck_or k os l)
  clear hA hB hb0 hV
  obtain ⟨e1, he1⟩ : ∃ q, Hid (vwE k os = q) := ⟨_, Lib.hid rfl⟩
  obtain ⟨e2, he2⟩ : ∃ q, Hid (allE l = q) := ⟨_, Lib.hid rfl⟩
  rw [he1.out, he2.out] at HC
  go_enter Try.func52, Try.ntmps52
  go_wp2_with fail
  refine (validView_any k B cb os _ HI.out hos).mono ?_
  generalize w.alloc (.cells #[.int .i64 k, .slice B os.length cb] 28) = W0 at *
  rintro e w1 ⟨rfl, hb1⟩
  have HA1 := Lib.hid (SC.below HA.out hb1)
  have HB1 := Lib.hid (HB.out.trans (hb1.mono HZ.out))
  rw [he1.out]
  clear hb1 v0 v1
  go_wp2_with fail
  refine (valid_any A c l _ HA1.out (by omega)).mono ?_
  rintro e w2 ⟨rfl, hb2⟩
  have HB2 := Lib.hid ((HB1.out.trans (hb2.mono HB1.out.size)).alloc (by have := HB1.out.size; have := hb2.size; omega) (.cells #[.int .i64 e1, .int .i64 e2] 31))
  have HS := Lib.hid (show SI (w2.alloc (.cells #[.int .i64 e1, .int .i64 e2] 31)) (some ⟨w2.heap.size, 0, none⟩) [e1, e2] from sl_bk (Bk.new w2 31 #[.int .i64 e1, .int .i64 e2]))
  rw [he2.out]
  clear hb2
  go_wp2_with fail
  refine (orErr_any (some ⟨w2.heap.size, 0, none⟩) 2 [e1, e2] _ HS.out (by simp)).mono ?_
  rintro e w3 ⟨rfl, rfl⟩
  rw [HC.out]
  go_wp2_with fail
  go_ret
  exact ⟨rfl, HB2.out⟩
set_option linter.unusedSimpArgs false in
set_option maxHeartbeats 2000000 in
set_option maxRecDepth 100000 in
theorem refCheck_any (k : Int) (B : Option Addr) (cb : Nat) (os : List Int) (A : Option Addr) (c : Nat) (l : List Cl) (w : World) (hB : SI w B os) (hos : os.length ≤ 1000000) (hA : SC w A l) (hl : l.length ≤ 1000000) :
    Calls Try.prog 56 #[.agg #[.int .i64 k, .slice B os.length cb], .slice A l.length c] w fun e w' => e = .returned (.int .i64 (ckE k os l)) ∧ Below w.heap.size w w' := by
  have hb0 := (Below.refl w.heap.size w).alloc (Nat.le_refl _) (.cells #[.int .i64 k, .slice B os.length cb] 28)
  have hV := Bk.new w 28 #[.int .i64 k, .slice B os.length cb]
  have v0 : (w.alloc (.cells #[.int .i64 k, .slice B os.length cb] 28)).cell? ⟨w.heap.size, 0, none⟩ = some (.int .i64 k) := hV.cell 0
  have v1 : (w.alloc (.cells #[.int .i64 k, .slice B os.length cb] 28)).cell? ⟨w.heap.size, 1, none⟩ = some (.slice B os.length cb) := hV.cell 1
  have HA := Lib.hid (SC.below hA hb0)
  have HB := Lib.hid hb0
  have HZ := Lib.hid (show w.heap.size ≤ (w.alloc (.cells #[.int .i64 k, .slice B os.length cb] 28)).heap.size from by simp)
  have HV := Lib.hid (refValidView_any k B cb os _ (SI.below hB hb0) hos)
  clear hA hB hb0 hV
  rcases vwE_01 k os with h1 | h1
  · rw [h1] at HV
    have HE := Lib.hid (show ckE k os l = allE l from if_pos h1)
    rw [HE.out]
    clear h1
    rcases allE_01 l with h2 | h2
    · have HL := Lib.hid (fun W hW => h2 ▸ refAll_any A c l W hW (by omega))
      rw [h2]
      clear h2
      go_enter Try.func56, Try.ntmps56
      go_wp2_with fail
      refine HV.out.mono ?_
      generalize w.alloc (.cells #[.int .i64 k, .slice B os.length cb] 28) = W0 at *
      rintro e w1 ⟨rfl, hb1⟩
      have HA1 := Lib.hid (SC.below HA.out hb1)
      have HB1 := Lib.hid (HB.out.trans (hb1.mono HZ.out))
      clear hb1 v0 v1
      go_wp2_with fail
      refine (HL.out _ HA1.out).mono ?_
      rintro e w2 ⟨rfl, hb2⟩
      have HB2 := Lib.hid (HB1.out.trans (hb2.mono HB1.out.size))
      clear hb2
      go_wp2_with fail
      go_ret
      exact ⟨rfl, HB2.out⟩
    · have HL := Lib.hid (fun W hW => h2 ▸ refAll_any A c l W hW (by omega))
      rw [h2]
      clear h2
      go_enter Try.func56, Try.ntmps56
      go_wp2_with fail
      refine HV.out.mono ?_
      generalize w.alloc (.cells #[.int .i64 k, .slice B os.length cb] 28) = W0 at *
      rintro e w1 ⟨rfl, hb1⟩
      have HA1 := Lib.hid (SC.below HA.out hb1)
      have HB1 := Lib.hid (HB.out.trans (hb1.mono HZ.out))
      clear hb1 v0 v1
      go_wp2_with fail
      refine (HL.out _ HA1.out).mono ?_
      rintro e w2 ⟨rfl, hb2⟩
      have HB2 := Lib.hid (HB1.out.trans (hb2.mono HB1.out.size))
      clear hb2
      go_wp2_with fail
      go_ret
      exact ⟨rfl, HB2.out⟩
  · rw [h1] at HV
    have HE := Lib.hid (show ckE k os l = 1 from if_neg (by omega))
    rw [HE.out]
    clear h1
    go_enter Try.func56, Try.ntmps56
    go_wp2_with fail
    refine HV.out.mono ?_
    generalize w.alloc (.cells #[.int .i64 k, .slice B os.length cb] 28) = W0 at *
    rintro e w1 ⟨rfl, hb1⟩
    have HB1 := Lib.hid (HB.out.trans (hb1.mono HZ.out))
    clear hb1 v0 v1
    go_wp2_with fail
    go_ret
    exact ⟨rfl, HB1.out⟩
end Go.Proofs.Ytgeciimakjfnfaa
