import Derived.Test.YtnapnkmehnabfaaGreatP03
namespace Go.Proofs.YtnapnkmehnabfaaGreat
open Go.RowKit Go.Maps

theorem when_any (b : Bool) (x : Int) (w : World) : Calls Tryz.prog 110 #[.bool b, .int .i64 x] w fun e w' => e = .returned (.int .i64 (if b then x else 0)) ∧ w = w' := by
  cases b
  all_goals
    go_enter Tryz.func110, Tryz.ntmps110
    go_wp2_with fail
    go_ret
    exact ⟨rfl, rfl⟩
/-- The first error. -/
def orE : List Int → Int
  | [] => 0
  | x :: l => if x ≠ 0 then x else orE l
theorem orE_drop {l : List Int} {k : Nat} {x : Int} (h : l[k]? = some x) : orE (l.drop k) = if x ≠ 0 then x else orE (l.drop (k + 1)) := by
  obtain ⟨hk, rfl⟩ := List.getElem?_eq_some_iff.1 h
  rw [List.drop_eq_getElem_cons hk, orE]
set_option maxHeartbeats 1000000 in
set_option maxRecDepth 100000 in
theorem or_any (A : Option Addr) (c : Nat) (l : List Int) (w : World) (hA : SI w A l) (hl : l.length ≤ 1099511627776) :
    Calls Tryz.prog 114 #[.slice A l.length c] w fun e w' => e = .returned (.int .i64 (orE l)) ∧ w = w' := by
  obtain ⟨R, hR⟩ : ∃ z, Hid (orE l = z) := ⟨_, Lib.hid rfl⟩
  rw [hR.out]
  go_enter Tryz.func114, Tryz.ntmps114
  go_wp2_with fail
  go_loopw [8] (fun v wr => ∃ k : Nat, k ≤ l.length ∧ v = .int .i64 k ∧ Hid (orE (l.drop k) = R) ∧ w = wr) (fun v _ => l.length - (intOf v).toNat)
  case atStart => exact ⟨0, by omega, rfl, Lib.hid (by rw [List.drop_zero]; exact hR.out), rfl⟩
  case round =>
    obtain ⟨k, hk, rfl, hd, rfl⟩ := hrel
    by_cases hlt : k < l.length
    · obtain ⟨b, o, y, rfl, hc, hy⟩ := hA.get hlt
      have k0 : (0 : Int) ≤ (k : Int) := by omega
      have hd2 := hd.out
      rw [orE_drop hy.out] at hd2
      by_cases hy0 : y = 0
      · have hb : (y != 0) = false := by simp [hy0]
        rw [if_neg (by simp [hy0])] at hd2
        have Hd2 := Lib.hid hd2
        clear hd hd2 hy hy0 hA
        go_wp2_with fail
        go_roundw
        case rel => exact ⟨k + 1, by omega, by go_num, Hd2, by first | trivial | rfl⟩
        case measure => simp [intOf]; omega
      · have hb : (y != 0) = true := by simp [hy0]
        rw [if_pos hy0] at hd2
        have Hd2 := Lib.hid hd2
        clear hd hd2 hy hy0 hA
        go_wp2_with fail
        go_ret
        exact ⟨by rw [← Hd2.out]; rfl, rfl⟩
    · have Hd2 := Lib.hid (show R = 0 from by rw [← hd.out, List.drop_eq_nil_of_le (by omega)]; rfl)
      clear hd hA
      go_wp2_with fail
      go_ret
      exact ⟨by rw [Hd2.out]; rfl, rfl⟩
/-- A list of uint64. -/
def SU (w : World) (A : Option Addr) (zs : List Int) : Prop := SL w A (zs.map (Value.int .u64))
theorem SU.get {w : World} {A : Option Addr} {zs : List Int} {k : Nat} (h : SU w A zs) (hk : k < zs.length) : ∃ b o x, A = some ⟨b, o, none⟩ ∧ w.cell? ⟨b, o + k, none⟩ = some (.int .u64 x) ∧ Hid (zs[k]? = some x) := by
  obtain ⟨b, o, e, _, hc⟩ := SL.at_ h (k := k) (by simpa using hk)
  exact ⟨b, o, zs[k], e, by simpa using hc, Lib.hid (List.getElem?_eq_getElem hk)⟩
set_option maxHeartbeats 1000000 in
theorem needed_any (A : Option Addr) (c : Nat) (l : List Int) (x : Int) (w : World) (hA : SU w A l) (hl : l.length ≤ 1099511627776) :
    Calls Tryz.prog 44 #[.slice A l.length c, .int .u64 x] w fun e w' => e = .returned (.bool (decide (x ∈ l))) ∧ w = w' := by
  go_enter Tryz.func44, Tryz.ntmps44
  go_wp2
  go_loopw [5] (fun i wr => ∃ k : Nat, k ≤ l.length ∧ i = .int .i64 k ∧ Hid (x ∉ l.take k) ∧ w = wr) (fun i _ => l.length - (intOf i).toNat)
  case atStart => exact ⟨0, by omega, rfl, Lib.hid (by simp), rfl⟩
  case round =>
    obtain ⟨k, hk, rfl, hno, rfl⟩ := hrel
    by_cases hlt : k < l.length
    · obtain ⟨b, o, y, rfl, hc, hy⟩ := hA.get hlt
      have k0 : (0 : Int) ≤ (k : Int) := by omega
      have htk := Lib.hid (take_snoc' hy.out)
      by_cases hxy : y = x
      · have hb : (y == x) = true := by simp [hxy]
        have hmem : Hid (decide (x ∈ l) = true) := Lib.hid (by simp [← hxy, List.mem_of_getElem? hy.out])
        clear hy htk hno hA hxy
        go_wp2_with fail
        go_ret
        exact ⟨by rw [hmem.out]; rfl, rfl⟩
      · have hb : (y == x) = false := by simp [hxy]
        have hno2 : Hid (x ∉ l.take (k + 1)) := by
          rw [htk.out]
          exact Lib.hid (by simp [hno.out, Ne.symm hxy])
        clear hy htk hno hA hxy
        go_wp2_with fail
        go_roundw
        case rel => exact ⟨k + 1, by omega, by go_num, hno2, by first | trivial | rfl⟩
        case measure => simp [intOf]; omega
    · obtain rfl : k = l.length := by omega
      have hmem : Hid (decide (x ∈ l) = false) := Lib.hid (by have := hno.out; rw [List.take_length] at this; simp [this])
      clear hno hA
      go_wp2_with fail
      go_ret
      exact ⟨by rw [hmem.out]; rfl, rfl⟩
end Go.Proofs.YtnapnkmehnabfaaGreat
