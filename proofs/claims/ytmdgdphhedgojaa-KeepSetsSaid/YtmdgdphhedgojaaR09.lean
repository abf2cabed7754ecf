import Derived.Test.YtmdgdphhedgojaaR08
namespace Go.Proofs.Ytmdgdphhedgojaa
open Go.RowKit

def cmpL : List Int → List Int → Int
  | [], [] => 0
  | [], _ :: _ => -1
  | _ :: _, [] => 1
  | x :: xs, y :: ys => if cmpI x y != 0 then cmpI x y else cmpL xs ys

theorem drop_of {zs : List Int} {k : Nat} {x : Int} (h : zs[k]? = some x) : zs.drop k = x :: zs.drop (k + 1) := by
  obtain ⟨hk, e⟩ := List.getElem?_eq_some_iff.1 h
  rw [List.drop_eq_getElem_cons hk, e]

set_option maxHeartbeats 1000000 in
theorem sliceCompare_any (A B : Option Addr) (c d : Nat) (xs ys : List Int) (w : World) (hA : SI w A xs) (hB : SI w B ys) (hl : xs.length ≤ 4611686018427387904) :
    Calls Try.prog 51 #[.slice A xs.length c, .slice B ys.length d] w fun e w' => e = .returned (.int .i64 (cmpL xs ys)) ∧ w = w' := by
  go_enter Try.func51, Try.ntmps51
  go_wp2
  go_loop [11] (fun i => ∃ k : Nat, k ≤ xs.length ∧ k ≤ ys.length ∧ i = .int .i64 k ∧ Hid (cmpL xs ys = cmpL (xs.drop k) (ys.drop k))) (fun i => xs.length - (intOf i).toNat)
  case atStart => exact ⟨0, by omega, by omega, rfl, rfl⟩
  case round =>
    obtain ⟨k, hk, hk2, rfl, hall⟩ := hrel
    by_cases hlt : k < xs.length
    · obtain ⟨b1, o1, x, rfl, hc1, hx⟩ := hA.get (k := k) hlt
      by_cases hlt2 : k < ys.length
      · obtain ⟨b2, o2, y, rfl, hc2, hy⟩ := hB.get (k := k) hlt2
        have hs : Hid (cmpL xs ys = if cmpI x y != 0 then cmpI x y else cmpL (xs.drop (k + 1)) (ys.drop (k + 1))) := by
          show _ = _
          rw [hall.out, drop_of hx.out, drop_of hy.out, cmpL]
        have i0 : (0 : Int) ≤ k := by omega
        clear hall
        cases hc : (cmpI x y != 0)
        · have hs2 : Hid (cmpL xs ys = cmpL (xs.drop (k + 1)) (ys.drop (k + 1))) := by show _ = _; rw [hs.out, hc]; rfl
          go_wp2_with (go_at_call 65; refine (compare_int _ _ _).mono ?_; rintro e w' ⟨rfl, rfl⟩)
          go_round
          case rel => exact ⟨k + 1, by omega, by omega, by go_num, hs2⟩
          case measure => simp [intOf]; omega
        · have hs2 : Hid (cmpL xs ys = cmpI x y) := by show _ = _; rw [hs.out, hc]; rfl
          go_wp2_with (go_at_call 65; refine (compare_int _ _ _).mono ?_; rintro e w' ⟨rfl, rfl⟩)
          go_ret
          exact ⟨ret_int hs2.out.symm, rfl⟩
      · have hs : Hid (cmpL xs ys = 1) := by
          show _ = _
          rw [hall.out, drop_of hx.out, List.drop_of_length_le (by omega : ys.length ≤ k), cmpL]
        have i0 : (0 : Int) ≤ k := by omega
        go_wp2
        go_ret
        exact ⟨ret_int hs.out.symm, rfl⟩
    · by_cases hlt2 : k < ys.length
      · have hs : Hid (cmpL xs ys = -1) := by
          show _ = _
          rw [hall.out, List.drop_of_length_le (by omega : xs.length ≤ k), List.drop_eq_getElem_cons hlt2, cmpL]
        go_wp2
        go_ret
        exact ⟨ret_int hs.out.symm, rfl⟩
      · have hs : Hid (cmpL xs ys = 0) := by
          show _ = _
          rw [hall.out, List.drop_of_length_le (by omega : xs.length ≤ k), List.drop_of_length_le (by omega : ys.length ≤ k), cmpL]
        go_wp2
        go_ret
        exact ⟨ret_int hs.out.symm, rfl⟩

/-- The first number that is not 0, or 0. -/
def orI : List Int → Int
  | [] => 0
  | x :: zs => if x != 0 then x else orI zs

set_option maxHeartbeats 1000000 in
theorem orErr_any (A : Option Addr) (c : Nat) (zs : List Int) (w : World) (hA : SI w A zs) (hl : zs.length ≤ 4611686018427387904) :
    Calls Try.prog 37 #[.slice A zs.length c] w fun e w' => e = .returned (.int .i64 (orI zs)) ∧ w = w' := by
  go_enter Try.func37, Try.ntmps37
  go_wp2
  go_loop [8] (fun i => ∃ k : Nat, k ≤ zs.length ∧ i = .int .i64 k ∧ Hid (orI zs = orI (zs.drop k))) (fun i => zs.length - (intOf i).toNat)
  case atStart => exact ⟨0, by omega, rfl, rfl⟩
  case round =>
    obtain ⟨k, hk, rfl, hall⟩ := hrel
    by_cases hlt : k < zs.length
    · obtain ⟨b1, o1, x, rfl, hc1, hx⟩ := hA.get (k := k) hlt
      have hs : Hid (orI zs = if x != 0 then x else orI (zs.drop (k + 1))) := by
        show _ = _
        rw [hall.out, drop_of hx.out, orI]
      clear hall
      cases hc : (x != 0)
      · have hs2 : Hid (orI zs = orI (zs.drop (k + 1))) := by show _ = _; rw [hs.out, hc]; rfl
        go_wp2
        go_round
        case rel => exact ⟨k + 1, by omega, by go_num, hs2⟩
        case measure => simp [intOf]; omega
      · have hs2 : Hid (orI zs = x) := by show _ = _; rw [hs.out, hc]; rfl
        go_wp2
        go_ret
        exact ⟨ret_int hs2.out.symm, rfl⟩
    · have hs : Hid (orI zs = 0) := by
        show _ = _
        rw [hall.out, List.drop_of_length_le (by omega : zs.length ≤ k), orI]
      go_wp2
      go_ret
      exact ⟨ret_int hs.out.symm, rfl⟩

set_option maxHeartbeats 1000000 in
theorem orInt_any (A : Option Addr) (c : Nat) (zs : List Int) (w : World) (hA : SI w A zs) (hl : zs.length ≤ 4611686018427387904) :
    Calls Try.prog 76 #[.slice A zs.length c] w fun e w' => e = .returned (.int .i64 (orI zs)) ∧ w = w' := by
  go_enter Try.func76, Try.ntmps76
  go_wp2
  go_loop [8] (fun i => ∃ k : Nat, k ≤ zs.length ∧ i = .int .i64 k ∧ Hid (orI zs = orI (zs.drop k))) (fun i => zs.length - (intOf i).toNat)
  case atStart => exact ⟨0, by omega, rfl, rfl⟩
  case round =>
    obtain ⟨k, hk, rfl, hall⟩ := hrel
    by_cases hlt : k < zs.length
    · obtain ⟨b1, o1, x, rfl, hc1, hx⟩ := hA.get (k := k) hlt
      have hs : Hid (orI zs = if x != 0 then x else orI (zs.drop (k + 1))) := by
        show _ = _
        rw [hall.out, drop_of hx.out, orI]
      clear hall
      cases hc : (x != 0)
      · have hs2 : Hid (orI zs = orI (zs.drop (k + 1))) := by show _ = _; rw [hs.out, hc]; rfl
        go_wp2
        go_round
        case rel => exact ⟨k + 1, by omega, by go_num, hs2⟩
        case measure => simp [intOf]; omega
      · have hs2 : Hid (orI zs = x) := by show _ = _; rw [hs.out, hc]; rfl
        go_wp2
        go_ret
        exact ⟨ret_int hs2.out.symm, rfl⟩
    · have hs : Hid (orI zs = 0) := by
        show _ = _
        rw [hall.out, List.drop_of_length_le (by omega : zs.length ≤ k), orI]
      go_wp2
      go_ret
      exact ⟨ret_int hs.out.symm, rfl⟩

/-- The error of a list of thresholds. -/
def thrB (zs : List Int) : Bool := decide (zs.length < 1) || decide (24 < zs.length) || decide (zs.getD 0 0 < 0) || !decide (sorted zs) || decide (1152921504606846976 < zs.getD (zs.length - 1) 0)
def thrE (zs : List Int) : Int := if thrB zs then 1 else 0

set_option maxHeartbeats 1000000 in
theorem thresholds_any (A : Option Addr) (c : Nat) (zs : List Int) (w : World) (hA : SI w A zs) (hl : zs.length ≤ 4611686018427387904) :
    Calls Try.prog 38 #[.slice A zs.length c] w fun e w' => e = .returned (.int .i64 (thrE zs)) ∧ Qt w w' := by
  by_cases h1 : zs.length < 1
  · have hs : Hid (thrE zs = 1) := by show _ = _; rw [thrE, if_pos (by simp only [thrB, h1]; simp)]
    go_enter Try.func38, Try.ntmps38
    go_wp2
    go_ret
    exact ⟨ret_int hs.out.symm, Qt.refl _⟩
  · by_cases h2 : 24 < zs.length
    · have hs : Hid (thrE zs = 1) := by show _ = _; rw [thrE, if_pos (by simp only [thrB, h2]; simp)]
      go_enter Try.func38, Try.ntmps38
      go_wp2
      go_ret
      exact ⟨ret_int hs.out.symm, Qt.refl _⟩
    · obtain ⟨b1, o1, x, rfl, hc1, hx⟩ := hA.get (k := 0) (by omega)
      obtain ⟨b2, o2, y, he, hc2, hy⟩ := hA.get (k := zs.length - 1) (by omega)
      injection he with he
      injection he with he1 he2
      subst he1 he2
      rw [Nat.add_zero] at hc1
      by_cases h3 : x < 0
      · have hs : Hid (thrE zs = 1) := by show _ = _; rw [thrE, if_pos (by simp only [thrB, getD_of hx.out, h3]; simp)]
        go_enter Try.func38, Try.ntmps38
        go_wp2
        go_ret
        exact ⟨ret_int hs.out.symm, Qt.refl _⟩
      · have hIS := isSorted_any (some ⟨b1, o1, none⟩) c zs w hA hl
        have HIS := Lib.hid hIS
        clear hIS
        cases h4 : decide (sorted zs)
        · have hs : Hid (thrE zs = 1) := by show _ = _; rw [thrE, if_pos (by simp only [thrB, h4]; simp)]
          go_enter Try.func38, Try.ntmps38
          go_wp2_with fail
          refine HIS.out.mono ?_
          rintro e w1 ⟨rfl, hq⟩
          go_wp2_with fail
          go_ret
          exact ⟨ret_int hs.out.symm, hq⟩
        · have hs : Hid (thrE zs = if 1152921504606846976 < y then 1 else 0) := by
            show _ = _
            rw [thrE, thrB, getD_of hx.out, getD_of hy.out, h4]
            simp only [show ¬ zs.length < 1 from h1, show ¬ 24 < zs.length from h2, show ¬ x < 0 from h3]; simp
          go_enter Try.func38, Try.ntmps38
          go_wp2_with fail
          refine HIS.out.mono ?_
          rintro e w1 ⟨rfl, hq⟩
          obtain ⟨n, rfl⟩ := hq
          go_wp2_with fail
          · go_ret
            exact ⟨ret_int (by rw [hs.out, if_pos (by omega)]), _, rfl⟩
          · go_ret
            exact ⟨ret_int (by rw [hs.out, if_neg (by omega)]), _, rfl⟩
end Go.Proofs.Ytmdgdphhedgojaa
