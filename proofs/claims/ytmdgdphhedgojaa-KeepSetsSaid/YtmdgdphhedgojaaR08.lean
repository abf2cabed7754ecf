import Derived.Test.YtmdgdphhedgojaaR07
namespace Go.Proofs.Ytmdgdphhedgojaa
open Go.RowKit

theorem isNaN_int (x : Int) (w : World) : Calls Try.prog 73 #[.int .i64 x] w fun e w' => e = .returned (.bool false) ∧ w = w' := by
  go_enter Try.func73, Try.ntmps73
  go_wp2
  go_ret
  exact ⟨ret_bool (by simp), rfl⟩

def cmpI (a b : Int) : Int := if a < b then -1 else if b < a then 1 else 0

theorem compare_int (a b : Int) (w : World) : Calls Try.prog 65 #[.int .i64 a, .int .i64 b] w fun e w' => e = .returned (.int .i64 (cmpI a b)) ∧ w = w' := by
  by_cases h1 : a < b
  · have hs : Hid (cmpI a b = -1) := by show _ = _; rw [cmpI, if_pos h1]
    go_enter Try.func65, Try.ntmps65
    go_wp2_with (go_at_call 73; refine (isNaN_int _ _).mono ?_; rintro e w' ⟨rfl, rfl⟩)
    go_ret
    exact ⟨ret_int hs.out.symm, rfl⟩
  · by_cases h2 : b < a
    · have hs : Hid (cmpI a b = 1) := by show _ = _; rw [cmpI, if_neg h1, if_pos h2]
      go_enter Try.func65, Try.ntmps65
      go_wp2_with (go_at_call 73; refine (isNaN_int _ _).mono ?_; rintro e w' ⟨rfl, rfl⟩)
      go_ret
      exact ⟨ret_int hs.out.symm, rfl⟩
    · have hs : Hid (cmpI a b = 0) := by show _ = _; rw [cmpI, if_neg h1, if_neg h2]
      go_enter Try.func65, Try.ntmps65
      go_wp2_with (go_at_call 73; refine (isNaN_int _ _).mono ?_; rintro e w' ⟨rfl, rfl⟩)
      go_ret
      exact ⟨ret_int hs.out.symm, rfl⟩

theorem less_int (a b : Int) (w : World) : Calls Try.prog 69 #[.int .i64 a, .int .i64 b] w fun e w' => e = .returned (.bool (decide (a < b))) ∧ w = w' := by
  go_enter Try.func69, Try.ntmps69
  go_wp2_with (go_at_call 73; refine (isNaN_int _ _).mono ?_; rintro e w' ⟨rfl, rfl⟩)
  go_ret
  exact ⟨ret_bool (by simp), rfl⟩

def sorted (zs : List Int) : Prop := ∀ j, j + 1 < zs.length → zs.getD j 0 ≤ zs.getD (j + 1) 0
instance (zs : List Int) : Decidable (sorted zs) := decidable_of_iff (∀ j, j < zs.length - 1 → zs.getD j 0 ≤ zs.getD (j + 1) 0) ⟨fun h j hj => h j (by omega), fun h j hj => h j (by omega)⟩

set_option maxHeartbeats 1000000 in
theorem isSorted_any (A : Option Addr) (c : Nat) (zs : List Int) (w : World) (hA : SI w A zs) (hl : zs.length ≤ 4611686018427387904) :
    Calls Try.prog 56 #[.slice A zs.length c] w fun e w' => e = .returned (.bool (decide (sorted zs))) ∧ Qt w w' := by
  go_enter Try.func56, Try.ntmps56
  go_wp2
  go_loopw [3] (fun i wr => ∃ k : Int, -1 ≤ k ∧ k < zs.length ∧ i = .int .i64 k ∧ Hid (∀ j : Nat, k ≤ j → j + 1 < zs.length → zs.getD j 0 ≤ zs.getD (j + 1) 0) ∧ Qt w wr) (fun i _ => (intOf i).toNat)
  case atStart => exact ⟨_, by omega, by omega, rfl, (fun j h1 h2 => by omega), Qt.refl w⟩
  case round =>
    obtain ⟨k, hk1, hk2, rfl, hall, hq⟩ := hrel
    by_cases hlt : 0 < k
    · obtain ⟨k, rfl⟩ : ∃ m : Nat, k = (m : Int) := ⟨k.toNat, by omega⟩
      obtain ⟨b1, o1, x, rfl, hc1, hx⟩ := (hA.qt hq).get (k := k) (by omega)
      obtain ⟨b2, o2, y, he, hc2, hy⟩ := (hA.qt hq).get (k := k - 1) (by omega)
      injection he with he
      injection he with he1 he2
      subst he1 he2
      have i0 : (0 : Int) ≤ (k : Int) := by omega
      have i1 : (0 : Int) ≤ (k : Int) - 1 := by omega
      have i2 : (k : Int) - 1 < zs.length := by omega
      have e1 : IntKind.i64.wrap ((k : Int) - 1) = (k : Int) - 1 := IntWalk.i64_in _ (by omega)
      have e2 : ((k : Int) - 1).toNat = k - 1 := by omega
      go_wp2
      go_quiet ((go_at_call 69; exact (less_int _ _ _).mono fun _ _ h => ⟨h.1, _, h.2.symm⟩))
      clear e1 e2
      by_cases hxy : x < y
      · have hfin : Hid (¬ sorted zs) := fun hs => by
          have := hs (k - 1) (by omega)
          rw [show k - 1 + 1 = k from by omega, getD_of hx.out, getD_of hy.out] at this
          omega
        go_wp2
        go_ret
        exact ⟨ret_bool (by symm; simp only [decide_eq_false_iff_not]; exact hfin.out), hq.drewN _⟩
      · have h2 : Hid (∀ j : Nat, (k : Int) - 1 ≤ j → j + 1 < zs.length → zs.getD j 0 ≤ zs.getD (j + 1) 0) := fun j h1 h2 => by
          by_cases e : j = k - 1
          · subst e
            rw [show k - 1 + 1 = k from by omega, getD_of hx.out, getD_of hy.out]
            omega
          · exact hall.out j (by omega) h2
        go_wp2
        go_roundw
        case rel => exact ⟨(k : Int) - 1, by omega, by omega, rfl, h2, hq.drewN _⟩
        case measure => simp [intOf]; omega
    · go_wp2
      go_ret
      exact ⟨ret_bool (by symm; simp only [decide_eq_true_eq]; exact fun j hj => hall.out j (by omega) hj), hq⟩

/-- The index of the first element that a predicate holds of, or -1. -/
def indexI (p : Int → Bool) : List Int → Int
  | [] => -1
  | x :: zs => if p x then 0 else if indexI p zs < 0 then -1 else indexI p zs + 1

theorem indexI_none {p : Int → Bool} : ∀ {zs : List Int}, (∀ x ∈ zs, p x = false) → indexI p zs = -1
  | [], _ => rfl
  | x :: zs, h => by
    rw [indexI, h x (by simp), indexI_none (zs := zs) fun y hy => h y (by simp [hy])]; simp

theorem indexI_some {p : Int → Bool} : ∀ {zs : List Int} {k : Nat} {x : Int}, zs[k]? = some x → p x = true → (∀ j y, j < k → zs[j]? = some y → p y = false) → indexI p zs = k
  | [], k, x, h, _, _ => by simp at h
  | z :: zs, 0, x, h, hp, _ => by
    simp at h; subst h; rw [indexI, if_pos hp]; rfl
  | z :: zs, k + 1, x, h, hp, hn => by
    have h0 := hn 0 z (by omega) rfl
    have ih := indexI_some (zs := zs) (k := k) (x := x) (by simpa using h) hp fun j y hj hy => hn (j + 1) y (by omega) (by simpa using hy)
    rw [indexI, h0, ih]
    simp
    omega

/-- A weight that is out of range. -/
def badW (x : Int) : Bool := decide (x < 0) || decide (1099511627776 < x)

theorem badW_any (x : Int) (w : World) : Calls Try.prog 50 #[.int .i64 x] w fun e w' => e = .returned (.bool (badW x)) ∧ w = w' := by
  have hs : Hid (badW x = (decide (x < 0) || decide (1099511627776 < x))) := by show _ = _; rfl
  by_cases h : x < 0
  all_goals
    go_enter Try.func50, Try.ntmps50
    go_wp2
    go_ret
    exact ⟨ret_bool (by rw [hs.out]; simp; omega), rfl⟩

set_option maxHeartbeats 1000000 in
theorem indexFunc_any (A : Option Addr) (c : Nat) (zs : List Int) (w : World) (hA : SI w A zs) (hl : zs.length ≤ 4611686018427387904) :
    Calls Try.prog 64 #[.slice A zs.length c, .func (.func 50) #[] #[]] w fun e w' => e = .returned (.int .i64 (indexI badW zs)) ∧ w = w' := by
  go_enter Try.func64, Try.ntmps64
  go_wp2
  go_loop [8] (fun i => ∃ k : Nat, k ≤ zs.length ∧ i = .int .i64 k ∧ Hid (∀ j y, j < k → zs[j]? = some y → badW y = false)) (fun i => zs.length - (intOf i).toNat)
  case atStart => exact ⟨0, by omega, rfl, (fun j _ hj _ => by omega)⟩
  case round =>
    obtain ⟨k, hk, rfl, hall⟩ := hrel
    by_cases hlt : k < zs.length
    · obtain ⟨b1, o1, x, rfl, hc1, hx⟩ := hA.get (k := k) hlt
      go_wp2_with fail
      refine (badW_any x _).mono ?_
      rintro e w' ⟨rfl, rfl⟩
      cases hp : badW x
      · go_wp2_with fail
        go_round
        case rel =>
          refine ⟨k + 1, by omega, by go_num, fun j y hj hy => ?_⟩
          by_cases e : j = k
          · subst e
            have := hx.out
            rw [hy] at this
            injection this with this
            subst this
            exact hp
          · exact hall.out j y (by omega) hy
        case measure => simp [intOf]; omega
      · go_wp2_with fail
        go_ret
        exact ⟨ret_int (indexI_some hx.out hp hall.out).symm, rfl⟩
    · obtain rfl : k = zs.length := by omega
      go_wp2
      go_ret
      exact ⟨ret_int (indexI_none fun x hx => by
        obtain ⟨j, hj, e⟩ := List.getElem_of_mem hx
        exact hall.out j x hj (by rw [List.getElem?_eq_getElem hj, e])).symm, rfl⟩

theorem indexI_nonneg {p : Int → Bool} (zs : List Int) : decide (0 ≤ indexI p zs) = zs.any p := by
  induction zs with
  | nil => simp [indexI]
  | cons x zs ih =>
    rw [List.any_cons, ← ih, indexI]
    by_cases hp : p x
    · simp [hp]
    · simp only [hp, Bool.false_eq_true, if_false, Bool.false_or]
      by_cases h : indexI p zs < 0
      · rw [if_pos h]; simp; omega
      · rw [if_neg h]; simp; omega

set_option maxHeartbeats 400000 in
theorem containsFunc_any (A : Option Addr) (c : Nat) (zs : List Int) (w : World) (hA : SI w A zs) (hl : zs.length ≤ 4611686018427387904) :
    Calls Try.prog 49 #[.slice A zs.length c, .func (.func 50) #[] #[]] w fun e w' => e = .returned (.bool (zs.any badW)) ∧ w = w' := by
  have h := indexFunc_any A c zs w hA hl
  have H := Lib.hid h
  clear h
  go_enter Try.func49, Try.ntmps49
  go_wp2_with fail
  refine H.out.mono ?_
  rintro e w' ⟨rfl, rfl⟩
  go_wp2_with fail
  go_ret
  exact ⟨ret_bool (indexI_nonneg zs), rfl⟩
end Go.Proofs.Ytmdgdphhedgojaa
