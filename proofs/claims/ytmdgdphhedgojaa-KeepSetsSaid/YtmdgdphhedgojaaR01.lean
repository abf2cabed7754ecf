import Derived.Test.YtmdgdphhedgojaaBase
import Derived.Test.YtmdgdphhedgojaaChecked
namespace Go.Proofs.Ytmdgdphhedgojaa
open Go.RowKit

def around (n m : Int) : Int := (if n < 0 then -(n + 1) else n) % m

theorem around_bd (n m : Int) (hm : 1 ≤ m) : 0 ≤ around n m ∧ around n m < m := by
  unfold around; exact ⟨Int.emod_nonneg _ (by omega), Int.emod_lt_of_pos _ (by omega)⟩

theorem around_any (n m : Int) (w : World) (h0 : -9223372036854775808 ≤ n) (h1 : n ≤ 9223372036854775807) (hm : 1 ≤ m) (hm2 : m ≤ 9223372036854775807) :
    Calls Try.prog 20 #[.int .i64 n, .int .i64 m] w fun e w' => e = .returned (.int .i64 (around n m)) ∧ w = w' := by
  by_cases hn : n < 0
  · have hf : Hid ((-(n + 1)).tmod m = around n m) := by
      show _ = _
      rw [around, if_pos hn, Int.tmod_eq_emod_of_nonneg (by omega)]
    go_enter Try.func20, Try.ntmps20
    go_wp2
    go_ret
    exact ⟨ret_int (by rw [← hf.out]; simp), rfl⟩
  · have hn' : 0 ≤ n := by omega
    go_enter Try.func20, Try.ntmps20
    go_wp2
    go_ret
    exact ⟨ret_int (by rw [around, if_neg (by omega)]), rfl⟩

set_option maxHeartbeats 400000 in
theorem sameInts_any (A B : Option Addr) (c d : Nat) (xs ys : List Int) (w : World) (hA : SI w A xs) (hB : SI w B ys)
   (hl : xs.length ≤ 4611686018427387904) (hl2 : ys.length ≤ 4611686018427387904) :
    Calls Try.prog 40 #[.slice A xs.length c, .slice B ys.length d] w fun e w' => e = .returned (.bool (decide (xs = ys))) ∧ Qt w w' := by
  by_cases hne : xs.length = ys.length
  · have Hne := Lib.hid hne
    have hle1 : xs.length ≤ ys.length := by omega
    have hle2 : ys.length ≤ xs.length := by omega
    clear hne
    go_enter Try.func40, Try.ntmps40
    go_wp2
    go_loopw [5] (fun i wr => ∃ k : Nat, k ≤ xs.length ∧ i = .int .i64 k ∧ (∀ j (h1 : j < xs.length) (h2 : j < ys.length), j < k → xs[j] = ys[j]) ∧ Qt w wr) (fun i _ => xs.length - (intOf i).toNat)
    case atStart => exact ⟨0, by omega, rfl, fun j _ _ h => by omega, Qt.refl w⟩
    case round =>
      obtain ⟨k, hk, rfl, hall, hq⟩ := hrel
      have Hall := Lib.hid hall
      clear hall
      obtain ⟨n, rfl⟩ := hq
      by_cases hlt : k < xs.length
      · obtain ⟨b1, o1, rfl, hc1⟩ := hA.at_ hlt
        obtain ⟨b2, o2, rfl, hc2⟩ := hB.at_ (k := k) (by have := Hne.out; omega)
        have i0 : (0 : Int) ≤ (k : Int) := by omega
        have i2 : k < ys.length := by have := Hne.out; omega
        go_wp2
        go_quiet (fail)
        go_wp2
        · go_ret
          have hx : (xs[k] != ys[k]) = true := by assumption
          exact ⟨ret_bool (by simp at hx ⊢; intro h; subst h; exact hx rfl), by first | exact Qt.drewN ⟨n, rfl⟩ _ | exact ⟨_, rfl⟩⟩
        · have hx : (xs[k] != ys[k]) = false := by assumption
          go_roundw
          case rel =>
            refine ⟨k + 1, by omega, by go_num, fun j h1 h2 hj => ?_, by first | exact Qt.drewN ⟨n, rfl⟩ _ | exact ⟨_, rfl⟩⟩
            by_cases e : j = k
            · subst e; simpa using hx
            · exact Hall.out j h1 h2 (by omega)
          case measure => simp [intOf]; omega
      · go_wp2
        go_ret
        exact ⟨ret_bool (by simp; exact List.ext_getElem Hne.out (fun j h1 h2 => Hall.out j h1 h2 (by omega))), n, rfl⟩
  · go_enter Try.func40, Try.ntmps40
    go_wp2
    go_ret
    exact ⟨ret_bool (by simp; intro h; exact hne (by rw [h])), Qt.refl _⟩
end Go.Proofs.Ytmdgdphhedgojaa
