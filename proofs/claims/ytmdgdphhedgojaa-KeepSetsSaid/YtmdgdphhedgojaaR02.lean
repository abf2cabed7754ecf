import Derived.Test.YtmdgdphhedgojaaR01
namespace Go.Proofs.Ytmdgdphhedgojaa
open Go.RowKit

/-- All numbers are of 64 bits. -/
def W64 (zs : List Int) : Prop := ∀ z ∈ zs, -9223372036854775808 ≤ z ∧ z ≤ 9223372036854775807

def pick (l : List Int) (i m : Int) : Int := if 0 ≤ i ∧ i < l.length then around (l.getD i.toNat 0) m else 0

theorem pick_bd (l : List Int) (i m : Int) (hm : 1 ≤ m) : 0 ≤ pick l i m ∧ pick l i m < m := by
  unfold pick
  split
  · exact around_bd _ _ hm
  · omega

set_option maxHeartbeats 400000 in
theorem pick_any (A : Option Addr) (c : Nat) (zs : List Int) (i m : Int) (w : World) (hA : SI w A zs) (hw : W64 zs)
    (hm : 1 ≤ m) (hm2 : m ≤ 9223372036854775807) :
    Calls Try.prog 31 #[.slice A zs.length c, .int .i64 i, .int .i64 m] w fun e w' => e = .returned (.int .i64 (pick zs i m)) ∧ w = w' := by
  by_cases h0 : i < 0
  · have hf : Hid (pick zs i m = 0) := by show _ = _; rw [pick, if_neg (by omega)]
    go_enter Try.func31, Try.ntmps31
    go_wp2
    go_ret
    exact ⟨ret_int hf.out.symm, rfl⟩
  · obtain ⟨k, rfl⟩ := Int.eq_ofNat_of_zero_le (by omega : 0 ≤ i)
    by_cases hk : k < zs.length
    · have hf : Hid (pick zs k m = around zs[k] m) := by
        show _ = _
        rw [pick, if_pos (by omega)]; simp [hk]
      obtain ⟨b, o, rfl, hc⟩ := hA.at_ hk
      have hz := hw zs[k] (List.getElem_mem hk)
      obtain ⟨hz1, hz2⟩ := hz
      clear h0
      go_enter Try.func31, Try.ntmps31
      go_wp2_with (go_at_call 20; refine (around_any _ _ _ hz1 hz2 hm hm2).mono ?_; rintro e w' ⟨rfl, rfl⟩)
      go_ret
      exact ⟨ret_int hf.out.symm, rfl⟩
    · have hf : Hid (pick zs k m = 0) := by show _ = _; rw [pick, if_neg (by omega)]
      clear h0
      go_enter Try.func31, Try.ntmps31
      go_wp2
      go_ret
      exact ⟨ret_int hf.out.symm, rfl⟩

theorem elt_int : Elt Try.prog 22 3 (.int .i64 0) 1 8 := Elt.mk' Try.underlying22 (by kernel_rfl) (by decide) (by decide) rfl

def alone (n : Nat) : List Int := (List.range n).map Int.ofNat
theorem alone_len (n : Nat) : (alone n).length = n := by simp [alone]
theorem alone_succ (n : Nat) : alone (n + 1) = alone n ++ [(n : Int)] := by simp [alone, List.range_succ]

set_option maxHeartbeats 800000 in
theorem alone_any (n : Nat) (w : World) (hn : n ≤ 1099511627776) :
    Calls Try.prog 46 #[.int .i64 n] w fun e w' => ∃ v, e = .returned v ∧ w'.ownsRow w.heap.size 3 1 v n ((alone n).map (Value.int .i64)) ∧ Below w.heap.size w w' := by
  go_enter Try.func46, Try.ntmps46
  go_wp2
  go_loopw [3, 4] (fun v i wr => ∃ k : Nat, k ≤ n ∧ i = .int .i64 k ∧ wr.ownsRow w.heap.size 3 1 v k ((alone k).map (Value.int .i64)) ∧ Below w.heap.size w wr) (fun _ i _ => n - (intOf i).toNat)
  case atStart => exact ⟨0, by omega, rfl, World.ownsRow_nil _ _ _ _, Below.refl _ _⟩
  case round =>
    obtain ⟨k, hk, rfl, hown, hb⟩ := hrel
    have hbs := hb.size
    by_cases hlt : k < n
    · go_wp2_with (at_builtin; refine wpList_app1 rfl _ _ rfl elt_int hown hb rfl rfl (by simp) rfl rfl (by omega) ?_; intro v1 w1 hown1 hb1 _ _ _)
      go_roundw
      case rel => exact ⟨k + 1, by omega, by go_num, by rw [alone_succ, List.map_append]; exact hown1, hb1⟩
      case measure => simp [intOf]; omega
    · obtain rfl : k = n := by omega
      go_wp2
      go_ret
      exact ⟨_, rfl, hown, hb⟩
end Go.Proofs.Ytmdgdphhedgojaa
