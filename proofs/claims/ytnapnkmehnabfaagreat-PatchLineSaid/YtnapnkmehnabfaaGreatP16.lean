import Derived.Test.YtnapnkmehnabfaaGreatP15
namespace Go.Proofs.YtnapnkmehnabfaaGreat
open Go.RowKit Go.Maps

set_option linter.unusedSimpArgs false in
set_option maxHeartbeats 4000000 in
set_option maxRecDepth 100000 in
theorem eachU_any (S : Nat) (p : Pa) (a : Pw) (w : World) (hk : Bk w S 34 (paC p a)) (hT : SU w a.n p.needs) (hl : p.needs.length ≤ 1099511627776) :
    Calls Tryz.prog 119 #[.slice a.n p.needs.length a.cn, .func (.func 120) #[] #[.pointer (some ⟨S, 0, none⟩)]] w fun e w' => e = .returned (.int .i64 (eachE (ndW p.needs) p.needs.length)) ∧ w = w' := by
  obtain ⟨R, hR⟩ : ∃ z, Hid (eachE (ndW p.needs) p.needs.length = z) := ⟨_, Lib.hid rfl⟩
  rw [hR.out]
  have Hk := Lib.hid hk
  have HT := Lib.hid hT
  clear hk hT
  go_enter Tryz.func119, Tryz.ntmps119
  go_wp2_with fail
  go_loopw [10] (fun v wr => ∃ k : Nat, k ≤ p.needs.length ∧ v = .int .i64 k ∧ Hid (orE (((List.range p.needs.length).map (ndW p.needs)).drop k) = R) ∧ w = wr) (fun v _ => p.needs.length - (intOf v).toNat)
  case atStart => exact ⟨0, by omega, rfl, Lib.hid (by rw [List.drop_zero]; exact hR.out), rfl⟩
  case round =>
    obtain ⟨k, hk, rfl, hd, rfl⟩ := hrel
    have k0 : (0 : Int) ≤ (k : Int) := by omega
    by_cases hlt : k < p.needs.length
    · obtain ⟨b, o, x, hae, c0, hx⟩ := HT.out.get (k := k) hlt
      have hC := rule61_any S p a k x w Hk.out HT.out hx.out hl
      obtain ⟨z, hz⟩ : ∃ z, Hid (ndW p.needs k = z) := ⟨_, Lib.hid rfl⟩
      rw [hz.out] at hC
      have hd2 := hd.out
      rw [eachE_drop hlt, hz.out] at hd2
      have Hd2 := Lib.hid hd2
      clear hd hd2 hx hz
      rw [hae]
      go_wp2_with fail
      refine hC.mono ?_
      rintro e w1 ⟨rfl, rfl⟩
      by_cases f1 : z = 0
      · have b1 : (z != 0) = false := by simp [f1]
        have Hd3 := Lib.hid (show orE (((List.range p.needs.length).map (ndW p.needs)).drop (k + 1)) = R from by have h := Hd2.out; rw [if_neg (by simp [f1])] at h; exact h)
        clear Hd2 f1
        go_wp2_with fail
        go_roundw
        case rel => exact ⟨k + 1, by omega, by go_num, Hd3, by first | trivial | rfl⟩
        case measure => simp [intOf]; omega
      · have b1 : (z != 0) = true := by simp [f1]
        have hr := Lib.hid (show R = z from by have h := Hd2.out; rw [if_pos f1] at h; exact h.symm)
        clear Hd2 f1
        go_wp2_with fail
        go_ret
        exact ⟨by rw [hr.out]; rfl, rfl⟩
    · have hr := Lib.hid (show R = 0 from by rw [← hd.out, List.drop_eq_nil_of_le (by simp; omega)]; rfl)
      clear hd
      go_wp2_with fail
      go_ret
      exact ⟨by rw [hr.out]; rfl, rfl⟩
end Go.Proofs.YtnapnkmehnabfaaGreat
