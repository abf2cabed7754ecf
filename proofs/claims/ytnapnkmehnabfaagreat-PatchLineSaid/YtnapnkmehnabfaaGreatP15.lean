import Derived.Test.YtnapnkmehnabfaaGreatP14
namespace Go.Proofs.YtnapnkmehnabfaaGreat
open Go.RowKit Go.Maps

set_option linter.unusedSimpArgs false in
set_option maxHeartbeats 4000000 in
set_option maxRecDepth 100000 in
theorem rule61_any (S : Nat) (p : Pa) (a : Pw) (k : Nat) (x : Int) (w : World) (hk : Bk w S 34 (paC p a)) (hT : SU w a.n p.needs) (hx : p.needs[k]? = some x) (hl : p.needs.length ≤ 1099511627776) :
    Calls Tryz.prog 120 #[.int .i64 (k : Int), .int .u64 x, .pointer (some ⟨S, 0, none⟩)] w fun e w' => e = .returned (.int .i64 (ndW p.needs k)) ∧ w = w' := by
  have hkl := (List.getElem?_eq_some_iff.1 hx).1
  obtain ⟨R, hR⟩ : ∃ z, Hid (ndW p.needs k = z) := ⟨_, Lib.hid rfl⟩
  rw [hR.out]
  have g2 : w.cell? ⟨S, 2, none⟩ = some (.slice a.n p.needs.length a.cn) := hk.cell 2
  clear hk
  cases k with
  | zero =>
    have hr := Lib.hid (show R = 0 from by rw [← hR.out, ndW, if_neg (by omega)])
    clear hR hx hT
    go_enter Tryz.func120, Tryz.ntmps120
    go_wp2_with fail
    refine (when_any false 16 w).mono ?_
    rintro e w1 ⟨rfl, rfl⟩
    go_wp2_with fail
    go_ret
    exact ⟨by rw [hr.out]; rfl, rfl⟩
  | succ k =>
    obtain ⟨b, o, y, hae, c0, hy⟩ := hT.get (k := k) (by omega)
    rw [hae] at g2
    have hr := Lib.hid (show R = if x ≤ y then 16 else 0 from by rw [← hR.out, ndW_at hy.out hx])
    have k0 : (0 : Int) ≤ (k : Int) := by omega
    have hw : IntKind.i64.wrap ((k : Int) + 1 - 1) = (k : Int) := by rw [IntWalk.i64_in _ (by omega)]; omega
    have hmx : ∀ (ts : Array TypeId) (t : TypeId) (W : World), (Builtin.max_ ts t #[.int .i64 0, .int .i64 (k : Int)]).run Tryz.prog W = .ok (.int .i64 (k : Int)) W := fun ts t W => by
      rw [Lib.run_max_ints W ts t .i64 .i64 0 (k : Int), Int.max_eq_right k0]
    have hkk : k < p.needs.length := by omega
    clear hR hx hT hae hy hkl
    by_cases hxy : x ≤ y
    · rw [if_pos hxy] at hr
      go_enter Tryz.func120, Tryz.ntmps120
      go_wp2_with fail
      refine (when_any true 16 w).mono ?_
      rintro e w1 ⟨rfl, rfl⟩
      go_wp2_with fail
      go_ret
      exact ⟨by rw [hr.out]; rfl, rfl⟩
    · rw [if_neg hxy] at hr
      go_enter Tryz.func120, Tryz.ntmps120
      go_wp2_with fail
      refine (when_any false 16 w).mono ?_
      rintro e w1 ⟨rfl, rfl⟩
      go_wp2_with fail
      go_ret
      exact ⟨by rw [hr.out]; rfl, rfl⟩
end Go.Proofs.YtnapnkmehnabfaaGreat
