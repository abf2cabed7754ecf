import Derived.Test.YtnapnkmehnabfaaGreatP17
namespace Go.Proofs.YtnapnkmehnabfaaGreat
open Go.RowKit Go.Maps

set_option linter.unusedSimpArgs false in
set_option maxHeartbeats 4000000 in
set_option maxRecDepth 100000 in
theorem rule5_any (S : Nat) (p : Pa) (a : Pw) (w : World) (hk : Bk w S 34 (paC p a)) :
    Calls Tryz.prog 117 #[.pointer (some ⟨S, 0, none⟩)] w fun e w' => e = .returned (.int .i64 (limE p)) ∧ w = w' := by
  have g2 : w.cell? ⟨S, 2, none⟩ = some (.slice a.n p.needs.length a.cn) := hk.cell 2
  have g3 : w.cell? ⟨S, 3, none⟩ = some (.slice a.s p.st.length a.cs) := hk.cell 3
  have g4 : w.cell? ⟨S, 4, none⟩ = some (.slice a.l p.pl.length a.cl) := hk.cell 4
  have g5 : w.cell? ⟨S, 5, none⟩ = some (.slice a.m p.ma.length a.cm) := hk.cell 5
  have g6 : w.cell? ⟨S, 6, none⟩ = some (.slice a.e p.er.length a.ce) := hk.cell 6
  have g7 : w.cell? ⟨S, 7, none⟩ = some (.slice a.d p.dr.length a.cd) := hk.cell 7
  have g8 : w.cell? ⟨S, 8, none⟩ = some (.slice a.r p.rt.length a.cr) := hk.cell 8
  obtain ⟨R, hR⟩ : ∃ z, Hid (limE p = z) := ⟨_, Lib.hid rfl⟩
  rw [hR.out]
  clear hk
  by_cases e2 : p.needs.length ≤ 64
  · have t5 : ¬ (64 : Int) < (p.needs.length : Int) := by omega
    have hm6 := fun (ts : Array TypeId) (t : TypeId) (W : World) => run_max6 ts t (p.st.length : Int) (p.pl.length : Int) (p.ma.length : Int) (p.er.length : Int) (p.dr.length : Int) (p.rt.length : Int) W
    obtain ⟨m, hm⟩ : ∃ z, Hid (mx (mx (mx (mx (mx (p.st.length : Int) (p.pl.length : Int)) (p.ma.length : Int)) (p.er.length : Int)) (p.dr.length : Int)) (p.rt.length : Int) = z) := ⟨_, Lib.hid rfl⟩
    rw [hm.out] at hm6
    by_cases e3 : m ≤ 4096
    · have t6 : ¬ (4096 : Int) < m := by omega
      have hr := Lib.hid (show R = 0 from by
        rw [← hm.out, mx_le, mx_le, mx_le, mx_le, mx_le] at e3
        rw [← hR.out]
        exact if_pos (by omega))
      clear hR hm
      go_enter Tryz.func117, Tryz.ntmps117
      go_wp2_with fail
      refine (when_any false 4 w).mono ?_
      rintro e w1 ⟨rfl, rfl⟩
      go_wp2_with fail
      go_ret
      exact ⟨by rw [hr.out]; rfl, rfl⟩
    · have t6 : (4096 : Int) < m := by omega
      have hr := Lib.hid (show R = 4 from by
        rw [← hR.out]
        refine if_neg (fun hc => e3 ?_)
        rw [← hm.out, mx_le, mx_le, mx_le, mx_le, mx_le]
        omega)
      clear hR hm
      go_enter Tryz.func117, Tryz.ntmps117
      go_wp2_with fail
      refine (when_any true 4 w).mono ?_
      rintro e w1 ⟨rfl, rfl⟩
      go_wp2_with fail
      go_ret
      exact ⟨by rw [hr.out]; rfl, rfl⟩
  · have t5 : (64 : Int) < (p.needs.length : Int) := by omega
    have hr := Lib.hid (show R = 4 from by rw [← hR.out]; exact if_neg (fun hc => e2 hc.1))
    clear hR
    go_enter Tryz.func117, Tryz.ntmps117
    go_wp2_with fail
    refine (when_any true 4 w).mono ?_
    rintro e w1 ⟨rfl, rfl⟩
    go_wp2_with fail
    go_ret
    exact ⟨by rw [hr.out]; rfl, rfl⟩
end Go.Proofs.YtnapnkmehnabfaaGreat
