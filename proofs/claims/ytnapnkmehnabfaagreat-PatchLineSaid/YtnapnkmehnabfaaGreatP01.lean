import Derived.Test.YtnapnkmehnabfaaGreatGB
namespace Go.Proofs.YtnapnkmehnabfaaGreat
open Go.RowKit Go.Maps

/-- A claim. -/
structure Cl where
  kind : Int
  office : Int
  fr : Int
  til : Int
  dec : Int
def clC (c : Cl) : List Value := [.int .i64 c.kind, .int .i64 c.office, .int .i64 c.fr, .int .i64 c.til, .int .i64 c.dec]
def clV (c : Cl) : Value := .agg #[.int .i64 c.kind, .int .i64 c.office, .int .i64 c.fr, .int .i64 c.til, .int .i64 c.dec]
/-- The error of a claim. -/
def clE (c : Cl) : Int := if 0 ≤ c.kind ∧ c.kind ≤ 2 ∧ 0 ≤ c.office ∧ c.office ≤ 63 ∧ 0 ≤ c.dec ∧ c.dec ≤ 1048576 ∧ 0 ≤ c.fr ∧ c.fr ≤ c.til ∧ c.til ≤ 73048 then 0 else 1
def inB (n lo hi : Int) : Bool := decide (lo ≤ n) && decide (n ≤ hi)
theorem inB_true {n lo hi : Int} (h : lo ≤ n ∧ n ≤ hi) : inB n lo hi = true := by simp [inB, h.1, h.2]
theorem inB_false {n lo hi : Int} (h : ¬ (lo ≤ n ∧ n ≤ hi)) : inB n lo hi = false := by
  unfold inB
  by_cases h1 : lo ≤ n
  · rw [decide_eq_true h1, decide_eq_false (fun h2 => h ⟨h1, h2⟩)]; rfl
  · rw [decide_eq_false h1]; rfl

set_option maxHeartbeats 1000000 in
theorem in_any (n lo hi : Int) (w : World) : Calls Tryz.prog 70 #[.int .i64 n, .int .i64 lo, .int .i64 hi] w fun e w' => e = .returned (.bool (inB n lo hi)) ∧ w = w' := by
  by_cases h : lo ≤ n ∧ n ≤ hi
  · rw [inB_true h]
    obtain ⟨h1, h2⟩ := h
    go_enter Tryz.func70, Tryz.ntmps70
    go_wp2_with fail
    go_ret
    exact ⟨rfl, rfl⟩
  · rw [inB_false h]
    have hc : ¬ lo ≤ n ∨ (lo ≤ n ∧ ¬ n ≤ hi) := by omega
    clear h
    rcases hc with h1 | ⟨h1, h2⟩
    all_goals
      go_enter Tryz.func70, Tryz.ntmps70
      go_wp2_with fail
      go_ret
      exact ⟨rfl, rfl⟩
theorem isDay_any (n : Int) (w : World) : Calls Tryz.prog 72 #[.int .i64 n] w fun e w' => e = .returned (.bool (inB n 0 73048)) ∧ w = w' := by
  go_enter Tryz.func72, Tryz.ntmps72
  go_wp2_with fail
  refine (in_any n 0 73048 w).mono ?_
  rintro e w1 ⟨rfl, rfl⟩
  go_wp2_with fail
  go_ret
  exact ⟨rfl, rfl⟩
theorem isOffice_any (n : Int) (w : World) : Calls Tryz.prog 71 #[.int .i64 n] w fun e w' => e = .returned (.bool (inB n 0 63)) ∧ w = w' := by
  go_enter Tryz.func71, Tryz.ntmps71
  go_wp2_with fail
  refine (in_any n 0 63 w).mono ?_
  rintro e w1 ⟨rfl, rfl⟩
  go_wp2_with fail
  go_ret
  exact ⟨rfl, rfl⟩

set_option maxHeartbeats 4000000 in
theorem refClaim_any (c : Cl) (w : World) : Calls Tryz.prog 45 #[clV c] w fun e w' => e = .returned (.int .i64 (clE c)) ∧ Below w.heap.size w w' := by
  obtain ⟨kind, office, fr, til, dec⟩ := c
  show Calls Tryz.prog 45 #[.agg #[.int .i64 kind, .int .i64 office, .int .i64 fr, .int .i64 til, .int .i64 dec]] w _
  have hb := (Below.refl w.heap.size w).alloc (Nat.le_refl _) (.cells #[.int .i64 kind, .int .i64 office, .int .i64 fr, .int .i64 til, .int .i64 dec] 41)
  have k0 : (w.alloc (.cells #[.int .i64 kind, .int .i64 office, .int .i64 fr, .int .i64 til, .int .i64 dec] 41)).cell? ⟨w.heap.size, 0, none⟩ = some (.int .i64 kind) := (Bk.new w 41 #[.int .i64 kind, .int .i64 office, .int .i64 fr, .int .i64 til, .int .i64 dec]).cell 0
  have k1 : (w.alloc (.cells #[.int .i64 kind, .int .i64 office, .int .i64 fr, .int .i64 til, .int .i64 dec] 41)).cell? ⟨w.heap.size, 1, none⟩ = some (.int .i64 office) := (Bk.new w 41 #[.int .i64 kind, .int .i64 office, .int .i64 fr, .int .i64 til, .int .i64 dec]).cell 1
  have k2 : (w.alloc (.cells #[.int .i64 kind, .int .i64 office, .int .i64 fr, .int .i64 til, .int .i64 dec] 41)).cell? ⟨w.heap.size, 2, none⟩ = some (.int .i64 fr) := (Bk.new w 41 #[.int .i64 kind, .int .i64 office, .int .i64 fr, .int .i64 til, .int .i64 dec]).cell 2
  have k3 : (w.alloc (.cells #[.int .i64 kind, .int .i64 office, .int .i64 fr, .int .i64 til, .int .i64 dec] 41)).cell? ⟨w.heap.size, 3, none⟩ = some (.int .i64 til) := (Bk.new w 41 #[.int .i64 kind, .int .i64 office, .int .i64 fr, .int .i64 til, .int .i64 dec]).cell 3
  have k4 : (w.alloc (.cells #[.int .i64 kind, .int .i64 office, .int .i64 fr, .int .i64 til, .int .i64 dec] 41)).cell? ⟨w.heap.size, 4, none⟩ = some (.int .i64 dec) := (Bk.new w 41 #[.int .i64 kind, .int .i64 office, .int .i64 fr, .int .i64 til, .int .i64 dec]).cell 4
  by_cases hok : 0 ≤ kind ∧ kind ≤ 2 ∧ 0 ≤ office ∧ office ≤ 63 ∧ 0 ≤ dec ∧ dec ≤ 1048576 ∧ 0 ≤ fr ∧ fr ≤ til ∧ til ≤ 73048
  · have he := Lib.hid (show clE ⟨kind, office, fr, til, dec⟩ = 0 from if_pos hok)
    obtain ⟨a0, a1, a2, a3, a4, a5, a6, a7, a8⟩ := hok
    go_enter Tryz.func45, Tryz.ntmps45
    go_wp2_with fail
    go_ret
    exact ⟨by rw [he.out]; rfl, hb⟩
  · have he := Lib.hid (show clE ⟨kind, office, fr, til, dec⟩ = 1 from if_neg hok)
    have hc : (kind < 0) ∨ (¬ kind < 0 ∧ kind > 2) ∨ (¬ kind < 0 ∧ ¬ kind > 2 ∧ office < 0) ∨ (¬ kind < 0 ∧ ¬ kind > 2 ∧ ¬ office < 0 ∧ office > 63) ∨ (¬ kind < 0 ∧ ¬ kind > 2 ∧ ¬ office < 0 ∧ ¬ office > 63 ∧ dec < 0) ∨ (¬ kind < 0 ∧ ¬ kind > 2 ∧ ¬ office < 0 ∧ ¬ office > 63 ∧ ¬ dec < 0 ∧ dec > 1048576) ∨ (¬ kind < 0 ∧ ¬ kind > 2 ∧ ¬ office < 0 ∧ ¬ office > 63 ∧ ¬ dec < 0 ∧ ¬ dec > 1048576 ∧ fr < 0) ∨ (¬ kind < 0 ∧ ¬ kind > 2 ∧ ¬ office < 0 ∧ ¬ office > 63 ∧ ¬ dec < 0 ∧ ¬ dec > 1048576 ∧ ¬ fr < 0 ∧ fr > til) ∨ (¬ kind < 0 ∧ ¬ kind > 2 ∧ ¬ office < 0 ∧ ¬ office > 63 ∧ ¬ dec < 0 ∧ ¬ dec > 1048576 ∧ ¬ fr < 0 ∧ ¬ fr > til ∧ til > 73048) := by omega
    clear hok
    rcases hc with h0 | ⟨h0, h1⟩ | ⟨h0, h1, h2⟩ | ⟨h0, h1, h2, h3⟩ | ⟨h0, h1, h2, h3, h4⟩ | ⟨h0, h1, h2, h3, h4, h5⟩ | ⟨h0, h1, h2, h3, h4, h5, h6⟩ | ⟨h0, h1, h2, h3, h4, h5, h6, h7⟩ | ⟨h0, h1, h2, h3, h4, h5, h6, h7, h8⟩
    all_goals
      go_enter Tryz.func45, Tryz.ntmps45
      go_wp2_with fail
      go_ret
      exact ⟨by rw [he.out]; rfl, hb⟩
end Go.Proofs.YtnapnkmehnabfaaGreat
