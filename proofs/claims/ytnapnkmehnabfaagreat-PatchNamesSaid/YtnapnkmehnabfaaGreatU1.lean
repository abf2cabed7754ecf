import Derived.Test.YtnapnkmehnabfaaGreatP34
import Derived.Lib.AppendZerosOnto
import Derived.Lib.Walk
import Derived.Lib.SliceRun
namespace Go.Proofs.YtnapnkmehnabfaaGreat
open Go.RowKit Go.Lib

set_option linter.unusedSimpArgs false in
set_option maxHeartbeats 2000000 in
set_option maxRecDepth 100000 in
theorem grow_nil (n : Nat) (w : World) (hn : n ≤ 1000000) : Calls Tryz.prog 153 #[.slice none 0 0, .int .i64 (n : Int)] w fun e w' => ∃ A c, e = .returned (.slice A 0 c) ∧ w'.ownsRow w.heap.size 77 2 (.slice A 0 c) 0 [] ∧ Below w.heap.size w w' := by
 have hw : IntKind.i64.wrap (n : Int) = (n : Int) := IntWalk.i64_in _ ⟨by omega, by omega⟩
 have h0i : ¬ ((n : Int) < 0) := by omega
 rcases Nat.eq_zero_or_pos n with h0 | h0
 ·subst h0
  go_enter Tryz.func153, Tryz.ntmps153
  go_wp2_with fail
  go_ret
  exact ⟨none, 0, rfl, World.ownsRow_nil _ _ _ _, Below.refl _ _⟩
 ·obtain ⟨ht, _, _, _, i, hi, hz, hs, hb⟩ := elt_id
  have hG1 := grownCap_ge w (0 + n) 0 77
  have hG2 := grownCap_le_maxLen w (0 + n) 0 77 (by unfold maxLen; omega)
  have hrz : ∀ ty, (Builtin.append_ #[31, 3] ty #[.slice none 0 0, .int .i64 (n : Int)]).run Tryz.prog w =
    .ok (.slice (some ⟨w.heap.size, 0, none⟩) (0 + n) (grownCap w (0 + n) 0 77)) (w.drew.alloc (.cells (([] : List Value).toArray ++ Builtin.zeroCells (Value.agg #[.int .u64 0, .int .i64 0]).cells n ++ Builtin.zeroCells (Value.agg #[.int .u64 0, .int .i64 0]).cells (grownCap w (0 + n) 0 77 - (0 + n))) 77)) := fun ty =>
   Lib.run_append_grow_zeros w 31 3 ty 77 i _ .i64 .i64 ht Tryz.underlying3 hi hz none 0 0 [] (run_firstCells_none w.drew i.size 0 0 0) n h0 (by rw [hs]; decide) (by omega) (by omega) (by rw [hb]; omega) (growslice_fits (by omega) (by rw [hb]; omega))
  have hB := ((Below.refl w.heap.size w).drew).alloc (Nat.le_refl _) (.cells (([] : List Value).toArray ++ Builtin.zeroCells (Value.agg #[.int .u64 0, .int .i64 0]).cells n ++ Builtin.zeroCells (Value.agg #[.int .u64 0, .int .i64 0]).cells (grownCap w (0 + n) 0 77 - (0 + n))) 77)
  have hK := Bk.new w.drew 77 (([] : List Value).toArray ++ Builtin.zeroCells (Value.agg #[.int .u64 0, .int .i64 0]).cells n ++ Builtin.zeroCells (Value.agg #[.int .u64 0, .int .i64 0]).cells (grownCap w (0 + n) 0 77 - (0 + n)))
  have hsz : (([] : List Value).toArray ++ Builtin.zeroCells (Value.agg #[.int .u64 0, .int .i64 0]).cells n ++ Builtin.zeroCells (Value.agg #[.int .u64 0, .int .i64 0]).cells (grownCap w (0 + n) 0 77 - (0 + n))).size = grownCap w (0 + n) 0 77 * 2 := by
   have hG4 := hG1
   rw [Nat.zero_add] at hG4
   simp [Builtin.zeroCells, Value.cells]
   omega
  obtain ⟨ob, hob⟩ : ∃ z, Hid (([] : List Value).toArray ++ Builtin.zeroCells (Value.agg #[.int .u64 0, .int .i64 0]).cells n ++ Builtin.zeroCells (Value.agg #[.int .u64 0, .int .i64 0]).cells (grownCap w (0 + n) 0 77 - (0 + n)) = z) := ⟨_, Lib.hid rfl⟩
  rw [hob.out] at hrz hB hK hsz
  obtain ⟨G, hG⟩ : ∃ z, Hid (grownCap w (0 + n) 0 77 = z) := ⟨_, Lib.hid rfl⟩
  rw [hG.out] at hrz hG1 hG2 hsz
  have HB := Lib.hid hB
  have HK := Lib.hid hK
  have Hsz := Lib.hid hsz
  have hG3 : G ≤ 9223372036854775807 := by unfold maxLen at hG2; omega
  have hn0 : (n : Int) > 0 := by omega
  clear hB hK hsz ht hi hz hs hb
  go_enter Tryz.func153, Tryz.ntmps153
  go_wp2_with (at_builtin; refine Lib.wpList_append_run _ rfl _ _ _ _ rfl _ _ rfl rfl _ _ (hrz _) ?_)
  go_ret
  exact ⟨_, G, rfl, ⟨by simp, .inr ⟨w.heap.size, G, ob, rfl, Nat.le_refl _, HK.out, by omega, hG2, Hsz.out, by simp⟩⟩, HB.out⟩
end Go.Proofs.YtnapnkmehnabfaaGreat
