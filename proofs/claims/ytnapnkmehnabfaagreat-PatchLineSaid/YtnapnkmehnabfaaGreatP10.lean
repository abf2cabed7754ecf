import Derived.Test.YtnapnkmehnabfaaGreatP09
import Derived.Laws.IdiomStrings
namespace Go.Proofs.YtnapnkmehnabfaaGreat
open Go.RowKit Go.Maps

theorem bytesRow_at (s : ByteArray) (cap : Nat) {k : Nat} (h : k < s.size) : (bytesRow s cap)[k]? = some (.int .u8 (byt s k)) := by
  have e : byt s k = ((s[k]'h).toNat : Int) := by rw [byt, List.getD, bl_get s h, Option.getD_some]
  have h2 : k < s.data.size := h
  have h3 : k < (s.data.map (fun b => Value.int .u8 b.toNat)).size := by rw [Array.size_map]; exact h2
  rw [bytesRow, Array.getElem?_append_left h3, Array.getElem?_map, Array.getElem?_eq_getElem h2, e]
  rfl
/-- A text as bytes. -/
theorem bytes_of (s : ByteArray) (w : World) : ∃ W c, (convert 9 50 (.string s)).run Tryz.prog w = .ok (.slice (some ⟨w.heap.size, 0, none⟩) s.size c) W ∧ Below w.heap.size w W ∧ w.heap.size < W.heap.size ∧ ∀ k, k < s.size → W.cell? ⟨w.heap.size, k, none⟩ = some (.int .u8 (byt s k)) := by
  refine ⟨_, _, run_bytes_of_string w 9 50 5 s Tryz.underlying9 Tryz.underlying50 Tryz.underlying5, ((Below.refl _ _).drew).alloc (Nat.le_refl _) _, ?_, fun k hk => ?_⟩
  · show w.heap.size < (World.alloc w.drew _).heap.size
    simp
  · refine (cell_of_row _ _ k _ _ _ (heap_alloc_new w.drew _)).trans ?_
    exact bytesRow_at s _ hk

set_option linter.unusedSimpArgs false in
set_option maxHeartbeats 4000000 in
set_option maxRecDepth 100000 in
theorem named_any (s : ByteArray) (w : World) (hl : s.size ≤ 1099511627776) : Calls Tryz.prog 128 #[.string s] w fun e w' => e = .returned (.bool (namB s)) ∧ Below w.heap.size w w' := by
  obtain ⟨R, hR⟩ : ∃ z, Hid (namB s = z) := ⟨_, Lib.hid rfl⟩
  rw [hR.out]
  obtain ⟨W0, c0, hcv, hb0, hz0, hc0⟩ := bytes_of s w
  have Hb0 := Lib.hid hb0
  have Hc0 := Lib.hid hc0
  clear hb0 hc0
  generalize w.heap.size = g at *
  go_enter Tryz.func128, Tryz.ntmps128
  go_wp2_with fail
  go_loopw [9] (fun v wr => ∃ k : Nat, k ≤ s.size ∧ v = .int .i64 k ∧ Hid (∀ j, j < k → okB j (byt s j) = true) ∧ W0 = wr) (fun v _ => s.size - (intOf v).toNat)
  case atStart => exact ⟨0, by omega, rfl, Lib.hid (fun j hj => by omega), rfl⟩
  case round =>
    obtain ⟨k, hk, rfl, hp, rfl⟩ := hrel
    by_cases hlt : k < s.size
    · have k0 : (0 : Int) ≤ (k : Int) := by omega
      obtain ⟨b, hb⟩ : ∃ z, Hid (byt s k = z) := ⟨_, Lib.hid rfl⟩
      have hcb := Hc0.out k hlt
      have Hlt := Lib.hid hlt
      rw [hb.out] at hcb
      have hfl : okB k b = false → R = false := fun h => by rw [← hR.out]; exact namB_false hlt (by rw [hb.out]; exact h)
      have hnx : okB k b = true → ∀ j, j < k + 1 → okB j (byt s j) = true := fun h => okB_next hp.out (by rw [hb.out]; exact h)
      have Hfl := Lib.hid hfl
      have Hnx := Lib.hid hnx
      clear hfl hnx hp hb
      have hc : (b < 45) ∨ (b = 45) ∨ (45 < b ∧ b < 48) ∨ (48 ≤ b ∧ b ≤ 57) ∨ (57 < b ∧ b < 97) ∨ (97 ≤ b ∧ b ≤ 122) ∨ (122 < b) := by omega
      rcases hc with hcc | hcc | hcc | hcc | hcc | hcc | hcc
      · have q1 : ¬ 97 ≤ b := by omega
        have q2 : b ≤ 122 := by omega
        have q3 : b < 48 := by omega
        have q4 : ¬ 57 < b := by omega
        have q5 : (b != 45) = true := bne_iff_ne.2 (by omega)
        have hok : okB k b = false := by simp [okB]; omega
        have hk3 : k = 0 ∨ 0 < k := by omega
        rcases hk3 with hk3 | hk3
        · have z1 : ((k : Int) == 0) = true := by simp [hk3]
          clear hk3
          have hr := Lib.hid (Hfl.out hok)
          clear hok Hfl Hnx hcc
          go_wp2_with fail
          go_ret
          exact ⟨by rw [hr.out]; rfl, Hb0.out⟩
        · have z1 : ((k : Int) == 0) = false := beq_eq_false_iff_ne.2 (by omega)
          have hr := Lib.hid (Hfl.out hok)
          clear hok Hfl Hnx hcc
          go_wp2_with fail
          go_ret
          exact ⟨by rw [hr.out]; rfl, Hb0.out⟩
      · have q1 : ¬ 97 ≤ b := by omega
        have q2 : b ≤ 122 := by omega
        have q3 : b < 48 := by omega
        have q4 : ¬ 57 < b := by omega
        have q5 : (b != 45) = false := bne_eq_false_iff_eq.2 (by omega)
        have hk3 : k = 0 ∨ 0 < k := by omega
        rcases hk3 with hk3 | hk3
        · have hok : okB k b = false := by simp [okB, hk3]; omega
          have z1 : ((k : Int) == 0) = true := by simp [hk3]
          clear hk3
          have hr := Lib.hid (Hfl.out hok)
          clear hok Hfl Hnx hcc
          go_wp2_with fail
          go_ret
          exact ⟨by rw [hr.out]; rfl, Hb0.out⟩
        · have hok : okB k b = true := by simp [okB]; omega
          have z1 : ((k : Int) == 0) = false := beq_eq_false_iff_ne.2 (by omega)
          have Hp := Lib.hid (Hnx.out hok)
          clear hok Hfl Hnx hcc
          go_wp2_with fail
          go_roundw
          case rel => exact ⟨k + 1, by have := Hlt.out; omega, by go_num, Hp, by first | trivial | rfl⟩
          case measure => have := Hlt.out; simp [intOf]; omega
      · have q1 : ¬ 97 ≤ b := by omega
        have q2 : b ≤ 122 := by omega
        have q3 : b < 48 := by omega
        have q4 : ¬ 57 < b := by omega
        have q5 : (b != 45) = true := bne_iff_ne.2 (by omega)
        have hok : okB k b = false := by simp [okB]; omega
        have hk3 : k = 0 ∨ 0 < k := by omega
        rcases hk3 with hk3 | hk3
        · have z1 : ((k : Int) == 0) = true := by simp [hk3]
          clear hk3
          have hr := Lib.hid (Hfl.out hok)
          clear hok Hfl Hnx hcc
          go_wp2_with fail
          go_ret
          exact ⟨by rw [hr.out]; rfl, Hb0.out⟩
        · have z1 : ((k : Int) == 0) = false := beq_eq_false_iff_ne.2 (by omega)
          have hr := Lib.hid (Hfl.out hok)
          clear hok Hfl Hnx hcc
          go_wp2_with fail
          go_ret
          exact ⟨by rw [hr.out]; rfl, Hb0.out⟩
      · have q1 : ¬ 97 ≤ b := by omega
        have q2 : b ≤ 122 := by omega
        have q3 : ¬ b < 48 := by omega
        have q4 : ¬ 57 < b := by omega
        have q5 : (b != 45) = true := bne_iff_ne.2 (by omega)
        have hk3 : k = 0 ∨ 0 < k := by omega
        rcases hk3 with hk3 | hk3
        · have hok : okB k b = false := by simp [okB, hk3]; omega
          have z1 : ((k : Int) == 0) = true := by simp [hk3]
          clear hk3
          have hr := Lib.hid (Hfl.out hok)
          clear hok Hfl Hnx hcc
          go_wp2_with fail
          go_ret
          exact ⟨by rw [hr.out]; rfl, Hb0.out⟩
        · have hok : okB k b = true := by simp [okB]; omega
          have z1 : ((k : Int) == 0) = false := beq_eq_false_iff_ne.2 (by omega)
          have Hp := Lib.hid (Hnx.out hok)
          clear hok Hfl Hnx hcc
          go_wp2_with fail
          go_roundw
          case rel => exact ⟨k + 1, by have := Hlt.out; omega, by go_num, Hp, by first | trivial | rfl⟩
          case measure => have := Hlt.out; simp [intOf]; omega
      · have q1 : ¬ 97 ≤ b := by omega
        have q2 : b ≤ 122 := by omega
        have q3 : ¬ b < 48 := by omega
        have q4 : 57 < b := by omega
        have q5 : (b != 45) = true := bne_iff_ne.2 (by omega)
        have hok : okB k b = false := by simp [okB]; omega
        have hk3 : k = 0 ∨ 0 < k := by omega
        rcases hk3 with hk3 | hk3
        · have z1 : ((k : Int) == 0) = true := by simp [hk3]
          clear hk3
          have hr := Lib.hid (Hfl.out hok)
          clear hok Hfl Hnx hcc
          go_wp2_with fail
          go_ret
          exact ⟨by rw [hr.out]; rfl, Hb0.out⟩
        · have z1 : ((k : Int) == 0) = false := beq_eq_false_iff_ne.2 (by omega)
          have hr := Lib.hid (Hfl.out hok)
          clear hok Hfl Hnx hcc
          go_wp2_with fail
          go_ret
          exact ⟨by rw [hr.out]; rfl, Hb0.out⟩
      · have q1 : 97 ≤ b := by omega
        have q2 : b ≤ 122 := by omega
        have q3 : ¬ b < 48 := by omega
        have q4 : 57 < b := by omega
        have q5 : (b != 45) = true := bne_iff_ne.2 (by omega)
        have hok : okB k b = true := by simp [okB]; omega
        have Hp := Lib.hid (Hnx.out hok)
        clear hok Hfl Hnx hcc
        go_wp2_with fail
        go_roundw
        case rel => exact ⟨k + 1, by have := Hlt.out; omega, by go_num, Hp, by first | trivial | rfl⟩
        case measure => have := Hlt.out; simp [intOf]; omega
      · have q1 : 97 ≤ b := by omega
        have q2 : ¬ b ≤ 122 := by omega
        have q3 : ¬ b < 48 := by omega
        have q4 : 57 < b := by omega
        have q5 : (b != 45) = true := bne_iff_ne.2 (by omega)
        have hok : okB k b = false := by simp [okB]; omega
        have hk3 : k = 0 ∨ 0 < k := by omega
        rcases hk3 with hk3 | hk3
        · have z1 : ((k : Int) == 0) = true := by simp [hk3]
          clear hk3
          have hr := Lib.hid (Hfl.out hok)
          clear hok Hfl Hnx hcc
          go_wp2_with fail
          go_ret
          exact ⟨by rw [hr.out]; rfl, Hb0.out⟩
        · have z1 : ((k : Int) == 0) = false := beq_eq_false_iff_ne.2 (by omega)
          have hr := Lib.hid (Hfl.out hok)
          clear hok Hfl Hnx hcc
          go_wp2_with fail
          go_ret
          exact ⟨by rw [hr.out]; rfl, Hb0.out⟩
    · have hr := Lib.hid (show R = (decide (1 ≤ s.size) && decide (s.size ≤ 16)) from by rw [← hR.out, namB_all (fun j hj => hp.out j (by omega))])
      clear hp
      by_cases hs1 : 0 < s.size
      · have hs2 : (0 : Int) < (s.size : Int) := by omega
        by_cases hs3 : s.size ≤ 16
        · have hs4 : (s.size : Int) ≤ 16 := by omega
          have hr2 := Lib.hid (show R = true from by rw [hr.out, decide_eq_true (show 1 ≤ s.size from hs1), decide_eq_true hs3]; rfl)
          clear hs1 hs3
          go_wp2_with fail
          go_ret
          exact ⟨by rw [hr2.out]; rfl, Hb0.out⟩
        · have hs4 : ¬ (s.size : Int) ≤ 16 := by omega
          have hr2 := Lib.hid (show R = false from by rw [hr.out, decide_eq_false hs3, Bool.and_false])
          clear hs1 hs3
          go_wp2_with fail
          go_ret
          exact ⟨by rw [hr2.out]; rfl, Hb0.out⟩
      · have hs2 : ¬ (0 : Int) < (s.size : Int) := by omega
        have hr2 := Lib.hid (show R = false from by rw [hr.out, decide_eq_false (show ¬ 1 ≤ s.size by omega)]; rfl)
        clear hs1
        go_wp2_with fail
        go_ret
        exact ⟨by rw [hr2.out]; rfl, Hb0.out⟩
end Go.Proofs.YtnapnkmehnabfaaGreat
