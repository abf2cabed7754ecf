import Derived.Test.YtnapnkmehnabfaaGreatP08
namespace Go.Proofs.YtnapnkmehnabfaaGreat
open Go.RowKit Go.Maps

/-- The bytes of a string. -/
def bl (s : ByteArray) : List Nat := s.data.toList.map UInt8.toNat
theorem bl_len (s : ByteArray) : (bl s).length = s.size := by
  unfold bl
  rw [List.length_map, Array.length_toList]
  rfl
theorem bl_lt (s : ByteArray) : ∀ c ∈ bl s, c < 256 := by
  intro c hc
  obtain ⟨x, _, rfl⟩ := List.mem_map.1 hc
  exact x.toNat_lt
theorem bl_get (s : ByteArray) {k : Nat} (h : k < s.size) : (bl s)[k]? = some (s[k]'h).toNat := by
  have h2 : k < s.data.toList.length := by rw [Array.length_toList]; exact h
  simp only [bl, List.getElem?_map, List.getElem?_eq_getElem h2, Option.map_some, Array.getElem_toList]
  rfl
/-- A byte of a string. -/
def byt (s : ByteArray) (k : Nat) : Int := (((bl s).getD k 0 : Nat) : Int)
def okB (k : Nat) (b : Int) : Bool := (decide (97 ≤ b) && decide (b ≤ 122)) || (decide (k ≠ 0) && ((decide (48 ≤ b) && decide (b ≤ 57)) || decide (b = 45)))
/-- Whether a text is a name. -/
def namB (s : ByteArray) : Bool := decide (1 ≤ s.size) && decide (s.size ≤ 16) && (List.range s.size).all fun k => okB k (byt s k)
theorem idx_str (s : ByteArray) {k : Nat} (h : k < s.size) (W : World) : (Instr.index 9 (.string s) (.int .i64 (k : Int))).run Tryz.prog W = .ok (.int .u8 (byt s k)) W := by
  rw [run_index_string W 9 s .i64 (k : Int) Tryz.underlying9, dif_pos ⟨by omega, by omega⟩]
  have e : byt s k = ((s[k]'h).toNat : Int) := by rw [byt, List.getD, bl_get s h, Option.getD_some]
  rw [e]
  rfl
theorem namB_false {s : ByteArray} {k : Nat} (h : k < s.size) (hb : okB k (byt s k) = false) : namB s = false := by
  have h1 : ((List.range s.size).all fun k => okB k (byt s k)) = false := by
    cases h2 : (List.range s.size).all fun k => okB k (byt s k) with
    | false => rfl
    | true => have := (List.all_eq_true.1 h2) k (List.mem_range.2 h); rw [hb] at this; cases this
  rw [namB, h1, Bool.and_false]
theorem namB_all {s : ByteArray} (h : ∀ j, j < s.size → okB j (byt s j) = true) : namB s = (decide (1 ≤ s.size) && decide (s.size ≤ 16)) := by
  have h1 : ((List.range s.size).all fun k => okB k (byt s k)) = true := List.all_eq_true.2 (fun k hk => h k (List.mem_range.1 hk))
  rw [namB, h1, Bool.and_true]
theorem okB_next {s : ByteArray} {k : Nat} (h : ∀ j, j < k → okB j (byt s j) = true) (hb : okB k (byt s k) = true) : ∀ j, j < k + 1 → okB j (byt s j) = true := fun j hj => by
  by_cases e : j = k
  · rw [e]; exact hb
  · exact h j (by omega)

set_option linter.unusedSimpArgs false in
set_option maxHeartbeats 4000000 in
set_option maxRecDepth 100000 in
theorem refNamed_any (s : ByteArray) (w : World) : Calls Tryz.prog 165 #[.string s] w fun e w' => e = .returned (.bool (namB s)) ∧ w = w' := by
  obtain ⟨R, hR⟩ : ∃ z, Hid (namB s = z) := ⟨_, Lib.hid rfl⟩
  rw [hR.out]
  by_cases hs1 : 1 ≤ s.size
  · by_cases hs2 : s.size ≤ 16
    · have f1 : ¬ (s.size : Int) < 1 := by omega
      have f2 : ¬ (16 : Int) < (s.size : Int) := by omega
      have Hs := Lib.hid (And.intro hs1 hs2)
      clear hs1 hs2
      go_enter Tryz.func165, Tryz.ntmps165
      go_wp2_with fail
      go_loopw [3] (fun v wr => ∃ k : Nat, k ≤ s.size ∧ v = .int .i64 k ∧ Hid (∀ j, j < k → okB j (byt s j) = true) ∧ w = wr) (fun v _ => s.size - (intOf v).toNat)
      case atStart => exact ⟨0, by omega, rfl, Lib.hid (fun j hj => by omega), rfl⟩
      case round =>
        obtain ⟨k, hk, rfl, hp, rfl⟩ := hrel
        by_cases hlt : k < s.size
        · have k0 : (0 : Int) ≤ (k : Int) := by omega
          have hix := idx_str s hlt
          obtain ⟨b, hb⟩ : ∃ z, Hid (byt s k = z) := ⟨_, Lib.hid rfl⟩
          rw [hb.out] at hix
          have hfl : okB k b = false → R = false := fun h => by rw [← hR.out]; exact namB_false hlt (by rw [hb.out]; exact h)
          have hnx : okB k b = true → ∀ j, j < k + 1 → okB j (byt s j) = true := fun h => okB_next hp.out (by rw [hb.out]; exact h)
          have Hfl := Lib.hid hfl
          have Hnx := Lib.hid hnx
          clear hfl hnx hp hb
          have hc : (b < 45) ∨ (b = 45) ∨ (45 < b ∧ b < 48) ∨ (48 ≤ b ∧ b ≤ 57) ∨ (57 < b ∧ b < 97) ∨ (97 ≤ b ∧ b ≤ 122) ∨ (122 < b) := by omega
          rcases hc with hcc | hcc | hcc | hcc | hcc | hcc | hcc
          · have q1 : ¬ 97 ≤ b := by omega
            have q2 : b ≤ 122 := by omega
            have q3 : ¬ 48 ≤ b := by omega
            have q4 : b ≤ 57 := by omega
            have q5 : (b == 45) = false := beq_eq_false_iff_ne.2 (by omega)
            have hok : okB k b = false := by simp [okB]; omega
            have hk3 : k = 0 ∨ 0 < k := by omega
            rcases hk3 with hk3 | hk3
            · have z1 : ((k : Int) == 0) = true := by simp [hk3]
              clear hk3
              have hr := Lib.hid (Hfl.out hok)
              clear hok Hfl Hnx hcc
              go_wp2_with fail
              go_ret
              exact ⟨by rw [hr.out]; rfl, rfl⟩
            · have z1 : ((k : Int) == 0) = false := beq_eq_false_iff_ne.2 (by omega)
              have hr := Lib.hid (Hfl.out hok)
              clear hok Hfl Hnx hcc
              go_wp2_with fail
              go_ret
              exact ⟨by rw [hr.out]; rfl, rfl⟩
          · have q1 : ¬ 97 ≤ b := by omega
            have q2 : b ≤ 122 := by omega
            have q3 : ¬ 48 ≤ b := by omega
            have q4 : b ≤ 57 := by omega
            have q5 : (b == 45) = true := beq_iff_eq.2 (by omega)
            have hk3 : k = 0 ∨ 0 < k := by omega
            rcases hk3 with hk3 | hk3
            · have hok : okB k b = false := by simp [okB, hk3]; omega
              have z1 : ((k : Int) == 0) = true := by simp [hk3]
              clear hk3
              have hr := Lib.hid (Hfl.out hok)
              clear hok Hfl Hnx hcc
              go_wp2_with fail
              go_ret
              exact ⟨by rw [hr.out]; rfl, rfl⟩
            · have hok : okB k b = true := by simp [okB]; omega
              have z1 : ((k : Int) == 0) = false := beq_eq_false_iff_ne.2 (by omega)
              have Hp := Lib.hid (Hnx.out hok)
              clear hok Hfl Hnx hcc
              go_wp2_with fail
              go_roundw
              case rel => exact ⟨k + 1, by omega, by go_num, Hp, by first | trivial | rfl⟩
              case measure => simp [intOf]; omega
          · have q1 : ¬ 97 ≤ b := by omega
            have q2 : b ≤ 122 := by omega
            have q3 : ¬ 48 ≤ b := by omega
            have q4 : b ≤ 57 := by omega
            have q5 : (b == 45) = false := beq_eq_false_iff_ne.2 (by omega)
            have hok : okB k b = false := by simp [okB]; omega
            have hk3 : k = 0 ∨ 0 < k := by omega
            rcases hk3 with hk3 | hk3
            · have z1 : ((k : Int) == 0) = true := by simp [hk3]
              clear hk3
              have hr := Lib.hid (Hfl.out hok)
              clear hok Hfl Hnx hcc
              go_wp2_with fail
              go_ret
              exact ⟨by rw [hr.out]; rfl, rfl⟩
            · have z1 : ((k : Int) == 0) = false := beq_eq_false_iff_ne.2 (by omega)
              have hr := Lib.hid (Hfl.out hok)
              clear hok Hfl Hnx hcc
              go_wp2_with fail
              go_ret
              exact ⟨by rw [hr.out]; rfl, rfl⟩
          · have q1 : ¬ 97 ≤ b := by omega
            have q2 : b ≤ 122 := by omega
            have q3 : 48 ≤ b := by omega
            have q4 : b ≤ 57 := by omega
            have q5 : (b == 45) = false := beq_eq_false_iff_ne.2 (by omega)
            have hk3 : k = 0 ∨ 0 < k := by omega
            rcases hk3 with hk3 | hk3
            · have hok : okB k b = false := by simp [okB, hk3]; omega
              have z1 : ((k : Int) == 0) = true := by simp [hk3]
              clear hk3
              have hr := Lib.hid (Hfl.out hok)
              clear hok Hfl Hnx hcc
              go_wp2_with fail
              go_ret
              exact ⟨by rw [hr.out]; rfl, rfl⟩
            · have hok : okB k b = true := by simp [okB]; omega
              have z1 : ((k : Int) == 0) = false := beq_eq_false_iff_ne.2 (by omega)
              have Hp := Lib.hid (Hnx.out hok)
              clear hok Hfl Hnx hcc
              go_wp2_with fail
              go_roundw
              case rel => exact ⟨k + 1, by omega, by go_num, Hp, by first | trivial | rfl⟩
              case measure => simp [intOf]; omega
          · have q1 : ¬ 97 ≤ b := by omega
            have q2 : b ≤ 122 := by omega
            have q3 : 48 ≤ b := by omega
            have q4 : ¬ b ≤ 57 := by omega
            have q5 : (b == 45) = false := beq_eq_false_iff_ne.2 (by omega)
            have hok : okB k b = false := by simp [okB]; omega
            have hk3 : k = 0 ∨ 0 < k := by omega
            rcases hk3 with hk3 | hk3
            · have z1 : ((k : Int) == 0) = true := by simp [hk3]
              clear hk3
              have hr := Lib.hid (Hfl.out hok)
              clear hok Hfl Hnx hcc
              go_wp2_with fail
              go_ret
              exact ⟨by rw [hr.out]; rfl, rfl⟩
            · have z1 : ((k : Int) == 0) = false := beq_eq_false_iff_ne.2 (by omega)
              have hr := Lib.hid (Hfl.out hok)
              clear hok Hfl Hnx hcc
              go_wp2_with fail
              go_ret
              exact ⟨by rw [hr.out]; rfl, rfl⟩
          · have q1 : 97 ≤ b := by omega
            have q2 : b ≤ 122 := by omega
            have q3 : 48 ≤ b := by omega
            have q4 : ¬ b ≤ 57 := by omega
            have q5 : (b == 45) = false := beq_eq_false_iff_ne.2 (by omega)
            have hok : okB k b = true := by simp [okB]; omega
            have Hp := Lib.hid (Hnx.out hok)
            clear hok Hfl Hnx hcc
            go_wp2_with fail
            go_roundw
            case rel => exact ⟨k + 1, by omega, by go_num, Hp, by first | trivial | rfl⟩
            case measure => simp [intOf]; omega
          · have q1 : 97 ≤ b := by omega
            have q2 : ¬ b ≤ 122 := by omega
            have q3 : 48 ≤ b := by omega
            have q4 : ¬ b ≤ 57 := by omega
            have q5 : (b == 45) = false := beq_eq_false_iff_ne.2 (by omega)
            have hok : okB k b = false := by simp [okB]; omega
            have hk3 : k = 0 ∨ 0 < k := by omega
            rcases hk3 with hk3 | hk3
            · have z1 : ((k : Int) == 0) = true := by simp [hk3]
              clear hk3
              have hr := Lib.hid (Hfl.out hok)
              clear hok Hfl Hnx hcc
              go_wp2_with fail
              go_ret
              exact ⟨by rw [hr.out]; rfl, rfl⟩
            · have z1 : ((k : Int) == 0) = false := beq_eq_false_iff_ne.2 (by omega)
              have hr := Lib.hid (Hfl.out hok)
              clear hok Hfl Hnx hcc
              go_wp2_with fail
              go_ret
              exact ⟨by rw [hr.out]; rfl, rfl⟩
        · have hr := Lib.hid (show R = true from by rw [← hR.out, namB_all (fun j hj => hp.out j (by omega)), decide_eq_true Hs.out.1, decide_eq_true Hs.out.2]; rfl)
          clear hp
          go_wp2_with fail
          go_ret
          exact ⟨by rw [hr.out]; rfl, rfl⟩
    · have hr := Lib.hid (show R = false from by rw [← hR.out, namB, decide_eq_false hs2]; simp)
      have f1 : ¬ (s.size : Int) < 1 := by omega
      have f2 : (16 : Int) < (s.size : Int) := by omega
      clear hs1 hs2
      go_enter Tryz.func165, Tryz.ntmps165
      go_wp2_with fail
      go_ret
      exact ⟨by rw [hr.out]; rfl, rfl⟩
  · have hr := Lib.hid (show R = false from by rw [← hR.out, namB, decide_eq_false hs1]; rfl)
    have f1 : (s.size : Int) < 1 := by omega
    clear hs1
    go_enter Tryz.func165, Tryz.ntmps165
    go_wp2_with fail
    go_ret
    exact ⟨by rw [hr.out]; rfl, rfl⟩
end Go.Proofs.YtnapnkmehnabfaaGreat
