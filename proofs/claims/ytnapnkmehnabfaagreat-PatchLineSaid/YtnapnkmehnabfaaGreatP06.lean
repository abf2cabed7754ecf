import Derived.Test.YtnapnkmehnabfaaGreatP05
import Derived.Test.YtnapnkmehnabfaaGreatT3
import Derived.Deep.RegionHeld3
namespace Go.Proofs.YtnapnkmehnabfaaGreat
open Go.RowKit Go.Maps

/-- The error of element i of a list of names. -/
def idE (needs : List Int) (l : List (Int × Int)) (i : Nat) : Int :=
  if (l.getD i (0, 0)).1 ∉ needs then 12 else if ¬ (0 ≤ (l.getD i (0, 0)).2 ∧ (l.getD i (0, 0)).2 ≤ 4095) then 1 else if 0 < i ∧ lessI (l.getD (i - 1) (0, 0)) (l.getD i (0, 0)) = false then 16 else 0
/-- The first error of n elements. -/
def eachE (f : Nat → Int) (n : Nat) : Int := orE ((List.range n).map f)
theorem eachE_drop {f : Nat → Int} {n k : Nat} (h : k < n) : orE (((List.range n).map f).drop k) = if f k ≠ 0 then f k else orE (((List.range n).map f).drop (k + 1)) :=
  orE_drop (by rw [List.getElem?_map, List.getElem?_range h]; rfl)

set_option linter.unusedSimpArgs false in
set_option maxHeartbeats 4000000 in
set_option maxRecDepth 100000 in
theorem refUsed_any (A B : Option Addr) (a b : Nat) (l : List (Int × Int)) (needs : List Int) (w : World) (hA : SD w A l) (hB : SU w B needs) (hl : l.length ≤ 1099511627776) (hl2 : needs.length ≤ 1099511627776) :
    Calls Tryz.prog 46 #[.slice A l.length a, .slice B needs.length b] w fun e w' => e = .returned (.int .i64 (eachE (idE needs l) l.length)) ∧ Below w.heap.size w w' := by
  obtain ⟨R, hR⟩ : ∃ z, Hid (eachE (idE needs l) l.length = z) := ⟨_, Lib.hid rfl⟩
  rw [hR.out]
  have HA := Lib.hid (fun (W : World) (hW : Below w.heap.size w W) => (show SD W A l from SL.below hA hW))
  have HN := Lib.hid (fun (x : Int) (W : World) (hW : Below w.heap.size w W) => needed_any B b needs x W (SL.below hB hW) hl2)
  clear hA hB
  go_enter Tryz.func46, Tryz.ntmps46
  go_wp2_with fail
  go_loopw [5] (fun v wr => ∃ k : Nat, k ≤ l.length ∧ v = .int .i64 k ∧ Hid (orE (((List.range l.length).map (idE needs l)).drop k) = R) ∧ Below w.heap.size w wr) (fun v _ => l.length - (intOf v).toNat)
  case atStart => exact ⟨0, by omega, rfl, Lib.hid (by rw [List.drop_zero]; exact hR.out), Below.refl _ _⟩
  case round =>
    obtain ⟨k, hk, rfl, hd, hb⟩ := hrel
    by_cases hlt : k < l.length
    · obtain ⟨bA, oA, x, y, rfl, c0, c1, hx⟩ := (HA.out _ hb).get (k := k) hlt
      have k0 : (0 : Int) ≤ (k : Int) := by omega
      have hd2 := hd.out
      rw [eachE_drop hlt] at hd2
      have hg : l.getD k (0, 0) = (x, y) := by simp [List.getD, hx.out]
      have Hb := Lib.hid hb
      have hN := HN.out x wr hb
      by_cases e1 : x ∈ needs
      · rw [decide_eq_true e1] at hN
        by_cases e2 : 0 ≤ y ∧ y ≤ 4095
        · obtain ⟨e3, e4⟩ := e2
          by_cases hk1 : k = 0
          · have hz : idE needs l k = 0 := by
              rw [idE, hg, if_neg (by simpa using e1), if_neg (fun h => h ⟨e3, e4⟩), if_neg (by omega)]
            rw [hz, if_neg (by simp)] at hd2
            have Hd2 := Lib.hid hd2
            subst hk1
            simp only [Nat.zero_mul, Nat.add_zero] at c0 c1
            clear hd hd2 hx hg e1 hz
            go_wp2_with fail
            refine hN.mono ?_
            rintro e wx ⟨rfl, rfl⟩
            go_wp2_with fail
            refine wp_region_noPanic ?_
            refine region_H (S := fun _ => True) (by kernel_rfl) ?_
            change wpH _ _ _ _ 15 _ _ wr.drew
            refine H_takeD (k := 0) (v := .int .i64 0) (d := some 34) rfl rfl (by decide +kernel) (fun _ _ _ h => h) (Or.inl ⟨by rfl, fun W hW => by go_simp⟩) trivial ?_
            try simp only [Act.put, List.setIfInBounds_toArray, List.set_cons_zero, List.set_cons_succ]
            refine H_takeD (k := 1) (v := .bool false) (d := some 35) rfl rfl (by decide +kernel) (fun _ _ _ h => h) (Or.inl ⟨by rfl, fun W hW => by go_simp⟩) trivial ?_
            try simp only [Act.put, List.setIfInBounds_toArray, List.set_cons_zero, List.set_cons_succ]
            refine H_takeD (k := 2) (v := .bool false) (d := some 36) rfl rfl (by decide +kernel) (fun _ _ _ h => h) (Or.inl ⟨by rfl, fun W hW => by go_simp⟩) trivial ?_
            try simp only [Act.put, List.setIfInBounds_toArray, List.set_cons_zero, List.set_cons_succ]
            refine H_takeD (k := 3) (v := undef) (d := some 37) rfl rfl (by decide +kernel) (fun _ _ _ h => h) (Or.inr ⟨by simp [Region.wanted, yielded, undef], rfl⟩) trivial ?_
            try simp only [Act.put, List.setIfInBounds_toArray, List.set_cons_zero, List.set_cons_succ]
            refine H_takeD (k := 4) (v := undef) (d := some 38) rfl rfl (by decide +kernel) (fun _ _ _ h => h) (Or.inr ⟨by simp [Region.wanted, yielded, undef], rfl⟩) trivial ?_
            try simp only [Act.put, List.setIfInBounds_toArray, List.set_cons_zero, List.set_cons_succ]
            refine H_takeD (k := 5) (v := undef) (d := some 39) rfl rfl (by decide +kernel) (fun _ _ _ h => h) (Or.inr ⟨by simp [Region.wanted, yielded, undef], rfl⟩) trivial ?_
            try simp only [Act.put, List.setIfInBounds_toArray, List.set_cons_zero, List.set_cons_succ]
            refine H_takeD (k := 6) (v := undef) (d := some 40) rfl rfl (by decide +kernel) (fun _ _ _ h => h) (Or.inr ⟨by simp [Region.wanted, yielded, undef], rfl⟩) trivial ?_
            try simp only [Act.put, List.setIfInBounds_toArray, List.set_cons_zero, List.set_cons_succ]
            refine H_takeD (k := 7) (v := undef) (d := some 41) rfl rfl (by decide +kernel) (fun _ _ _ h => h) (Or.inr ⟨by simp [Region.wanted, yielded, undef], rfl⟩) trivial ?_
            try simp only [Act.put, List.setIfInBounds_toArray, List.set_cons_zero, List.set_cons_succ]
            refine H_takeD (k := 8) (v := undef) (d := some 42) rfl rfl (by decide +kernel) (fun _ _ _ h => h) (Or.inr ⟨by simp [Region.wanted, yielded, undef], rfl⟩) trivial ?_
            try simp only [Act.put, List.setIfInBounds_toArray, List.set_cons_zero, List.set_cons_succ]
            refine H_takeD (k := 9) (v := undef) (d := some 43) rfl rfl (by decide +kernel) (fun _ _ _ h => h) (Or.inr ⟨by simp [Region.wanted, yielded, undef], rfl⟩) trivial ?_
            try simp only [Act.put, List.setIfInBounds_toArray, List.set_cons_zero, List.set_cons_succ]
            refine H_takeD (k := 10) (v := undef) (d := some 44) rfl rfl (by decide +kernel) (fun _ _ _ h => h) (Or.inr ⟨by simp [Region.wanted, yielded, undef], rfl⟩) trivial ?_
            try simp only [Act.put, List.setIfInBounds_toArray, List.set_cons_zero, List.set_cons_succ]
            refine H_takeD (k := 11) (v := undef) (d := some 45) rfl rfl (by decide +kernel) (fun _ _ _ h => h) (Or.inr ⟨by simp [Region.wanted, yielded, undef], rfl⟩) trivial ?_
            try simp only [Act.put, List.setIfInBounds_toArray, List.set_cons_zero, List.set_cons_succ]
            refine H_takeD (k := 12) (v := undef) (d := some 46) rfl rfl (by decide +kernel) (fun _ _ _ h => h) (Or.inr ⟨by simp [Region.wanted, yielded, undef], rfl⟩) trivial ?_
            try simp only [Act.put, List.setIfInBounds_toArray, List.set_cons_zero, List.set_cons_succ]
            refine H_takeD (k := 13) (v := undef) (d := some 47) rfl rfl (by decide +kernel) (fun _ _ _ h => h) (Or.inr ⟨by simp [Region.wanted, yielded, undef], rfl⟩) trivial ?_
            try simp only [Act.put, List.setIfInBounds_toArray, List.set_cons_zero, List.set_cons_succ]
            refine H_takeD (k := 14) (v := .bool false) (d := some 48) rfl rfl (by decide +kernel) (fun _ _ _ h => h) (Or.inl ⟨by rfl, fun W hW => by go_simp⟩) trivial ?_
            try simp only [Act.put, List.setIfInBounds_toArray, List.set_cons_zero, List.set_cons_succ]
            refine H_end (by decide +kernel) (NoPanic.normal ?_)
            try simp only [Act.put, List.setIfInBounds_toArray, List.set_cons_zero, List.set_cons_succ]
            have Hb2 := Lib.hid (Hb.out.trans (((Below.refl wr.heap.size wr).drew).mono Hb.out.size))
            go_wp2_with fail
            go_roundw
            case rel => exact ⟨1, by omega, by go_num, Hd2, Hb2.out⟩
            case measure => simp [intOf]; omega
          · obtain ⟨km, hkm⟩ : ∃ km, Hid (k = km + 1) := ⟨k - 1, Lib.hid (by omega)⟩
            have hkl : km < l.length := by have := hkm.out; omega
            have hkk : km ≤ k := by have := hkm.out; omega
            have hkp : (0 : Int) < (k : Int) := by omega
            have hkp2 : 0 < k := by omega
            have km0 : (0 : Int) ≤ (km : Int) := by omega
            have hw : IntKind.i64.wrap ((k : Int) - 1) = (km : Int) := by have := hkm.out; rw [IntWalk.i64_in _ (by omega)]; omega
            obtain ⟨b2, o2, px, py, he, d0, d1, hpx⟩ := (HA.out _ hb).get (k := km) hkl
            injection he with he
            injection he with he1 he2
            subst he1 he2
            have hg2 : l.getD (k - 1) (0, 0) = (px, py) := by rw [show k - 1 = km by have := hkm.out; omega]; simp [List.getD, hpx.out]
            have HSf := Lib.hid (fun (W : World) (hW : Below wr.heap.size wr W) => show W.cell? ⟨bA, oA + km * 2, none⟩ = some (.int .u64 px) ∧ W.cell? ⟨bA, oA + km * 2 + 1, none⟩ = some (.int .i64 py) ∧ W.cell? ⟨bA, oA + k * 2, none⟩ = some (.int .u64 x) ∧ W.cell? ⟨bA, oA + k * 2 + 1, none⟩ = some (.int .i64 y) from ⟨cell_far d0 hW, cell_far d1 hW, cell_far c0 hW, cell_far c1 hW⟩)
            have HB0 := Lib.hid ((Below.refl wr.heap.size wr).drew)
            obtain ⟨ls, hls⟩ : ∃ z, Hid (lessI (px, py) (x, y) = z) := ⟨_, Lib.hid rfl⟩
            have HLs := Lib.hid (fun W => hls.out ▸ refLess_any px py x y W)
            have hz : idE needs l k = if ls = false then 16 else 0 := by
              rw [idE, hg, hg2, hls.out, if_neg (by simpa using e1), if_neg (fun h => h ⟨e3, e4⟩)]
              by_cases h5 : ls = false
              · rw [if_pos ⟨by omega, h5⟩, if_pos h5]
              · rw [if_neg (fun h => h5 h.2), if_neg h5]
            have Hz := Lib.hid hz
            have Hd2 := Lib.hid hd2
            clear hd hd2 hx hg hg2 e1 hz hpx hls d0 d1 hkm
            go_wp2_with fail
            refine hN.mono ?_
            rintro e wx ⟨rfl, rfl⟩
            go_wp2_with fail
            refine wp_region_noPanic ?_
            refine region_H (S := fun W => W.cell? ⟨bA, oA + km * 2, none⟩ = some (.int .u64 px) ∧ W.cell? ⟨bA, oA + km * 2 + 1, none⟩ = some (.int .i64 py) ∧ W.cell? ⟨bA, oA + k * 2, none⟩ = some (.int .u64 x) ∧ W.cell? ⟨bA, oA + k * 2 + 1, none⟩ = some (.int .i64 y)) (by kernel_rfl) ?_
            change wpH _ _ _ _ 15 _ _ wr.drew
            refine H_takeD (k := 0) (v := .int .i64 k) (d := some 34) rfl rfl (by decide +kernel) (fun _ _ _ h => h) (Or.inl ⟨by rfl, fun W hW => by obtain ⟨s0, s1, s2, s3⟩ := hW; go_simp⟩) (HSf.out _ HB0.out) ?_
            try simp only [Act.put, List.setIfInBounds_toArray, List.set_cons_zero, List.set_cons_succ]
            refine H_takeD (k := 1) (v := .bool true) (d := some 35) rfl rfl (by decide +kernel) (fun _ _ _ h => h) (Or.inl ⟨by rfl, fun W hW => by obtain ⟨s0, s1, s2, s3⟩ := hW; go_simp⟩) (HSf.out _ HB0.out) ?_
            try simp only [Act.put, List.setIfInBounds_toArray, List.set_cons_zero, List.set_cons_succ]
            refine H_takeD (k := 2) (v := .bool true) (d := some 36) rfl rfl (by decide +kernel) (fun _ _ _ h => h) (Or.inl ⟨by rfl, fun W hW => by obtain ⟨s0, s1, s2, s3⟩ := hW; go_simp⟩) (HSf.out _ HB0.out) ?_
            try simp only [Act.put, List.setIfInBounds_toArray, List.set_cons_zero, List.set_cons_succ]
            refine H_takeD (k := 3) (v := .slice (some ⟨bA, oA, none⟩) l.length a) (d := some 37) rfl rfl (by decide +kernel) (fun _ _ _ h => h) (Or.inl ⟨by simp [Region.wanted, yielded], fun W hW => by obtain ⟨s0, s1, s2, s3⟩ := hW; go_simp⟩) (HSf.out _ HB0.out) ?_
            try simp only [Act.put, List.setIfInBounds_toArray, List.set_cons_zero, List.set_cons_succ]
            refine H_takeD (k := 4) (v := .int .i64 k) (d := some 38) rfl rfl (by decide +kernel) (fun _ _ _ h => h) (Or.inl ⟨by simp [Region.wanted, yielded], fun W hW => by obtain ⟨s0, s1, s2, s3⟩ := hW; go_simp⟩) (HSf.out _ HB0.out) ?_
            try simp only [Act.put, List.setIfInBounds_toArray, List.set_cons_zero, List.set_cons_succ]
            refine H_takeD (k := 5) (v := .int .i64 km) (d := some 39) rfl rfl (by decide +kernel) (fun _ _ _ h => h) (Or.inl ⟨by simp [Region.wanted, yielded], fun W hW => by obtain ⟨s0, s1, s2, s3⟩ := hW; go_simp⟩) (HSf.out _ HB0.out) ?_
            try simp only [Act.put, List.setIfInBounds_toArray, List.set_cons_zero, List.set_cons_succ]
            refine H_takeD (k := 6) (v := .pointer (some ⟨bA, oA + km * 2, none⟩)) (d := some 40) rfl rfl (by decide +kernel) (fun _ _ _ h => h) (Or.inl ⟨by simp [Region.wanted, yielded], fun W hW => by obtain ⟨s0, s1, s2, s3⟩ := hW; go_simp⟩) (HSf.out _ HB0.out) ?_
            try simp only [Act.put, List.setIfInBounds_toArray, List.set_cons_zero, List.set_cons_succ]
            refine H_takeD (k := 7) (v := .agg #[.int .u64 px, .int .i64 py]) (d := some 41) rfl rfl (by decide +kernel) (fun _ _ _ h => h) (Or.inl ⟨by simp [Region.wanted, yielded], fun W hW => by obtain ⟨s0, s1, s2, s3⟩ := hW; go_simp⟩) (HSf.out _ HB0.out) ?_
            try simp only [Act.put, List.setIfInBounds_toArray, List.set_cons_zero, List.set_cons_succ]
            refine H_takeD (k := 8) (v := .slice (some ⟨bA, oA, none⟩) l.length a) (d := some 42) rfl rfl (by decide +kernel) (fun _ _ _ h => h) (Or.inl ⟨by simp [Region.wanted, yielded], fun W hW => by obtain ⟨s0, s1, s2, s3⟩ := hW; go_simp⟩) (HSf.out _ HB0.out) ?_
            try simp only [Act.put, List.setIfInBounds_toArray, List.set_cons_zero, List.set_cons_succ]
            refine H_takeD (k := 9) (v := .int .i64 k) (d := some 43) rfl rfl (by decide +kernel) (fun _ _ _ h => h) (Or.inl ⟨by simp [Region.wanted, yielded], fun W hW => by obtain ⟨s0, s1, s2, s3⟩ := hW; go_simp⟩) (HSf.out _ HB0.out) ?_
            try simp only [Act.put, List.setIfInBounds_toArray, List.set_cons_zero, List.set_cons_succ]
            refine H_takeD (k := 10) (v := .pointer (some ⟨bA, oA + k * 2, none⟩)) (d := some 44) rfl rfl (by decide +kernel) (fun _ _ _ h => h) (Or.inl ⟨by simp [Region.wanted, yielded], fun W hW => by obtain ⟨s0, s1, s2, s3⟩ := hW; go_simp⟩) (HSf.out _ HB0.out) ?_
            try simp only [Act.put, List.setIfInBounds_toArray, List.set_cons_zero, List.set_cons_succ]
            refine H_takeD (k := 11) (v := .agg #[.int .u64 x, .int .i64 y]) (d := some 45) rfl rfl (by decide +kernel) (fun _ _ _ h => h) (Or.inl ⟨by simp [Region.wanted, yielded], fun W hW => by obtain ⟨s0, s1, s2, s3⟩ := hW; go_simp⟩) (HSf.out _ HB0.out) ?_
            try simp only [Act.put, List.setIfInBounds_toArray, List.set_cons_zero, List.set_cons_succ]
            refine H_one (i := 12) (by decide +kernel) (H_stepg rfl (by simp [Region.wanted, yielded]) (fun K hK12 => ?_))
            have hK12 := Lib.hid hK12
            go_simp
            go_at_call 34
            refine (HLs.out _).mono ?_
            rintro e wy ⟨rfl, hv⟩
            have HB1 := Lib.hid (HB0.out.trans (hv.mono HB0.out.size))
            clear hv
            refine hK12.out _ _ (HSf.out _ HB1.out) ?_
            try simp only [Act.put, List.setIfInBounds_toArray, List.set_cons_zero, List.set_cons_succ]
            refine H_takeD (k := 13) (v := .bool (!ls)) (d := some 47) rfl rfl (by decide +kernel) (fun _ _ _ h => h) (Or.inl ⟨by simp [Region.wanted, yielded], fun W hW => by obtain ⟨s0, s1, s2, s3⟩ := hW; go_simp⟩) (HSf.out _ HB1.out) ?_
            try simp only [Act.put, List.setIfInBounds_toArray, List.set_cons_zero, List.set_cons_succ]
            refine H_takeD (k := 14) (v := .bool (!ls)) (d := some 48) rfl rfl (by decide +kernel) (fun _ _ _ h => h) (Or.inl ⟨by rfl, fun W hW => by obtain ⟨s0, s1, s2, s3⟩ := hW; go_simp⟩) (HSf.out _ HB1.out) ?_
            try simp only [Act.put, List.setIfInBounds_toArray, List.set_cons_zero, List.set_cons_succ]
            refine H_end (by decide +kernel) (NoPanic.normal ?_)
            try simp only [Act.put, List.setIfInBounds_toArray, List.set_cons_zero, List.set_cons_succ]
            have Hb2 := Lib.hid (Hb.out.trans (HB1.out.mono Hb.out.size))
            clear HB0 HB1 HSf HLs
            cases ls with
            | true =>
              have Hd3 := Lib.hid (show orE (((List.range l.length).map (idE needs l)).drop (k + 1)) = R from by have h := Hd2.out; rw [Hz.out] at h; simpa using h)
              clear Hz Hd2
              go_wp2_with fail
              go_roundw
              case rel => exact ⟨k + 1, by omega, by go_num, Hd3, Hb2.out⟩
              case measure => simp [intOf]; omega
            | false =>
              have Hd3 := Lib.hid (show R = 16 from by have h := Hd2.out; rw [Hz.out] at h; exact (by simpa using h.symm))
              clear Hz Hd2
              go_wp2_with fail
              go_ret
              exact ⟨by rw [Hd3.out]; rfl, Hb2.out⟩
        · have hz : idE needs l k = 1 := by
            rw [idE, hg, if_neg (by simpa using e1), if_pos e2]
          rw [hz, if_pos (by simp)] at hd2
          have Hd2 := Lib.hid hd2
          have hc : y < 0 ∨ (¬ y < 0 ∧ 4095 < y) := by omega
          clear hd hd2 hx hg e1 e2 hz
          rcases hc with h5 | ⟨h5, h6⟩
          all_goals
            go_wp2_with fail
            refine hN.mono ?_
            rintro e wx ⟨rfl, rfl⟩
            go_wp2_with fail
            go_ret
            exact ⟨by rw [← Hd2.out]; rfl, Hb.out⟩
      · rw [decide_eq_false e1] at hN
        have hz : idE needs l k = 12 := by rw [idE, hg, if_pos e1]
        rw [hz, if_pos (by simp)] at hd2
        have Hd2 := Lib.hid hd2
        clear hd hd2 hx hg e1 hz
        go_wp2_with fail
        refine hN.mono ?_
        rintro e wx ⟨rfl, rfl⟩
        go_wp2_with fail
        go_ret
        exact ⟨by rw [← Hd2.out]; rfl, Hb.out⟩
    · have hR2 := Lib.hid (show R = 0 from by rw [← hd.out, List.drop_eq_nil_of_le (by simp; omega)]; rfl)
      have Hb := Lib.hid hb
      clear hd hb
      go_wp2_with fail
      go_ret
      exact ⟨by rw [hR2.out]; rfl, Hb.out⟩
end Go.Proofs.YtnapnkmehnabfaaGreat
