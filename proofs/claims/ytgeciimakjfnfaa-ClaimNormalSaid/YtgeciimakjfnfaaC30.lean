import Derived.Test.YtgeciimakjfnfaaC29
namespace Go.Proofs.Ytgeciimakjfnfaa
open Go.RowKit Go.Maps

set_option linter.unusedSimpArgs false in
set_option maxHeartbeats 4000000 in
set_option maxRecDepth 100000 in
theorem claimShows_walk (A : Option Addr) (ca : Nat) (l : List Int) (B : Option Addr) (cb : Nat) (m : List Int) (at_ how by_ view day : Int) (w : World) (hA : SI w A l) (hzl : W64 l) (hll : l.length ≤ 9223372036854775807) (hB : SI w B m) (hzm : W64 m) (hlm : m.length ≤ 9223372036854775807) (ha : i64 at_) (hh : i64 how) (hb : i64 by_) (hv : i64 view) (hd : i64 day) :
    Calls Try.prog 7 #[.slice A l.length ca, .slice B m.length cb, .int .i64 at_, .int .i64 how, .int .i64 by_, .int .i64 view, .int .i64 day] w fun e w' => e = .returned (.bool true) ∧ Below w.heap.size w w' := by
  have HL := Lib.hid (lists_any A ca l B cb m at_ how by_ w hA hzl hll hB hzm hlm ha hh hb)
  have Hh := Lib.hid hh
  have Hb := Lib.hid hb
  have Hv := Lib.hid hv
  have hb70 := around_bd day 70 (by decide)
  have H70 := Lib.hid (fun W => around_any day 70 W hd.1 hd.2 (by decide) (by decide))
  generalize around day 70 = v70 at *
  have hw70 : IntKind.i64.wrap (100 + v70) = 100 + v70 := IntWalk.i64_in _ ⟨by omega, by omega⟩
  clear hA hzl hll hB hzm hlm ha hh hb hv hd
  go_enter Try.func7, Try.ntmps7
  go_wp2_with fail
  refine HL.out.mono ?_
  rintro e w1 ⟨ba, rfl, hba, hls, hb1⟩
  have HB1 := Lib.hid hb1
  clear hb1 HL hba
  go_wp2_with fail
  refine (view_any view w1 Hv.out).mono ?_
  rintro e w2 ⟨k1, B1, b1, os1, rfl, hve1, hol1, hsi1, hb⟩
  have HB2 := Lib.hid (HB1.out.trans (hb.mono HB1.out.size))
  have HA2 := Lib.hid hb
  clear hb HB1 hve1
  go_wp2_with fail
  refine (view_any view w2 Hv.out).mono ?_
  rintro e w3 ⟨k3, B3, b3, os3, rfl, hve3, hol3, hsi3, hb⟩
  have HB3 := Lib.hid (HB2.out.trans (hb.mono HB2.out.size))
  have HA3 := Lib.hid (HA2.out.trans (hb.mono HA2.out.size))
  have HI13 := Lib.hid (show SI w3 B1 os1 from SI.below hsi1.out hb)
  clear hb HB2 hve3 hsi1 HA2
  go_wp2_with fail
  refine (bent_any k3 B3 b3 os3 how by_ w3 hsi3.out hol3.out Hh.out Hb.out).mono ?_
  rintro e w4 ⟨k2, B2, b2, os2, rfl, hol2, hsi2, hb⟩
  have HB4 := Lib.hid ((HB3.out.trans (hb.mono HB3.out.size)).alloc (by have := HB3.out.size; have := hb.size; omega) (.cells #[.int .i64 k1, .slice B1 os1.length b1, .int .i64 k2, .slice B2 os2.length b2] 28))
  have HA4 := Lib.hid ((HA3.out.trans (hb.mono HA3.out.size)).alloc (by have := HA3.out.size; have := hb.size; omega) (.cells #[.int .i64 k1, .slice B1 os1.length b1, .int .i64 k2, .slice B2 os2.length b2] 28))
  have HI1 := Lib.hid (show SI (w4.alloc (.cells #[.int .i64 k1, .slice B1 os1.length b1, .int .i64 k2, .slice B2 os2.length b2] 28)) B1 os1 from SL.alloc (SI.below HI13.out hb) _)
  have HI2 := Lib.hid (show SI (w4.alloc (.cells #[.int .i64 k1, .slice B1 os1.length b1, .int .i64 k2, .slice B2 os2.length b2] 28)) B2 os2 from SL.alloc hsi2.out _)
  have HKv := Lib.hid (Bk.new w4 28 #[.int .i64 k1, .slice B1 os1.length b1, .int .i64 k2, .slice B2 os2.length b2])
  clear hb HB3 hol3 hsi3 HI13 hsi2 HA3
  go_upto_region 3 with fail
  generalize hgv : w4.heap.size = bv at *
  have Hgv := Lib.hid hgv
  clear hgv
  generalize w4.alloc (.cells #[.int .i64 k1, .slice B1 os1.length b1, .int .i64 k2, .slice B2 os2.length b2] 28) = w5 at *
  have HB6 := Lib.hid (HB4.out.alloc HB4.out.size (.cells #[.int .i64 (100 + v70), .int .i64 day, .int .i64 0, .int .i64 73048, .int .i64 (-1), .int .i64 73049] 3))
  have HA6 := Lib.hid (HA4.out.alloc HA4.out.size (.cells #[.int .i64 (100 + v70), .int .i64 day, .int .i64 0, .int .i64 73048, .int .i64 (-1), .int .i64 73049] 3))
  have HI6 := Lib.hid (show SI (w5.alloc (.cells #[.int .i64 (100 + v70), .int .i64 day, .int .i64 0, .int .i64 73048, .int .i64 (-1), .int .i64 73049] 3)) B1 os1 from SL.alloc HI1.out _)
  have HI7 := Lib.hid (show SI (w5.alloc (.cells #[.int .i64 (100 + v70), .int .i64 day, .int .i64 0, .int .i64 73048, .int .i64 (-1), .int .i64 73049] 3)) B2 os2 from SL.alloc HI2.out _)
  have HKv6 := Lib.hid (HKv.out.alloc (.cells #[.int .i64 (100 + v70), .int .i64 day, .int .i64 0, .int .i64 73048, .int .i64 (-1), .int .i64 73049] 3))
  have HKd6 := Lib.hid (Bk.new w5 3 #[.int .i64 (100 + v70), .int .i64 day, .int .i64 0, .int .i64 73048, .int .i64 (-1), .int .i64 73049])
  clear HB4 HA4 HI1 HI2 HKv
  go_wp2_with fail
  refine (H70.out _).mono ?_
  rintro e w6 ⟨rfl, rfl⟩
  go_upto_region 4 with fail
  generalize hgd : w5.heap.size = bd at *
  have Hgd := Lib.hid hgd
  clear hgd H70
  generalize w5.alloc (.cells #[.int .i64 (100 + v70), .int .i64 day, .int .i64 0, .int .i64 73048, .int .i64 (-1), .int .i64 73049] 3) = W3 at *
  have HVW := Lib.hid (show ∀ j, j < 2 → ∃ kv Bv cv os, W3.cell? ⟨bv, j * 2, none⟩ = some (.int .i64 kv) ∧ W3.cell? ⟨bv, j * 2 + 1, none⟩ = some (.slice Bv (List.length os) cv) ∧ SI W3 Bv os ∧ os.length ≤ 100 from fun j hj => by
    rcases (by omega : j = 0 ∨ j = 1) with rfl | rfl
    · exact ⟨k1, B1, b1, os1, HKv6.out.cell 0, HKv6.out.cell 1, HI6.out, by have := hol1.out; omega⟩
    · exact ⟨k2, B2, b2, os2, HKv6.out.cell 2, HKv6.out.cell 3, HI7.out, hol2.out⟩)
  have HDS := Lib.hid (show ∀ k, k < 6 → ∃ d : Int, W3.cell? ⟨bd, k, none⟩ = some (.int .i64 d) from fun k hk => by
    rcases (by omega : k = 0 ∨ k = 1 ∨ k = 2 ∨ k = 3 ∨ k = 4 ∨ k = 5) with rfl | rfl | rfl | rfl | rfl | rfl
    · exact ⟨_, HKd6.out.cell 0⟩
    · exact ⟨_, HKd6.out.cell 1⟩
    · exact ⟨_, HKd6.out.cell 2⟩
    · exact ⟨_, HKd6.out.cell 3⟩
    · exact ⟨_, HKd6.out.cell 4⟩
    · exact ⟨_, HKd6.out.cell 5⟩)
  have HLS := Lib.hid (show ∀ i, i < 4 → ∃ X c L, W3.cell? ⟨ba, i, none⟩ = some (.slice X (List.length L) c) ∧ SC W3 X L ∧ L.length ≤ 100 from fun i hi => by
    obtain ⟨X, c, L, h1, h2, h3⟩ := hls.out i hi
    exact ⟨X, c, L, cell_far h1 HA6.out, SC.below h2 HA6.out, h3⟩)
  clear hls HA6 HI6 HI7 HKv6 HKd6 hol1 hol2 Hh Hb Hv hb70 hw70
  go_wp2_with fail
  go_loopw [18] (fun i_ wr => ∃ i : Nat, i ≤ 4 ∧ i_ = .int .i64 (i : Int) ∧ Hid (Below W3.heap.size W3 wr)) (fun i_ _ => 4 - (intOf i_).toNat)
  case atStart => exact ⟨0, by omega, rfl, Lib.hid (Below.refl _ _)⟩
  case round =>
    obtain ⟨i, hi, rfl, HX⟩ := hrel
    by_cases hlt : i < 4
    · obtain ⟨X, cX, L, hc1, hc2, hc3⟩ := HLS.out i hlt
      have hlt' : (i : Int) < 4 := by omega
      have Hc1 := Lib.hid hc1
      have Hc2 := Lib.hid hc2
      have Hc3 := Lib.hid hc3
      clear hc1 hc2 hc3
      go_wp2_with fail
      go_loopw [19] (fun k_ wr => ∃ k : Nat, k ≤ 6 ∧ k_ = .int .i64 (k : Int) ∧ Hid (Below W3.heap.size W3 wr)) (fun k_ _ => 6 - (intOf k_).toNat)
      case atStart => exact ⟨0, by omega, rfl, HX⟩
      case round =>
        clear HX
        obtain ⟨k, hk, rfl, HX⟩ := hrel
        by_cases hlk : k < 6
        · obtain ⟨d, hd⟩ := HDS.out k hlk
          have hlk' : (k : Int) < 6 := by omega
          have Hd := Lib.hid hd
          clear hd
          go_wp2_with fail
          go_loopw [20] (fun j_ wr => ∃ j : Nat, j ≤ 2 ∧ j_ = .int .i64 (j : Int) ∧ Hid (Below W3.heap.size W3 wr)) (fun j_ _ => 2 - (intOf j_).toNat)
          case atStart => exact ⟨0, by omega, rfl, HX⟩
          case round =>
            clear HX
            obtain ⟨j, hj, rfl, HX0⟩ := hrel
            by_cases hlj : j < 2
            · obtain ⟨kv, Bv, cv, os, hv1, hv2, hv3, hv4⟩ := HVW.out j hlj
              have hlj' : (j : Int) < 2 := by omega
              obtain ⟨sr, hsr⟩ : ∃ z, Hid (shwR kv os L d = z) := ⟨_, Lib.hid rfl⟩
              obtain ⟨se, hse⟩ : ∃ z, Hid (shwE kv os L d = z) := ⟨_, Lib.hid rfl⟩
              have HS4 := Lib.hid (fun (W : World) (h : Below W3.heap.size W3 W) => show W.cell? ⟨bv, j * 2, none⟩ = some (.int .i64 kv) ∧ W.cell? ⟨bv, j * 2 + 1, none⟩ = some (.slice Bv os.length cv) ∧ W.cell? ⟨ba, i, none⟩ = some (.slice X L.length cX) ∧ W.cell? ⟨bd, k, none⟩ = some (.int .i64 d) from ⟨cell_far hv1 h, cell_far hv2 h, cell_far Hc1.out h, cell_far Hd.out h⟩)
              have HC1 := Lib.hid (fun (W : World) (h : Below W3.heap.size W3 W) => hse.out ▸ hsr.out ▸ Shows_any kv Bv cv os X cX L d W (SI.below hv3 h) (by omega) (SC.below Hc2.out h) (by have := Hc3.out; omega))
              have HC2 := Lib.hid (fun (W : World) (h : Below W3.heap.size W3 W) => hse.out ▸ hsr.out ▸ refShows_any kv Bv cv os X cX L d W (SI.below hv3 h) (by omega) (SC.below Hc2.out h) (by have := Hc3.out; omega))
              clear hv1 hv2 hv3 hv4 hsr hse
              go_upto_region 13 with fail
              generalize wr = w0 at *
              have HX := Lib.hid HX0.out.drew
              clear HX0
              refine wp_region_noPanic ?_
              refine region_H (S := fun W => W.cell? ⟨bv, j * 2, none⟩ = some (.int .i64 kv) ∧ W.cell? ⟨bv, j * 2 + 1, none⟩ = some (.slice Bv os.length cv) ∧ W.cell? ⟨ba, i, none⟩ = some (.slice X L.length cX) ∧ W.cell? ⟨bd, k, none⟩ = some (.int .i64 d)) (by kernel_rfl) ?_
              change wpH _ _ _ _ 18 _ _ w0.drew
              generalize w0.drew = X0 at *
              refine H_takeD (k := 0) (v := .slice (some ⟨bv, 0, none⟩) 2 2) (d := some 65) rfl rfl (by decide +kernel) (fun _ _ _ h => h) (Or.inl ⟨by rfl, fun W hW => by obtain ⟨s0, s1, s2, s3⟩ := hW; go_simp⟩) (HS4.out _ HX.out) ?_
              try simp only [Act.put, List.setIfInBounds_toArray, List.set_cons_zero, List.set_cons_succ]
              refine H_takeD (k := 1) (v := .int .i64 (j : Int)) (d := some 66) rfl rfl (by decide +kernel) (fun _ _ _ h => h) (Or.inl ⟨by rfl, fun W hW => by obtain ⟨s0, s1, s2, s3⟩ := hW; go_simp⟩) (HS4.out _ HX.out) ?_
              try simp only [Act.put, List.setIfInBounds_toArray, List.set_cons_zero, List.set_cons_succ]
              refine H_takeD (k := 2) (v := .pointer (some ⟨bv, j * 2, none⟩)) (d := some 67) rfl rfl (by decide +kernel) (fun _ _ _ h => h) (Or.inl ⟨by rfl, fun W hW => by obtain ⟨s0, s1, s2, s3⟩ := hW; go_simp⟩) (HS4.out _ HX.out) ?_
              try simp only [Act.put, List.setIfInBounds_toArray, List.set_cons_zero, List.set_cons_succ]
              refine H_takeD (k := 3) (v := .agg #[.int .i64 kv, .slice Bv os.length cv]) (d := some 68) rfl rfl (by decide +kernel) (fun _ _ _ h => h) (Or.inl ⟨by rfl, fun W hW => by obtain ⟨s0, s1, s2, s3⟩ := hW; go_simp⟩) (HS4.out _ HX.out) ?_
              try simp only [Act.put, List.setIfInBounds_toArray, List.set_cons_zero, List.set_cons_succ]
              refine H_takeD (k := 4) (v := .slice (some ⟨ba, 0, none⟩) 4 4) (d := some 69) rfl rfl (by decide +kernel) (fun _ _ _ h => h) (Or.inl ⟨by rfl, fun W hW => by obtain ⟨s0, s1, s2, s3⟩ := hW; go_simp⟩) (HS4.out _ HX.out) ?_
              try simp only [Act.put, List.setIfInBounds_toArray, List.set_cons_zero, List.set_cons_succ]
              refine H_takeD (k := 5) (v := .int .i64 (i : Int)) (d := some 70) rfl rfl (by decide +kernel) (fun _ _ _ h => h) (Or.inl ⟨by rfl, fun W hW => by obtain ⟨s0, s1, s2, s3⟩ := hW; go_simp⟩) (HS4.out _ HX.out) ?_
              try simp only [Act.put, List.setIfInBounds_toArray, List.set_cons_zero, List.set_cons_succ]
              refine H_takeD (k := 6) (v := .pointer (some ⟨ba, i, none⟩)) (d := some 71) rfl rfl (by decide +kernel) (fun _ _ _ h => h) (Or.inl ⟨by rfl, fun W hW => by obtain ⟨s0, s1, s2, s3⟩ := hW; go_simp⟩) (HS4.out _ HX.out) ?_
              try simp only [Act.put, List.setIfInBounds_toArray, List.set_cons_zero, List.set_cons_succ]
              refine H_takeD (k := 7) (v := .slice X L.length cX) (d := some 72) rfl rfl (by decide +kernel) (fun _ _ _ h => h) (Or.inl ⟨by rfl, fun W hW => by obtain ⟨s0, s1, s2, s3⟩ := hW; go_simp⟩) (HS4.out _ HX.out) ?_
              try simp only [Act.put, List.setIfInBounds_toArray, List.set_cons_zero, List.set_cons_succ]
              refine H_takeD (k := 8) (v := .slice (some ⟨bd, 0, none⟩) 6 6) (d := some 73) rfl rfl (by decide +kernel) (fun _ _ _ h => h) (Or.inl ⟨by rfl, fun W hW => by obtain ⟨s0, s1, s2, s3⟩ := hW; go_simp⟩) (HS4.out _ HX.out) ?_
              try simp only [Act.put, List.setIfInBounds_toArray, List.set_cons_zero, List.set_cons_succ]
              refine H_takeD (k := 9) (v := .int .i64 (k : Int)) (d := some 74) rfl rfl (by decide +kernel) (fun _ _ _ h => h) (Or.inl ⟨by rfl, fun W hW => by obtain ⟨s0, s1, s2, s3⟩ := hW; go_simp⟩) (HS4.out _ HX.out) ?_
              try simp only [Act.put, List.setIfInBounds_toArray, List.set_cons_zero, List.set_cons_succ]
              refine H_takeD (k := 10) (v := .pointer (some ⟨bd, k, none⟩)) (d := some 75) rfl rfl (by decide +kernel) (fun _ _ _ h => h) (Or.inl ⟨by rfl, fun W hW => by obtain ⟨s0, s1, s2, s3⟩ := hW; go_simp⟩) (HS4.out _ HX.out) ?_
              try simp only [Act.put, List.setIfInBounds_toArray, List.set_cons_zero, List.set_cons_succ]
              refine H_takeD (k := 11) (v := .int .i64 d) (d := some 76) rfl rfl (by decide +kernel) (fun _ _ _ h => h) (Or.inl ⟨by rfl, fun W hW => by obtain ⟨s0, s1, s2, s3⟩ := hW; go_simp⟩) (HS4.out _ HX.out) ?_
              try simp only [Act.put, List.setIfInBounds_toArray, List.set_cons_zero, List.set_cons_succ]
              refine H_one (i := 12) (by decide +kernel) (H_step rfl rfl (fun K hK12 => ?_))
              have hK12 := Lib.hid hK12
              go_simp
              go_at_call 23
              refine (HC1.out _ HX.out).mono ?_
              rintro e wy ⟨rfl, hb_⟩
              have HX2 := Lib.hid (HX.out.trans (hb_.mono HX.out.size))
              have hb2 := HS4.out _ HX2.out
              clear hb_ HX
              have HX := HX2
              clear HX2
              refine hK12.out _ _ hb2 ?_
              try simp only [Act.put, List.setIfInBounds_toArray, List.set_cons_zero, List.set_cons_succ]
              refine H_takeD (k := 13) (v := .tuple #[.bool sr, .int .i64 se]) (d := some 64) rfl rfl (by decide +kernel) (fun _ _ _ h => h) (Or.inl ⟨by rfl, fun W hW => by obtain ⟨s0, s1, s2, s3⟩ := hW; go_simp⟩) hb2 ?_
              try simp only [Act.put, List.setIfInBounds_toArray, List.set_cons_zero, List.set_cons_succ]
              refine H_takeD (k := 14) (v := .bool sr) (d := some 78) rfl rfl (by decide +kernel) (fun _ _ _ h => h) (Or.inl ⟨by rfl, fun W hW => by obtain ⟨s0, s1, s2, s3⟩ := hW; go_simp⟩) hb2 ?_
              try simp only [Act.put, List.setIfInBounds_toArray, List.set_cons_zero, List.set_cons_succ]
              refine H_takeD (k := 15) (v := .int .i64 se) (d := some 79) rfl rfl (by decide +kernel) (fun _ _ _ h => h) (Or.inl ⟨by rfl, fun W hW => by obtain ⟨s0, s1, s2, s3⟩ := hW; go_simp⟩) hb2 ?_
              try simp only [Act.put, List.setIfInBounds_toArray, List.set_cons_zero, List.set_cons_succ]
              refine H_takeD (k := 16) (v := .bool sr) (d := some 21) rfl rfl (by decide +kernel) (fun _ _ _ h => h) (Or.inl ⟨by rfl, fun W hW => by obtain ⟨s0, s1, s2, s3⟩ := hW; go_simp⟩) hb2 ?_
              try simp only [Act.put, List.setIfInBounds_toArray, List.set_cons_zero, List.set_cons_succ]
              refine H_takeD (k := 17) (v := .int .i64 se) (d := some 22) rfl rfl (by decide +kernel) (fun _ _ _ h => h) (Or.inl ⟨by rfl, fun W hW => by obtain ⟨s0, s1, s2, s3⟩ := hW; go_simp⟩) hb2 ?_
              try simp only [Act.put, List.setIfInBounds_toArray, List.set_cons_zero, List.set_cons_succ]
              refine H_end (by decide +kernel) (NoPanic.normal ?_)
              try simp only [Act.put, List.setIfInBounds_toArray, List.set_cons_zero, List.set_cons_succ]
              go_upto_region 14 with fail
              have HXn := Lib.hid HX.out.drew
              clear HX hb2
              have HX := HXn
              clear HXn
              refine wp_region_noPanic ?_
              refine region_H (S := fun W => W.cell? ⟨bv, j * 2, none⟩ = some (.int .i64 kv) ∧ W.cell? ⟨bv, j * 2 + 1, none⟩ = some (.slice Bv os.length cv) ∧ W.cell? ⟨ba, i, none⟩ = some (.slice X L.length cX) ∧ W.cell? ⟨bd, k, none⟩ = some (.int .i64 d)) (by kernel_rfl) ?_
              change wpH _ _ _ _ 18 _ _ wy.drew
              generalize wy.drew = X1 at *
              refine H_takeD (k := 0) (v := .slice (some ⟨bv, 0, none⟩) 2 2) (d := some 81) rfl rfl (by decide +kernel) (fun _ _ _ h => h) (Or.inl ⟨by rfl, fun W hW => by obtain ⟨s0, s1, s2, s3⟩ := hW; go_simp⟩) (HS4.out _ HX.out) ?_
              try simp only [Act.put, List.setIfInBounds_toArray, List.set_cons_zero, List.set_cons_succ]
              refine H_takeD (k := 1) (v := .int .i64 (j : Int)) (d := some 82) rfl rfl (by decide +kernel) (fun _ _ _ h => h) (Or.inl ⟨by rfl, fun W hW => by obtain ⟨s0, s1, s2, s3⟩ := hW; go_simp⟩) (HS4.out _ HX.out) ?_
              try simp only [Act.put, List.setIfInBounds_toArray, List.set_cons_zero, List.set_cons_succ]
              refine H_takeD (k := 2) (v := .pointer (some ⟨bv, j * 2, none⟩)) (d := some 83) rfl rfl (by decide +kernel) (fun _ _ _ h => h) (Or.inl ⟨by rfl, fun W hW => by obtain ⟨s0, s1, s2, s3⟩ := hW; go_simp⟩) (HS4.out _ HX.out) ?_
              try simp only [Act.put, List.setIfInBounds_toArray, List.set_cons_zero, List.set_cons_succ]
              refine H_takeD (k := 3) (v := .agg #[.int .i64 kv, .slice Bv os.length cv]) (d := some 84) rfl rfl (by decide +kernel) (fun _ _ _ h => h) (Or.inl ⟨by rfl, fun W hW => by obtain ⟨s0, s1, s2, s3⟩ := hW; go_simp⟩) (HS4.out _ HX.out) ?_
              try simp only [Act.put, List.setIfInBounds_toArray, List.set_cons_zero, List.set_cons_succ]
              refine H_takeD (k := 4) (v := .slice (some ⟨ba, 0, none⟩) 4 4) (d := some 85) rfl rfl (by decide +kernel) (fun _ _ _ h => h) (Or.inl ⟨by rfl, fun W hW => by obtain ⟨s0, s1, s2, s3⟩ := hW; go_simp⟩) (HS4.out _ HX.out) ?_
              try simp only [Act.put, List.setIfInBounds_toArray, List.set_cons_zero, List.set_cons_succ]
              refine H_takeD (k := 5) (v := .int .i64 (i : Int)) (d := some 86) rfl rfl (by decide +kernel) (fun _ _ _ h => h) (Or.inl ⟨by rfl, fun W hW => by obtain ⟨s0, s1, s2, s3⟩ := hW; go_simp⟩) (HS4.out _ HX.out) ?_
              try simp only [Act.put, List.setIfInBounds_toArray, List.set_cons_zero, List.set_cons_succ]
              refine H_takeD (k := 6) (v := .pointer (some ⟨ba, i, none⟩)) (d := some 87) rfl rfl (by decide +kernel) (fun _ _ _ h => h) (Or.inl ⟨by rfl, fun W hW => by obtain ⟨s0, s1, s2, s3⟩ := hW; go_simp⟩) (HS4.out _ HX.out) ?_
              try simp only [Act.put, List.setIfInBounds_toArray, List.set_cons_zero, List.set_cons_succ]
              refine H_takeD (k := 7) (v := .slice X L.length cX) (d := some 88) rfl rfl (by decide +kernel) (fun _ _ _ h => h) (Or.inl ⟨by rfl, fun W hW => by obtain ⟨s0, s1, s2, s3⟩ := hW; go_simp⟩) (HS4.out _ HX.out) ?_
              try simp only [Act.put, List.setIfInBounds_toArray, List.set_cons_zero, List.set_cons_succ]
              refine H_takeD (k := 8) (v := .slice (some ⟨bd, 0, none⟩) 6 6) (d := some 89) rfl rfl (by decide +kernel) (fun _ _ _ h => h) (Or.inl ⟨by rfl, fun W hW => by obtain ⟨s0, s1, s2, s3⟩ := hW; go_simp⟩) (HS4.out _ HX.out) ?_
              try simp only [Act.put, List.setIfInBounds_toArray, List.set_cons_zero, List.set_cons_succ]
              refine H_takeD (k := 9) (v := .int .i64 (k : Int)) (d := some 90) rfl rfl (by decide +kernel) (fun _ _ _ h => h) (Or.inl ⟨by rfl, fun W hW => by obtain ⟨s0, s1, s2, s3⟩ := hW; go_simp⟩) (HS4.out _ HX.out) ?_
              try simp only [Act.put, List.setIfInBounds_toArray, List.set_cons_zero, List.set_cons_succ]
              refine H_takeD (k := 10) (v := .pointer (some ⟨bd, k, none⟩)) (d := some 91) rfl rfl (by decide +kernel) (fun _ _ _ h => h) (Or.inl ⟨by rfl, fun W hW => by obtain ⟨s0, s1, s2, s3⟩ := hW; go_simp⟩) (HS4.out _ HX.out) ?_
              try simp only [Act.put, List.setIfInBounds_toArray, List.set_cons_zero, List.set_cons_succ]
              refine H_takeD (k := 11) (v := .int .i64 d) (d := some 92) rfl rfl (by decide +kernel) (fun _ _ _ h => h) (Or.inl ⟨by rfl, fun W hW => by obtain ⟨s0, s1, s2, s3⟩ := hW; go_simp⟩) (HS4.out _ HX.out) ?_
              try simp only [Act.put, List.setIfInBounds_toArray, List.set_cons_zero, List.set_cons_succ]
              refine H_one (i := 12) (by decide +kernel) (H_step rfl rfl (fun K hK12 => ?_))
              have hK12 := Lib.hid hK12
              go_simp
              go_at_call 29
              refine (HC2.out _ HX.out).mono ?_
              rintro e wz ⟨rfl, hb_⟩
              have HX2 := Lib.hid (HX.out.trans (hb_.mono HX.out.size))
              have hb2 := HS4.out _ HX2.out
              clear hb_ HX
              have HX := HX2
              clear HX2
              refine hK12.out _ _ hb2 ?_
              try simp only [Act.put, List.setIfInBounds_toArray, List.set_cons_zero, List.set_cons_succ]
              refine H_takeD (k := 13) (v := .tuple #[.bool sr, .int .i64 se]) (d := some 80) rfl rfl (by decide +kernel) (fun _ _ _ h => h) (Or.inl ⟨by rfl, fun W hW => by obtain ⟨s0, s1, s2, s3⟩ := hW; go_simp⟩) hb2 ?_
              try simp only [Act.put, List.setIfInBounds_toArray, List.set_cons_zero, List.set_cons_succ]
              refine H_takeD (k := 14) (v := .bool sr) (d := some 94) rfl rfl (by decide +kernel) (fun _ _ _ h => h) (Or.inl ⟨by rfl, fun W hW => by obtain ⟨s0, s1, s2, s3⟩ := hW; go_simp⟩) hb2 ?_
              try simp only [Act.put, List.setIfInBounds_toArray, List.set_cons_zero, List.set_cons_succ]
              refine H_takeD (k := 15) (v := .int .i64 se) (d := some 95) rfl rfl (by decide +kernel) (fun _ _ _ h => h) (Or.inl ⟨by rfl, fun W hW => by obtain ⟨s0, s1, s2, s3⟩ := hW; go_simp⟩) hb2 ?_
              try simp only [Act.put, List.setIfInBounds_toArray, List.set_cons_zero, List.set_cons_succ]
              refine H_takeD (k := 16) (v := .bool sr) (d := some 23) rfl rfl (by decide +kernel) (fun _ _ _ h => h) (Or.inl ⟨by rfl, fun W hW => by obtain ⟨s0, s1, s2, s3⟩ := hW; go_simp⟩) hb2 ?_
              try simp only [Act.put, List.setIfInBounds_toArray, List.set_cons_zero, List.set_cons_succ]
              refine H_takeD (k := 17) (v := .int .i64 se) (d := some 24) rfl rfl (by decide +kernel) (fun _ _ _ h => h) (Or.inl ⟨by rfl, fun W hW => by obtain ⟨s0, s1, s2, s3⟩ := hW; go_simp⟩) hb2 ?_
              try simp only [Act.put, List.setIfInBounds_toArray, List.set_cons_zero, List.set_cons_succ]
              refine H_end (by decide +kernel) (NoPanic.normal ?_)
              try simp only [Act.put, List.setIfInBounds_toArray, List.set_cons_zero, List.set_cons_succ]
              clear hb2
              go_wp2_with fail
              go_roundw
              case rel => exact ⟨j + 1, by omega, by go_num, HX⟩
              case measure => simp [intOf]; omega
            · obtain rfl : j = 2 := by omega
              obtain ⟨R, hR⟩ : ∃ z, Hid (actR L d = z) := ⟨_, Lib.hid rfl⟩
              obtain ⟨rn, Hrn⟩ : ∃ z, Hid (R.length = z) := ⟨_, Lib.hid rfl⟩
              obtain ⟨ae, hae⟩ : ∃ z, Hid (actE L d = z) := ⟨_, Lib.hid rfl⟩
              have hRl : R.length ≤ 1000000 := by
                have h1 := Hc3.out
                have h2 : (actR L d).length ≤ L.length := by
                  unfold actR
                  split
                  · exact List.length_filter_le _ _
                  · simp
                rw [hR.out] at h2
                omega
              have HS2 := Lib.hid (fun (W : World) (h : Below W3.heap.size W3 W) => show W.cell? ⟨ba, i, none⟩ = some (.slice X L.length cX) ∧ W.cell? ⟨bd, k, none⟩ = some (.int .i64 d) from ⟨cell_far Hc1.out h, cell_far Hd.out h⟩)
              have HC3 := Lib.hid (fun (W : World) (h : Below W3.heap.size W3 W) => Active_any X cX L d W (SC.below Hc2.out h) (by have := Hc3.out; omega))
              have HC4 := Lib.hid (fun (W : World) (h : Below W3.heap.size W3 W) => refActive_any X cX L d W (SC.below Hc2.out h) (by have := Hc3.out; omega))
              rw [hR.out, Hrn.out, hae.out] at HC3 HC4
              clear hR hae
              go_upto_region 17 with fail
              generalize wr = w0 at *
              have HX := Lib.hid HX0.out.drew
              clear HX0
              refine wp_region_noPanic ?_
              refine region_H (S := fun W => W.cell? ⟨ba, i, none⟩ = some (.slice X L.length cX) ∧ W.cell? ⟨bd, k, none⟩ = some (.int .i64 d)) (by kernel_rfl) ?_
              change wpH _ _ _ _ 14 _ _ w0.drew
              generalize w0.drew = X0 at *
              refine H_takeD (k := 0) (v := .slice (some ⟨ba, 0, none⟩) 4 4) (d := some 105) rfl rfl (by decide +kernel) (fun _ _ _ h => h) (Or.inl ⟨by rfl, fun W hW => by obtain ⟨s0, s1⟩ := hW; go_simp⟩) (HS2.out _ HX.out) ?_
              try simp only [Act.put, List.setIfInBounds_toArray, List.set_cons_zero, List.set_cons_succ]
              refine H_takeD (k := 1) (v := .int .i64 (i : Int)) (d := some 106) rfl rfl (by decide +kernel) (fun _ _ _ h => h) (Or.inl ⟨by rfl, fun W hW => by obtain ⟨s0, s1⟩ := hW; go_simp⟩) (HS2.out _ HX.out) ?_
              try simp only [Act.put, List.setIfInBounds_toArray, List.set_cons_zero, List.set_cons_succ]
              refine H_takeD (k := 2) (v := .pointer (some ⟨ba, i, none⟩)) (d := some 107) rfl rfl (by decide +kernel) (fun _ _ _ h => h) (Or.inl ⟨by rfl, fun W hW => by obtain ⟨s0, s1⟩ := hW; go_simp⟩) (HS2.out _ HX.out) ?_
              try simp only [Act.put, List.setIfInBounds_toArray, List.set_cons_zero, List.set_cons_succ]
              refine H_takeD (k := 3) (v := .slice X L.length cX) (d := some 108) rfl rfl (by decide +kernel) (fun _ _ _ h => h) (Or.inl ⟨by rfl, fun W hW => by obtain ⟨s0, s1⟩ := hW; go_simp⟩) (HS2.out _ HX.out) ?_
              try simp only [Act.put, List.setIfInBounds_toArray, List.set_cons_zero, List.set_cons_succ]
              refine H_takeD (k := 4) (v := .slice (some ⟨bd, 0, none⟩) 6 6) (d := some 109) rfl rfl (by decide +kernel) (fun _ _ _ h => h) (Or.inl ⟨by rfl, fun W hW => by obtain ⟨s0, s1⟩ := hW; go_simp⟩) (HS2.out _ HX.out) ?_
              try simp only [Act.put, List.setIfInBounds_toArray, List.set_cons_zero, List.set_cons_succ]
              refine H_takeD (k := 5) (v := .int .i64 (k : Int)) (d := some 110) rfl rfl (by decide +kernel) (fun _ _ _ h => h) (Or.inl ⟨by rfl, fun W hW => by obtain ⟨s0, s1⟩ := hW; go_simp⟩) (HS2.out _ HX.out) ?_
              try simp only [Act.put, List.setIfInBounds_toArray, List.set_cons_zero, List.set_cons_succ]
              refine H_takeD (k := 6) (v := .pointer (some ⟨bd, k, none⟩)) (d := some 111) rfl rfl (by decide +kernel) (fun _ _ _ h => h) (Or.inl ⟨by rfl, fun W hW => by obtain ⟨s0, s1⟩ := hW; go_simp⟩) (HS2.out _ HX.out) ?_
              try simp only [Act.put, List.setIfInBounds_toArray, List.set_cons_zero, List.set_cons_succ]
              refine H_takeD (k := 7) (v := .int .i64 d) (d := some 112) rfl rfl (by decide +kernel) (fun _ _ _ h => h) (Or.inl ⟨by rfl, fun W hW => by obtain ⟨s0, s1⟩ := hW; go_simp⟩) (HS2.out _ HX.out) ?_
              try simp only [Act.put, List.setIfInBounds_toArray, List.set_cons_zero, List.set_cons_succ]
              refine H_one (i := 8) (by decide +kernel) (H_step rfl rfl (fun K hK8 => ?_))
              have hK8 := Lib.hid hK8
              go_simp
              go_at_call 30
              refine (HC3.out _ HX.out).mono ?_
              rintro e wy ⟨v, rfl, hown_, hb_⟩
              obtain ⟨Y1, e1, rfl⟩ := own_slice hown_
              have HY1 := Lib.hid (show SC wy Y1 R from SC.own hown_)
              have HX2 := Lib.hid (HX.out.trans (hb_.mono HX.out.size))
              have hb2 := HS2.out _ HX2.out
              clear hown_ hb_ HX
              have HX := HX2
              clear HX2
              refine hK8.out _ _ hb2 ?_
              try simp only [Act.put, List.setIfInBounds_toArray, List.set_cons_zero, List.set_cons_succ]
              refine H_takeD (k := 9) (v := .tuple #[.slice Y1 rn e1, .int .i64 ae]) (d := some 104) rfl rfl (by decide +kernel) (fun _ _ _ h => h) (Or.inl ⟨by rfl, fun W hW => by obtain ⟨s0, s1⟩ := hW; go_simp⟩) hb2 ?_
              try simp only [Act.put, List.setIfInBounds_toArray, List.set_cons_zero, List.set_cons_succ]
              refine H_takeD (k := 10) (v := .slice Y1 rn e1) (d := some 114) rfl rfl (by decide +kernel) (fun _ _ _ h => h) (Or.inl ⟨by rfl, fun W hW => by obtain ⟨s0, s1⟩ := hW; go_simp⟩) hb2 ?_
              try simp only [Act.put, List.setIfInBounds_toArray, List.set_cons_zero, List.set_cons_succ]
              refine H_takeD (k := 11) (v := .int .i64 ae) (d := some 115) rfl rfl (by decide +kernel) (fun _ _ _ h => h) (Or.inl ⟨by rfl, fun W hW => by obtain ⟨s0, s1⟩ := hW; go_simp⟩) hb2 ?_
              try simp only [Act.put, List.setIfInBounds_toArray, List.set_cons_zero, List.set_cons_succ]
              refine H_takeD (k := 12) (v := .slice Y1 rn e1) (d := some 25) rfl rfl (by decide +kernel) (fun _ _ _ h => h) (Or.inl ⟨by rfl, fun W hW => by obtain ⟨s0, s1⟩ := hW; go_simp⟩) hb2 ?_
              try simp only [Act.put, List.setIfInBounds_toArray, List.set_cons_zero, List.set_cons_succ]
              refine H_takeD (k := 13) (v := .int .i64 ae) (d := some 26) rfl rfl (by decide +kernel) (fun _ _ _ h => h) (Or.inl ⟨by rfl, fun W hW => by obtain ⟨s0, s1⟩ := hW; go_simp⟩) hb2 ?_
              try simp only [Act.put, List.setIfInBounds_toArray, List.set_cons_zero, List.set_cons_succ]
              refine H_end (by decide +kernel) (NoPanic.normal ?_)
              try simp only [Act.put, List.setIfInBounds_toArray, List.set_cons_zero, List.set_cons_succ]
              go_upto_region 18 with fail
              have HXn := Lib.hid HX.out.drew
              have HY1c := Lib.hid (show SC wy.drew Y1 R from HY1.out)
              clear HX hb2 HY1
              have HX := HXn
              clear HXn
              refine wp_region_noPanic ?_
              refine region_H (S := fun W => W.cell? ⟨ba, i, none⟩ = some (.slice X L.length cX) ∧ W.cell? ⟨bd, k, none⟩ = some (.int .i64 d)) (by kernel_rfl) ?_
              change wpH _ _ _ _ 14 _ _ wy.drew
              generalize wy.drew = X1 at *
              refine H_takeD (k := 0) (v := .slice (some ⟨ba, 0, none⟩) 4 4) (d := some 117) rfl rfl (by decide +kernel) (fun _ _ _ h => h) (Or.inl ⟨by rfl, fun W hW => by obtain ⟨s0, s1⟩ := hW; go_simp⟩) (HS2.out _ HX.out) ?_
              try simp only [Act.put, List.setIfInBounds_toArray, List.set_cons_zero, List.set_cons_succ]
              refine H_takeD (k := 1) (v := .int .i64 (i : Int)) (d := some 118) rfl rfl (by decide +kernel) (fun _ _ _ h => h) (Or.inl ⟨by rfl, fun W hW => by obtain ⟨s0, s1⟩ := hW; go_simp⟩) (HS2.out _ HX.out) ?_
              try simp only [Act.put, List.setIfInBounds_toArray, List.set_cons_zero, List.set_cons_succ]
              refine H_takeD (k := 2) (v := .pointer (some ⟨ba, i, none⟩)) (d := some 119) rfl rfl (by decide +kernel) (fun _ _ _ h => h) (Or.inl ⟨by rfl, fun W hW => by obtain ⟨s0, s1⟩ := hW; go_simp⟩) (HS2.out _ HX.out) ?_
              try simp only [Act.put, List.setIfInBounds_toArray, List.set_cons_zero, List.set_cons_succ]
              refine H_takeD (k := 3) (v := .slice X L.length cX) (d := some 120) rfl rfl (by decide +kernel) (fun _ _ _ h => h) (Or.inl ⟨by rfl, fun W hW => by obtain ⟨s0, s1⟩ := hW; go_simp⟩) (HS2.out _ HX.out) ?_
              try simp only [Act.put, List.setIfInBounds_toArray, List.set_cons_zero, List.set_cons_succ]
              refine H_takeD (k := 4) (v := .slice (some ⟨bd, 0, none⟩) 6 6) (d := some 121) rfl rfl (by decide +kernel) (fun _ _ _ h => h) (Or.inl ⟨by rfl, fun W hW => by obtain ⟨s0, s1⟩ := hW; go_simp⟩) (HS2.out _ HX.out) ?_
              try simp only [Act.put, List.setIfInBounds_toArray, List.set_cons_zero, List.set_cons_succ]
              refine H_takeD (k := 5) (v := .int .i64 (k : Int)) (d := some 122) rfl rfl (by decide +kernel) (fun _ _ _ h => h) (Or.inl ⟨by rfl, fun W hW => by obtain ⟨s0, s1⟩ := hW; go_simp⟩) (HS2.out _ HX.out) ?_
              try simp only [Act.put, List.setIfInBounds_toArray, List.set_cons_zero, List.set_cons_succ]
              refine H_takeD (k := 6) (v := .pointer (some ⟨bd, k, none⟩)) (d := some 123) rfl rfl (by decide +kernel) (fun _ _ _ h => h) (Or.inl ⟨by rfl, fun W hW => by obtain ⟨s0, s1⟩ := hW; go_simp⟩) (HS2.out _ HX.out) ?_
              try simp only [Act.put, List.setIfInBounds_toArray, List.set_cons_zero, List.set_cons_succ]
              refine H_takeD (k := 7) (v := .int .i64 d) (d := some 124) rfl rfl (by decide +kernel) (fun _ _ _ h => h) (Or.inl ⟨by rfl, fun W hW => by obtain ⟨s0, s1⟩ := hW; go_simp⟩) (HS2.out _ HX.out) ?_
              try simp only [Act.put, List.setIfInBounds_toArray, List.set_cons_zero, List.set_cons_succ]
              refine H_one (i := 8) (by decide +kernel) (H_step rfl rfl (fun K hK8 => ?_))
              have hK8 := Lib.hid hK8
              go_simp
              go_at_call 31
              refine (HC4.out _ HX.out).mono ?_
              rintro e wz ⟨v, rfl, hown_, hb_⟩
              obtain ⟨Y2, e2, rfl⟩ := own_slice hown_
              have HY2 := Lib.hid (show SC wz Y2 R from SC.own hown_)
              have HY1b := Lib.hid (show SC wz Y1 R from SC.below HY1c.out hb_)
              have HX2 := Lib.hid (HX.out.trans (hb_.mono HX.out.size))
              have hb2 := HS2.out _ HX2.out
              clear hown_ hb_ HX
              have HX := HX2
              clear HX2
              refine hK8.out _ _ hb2 ?_
              try simp only [Act.put, List.setIfInBounds_toArray, List.set_cons_zero, List.set_cons_succ]
              refine H_takeD (k := 9) (v := .tuple #[.slice Y2 rn e2, .int .i64 ae]) (d := some 116) rfl rfl (by decide +kernel) (fun _ _ _ h => h) (Or.inl ⟨by rfl, fun W hW => by obtain ⟨s0, s1⟩ := hW; go_simp⟩) hb2 ?_
              try simp only [Act.put, List.setIfInBounds_toArray, List.set_cons_zero, List.set_cons_succ]
              refine H_takeD (k := 10) (v := .slice Y2 rn e2) (d := some 126) rfl rfl (by decide +kernel) (fun _ _ _ h => h) (Or.inl ⟨by rfl, fun W hW => by obtain ⟨s0, s1⟩ := hW; go_simp⟩) hb2 ?_
              try simp only [Act.put, List.setIfInBounds_toArray, List.set_cons_zero, List.set_cons_succ]
              refine H_takeD (k := 11) (v := .int .i64 ae) (d := some 127) rfl rfl (by decide +kernel) (fun _ _ _ h => h) (Or.inl ⟨by rfl, fun W hW => by obtain ⟨s0, s1⟩ := hW; go_simp⟩) hb2 ?_
              try simp only [Act.put, List.setIfInBounds_toArray, List.set_cons_zero, List.set_cons_succ]
              refine H_takeD (k := 12) (v := .slice Y2 rn e2) (d := some 27) rfl rfl (by decide +kernel) (fun _ _ _ h => h) (Or.inl ⟨by rfl, fun W hW => by obtain ⟨s0, s1⟩ := hW; go_simp⟩) hb2 ?_
              try simp only [Act.put, List.setIfInBounds_toArray, List.set_cons_zero, List.set_cons_succ]
              refine H_takeD (k := 13) (v := .int .i64 ae) (d := some 28) rfl rfl (by decide +kernel) (fun _ _ _ h => h) (Or.inl ⟨by rfl, fun W hW => by obtain ⟨s0, s1⟩ := hW; go_simp⟩) hb2 ?_
              try simp only [Act.put, List.setIfInBounds_toArray, List.set_cons_zero, List.set_cons_succ]
              refine H_end (by decide +kernel) (NoPanic.normal ?_)
              try simp only [Act.put, List.setIfInBounds_toArray, List.set_cons_zero, List.set_cons_succ]
              clear hb2
              have HSm := Lib.hid (same_any Y1 Y2 e1 e2 R wz HY1b.out HY2.out hRl)
              rw [Hrn.out] at HSm
              clear HY1b HY2 HY1c
              go_wp2_with fail
              refine HSm.out.mono ?_
              rintro e w9 ⟨rfl, hq⟩
              have HXq := Lib.hid (hq.bl HX.out)
              clear hq HSm
              go_wp2_with fail
              go_roundw
              case rel => exact ⟨k + 1, by omega, by go_num, HXq⟩
              case measure => simp [intOf]; omega
        · obtain rfl : k = 6 := by omega
          go_wp2_with fail
          go_roundw
          case rel => exact ⟨i + 1, by omega, by go_num, HX⟩
          case measure => simp [intOf]; omega
    · obtain rfl : i = 4 := by omega
      go_wp2_with fail
      refine (lives_any _).mono ?_
      rintro e w3 ⟨rfl, hb⟩
      have HF := Lib.hid (HB6.out.trans ((HX.out.trans (hb.mono HX.out.size)).mono HB6.out.size))
      clear hb
      go_wp2_with fail
      go_ret
      exact ⟨rfl, HF.out⟩
end Go.Proofs.Ytgeciimakjfnfaa
