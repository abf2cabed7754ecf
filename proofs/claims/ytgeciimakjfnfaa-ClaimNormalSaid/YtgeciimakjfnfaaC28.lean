import Derived.Test.YtgeciimakjfnfaaC27
namespace Go.Proofs.Ytgeciimakjfnfaa
open Go.RowKit Go.Maps

set_option linter.unusedSimpArgs false in
set_option maxHeartbeats 4000000 in
set_option maxRecDepth 100000 in
theorem claimValid_walk (A : Option Addr) (c : Nat) (l : List Int) (how by_ : Int) (w : World) (hA : SI w A l) (hz : W64 l) (hl : l.length ≤ 9223372036854775807) (hh : i64 how) (hb : i64 by_) :
    Calls Try.prog 3 #[.slice A l.length c, .int .i64 how, .int .i64 by_] w fun e w' => e = .returned (.bool true) ∧ Below w.heap.size w w' := by
  have HA := Lib.hid (fun (W : World) (h : Below w.heap.size w W) => (show SI W A l from hA.below h))
  have HZ := Lib.hid hz
  have Hh := Lib.hid hh
  have Hb := Lib.hid hb
  clear hA hz hh hb
  go_enter Try.func3, Try.ntmps3
  go_wp2_with fail
  go_loopw [7] (fun i wr => ∃ j : Nat, j ≤ l.length ∧ j ≤ 12 ∧ i = .int .i64 (j : Int) ∧ Hid (Below w.heap.size w wr)) (fun i _ => 12 - (intOf i).toNat)
  case atStart => exact ⟨0, by omega, by omega, rfl, Lib.hid (Below.refl _ _)⟩
  case round =>
    obtain ⟨j, hj, hj12, rfl, HB⟩ := hrel
    by_cases hlt : j < l.length
    · by_cases hlm : j < 12
      · have hlm2 : (j : Int) < 12 := by omega
        obtain ⟨b, o, t, hAe, x0, hi⟩ := (HA.out wr HB.out).get (k := j) hlt
        have Ht := Lib.hid (HZ.out t (List.mem_of_getElem? hi.out))
        have HX0 := Lib.hid (fun (W : World) (h : Below w.heap.size w W) => show W.cell? ⟨b, o + j, none⟩ = some (.int .i64 t) from by
          obtain ⟨b2, o2, t2, hAe2, x2, hi2⟩ := (HA.out W h).get (k := j) hlt
          rw [hAe] at hAe2
          injection hAe2 with e; injection e with e1 e2 e3
          subst e1; subst e2
          have := hi.out.symm.trans hi2.out
          injection this with this
          subst this
          exact x2)
        obtain ⟨y, hy⟩ : ∃ y, Hid (IntKind.i64.wrap (how + (j : Int)) = y) := ⟨_, Lib.hid rfl⟩
        have Hy := Lib.hid (show i64 y from hy.out ▸ wrap_i64 _)
        have hyw := hy.out
        rw [hAe]
        clear hAe hi
        go_wp2_with fail
        refine (claimR_any t wr Ht.out).mono ?_
        rintro e w1 ⟨q, rfl, hq, hb⟩
        obtain ⟨c1, c2, c3, c4, c5⟩ := q
        simp only [clV]
        have HB1 := Lib.hid ((HB.out.trans (hb.mono HB.out.size)).alloc (by have := HB.out.size; have := hb.size; omega) (.cells #[.int .i64 c1, .int .i64 c2, .int .i64 c3, .int .i64 c4, .int .i64 c5] 24))
        have HKc := Lib.hid (Bk.new w1 24 #[.int .i64 c1, .int .i64 c2, .int .i64 c3, .int .i64 c4, .int .i64 c5])
        have HCe := Lib.hid hq
        clear hb hq x0 HB
        go_upto_region 5 with fail
        generalize hgc : w1.heap.size = gc at *
        have Hgc := Lib.hid hgc
        clear hgc
        generalize w1.alloc (.cells #[.int .i64 c1, .int .i64 c2, .int .i64 c3, .int .i64 c4, .int .i64 c5] 24) = w2 at *
        have a0 := HKc.out.cell 0
        have a1 := HKc.out.cell 1
        have a2 := HKc.out.cell 2
        have a3 := HKc.out.cell 3
        have a4 := HKc.out.cell 4
        simp only [List.getElem?_toArray, List.getElem?_cons_zero, List.getElem?_cons_succ] at a0 a1 a2 a3 a4
        go_wp2_with fail
        refine (spoiltC_any c1 c2 c3 c4 c5 y by_ w2 Hy.out Hb.out).mono ?_
        rintro e w3 ⟨q, rfl, hb⟩
        obtain ⟨d1, d2, d3, d4, d5⟩ := q
        simp only [clV]
        clear a0 a1 a2 a3 a4
        have HB2 := Lib.hid ((HB1.out.trans (hb.mono HB1.out.size)).alloc (by have := HB1.out.size; have := hb.size; omega) (.cells #[.int .i64 d1, .int .i64 d2, .int .i64 d3, .int .i64 d4, .int .i64 d5] 24))
        have HKc2 := Lib.hid ((HKc.out.below hb HKc.out.lt).alloc (.cells #[.int .i64 d1, .int .i64 d2, .int .i64 d3, .int .i64 d4, .int .i64 d5] 24))
        have HKd := Lib.hid (Bk.new w3 24 #[.int .i64 d1, .int .i64 d2, .int .i64 d3, .int .i64 d4, .int .i64 d5])
        clear hb HB1 HKc
        go_upto_region 6 with fail
        generalize hgd : w3.heap.size = gd at *
        have Hgd := Lib.hid hgd
        clear hgd
        generalize w3.alloc (.cells #[.int .i64 d1, .int .i64 d2, .int .i64 d3, .int .i64 d4, .int .i64 d5] 24) = w4 at *
        have x0 := HX0.out w4 HB2.out
        go_wp2_with fail
        refine (view_any t w4 Ht.out).mono ?_
        rintro e w5 ⟨k, B, cb, os, rfl, hve, hol, hsi, hb⟩
        have HB3 := Lib.hid ((HB2.out.trans (hb.mono HB2.out.size)).alloc (by have := HB2.out.size; have := hb.size; omega) (.cells #[.int .i64 k, .slice B os.length cb] 28))
        have HKc3 := Lib.hid ((HKc2.out.below hb HKc2.out.lt).alloc (.cells #[.int .i64 k, .slice B os.length cb] 28))
        have HKd3 := Lib.hid ((HKd.out.below hb HKd.out.lt).alloc (.cells #[.int .i64 k, .slice B os.length cb] 28))
        have HKv := Lib.hid (Bk.new w5 28 #[.int .i64 k, .slice B os.length cb])
        have HI3 := Lib.hid (show SI (w5.alloc (.cells #[.int .i64 k, .slice B os.length cb] 28)) B os from SL.alloc hsi.out _)
        clear hb HB2 HKc2 HKd hsi x0
        go_upto_region 7 with fail
        generalize hgv : w5.heap.size = gv at *
        have Hgv := Lib.hid hgv
        clear hgv
        generalize w5.alloc (.cells #[.int .i64 k, .slice B os.length cb] 28) = w6 at *
        have a0 := HKv.out.cell 0
        have a1 := HKv.out.cell 1
        simp only [List.getElem?_toArray, List.getElem?_cons_zero, List.getElem?_cons_succ] at a0 a1
        go_wp2_with fail
        refine (bent_any k B cb os y by_ w6 HI3.out hol.out Hy.out Hb.out).mono ?_
        rintro e w7 ⟨k2, B2, cb2, os2, rfl, hol2, hsi2, hb⟩
        clear a0 a1
        have HBf := Lib.hid ((HB3.out.trans (hb.mono HB3.out.size)).alloc (by have := HB3.out.size; have := hb.size; omega) (.cells #[.int .i64 k2, .slice B2 os2.length cb2] 28))
        have HKc4 := Lib.hid ((HKc3.out.below hb HKc3.out.lt).alloc (.cells #[.int .i64 k2, .slice B2 os2.length cb2] 28))
        have HKd4 := Lib.hid ((HKd3.out.below hb HKd3.out.lt).alloc (.cells #[.int .i64 k2, .slice B2 os2.length cb2] 28))
        have HKv4 := Lib.hid ((HKv.out.below hb HKv.out.lt).alloc (.cells #[.int .i64 k2, .slice B2 os2.length cb2] 28))
        have HKw := Lib.hid (Bk.new w7 28 #[.int .i64 k2, .slice B2 os2.length cb2])
        have HI4 := Lib.hid (show SI (w7.alloc (.cells #[.int .i64 k2, .slice B2 os2.length cb2] 28)) B os from SL.alloc (SI.below HI3.out hb) _)
        have HI5 := Lib.hid (show SI (w7.alloc (.cells #[.int .i64 k2, .slice B2 os2.length cb2] 28)) B2 os2 from SL.alloc hsi2.out _)
        clear hb HB3 HKc3 HKd3 HKv HI3 hsi2
        go_upto_region 8 with fail
        generalize hgw : w7.heap.size = gw at *
        have Hgw := Lib.hid hgw
        clear hgw
        generalize w7.alloc (.cells #[.int .i64 k2, .slice B2 os2.length cb2] 28) = W0 at *
        obtain ⟨x, hx⟩ : ∃ x, Hid (clE ⟨d1, d2, d3, d4, d5⟩ = x) := ⟨_, Lib.hid rfl⟩
        obtain ⟨z, hz⟩ : ∃ z, Hid (vwE k2 os2 = z) := ⟨_, Lib.hid rfl⟩
        have HV1 := Lib.hid (fun (W : World) (_ : Below W0.heap.size W0 W) => show Calls Try.prog 14 #[.agg #[.int .i64 c1, .int .i64 c2, .int .i64 c3, .int .i64 c4, .int .i64 c5]] W fun e w' => e = .returned (.int .i64 0) ∧ Below W.heap.size W w' from HCe.out ▸ claim_any ⟨c1, c2, c3, c4, c5⟩ W)
        have HV2 := Lib.hid (fun (W : World) (_ : Below W0.heap.size W0 W) => show Calls Try.prog 14 #[.agg #[.int .i64 d1, .int .i64 d2, .int .i64 d3, .int .i64 d4, .int .i64 d5]] W fun e w' => e = .returned (.int .i64 x) ∧ Below W.heap.size W w' from hx.out ▸ claim_any ⟨d1, d2, d3, d4, d5⟩ W)
        have HV3 := Lib.hid (fun (W : World) (_ : Below W0.heap.size W0 W) => show Calls Try.prog 15 #[.agg #[.int .i64 d1, .int .i64 d2, .int .i64 d3, .int .i64 d4, .int .i64 d5]] W fun e w' => e = .returned (.int .i64 x) ∧ Below W.heap.size W w' from hx.out ▸ refClaim_any ⟨d1, d2, d3, d4, d5⟩ W)
        have HV4 := Lib.hid (fun (W : World) (h : Below W0.heap.size W0 W) => show Calls Try.prog 16 #[.agg #[.int .i64 k, .slice B os.length cb]] W fun e w' => e = .returned (.int .i64 0) ∧ Below W.heap.size W w' from hve.out ▸ validView_any k B cb os W (SI.below HI4.out h) (by have := hol.out; omega))
        have HV5 := Lib.hid (fun (W : World) (h : Below W0.heap.size W0 W) => show Calls Try.prog 16 #[.agg #[.int .i64 k2, .slice B2 os2.length cb2]] W fun e w' => e = .returned (.int .i64 z) ∧ Below W.heap.size W w' from hz.out ▸ validView_any k2 B2 cb2 os2 W (SI.below HI5.out h) (by have := hol2.out; omega))
        have HV6 := Lib.hid (fun (W : World) (h : Below W0.heap.size W0 W) => show Calls Try.prog 17 #[.agg #[.int .i64 k2, .slice B2 os2.length cb2]] W fun e w' => e = .returned (.int .i64 z) ∧ Below W.heap.size W w' from hz.out ▸ refValidView_any k2 B2 cb2 os2 W (SI.below HI5.out h) (by have := hol2.out; omega))
        have HS := Lib.hid (fun (W : World) (h : Below W0.heap.size W0 W) => show W.cell? ⟨gc, 0, none⟩ = some (.int .i64 c1) ∧ W.cell? ⟨gc, 1, none⟩ = some (.int .i64 c2) ∧ W.cell? ⟨gc, 2, none⟩ = some (.int .i64 c3) ∧ W.cell? ⟨gc, 3, none⟩ = some (.int .i64 c4) ∧ W.cell? ⟨gc, 4, none⟩ = some (.int .i64 c5) ∧ W.cell? ⟨gd, 0, none⟩ = some (.int .i64 d1) ∧ W.cell? ⟨gd, 1, none⟩ = some (.int .i64 d2) ∧ W.cell? ⟨gd, 2, none⟩ = some (.int .i64 d3) ∧ W.cell? ⟨gd, 3, none⟩ = some (.int .i64 d4) ∧ W.cell? ⟨gd, 4, none⟩ = some (.int .i64 d5) ∧ W.cell? ⟨gv, 0, none⟩ = some (.int .i64 k) ∧ W.cell? ⟨gv, 1, none⟩ = some (.slice B os.length cb) ∧ W.cell? ⟨gw, 0, none⟩ = some (.int .i64 k2) ∧ W.cell? ⟨gw, 1, none⟩ = some (.slice B2 os2.length cb2) from
          have kc := HKc4.out.below h HKc4.out.lt
          have kd := HKd4.out.below h HKd4.out.lt
          have kv := HKv4.out.below h HKv4.out.lt
          have kw := HKw.out.below h HKw.out.lt
          ⟨kc.cell 0, kc.cell 1, kc.cell 2, kc.cell 3, kc.cell 4, kd.cell 0, kd.cell 1, kd.cell 2, kd.cell 3, kd.cell 4, kv.cell 0, kv.cell 1, kw.cell 0, kw.cell 1⟩)
        have HX := Lib.hid (show Below W0.heap.size W0 W0.drew from (Below.refl _ _).drew)
        clear HKc4 HKd4 HKv4 HKw HI4 HI5 hx hz HCe hve hol hol2 hyw Hy hy HX0 Ht
        refine wp_region_noPanic ?_
        refine region_H (S := fun W => W.cell? ⟨gc, 0, none⟩ = some (.int .i64 c1) ∧ W.cell? ⟨gc, 1, none⟩ = some (.int .i64 c2) ∧ W.cell? ⟨gc, 2, none⟩ = some (.int .i64 c3) ∧ W.cell? ⟨gc, 3, none⟩ = some (.int .i64 c4) ∧ W.cell? ⟨gc, 4, none⟩ = some (.int .i64 c5) ∧ W.cell? ⟨gd, 0, none⟩ = some (.int .i64 d1) ∧ W.cell? ⟨gd, 1, none⟩ = some (.int .i64 d2) ∧ W.cell? ⟨gd, 2, none⟩ = some (.int .i64 d3) ∧ W.cell? ⟨gd, 3, none⟩ = some (.int .i64 d4) ∧ W.cell? ⟨gd, 4, none⟩ = some (.int .i64 d5) ∧ W.cell? ⟨gv, 0, none⟩ = some (.int .i64 k) ∧ W.cell? ⟨gv, 1, none⟩ = some (.slice B os.length cb) ∧ W.cell? ⟨gw, 0, none⟩ = some (.int .i64 k2) ∧ W.cell? ⟨gw, 1, none⟩ = some (.slice B2 os2.length cb2)) (by kernel_rfl) ?_
        change wpH _ _ _ _ 22 _ _ W0.drew
        generalize W0.drew = X0 at *
        refine H_takeD (k := 0) (v := .agg #[.int .i64 c1, .int .i64 c2, .int .i64 c3, .int .i64 c4, .int .i64 c5]) (d := some 44) rfl rfl (by decide +kernel) (fun _ _ _ h => h) (Or.inl ⟨by rfl, fun W hW => by obtain ⟨s0, s1, s2, s3, s4, s5, s6, s7, s8, s9, s10, s11, s12, s13⟩ := hW; go_simp⟩) (HS.out _ HX.out) ?_
        try simp only [Act.put, List.setIfInBounds_toArray, List.set_cons_zero, List.set_cons_succ]
        refine H_one (i := 1) (by decide +kernel) (H_step rfl rfl (fun K hK1 => ?_))
        have hK1 := Lib.hid hK1
        go_simp
        go_at_call 14
        refine (HV1.out _ HX.out).mono ?_
        rintro e wz ⟨rfl, hb_⟩
        have HX2 := Lib.hid (HX.out.trans (hb_.mono HX.out.size))
        have hb2 := HS.out _ HX2.out
        clear hb_ HX
        have HX := HX2
        clear HX2
        refine hK1.out _ _ hb2 ?_
        try simp only [Act.put, List.setIfInBounds_toArray, List.set_cons_zero, List.set_cons_succ]
        refine H_takeD (k := 2) (v := .bool false) (d := some 46) rfl rfl (by decide +kernel) (fun _ _ _ h => h) (Or.inl ⟨by rfl, fun W hW => by obtain ⟨s0, s1, s2, s3, s4, s5, s6, s7, s8, s9, s10, s11, s12, s13⟩ := hW; go_simp⟩) hb2 ?_
        try simp only [Act.put, List.setIfInBounds_toArray, List.set_cons_zero, List.set_cons_succ]
        refine H_takeD (k := 3) (v := .bool false) (d := some 47) rfl rfl (by decide +kernel) (fun _ _ _ h => h) (Or.inl ⟨by rfl, fun W hW => by obtain ⟨s0, s1, s2, s3, s4, s5, s6, s7, s8, s9, s10, s11, s12, s13⟩ := hW; go_simp⟩) hb2 ?_
        try simp only [Act.put, List.setIfInBounds_toArray, List.set_cons_zero, List.set_cons_succ]
        refine H_takeD (k := 4) (v := .agg #[.int .i64 d1, .int .i64 d2, .int .i64 d3, .int .i64 d4, .int .i64 d5]) (d := some 48) rfl rfl (by decide +kernel) (fun _ _ _ h => h) (Or.inl ⟨by simp [Region.wanted, yielded], fun W hW => by obtain ⟨s0, s1, s2, s3, s4, s5, s6, s7, s8, s9, s10, s11, s12, s13⟩ := hW; go_simp⟩) hb2 ?_
        try simp only [Act.put, List.setIfInBounds_toArray, List.set_cons_zero, List.set_cons_succ]
        refine H_takeD (k := 6) (v := .agg #[.int .i64 d1, .int .i64 d2, .int .i64 d3, .int .i64 d4, .int .i64 d5]) (d := some 50) rfl rfl (by decide +kernel) (fun _ _ _ h => h) (Or.inl ⟨by simp [Region.wanted, yielded], fun W hW => by obtain ⟨s0, s1, s2, s3, s4, s5, s6, s7, s8, s9, s10, s11, s12, s13⟩ := hW; go_simp⟩) hb2 ?_
        try simp only [Act.put, List.setIfInBounds_toArray, List.set_cons_zero, List.set_cons_succ]
        refine H_one (i := 5) (by decide +kernel) (H_stepg rfl (by simp [Region.wanted, yielded]) (fun K hK6 => ?_))
        have hK6 := Lib.hid hK6
        go_simp
        go_at_call 14
        refine (HV2.out _ HX.out).mono ?_
        rintro e wz ⟨rfl, hb_⟩
        have HX2 := Lib.hid (HX.out.trans (hb_.mono HX.out.size))
        have hb2 := HS.out _ HX2.out
        clear hb_ HX
        have HX := HX2
        clear HX2
        refine hK6.out _ _ hb2 ?_
        try simp only [Act.put, List.setIfInBounds_toArray, List.set_cons_zero, List.set_cons_succ]
        refine H_one (i := 7) (by decide +kernel) (H_stepg rfl (by simp [Region.wanted, yielded]) (fun K hK7 => ?_))
        have hK7 := Lib.hid hK7
        go_simp
        go_at_call 15
        refine (HV3.out _ HX.out).mono ?_
        rintro e wz ⟨rfl, hb_⟩
        have HX2 := Lib.hid (HX.out.trans (hb_.mono HX.out.size))
        have hb2 := HS.out _ HX2.out
        clear hb_ HX
        have HX := HX2
        clear HX2
        refine hK7.out _ _ hb2 ?_
        try simp only [Act.put, List.setIfInBounds_toArray, List.set_cons_zero, List.set_cons_succ]
        refine H_takeD (k := 8) (v := .bool false) (d := some 52) rfl rfl (by decide +kernel) (fun _ _ _ h => h) (Or.inl ⟨by simp [Region.wanted, yielded], fun W hW => by obtain ⟨s0, s1, s2, s3, s4, s5, s6, s7, s8, s9, s10, s11, s12, s13⟩ := hW; go_simp⟩) hb2 ?_
        try simp only [Act.put, List.setIfInBounds_toArray, List.set_cons_zero, List.set_cons_succ]
        refine H_takeD (k := 9) (v := .bool false) (d := some 53) rfl rfl (by decide +kernel) (fun _ _ _ h => h) (Or.inl ⟨by rfl, fun W hW => by obtain ⟨s0, s1, s2, s3, s4, s5, s6, s7, s8, s9, s10, s11, s12, s13⟩ := hW; go_simp⟩) hb2 ?_
        try simp only [Act.put, List.setIfInBounds_toArray, List.set_cons_zero, List.set_cons_succ]
        refine H_takeD (k := 10) (v := .bool false) (d := some 54) rfl rfl (by decide +kernel) (fun _ _ _ h => h) (Or.inl ⟨by rfl, fun W hW => by obtain ⟨s0, s1, s2, s3, s4, s5, s6, s7, s8, s9, s10, s11, s12, s13⟩ := hW; go_simp⟩) hb2 ?_
        try simp only [Act.put, List.setIfInBounds_toArray, List.set_cons_zero, List.set_cons_succ]
        refine H_takeD (k := 11) (v := .agg #[.int .i64 k, .slice B os.length cb]) (d := some 55) rfl rfl (by decide +kernel) (fun _ _ _ h => h) (Or.inl ⟨by simp [Region.wanted, yielded], fun W hW => by obtain ⟨s0, s1, s2, s3, s4, s5, s6, s7, s8, s9, s10, s11, s12, s13⟩ := hW; go_simp⟩) hb2 ?_
        try simp only [Act.put, List.setIfInBounds_toArray, List.set_cons_zero, List.set_cons_succ]
        refine H_one (i := 12) (by decide +kernel) (H_stepg rfl (by simp [Region.wanted, yielded]) (fun K hK12 => ?_))
        have hK12 := Lib.hid hK12
        go_simp
        go_at_call 16
        refine (HV4.out _ HX.out).mono ?_
        rintro e wz ⟨rfl, hb_⟩
        have HX2 := Lib.hid (HX.out.trans (hb_.mono HX.out.size))
        have hb2 := HS.out _ HX2.out
        clear hb_ HX
        have HX := HX2
        clear HX2
        refine hK12.out _ _ hb2 ?_
        try simp only [Act.put, List.setIfInBounds_toArray, List.set_cons_zero, List.set_cons_succ]
        refine H_takeD (k := 13) (v := .bool false) (d := some 57) rfl rfl (by decide +kernel) (fun _ _ _ h => h) (Or.inl ⟨by simp [Region.wanted, yielded], fun W hW => by obtain ⟨s0, s1, s2, s3, s4, s5, s6, s7, s8, s9, s10, s11, s12, s13⟩ := hW; go_simp⟩) hb2 ?_
        try simp only [Act.put, List.setIfInBounds_toArray, List.set_cons_zero, List.set_cons_succ]
        refine H_takeD (k := 14) (v := .bool false) (d := some 58) rfl rfl (by decide +kernel) (fun _ _ _ h => h) (Or.inl ⟨by rfl, fun W hW => by obtain ⟨s0, s1, s2, s3, s4, s5, s6, s7, s8, s9, s10, s11, s12, s13⟩ := hW; go_simp⟩) hb2 ?_
        try simp only [Act.put, List.setIfInBounds_toArray, List.set_cons_zero, List.set_cons_succ]
        refine H_takeD (k := 15) (v := .bool false) (d := some 59) rfl rfl (by decide +kernel) (fun _ _ _ h => h) (Or.inl ⟨by rfl, fun W hW => by obtain ⟨s0, s1, s2, s3, s4, s5, s6, s7, s8, s9, s10, s11, s12, s13⟩ := hW; go_simp⟩) hb2 ?_
        try simp only [Act.put, List.setIfInBounds_toArray, List.set_cons_zero, List.set_cons_succ]
        refine H_takeD (k := 16) (v := .agg #[.int .i64 k2, .slice B2 os2.length cb2]) (d := some 60) rfl rfl (by decide +kernel) (fun _ _ _ h => h) (Or.inl ⟨by simp [Region.wanted, yielded], fun W hW => by obtain ⟨s0, s1, s2, s3, s4, s5, s6, s7, s8, s9, s10, s11, s12, s13⟩ := hW; go_simp⟩) hb2 ?_
        try simp only [Act.put, List.setIfInBounds_toArray, List.set_cons_zero, List.set_cons_succ]
        refine H_takeD (k := 18) (v := .agg #[.int .i64 k2, .slice B2 os2.length cb2]) (d := some 62) rfl rfl (by decide +kernel) (fun _ _ _ h => h) (Or.inl ⟨by simp [Region.wanted, yielded], fun W hW => by obtain ⟨s0, s1, s2, s3, s4, s5, s6, s7, s8, s9, s10, s11, s12, s13⟩ := hW; go_simp⟩) hb2 ?_
        try simp only [Act.put, List.setIfInBounds_toArray, List.set_cons_zero, List.set_cons_succ]
        refine H_one (i := 17) (by decide +kernel) (H_stepg rfl (by simp [Region.wanted, yielded]) (fun K hK18 => ?_))
        have hK18 := Lib.hid hK18
        go_simp
        go_at_call 16
        refine (HV5.out _ HX.out).mono ?_
        rintro e wz ⟨rfl, hb_⟩
        have HX2 := Lib.hid (HX.out.trans (hb_.mono HX.out.size))
        have hb2 := HS.out _ HX2.out
        clear hb_ HX
        have HX := HX2
        clear HX2
        refine hK18.out _ _ hb2 ?_
        try simp only [Act.put, List.setIfInBounds_toArray, List.set_cons_zero, List.set_cons_succ]
        refine H_one (i := 19) (by decide +kernel) (H_stepg rfl (by simp [Region.wanted, yielded]) (fun K hK19 => ?_))
        have hK19 := Lib.hid hK19
        go_simp
        go_at_call 17
        refine (HV6.out _ HX.out).mono ?_
        rintro e wz ⟨rfl, hb_⟩
        have HX2 := Lib.hid (HX.out.trans (hb_.mono HX.out.size))
        have hb2 := HS.out _ HX2.out
        clear hb_ HX
        have HX := HX2
        clear HX2
        refine hK19.out _ _ hb2 ?_
        try simp only [Act.put, List.setIfInBounds_toArray, List.set_cons_zero, List.set_cons_succ]
        refine H_takeD (k := 20) (v := .bool false) (d := some 64) rfl rfl (by decide +kernel) (fun _ _ _ h => h) (Or.inl ⟨by simp [Region.wanted, yielded], fun W hW => by obtain ⟨s0, s1, s2, s3, s4, s5, s6, s7, s8, s9, s10, s11, s12, s13⟩ := hW; go_simp⟩) hb2 ?_
        try simp only [Act.put, List.setIfInBounds_toArray, List.set_cons_zero, List.set_cons_succ]
        refine H_takeD (k := 21) (v := .bool false) (d := some 65) rfl rfl (by decide +kernel) (fun _ _ _ h => h) (Or.inl ⟨by rfl, fun W hW => by obtain ⟨s0, s1, s2, s3, s4, s5, s6, s7, s8, s9, s10, s11, s12, s13⟩ := hW; go_simp⟩) hb2 ?_
        try simp only [Act.put, List.setIfInBounds_toArray, List.set_cons_zero, List.set_cons_succ]
        refine H_end (by decide +kernel) (NoPanic.normal ?_)
        try simp only [Act.put, List.setIfInBounds_toArray, List.set_cons_zero, List.set_cons_succ]
        go_wp2_with fail
        go_roundw
        case rel => exact ⟨j + 1, by omega, by omega, by go_num, Lib.hid (HBf.out.trans (HX.out.mono HBf.out.size))⟩
        case measure => simp [intOf]; omega
      · obtain rfl : j = 12 := by omega
        go_wp2_with fail
        refine (lives_any _).mono ?_
        rintro e w3 ⟨rfl, hb⟩
        have HF := Lib.hid (HB.out.trans (hb.mono HB.out.size))
        clear hb
        go_wp2_with fail
        go_ret
        exact ⟨rfl, HF.out⟩
    · obtain rfl : j = l.length := by omega
      go_wp2_with fail
      refine (lives_any _).mono ?_
      rintro e w3 ⟨rfl, hb⟩
      have HF := Lib.hid (HB.out.trans (hb.mono HB.out.size))
      clear hb
      go_wp2_with fail
      go_ret
      exact ⟨rfl, HF.out⟩
end Go.Proofs.Ytgeciimakjfnfaa
