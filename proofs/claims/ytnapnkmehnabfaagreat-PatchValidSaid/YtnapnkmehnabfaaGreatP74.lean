import Derived.Test.YtnapnkmehnabfaaGreatP73
namespace Go.Proofs.YtnapnkmehnabfaaGreat
open Go.RowKit Go.Maps

def manyP : Pa := ⟨0, 0, List.replicate 65 0, [], [], [], [], [], []⟩
def manyW (g : Nat) : Pw := ⟨some ⟨g, 0, none⟩, none, none, none, none, none, none, 65, 0, 0, 0, 0, 0, 0⟩
theorem many_e : paE manyP = 4 := by
  unfold paE paL
  rw [orE_zero (show argE manyP = 0 from by unfold argE; rw [if_pos (by decide)])]
  have h : limE manyP = 4 := by
    unfold limE
    rw [if_neg (fun h => absurd h.1 (by show ¬ (List.replicate 65 (0 : Int)).length ≤ 64; rw [List.length_replicate]; decide))]
  rw [orE_ne (by rw [h]; decide), h]
theorem many_pln : PLn manyP := ⟨by show (List.replicate 65 (0 : Int)).length ≤ _; rw [List.length_replicate]; decide, Nat.zero_le _, Nat.zero_le _, Nat.zero_le _, Nat.zero_le _, Nat.zero_le _, Nat.zero_le _, fun q hq => by cases hq⟩
theorem run_make_u64 (w : World) : (Instr.makeSlice 27 (.int .i64 65) (.int .i64 65)).run Tryz.prog w = .ok (.slice (some ⟨w.heap.size, 0, none⟩) 65 65) (w.alloc (.cells ((List.replicate 65 (0 : Int)).map (Value.int .u64)).toArray 53)) := by
  obtain ⟨ht, _, _, hzs, i, hi, hz, hs1, hb1⟩ := elt_u64'
  have hr := run_make (P := Tryz.prog) w 27 53 i (.int .u64 0) ht hi hz .i64 .i64 65 65 (by decide) (by decide) (by rw [hb1]; decide) (by decide)
  simp only [hs1, Nat.mul_one] at hr
  have e : madeCells (Value.int .u64 0).cells (65 : Int).toNat = ((List.replicate 65 (0 : Int)).map (Value.int .u64)).toArray := by
    apply Array.toList_inj.1
    show (madeCells #[Value.int .u64 0] 65).toList = _
    rw [toList_madeCells_one]
    simp
  rw [e] at hr
  exact hr
theorem many_pt {w : World} {g : Nat} (h : Bk w g 53 ((List.replicate 65 (0 : Int)).map (Value.int .u64)).toArray) : PT w manyP (manyW g) := ⟨(SB.bk h).sl, SV.ss (SV.nil w) SL.nil_, SL.nil_, SL.nil_, SL.nil_, SL.nil_, SL.nil_⟩
set_option linter.unusedSimpArgs false in
set_option maxHeartbeats 8000000 in
set_option maxRecDepth 100000 in
theorem patchValid_walk (A : Option Addr) (cA : Nat) (l : List Int) (at_ how by_ : Int) (w : World) (hA : SI w A l) (hl : W64 l) (hat : i64 at_) (hho : i64 how) (hby : i64 by_) :
    Calls Tryz.prog 3 #[.slice A l.length cA, .int .i64 at_, .int .i64 how, .int .i64 by_] w fun e w' => e = .returned (.bool true) ∧ Below w.heap.size w w' := by
  have HSo := Lib.hid (some_any A cA l at_ how by_ w hA hl hat hho hby)
  clear hA hl hat hho hby
  go_enter Tryz.func3, Tryz.ntmps3
  go_wp2_with fail
  refine HSo.out.mono ?_
  rintro e w1 ⟨ps, X, cX, rfl, hp30, hsb, hq, hb1⟩
  have HB1 := Lib.hid hb1
  have HX := Lib.hid hsb.sl
  have HQ := Lib.hid hq
  clear hsb hq hb1 HSo
  obtain ⟨n, hn⟩ : ∃ z, Hid (ps.length = z) := ⟨_, Lib.hid rfl⟩
  rw [hn.out] at hp30 ⊢
  go_wp2_with fail
  go_loopw [10] (fun v wr => ∃ k : Nat, k ≤ n ∧ v = .int .i64 (k : Int) ∧ Hid (Below w1.heap.size w1 wr)) (fun v _ => n - (intOf v).toNat)
  case atStart => exact ⟨0, by omega, rfl, Lib.hid (Below.refl _ _)⟩
  case round =>
    obtain ⟨k, hk, rfl, HB⟩ := hrel
    by_cases hlt : k < n
    · obtain ⟨bX, oX, q, hXe, hq, hqc⟩ := pa_get HX.out (k := k) (by rw [hn.out]; exact hlt)
      subst hXe
      have hbl : bX < w1.heap.size := World.block_lt_of_cell? _ _ (hqc 0 _ rfl)
      obtain ⟨p, a⟩ := q
      obtain ⟨hpb, hpq⟩ : PB w1 p a ∧ PQ 4100 7 p := HQ.out _ (List.mem_of_getElem? hq.out)
      have hpl : PLn p := ⟨by have := hpq.n; omega, by have := hpq.s; omega, by have := hpq.l; omega, by have := hpq.m; omega, by have := hpq.e; omega, by have := hpq.d; omega, by have := hpq.r; omega, fun x hx => by have := hpq.x x hx; omega⟩
      have HV := Lib.hid (fun (W : World) (h : Below w1.heap.size w1 W) => patchValid_any p a W (hpb.below h).pt hpl)
      have HR := Lib.hid (fun (W : World) (h : Below w1.heap.size w1 W) => refPatch_any p a W (hpb.below h).pt ⟨hpl.n, hpl.s, hpl.l, hpl.m, hpl.e, hpl.d, hpl.r⟩)
      obtain ⟨E, hE⟩ : ∃ z, Hid (paE p = z) := ⟨_, Lib.hid rfl⟩
      rw [hE.out] at HV HR
      have hki : ¬ (n ≤ k) := by omega
      have c0_ : wr.cell? ⟨bX, oX + k * 9, none⟩ = some (.int .i64 p.office) := (HB.out.cell (p := ⟨bX, oX + k * 9, none⟩) hbl).trans (hqc 0 _ rfl)
      have c1_ : wr.cell? ⟨bX, oX + k * 9 + 1, none⟩ = some (.int .i64 p.num) := (HB.out.cell (p := ⟨bX, oX + k * 9 + 1, none⟩) hbl).trans (hqc 1 _ rfl)
      have c2_ : wr.cell? ⟨bX, oX + k * 9 + 2, none⟩ = some (.slice a.n p.needs.length a.cn) := (HB.out.cell (p := ⟨bX, oX + k * 9 + 2, none⟩) hbl).trans (hqc 2 _ rfl)
      have c3_ : wr.cell? ⟨bX, oX + k * 9 + 3, none⟩ = some (.slice a.s p.st.length a.cs) := (HB.out.cell (p := ⟨bX, oX + k * 9 + 3, none⟩) hbl).trans (hqc 3 _ rfl)
      have c4_ : wr.cell? ⟨bX, oX + k * 9 + 4, none⟩ = some (.slice a.l p.pl.length a.cl) := (HB.out.cell (p := ⟨bX, oX + k * 9 + 4, none⟩) hbl).trans (hqc 4 _ rfl)
      have c5_ : wr.cell? ⟨bX, oX + k * 9 + 5, none⟩ = some (.slice a.m p.ma.length a.cm) := (HB.out.cell (p := ⟨bX, oX + k * 9 + 5, none⟩) hbl).trans (hqc 5 _ rfl)
      have c6_ : wr.cell? ⟨bX, oX + k * 9 + 6, none⟩ = some (.slice a.e p.er.length a.ce) := (HB.out.cell (p := ⟨bX, oX + k * 9 + 6, none⟩) hbl).trans (hqc 6 _ rfl)
      have c7_ : wr.cell? ⟨bX, oX + k * 9 + 7, none⟩ = some (.slice a.d p.dr.length a.cd) := (HB.out.cell (p := ⟨bX, oX + k * 9 + 7, none⟩) hbl).trans (hqc 7 _ rfl)
      have c8_ : wr.cell? ⟨bX, oX + k * 9 + 8, none⟩ = some (.slice a.r p.rt.length a.cr) := (HB.out.cell (p := ⟨bX, oX + k * 9 + 8, none⟩) hbl).trans (hqc 8 _ rfl)
      have HC := Lib.hid (show ∀ W, Below wr.heap.size wr W → W.cell? ⟨bX, oX + k * 9, none⟩ = some (.int .i64 p.office) ∧ W.cell? ⟨bX, oX + k * 9 + 1, none⟩ = some (.int .i64 p.num) ∧ W.cell? ⟨bX, oX + k * 9 + 2, none⟩ = some (.slice a.n p.needs.length a.cn) ∧ W.cell? ⟨bX, oX + k * 9 + 3, none⟩ = some (.slice a.s p.st.length a.cs) ∧ W.cell? ⟨bX, oX + k * 9 + 4, none⟩ = some (.slice a.l p.pl.length a.cl) ∧ W.cell? ⟨bX, oX + k * 9 + 5, none⟩ = some (.slice a.m p.ma.length a.cm) ∧ W.cell? ⟨bX, oX + k * 9 + 6, none⟩ = some (.slice a.e p.er.length a.ce) ∧ W.cell? ⟨bX, oX + k * 9 + 7, none⟩ = some (.slice a.d p.dr.length a.cd) ∧ W.cell? ⟨bX, oX + k * 9 + 8, none⟩ = some (.slice a.r p.rt.length a.cr) from fun W h => ⟨cell_far c0_ h, cell_far c1_ h, cell_far c2_ h, cell_far c3_ h, cell_far c4_ h, cell_far c5_ h, cell_far c6_ h, cell_far c7_ h, cell_far c8_ h⟩)
      clear hpb hpq hpl hq hqc hE
      go_upto_region 5 with fail
      have HBd := Lib.hid HB.out.drew
      have HW := Lib.hid (Below.refl wr.heap.size wr).drew
      clear HB c0_ c1_ c2_ c3_ c4_ c5_ c6_ c7_ c8_
      refine wp_region_noPanic ?_
      refine region_H (S := fun W => W.cell? ⟨bX, oX + k * 9, none⟩ = some (.int .i64 p.office) ∧ W.cell? ⟨bX, oX + k * 9 + 1, none⟩ = some (.int .i64 p.num) ∧ W.cell? ⟨bX, oX + k * 9 + 2, none⟩ = some (.slice a.n p.needs.length a.cn) ∧ W.cell? ⟨bX, oX + k * 9 + 3, none⟩ = some (.slice a.s p.st.length a.cs) ∧ W.cell? ⟨bX, oX + k * 9 + 4, none⟩ = some (.slice a.l p.pl.length a.cl) ∧ W.cell? ⟨bX, oX + k * 9 + 5, none⟩ = some (.slice a.m p.ma.length a.cm) ∧ W.cell? ⟨bX, oX + k * 9 + 6, none⟩ = some (.slice a.e p.er.length a.ce) ∧ W.cell? ⟨bX, oX + k * 9 + 7, none⟩ = some (.slice a.d p.dr.length a.cd) ∧ W.cell? ⟨bX, oX + k * 9 + 8, none⟩ = some (.slice a.r p.rt.length a.cr)) (by kernel_rfl) ?_
      change wpH _ _ _ _ 11 _ _ wr.drew
      generalize wr.drew = X1 at *
      refine H_takeD (k := 0) (v := .slice (some ⟨bX, oX, none⟩) n cX) (d := some 23) rfl rfl (by decide +kernel) (fun _ _ _ h => h) (Or.inl ⟨by rfl, fun W hW => by obtain ⟨s0, s1, s2, s3, s4, s5, s6, s7, s8⟩ := hW; go_simp⟩) (HC.out _ HW.out) ?_
      try simp only [Act.put, List.setIfInBounds_toArray, List.set_cons_zero, List.set_cons_succ]
      refine H_takeD (k := 1) (v := .int .i64 (k : Int)) (d := some 24) rfl rfl (by decide +kernel) (fun _ _ _ h => h) (Or.inl ⟨by rfl, fun W hW => by obtain ⟨s0, s1, s2, s3, s4, s5, s6, s7, s8⟩ := hW; go_simp⟩) (HC.out _ HW.out) ?_
      try simp only [Act.put, List.setIfInBounds_toArray, List.set_cons_zero, List.set_cons_succ]
      refine H_takeD (k := 2) (v := .pointer (some ⟨bX, oX + k * 9, none⟩)) (d := some 25) rfl rfl (by decide +kernel) (fun _ _ _ h => h) (Or.inl ⟨by rfl, fun W hW => by obtain ⟨s0, s1, s2, s3, s4, s5, s6, s7, s8⟩ := hW; go_simp⟩) (HC.out _ HW.out) ?_
      try simp only [Act.put, List.setIfInBounds_toArray, List.set_cons_zero, List.set_cons_succ]
      refine H_takeD (k := 3) (v := .agg #[.int .i64 p.office, .int .i64 p.num, .slice a.n p.needs.length a.cn, .slice a.s p.st.length a.cs, .slice a.l p.pl.length a.cl, .slice a.m p.ma.length a.cm, .slice a.e p.er.length a.ce, .slice a.d p.dr.length a.cd, .slice a.r p.rt.length a.cr]) (d := some 26) rfl rfl (by decide +kernel) (fun _ _ _ h => h) (Or.inl ⟨by rfl, fun W hW => by obtain ⟨s0, s1, s2, s3, s4, s5, s6, s7, s8⟩ := hW; go_simp⟩) (HC.out _ HW.out) ?_
      try simp only [Act.put, List.setIfInBounds_toArray, List.set_cons_zero, List.set_cons_succ]
      refine H_takeD (k := 5) (v := .slice (some ⟨bX, oX, none⟩) n cX) (d := some 28) rfl rfl (by decide +kernel) (fun _ _ _ h => h) (Or.inl ⟨by rfl, fun W hW => by obtain ⟨s0, s1, s2, s3, s4, s5, s6, s7, s8⟩ := hW; go_simp⟩) (HC.out _ HW.out) ?_
      try simp only [Act.put, List.setIfInBounds_toArray, List.set_cons_zero, List.set_cons_succ]
      refine H_takeD (k := 6) (v := .int .i64 (k : Int)) (d := some 29) rfl rfl (by decide +kernel) (fun _ _ _ h => h) (Or.inl ⟨by rfl, fun W hW => by obtain ⟨s0, s1, s2, s3, s4, s5, s6, s7, s8⟩ := hW; go_simp⟩) (HC.out _ HW.out) ?_
      try simp only [Act.put, List.setIfInBounds_toArray, List.set_cons_zero, List.set_cons_succ]
      refine H_takeD (k := 7) (v := .pointer (some ⟨bX, oX + k * 9, none⟩)) (d := some 30) rfl rfl (by decide +kernel) (fun _ _ _ h => h) (Or.inl ⟨by rfl, fun W hW => by obtain ⟨s0, s1, s2, s3, s4, s5, s6, s7, s8⟩ := hW; go_simp⟩) (HC.out _ HW.out) ?_
      try simp only [Act.put, List.setIfInBounds_toArray, List.set_cons_zero, List.set_cons_succ]
      refine H_takeD (k := 8) (v := .agg #[.int .i64 p.office, .int .i64 p.num, .slice a.n p.needs.length a.cn, .slice a.s p.st.length a.cs, .slice a.l p.pl.length a.cl, .slice a.m p.ma.length a.cm, .slice a.e p.er.length a.ce, .slice a.d p.dr.length a.cd, .slice a.r p.rt.length a.cr]) (d := some 31) rfl rfl (by decide +kernel) (fun _ _ _ h => h) (Or.inl ⟨by rfl, fun W hW => by obtain ⟨s0, s1, s2, s3, s4, s5, s6, s7, s8⟩ := hW; go_simp⟩) (HC.out _ HW.out) ?_
      try simp only [Act.put, List.setIfInBounds_toArray, List.set_cons_zero, List.set_cons_succ]
      refine H_one (i := 4) (by decide +kernel) (H_step rfl rfl (fun K hK8 => ?_))
      have hK8 := Lib.hid hK8
      go_simp
      go_at_call 11
      refine (HV.out _ HBd.out).mono ?_
      rintro e wa ⟨rfl, hb_⟩
      have HB2 := Lib.hid (HBd.out.trans (hb_.mono HBd.out.size))
      have HW2 := Lib.hid (HW.out.trans (hb_.mono HW.out.size))
      clear hb_ HBd HW
      refine hK8.out _ _ (HC.out _ HW2.out) ?_
      try simp only [Act.put, List.setIfInBounds_toArray, List.set_cons_zero, List.set_cons_succ]
      refine H_one (i := 9) (by decide +kernel) (H_step rfl rfl (fun K hK9 => ?_))
      have hK9 := Lib.hid hK9
      go_simp
      go_at_call 12
      refine (HR.out _ HB2.out).mono ?_
      rintro e wb ⟨rfl, hb_⟩
      have HB3 := Lib.hid (HB2.out.trans (hb_.mono HB2.out.size))
      have HW3 := Lib.hid (HW2.out.trans (hb_.mono HW2.out.size))
      clear hb_ HB2 HW2
      refine hK9.out _ _ (HC.out _ HW3.out) ?_
      try simp only [Act.put, List.setIfInBounds_toArray, List.set_cons_zero, List.set_cons_succ]
      refine H_takeD (k := 10) (v := .bool false) (d := some 33) rfl rfl (by decide +kernel) (fun _ _ _ h => h) (Or.inl ⟨by rfl, fun W hW => by obtain ⟨s0, s1, s2, s3, s4, s5, s6, s7, s8⟩ := hW; go_simp⟩) (HC.out _ HW3.out) ?_
      try simp only [Act.put, List.setIfInBounds_toArray, List.set_cons_zero, List.set_cons_succ]
      refine H_end (by decide +kernel) (NoPanic.normal ?_)
      try simp only [Act.put, List.setIfInBounds_toArray, List.set_cons_zero, List.set_cons_succ]
      go_wp2_with fail
      go_roundw
      case rel => exact ⟨k + 1, by omega, by go_num, HB3⟩
      case measure => simp [intOf]; omega
    · have HBf := Lib.hid (HB1.out.trans (HB.out.mono HB1.out.size))
      clear HB
      have hmk := run_make_u64 wr
      have HG := Lib.hid (Bk.new wr 53 ((List.replicate 65 (0 : Int)).map (Value.int .u64)).toArray)
      obtain ⟨ZR, hZR⟩ : ∃ z, Hid (((List.replicate 65 (0 : Int)).map (Value.int .u64)).toArray = z) := ⟨_, Lib.hid rfl⟩
      rw [hZR.out] at hmk
      have HBg := Lib.hid (HBf.out.alloc HBf.out.size (.cells ZR 53))
      rw [hZR.out] at HG
      obtain ⟨g_, hg_⟩ : ∃ z, Hid (wr.heap.size = z) := ⟨_, Lib.hid rfl⟩
      have HG2 := Lib.hid (HG.out.alloc (.cells #[.int .i64 0, .int .i64 0, .slice (some ⟨g_, 0, none⟩) 65 65, .slice none 0 0, .slice none 0 0, .slice none 0 0, .slice none 0 0, .slice none 0 0, .slice none 0 0] 34))
      rw [hg_.out] at HG2
      have HBh := Lib.hid (HBg.out.alloc HBg.out.size (.cells #[.int .i64 0, .int .i64 0, .slice (some ⟨g_, 0, none⟩) 65 65, .slice none 0 0, .slice none 0 0, .slice none 0 0, .slice none 0 0, .slice none 0 0, .slice none 0 0] 34))
      have HP := Lib.hid (Bk.new' (wr.alloc (.cells ZR 53)) 34 #[.int .i64 0, .int .i64 0, .slice (some ⟨g_, 0, none⟩) 65 65, .slice none 0 0, .slice none 0 0, .slice none 0 0, .slice none 0 0, .slice none 0 0, .slice none 0 0] (g := wr.heap.size + 1) (by simp))
      rw [hg_.out] at HP
      clear HBf HBg HG
      simp only [hg_.out] at hmk
      go_upto_region 8 with fail
      simp only [hg_.out]
      generalize (wr.alloc (.cells ZR 53)).alloc (.cells #[.int .i64 0, .int .i64 0, .slice (some ⟨g_, 0, none⟩) 65 65, .slice none 0 0, .slice none 0 0, .slice none 0 0, .slice none 0 0, .slice none 0 0, .slice none 0 0] 34) = Wm at *
      have m0_ : Wm.cell? ⟨g_ + 1, 0, none⟩ = some (.int .i64 0) := HP.out.cell 0
      have m1_ : Wm.cell? ⟨g_ + 1, 1, none⟩ = some (.int .i64 0) := HP.out.cell 1
      have m2_ : Wm.cell? ⟨g_ + 1, 2, none⟩ = some (.slice (some ⟨g_, 0, none⟩) 65 65) := HP.out.cell 2
      have m3_ : Wm.cell? ⟨g_ + 1, 3, none⟩ = some (.slice none 0 0) := HP.out.cell 3
      have m4_ : Wm.cell? ⟨g_ + 1, 4, none⟩ = some (.slice none 0 0) := HP.out.cell 4
      have m5_ : Wm.cell? ⟨g_ + 1, 5, none⟩ = some (.slice none 0 0) := HP.out.cell 5
      have m6_ : Wm.cell? ⟨g_ + 1, 6, none⟩ = some (.slice none 0 0) := HP.out.cell 6
      have m7_ : Wm.cell? ⟨g_ + 1, 7, none⟩ = some (.slice none 0 0) := HP.out.cell 7
      have m8_ : Wm.cell? ⟨g_ + 1, 8, none⟩ = some (.slice none 0 0) := HP.out.cell 8
      have HV2 := Lib.hid (show Calls Tryz.prog 11 #[.agg #[.int .i64 0, .int .i64 0, .slice (some ⟨g_, 0, none⟩) 65 65, .slice none 0 0, .slice none 0 0, .slice none 0 0, .slice none 0 0, .slice none 0 0, .slice none 0 0]] Wm fun e w' => e = .returned (.int .i64 4) ∧ Below Wm.heap.size Wm w' from by
        have h := patchValid_any manyP (manyW g_) Wm (many_pt (hZR.out.symm ▸ HG2.out)) many_pln
        rw [many_e] at h
        exact h)
      clear HP HG2 hmk
      go_wp2_with fail
      refine HV2.out.mono ?_
      rintro e wv ⟨rfl, hb_⟩
      have HBv := Lib.hid (HBh.out.trans (hb_.mono HBh.out.size))
      clear hb_ HV2 HBh
      go_wp2_with fail
      refine (lives_any wv).mono ?_
      rintro e wl ⟨rfl, hb_⟩
      have HBl := Lib.hid (HBv.out.trans (hb_.mono HBv.out.size))
      clear hb_
      go_wp2_with fail
      go_ret
      exact ⟨rfl, HBl.out⟩
end Go.Proofs.YtnapnkmehnabfaaGreat
