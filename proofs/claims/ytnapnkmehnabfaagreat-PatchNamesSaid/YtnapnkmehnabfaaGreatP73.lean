import Derived.Test.YtnapnkmehnabfaaGreatP72
import Derived.Great.BuildSlice
namespace Go.Proofs.YtnapnkmehnabfaaGreat
open Go.RowKit Go.Maps

theorem tdiv3 (x b : Int) (h : -9223372036854775808 ≤ x ∧ x ≤ 9223372036854775807) (e : x.tdiv 3 = b) : -9223372036854775808 ≤ b ∧ b ≤ 9223372036854775807 := by
 have h1 : b.natAbs = x.natAbs / 3 := by rw [← e]; exact Int.natAbs_tdiv x 3
 omega
theorem run_bs_patch2 (p1 p2 : Pa) (a1 a2 : Pw) (w : World) : (Instr.buildSlice 23 2 #[(0, .agg #[.int .i64 p1.office, .int .i64 p1.num, .slice a1.n p1.needs.length a1.cn, .slice a1.s p1.st.length a1.cs, .slice a1.l p1.pl.length a1.cl, .slice a1.m p1.ma.length a1.cm, .slice a1.e p1.er.length a1.ce, .slice a1.d p1.dr.length a1.cd, .slice a1.r p1.rt.length a1.cr]), (1, .agg #[.int .i64 p2.office, .int .i64 p2.num, .slice a2.n p2.needs.length a2.cn, .slice a2.s p2.st.length a2.cs, .slice a2.l p2.pl.length a2.cl, .slice a2.m p2.ma.length a2.cm, .slice a2.e p2.er.length a2.ce, .slice a2.d p2.dr.length a2.cd, .slice a2.r p2.rt.length a2.cr])]).run Tryz.prog w = .ok (.slice (some ⟨w.heap.size, 0, none⟩) 2 2) (w.alloc (.cells #[.int .i64 p1.office, .int .i64 p1.num, .slice a1.n p1.needs.length a1.cn, .slice a1.s p1.st.length a1.cs, .slice a1.l p1.pl.length a1.cl, .slice a1.m p1.ma.length a1.cm, .slice a1.e p1.er.length a1.ce, .slice a1.d p1.dr.length a1.cd, .slice a1.r p1.rt.length a1.cr, .int .i64 p2.office, .int .i64 p2.num, .slice a2.n p2.needs.length a2.cn, .slice a2.s p2.st.length a2.cs, .slice a2.l p2.pl.length a2.cl, .slice a2.m p2.ma.length a2.cm, .slice a2.e p2.er.length a2.ce, .slice a2.d p2.dr.length a2.cd, .slice a2.r p2.rt.length a2.cr] 34)) := by
 obtain ⟨x, hi, hz, hs, _⟩ := info_parts (show ((Tryz.prog).info? 34).map (fun i => (i.zero, i.size, i.bytes)) = some (some (.agg #[.int .i64 0, .int .i64 0, .slice none 0 0, .slice none 0 0, .slice none 0 0, .slice none 0 0, .slice none 0 0, .slice none 0 0, .slice none 0 0]), 9, 184) by kernel_rfl)
 exact run_buildSlice w _ _ 2 _ _ x _ Tryz.underlying23 hi hz (by rw [hs]; decide) (by rw [hs]; decide) (by rw [hs]; kernel_rfl)
set_option linter.unusedSimpArgs false in
set_option maxHeartbeats 16000000 in
set_option maxRecDepth 100000 in
theorem some_any (A : Option Addr) (cA : Nat) (l : List Int) (at_ how by_ : Int) (w : World) (hA : SI w A l) (hl : W64 l) (hat : i64 at_) (hho : i64 how) (hby : i64 by_) :
  Calls Tryz.prog 10 #[.slice A l.length cA, .int .i64 at_, .int .i64 how, .int .i64 by_] w fun e w' => ∃ (ps : List (Pa × Pw)) (X : Option Addr) (cX : Nat), e = .returned (.slice X ps.length cX) ∧ ps.length ≤ 30 ∧ SB w' 34 X (ps.flatMap paV) ∧ (∀ q ∈ ps, PB w' q.1 q.2 ∧ PQ 4100 7 q.1) ∧ Below w.heap.size w w' := by
 have HSc := Lib.hid (script_any A cA l 6 w hA hl (by decide))
 have Hat := Lib.hid hat
 have Hho := Lib.hid hho
 have Hby := Lib.hid hby
 obtain ⟨b3, hb3⟩ : ∃ z, Hid (by_.tdiv 3 = z) := ⟨_, Lib.hid rfl⟩
 have vb3 := hb3.out
 have Hb3 := Lib.hid (show i64 b3 from tdiv3 by_ b3 hby vb3)
 have vb3w : IntKind.i64.wrap b3 = b3 := IntWalk.i64_in _ Hb3.out
 clear hA hl hat hho hby
 go_enter Tryz.func10, Tryz.ntmps10
 go_wp2_with fail
 refine HSc.out.mono ?_
 rintro e w1 ⟨ps0, X0, c0, rfl, hp8, _, hown, hav, hnm, _, hb1⟩
 have HQ := Lib.hid (show SQ w w1 X0 c0 ps0.length ps0 from ⟨hown, fun q hq => ⟨(hav q hq).1, pq_mono (po_pq (hav q hq).2) (by decide) (by decide)⟩, fun k q _ e => po_pq (hav q (List.mem_of_getElem? e)).2, Nat.le_refl _, hb1⟩)
 clear hown hav hnm hb1 HSc
 obtain ⟨n0, hn0⟩ : ∃ z, Hid (ps0.length = z) := ⟨_, Lib.hid rfl⟩
 rw [hn0.out] at HQ hp8 ⊢
 go_wp2_with fail
 go_loopw [9, 11] (fun sv v wr => ∃ (i n : Nat) (X : Option Addr) (c : Nat) (ps : List (Pa × Pw)), i ≤ n0 ∧ v = .int .i64 (i : Int) ∧ sv = .slice X n c ∧ n ≤ 8 + 2 * i ∧ n0 ≤ n ∧ Hid (ps.length = n) ∧ Hid (SQ w wr X c n0 ps)) (fun _ v _ => n0 - (intOf v).toNat)
 case atStart => exact ⟨0, n0, X0, c0, ps0, by omega, rfl, rfl, by omega, by omega, hn0, HQ⟩
 case round =>
  clear HQ
  obtain ⟨i, n, X, c, ps, hi, rfl, rfl, hn, hnn, Hn, HQ⟩ := hrel
  by_cases hlt : i < n0
  ·have HAr := Lib.hid (fun W => around_any at_ (n0 : Int) W Hat.out.1 Hat.out.2 (by omega) (by omega))
   obtain ⟨xa, hxa⟩ : ∃ z, Hid (around at_ (n0 : Int) = z) := ⟨_, Lib.hid rfl⟩
   rw [hxa.out] at HAr
   clear hxa
   by_cases h1 : (i : Int) = xa
   ·have b1 : ((i : Int) == xa) = true := by simp [h1]
    clear h1
    obtain ⟨bX, oX, q, hXe, hq, hqc⟩ := pa_get (SB.own HQ.out.r).sl (k := i) (by rw [Hn.out]; omega)
    subst hXe
    obtain ⟨p, a⟩ := q
    have c0_ : wr.cell? ⟨bX, oX + i * 9, none⟩ = some (.int .i64 p.office) := hqc 0 _ rfl
    have c1_ : wr.cell? ⟨bX, oX + i * 9 + 1, none⟩ = some (.int .i64 p.num) := hqc 1 _ rfl
    have c2_ : wr.cell? ⟨bX, oX + i * 9 + 2, none⟩ = some (.slice a.n p.needs.length a.cn) := hqc 2 _ rfl
    have c3_ : wr.cell? ⟨bX, oX + i * 9 + 3, none⟩ = some (.slice a.s p.st.length a.cs) := hqc 3 _ rfl
    have c4_ : wr.cell? ⟨bX, oX + i * 9 + 4, none⟩ = some (.slice a.l p.pl.length a.cl) := hqc 4 _ rfl
    have c5_ : wr.cell? ⟨bX, oX + i * 9 + 5, none⟩ = some (.slice a.m p.ma.length a.cm) := hqc 5 _ rfl
    have c6_ : wr.cell? ⟨bX, oX + i * 9 + 6, none⟩ = some (.slice a.e p.er.length a.ce) := hqc 6 _ rfl
    have c7_ : wr.cell? ⟨bX, oX + i * 9 + 7, none⟩ = some (.slice a.d p.dr.length a.cd) := hqc 7 _ rfl
    have c8_ : wr.cell? ⟨bX, oX + i * 9 + 8, none⟩ = some (.slice a.r p.rt.length a.cr) := hqc 8 _ rfl
    have hni : ¬ (n ≤ i) := by omega
    obtain ⟨a2, ha2⟩ : ∃ z, Hid (IntKind.i64.wrap (at_ + (i : Int)) = z) := ⟨_, Lib.hid rfl⟩
    obtain ⟨h2_, hh2⟩ : ∃ z, Hid (IntKind.i64.wrap (how + (i : Int)) = z) := ⟨_, Lib.hid rfl⟩
    have va2 := ha2.out
    have vh2 := hh2.out
    have va2b : wrap64 (at_ + (i : Int)) = a2 := by unfold wrap64; rw [← ha2.out, IntKind.wrap_i64]
    have vh2b : wrap64 (how + (i : Int)) = h2_ := by unfold wrap64; rw [← hh2.out, IntKind.wrap_i64]
    have HSp := Lib.hid (spoilt_any 4098 1 p a a2 h2_ by_ wr (HQ.out.q _ (List.mem_of_getElem? hq.out)).1 (HQ.out.f i _ hlt hq.out) (by decide) (by decide) (by decide) (ha2.out ▸ wrap_i64 _) (hh2.out ▸ wrap_i64 _) Hby.out)
    clear hq hqc ha2 hh2
    go_wp2_with fail
    refine (HAr.out _).mono ?_
    rintro e wz ⟨rfl, rfl⟩
    go_wp2_with fail
    refine HSp.out.mono ?_
    rintro e w7 ⟨p1, a1, rfl, hpb1, hpq1, hb7⟩
    simp only [paC]
    have HQ7 := Lib.hid ((HQ.out.below hb7).below ((Below.refl _ _).alloc (Nat.le_refl _) (.cells #[.int .i64 p1.office, .int .i64 p1.num, .slice a1.n p1.needs.length a1.cn, .slice a1.s p1.st.length a1.cs, .slice a1.l p1.pl.length a1.cl, .slice a1.m p1.ma.length a1.cm, .slice a1.e p1.er.length a1.ce, .slice a1.d p1.dr.length a1.cd, .slice a1.r p1.rt.length a1.cr] 34)))
    have HP7 := Lib.hid (hpb1.below ((Below.refl _ _).alloc (Nat.le_refl _) (.cells #[.int .i64 p1.office, .int .i64 p1.num, .slice a1.n p1.needs.length a1.cn, .slice a1.s p1.st.length a1.cs, .slice a1.l p1.pl.length a1.cl, .slice a1.m p1.ma.length a1.cm, .slice a1.e p1.er.length a1.ce, .slice a1.d p1.dr.length a1.cd, .slice a1.r p1.rt.length a1.cr] 34)))
    have HB7 := Lib.hid (Bk.new w7 34 #[.int .i64 p1.office, .int .i64 p1.num, .slice a1.n p1.needs.length a1.cn, .slice a1.s p1.st.length a1.cs, .slice a1.l p1.pl.length a1.cl, .slice a1.m p1.ma.length a1.cm, .slice a1.e p1.er.length a1.ce, .slice a1.d p1.dr.length a1.cd, .slice a1.r p1.rt.length a1.cr])
    have Hpq1 := Lib.hid hpq1
    have HBne := Lib.hid (fun (e : some w7.heap.size = (Value.slice (some ⟨bX, oX, none⟩) n c).ownBlock) => (show False from Nat.lt_irrefl _ (Nat.lt_of_lt_of_le (HQ.out.r.lt _ e.symm).2 hb7.size)))
    clear hpb1 hpq1 hb7 HSp HQ va2 vh2 va2b vh2b
    clear c0_ c1_ c2_ c3_ c4_ c5_ c6_ c7_ c8_
    go_upto_region 8 with fail
    generalize w7.alloc (.cells #[.int .i64 p1.office, .int .i64 p1.num, .slice a1.n p1.needs.length a1.cn, .slice a1.s p1.st.length a1.cs, .slice a1.l p1.pl.length a1.cl, .slice a1.m p1.ma.length a1.cm, .slice a1.e p1.er.length a1.ce, .slice a1.d p1.dr.length a1.cd, .slice a1.r p1.rt.length a1.cr] 34) = W8 at *
    generalize w7.heap.size = P at *
    have HQ := Lib.hid (HQ7.out.below (Below.refl _ _).drew)
    have HP1 := Lib.hid (HP7.out.below (Below.refl _ _).drew)
    have HB := Lib.hid (HB7.out.below (Below.refl _ _).drew HB7.out.lt)
    clear HQ7 HP7 HB7
    refine wp_region_noPanic ?_
    refine region_H (S := fun W => W.cell? ⟨P, 0, none⟩ = some (.int .i64 p1.office) ∧ W.cell? ⟨P, 1, none⟩ = some (.int .i64 p1.num) ∧ W.cell? ⟨P, 2, none⟩ = some (.slice a1.n p1.needs.length a1.cn) ∧ W.cell? ⟨P, 3, none⟩ = some (.slice a1.s p1.st.length a1.cs) ∧ W.cell? ⟨P, 4, none⟩ = some (.slice a1.l p1.pl.length a1.cl) ∧ W.cell? ⟨P, 5, none⟩ = some (.slice a1.m p1.ma.length a1.cm) ∧ W.cell? ⟨P, 6, none⟩ = some (.slice a1.e p1.er.length a1.ce) ∧ W.cell? ⟨P, 7, none⟩ = some (.slice a1.d p1.dr.length a1.cd) ∧ W.cell? ⟨P, 8, none⟩ = some (.slice a1.r p1.rt.length a1.cr)) (by kernel_rfl) ?_
    change wpH _ _ _ _ 11 _ _ W8.drew
    generalize W8.drew = X1 at *
    refine H_takeD (k := 0) (v := .slice (some ⟨bX, oX, none⟩) n c) (d := some 44) rfl rfl (by decide +kernel) (fun _ _ _ h => h) (Or.inl ⟨by rfl, fun W hW => by obtain ⟨s0, s1, s2, s3, s4, s5, s6, s7, s8⟩ := hW; go_simp⟩) ⟨HB.out.cell 0, HB.out.cell 1, HB.out.cell 2, HB.out.cell 3, HB.out.cell 4, HB.out.cell 5, HB.out.cell 6, HB.out.cell 7, HB.out.cell 8⟩ ?_
    try simp only [Act.put, qz0, qz1, qz2]
    refine H_takeD (k := 1) (v := .agg #[.int .i64 p1.office, .int .i64 p1.num, .slice a1.n p1.needs.length a1.cn, .slice a1.s p1.st.length a1.cs, .slice a1.l p1.pl.length a1.cl, .slice a1.m p1.ma.length a1.cm, .slice a1.e p1.er.length a1.ce, .slice a1.d p1.dr.length a1.cd, .slice a1.r p1.rt.length a1.cr]) (d := some 45) rfl rfl (by decide +kernel) (fun _ _ _ h => h) (Or.inl ⟨by rfl, fun W hW => by obtain ⟨s0, s1, s2, s3, s4, s5, s6, s7, s8⟩ := hW; go_simp⟩) ⟨HB.out.cell 0, HB.out.cell 1, HB.out.cell 2, HB.out.cell 3, HB.out.cell 4, HB.out.cell 5, HB.out.cell 6, HB.out.cell 7, HB.out.cell 8⟩ ?_
    try simp only [Act.put, qz0, qz1, qz2]
    refine H_takeD (k := 2) (v := .agg #[.int .i64 p1.office, .int .i64 p1.num, .slice a1.n p1.needs.length a1.cn, .slice a1.s p1.st.length a1.cs, .slice a1.l p1.pl.length a1.cl, .slice a1.m p1.ma.length a1.cm, .slice a1.e p1.er.length a1.ce, .slice a1.d p1.dr.length a1.cd, .slice a1.r p1.rt.length a1.cr]) (d := some 46) rfl rfl (by decide +kernel) (fun _ _ _ h => h) (Or.inl ⟨by rfl, fun W hW => by obtain ⟨s0, s1, s2, s3, s4, s5, s6, s7, s8⟩ := hW; go_simp⟩) ⟨HB.out.cell 0, HB.out.cell 1, HB.out.cell 2, HB.out.cell 3, HB.out.cell 4, HB.out.cell 5, HB.out.cell 6, HB.out.cell 7, HB.out.cell 8⟩ ?_
    try simp only [Act.put, qz0, qz1, qz2]
    refine H_takeD (k := 3) (v := .int .i64 how) (d := some 47) rfl rfl (by decide +kernel) (fun _ _ _ h => h) (Or.inl ⟨by rfl, fun W hW => by obtain ⟨s0, s1, s2, s3, s4, s5, s6, s7, s8⟩ := hW; go_simp⟩) ⟨HB.out.cell 0, HB.out.cell 1, HB.out.cell 2, HB.out.cell 3, HB.out.cell 4, HB.out.cell 5, HB.out.cell 6, HB.out.cell 7, HB.out.cell 8⟩ ?_
    try simp only [Act.put, qz0, qz1, qz2]
    refine H_takeD (k := 4) (v := .int .i64 at_) (d := some 48) rfl rfl (by decide +kernel) (fun _ _ _ h => h) (Or.inl ⟨by rfl, fun W hW => by obtain ⟨s0, s1, s2, s3, s4, s5, s6, s7, s8⟩ := hW; go_simp⟩) ⟨HB.out.cell 0, HB.out.cell 1, HB.out.cell 2, HB.out.cell 3, HB.out.cell 4, HB.out.cell 5, HB.out.cell 6, HB.out.cell 7, HB.out.cell 8⟩ ?_
    try simp only [Act.put, qz0, qz1, qz2]
    refine H_takeD (k := 5) (v := .int .i64 by_) (d := some 49) rfl rfl (by decide +kernel) (fun _ _ _ h => h) (Or.inl ⟨by rfl, fun W hW => by obtain ⟨s0, s1, s2, s3, s4, s5, s6, s7, s8⟩ := hW; go_simp⟩) ⟨HB.out.cell 0, HB.out.cell 1, HB.out.cell 2, HB.out.cell 3, HB.out.cell 4, HB.out.cell 5, HB.out.cell 6, HB.out.cell 7, HB.out.cell 8⟩ ?_
    try simp only [Act.put, qz0, qz1, qz2]
    refine H_takeD (k := 6) (v := .int .i64 b3) (d := some 50) rfl rfl (by decide +kernel) (fun _ _ _ h => h) (Or.inl ⟨by rfl, fun W hW => by obtain ⟨s0, s1, s2, s3, s4, s5, s6, s7, s8⟩ := hW; go_simp⟩) ⟨HB.out.cell 0, HB.out.cell 1, HB.out.cell 2, HB.out.cell 3, HB.out.cell 4, HB.out.cell 5, HB.out.cell 6, HB.out.cell 7, HB.out.cell 8⟩ ?_
    try simp only [Act.put, qz0, qz1, qz2]
    refine H_one (i := 7) (by decide +kernel) (H_step rfl rfl (fun K hK7 => ?_))
    have hK7 := Lib.hid hK7
    go_simp
    go_at_call 41
    refine (spoilt_any 4099 3 p1 a1 how at_ b3 _ HP1.out (pq_mono Hpq1.out (by decide) (by decide)) (by decide) (by decide) (by decide) Hho.out Hat.out Hb3.out).mono ?_
    rintro e wa ⟨p2, a2', rfl, hpb2, hpq2, hb_⟩
    simp only [paC]
    have HQ2 := Lib.hid (HQ.out.below hb_)
    have HPa := Lib.hid (HP1.out.below hb_)
    have HB2 := Lib.hid (HB.out.below hb_ HB.out.lt)
    have HP2 := Lib.hid hpb2
    have Hpq2 := Lib.hid hpq2
    clear hpb2 hpq2 hb_ HQ HP1 HB
    have HQ := HQ2
    have HP1 := HPa
    have HB := HB2
    clear HQ2 HPa HB2
    refine hK7.out _ _ ⟨HB.out.cell 0, HB.out.cell 1, HB.out.cell 2, HB.out.cell 3, HB.out.cell 4, HB.out.cell 5, HB.out.cell 6, HB.out.cell 7, HB.out.cell 8⟩ ?_
    try simp only [Act.put, qz0, qz1, qz2]
    refine H_one (i := 8) (by decide +kernel) (H_step rfl rfl (fun K hK8 => ?_))
    have hK8 := Lib.hid hK8
    refine wp_bs_row 23 2 #[(0, .tmp 45), (1, .tmp 51)] rfl #[(0, .agg #[.int .i64 p1.office, .int .i64 p1.num, .slice a1.n p1.needs.length a1.cn, .slice a1.s p1.st.length a1.cs, .slice a1.l p1.pl.length a1.cl, .slice a1.m p1.ma.length a1.cm, .slice a1.e p1.er.length a1.ce, .slice a1.d p1.dr.length a1.cd, .slice a1.r p1.rt.length a1.cr]), (1, .agg #[.int .i64 p2.office, .int .i64 p2.num, .slice a2'.n p2.needs.length a2'.cn, .slice a2'.s p2.st.length a2'.cs, .slice a2'.l p2.pl.length a2'.cl, .slice a2'.m p2.ma.length a2'.cm, .slice a2'.e p2.er.length a2'.ce, .slice a2'.d p2.dr.length a2'.cd, .slice a2'.r p2.rt.length a2'.cr])] (by simp [Act.eval]) _ (run_bs_patch2 p1 p2 a1 a2' _) ?_
    have HL := Lib.hid (Bk.new wa 34 #[.int .i64 p1.office, .int .i64 p1.num, .slice a1.n p1.needs.length a1.cn, .slice a1.s p1.st.length a1.cs, .slice a1.l p1.pl.length a1.cl, .slice a1.m p1.ma.length a1.cm, .slice a1.e p1.er.length a1.ce, .slice a1.d p1.dr.length a1.cd, .slice a1.r p1.rt.length a1.cr, .int .i64 p2.office, .int .i64 p2.num, .slice a2'.n p2.needs.length a2'.cn, .slice a2'.s p2.st.length a2'.cs, .slice a2'.l p2.pl.length a2'.cl, .slice a2'.m p2.ma.length a2'.cm, .slice a2'.e p2.er.length a2'.ce, .slice a2'.d p2.dr.length a2'.cd, .slice a2'.r p2.rt.length a2'.cr])
    have HQ2 := Lib.hid (HQ.out.below ((Below.refl _ _).alloc (Nat.le_refl _) (.cells #[.int .i64 p1.office, .int .i64 p1.num, .slice a1.n p1.needs.length a1.cn, .slice a1.s p1.st.length a1.cs, .slice a1.l p1.pl.length a1.cl, .slice a1.m p1.ma.length a1.cm, .slice a1.e p1.er.length a1.ce, .slice a1.d p1.dr.length a1.cd, .slice a1.r p1.rt.length a1.cr, .int .i64 p2.office, .int .i64 p2.num, .slice a2'.n p2.needs.length a2'.cn, .slice a2'.s p2.st.length a2'.cs, .slice a2'.l p2.pl.length a2'.cl, .slice a2'.m p2.ma.length a2'.cm, .slice a2'.e p2.er.length a2'.ce, .slice a2'.d p2.dr.length a2'.cd, .slice a2'.r p2.rt.length a2'.cr] 34)))
    have HPa := Lib.hid (HP1.out.below ((Below.refl _ _).alloc (Nat.le_refl _) (.cells #[.int .i64 p1.office, .int .i64 p1.num, .slice a1.n p1.needs.length a1.cn, .slice a1.s p1.st.length a1.cs, .slice a1.l p1.pl.length a1.cl, .slice a1.m p1.ma.length a1.cm, .slice a1.e p1.er.length a1.ce, .slice a1.d p1.dr.length a1.cd, .slice a1.r p1.rt.length a1.cr, .int .i64 p2.office, .int .i64 p2.num, .slice a2'.n p2.needs.length a2'.cn, .slice a2'.s p2.st.length a2'.cs, .slice a2'.l p2.pl.length a2'.cl, .slice a2'.m p2.ma.length a2'.cm, .slice a2'.e p2.er.length a2'.ce, .slice a2'.d p2.dr.length a2'.cd, .slice a2'.r p2.rt.length a2'.cr] 34)))
    have HPb := Lib.hid (HP2.out.below ((Below.refl _ _).alloc (Nat.le_refl _) (.cells #[.int .i64 p1.office, .int .i64 p1.num, .slice a1.n p1.needs.length a1.cn, .slice a1.s p1.st.length a1.cs, .slice a1.l p1.pl.length a1.cl, .slice a1.m p1.ma.length a1.cm, .slice a1.e p1.er.length a1.ce, .slice a1.d p1.dr.length a1.cd, .slice a1.r p1.rt.length a1.cr, .int .i64 p2.office, .int .i64 p2.num, .slice a2'.n p2.needs.length a2'.cn, .slice a2'.s p2.st.length a2'.cs, .slice a2'.l p2.pl.length a2'.cl, .slice a2'.m p2.ma.length a2'.cm, .slice a2'.e p2.er.length a2'.ce, .slice a2'.d p2.dr.length a2'.cd, .slice a2'.r p2.rt.length a2'.cr] 34)))
    have HB2 := Lib.hid (HB.out.alloc (.cells #[.int .i64 p1.office, .int .i64 p1.num, .slice a1.n p1.needs.length a1.cn, .slice a1.s p1.st.length a1.cs, .slice a1.l p1.pl.length a1.cl, .slice a1.m p1.ma.length a1.cm, .slice a1.e p1.er.length a1.ce, .slice a1.d p1.dr.length a1.cd, .slice a1.r p1.rt.length a1.cr, .int .i64 p2.office, .int .i64 p2.num, .slice a2'.n p2.needs.length a2'.cn, .slice a2'.s p2.st.length a2'.cs, .slice a2'.l p2.pl.length a2'.cl, .slice a2'.m p2.ma.length a2'.cm, .slice a2'.e p2.er.length a2'.ce, .slice a2'.d p2.dr.length a2'.cd, .slice a2'.r p2.rt.length a2'.cr] 34))
    clear HQ HP1 HP2 HB
    have HQ := HQ2
    have HP1 := HPa
    have HP2 := HPb
    have HB := HB2
    clear HQ2 HPa HPb HB2
    generalize wa.alloc (.cells #[.int .i64 p1.office, .int .i64 p1.num, .slice a1.n p1.needs.length a1.cn, .slice a1.s p1.st.length a1.cs, .slice a1.l p1.pl.length a1.cl, .slice a1.m p1.ma.length a1.cm, .slice a1.e p1.er.length a1.ce, .slice a1.d p1.dr.length a1.cd, .slice a1.r p1.rt.length a1.cr, .int .i64 p2.office, .int .i64 p2.num, .slice a2'.n p2.needs.length a2'.cn, .slice a2'.s p2.st.length a2'.cs, .slice a2'.l p2.pl.length a2'.cl, .slice a2'.m p2.ma.length a2'.cm, .slice a2'.e p2.er.length a2'.ce, .slice a2'.d p2.dr.length a2'.cd, .slice a2'.r p2.rt.length a2'.cr] 34) = Wl at *
    generalize wa.heap.size = h_ at *
    refine hK8.out _ _ ⟨HB.out.cell 0, HB.out.cell 1, HB.out.cell 2, HB.out.cell 3, HB.out.cell 4, HB.out.cell 5, HB.out.cell 6, HB.out.cell 7, HB.out.cell 8⟩ ?_
    try simp only [Act.put, qz0, qz1, qz2]
    refine H_one (i := 9) (by decide +kernel) (H_step rfl rfl (fun K hK9 => ?_))
    have hK9 := Lib.hid hK9
    have hO_ := HQ.out.r
    rw [Hn.out] at hO_
    refine app_wpMB (us := [.int .i64 p1.office, .int .i64 p1.num, .slice a1.n p1.needs.length a1.cn, .slice a1.s p1.st.length a1.cs, .slice a1.l p1.pl.length a1.cl, .slice a1.m p1.ma.length a1.cm, .slice a1.e p1.er.length a1.ce, .slice a1.d p1.dr.length a1.cd, .slice a1.r p1.rt.length a1.cr, .int .i64 p2.office, .int .i64 p2.num, .slice a2'.n p2.needs.length a2'.cn, .slice a2'.s p2.st.length a2'.cs, .slice a2'.l p2.pl.length a2'.cl, .slice a2'.m p2.ma.length a2'.cm, .slice a2'.e p2.er.length a2'.ce, .slice a2'.d p2.dr.length a2'.cd, .slice a2'.r p2.rt.length a2'.cr]) (m := 2) (xs := ps.flatMap paV) (n := n) (base := w.heap.size) (c := 2) (H := h_) (v := .slice (some ⟨bX, oX, none⟩) n c) (.tmp 44) (.tmp 52) rfl elt_patch (by simp [Act.eval]) (by simp [Act.eval]) hO_ HL.out rfl rfl (by decide) (by omega) HQ.out.b.size ?_
    intro v8 w8 hown8 hg8
    obtain ⟨X8, c8, rfl⟩ := own_slice hown8
    have HF := Lib.hid (HQ.out.app (m := 2) (qs := [(p1, a1), (p2, a2')]) (by rw [Hn.out]; exact hg8) (by rw [Hn.out]; exact hown8) rfl (fun q hq => (List.mem_cons.1 hq).elim (fun h => by rw [h]; exact ⟨HP1.out, pq_mono Hpq1.out (by decide) (by decide)⟩) (fun h => by rw [List.mem_singleton.1 h]; exact ⟨HP2.out, pq_mono Hpq2.out (by decide) (by decide)⟩)))
    have HB8 := Lib.hid (HB.out.grown hg8 HBne.out)
    clear hown8 hg8 HQ HP1 HP2 hO_ HB
    have HB := HB8
    clear HB8
    refine hK9.out _ _ ⟨HB.out.cell 0, HB.out.cell 1, HB.out.cell 2, HB.out.cell 3, HB.out.cell 4, HB.out.cell 5, HB.out.cell 6, HB.out.cell 7, HB.out.cell 8⟩ ?_
    try simp only [Act.put, qz0, qz1, qz2]
    refine H_takeD (k := 10) (v := .slice X8 (n + 2) c8) (d := some 9) rfl rfl (by decide +kernel) (fun _ _ _ h => h) (Or.inl ⟨by rfl, fun W hW => by obtain ⟨s0, s1, s2, s3, s4, s5, s6, s7, s8⟩ := hW; go_simp⟩) ⟨HB.out.cell 0, HB.out.cell 1, HB.out.cell 2, HB.out.cell 3, HB.out.cell 4, HB.out.cell 5, HB.out.cell 6, HB.out.cell 7, HB.out.cell 8⟩ ?_
    try simp only [Act.put, qz0, qz1, qz2]
    refine H_end (by decide +kernel) (NoPanic.normal ?_)
    try simp only [Act.put, qz0, qz1, qz2]
    clear HB HL
    go_wp2_with fail
    go_roundw
    case rel => exact ⟨i + 1, n + 2, X8, c8, ps ++ [(p1, a1), (p2, a2')], by omega, by go_num, rfl, by omega, by omega, Lib.hid (by rw [List.length_append, Hn.out]; rfl), HF⟩
    case measure => simp [intOf]; omega
   ·have b1 : ((i : Int) == xa) = false := by simp [h1]
    clear h1
    by_cases h2 : (i : Int) % 3 = 2
    ·have b2 : ((i : Int) % 3 == 2) = true := by simp [h2]
     clear h2
     obtain ⟨bX, oX, q, hXe, hq, hqc⟩ := pa_get (SB.own HQ.out.r).sl (k := i) (by rw [Hn.out]; omega)
     subst hXe
     obtain ⟨p, a⟩ := q
     have c0_ : wr.cell? ⟨bX, oX + i * 9, none⟩ = some (.int .i64 p.office) := hqc 0 _ rfl
     have c1_ : wr.cell? ⟨bX, oX + i * 9 + 1, none⟩ = some (.int .i64 p.num) := hqc 1 _ rfl
     have c2_ : wr.cell? ⟨bX, oX + i * 9 + 2, none⟩ = some (.slice a.n p.needs.length a.cn) := hqc 2 _ rfl
     have c3_ : wr.cell? ⟨bX, oX + i * 9 + 3, none⟩ = some (.slice a.s p.st.length a.cs) := hqc 3 _ rfl
     have c4_ : wr.cell? ⟨bX, oX + i * 9 + 4, none⟩ = some (.slice a.l p.pl.length a.cl) := hqc 4 _ rfl
     have c5_ : wr.cell? ⟨bX, oX + i * 9 + 5, none⟩ = some (.slice a.m p.ma.length a.cm) := hqc 5 _ rfl
     have c6_ : wr.cell? ⟨bX, oX + i * 9 + 6, none⟩ = some (.slice a.e p.er.length a.ce) := hqc 6 _ rfl
     have c7_ : wr.cell? ⟨bX, oX + i * 9 + 7, none⟩ = some (.slice a.d p.dr.length a.cd) := hqc 7 _ rfl
     have c8_ : wr.cell? ⟨bX, oX + i * 9 + 8, none⟩ = some (.slice a.r p.rt.length a.cr) := hqc 8 _ rfl
     have hni : ¬ (n ≤ i) := by omega
     obtain ⟨a2, ha2⟩ : ∃ z, Hid (IntKind.i64.wrap (at_ + (i : Int)) = z) := ⟨_, Lib.hid rfl⟩
     obtain ⟨h2_, hh2⟩ : ∃ z, Hid (IntKind.i64.wrap (how + (i : Int)) = z) := ⟨_, Lib.hid rfl⟩
     have va2 := ha2.out
     have vh2 := hh2.out
     have va2b : wrap64 (at_ + (i : Int)) = a2 := by unfold wrap64; rw [← ha2.out, IntKind.wrap_i64]
     have vh2b : wrap64 (how + (i : Int)) = h2_ := by unfold wrap64; rw [← hh2.out, IntKind.wrap_i64]
     have HSp := Lib.hid (spoilt_any 4098 1 p a a2 h2_ by_ wr (HQ.out.q _ (List.mem_of_getElem? hq.out)).1 (HQ.out.f i _ hlt hq.out) (by decide) (by decide) (by decide) (ha2.out ▸ wrap_i64 _) (hh2.out ▸ wrap_i64 _) Hby.out)
     clear hq hqc ha2 hh2
     go_wp2_with fail
     refine (HAr.out _).mono ?_
     rintro e wz ⟨rfl, rfl⟩
     go_wp2_with fail
     refine HSp.out.mono ?_
     rintro e w7 ⟨p1, a1, rfl, hpb1, hpq1, hb7⟩
     simp only [paC]
     have HQ7 := Lib.hid ((HQ.out.below hb7).below ((Below.refl _ _).alloc (Nat.le_refl _) (.cells #[.int .i64 p1.office, .int .i64 p1.num, .slice a1.n p1.needs.length a1.cn, .slice a1.s p1.st.length a1.cs, .slice a1.l p1.pl.length a1.cl, .slice a1.m p1.ma.length a1.cm, .slice a1.e p1.er.length a1.ce, .slice a1.d p1.dr.length a1.cd, .slice a1.r p1.rt.length a1.cr] 34)))
     have HP7 := Lib.hid (hpb1.below ((Below.refl _ _).alloc (Nat.le_refl _) (.cells #[.int .i64 p1.office, .int .i64 p1.num, .slice a1.n p1.needs.length a1.cn, .slice a1.s p1.st.length a1.cs, .slice a1.l p1.pl.length a1.cl, .slice a1.m p1.ma.length a1.cm, .slice a1.e p1.er.length a1.ce, .slice a1.d p1.dr.length a1.cd, .slice a1.r p1.rt.length a1.cr] 34)))
     have HB7 := Lib.hid (Bk.new w7 34 #[.int .i64 p1.office, .int .i64 p1.num, .slice a1.n p1.needs.length a1.cn, .slice a1.s p1.st.length a1.cs, .slice a1.l p1.pl.length a1.cl, .slice a1.m p1.ma.length a1.cm, .slice a1.e p1.er.length a1.ce, .slice a1.d p1.dr.length a1.cd, .slice a1.r p1.rt.length a1.cr])
     have Hpq1 := Lib.hid hpq1
     have HBne := Lib.hid (fun (e : some w7.heap.size = (Value.slice (some ⟨bX, oX, none⟩) n c).ownBlock) => (show False from Nat.lt_irrefl _ (Nat.lt_of_lt_of_le (HQ.out.r.lt _ e.symm).2 hb7.size)))
     clear hpb1 hpq1 hb7 HSp HQ va2 vh2 va2b vh2b
     clear c0_ c1_ c2_ c3_ c4_ c5_ c6_ c7_ c8_
     go_upto_region 8 with fail
     generalize w7.alloc (.cells #[.int .i64 p1.office, .int .i64 p1.num, .slice a1.n p1.needs.length a1.cn, .slice a1.s p1.st.length a1.cs, .slice a1.l p1.pl.length a1.cl, .slice a1.m p1.ma.length a1.cm, .slice a1.e p1.er.length a1.ce, .slice a1.d p1.dr.length a1.cd, .slice a1.r p1.rt.length a1.cr] 34) = W8 at *
     generalize w7.heap.size = P at *
     have HQ := Lib.hid (HQ7.out.below (Below.refl _ _).drew)
     have HP1 := Lib.hid (HP7.out.below (Below.refl _ _).drew)
     have HB := Lib.hid (HB7.out.below (Below.refl _ _).drew HB7.out.lt)
     clear HQ7 HP7 HB7
     refine wp_region_noPanic ?_
     refine region_H (S := fun W => W.cell? ⟨P, 0, none⟩ = some (.int .i64 p1.office) ∧ W.cell? ⟨P, 1, none⟩ = some (.int .i64 p1.num) ∧ W.cell? ⟨P, 2, none⟩ = some (.slice a1.n p1.needs.length a1.cn) ∧ W.cell? ⟨P, 3, none⟩ = some (.slice a1.s p1.st.length a1.cs) ∧ W.cell? ⟨P, 4, none⟩ = some (.slice a1.l p1.pl.length a1.cl) ∧ W.cell? ⟨P, 5, none⟩ = some (.slice a1.m p1.ma.length a1.cm) ∧ W.cell? ⟨P, 6, none⟩ = some (.slice a1.e p1.er.length a1.ce) ∧ W.cell? ⟨P, 7, none⟩ = some (.slice a1.d p1.dr.length a1.cd) ∧ W.cell? ⟨P, 8, none⟩ = some (.slice a1.r p1.rt.length a1.cr)) (by kernel_rfl) ?_
     change wpH _ _ _ _ 11 _ _ W8.drew
     generalize W8.drew = X1 at *
     refine H_takeD (k := 0) (v := .slice (some ⟨bX, oX, none⟩) n c) (d := some 44) rfl rfl (by decide +kernel) (fun _ _ _ h => h) (Or.inl ⟨by rfl, fun W hW => by obtain ⟨s0, s1, s2, s3, s4, s5, s6, s7, s8⟩ := hW; go_simp⟩) ⟨HB.out.cell 0, HB.out.cell 1, HB.out.cell 2, HB.out.cell 3, HB.out.cell 4, HB.out.cell 5, HB.out.cell 6, HB.out.cell 7, HB.out.cell 8⟩ ?_
     try simp only [Act.put, qz0, qz1, qz2]
     refine H_takeD (k := 1) (v := .agg #[.int .i64 p1.office, .int .i64 p1.num, .slice a1.n p1.needs.length a1.cn, .slice a1.s p1.st.length a1.cs, .slice a1.l p1.pl.length a1.cl, .slice a1.m p1.ma.length a1.cm, .slice a1.e p1.er.length a1.ce, .slice a1.d p1.dr.length a1.cd, .slice a1.r p1.rt.length a1.cr]) (d := some 45) rfl rfl (by decide +kernel) (fun _ _ _ h => h) (Or.inl ⟨by rfl, fun W hW => by obtain ⟨s0, s1, s2, s3, s4, s5, s6, s7, s8⟩ := hW; go_simp⟩) ⟨HB.out.cell 0, HB.out.cell 1, HB.out.cell 2, HB.out.cell 3, HB.out.cell 4, HB.out.cell 5, HB.out.cell 6, HB.out.cell 7, HB.out.cell 8⟩ ?_
     try simp only [Act.put, qz0, qz1, qz2]
     refine H_takeD (k := 2) (v := .agg #[.int .i64 p1.office, .int .i64 p1.num, .slice a1.n p1.needs.length a1.cn, .slice a1.s p1.st.length a1.cs, .slice a1.l p1.pl.length a1.cl, .slice a1.m p1.ma.length a1.cm, .slice a1.e p1.er.length a1.ce, .slice a1.d p1.dr.length a1.cd, .slice a1.r p1.rt.length a1.cr]) (d := some 46) rfl rfl (by decide +kernel) (fun _ _ _ h => h) (Or.inl ⟨by rfl, fun W hW => by obtain ⟨s0, s1, s2, s3, s4, s5, s6, s7, s8⟩ := hW; go_simp⟩) ⟨HB.out.cell 0, HB.out.cell 1, HB.out.cell 2, HB.out.cell 3, HB.out.cell 4, HB.out.cell 5, HB.out.cell 6, HB.out.cell 7, HB.out.cell 8⟩ ?_
     try simp only [Act.put, qz0, qz1, qz2]
     refine H_takeD (k := 3) (v := .int .i64 how) (d := some 47) rfl rfl (by decide +kernel) (fun _ _ _ h => h) (Or.inl ⟨by rfl, fun W hW => by obtain ⟨s0, s1, s2, s3, s4, s5, s6, s7, s8⟩ := hW; go_simp⟩) ⟨HB.out.cell 0, HB.out.cell 1, HB.out.cell 2, HB.out.cell 3, HB.out.cell 4, HB.out.cell 5, HB.out.cell 6, HB.out.cell 7, HB.out.cell 8⟩ ?_
     try simp only [Act.put, qz0, qz1, qz2]
     refine H_takeD (k := 4) (v := .int .i64 at_) (d := some 48) rfl rfl (by decide +kernel) (fun _ _ _ h => h) (Or.inl ⟨by rfl, fun W hW => by obtain ⟨s0, s1, s2, s3, s4, s5, s6, s7, s8⟩ := hW; go_simp⟩) ⟨HB.out.cell 0, HB.out.cell 1, HB.out.cell 2, HB.out.cell 3, HB.out.cell 4, HB.out.cell 5, HB.out.cell 6, HB.out.cell 7, HB.out.cell 8⟩ ?_
     try simp only [Act.put, qz0, qz1, qz2]
     refine H_takeD (k := 5) (v := .int .i64 by_) (d := some 49) rfl rfl (by decide +kernel) (fun _ _ _ h => h) (Or.inl ⟨by rfl, fun W hW => by obtain ⟨s0, s1, s2, s3, s4, s5, s6, s7, s8⟩ := hW; go_simp⟩) ⟨HB.out.cell 0, HB.out.cell 1, HB.out.cell 2, HB.out.cell 3, HB.out.cell 4, HB.out.cell 5, HB.out.cell 6, HB.out.cell 7, HB.out.cell 8⟩ ?_
     try simp only [Act.put, qz0, qz1, qz2]
     refine H_takeD (k := 6) (v := .int .i64 b3) (d := some 50) rfl rfl (by decide +kernel) (fun _ _ _ h => h) (Or.inl ⟨by rfl, fun W hW => by obtain ⟨s0, s1, s2, s3, s4, s5, s6, s7, s8⟩ := hW; go_simp⟩) ⟨HB.out.cell 0, HB.out.cell 1, HB.out.cell 2, HB.out.cell 3, HB.out.cell 4, HB.out.cell 5, HB.out.cell 6, HB.out.cell 7, HB.out.cell 8⟩ ?_
     try simp only [Act.put, qz0, qz1, qz2]
     refine H_one (i := 7) (by decide +kernel) (H_step rfl rfl (fun K hK7 => ?_))
     have hK7 := Lib.hid hK7
     go_simp
     go_at_call 41
     refine (spoilt_any 4099 3 p1 a1 how at_ b3 _ HP1.out (pq_mono Hpq1.out (by decide) (by decide)) (by decide) (by decide) (by decide) Hho.out Hat.out Hb3.out).mono ?_
     rintro e wa ⟨p2, a2', rfl, hpb2, hpq2, hb_⟩
     simp only [paC]
     have HQ2 := Lib.hid (HQ.out.below hb_)
     have HPa := Lib.hid (HP1.out.below hb_)
     have HB2 := Lib.hid (HB.out.below hb_ HB.out.lt)
     have HP2 := Lib.hid hpb2
     have Hpq2 := Lib.hid hpq2
     clear hpb2 hpq2 hb_ HQ HP1 HB
     have HQ := HQ2
     have HP1 := HPa
     have HB := HB2
     clear HQ2 HPa HB2
     refine hK7.out _ _ ⟨HB.out.cell 0, HB.out.cell 1, HB.out.cell 2, HB.out.cell 3, HB.out.cell 4, HB.out.cell 5, HB.out.cell 6, HB.out.cell 7, HB.out.cell 8⟩ ?_
     try simp only [Act.put, qz0, qz1, qz2]
     refine H_one (i := 8) (by decide +kernel) (H_step rfl rfl (fun K hK8 => ?_))
     have hK8 := Lib.hid hK8
     refine wp_bs_row 23 2 #[(0, .tmp 45), (1, .tmp 51)] rfl #[(0, .agg #[.int .i64 p1.office, .int .i64 p1.num, .slice a1.n p1.needs.length a1.cn, .slice a1.s p1.st.length a1.cs, .slice a1.l p1.pl.length a1.cl, .slice a1.m p1.ma.length a1.cm, .slice a1.e p1.er.length a1.ce, .slice a1.d p1.dr.length a1.cd, .slice a1.r p1.rt.length a1.cr]), (1, .agg #[.int .i64 p2.office, .int .i64 p2.num, .slice a2'.n p2.needs.length a2'.cn, .slice a2'.s p2.st.length a2'.cs, .slice a2'.l p2.pl.length a2'.cl, .slice a2'.m p2.ma.length a2'.cm, .slice a2'.e p2.er.length a2'.ce, .slice a2'.d p2.dr.length a2'.cd, .slice a2'.r p2.rt.length a2'.cr])] (by simp [Act.eval]) _ (run_bs_patch2 p1 p2 a1 a2' _) ?_
     have HL := Lib.hid (Bk.new wa 34 #[.int .i64 p1.office, .int .i64 p1.num, .slice a1.n p1.needs.length a1.cn, .slice a1.s p1.st.length a1.cs, .slice a1.l p1.pl.length a1.cl, .slice a1.m p1.ma.length a1.cm, .slice a1.e p1.er.length a1.ce, .slice a1.d p1.dr.length a1.cd, .slice a1.r p1.rt.length a1.cr, .int .i64 p2.office, .int .i64 p2.num, .slice a2'.n p2.needs.length a2'.cn, .slice a2'.s p2.st.length a2'.cs, .slice a2'.l p2.pl.length a2'.cl, .slice a2'.m p2.ma.length a2'.cm, .slice a2'.e p2.er.length a2'.ce, .slice a2'.d p2.dr.length a2'.cd, .slice a2'.r p2.rt.length a2'.cr])
     have HQ2 := Lib.hid (HQ.out.below ((Below.refl _ _).alloc (Nat.le_refl _) (.cells #[.int .i64 p1.office, .int .i64 p1.num, .slice a1.n p1.needs.length a1.cn, .slice a1.s p1.st.length a1.cs, .slice a1.l p1.pl.length a1.cl, .slice a1.m p1.ma.length a1.cm, .slice a1.e p1.er.length a1.ce, .slice a1.d p1.dr.length a1.cd, .slice a1.r p1.rt.length a1.cr, .int .i64 p2.office, .int .i64 p2.num, .slice a2'.n p2.needs.length a2'.cn, .slice a2'.s p2.st.length a2'.cs, .slice a2'.l p2.pl.length a2'.cl, .slice a2'.m p2.ma.length a2'.cm, .slice a2'.e p2.er.length a2'.ce, .slice a2'.d p2.dr.length a2'.cd, .slice a2'.r p2.rt.length a2'.cr] 34)))
     have HPa := Lib.hid (HP1.out.below ((Below.refl _ _).alloc (Nat.le_refl _) (.cells #[.int .i64 p1.office, .int .i64 p1.num, .slice a1.n p1.needs.length a1.cn, .slice a1.s p1.st.length a1.cs, .slice a1.l p1.pl.length a1.cl, .slice a1.m p1.ma.length a1.cm, .slice a1.e p1.er.length a1.ce, .slice a1.d p1.dr.length a1.cd, .slice a1.r p1.rt.length a1.cr, .int .i64 p2.office, .int .i64 p2.num, .slice a2'.n p2.needs.length a2'.cn, .slice a2'.s p2.st.length a2'.cs, .slice a2'.l p2.pl.length a2'.cl, .slice a2'.m p2.ma.length a2'.cm, .slice a2'.e p2.er.length a2'.ce, .slice a2'.d p2.dr.length a2'.cd, .slice a2'.r p2.rt.length a2'.cr] 34)))
     have HPb := Lib.hid (HP2.out.below ((Below.refl _ _).alloc (Nat.le_refl _) (.cells #[.int .i64 p1.office, .int .i64 p1.num, .slice a1.n p1.needs.length a1.cn, .slice a1.s p1.st.length a1.cs, .slice a1.l p1.pl.length a1.cl, .slice a1.m p1.ma.length a1.cm, .slice a1.e p1.er.length a1.ce, .slice a1.d p1.dr.length a1.cd, .slice a1.r p1.rt.length a1.cr, .int .i64 p2.office, .int .i64 p2.num, .slice a2'.n p2.needs.length a2'.cn, .slice a2'.s p2.st.length a2'.cs, .slice a2'.l p2.pl.length a2'.cl, .slice a2'.m p2.ma.length a2'.cm, .slice a2'.e p2.er.length a2'.ce, .slice a2'.d p2.dr.length a2'.cd, .slice a2'.r p2.rt.length a2'.cr] 34)))
     have HB2 := Lib.hid (HB.out.alloc (.cells #[.int .i64 p1.office, .int .i64 p1.num, .slice a1.n p1.needs.length a1.cn, .slice a1.s p1.st.length a1.cs, .slice a1.l p1.pl.length a1.cl, .slice a1.m p1.ma.length a1.cm, .slice a1.e p1.er.length a1.ce, .slice a1.d p1.dr.length a1.cd, .slice a1.r p1.rt.length a1.cr, .int .i64 p2.office, .int .i64 p2.num, .slice a2'.n p2.needs.length a2'.cn, .slice a2'.s p2.st.length a2'.cs, .slice a2'.l p2.pl.length a2'.cl, .slice a2'.m p2.ma.length a2'.cm, .slice a2'.e p2.er.length a2'.ce, .slice a2'.d p2.dr.length a2'.cd, .slice a2'.r p2.rt.length a2'.cr] 34))
     clear HQ HP1 HP2 HB
     have HQ := HQ2
     have HP1 := HPa
     have HP2 := HPb
     have HB := HB2
     clear HQ2 HPa HPb HB2
     generalize wa.alloc (.cells #[.int .i64 p1.office, .int .i64 p1.num, .slice a1.n p1.needs.length a1.cn, .slice a1.s p1.st.length a1.cs, .slice a1.l p1.pl.length a1.cl, .slice a1.m p1.ma.length a1.cm, .slice a1.e p1.er.length a1.ce, .slice a1.d p1.dr.length a1.cd, .slice a1.r p1.rt.length a1.cr, .int .i64 p2.office, .int .i64 p2.num, .slice a2'.n p2.needs.length a2'.cn, .slice a2'.s p2.st.length a2'.cs, .slice a2'.l p2.pl.length a2'.cl, .slice a2'.m p2.ma.length a2'.cm, .slice a2'.e p2.er.length a2'.ce, .slice a2'.d p2.dr.length a2'.cd, .slice a2'.r p2.rt.length a2'.cr] 34) = Wl at *
     generalize wa.heap.size = h_ at *
     refine hK8.out _ _ ⟨HB.out.cell 0, HB.out.cell 1, HB.out.cell 2, HB.out.cell 3, HB.out.cell 4, HB.out.cell 5, HB.out.cell 6, HB.out.cell 7, HB.out.cell 8⟩ ?_
     try simp only [Act.put, qz0, qz1, qz2]
     refine H_one (i := 9) (by decide +kernel) (H_step rfl rfl (fun K hK9 => ?_))
     have hK9 := Lib.hid hK9
     have hO_ := HQ.out.r
     rw [Hn.out] at hO_
     refine app_wpMB (us := [.int .i64 p1.office, .int .i64 p1.num, .slice a1.n p1.needs.length a1.cn, .slice a1.s p1.st.length a1.cs, .slice a1.l p1.pl.length a1.cl, .slice a1.m p1.ma.length a1.cm, .slice a1.e p1.er.length a1.ce, .slice a1.d p1.dr.length a1.cd, .slice a1.r p1.rt.length a1.cr, .int .i64 p2.office, .int .i64 p2.num, .slice a2'.n p2.needs.length a2'.cn, .slice a2'.s p2.st.length a2'.cs, .slice a2'.l p2.pl.length a2'.cl, .slice a2'.m p2.ma.length a2'.cm, .slice a2'.e p2.er.length a2'.ce, .slice a2'.d p2.dr.length a2'.cd, .slice a2'.r p2.rt.length a2'.cr]) (m := 2) (xs := ps.flatMap paV) (n := n) (base := w.heap.size) (c := 2) (H := h_) (v := .slice (some ⟨bX, oX, none⟩) n c) (.tmp 44) (.tmp 52) rfl elt_patch (by simp [Act.eval]) (by simp [Act.eval]) hO_ HL.out rfl rfl (by decide) (by omega) HQ.out.b.size ?_
     intro v8 w8 hown8 hg8
     obtain ⟨X8, c8, rfl⟩ := own_slice hown8
     have HF := Lib.hid (HQ.out.app (m := 2) (qs := [(p1, a1), (p2, a2')]) (by rw [Hn.out]; exact hg8) (by rw [Hn.out]; exact hown8) rfl (fun q hq => (List.mem_cons.1 hq).elim (fun h => by rw [h]; exact ⟨HP1.out, pq_mono Hpq1.out (by decide) (by decide)⟩) (fun h => by rw [List.mem_singleton.1 h]; exact ⟨HP2.out, pq_mono Hpq2.out (by decide) (by decide)⟩)))
     have HB8 := Lib.hid (HB.out.grown hg8 HBne.out)
     clear hown8 hg8 HQ HP1 HP2 hO_ HB
     have HB := HB8
     clear HB8
     refine hK9.out _ _ ⟨HB.out.cell 0, HB.out.cell 1, HB.out.cell 2, HB.out.cell 3, HB.out.cell 4, HB.out.cell 5, HB.out.cell 6, HB.out.cell 7, HB.out.cell 8⟩ ?_
     try simp only [Act.put, qz0, qz1, qz2]
     refine H_takeD (k := 10) (v := .slice X8 (n + 2) c8) (d := some 9) rfl rfl (by decide +kernel) (fun _ _ _ h => h) (Or.inl ⟨by rfl, fun W hW => by obtain ⟨s0, s1, s2, s3, s4, s5, s6, s7, s8⟩ := hW; go_simp⟩) ⟨HB.out.cell 0, HB.out.cell 1, HB.out.cell 2, HB.out.cell 3, HB.out.cell 4, HB.out.cell 5, HB.out.cell 6, HB.out.cell 7, HB.out.cell 8⟩ ?_
     try simp only [Act.put, qz0, qz1, qz2]
     refine H_end (by decide +kernel) (NoPanic.normal ?_)
     try simp only [Act.put, qz0, qz1, qz2]
     clear HB HL
     go_wp2_with fail
     go_roundw
     case rel => exact ⟨i + 1, n + 2, X8, c8, ps ++ [(p1, a1), (p2, a2')], by omega, by go_num, rfl, by omega, by omega, Lib.hid (by rw [List.length_append, Hn.out]; rfl), HF⟩
     case measure => simp [intOf]; omega
    ·have b2 : ((i : Int) % 3 == 2) = false := by simp [h2]
     clear h2
     go_wp2_with fail
     refine (HAr.out _).mono ?_
     rintro e wz ⟨rfl, rfl⟩
     go_wp2_with fail
     go_roundw
     case rel => exact ⟨i + 1, n, X, c, ps, by omega, by go_num, rfl, by omega, by omega, Hn, HQ⟩
     case measure => simp [intOf]; omega
  ·have hO_ := HQ.out.r
   rw [Hn.out] at hO_
   have hz_ := HQ.out.b.size
   go_wp2_with (at_builtin; refine wpList_app3 (w := wr) (us := [.int .i64 0, .int .i64 0, .slice none 0 0, .slice none 0 0, .slice none 0 0, .slice none 0 0, .slice none 0 0, .slice none 0 0, .slice none 0 0]) (xs := ps.flatMap paV) (n := n) (base := w.heap.size) (v := .slice X n c) rfl _ _ rfl elt_patch hO_ hz_ rfl rfl (by simp) rfl rfl (by omega) ?_; intro v8 w8 hown8 hg8 hv8 hz8; obtain ⟨X8, c8, rfl⟩ := own_slice hown8)
   have HE := Lib.hid (HQ.out.app (m := 1) (qs := [(paZ, pwZ)]) (by rw [Hn.out]; exact hg8) (by rw [Hn.out]; exact hown8) rfl (fun q hq => by rw [List.mem_singleton.1 hq]; exact ⟨PB.zero _, pq_zero _ _⟩))
   go_ret
   exact ⟨ps ++ [(paZ, pwZ)], X8, c8, by rw [List.length_append, Hn.out]; rfl, by rw [List.length_append, Hn.out]; show n + 1 ≤ 30; omega, SB.own HE.out.r, HE.out.q, HE.out.b⟩
end Go.Proofs.YtnapnkmehnabfaaGreat
