import Derived.Test.YtnapnkmehnabfaaGreatP43
namespace Go.Proofs.YtnapnkmehnabfaaGreat
open Go.RowKit Go.Maps

theorem paB_len2 {p : Pa} (h : PW64 p) (hr : RPn p) : (paB p).length ≤ 1000000000 := by
  have e0 := vbs_len [p.office, p.num] (w64_cons h.o (w64_cons h.k w64_nil))
  have e1 := lsB_len ndB 10 p.needs (fun x hx => ndB_len (h.n x hx)) (by have := hr.n; omega)
  have e2 := lsB_len skB 50050 p.st (fun x hx => skB_len2 (h.s x hx) (hr.c x hx)) (by have := hr.s; omega)
  have e3 := lsB_len plB 1060 p.pl (fun x hx => plB_len (h.l x hx) (hr.x x hx)) (by have := hr.l; omega)
  have e4 := lsB_len mkB 70 p.ma (fun x hx => mkB_len (h.m x hx)) (by have := hr.m; omega)
  have e5 := lsB_len idB 20 p.er (fun x hx => idB_len (h.e x hx)) (by have := hr.e; omega)
  have e6 := lsB_len idB 20 p.dr (fun x hx => idB_len (h.d x hx)) (by have := hr.d; omega)
  have e7 := lsB_len rtB 20 p.rt (fun x hx => rtB_len (h.r x hx)) (by have := hr.r; omega)
  have m1 := hr.n; have m2 := hr.s; have m3 := hr.l; have m4 := hr.m; have m5 := hr.e; have m6 := hr.d; have m7 := hr.r
  simp only [paB, List.length_append, List.length_cons, List.length_nil] at e0 ⊢
  omega
set_option linter.unusedSimpArgs false in
set_option maxHeartbeats 4000000 in
set_option maxRecDepth 100000 in
theorem refSame_any (p q : Pa) (a b : Pw) (w : World) (h : PT w p a) (h2 : PT w q b) (hw : PW64 p) (hw2 : PW64 q) (hr : RPn p) (hr2 : RPn q) (hpq : paB p = paB q) :
    Calls Tryz.prog 20 #[.agg (paC p a), .agg (paC q b)] w fun e w' => e = .returned (.bool true) ∧ Below w.heap.size w w' := by
  have hlen : (paB q).length ≤ 4000000000000 := by
    rw [← hpq]
    exact Nat.le_trans (paB_len2 hw hr) (by decide)
  have HB0 := Lib.hid ((((Below.refl w.heap.size w).alloc (Nat.le_refl _) (.cells #[.int .i64 p.office, .int .i64 p.num, .slice a.n p.needs.length a.cn, .slice a.s p.st.length a.cs, .slice a.l p.pl.length a.cl, .slice a.m p.ma.length a.cm, .slice a.e p.er.length a.ce, .slice a.d p.dr.length a.cd, .slice a.r p.rt.length a.cr] 34)).alloc (by simp) (.cells #[.int .i64 q.office, .int .i64 q.num, .slice b.n q.needs.length b.cn, .slice b.s q.st.length b.cs, .slice b.l q.pl.length b.cl, .slice b.m q.ma.length b.cm, .slice b.e q.er.length b.ce, .slice b.d q.dr.length b.cd, .slice b.r q.rt.length b.cr] 34)).drew)
  have HK0 := Lib.hid (show Bk (((w.alloc (.cells #[.int .i64 p.office, .int .i64 p.num, .slice a.n p.needs.length a.cn, .slice a.s p.st.length a.cs, .slice a.l p.pl.length a.cl, .slice a.m p.ma.length a.cm, .slice a.e p.er.length a.ce, .slice a.d p.dr.length a.cd, .slice a.r p.rt.length a.cr] 34)).alloc (.cells #[.int .i64 q.office, .int .i64 q.num, .slice b.n q.needs.length b.cn, .slice b.s q.st.length b.cs, .slice b.l q.pl.length b.cl, .slice b.m q.ma.length b.cm, .slice b.e q.er.length b.ce, .slice b.d q.dr.length b.cd, .slice b.r q.rt.length b.cr] 34)).drew) w.heap.size 34 #[.int .i64 p.office, .int .i64 p.num, .slice a.n p.needs.length a.cn, .slice a.s p.st.length a.cs, .slice a.l p.pl.length a.cl, .slice a.m p.ma.length a.cm, .slice a.e p.er.length a.ce, .slice a.d p.dr.length a.cd, .slice a.r p.rt.length a.cr] from (Bk.new w _ _).alloc _)
  have HZ0 := Lib.hid (show Bk (((w.alloc (.cells #[.int .i64 p.office, .int .i64 p.num, .slice a.n p.needs.length a.cn, .slice a.s p.st.length a.cs, .slice a.l p.pl.length a.cl, .slice a.m p.ma.length a.cm, .slice a.e p.er.length a.ce, .slice a.d p.dr.length a.cd, .slice a.r p.rt.length a.cr] 34)).alloc (.cells #[.int .i64 q.office, .int .i64 q.num, .slice b.n q.needs.length b.cn, .slice b.s q.st.length b.cs, .slice b.l q.pl.length b.cl, .slice b.m q.ma.length b.cm, .slice b.e q.er.length b.ce, .slice b.d q.dr.length b.cd, .slice b.r q.rt.length b.cr] 34)).drew) (w.heap.size + 1) 34 #[.int .i64 q.office, .int .i64 q.num, .slice b.n q.needs.length b.cn, .slice b.s q.st.length b.cs, .slice b.l q.pl.length b.cl, .slice b.m q.ma.length b.cm, .slice b.e q.er.length b.ce, .slice b.d q.dr.length b.cd, .slice b.r q.rt.length b.cr] from Bk.new' _ _ _ (by simp))
  have HRp := Lib.hid (fun (W : World) (hW : Below w.heap.size w W) => (show Calls Tryz.prog 27 #[.agg #[.int .i64 p.office, .int .i64 p.num, .slice a.n p.needs.length a.cn, .slice a.s p.st.length a.cs, .slice a.l p.pl.length a.cl, .slice a.m p.ma.length a.cm, .slice a.e p.er.length a.ce, .slice a.d p.dr.length a.cd, .slice a.r p.rt.length a.cr]] W fun e w' => ∃ v, e = .returned v ∧ w'.ownsRow W.heap.size 5 1 v (paB p).length (byV (paB p)) ∧ Below W.heap.size W w' from refBytes_any p a W (h.below hW) hw hr))
  have HRq := Lib.hid (fun (W : World) (hW : Below w.heap.size w W) => (show Calls Tryz.prog 27 #[.agg #[.int .i64 q.office, .int .i64 q.num, .slice b.n q.needs.length b.cn, .slice b.s q.st.length b.cs, .slice b.l q.pl.length b.cl, .slice b.m q.ma.length b.cm, .slice b.e q.er.length b.ce, .slice b.d q.dr.length b.cd, .slice b.r q.rt.length b.cr]] W fun e w' => ∃ v, e = .returned v ∧ w'.ownsRow W.heap.size 5 1 v (paB q).length (byV (paB q)) ∧ Below W.heap.size W w' from refBytes_any q b W (h2.below hW) hw2 hr2))
  rw [hpq] at HRp
  generalize paB q = bs at *
  show Calls Tryz.prog 20 #[.agg #[.int .i64 p.office, .int .i64 p.num, .slice a.n p.needs.length a.cn, .slice a.s p.st.length a.cs, .slice a.l p.pl.length a.cl, .slice a.m p.ma.length a.cm, .slice a.e p.er.length a.ce, .slice a.d p.dr.length a.cd, .slice a.r p.rt.length a.cr], .agg #[.int .i64 q.office, .int .i64 q.num, .slice b.n q.needs.length b.cn, .slice b.s q.st.length b.cs, .slice b.l q.pl.length b.cl, .slice b.m q.ma.length b.cm, .slice b.e q.er.length b.ce, .slice b.d q.dr.length b.cd, .slice b.r q.rt.length b.cr]] w _
  clear h h2 hw hw2 hr hr2 hpq
  go_enter Tryz.func20, Tryz.ntmps20
  go_upto_region 1 with fail
  generalize hS : w.heap.size = S at *
  have HS := Lib.hid hS
  clear hS
  have HSf := Lib.hid (fun (W : World) (k1 : Bk W S 34 #[.int .i64 p.office, .int .i64 p.num, .slice a.n p.needs.length a.cn, .slice a.s p.st.length a.cs, .slice a.l p.pl.length a.cl, .slice a.m p.ma.length a.cm, .slice a.e p.er.length a.ce, .slice a.d p.dr.length a.cd, .slice a.r p.rt.length a.cr]) (k2 : Bk W (S + 1) 34 #[.int .i64 q.office, .int .i64 q.num, .slice b.n q.needs.length b.cn, .slice b.s q.st.length b.cs, .slice b.l q.pl.length b.cl, .slice b.m q.ma.length b.cm, .slice b.e q.er.length b.ce, .slice b.d q.dr.length b.cd, .slice b.r q.rt.length b.cr]) => show W.cell? ⟨S, 0, none⟩ = some (.int .i64 p.office) ∧ W.cell? ⟨S, 1, none⟩ = some (.int .i64 p.num) ∧ W.cell? ⟨S, 2, none⟩ = some (.slice a.n p.needs.length a.cn) ∧ W.cell? ⟨S, 3, none⟩ = some (.slice a.s p.st.length a.cs) ∧ W.cell? ⟨S, 4, none⟩ = some (.slice a.l p.pl.length a.cl) ∧ W.cell? ⟨S, 5, none⟩ = some (.slice a.m p.ma.length a.cm) ∧ W.cell? ⟨S, 6, none⟩ = some (.slice a.e p.er.length a.ce) ∧ W.cell? ⟨S, 7, none⟩ = some (.slice a.d p.dr.length a.cd) ∧ W.cell? ⟨S, 8, none⟩ = some (.slice a.r p.rt.length a.cr) ∧ W.cell? ⟨S + 1, 0, none⟩ = some (.int .i64 q.office) ∧ W.cell? ⟨S + 1, 1, none⟩ = some (.int .i64 q.num) ∧ W.cell? ⟨S + 1, 2, none⟩ = some (.slice b.n q.needs.length b.cn) ∧ W.cell? ⟨S + 1, 3, none⟩ = some (.slice b.s q.st.length b.cs) ∧ W.cell? ⟨S + 1, 4, none⟩ = some (.slice b.l q.pl.length b.cl) ∧ W.cell? ⟨S + 1, 5, none⟩ = some (.slice b.m q.ma.length b.cm) ∧ W.cell? ⟨S + 1, 6, none⟩ = some (.slice b.e q.er.length b.ce) ∧ W.cell? ⟨S + 1, 7, none⟩ = some (.slice b.d q.dr.length b.cd) ∧ W.cell? ⟨S + 1, 8, none⟩ = some (.slice b.r q.rt.length b.cr) from ⟨k1.cell 0, k1.cell 1, k1.cell 2, k1.cell 3, k1.cell 4, k1.cell 5, k1.cell 6, k1.cell 7, k1.cell 8, k2.cell 0, k2.cell 1, k2.cell 2, k2.cell 3, k2.cell 4, k2.cell 5, k2.cell 6, k2.cell 7, k2.cell 8⟩)
  refine wp_region_noPanic ?_
  refine region_H (S := fun W => W.cell? ⟨S, 0, none⟩ = some (.int .i64 p.office) ∧ W.cell? ⟨S, 1, none⟩ = some (.int .i64 p.num) ∧ W.cell? ⟨S, 2, none⟩ = some (.slice a.n p.needs.length a.cn) ∧ W.cell? ⟨S, 3, none⟩ = some (.slice a.s p.st.length a.cs) ∧ W.cell? ⟨S, 4, none⟩ = some (.slice a.l p.pl.length a.cl) ∧ W.cell? ⟨S, 5, none⟩ = some (.slice a.m p.ma.length a.cm) ∧ W.cell? ⟨S, 6, none⟩ = some (.slice a.e p.er.length a.ce) ∧ W.cell? ⟨S, 7, none⟩ = some (.slice a.d p.dr.length a.cd) ∧ W.cell? ⟨S, 8, none⟩ = some (.slice a.r p.rt.length a.cr) ∧ W.cell? ⟨S + 1, 0, none⟩ = some (.int .i64 q.office) ∧ W.cell? ⟨S + 1, 1, none⟩ = some (.int .i64 q.num) ∧ W.cell? ⟨S + 1, 2, none⟩ = some (.slice b.n q.needs.length b.cn) ∧ W.cell? ⟨S + 1, 3, none⟩ = some (.slice b.s q.st.length b.cs) ∧ W.cell? ⟨S + 1, 4, none⟩ = some (.slice b.l q.pl.length b.cl) ∧ W.cell? ⟨S + 1, 5, none⟩ = some (.slice b.m q.ma.length b.cm) ∧ W.cell? ⟨S + 1, 6, none⟩ = some (.slice b.e q.er.length b.ce) ∧ W.cell? ⟨S + 1, 7, none⟩ = some (.slice b.d q.dr.length b.cd) ∧ W.cell? ⟨S + 1, 8, none⟩ = some (.slice b.r q.rt.length b.cr)) (by kernel_rfl) ?_
  change wpH _ _ _ _ 6 _ _ ((w.alloc (.cells #[.int .i64 p.office, .int .i64 p.num, .slice a.n p.needs.length a.cn, .slice a.s p.st.length a.cs, .slice a.l p.pl.length a.cl, .slice a.m p.ma.length a.cm, .slice a.e p.er.length a.ce, .slice a.d p.dr.length a.cd, .slice a.r p.rt.length a.cr] 34)).alloc (.cells #[.int .i64 q.office, .int .i64 q.num, .slice b.n q.needs.length b.cn, .slice b.s q.st.length b.cs, .slice b.l q.pl.length b.cl, .slice b.m q.ma.length b.cm, .slice b.e q.er.length b.ce, .slice b.d q.dr.length b.cd, .slice b.r q.rt.length b.cr] 34)).drew
  generalize ((w.alloc (.cells #[.int .i64 p.office, .int .i64 p.num, .slice a.n p.needs.length a.cn, .slice a.s p.st.length a.cs, .slice a.l p.pl.length a.cl, .slice a.m p.ma.length a.cm, .slice a.e p.er.length a.ce, .slice a.d p.dr.length a.cd, .slice a.r p.rt.length a.cr] 34)).alloc (.cells #[.int .i64 q.office, .int .i64 q.num, .slice b.n q.needs.length b.cn, .slice b.s q.st.length b.cs, .slice b.l q.pl.length b.cl, .slice b.m q.ma.length b.cm, .slice b.e q.er.length b.ce, .slice b.d q.dr.length b.cd, .slice b.r q.rt.length b.cr] 34)).drew = X0 at *
  refine H_takeD (k := 0) (v := .agg #[.int .i64 p.office, .int .i64 p.num, .slice a.n p.needs.length a.cn, .slice a.s p.st.length a.cs, .slice a.l p.pl.length a.cl, .slice a.m p.ma.length a.cm, .slice a.e p.er.length a.ce, .slice a.d p.dr.length a.cd, .slice a.r p.rt.length a.cr]) (d := some 5) rfl rfl (by decide +kernel) (fun _ _ _ h => h) (Or.inl ⟨by rfl, fun W hW => by obtain ⟨s0, s1, s2, s3, s4, s5, s6, s7, s8, s9, s10, s11, s12, s13, s14, s15, s16, s17⟩ := hW; go_simp⟩) (HSf.out _ HK0.out HZ0.out) ?_
  try simp only [Act.put, List.setIfInBounds_toArray, List.set_cons_zero, List.set_cons_succ]
  refine H_takeD (k := 2) (v := .agg #[.int .i64 q.office, .int .i64 q.num, .slice b.n q.needs.length b.cn, .slice b.s q.st.length b.cs, .slice b.l q.pl.length b.cl, .slice b.m q.ma.length b.cm, .slice b.e q.er.length b.ce, .slice b.d q.dr.length b.cd, .slice b.r q.rt.length b.cr]) (d := some 7) rfl rfl (by decide +kernel) (fun _ _ _ h => h) (Or.inl ⟨by rfl, fun W hW => by obtain ⟨s0, s1, s2, s3, s4, s5, s6, s7, s8, s9, s10, s11, s12, s13, s14, s15, s16, s17⟩ := hW; go_simp⟩) (HSf.out _ HK0.out HZ0.out) ?_
  try simp only [Act.put, List.setIfInBounds_toArray, List.set_cons_zero, List.set_cons_succ]
  refine H_one (i := 1) (by decide +kernel) (H_step rfl rfl (fun K hK2 => ?_))
  have hK2 := Lib.hid hK2
  go_simp
  go_at_call 27
  refine (HRp.out _ HB0.out).mono ?_
  rintro e w1 ⟨vw1, rfl, hown, hb⟩
  have HKw1 := Lib.hid (HK0.out.below hb HK0.out.lt)
  have HZw1 := Lib.hid (HZ0.out.below hb HZ0.out.lt)
  have HBw1 := Lib.hid (HB0.out.trans (hb.mono (HS.out ▸ HB0.out.size)))
  obtain ⟨Aw1, cw1, rfl⟩ := own_slice hown
  have HOw1 := Lib.hid (SL.of_own hown)
  clear hown hb
  refine hK2.out _ _ (HSf.out _ HKw1.out HZw1.out) ?_
  try simp only [Act.put, List.setIfInBounds_toArray, List.set_cons_zero, List.set_cons_succ]
  refine H_one (i := 3) (by decide +kernel) (H_step rfl rfl (fun K hK3 => ?_))
  have hK3 := Lib.hid hK3
  go_simp
  go_at_call 27
  refine (HRq.out _ HBw1.out).mono ?_
  rintro e w2 ⟨vw2, rfl, hown, hb⟩
  have HKw2 := Lib.hid (HKw1.out.below hb HKw1.out.lt)
  have HZw2 := Lib.hid (HZw1.out.below hb HZw1.out.lt)
  have HBw2 := Lib.hid (HBw1.out.trans (hb.mono (HS.out ▸ HBw1.out.size)))
  obtain ⟨Aw2, cw2, rfl⟩ := own_slice hown
  have HOw2 := Lib.hid (SL.of_own hown)
  have HOo := Lib.hid (HOw1.out.below hb)
  clear hown hb
  refine hK3.out _ _ (HSf.out _ HKw2.out HZw2.out) ?_
  try simp only [Act.put, List.setIfInBounds_toArray, List.set_cons_zero, List.set_cons_succ]
  refine H_one (i := 4) (by decide +kernel) (H_step rfl rfl (fun K hK4 => ?_))
  have hK4 := Lib.hid hK4
  go_simp
  go_at_call 29
  refine (sameBytes_any Aw1 Aw2 cw1 cw2 bs w2 HOo.out HOw2.out (by omega)).mono ?_
  rintro e w3 ⟨rfl, hq⟩
  have HKw3 := Lib.hid (HKw2.out.qt hq)
  have HZw3 := Lib.hid (HZw2.out.qt hq)
  have HBw3 := Lib.hid (hq.bl HBw2.out)
  clear hq
  refine hK4.out _ _ (HSf.out _ HKw3.out HZw3.out) ?_
  try simp only [Act.put, List.setIfInBounds_toArray, List.set_cons_zero, List.set_cons_succ]
  refine H_takeD (k := 5) (v := .bool true) (d := some 4) rfl rfl (by decide +kernel) (fun _ _ _ h => h) (Or.inl ⟨by rfl, fun W hW => by obtain ⟨s0, s1, s2, s3, s4, s5, s6, s7, s8, s9, s10, s11, s12, s13, s14, s15, s16, s17⟩ := hW; go_simp⟩) (HSf.out _ HKw3.out HZw3.out) ?_
  try simp only [Act.put, List.setIfInBounds_toArray, List.set_cons_zero, List.set_cons_succ]
  refine H_end (by decide +kernel) (NoPanic.normal ?_)
  try simp only [Act.put, List.setIfInBounds_toArray, List.set_cons_zero, List.set_cons_succ]
  go_wp2_with fail
  go_ret
  exact ⟨rfl, by rw [HS.out]; exact HBw3.out⟩
end Go.Proofs.YtnapnkmehnabfaaGreat
