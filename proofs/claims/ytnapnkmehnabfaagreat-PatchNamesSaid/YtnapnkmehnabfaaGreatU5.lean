import Derived.Test.YtnapnkmehnabfaaGreatU4
import Derived.Shelf.SlSortCmp.WholeK
import Derived.Shelf.Lay
import Derived.Ground.SlsfProg
namespace Go.Proofs.YtnapnkmehnabfaaGreat
open Go.RowKit Go.Maps Go.Sort

/-- The world has grown, and nothing else. -/
def Gr (w w' : World) : Prop := ∃ q os', w' = grow (w.drewN q) os'
theorem Gr.refl (w : World) : Gr w w := ⟨0, #[], by rw [grow_empty]; rfl⟩
theorem Gr.alloc {w w' : World} (h : Gr w w') (o : Obj) : Gr w (w'.alloc o) := by
 obtain ⟨q, os', rfl⟩ := h
 exact ⟨q, os' ++ #[o], by rw [alloc_eq_grow, grow_grow]⟩
theorem Gr.drew {w w' : World} (h : Gr w w') : Gr w w'.drew := by
 obtain ⟨q, os', rfl⟩ := h
 exact ⟨q + 1, os', rfl⟩
set_option linter.unusedSimpArgs false in
set_option maxHeartbeats 4000000 in
set_option maxRecDepth 100000 in
theorem byName_gr (p i q j : Int) (w : World) : Calls Tryz.prog 102 #[.agg #[.int .u64 p, .int .i64 i], .agg #[.int .u64 q, .int .i64 j]] w fun e w' => e = .returned (.int .i64 (byN (p, i) (q, j))) ∧ Gr w w' := by
 have hb := ((Below.refl w.heap.size w).alloc (Nat.le_refl _) (.cells #[.int .u64 p, .int .i64 i] 77)).alloc (by simp) (.cells #[.int .u64 q, .int .i64 j] 77)
 have hk1 := (Bk.new w 77 #[.int .u64 p, .int .i64 i]).alloc (.cells #[.int .u64 q, .int .i64 j] 77)
 have hk2 := Bk.new' (w.alloc (.cells #[.int .u64 p, .int .i64 i] 77)) 77 #[.int .u64 q, .int .i64 j] (g := w.heap.size + 1) (by simp)
 have HG0 := Lib.hid (((Gr.refl w).alloc (.cells #[.int .u64 p, .int .i64 i] 77)).alloc (.cells #[.int .u64 q, .int .i64 j] 77))
 obtain ⟨R, hR⟩ : ∃ z, Hid (byN (p, i) (q, j) = z) := ⟨_, Lib.hid rfl⟩
 rw [hR.out]
 obtain ⟨r1, hr1⟩ : ∃ z, Hid (cmpI p q = z) := ⟨_, Lib.hid rfl⟩
 obtain ⟨r2, hr2⟩ : ∃ z, Hid (cmpI i j = z) := ⟨_, Lib.hid rfl⟩
 have hRe := Lib.hid (show orE [r1, r2] = R from by rw [← hR.out, ← hr1.out, ← hr2.out]; rfl)
 have K1 := Lib.hid (fun W => hr1.out ▸ compare_u64 p q W)
 have K2 := Lib.hid (fun W => hr2.out ▸ compare_int i j W)
 go_enter Tryz.func102, Tryz.ntmps102
 go_wp2_with fail
 generalize (w.alloc (.cells #[.int .u64 p, .int .i64 i] 77)).alloc (.cells #[.int .u64 q, .int .i64 j] 77) = W0 at *
 generalize hs : w.heap.size = s at *
 have Hs := Lib.hid hs
 clear hs
 have Hb := Lib.hid hb
 have HSf := Lib.hid (fun (W : World) (hW : Below W0.heap.size W0 W) => show W.cell? ⟨s, 0, none⟩ = some (.int .u64 p) ∧ W.cell? ⟨s, 1, none⟩ = some (.int .i64 i) ∧ W.cell? ⟨s + 1, 0, none⟩ = some (.int .u64 q) ∧ W.cell? ⟨s + 1, 1, none⟩ = some (.int .i64 j) from ⟨(hk1.below hW hk1.lt).cell 0, (hk1.below hW hk1.lt).cell 1, (hk2.below hW hk2.lt).cell 0, (hk2.below hW hk2.lt).cell 1⟩)
 have HB0 := Lib.hid ((Below.refl W0.heap.size W0).drew)
 have HG1 := Lib.hid (HG0.out.drew)
 have hz0 : s ≤ W0.heap.size := by have := hk2.lt; omega
 clear hb hk1 hk2
 refine wp_region_noPanic ?_
 refine region_H (S := fun W => W.cell? ⟨s, 0, none⟩ = some (.int .u64 p) ∧ W.cell? ⟨s, 1, none⟩ = some (.int .i64 i) ∧ W.cell? ⟨s + 1, 0, none⟩ = some (.int .u64 q) ∧ W.cell? ⟨s + 1, 1, none⟩ = some (.int .i64 j)) (by kernel_rfl) ?_
 change wpH _ _ _ _ 13 _ _ W0.drew
 generalize W0.drew = X0 at *
 refine H_takeD (k := 0) (v := .pointer (some ⟨s, 0, none⟩)) (d := some 5) rfl rfl (by decide +kernel) (fun _ _ _ h => h) (Or.inl ⟨by rfl, fun W hW => by obtain ⟨s0, s1, s2, s3⟩ := hW; go_simp⟩) (HSf.out _ HB0.out) ?_
 try simp only [Act.put, qz0, qz1, qz2]
 refine H_takeD (k := 1) (v := .int .u64 p) (d := some 6) rfl rfl (by decide +kernel) (fun _ _ _ h => h) (Or.inl ⟨by rfl, fun W hW => by obtain ⟨s0, s1, s2, s3⟩ := hW; go_simp⟩) (HSf.out _ HB0.out) ?_
 try simp only [Act.put, qz0, qz1, qz2]
 refine H_takeD (k := 2) (v := .pointer (some ⟨s + 1, 0, none⟩)) (d := some 7) rfl rfl (by decide +kernel) (fun _ _ _ h => h) (Or.inl ⟨by rfl, fun W hW => by obtain ⟨s0, s1, s2, s3⟩ := hW; go_simp⟩) (HSf.out _ HB0.out) ?_
 try simp only [Act.put, qz0, qz1, qz2]
 refine H_takeD (k := 3) (v := .int .u64 q) (d := some 8) rfl rfl (by decide +kernel) (fun _ _ _ h => h) (Or.inl ⟨by rfl, fun W hW => by obtain ⟨s0, s1, s2, s3⟩ := hW; go_simp⟩) (HSf.out _ HB0.out) ?_
 try simp only [Act.put, qz0, qz1, qz2]
 refine H_takeD (k := 5) (v := .pointer (some ⟨s, 1, none⟩)) (d := some 10) rfl rfl (by decide +kernel) (fun _ _ _ h => h) (Or.inl ⟨by rfl, fun W hW => by obtain ⟨s0, s1, s2, s3⟩ := hW; go_simp⟩) (HSf.out _ HB0.out) ?_
 try simp only [Act.put, qz0, qz1, qz2]
 refine H_takeD (k := 6) (v := .int .i64 i) (d := some 11) rfl rfl (by decide +kernel) (fun _ _ _ h => h) (Or.inl ⟨by rfl, fun W hW => by obtain ⟨s0, s1, s2, s3⟩ := hW; go_simp⟩) (HSf.out _ HB0.out) ?_
 try simp only [Act.put, qz0, qz1, qz2]
 refine H_takeD (k := 7) (v := .pointer (some ⟨s + 1, 1, none⟩)) (d := some 12) rfl rfl (by decide +kernel) (fun _ _ _ h => h) (Or.inl ⟨by rfl, fun W hW => by obtain ⟨s0, s1, s2, s3⟩ := hW; go_simp⟩) (HSf.out _ HB0.out) ?_
 try simp only [Act.put, qz0, qz1, qz2]
 refine H_takeD (k := 8) (v := .int .i64 j) (d := some 13) rfl rfl (by decide +kernel) (fun _ _ _ h => h) (Or.inl ⟨by rfl, fun W hW => by obtain ⟨s0, s1, s2, s3⟩ := hW; go_simp⟩) (HSf.out _ HB0.out) ?_
 try simp only [Act.put, qz0, qz1, qz2]
 refine H_one (i := 4) (by decide +kernel) (H_step rfl rfl (fun K hK8 => ?_))
 have hK8 := Lib.hid hK8
 go_simp
 go_at_call 157
 refine (K1.out _).mono ?_
 rintro e wv ⟨rfl, rfl⟩
 refine hK8.out _ _ (HSf.out _ HB0.out) ?_
 try simp only [Act.put, qz0, qz1, qz2]
 refine H_one (i := 9) (by decide +kernel) (H_step rfl rfl (fun K hK9 => ?_))
 have hK9 := Lib.hid hK9
 go_simp
 go_at_call 69
 refine (K2.out _).mono ?_
 rintro e wv ⟨rfl, rfl⟩
 refine hK9.out _ _ (HSf.out _ HB0.out) ?_
 try simp only [Act.put, qz0, qz1, qz2]
 refine H_one (i := 10) (by decide +kernel) (H_step rfl rfl (fun K hK10 => ?_))
 have hK10 := Lib.hid hK10
 go_simp
 have HB1 := Lib.hid (HB0.out.alloc HB0.out.size (.cells #[.int .i64 r1, .int .i64 r2] 3))
 have HG2 := Lib.hid (HG1.out.alloc (.cells #[.int .i64 r1, .int .i64 r2] 3))
 have hsi := Lib.hid (show SI (X0.alloc (.cells #[.int .i64 r1, .int .i64 r2] 3)) (some ⟨X0.heap.size, 0, none⟩) [r1, r2] from sl_bk (Bk.new X0 3 #[.int .i64 r1, .int .i64 r2]))
 refine hK10.out _ _ (HSf.out _ HB1.out) ?_
 try simp only [Act.put, qz0, qz1, qz2]
 generalize X0.alloc (.cells #[.int .i64 r1, .int .i64 r2] 3) = X1 at *
 generalize X0.heap.size = h1 at *
 refine H_one (i := 11) (by decide +kernel) (H_step rfl rfl (fun K hK11 => ?_))
 have hK11 := Lib.hid hK11
 go_simp
 go_at_call 156
 refine (orI_any (some ⟨h1, 0, none⟩) 2 [r1, r2] X1 hsi.out (by simp)).mono ?_
 rintro e wv ⟨he, rfl⟩
 rw [hRe.out] at he
 subst he
 refine hK11.out _ _ (HSf.out _ HB1.out) ?_
 try simp only [Act.put, qz0, qz1, qz2]
 refine H_takeD (k := 12) (v := .int .i64 R) (d := some 4) rfl rfl (by decide +kernel) (fun _ _ _ h => h) (Or.inl ⟨by rfl, fun W hW => by obtain ⟨s0, s1, s2, s3⟩ := hW; go_simp⟩) (HSf.out _ HB1.out) ?_
 try simp only [Act.put, qz0, qz1, qz2]
 refine H_end (by decide +kernel) (NoPanic.normal ?_)
 try simp only [Act.put, qz0, qz1, qz2]
 have Hb2 := Lib.hid (Hb.out.trans (HB1.out.mono hz0))
 clear HB0 HB1 HSf K1 K2 hsi
 go_wp2_with fail
 go_ret
 exact ⟨rfl, HG2.out⟩
end Go.Proofs.YtnapnkmehnabfaaGreat
namespace Go.Proofs.YtnapnkmehnabfaaGreat
open Go.Shelf Go.RowKit Go.Lib Go.Sort
shelf_lay_g SlLaysF0.n6 Slsf 6 at Tryz 101 as Tryz.sortID
end Go.Proofs.YtnapnkmehnabfaaGreat
