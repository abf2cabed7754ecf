import Derived.Test.YtnapnkmehnabfaaGreatP41
namespace Go.Proofs.YtnapnkmehnabfaaGreat
open Go.RowKit Go.Maps

theorem grown_trans {a b c : World} {r : Option Nat} (h : a.grownBy b r) (k : b.grownBy c r) : a.grownBy c r :=
 ⟨k.os.trans h.os, k.tape.trans h.tape, k.output.trans h.output, Nat.le_trans h.size k.size, fun j hj hr => (k.block j (Nat.lt_of_lt_of_le hj h.size) hr).trans (h.block j hj hr)⟩
theorem grown_below {a b : World} (h : Below a.heap.size a b) (r : Option Nat) : a.grownBy b r := ⟨h.os, h.tape, h.output, h.size, fun k hk _ => h.block k hk⟩
theorem pick5 {x : Int} (h : 0 ≤ x ∧ x < 5) : ∃ (j : Nat) (kd : Int), x = (j : Int) ∧ j < 5 ∧ (0 ≤ kd ∧ kd ≤ 2) ∧ #[Value.int .i64 0, .int .i64 0, .int .i64 0, .int .i64 1, .int .i64 2][j]? = some (.int .i64 kd) := by
 obtain ⟨j, hj⟩ : ∃ j : Nat, x = (j : Int) := ⟨x.toNat, by omega⟩
 have h5 : j < 5 := by omega
 have h : j = 0 ∨ j = 1 ∨ j = 2 ∨ j = 3 ∨ j = 4 := by omega
 rcases h with rfl | rfl | rfl | rfl | rfl
 ·exact ⟨0, 0, hj, h5, by decide, rfl⟩
 ·exact ⟨1, 0, hj, h5, by decide, rfl⟩
 ·exact ⟨2, 0, hj, h5, by decide, rfl⟩
 ·exact ⟨3, 1, hj, h5, by decide, rfl⟩
 ·exact ⟨4, 2, hj, h5, by decide, rfl⟩
/-- Cells of a block that is new are written. -/
theorem grown_cell {a b : World} {m : Option Nat} {r i : Nat} (h : a.grownBy b m) (hr : a.heap.size ≤ r) (u : Value) : a.grownBy (b.setCell ⟨r, i, none⟩ u) m := by
 have hs := grown_set b r i u
 refine ⟨hs.os.trans h.os, hs.tape.trans h.tape, hs.output.trans h.output, Nat.le_trans h.size hs.size, fun j hj hm => (hs.block j (Nat.lt_of_lt_of_le hj h.size) (fun e => by cases e; omega)).trans (h.block j hj hm)⟩
theorem grown_new {a b : World} {m : Option Nat} {r : Nat} (h : a.grownBy b m) (hr : a.heap.size ≤ r) (v0 v1 v2 v3 v4 : Value) : a.grownBy (((((b.setCell ⟨r, 0, none⟩ v0).setCell ⟨r, 1, none⟩ v1).setCell ⟨r, 2, none⟩ v2).setCell ⟨r, 3, none⟩ v3).setCell ⟨r, 4, none⟩ v4) m :=
 grown_cell (grown_cell (grown_cell (grown_cell (grown_cell h hr _) hr _) hr _) hr _) hr _
/-- A maker over numbers that came in. -/
structure MK (w0 w : World) (M : Nat) (A : Option Addr) (c : Nat) (l : List Int) (at_ : Nat) (va vi : Value) : Prop where
 bk : Bk w M 98 #[.slice A l.length c, .int .i64 (at_ : Int), va, vi]
 below : Below w0.heap.size w0 w
 m : w0.heap.size ≤ M
 si : SI w0 A l
 l : W64 l
theorem MK.keep {w0 w w' : World} {M : Nat} {A : Option Addr} {c : Nat} {l : List Int} {at_ : Nat} {va vi : Value} (h : MK w0 w M A c l at_ va vi) (hb : Below w.heap.size w w') : MK w0 w' M A c l at_ va vi :=
 ⟨h.bk.below hb h.bk.lt, h.below.trans (hb.mono h.below.size), h.m, h.si, h.l⟩
theorem MK.grown {w0 w w' : World} {M r : Nat} {t : TypeId} {cs : Array Value} {A : Option Addr} {c : Nat} {l : List Int} {at_ : Nat} {va vi : Value} (h : MK w0 w M A c l at_ va vi) (hg : w.grownBy w' (some r)) (hr : Bk w r t cs) (ht : t ≠ 98) (hm : w0.heap.size ≤ r) : MK w0 w' M A c l at_ va vi :=
 ⟨h.bk.grown hg (fun e => by cases e; exact hr.ne_ h.bk ht rfl), h.below.grown hg h.below.size (fun k e => by cases e; exact hm), h.m, h.si, h.l⟩
set_option linter.unusedSimpArgs false in
set_option maxHeartbeats 4000000 in
set_option maxRecDepth 100000 in
theorem next_any (w0 w : World) (M : Nat) (A : Option Addr) (c : Nat) (l : List Int) (at_ : Nat) (va vi : Value) (n : Int) (h : MK w0 w M A c l at_ va vi) (ha : at_ ≤ 1000000000) (hn : 1 ≤ n) (hn2 : n ≤ 9223372036854775807) :
  Calls Tryz.prog 142 #[.pointer (some ⟨M, 0, none⟩), .int .i64 n] w fun e w' => ∃ x : Int, e = .returned (.int .i64 x) ∧ (0 ≤ x ∧ x < n) ∧ MK w0 w' M A c l (at_ + 1) va vi ∧ w.grownBy w' (some M) := by
 have c1 : w.cell? ⟨M, 1, none⟩ = some (.int .i64 (at_ : Int)) := h.bk.cell 1
 have f1 := h.bk.frozen 1
 have hw : IntKind.i64.wrap ((at_ : Int) + 1) = (at_ : Int) + 1 := IntWalk.i64_in _ ⟨by omega, by omega⟩
 have hw2 : IntKind.i64.wrap (at_ : Int) = (at_ : Int) := IntWalk.i64_in _ ⟨by omega, by omega⟩
 have HK1 := Lib.hid (show Bk (w.setCell ⟨M, 1, none⟩ (.int .i64 ((at_ : Int) + 1))) M 98 #[.slice A l.length c, .int .i64 ((at_ : Int) + 1), va, vi] from h.bk.set_ 1 _)
 have hg1 := grown_set w M 1 (.int .i64 ((at_ : Int) + 1))
 have HB1 := Lib.hid (h.below.grown hg1 h.below.size (fun k e => by cases e; exact h.m))
 have Hg1 := Lib.hid hg1
 have Hm := Lib.hid h.m
 have Hl := Lib.hid h.l
 have Hs := Lib.hid h.si
 have hpb := pick_bd l (at_ : Int) n hn
 clear h hg1
 go_enter Tryz.func142, Tryz.ntmps142
 go_upto_region 2 with fail
 clear c1 f1
 generalize w.setCell ⟨M, 1, none⟩ (.int .i64 ((at_ : Int) + 1)) = W1 at *
 have HK2 := Lib.hid (show Bk W1.drew M 98 #[.slice A l.length c, .int .i64 ((at_ : Int) + 1), va, vi] from HK1.out)
 have HB2 := Lib.hid HB1.out.drew
 have Hg2 := Lib.hid (grown_trans Hg1.out (grown_below (Below.refl _ _).drew (some M)))
 have HP := Lib.hid (pick_any A c l (at_ : Int) n W1.drew (Hs.out.below HB2.out) Hl.out hn hn2)
 clear HK1 HB1 Hg1
 refine wp_region_noPanic ?_
 refine region_H (S := fun W => W.cell? ⟨M, 0, none⟩ = some (.slice A l.length c) ∧ W.cell? ⟨M, 1, none⟩ = some (.int .i64 ((at_ : Int) + 1))) (by kernel_rfl) ?_
 change wpH _ _ _ _ 12 _ _ W1.drew
 generalize W1.drew = X0 at *
 refine H_takeD (k := 0) (v := .pointer (some ⟨M, 0, none⟩)) (d := some 12) rfl rfl (by decide +kernel) (fun _ _ _ h => h) (Or.inl ⟨by rfl, fun W hW => by obtain ⟨s0, s1⟩ := hW; go_simp⟩) ⟨HK2.out.cell 0, HK2.out.cell 1⟩ ?_
 try simp only [Act.put, qz0, qz1, qz2]
 refine H_takeD (k := 1) (v := .pointer (some ⟨M, 0, none⟩)) (d := some 13) rfl rfl (by decide +kernel) (fun _ _ _ h => h) (Or.inl ⟨by rfl, fun W hW => by obtain ⟨s0, s1⟩ := hW; go_simp⟩) ⟨HK2.out.cell 0, HK2.out.cell 1⟩ ?_
 try simp only [Act.put, qz0, qz1, qz2]
 refine H_takeD (k := 2) (v := .pointer (some ⟨M, 0, none⟩)) (d := some 14) rfl rfl (by decide +kernel) (fun _ _ _ h => h) (Or.inl ⟨by rfl, fun W hW => by obtain ⟨s0, s1⟩ := hW; go_simp⟩) ⟨HK2.out.cell 0, HK2.out.cell 1⟩ ?_
 try simp only [Act.put, qz0, qz1, qz2]
 refine H_takeD (k := 3) (v := .slice A l.length c) (d := some 15) rfl rfl (by decide +kernel) (fun _ _ _ h => h) (Or.inl ⟨by rfl, fun W hW => by obtain ⟨s0, s1⟩ := hW; go_simp⟩) ⟨HK2.out.cell 0, HK2.out.cell 1⟩ ?_
 try simp only [Act.put, qz0, qz1, qz2]
 refine H_takeD (k := 4) (v := .pointer (some ⟨M, 0, none⟩)) (d := some 16) rfl rfl (by decide +kernel) (fun _ _ _ h => h) (Or.inl ⟨by rfl, fun W hW => by obtain ⟨s0, s1⟩ := hW; go_simp⟩) ⟨HK2.out.cell 0, HK2.out.cell 1⟩ ?_
 try simp only [Act.put, qz0, qz1, qz2]
 refine H_takeD (k := 5) (v := .pointer (some ⟨M, 0, none⟩)) (d := some 17) rfl rfl (by decide +kernel) (fun _ _ _ h => h) (Or.inl ⟨by rfl, fun W hW => by obtain ⟨s0, s1⟩ := hW; go_simp⟩) ⟨HK2.out.cell 0, HK2.out.cell 1⟩ ?_
 try simp only [Act.put, qz0, qz1, qz2]
 refine H_takeD (k := 6) (v := .pointer (some ⟨M, 1, none⟩)) (d := some 18) rfl rfl (by decide +kernel) (fun _ _ _ h => h) (Or.inl ⟨by rfl, fun W hW => by obtain ⟨s0, s1⟩ := hW; go_simp⟩) ⟨HK2.out.cell 0, HK2.out.cell 1⟩ ?_
 try simp only [Act.put, qz0, qz1, qz2]
 refine H_takeD (k := 7) (v := .int .i64 ((at_ : Int) + 1)) (d := some 19) rfl rfl (by decide +kernel) (fun _ _ _ h => h) (Or.inl ⟨by rfl, fun W hW => by obtain ⟨s0, s1⟩ := hW; go_simp⟩) ⟨HK2.out.cell 0, HK2.out.cell 1⟩ ?_
 try simp only [Act.put, qz0, qz1, qz2]
 refine H_takeD (k := 8) (v := .int .i64 (at_ : Int)) (d := some 20) rfl rfl (by decide +kernel) (fun _ _ _ h => h) (Or.inl ⟨by rfl, fun W hW => by obtain ⟨s0, s1⟩ := hW; go_simp⟩) ⟨HK2.out.cell 0, HK2.out.cell 1⟩ ?_
 try simp only [Act.put, qz0, qz1, qz2]
 refine H_takeD (k := 9) (v := .int .i64 n) (d := some 21) rfl rfl (by decide +kernel) (fun _ _ _ h => h) (Or.inl ⟨by rfl, fun W hW => by obtain ⟨s0, s1⟩ := hW; go_simp⟩) ⟨HK2.out.cell 0, HK2.out.cell 1⟩ ?_
 try simp only [Act.put, qz0, qz1, qz2]
 refine H_one (i := 10) (by decide +kernel) (H_step rfl rfl (fun K hK10 => ?_))
 have hK10 := Lib.hid hK10
 go_simp
 go_at_call 166
 refine HP.out.mono ?_
 rintro e wv ⟨rfl, rfl⟩
 generalize pick l (at_ : Int) n = X at *
 refine hK10.out _ _ ⟨HK2.out.cell 0, HK2.out.cell 1⟩ ?_
 try simp only [Act.put, qz0, qz1, qz2]
 refine H_takeD (k := 11) (v := .int .i64 X) (d := some 4) rfl rfl (by decide +kernel) (fun _ _ _ h => h) (Or.inl ⟨by rfl, fun W hW => by obtain ⟨s0, s1⟩ := hW; go_simp⟩) ⟨HK2.out.cell 0, HK2.out.cell 1⟩ ?_
 try simp only [Act.put, qz0, qz1, qz2]
 refine H_end (by decide +kernel) (NoPanic.normal ?_)
 try simp only [Act.put, qz0, qz1, qz2]
 clear HP
 go_wp2_with fail
 go_ret
 exact ⟨X, rfl, hpb, ⟨by rw [show ((at_ + 1 : Nat) : Int) = (at_ : Int) + 1 from rfl]; exact HK2.out, HB2.out, Hm.out, Hs.out, Hl.out⟩, Hg2.out⟩
set_option linter.unusedSimpArgs false in
set_option maxHeartbeats 8000000 in
set_option maxRecDepth 100000 in
theorem mclaim_any (w0 w : World) (M : Nat) (A : Option Addr) (c : Nat) (l : List Int) (at_ : Nat) (va vi : Value) (of : Int) (h : MK w0 w M A c l at_ va vi) (ha : at_ ≤ 100000000) (ho : 0 ≤ of ∧ of ≤ 63) :
  Calls Tryz.prog 145 #[.pointer (some ⟨M, 0, none⟩), .int .i64 of] w fun e w' => ∃ k f t d : Int, e = .returned (.agg #[.int .i64 k, .int .i64 of, .int .i64 f, .int .i64 t, .int .i64 d]) ∧ clE ⟨k, of, f, t, d⟩ = 0 ∧ MK w0 w' M A c l (at_ + 4) va vi ∧ w.grownBy w' (some M) := by
 have hM1 := h.keep ((Below.refl _ _).alloc (Nat.le_refl _) (.cells #[.int .i64 0, .int .i64 0, .int .i64 0, .int .i64 0, .int .i64 0] 41))
 have HR1 := Lib.hid (Bk.new w 41 #[.int .i64 0, .int .i64 0, .int .i64 0, .int .i64 0, .int .i64 0])
 have HM1 := Lib.hid hM1
 have Hg1 := Lib.hid (grown_below ((Below.refl w.heap.size w).alloc (Nat.le_refl _) (.cells #[.int .i64 0, .int .i64 0, .int .i64 0, .int .i64 0, .int .i64 0] 41)) (some M))
 clear hM1
 go_enter Tryz.func145, Tryz.ntmps145
 go_upto_region 2 with (refine (next_any w0 _ M A c l at_ va vi 4 HM1.out (by omega) (by decide) (by decide)).mono ?_; rintro e w2 ⟨x1, rfl, hx1, hM2, hg2⟩; have hwx : IntKind.i64.wrap (100 * x1) = 100 * x1 := IntWalk.i64_in _ ⟨by omega, by omega⟩)
 obtain ⟨fr, hfr⟩ : ∃ z, Hid (100 * x1 = z) := ⟨_, Lib.hid rfl⟩
 have hfrb : 0 ≤ fr ∧ fr ≤ 300 := by have := hfr.out; omega
 rw [hfr.out]
 have hw50 : IntKind.i64.wrap (fr + 50) = fr + 50 := IntWalk.i64_in _ ⟨by omega, by omega⟩
 have HM2 := Lib.hid (show MK w0 w2.drew M A c l (at_ + 1) va vi from hM2.keep (Below.refl _ _).drew)
 have hR2 := HR1.out.grown hg2 (fun e => HM1.out.bk.ne_ HR1.out (by decide) (Option.some.inj e).symm)
 have HR2 := Lib.hid (show Bk w2.drew w.heap.size 41 #[.int .i64 0, .int .i64 0, .int .i64 0, .int .i64 0, .int .i64 0] from hR2)
 clear hR2
 have Hg2 := Lib.hid (grown_trans (grown_trans Hg1.out hg2) (grown_below (Below.refl _ _).drew (some M)))
 obtain ⟨R, hR⟩ : ∃ z, Hid (w.heap.size = z) := ⟨_, Lib.hid rfl⟩
 simp only [hR.out] at HR1 HR2 ⊢
 have hMR : M ≠ R := HM2.out.bk.ne_ HR2.out (by decide)
 have hRb : w0.heap.size ≤ R := by rw [← hR.out]; exact h.below.size
 have hRn : w.heap.size ≤ R := Nat.le_of_eq hR.out
 clear HM1 Hg1 HR1 hM2 hg2 hfr hwx h
 refine wp_region_noPanic ?_
 refine region_H (S := fun _ => True) (by kernel_rfl) ?_
 change wpH _ _ _ _ 17 _ _ w2.drew
 generalize w2.drew = X0 at *
 refine H_takeD (k := 1) (v := .pointer (some ⟨M, 0, none⟩)) (d := some 10) rfl rfl (by decide +kernel) (fun _ _ _ h => h) (Or.inl ⟨by rfl, fun W hW => by go_simp⟩) trivial ?_
 try simp only [Act.put, qz0, qz1, qz2]
 refine H_takeD (k := 5) (v := .int .i64 of) (d := some 14) rfl rfl (by decide +kernel) (fun _ _ _ h => h) (Or.inl ⟨by rfl, fun W hW => by go_simp⟩) trivial ?_
 try simp only [Act.put, qz0, qz1, qz2]
 refine H_takeD (k := 6) (v := .int .i64 fr) (d := some 15) rfl rfl (by decide +kernel) (fun _ _ _ h => h) (Or.inl ⟨by rfl, fun W hW => by go_simp⟩) trivial ?_
 try simp only [Act.put, qz0, qz1, qz2]
 refine H_takeD (k := 7) (v := .int .i64 fr) (d := some 16) rfl rfl (by decide +kernel) (fun _ _ _ h => h) (Or.inl ⟨by rfl, fun W hW => by go_simp⟩) trivial ?_
 try simp only [Act.put, qz0, qz1, qz2]
 refine H_takeD (k := 8) (v := .int .i64 (fr + 50)) (d := some 17) rfl rfl (by decide +kernel) (fun _ _ _ h => h) (Or.inl ⟨by rfl, fun W hW => by go_simp⟩) trivial ?_
 try simp only [Act.put, qz0, qz1, qz2]
 refine H_takeD (k := 9) (v := .pointer (some ⟨M, 0, none⟩)) (d := some 18) rfl rfl (by decide +kernel) (fun _ _ _ h => h) (Or.inl ⟨by rfl, fun W hW => by go_simp⟩) trivial ?_
 try simp only [Act.put, qz0, qz1, qz2]
 refine H_takeD (k := 13) (v := .pointer (some ⟨M, 0, none⟩)) (d := some 22) rfl rfl (by decide +kernel) (fun _ _ _ h => h) (Or.inl ⟨by rfl, fun W hW => by go_simp⟩) trivial ?_
 try simp only [Act.put, qz0, qz1, qz2]
 refine H_two (i := 0) (j := 2) (by decide +kernel) (H_step rfl rfl (fun K hK7 => ?_)) (H_step rfl rfl (fun K hK7 => ?_))
 ·have hK7 := Lib.hid hK7
  go_simp
  have HG_ := Lib.hid (Bk.new X0 3 #[.int .i64 0, .int .i64 0, .int .i64 0, .int .i64 1, .int .i64 2])
  have HM_ := Lib.hid (HM2.out.keep ((Below.refl _ _).alloc (Nat.le_refl _) (.cells #[.int .i64 0, .int .i64 0, .int .i64 0, .int .i64 1, .int .i64 2] 3)))
  have HR_ := Lib.hid (HR2.out.alloc (.cells #[.int .i64 0, .int .i64 0, .int .i64 0, .int .i64 1, .int .i64 2] 3))
  have Hg_ := Lib.hid (grown_trans Hg2.out (grown_below ((Below.refl _ _).alloc (Nat.le_refl _) (.cells #[.int .i64 0, .int .i64 0, .int .i64 0, .int .i64 1, .int .i64 2] 3)) (some M)))
  refine hK7.out _ _ trivial ?_
  try simp only [Act.put, qz0, qz1, qz2]
  generalize X0.alloc (.cells #[.int .i64 0, .int .i64 0, .int .i64 0, .int .i64 1, .int .i64 2] 3) = Wb at *
  generalize X0.heap.size = g at *
  refine H_one (i := 2) (by decide +kernel) (H_step rfl rfl (fun K hK8 => ?_))
  have hK8 := Lib.hid hK8
  go_simp
  go_at_call 142
  refine (next_any w0 Wb M A c l (at_ + 1) va vi 5 HM_.out (by omega) (by decide) (by decide)).mono ?_
  rintro e Wc1 ⟨x2, rfl, hx2, hM, hg⟩
  have HMc1 := Lib.hid hM
  have HRc1 := Lib.hid (HR_.out.grown hg (fun e => by cases e; exact hMR rfl))
  have Hgc1 := Lib.hid (grown_trans Hg_.out hg)
  have HGc1 := Lib.hid (HG_.out.grown hg (fun e => by cases e; exact HM_.out.bk.ne_ HG_.out (by decide) rfl))
  clear hM hg
  obtain ⟨j, kd, hj, hj5, hkd, hgl⟩ := pick5 hx2
  have hnj : ¬ (5 ≤ (j : Int)) := by omega
  rw [hj]
  refine hK8.out _ _ trivial ?_
  try simp only [Act.put, qz0, qz1, qz2]
  refine H_takeD (k := 3) (v := .pointer (some ⟨g, j, none⟩)) (d := some 12) rfl rfl (by decide +kernel) (fun _ _ _ h => h) (Or.inl ⟨by rfl, fun W hW => by go_simp⟩) trivial ?_
  try simp only [Act.put, qz0, qz1, qz2]
  refine H_two (i := 4) (j := 10) (by decide +kernel) (H_step rfl rfl (fun K hK10 => ?_)) (H_step rfl rfl (fun K hK10 => ?_))
  ·have hK10 := Lib.hid hK10
   have hcj : Wc1.cell? ⟨g, j, none⟩ = some (.int .i64 kd) := (HGc1.out.cell j).trans hgl
   go_simp
   refine hK10.out _ _ trivial ?_
   try simp only [Act.put, qz0, qz1, qz2]
   refine H_one (i := 10) (by decide +kernel) (H_step rfl rfl (fun K hK11 => ?_))
   have hK11 := Lib.hid hK11
   go_simp
   go_at_call 142
   refine (next_any w0 Wc1 M A c l (at_ + 2) va vi 4 HMc1.out (by omega) (by decide) (by decide)).mono ?_
   rintro e Wc2 ⟨x3, rfl, hx3, hM, hg⟩
   have HMc2 := Lib.hid hM
   have HRc2 := Lib.hid (HRc1.out.grown hg (fun e => by cases e; exact hMR rfl))
   have Hgc2 := Lib.hid (grown_trans Hgc1.out hg)
   have HGc2 := Lib.hid (HGc1.out.grown hg (fun e => by cases e; exact HMc1.out.bk.ne_ HGc1.out (by decide) rfl))
   clear hM hg
   have hw3 : IntKind.i64.wrap (100 * x3) = 100 * x3 := IntWalk.i64_in _ ⟨by omega, by omega⟩
   have hw4 : IntKind.i64.wrap (fr + 50 + 100 * x3) = fr + 50 + 100 * x3 := IntWalk.i64_in _ ⟨by omega, by omega⟩
   refine hK11.out _ _ trivial ?_
   try simp only [Act.put, qz0, qz1, qz2]
   refine H_takeD (k := 11) (v := .int .i64 (100 * x3)) (d := some 20) rfl rfl (by decide +kernel) (fun _ _ _ h => h) (Or.inl ⟨by rfl, fun W hW => by go_simp⟩) trivial ?_
   try simp only [Act.put, qz0, qz1, qz2]
   refine H_takeD (k := 12) (v := .int .i64 (fr + 50 + 100 * x3)) (d := some 21) rfl rfl (by decide +kernel) (fun _ _ _ h => h) (Or.inl ⟨by rfl, fun W hW => by go_simp⟩) trivial ?_
   try simp only [Act.put, qz0, qz1, qz2]
   refine H_one (i := 14) (by decide +kernel) (H_step rfl rfl (fun K hK14 => ?_))
   have hK14 := Lib.hid hK14
   go_simp
   go_at_call 142
   refine (next_any w0 Wc2 M A c l (at_ + 3) va vi 4 HMc2.out (by omega) (by decide) (by decide)).mono ?_
   rintro e Wc3 ⟨x4, rfl, hx4, hM, hg⟩
   have HMc3 := Lib.hid hM
   have HRc3 := Lib.hid (HRc2.out.grown hg (fun e => by cases e; exact hMR rfl))
   have Hgc3 := Lib.hid (grown_trans Hgc2.out hg)
   have HGc3 := Lib.hid (HGc2.out.grown hg (fun e => by cases e; exact HMc2.out.bk.ne_ HGc2.out (by decide) rfl))
   clear hM hg
   refine hK14.out _ _ trivial ?_
   try simp only [Act.put, qz0, qz1, qz2]
   refine H_takeD (k := 15) (v := .agg #[.int .i64 kd, .int .i64 of, .int .i64 fr, .int .i64 (fr + 50 + 100 * x3), .int .i64 x4]) (d := some 24) rfl rfl (by decide +kernel) (fun _ _ _ h => h) (Or.inl ⟨by rfl, fun W hW => by go_simp⟩) trivial ?_
   try simp only [Act.put, qz0, qz1, qz2]
   refine H_one (i := 16) (by decide +kernel) (H_step rfl rfl (fun K hK16 => ?_))
   have hK16 := Lib.hid hK16
   have z0 : Wc3.cell? ⟨R, 0, none⟩ = some (.int .i64 0) := HRc3.out.cell 0
   have z1 : Wc3.cell? ⟨R, 1, none⟩ = some (.int .i64 0) := HRc3.out.cell 1
   have z2 : Wc3.cell? ⟨R, 2, none⟩ = some (.int .i64 0) := HRc3.out.cell 2
   have z3 : Wc3.cell? ⟨R, 3, none⟩ = some (.int .i64 0) := HRc3.out.cell 3
   have z4 : Wc3.cell? ⟨R, 4, none⟩ = some (.int .i64 0) := HRc3.out.cell 4
   have q0 := HRc3.out.frozen 0
   have q1 := HRc3.out.frozen 1
   have q2 := HRc3.out.frozen 2
   have q3 := HRc3.out.frozen 3
   have q4 := HRc3.out.frozen 4
   go_simp
   refine hK16.out _ _ trivial ?_
   try simp only [Act.put, qz0, qz1, qz2]
   refine H_end (by decide +kernel) (NoPanic.normal ?_)
   try simp only [Act.put, qz0, qz1, qz2]
   have HRs0 := HRc3.out
   have HMs0 := HMc3.out
   have Hgs0 := Hgc3.out
   have HRs1 := HRs0.set_ 0 (.int .i64 kd)
   have HMs1 := HMs0.grown (grown_set _ R 0 (.int .i64 kd)) HRs0 (by decide) hRb
   have HRs2 := HRs1.set_ 1 (.int .i64 of)
   have HMs2 := HMs1.grown (grown_set _ R 1 (.int .i64 of)) HRs1 (by decide) hRb
   have HRs3 := HRs2.set_ 2 (.int .i64 fr)
   have HMs3 := HMs2.grown (grown_set _ R 2 (.int .i64 fr)) HRs2 (by decide) hRb
   have HRs4 := HRs3.set_ 3 (.int .i64 (fr + 50 + 100 * x3))
   have HMs4 := HMs3.grown (grown_set _ R 3 (.int .i64 (fr + 50 + 100 * x3))) HRs3 (by decide) hRb
   have HRs5 := HRs4.set_ 4 (.int .i64 x4)
   have HMs5 := HMs4.grown (grown_set _ R 4 (.int .i64 x4)) HRs4 (by decide) hRb
   have HRz := Lib.hid (show Bk _ R 41 #[.int .i64 kd, .int .i64 of, .int .i64 fr, .int .i64 (fr + 50 + 100 * x3), .int .i64 x4] from HRs5)
   have HMz := Lib.hid HMs5
   have Hgz := Lib.hid (grown_new Hgs0 hRn (.int .i64 kd) (.int .i64 of) (.int .i64 fr) (.int .i64 (fr + 50 + 100 * x3)) (.int .i64 x4))
   clear HRs0 HMs0 HRs1 HMs1 HRs2 HMs2 HRs3 HMs3 HRs4 HMs4 HRs5 HMs5 Hgs0
   go_wp2_with fail
   have r0 := HRz.out.cell 0
   have r1 := HRz.out.cell 1
   have r2 := HRz.out.cell 2
   have r3 := HRz.out.cell 3
   have r4 := HRz.out.cell 4
   simp only [List.getElem?_toArray, List.getElem?_cons_zero, List.getElem?_cons_succ] at r0 r1 r2 r3 r4
   exact bodyPost_ret (v := .agg #[.int .i64 kd, .int .i64 of, .int .i64 fr, .int .i64 (fr + 50 + 100 * x3), .int .i64 x4]) (by simp [results, Tryz.results145, go_sem, r0, r1, r2, r3, r4]) rfl ⟨kd, fr, fr + 50 + 100 * x3, x4, rfl, by unfold clE; rw [if_pos (by dsimp only; omega)], HMz.out, Hgz.out⟩
  ·have hK10 := Lib.hid hK10
   go_simp
   go_at_call 142
   refine (next_any w0 Wc1 M A c l (at_ + 2) va vi 4 HMc1.out (by omega) (by decide) (by decide)).mono ?_
   rintro e Wc2 ⟨x3, rfl, hx3, hM, hg⟩
   have HMc2 := Lib.hid hM
   have HRc2 := Lib.hid (HRc1.out.grown hg (fun e => by cases e; exact hMR rfl))
   have Hgc2 := Lib.hid (grown_trans Hgc1.out hg)
   have HGc2 := Lib.hid (HGc1.out.grown hg (fun e => by cases e; exact HMc1.out.bk.ne_ HGc1.out (by decide) rfl))
   clear hM hg
   have hw3 : IntKind.i64.wrap (100 * x3) = 100 * x3 := IntWalk.i64_in _ ⟨by omega, by omega⟩
   have hw4 : IntKind.i64.wrap (fr + 50 + 100 * x3) = fr + 50 + 100 * x3 := IntWalk.i64_in _ ⟨by omega, by omega⟩
   refine hK10.out _ _ trivial ?_
   try simp only [Act.put, qz0, qz1, qz2]
   refine H_takeD (k := 11) (v := .int .i64 (100 * x3)) (d := some 20) rfl rfl (by decide +kernel) (fun _ _ _ h => h) (Or.inl ⟨by rfl, fun W hW => by go_simp⟩) trivial ?_
   try simp only [Act.put, qz0, qz1, qz2]
   refine H_takeD (k := 12) (v := .int .i64 (fr + 50 + 100 * x3)) (d := some 21) rfl rfl (by decide +kernel) (fun _ _ _ h => h) (Or.inl ⟨by rfl, fun W hW => by go_simp⟩) trivial ?_
   try simp only [Act.put, qz0, qz1, qz2]
   refine H_two (i := 4) (j := 14) (by decide +kernel) (H_step rfl rfl (fun K hK13 => ?_)) (H_step rfl rfl (fun K hK13 => ?_))
   ·have hK13 := Lib.hid hK13
    have hcj : Wc2.cell? ⟨g, j, none⟩ = some (.int .i64 kd) := (HGc2.out.cell j).trans hgl
    go_simp
    refine hK13.out _ _ trivial ?_
    try simp only [Act.put, qz0, qz1, qz2]
    refine H_one (i := 14) (by decide +kernel) (H_step rfl rfl (fun K hK14 => ?_))
    have hK14 := Lib.hid hK14
    go_simp
    go_at_call 142
    refine (next_any w0 Wc2 M A c l (at_ + 3) va vi 4 HMc2.out (by omega) (by decide) (by decide)).mono ?_
    rintro e Wc3 ⟨x4, rfl, hx4, hM, hg⟩
    have HMc3 := Lib.hid hM
    have HRc3 := Lib.hid (HRc2.out.grown hg (fun e => by cases e; exact hMR rfl))
    have Hgc3 := Lib.hid (grown_trans Hgc2.out hg)
    have HGc3 := Lib.hid (HGc2.out.grown hg (fun e => by cases e; exact HMc2.out.bk.ne_ HGc2.out (by decide) rfl))
    clear hM hg
    refine hK14.out _ _ trivial ?_
    try simp only [Act.put, qz0, qz1, qz2]
    refine H_takeD (k := 15) (v := .agg #[.int .i64 kd, .int .i64 of, .int .i64 fr, .int .i64 (fr + 50 + 100 * x3), .int .i64 x4]) (d := some 24) rfl rfl (by decide +kernel) (fun _ _ _ h => h) (Or.inl ⟨by rfl, fun W hW => by go_simp⟩) trivial ?_
    try simp only [Act.put, qz0, qz1, qz2]
    refine H_one (i := 16) (by decide +kernel) (H_step rfl rfl (fun K hK16 => ?_))
    have hK16 := Lib.hid hK16
    have z0 : Wc3.cell? ⟨R, 0, none⟩ = some (.int .i64 0) := HRc3.out.cell 0
    have z1 : Wc3.cell? ⟨R, 1, none⟩ = some (.int .i64 0) := HRc3.out.cell 1
    have z2 : Wc3.cell? ⟨R, 2, none⟩ = some (.int .i64 0) := HRc3.out.cell 2
    have z3 : Wc3.cell? ⟨R, 3, none⟩ = some (.int .i64 0) := HRc3.out.cell 3
    have z4 : Wc3.cell? ⟨R, 4, none⟩ = some (.int .i64 0) := HRc3.out.cell 4
    have q0 := HRc3.out.frozen 0
    have q1 := HRc3.out.frozen 1
    have q2 := HRc3.out.frozen 2
    have q3 := HRc3.out.frozen 3
    have q4 := HRc3.out.frozen 4
    go_simp
    refine hK16.out _ _ trivial ?_
    try simp only [Act.put, qz0, qz1, qz2]
    refine H_end (by decide +kernel) (NoPanic.normal ?_)
    try simp only [Act.put, qz0, qz1, qz2]
    have HRs0 := HRc3.out
    have HMs0 := HMc3.out
    have Hgs0 := Hgc3.out
    have HRs1 := HRs0.set_ 0 (.int .i64 kd)
    have HMs1 := HMs0.grown (grown_set _ R 0 (.int .i64 kd)) HRs0 (by decide) hRb
    have HRs2 := HRs1.set_ 1 (.int .i64 of)
    have HMs2 := HMs1.grown (grown_set _ R 1 (.int .i64 of)) HRs1 (by decide) hRb
    have HRs3 := HRs2.set_ 2 (.int .i64 fr)
    have HMs3 := HMs2.grown (grown_set _ R 2 (.int .i64 fr)) HRs2 (by decide) hRb
    have HRs4 := HRs3.set_ 3 (.int .i64 (fr + 50 + 100 * x3))
    have HMs4 := HMs3.grown (grown_set _ R 3 (.int .i64 (fr + 50 + 100 * x3))) HRs3 (by decide) hRb
    have HRs5 := HRs4.set_ 4 (.int .i64 x4)
    have HMs5 := HMs4.grown (grown_set _ R 4 (.int .i64 x4)) HRs4 (by decide) hRb
    have HRz := Lib.hid (show Bk _ R 41 #[.int .i64 kd, .int .i64 of, .int .i64 fr, .int .i64 (fr + 50 + 100 * x3), .int .i64 x4] from HRs5)
    have HMz := Lib.hid HMs5
    have Hgz := Lib.hid (grown_new Hgs0 hRn (.int .i64 kd) (.int .i64 of) (.int .i64 fr) (.int .i64 (fr + 50 + 100 * x3)) (.int .i64 x4))
    clear HRs0 HMs0 HRs1 HMs1 HRs2 HMs2 HRs3 HMs3 HRs4 HMs4 HRs5 HMs5 Hgs0
    go_wp2_with fail
    have r0 := HRz.out.cell 0
    have r1 := HRz.out.cell 1
    have r2 := HRz.out.cell 2
    have r3 := HRz.out.cell 3
    have r4 := HRz.out.cell 4
    simp only [List.getElem?_toArray, List.getElem?_cons_zero, List.getElem?_cons_succ] at r0 r1 r2 r3 r4
    exact bodyPost_ret (v := .agg #[.int .i64 kd, .int .i64 of, .int .i64 fr, .int .i64 (fr + 50 + 100 * x3), .int .i64 x4]) (by simp [results, Tryz.results145, go_sem, r0, r1, r2, r3, r4]) rfl ⟨kd, fr, fr + 50 + 100 * x3, x4, rfl, by unfold clE; rw [if_pos (by dsimp only; omega)], HMz.out, Hgz.out⟩
   ·have hK13 := Lib.hid hK13
    go_simp
    go_at_call 142
    refine (next_any w0 Wc2 M A c l (at_ + 3) va vi 4 HMc2.out (by omega) (by decide) (by decide)).mono ?_
    rintro e Wc3 ⟨x4, rfl, hx4, hM, hg⟩
    have HMc3 := Lib.hid hM
    have HRc3 := Lib.hid (HRc2.out.grown hg (fun e => by cases e; exact hMR rfl))
    have Hgc3 := Lib.hid (grown_trans Hgc2.out hg)
    have HGc3 := Lib.hid (HGc2.out.grown hg (fun e => by cases e; exact HMc2.out.bk.ne_ HGc2.out (by decide) rfl))
    clear hM hg
    refine hK13.out _ _ trivial ?_
    try simp only [Act.put, qz0, qz1, qz2]
    refine H_one (i := 4) (by decide +kernel) (H_step rfl rfl (fun K hK14 => ?_))
    have hK14 := Lib.hid hK14
    have hcj : Wc3.cell? ⟨g, j, none⟩ = some (.int .i64 kd) := (HGc3.out.cell j).trans hgl
    go_simp
    refine hK14.out _ _ trivial ?_
    try simp only [Act.put, qz0, qz1, qz2]
    refine H_takeD (k := 15) (v := .agg #[.int .i64 kd, .int .i64 of, .int .i64 fr, .int .i64 (fr + 50 + 100 * x3), .int .i64 x4]) (d := some 24) rfl rfl (by decide +kernel) (fun _ _ _ h => h) (Or.inl ⟨by rfl, fun W hW => by go_simp⟩) trivial ?_
    try simp only [Act.put, qz0, qz1, qz2]
    refine H_one (i := 16) (by decide +kernel) (H_step rfl rfl (fun K hK16 => ?_))
    have hK16 := Lib.hid hK16
    have z0 : Wc3.cell? ⟨R, 0, none⟩ = some (.int .i64 0) := HRc3.out.cell 0
    have z1 : Wc3.cell? ⟨R, 1, none⟩ = some (.int .i64 0) := HRc3.out.cell 1
    have z2 : Wc3.cell? ⟨R, 2, none⟩ = some (.int .i64 0) := HRc3.out.cell 2
    have z3 : Wc3.cell? ⟨R, 3, none⟩ = some (.int .i64 0) := HRc3.out.cell 3
    have z4 : Wc3.cell? ⟨R, 4, none⟩ = some (.int .i64 0) := HRc3.out.cell 4
    have q0 := HRc3.out.frozen 0
    have q1 := HRc3.out.frozen 1
    have q2 := HRc3.out.frozen 2
    have q3 := HRc3.out.frozen 3
    have q4 := HRc3.out.frozen 4
    go_simp
    refine hK16.out _ _ trivial ?_
    try simp only [Act.put, qz0, qz1, qz2]
    refine H_end (by decide +kernel) (NoPanic.normal ?_)
    try simp only [Act.put, qz0, qz1, qz2]
    have HRs0 := HRc3.out
    have HMs0 := HMc3.out
    have Hgs0 := Hgc3.out
    have HRs1 := HRs0.set_ 0 (.int .i64 kd)
    have HMs1 := HMs0.grown (grown_set _ R 0 (.int .i64 kd)) HRs0 (by decide) hRb
    have HRs2 := HRs1.set_ 1 (.int .i64 of)
    have HMs2 := HMs1.grown (grown_set _ R 1 (.int .i64 of)) HRs1 (by decide) hRb
    have HRs3 := HRs2.set_ 2 (.int .i64 fr)
    have HMs3 := HMs2.grown (grown_set _ R 2 (.int .i64 fr)) HRs2 (by decide) hRb
    have HRs4 := HRs3.set_ 3 (.int .i64 (fr + 50 + 100 * x3))
    have HMs4 := HMs3.grown (grown_set _ R 3 (.int .i64 (fr + 50 + 100 * x3))) HRs3 (by decide) hRb
    have HRs5 := HRs4.set_ 4 (.int .i64 x4)
    have HMs5 := HMs4.grown (grown_set _ R 4 (.int .i64 x4)) HRs4 (by decide) hRb
    have HRz := Lib.hid (show Bk _ R 41 #[.int .i64 kd, .int .i64 of, .int .i64 fr, .int .i64 (fr + 50 + 100 * x3), .int .i64 x4] from HRs5)
    have HMz := Lib.hid HMs5
    have Hgz := Lib.hid (grown_new Hgs0 hRn (.int .i64 kd) (.int .i64 of) (.int .i64 fr) (.int .i64 (fr + 50 + 100 * x3)) (.int .i64 x4))
    clear HRs0 HMs0 HRs1 HMs1 HRs2 HMs2 HRs3 HMs3 HRs4 HMs4 HRs5 HMs5 Hgs0
    go_wp2_with fail
    have r0 := HRz.out.cell 0
    have r1 := HRz.out.cell 1
    have r2 := HRz.out.cell 2
    have r3 := HRz.out.cell 3
    have r4 := HRz.out.cell 4
    simp only [List.getElem?_toArray, List.getElem?_cons_zero, List.getElem?_cons_succ] at r0 r1 r2 r3 r4
    exact bodyPost_ret (v := .agg #[.int .i64 kd, .int .i64 of, .int .i64 fr, .int .i64 (fr + 50 + 100 * x3), .int .i64 x4]) (by simp [results, Tryz.results145, go_sem, r0, r1, r2, r3, r4]) rfl ⟨kd, fr, fr + 50 + 100 * x3, x4, rfl, by unfold clE; rw [if_pos (by dsimp only; omega)], HMz.out, Hgz.out⟩
 ·have hK7 := Lib.hid hK7
  go_simp
  go_at_call 142
  refine (next_any w0 X0 M A c l (at_ + 1) va vi 5 HM2.out (by omega) (by decide) (by decide)).mono ?_
  rintro e Wc1 ⟨x2, rfl, hx2, hM, hg⟩
  have HMc1 := Lib.hid hM
  have HRc1 := Lib.hid (HR2.out.grown hg (fun e => by cases e; exact hMR rfl))
  have Hgc1 := Lib.hid (grown_trans Hg2.out hg)
  clear hM hg
  obtain ⟨j, kd, hj, hj5, hkd, hgl⟩ := pick5 hx2
  have hnj : ¬ (5 ≤ (j : Int)) := by omega
  rw [hj]
  refine hK7.out _ _ trivial ?_
  try simp only [Act.put, qz0, qz1, qz2]
  refine H_two (i := 0) (j := 10) (by decide +kernel) (H_step rfl rfl (fun K hK8 => ?_)) (H_step rfl rfl (fun K hK8 => ?_))
  ·have hK8 := Lib.hid hK8
   go_simp
   have HG_ := Lib.hid (Bk.new Wc1 3 #[.int .i64 0, .int .i64 0, .int .i64 0, .int .i64 1, .int .i64 2])
   have HM_ := Lib.hid (HMc1.out.keep ((Below.refl _ _).alloc (Nat.le_refl _) (.cells #[.int .i64 0, .int .i64 0, .int .i64 0, .int .i64 1, .int .i64 2] 3)))
   have HR_ := Lib.hid (HRc1.out.alloc (.cells #[.int .i64 0, .int .i64 0, .int .i64 0, .int .i64 1, .int .i64 2] 3))
   have Hg_ := Lib.hid (grown_trans Hgc1.out (grown_below ((Below.refl _ _).alloc (Nat.le_refl _) (.cells #[.int .i64 0, .int .i64 0, .int .i64 0, .int .i64 1, .int .i64 2] 3)) (some M)))
   refine hK8.out _ _ trivial ?_
   try simp only [Act.put, qz0, qz1, qz2]
   generalize Wc1.alloc (.cells #[.int .i64 0, .int .i64 0, .int .i64 0, .int .i64 1, .int .i64 2] 3) = Wb at *
   generalize Wc1.heap.size = g at *
   refine H_takeD (k := 3) (v := .pointer (some ⟨g, j, none⟩)) (d := some 12) rfl rfl (by decide +kernel) (fun _ _ _ h => h) (Or.inl ⟨by rfl, fun W hW => by go_simp⟩) trivial ?_
   try simp only [Act.put, qz0, qz1, qz2]
   refine H_two (i := 4) (j := 10) (by decide +kernel) (H_step rfl rfl (fun K hK10 => ?_)) (H_step rfl rfl (fun K hK10 => ?_))
   ·have hK10 := Lib.hid hK10
    have hcj : Wb.cell? ⟨g, j, none⟩ = some (.int .i64 kd) := (HG_.out.cell j).trans hgl
    go_simp
    refine hK10.out _ _ trivial ?_
    try simp only [Act.put, qz0, qz1, qz2]
    refine H_one (i := 10) (by decide +kernel) (H_step rfl rfl (fun K hK11 => ?_))
    have hK11 := Lib.hid hK11
    go_simp
    go_at_call 142
    refine (next_any w0 Wb M A c l (at_ + 2) va vi 4 HM_.out (by omega) (by decide) (by decide)).mono ?_
    rintro e Wc2 ⟨x3, rfl, hx3, hM, hg⟩
    have HMc2 := Lib.hid hM
    have HRc2 := Lib.hid (HR_.out.grown hg (fun e => by cases e; exact hMR rfl))
    have Hgc2 := Lib.hid (grown_trans Hg_.out hg)
    have HGc2 := Lib.hid (HG_.out.grown hg (fun e => by cases e; exact HM_.out.bk.ne_ HG_.out (by decide) rfl))
    clear hM hg
    have hw3 : IntKind.i64.wrap (100 * x3) = 100 * x3 := IntWalk.i64_in _ ⟨by omega, by omega⟩
    have hw4 : IntKind.i64.wrap (fr + 50 + 100 * x3) = fr + 50 + 100 * x3 := IntWalk.i64_in _ ⟨by omega, by omega⟩
    refine hK11.out _ _ trivial ?_
    try simp only [Act.put, qz0, qz1, qz2]
    refine H_takeD (k := 11) (v := .int .i64 (100 * x3)) (d := some 20) rfl rfl (by decide +kernel) (fun _ _ _ h => h) (Or.inl ⟨by rfl, fun W hW => by go_simp⟩) trivial ?_
    try simp only [Act.put, qz0, qz1, qz2]
    refine H_takeD (k := 12) (v := .int .i64 (fr + 50 + 100 * x3)) (d := some 21) rfl rfl (by decide +kernel) (fun _ _ _ h => h) (Or.inl ⟨by rfl, fun W hW => by go_simp⟩) trivial ?_
    try simp only [Act.put, qz0, qz1, qz2]
    refine H_one (i := 14) (by decide +kernel) (H_step rfl rfl (fun K hK14 => ?_))
    have hK14 := Lib.hid hK14
    go_simp
    go_at_call 142
    refine (next_any w0 Wc2 M A c l (at_ + 3) va vi 4 HMc2.out (by omega) (by decide) (by decide)).mono ?_
    rintro e Wc3 ⟨x4, rfl, hx4, hM, hg⟩
    have HMc3 := Lib.hid hM
    have HRc3 := Lib.hid (HRc2.out.grown hg (fun e => by cases e; exact hMR rfl))
    have Hgc3 := Lib.hid (grown_trans Hgc2.out hg)
    have HGc3 := Lib.hid (HGc2.out.grown hg (fun e => by cases e; exact HMc2.out.bk.ne_ HGc2.out (by decide) rfl))
    clear hM hg
    refine hK14.out _ _ trivial ?_
    try simp only [Act.put, qz0, qz1, qz2]
    refine H_takeD (k := 15) (v := .agg #[.int .i64 kd, .int .i64 of, .int .i64 fr, .int .i64 (fr + 50 + 100 * x3), .int .i64 x4]) (d := some 24) rfl rfl (by decide +kernel) (fun _ _ _ h => h) (Or.inl ⟨by rfl, fun W hW => by go_simp⟩) trivial ?_
    try simp only [Act.put, qz0, qz1, qz2]
    refine H_one (i := 16) (by decide +kernel) (H_step rfl rfl (fun K hK16 => ?_))
    have hK16 := Lib.hid hK16
    have z0 : Wc3.cell? ⟨R, 0, none⟩ = some (.int .i64 0) := HRc3.out.cell 0
    have z1 : Wc3.cell? ⟨R, 1, none⟩ = some (.int .i64 0) := HRc3.out.cell 1
    have z2 : Wc3.cell? ⟨R, 2, none⟩ = some (.int .i64 0) := HRc3.out.cell 2
    have z3 : Wc3.cell? ⟨R, 3, none⟩ = some (.int .i64 0) := HRc3.out.cell 3
    have z4 : Wc3.cell? ⟨R, 4, none⟩ = some (.int .i64 0) := HRc3.out.cell 4
    have q0 := HRc3.out.frozen 0
    have q1 := HRc3.out.frozen 1
    have q2 := HRc3.out.frozen 2
    have q3 := HRc3.out.frozen 3
    have q4 := HRc3.out.frozen 4
    go_simp
    refine hK16.out _ _ trivial ?_
    try simp only [Act.put, qz0, qz1, qz2]
    refine H_end (by decide +kernel) (NoPanic.normal ?_)
    try simp only [Act.put, qz0, qz1, qz2]
    have HRs0 := HRc3.out
    have HMs0 := HMc3.out
    have Hgs0 := Hgc3.out
    have HRs1 := HRs0.set_ 0 (.int .i64 kd)
    have HMs1 := HMs0.grown (grown_set _ R 0 (.int .i64 kd)) HRs0 (by decide) hRb
    have HRs2 := HRs1.set_ 1 (.int .i64 of)
    have HMs2 := HMs1.grown (grown_set _ R 1 (.int .i64 of)) HRs1 (by decide) hRb
    have HRs3 := HRs2.set_ 2 (.int .i64 fr)
    have HMs3 := HMs2.grown (grown_set _ R 2 (.int .i64 fr)) HRs2 (by decide) hRb
    have HRs4 := HRs3.set_ 3 (.int .i64 (fr + 50 + 100 * x3))
    have HMs4 := HMs3.grown (grown_set _ R 3 (.int .i64 (fr + 50 + 100 * x3))) HRs3 (by decide) hRb
    have HRs5 := HRs4.set_ 4 (.int .i64 x4)
    have HMs5 := HMs4.grown (grown_set _ R 4 (.int .i64 x4)) HRs4 (by decide) hRb
    have HRz := Lib.hid (show Bk _ R 41 #[.int .i64 kd, .int .i64 of, .int .i64 fr, .int .i64 (fr + 50 + 100 * x3), .int .i64 x4] from HRs5)
    have HMz := Lib.hid HMs5
    have Hgz := Lib.hid (grown_new Hgs0 hRn (.int .i64 kd) (.int .i64 of) (.int .i64 fr) (.int .i64 (fr + 50 + 100 * x3)) (.int .i64 x4))
    clear HRs0 HMs0 HRs1 HMs1 HRs2 HMs2 HRs3 HMs3 HRs4 HMs4 HRs5 HMs5 Hgs0
    go_wp2_with fail
    have r0 := HRz.out.cell 0
    have r1 := HRz.out.cell 1
    have r2 := HRz.out.cell 2
    have r3 := HRz.out.cell 3
    have r4 := HRz.out.cell 4
    simp only [List.getElem?_toArray, List.getElem?_cons_zero, List.getElem?_cons_succ] at r0 r1 r2 r3 r4
    exact bodyPost_ret (v := .agg #[.int .i64 kd, .int .i64 of, .int .i64 fr, .int .i64 (fr + 50 + 100 * x3), .int .i64 x4]) (by simp [results, Tryz.results145, go_sem, r0, r1, r2, r3, r4]) rfl ⟨kd, fr, fr + 50 + 100 * x3, x4, rfl, by unfold clE; rw [if_pos (by dsimp only; omega)], HMz.out, Hgz.out⟩
   ·have hK10 := Lib.hid hK10
    go_simp
    go_at_call 142
    refine (next_any w0 Wb M A c l (at_ + 2) va vi 4 HM_.out (by omega) (by decide) (by decide)).mono ?_
    rintro e Wc2 ⟨x3, rfl, hx3, hM, hg⟩
    have HMc2 := Lib.hid hM
    have HRc2 := Lib.hid (HR_.out.grown hg (fun e => by cases e; exact hMR rfl))
    have Hgc2 := Lib.hid (grown_trans Hg_.out hg)
    have HGc2 := Lib.hid (HG_.out.grown hg (fun e => by cases e; exact HM_.out.bk.ne_ HG_.out (by decide) rfl))
    clear hM hg
    have hw3 : IntKind.i64.wrap (100 * x3) = 100 * x3 := IntWalk.i64_in _ ⟨by omega, by omega⟩
    have hw4 : IntKind.i64.wrap (fr + 50 + 100 * x3) = fr + 50 + 100 * x3 := IntWalk.i64_in _ ⟨by omega, by omega⟩
    refine hK10.out _ _ trivial ?_
    try simp only [Act.put, qz0, qz1, qz2]
    refine H_takeD (k := 11) (v := .int .i64 (100 * x3)) (d := some 20) rfl rfl (by decide +kernel) (fun _ _ _ h => h) (Or.inl ⟨by rfl, fun W hW => by go_simp⟩) trivial ?_
    try simp only [Act.put, qz0, qz1, qz2]
    refine H_takeD (k := 12) (v := .int .i64 (fr + 50 + 100 * x3)) (d := some 21) rfl rfl (by decide +kernel) (fun _ _ _ h => h) (Or.inl ⟨by rfl, fun W hW => by go_simp⟩) trivial ?_
    try simp only [Act.put, qz0, qz1, qz2]
    refine H_two (i := 4) (j := 14) (by decide +kernel) (H_step rfl rfl (fun K hK13 => ?_)) (H_step rfl rfl (fun K hK13 => ?_))
    ·have hK13 := Lib.hid hK13
     have hcj : Wc2.cell? ⟨g, j, none⟩ = some (.int .i64 kd) := (HGc2.out.cell j).trans hgl
     go_simp
     refine hK13.out _ _ trivial ?_
     try simp only [Act.put, qz0, qz1, qz2]
     refine H_one (i := 14) (by decide +kernel) (H_step rfl rfl (fun K hK14 => ?_))
     have hK14 := Lib.hid hK14
     go_simp
     go_at_call 142
     refine (next_any w0 Wc2 M A c l (at_ + 3) va vi 4 HMc2.out (by omega) (by decide) (by decide)).mono ?_
     rintro e Wc3 ⟨x4, rfl, hx4, hM, hg⟩
     have HMc3 := Lib.hid hM
     have HRc3 := Lib.hid (HRc2.out.grown hg (fun e => by cases e; exact hMR rfl))
     have Hgc3 := Lib.hid (grown_trans Hgc2.out hg)
     have HGc3 := Lib.hid (HGc2.out.grown hg (fun e => by cases e; exact HMc2.out.bk.ne_ HGc2.out (by decide) rfl))
     clear hM hg
     refine hK14.out _ _ trivial ?_
     try simp only [Act.put, qz0, qz1, qz2]
     refine H_takeD (k := 15) (v := .agg #[.int .i64 kd, .int .i64 of, .int .i64 fr, .int .i64 (fr + 50 + 100 * x3), .int .i64 x4]) (d := some 24) rfl rfl (by decide +kernel) (fun _ _ _ h => h) (Or.inl ⟨by rfl, fun W hW => by go_simp⟩) trivial ?_
     try simp only [Act.put, qz0, qz1, qz2]
     refine H_one (i := 16) (by decide +kernel) (H_step rfl rfl (fun K hK16 => ?_))
     have hK16 := Lib.hid hK16
     have z0 : Wc3.cell? ⟨R, 0, none⟩ = some (.int .i64 0) := HRc3.out.cell 0
     have z1 : Wc3.cell? ⟨R, 1, none⟩ = some (.int .i64 0) := HRc3.out.cell 1
     have z2 : Wc3.cell? ⟨R, 2, none⟩ = some (.int .i64 0) := HRc3.out.cell 2
     have z3 : Wc3.cell? ⟨R, 3, none⟩ = some (.int .i64 0) := HRc3.out.cell 3
     have z4 : Wc3.cell? ⟨R, 4, none⟩ = some (.int .i64 0) := HRc3.out.cell 4
     have q0 := HRc3.out.frozen 0
     have q1 := HRc3.out.frozen 1
     have q2 := HRc3.out.frozen 2
     have q3 := HRc3.out.frozen 3
     have q4 := HRc3.out.frozen 4
     go_simp
     refine hK16.out _ _ trivial ?_
     try simp only [Act.put, qz0, qz1, qz2]
     refine H_end (by decide +kernel) (NoPanic.normal ?_)
     try simp only [Act.put, qz0, qz1, qz2]
     have HRs0 := HRc3.out
     have HMs0 := HMc3.out
     have Hgs0 := Hgc3.out
     have HRs1 := HRs0.set_ 0 (.int .i64 kd)
     have HMs1 := HMs0.grown (grown_set _ R 0 (.int .i64 kd)) HRs0 (by decide) hRb
     have HRs2 := HRs1.set_ 1 (.int .i64 of)
     have HMs2 := HMs1.grown (grown_set _ R 1 (.int .i64 of)) HRs1 (by decide) hRb
     have HRs3 := HRs2.set_ 2 (.int .i64 fr)
     have HMs3 := HMs2.grown (grown_set _ R 2 (.int .i64 fr)) HRs2 (by decide) hRb
     have HRs4 := HRs3.set_ 3 (.int .i64 (fr + 50 + 100 * x3))
     have HMs4 := HMs3.grown (grown_set _ R 3 (.int .i64 (fr + 50 + 100 * x3))) HRs3 (by decide) hRb
     have HRs5 := HRs4.set_ 4 (.int .i64 x4)
     have HMs5 := HMs4.grown (grown_set _ R 4 (.int .i64 x4)) HRs4 (by decide) hRb
     have HRz := Lib.hid (show Bk _ R 41 #[.int .i64 kd, .int .i64 of, .int .i64 fr, .int .i64 (fr + 50 + 100 * x3), .int .i64 x4] from HRs5)
     have HMz := Lib.hid HMs5
     have Hgz := Lib.hid (grown_new Hgs0 hRn (.int .i64 kd) (.int .i64 of) (.int .i64 fr) (.int .i64 (fr + 50 + 100 * x3)) (.int .i64 x4))
     clear HRs0 HMs0 HRs1 HMs1 HRs2 HMs2 HRs3 HMs3 HRs4 HMs4 HRs5 HMs5 Hgs0
     go_wp2_with fail
     have r0 := HRz.out.cell 0
     have r1 := HRz.out.cell 1
     have r2 := HRz.out.cell 2
     have r3 := HRz.out.cell 3
     have r4 := HRz.out.cell 4
     simp only [List.getElem?_toArray, List.getElem?_cons_zero, List.getElem?_cons_succ] at r0 r1 r2 r3 r4
     exact bodyPost_ret (v := .agg #[.int .i64 kd, .int .i64 of, .int .i64 fr, .int .i64 (fr + 50 + 100 * x3), .int .i64 x4]) (by simp [results, Tryz.results145, go_sem, r0, r1, r2, r3, r4]) rfl ⟨kd, fr, fr + 50 + 100 * x3, x4, rfl, by unfold clE; rw [if_pos (by dsimp only; omega)], HMz.out, Hgz.out⟩
    ·have hK13 := Lib.hid hK13
     go_simp
     go_at_call 142
     refine (next_any w0 Wc2 M A c l (at_ + 3) va vi 4 HMc2.out (by omega) (by decide) (by decide)).mono ?_
     rintro e Wc3 ⟨x4, rfl, hx4, hM, hg⟩
     have HMc3 := Lib.hid hM
     have HRc3 := Lib.hid (HRc2.out.grown hg (fun e => by cases e; exact hMR rfl))
     have Hgc3 := Lib.hid (grown_trans Hgc2.out hg)
     have HGc3 := Lib.hid (HGc2.out.grown hg (fun e => by cases e; exact HMc2.out.bk.ne_ HGc2.out (by decide) rfl))
     clear hM hg
     refine hK13.out _ _ trivial ?_
     try simp only [Act.put, qz0, qz1, qz2]
     refine H_one (i := 4) (by decide +kernel) (H_step rfl rfl (fun K hK14 => ?_))
     have hK14 := Lib.hid hK14
     have hcj : Wc3.cell? ⟨g, j, none⟩ = some (.int .i64 kd) := (HGc3.out.cell j).trans hgl
     go_simp
     refine hK14.out _ _ trivial ?_
     try simp only [Act.put, qz0, qz1, qz2]
     refine H_takeD (k := 15) (v := .agg #[.int .i64 kd, .int .i64 of, .int .i64 fr, .int .i64 (fr + 50 + 100 * x3), .int .i64 x4]) (d := some 24) rfl rfl (by decide +kernel) (fun _ _ _ h => h) (Or.inl ⟨by rfl, fun W hW => by go_simp⟩) trivial ?_
     try simp only [Act.put, qz0, qz1, qz2]
     refine H_one (i := 16) (by decide +kernel) (H_step rfl rfl (fun K hK16 => ?_))
     have hK16 := Lib.hid hK16
     have z0 : Wc3.cell? ⟨R, 0, none⟩ = some (.int .i64 0) := HRc3.out.cell 0
     have z1 : Wc3.cell? ⟨R, 1, none⟩ = some (.int .i64 0) := HRc3.out.cell 1
     have z2 : Wc3.cell? ⟨R, 2, none⟩ = some (.int .i64 0) := HRc3.out.cell 2
     have z3 : Wc3.cell? ⟨R, 3, none⟩ = some (.int .i64 0) := HRc3.out.cell 3
     have z4 : Wc3.cell? ⟨R, 4, none⟩ = some (.int .i64 0) := HRc3.out.cell 4
     have q0 := HRc3.out.frozen 0
     have q1 := HRc3.out.frozen 1
     have q2 := HRc3.out.frozen 2
     have q3 := HRc3.out.frozen 3
     have q4 := HRc3.out.frozen 4
     go_simp
     refine hK16.out _ _ trivial ?_
     try simp only [Act.put, qz0, qz1, qz2]
     refine H_end (by decide +kernel) (NoPanic.normal ?_)
     try simp only [Act.put, qz0, qz1, qz2]
     have HRs0 := HRc3.out
     have HMs0 := HMc3.out
     have Hgs0 := Hgc3.out
     have HRs1 := HRs0.set_ 0 (.int .i64 kd)
     have HMs1 := HMs0.grown (grown_set _ R 0 (.int .i64 kd)) HRs0 (by decide) hRb
     have HRs2 := HRs1.set_ 1 (.int .i64 of)
     have HMs2 := HMs1.grown (grown_set _ R 1 (.int .i64 of)) HRs1 (by decide) hRb
     have HRs3 := HRs2.set_ 2 (.int .i64 fr)
     have HMs3 := HMs2.grown (grown_set _ R 2 (.int .i64 fr)) HRs2 (by decide) hRb
     have HRs4 := HRs3.set_ 3 (.int .i64 (fr + 50 + 100 * x3))
     have HMs4 := HMs3.grown (grown_set _ R 3 (.int .i64 (fr + 50 + 100 * x3))) HRs3 (by decide) hRb
     have HRs5 := HRs4.set_ 4 (.int .i64 x4)
     have HMs5 := HMs4.grown (grown_set _ R 4 (.int .i64 x4)) HRs4 (by decide) hRb
     have HRz := Lib.hid (show Bk _ R 41 #[.int .i64 kd, .int .i64 of, .int .i64 fr, .int .i64 (fr + 50 + 100 * x3), .int .i64 x4] from HRs5)
     have HMz := Lib.hid HMs5
     have Hgz := Lib.hid (grown_new Hgs0 hRn (.int .i64 kd) (.int .i64 of) (.int .i64 fr) (.int .i64 (fr + 50 + 100 * x3)) (.int .i64 x4))
     clear HRs0 HMs0 HRs1 HMs1 HRs2 HMs2 HRs3 HMs3 HRs4 HMs4 HRs5 HMs5 Hgs0
     go_wp2_with fail
     have r0 := HRz.out.cell 0
     have r1 := HRz.out.cell 1
     have r2 := HRz.out.cell 2
     have r3 := HRz.out.cell 3
     have r4 := HRz.out.cell 4
     simp only [List.getElem?_toArray, List.getElem?_cons_zero, List.getElem?_cons_succ] at r0 r1 r2 r3 r4
     exact bodyPost_ret (v := .agg #[.int .i64 kd, .int .i64 of, .int .i64 fr, .int .i64 (fr + 50 + 100 * x3), .int .i64 x4]) (by simp [results, Tryz.results145, go_sem, r0, r1, r2, r3, r4]) rfl ⟨kd, fr, fr + 50 + 100 * x3, x4, rfl, by unfold clE; rw [if_pos (by dsimp only; omega)], HMz.out, Hgz.out⟩
  ·have hK8 := Lib.hid hK8
   go_simp
   go_at_call 142
   refine (next_any w0 Wc1 M A c l (at_ + 2) va vi 4 HMc1.out (by omega) (by decide) (by decide)).mono ?_
   rintro e Wc2 ⟨x3, rfl, hx3, hM, hg⟩
   have HMc2 := Lib.hid hM
   have HRc2 := Lib.hid (HRc1.out.grown hg (fun e => by cases e; exact hMR rfl))
   have Hgc2 := Lib.hid (grown_trans Hgc1.out hg)
   clear hM hg
   have hw3 : IntKind.i64.wrap (100 * x3) = 100 * x3 := IntWalk.i64_in _ ⟨by omega, by omega⟩
   have hw4 : IntKind.i64.wrap (fr + 50 + 100 * x3) = fr + 50 + 100 * x3 := IntWalk.i64_in _ ⟨by omega, by omega⟩
   refine hK8.out _ _ trivial ?_
   try simp only [Act.put, qz0, qz1, qz2]
   refine H_takeD (k := 11) (v := .int .i64 (100 * x3)) (d := some 20) rfl rfl (by decide +kernel) (fun _ _ _ h => h) (Or.inl ⟨by rfl, fun W hW => by go_simp⟩) trivial ?_
   try simp only [Act.put, qz0, qz1, qz2]
   refine H_takeD (k := 12) (v := .int .i64 (fr + 50 + 100 * x3)) (d := some 21) rfl rfl (by decide +kernel) (fun _ _ _ h => h) (Or.inl ⟨by rfl, fun W hW => by go_simp⟩) trivial ?_
   try simp only [Act.put, qz0, qz1, qz2]
   refine H_two (i := 0) (j := 14) (by decide +kernel) (H_step rfl rfl (fun K hK11 => ?_)) (H_step rfl rfl (fun K hK11 => ?_))
   ·have hK11 := Lib.hid hK11
    go_simp
    have HG_ := Lib.hid (Bk.new Wc2 3 #[.int .i64 0, .int .i64 0, .int .i64 0, .int .i64 1, .int .i64 2])
    have HM_ := Lib.hid (HMc2.out.keep ((Below.refl _ _).alloc (Nat.le_refl _) (.cells #[.int .i64 0, .int .i64 0, .int .i64 0, .int .i64 1, .int .i64 2] 3)))
    have HR_ := Lib.hid (HRc2.out.alloc (.cells #[.int .i64 0, .int .i64 0, .int .i64 0, .int .i64 1, .int .i64 2] 3))
    have Hg_ := Lib.hid (grown_trans Hgc2.out (grown_below ((Below.refl _ _).alloc (Nat.le_refl _) (.cells #[.int .i64 0, .int .i64 0, .int .i64 0, .int .i64 1, .int .i64 2] 3)) (some M)))
    refine hK11.out _ _ trivial ?_
    try simp only [Act.put, qz0, qz1, qz2]
    generalize Wc2.alloc (.cells #[.int .i64 0, .int .i64 0, .int .i64 0, .int .i64 1, .int .i64 2] 3) = Wb at *
    generalize Wc2.heap.size = g at *
    refine H_takeD (k := 3) (v := .pointer (some ⟨g, j, none⟩)) (d := some 12) rfl rfl (by decide +kernel) (fun _ _ _ h => h) (Or.inl ⟨by rfl, fun W hW => by go_simp⟩) trivial ?_
    try simp only [Act.put, qz0, qz1, qz2]
    refine H_two (i := 4) (j := 14) (by decide +kernel) (H_step rfl rfl (fun K hK13 => ?_)) (H_step rfl rfl (fun K hK13 => ?_))
    ·have hK13 := Lib.hid hK13
     have hcj : Wb.cell? ⟨g, j, none⟩ = some (.int .i64 kd) := (HG_.out.cell j).trans hgl
     go_simp
     refine hK13.out _ _ trivial ?_
     try simp only [Act.put, qz0, qz1, qz2]
     refine H_one (i := 14) (by decide +kernel) (H_step rfl rfl (fun K hK14 => ?_))
     have hK14 := Lib.hid hK14
     go_simp
     go_at_call 142
     refine (next_any w0 Wb M A c l (at_ + 3) va vi 4 HM_.out (by omega) (by decide) (by decide)).mono ?_
     rintro e Wc3 ⟨x4, rfl, hx4, hM, hg⟩
     have HMc3 := Lib.hid hM
     have HRc3 := Lib.hid (HR_.out.grown hg (fun e => by cases e; exact hMR rfl))
     have Hgc3 := Lib.hid (grown_trans Hg_.out hg)
     have HGc3 := Lib.hid (HG_.out.grown hg (fun e => by cases e; exact HM_.out.bk.ne_ HG_.out (by decide) rfl))
     clear hM hg
     refine hK14.out _ _ trivial ?_
     try simp only [Act.put, qz0, qz1, qz2]
     refine H_takeD (k := 15) (v := .agg #[.int .i64 kd, .int .i64 of, .int .i64 fr, .int .i64 (fr + 50 + 100 * x3), .int .i64 x4]) (d := some 24) rfl rfl (by decide +kernel) (fun _ _ _ h => h) (Or.inl ⟨by rfl, fun W hW => by go_simp⟩) trivial ?_
     try simp only [Act.put, qz0, qz1, qz2]
     refine H_one (i := 16) (by decide +kernel) (H_step rfl rfl (fun K hK16 => ?_))
     have hK16 := Lib.hid hK16
     have z0 : Wc3.cell? ⟨R, 0, none⟩ = some (.int .i64 0) := HRc3.out.cell 0
     have z1 : Wc3.cell? ⟨R, 1, none⟩ = some (.int .i64 0) := HRc3.out.cell 1
     have z2 : Wc3.cell? ⟨R, 2, none⟩ = some (.int .i64 0) := HRc3.out.cell 2
     have z3 : Wc3.cell? ⟨R, 3, none⟩ = some (.int .i64 0) := HRc3.out.cell 3
     have z4 : Wc3.cell? ⟨R, 4, none⟩ = some (.int .i64 0) := HRc3.out.cell 4
     have q0 := HRc3.out.frozen 0
     have q1 := HRc3.out.frozen 1
     have q2 := HRc3.out.frozen 2
     have q3 := HRc3.out.frozen 3
     have q4 := HRc3.out.frozen 4
     go_simp
     refine hK16.out _ _ trivial ?_
     try simp only [Act.put, qz0, qz1, qz2]
     refine H_end (by decide +kernel) (NoPanic.normal ?_)
     try simp only [Act.put, qz0, qz1, qz2]
     have HRs0 := HRc3.out
     have HMs0 := HMc3.out
     have Hgs0 := Hgc3.out
     have HRs1 := HRs0.set_ 0 (.int .i64 kd)
     have HMs1 := HMs0.grown (grown_set _ R 0 (.int .i64 kd)) HRs0 (by decide) hRb
     have HRs2 := HRs1.set_ 1 (.int .i64 of)
     have HMs2 := HMs1.grown (grown_set _ R 1 (.int .i64 of)) HRs1 (by decide) hRb
     have HRs3 := HRs2.set_ 2 (.int .i64 fr)
     have HMs3 := HMs2.grown (grown_set _ R 2 (.int .i64 fr)) HRs2 (by decide) hRb
     have HRs4 := HRs3.set_ 3 (.int .i64 (fr + 50 + 100 * x3))
     have HMs4 := HMs3.grown (grown_set _ R 3 (.int .i64 (fr + 50 + 100 * x3))) HRs3 (by decide) hRb
     have HRs5 := HRs4.set_ 4 (.int .i64 x4)
     have HMs5 := HMs4.grown (grown_set _ R 4 (.int .i64 x4)) HRs4 (by decide) hRb
     have HRz := Lib.hid (show Bk _ R 41 #[.int .i64 kd, .int .i64 of, .int .i64 fr, .int .i64 (fr + 50 + 100 * x3), .int .i64 x4] from HRs5)
     have HMz := Lib.hid HMs5
     have Hgz := Lib.hid (grown_new Hgs0 hRn (.int .i64 kd) (.int .i64 of) (.int .i64 fr) (.int .i64 (fr + 50 + 100 * x3)) (.int .i64 x4))
     clear HRs0 HMs0 HRs1 HMs1 HRs2 HMs2 HRs3 HMs3 HRs4 HMs4 HRs5 HMs5 Hgs0
     go_wp2_with fail
     have r0 := HRz.out.cell 0
     have r1 := HRz.out.cell 1
     have r2 := HRz.out.cell 2
     have r3 := HRz.out.cell 3
     have r4 := HRz.out.cell 4
     simp only [List.getElem?_toArray, List.getElem?_cons_zero, List.getElem?_cons_succ] at r0 r1 r2 r3 r4
     exact bodyPost_ret (v := .agg #[.int .i64 kd, .int .i64 of, .int .i64 fr, .int .i64 (fr + 50 + 100 * x3), .int .i64 x4]) (by simp [results, Tryz.results145, go_sem, r0, r1, r2, r3, r4]) rfl ⟨kd, fr, fr + 50 + 100 * x3, x4, rfl, by unfold clE; rw [if_pos (by dsimp only; omega)], HMz.out, Hgz.out⟩
    ·have hK13 := Lib.hid hK13
     go_simp
     go_at_call 142
     refine (next_any w0 Wb M A c l (at_ + 3) va vi 4 HM_.out (by omega) (by decide) (by decide)).mono ?_
     rintro e Wc3 ⟨x4, rfl, hx4, hM, hg⟩
     have HMc3 := Lib.hid hM
     have HRc3 := Lib.hid (HR_.out.grown hg (fun e => by cases e; exact hMR rfl))
     have Hgc3 := Lib.hid (grown_trans Hg_.out hg)
     have HGc3 := Lib.hid (HG_.out.grown hg (fun e => by cases e; exact HM_.out.bk.ne_ HG_.out (by decide) rfl))
     clear hM hg
     refine hK13.out _ _ trivial ?_
     try simp only [Act.put, qz0, qz1, qz2]
     refine H_one (i := 4) (by decide +kernel) (H_step rfl rfl (fun K hK14 => ?_))
     have hK14 := Lib.hid hK14
     have hcj : Wc3.cell? ⟨g, j, none⟩ = some (.int .i64 kd) := (HGc3.out.cell j).trans hgl
     go_simp
     refine hK14.out _ _ trivial ?_
     try simp only [Act.put, qz0, qz1, qz2]
     refine H_takeD (k := 15) (v := .agg #[.int .i64 kd, .int .i64 of, .int .i64 fr, .int .i64 (fr + 50 + 100 * x3), .int .i64 x4]) (d := some 24) rfl rfl (by decide +kernel) (fun _ _ _ h => h) (Or.inl ⟨by rfl, fun W hW => by go_simp⟩) trivial ?_
     try simp only [Act.put, qz0, qz1, qz2]
     refine H_one (i := 16) (by decide +kernel) (H_step rfl rfl (fun K hK16 => ?_))
     have hK16 := Lib.hid hK16
     have z0 : Wc3.cell? ⟨R, 0, none⟩ = some (.int .i64 0) := HRc3.out.cell 0
     have z1 : Wc3.cell? ⟨R, 1, none⟩ = some (.int .i64 0) := HRc3.out.cell 1
     have z2 : Wc3.cell? ⟨R, 2, none⟩ = some (.int .i64 0) := HRc3.out.cell 2
     have z3 : Wc3.cell? ⟨R, 3, none⟩ = some (.int .i64 0) := HRc3.out.cell 3
     have z4 : Wc3.cell? ⟨R, 4, none⟩ = some (.int .i64 0) := HRc3.out.cell 4
     have q0 := HRc3.out.frozen 0
     have q1 := HRc3.out.frozen 1
     have q2 := HRc3.out.frozen 2
     have q3 := HRc3.out.frozen 3
     have q4 := HRc3.out.frozen 4
     go_simp
     refine hK16.out _ _ trivial ?_
     try simp only [Act.put, qz0, qz1, qz2]
     refine H_end (by decide +kernel) (NoPanic.normal ?_)
     try simp only [Act.put, qz0, qz1, qz2]
     have HRs0 := HRc3.out
     have HMs0 := HMc3.out
     have Hgs0 := Hgc3.out
     have HRs1 := HRs0.set_ 0 (.int .i64 kd)
     have HMs1 := HMs0.grown (grown_set _ R 0 (.int .i64 kd)) HRs0 (by decide) hRb
     have HRs2 := HRs1.set_ 1 (.int .i64 of)
     have HMs2 := HMs1.grown (grown_set _ R 1 (.int .i64 of)) HRs1 (by decide) hRb
     have HRs3 := HRs2.set_ 2 (.int .i64 fr)
     have HMs3 := HMs2.grown (grown_set _ R 2 (.int .i64 fr)) HRs2 (by decide) hRb
     have HRs4 := HRs3.set_ 3 (.int .i64 (fr + 50 + 100 * x3))
     have HMs4 := HMs3.grown (grown_set _ R 3 (.int .i64 (fr + 50 + 100 * x3))) HRs3 (by decide) hRb
     have HRs5 := HRs4.set_ 4 (.int .i64 x4)
     have HMs5 := HMs4.grown (grown_set _ R 4 (.int .i64 x4)) HRs4 (by decide) hRb
     have HRz := Lib.hid (show Bk _ R 41 #[.int .i64 kd, .int .i64 of, .int .i64 fr, .int .i64 (fr + 50 + 100 * x3), .int .i64 x4] from HRs5)
     have HMz := Lib.hid HMs5
     have Hgz := Lib.hid (grown_new Hgs0 hRn (.int .i64 kd) (.int .i64 of) (.int .i64 fr) (.int .i64 (fr + 50 + 100 * x3)) (.int .i64 x4))
     clear HRs0 HMs0 HRs1 HMs1 HRs2 HMs2 HRs3 HMs3 HRs4 HMs4 HRs5 HMs5 Hgs0
     go_wp2_with fail
     have r0 := HRz.out.cell 0
     have r1 := HRz.out.cell 1
     have r2 := HRz.out.cell 2
     have r3 := HRz.out.cell 3
     have r4 := HRz.out.cell 4
     simp only [List.getElem?_toArray, List.getElem?_cons_zero, List.getElem?_cons_succ] at r0 r1 r2 r3 r4
     exact bodyPost_ret (v := .agg #[.int .i64 kd, .int .i64 of, .int .i64 fr, .int .i64 (fr + 50 + 100 * x3), .int .i64 x4]) (by simp [results, Tryz.results145, go_sem, r0, r1, r2, r3, r4]) rfl ⟨kd, fr, fr + 50 + 100 * x3, x4, rfl, by unfold clE; rw [if_pos (by dsimp only; omega)], HMz.out, Hgz.out⟩
   ·have hK11 := Lib.hid hK11
    go_simp
    go_at_call 142
    refine (next_any w0 Wc2 M A c l (at_ + 3) va vi 4 HMc2.out (by omega) (by decide) (by decide)).mono ?_
    rintro e Wc3 ⟨x4, rfl, hx4, hM, hg⟩
    have HMc3 := Lib.hid hM
    have HRc3 := Lib.hid (HRc2.out.grown hg (fun e => by cases e; exact hMR rfl))
    have Hgc3 := Lib.hid (grown_trans Hgc2.out hg)
    clear hM hg
    refine hK11.out _ _ trivial ?_
    try simp only [Act.put, qz0, qz1, qz2]
    refine H_one (i := 0) (by decide +kernel) (H_step rfl rfl (fun K hK12 => ?_))
    have hK12 := Lib.hid hK12
    go_simp
    have HG_ := Lib.hid (Bk.new Wc3 3 #[.int .i64 0, .int .i64 0, .int .i64 0, .int .i64 1, .int .i64 2])
    have HM_ := Lib.hid (HMc3.out.keep ((Below.refl _ _).alloc (Nat.le_refl _) (.cells #[.int .i64 0, .int .i64 0, .int .i64 0, .int .i64 1, .int .i64 2] 3)))
    have HR_ := Lib.hid (HRc3.out.alloc (.cells #[.int .i64 0, .int .i64 0, .int .i64 0, .int .i64 1, .int .i64 2] 3))
    have Hg_ := Lib.hid (grown_trans Hgc3.out (grown_below ((Below.refl _ _).alloc (Nat.le_refl _) (.cells #[.int .i64 0, .int .i64 0, .int .i64 0, .int .i64 1, .int .i64 2] 3)) (some M)))
    refine hK12.out _ _ trivial ?_
    try simp only [Act.put, qz0, qz1, qz2]
    generalize Wc3.alloc (.cells #[.int .i64 0, .int .i64 0, .int .i64 0, .int .i64 1, .int .i64 2] 3) = Wb at *
    generalize Wc3.heap.size = g at *
    refine H_takeD (k := 3) (v := .pointer (some ⟨g, j, none⟩)) (d := some 12) rfl rfl (by decide +kernel) (fun _ _ _ h => h) (Or.inl ⟨by rfl, fun W hW => by go_simp⟩) trivial ?_
    try simp only [Act.put, qz0, qz1, qz2]
    refine H_one (i := 4) (by decide +kernel) (H_step rfl rfl (fun K hK14 => ?_))
    have hK14 := Lib.hid hK14
    have hcj : Wb.cell? ⟨g, j, none⟩ = some (.int .i64 kd) := (HG_.out.cell j).trans hgl
    go_simp
    refine hK14.out _ _ trivial ?_
    try simp only [Act.put, qz0, qz1, qz2]
    refine H_takeD (k := 15) (v := .agg #[.int .i64 kd, .int .i64 of, .int .i64 fr, .int .i64 (fr + 50 + 100 * x3), .int .i64 x4]) (d := some 24) rfl rfl (by decide +kernel) (fun _ _ _ h => h) (Or.inl ⟨by rfl, fun W hW => by go_simp⟩) trivial ?_
    try simp only [Act.put, qz0, qz1, qz2]
    refine H_one (i := 16) (by decide +kernel) (H_step rfl rfl (fun K hK16 => ?_))
    have hK16 := Lib.hid hK16
    have z0 : Wb.cell? ⟨R, 0, none⟩ = some (.int .i64 0) := HR_.out.cell 0
    have z1 : Wb.cell? ⟨R, 1, none⟩ = some (.int .i64 0) := HR_.out.cell 1
    have z2 : Wb.cell? ⟨R, 2, none⟩ = some (.int .i64 0) := HR_.out.cell 2
    have z3 : Wb.cell? ⟨R, 3, none⟩ = some (.int .i64 0) := HR_.out.cell 3
    have z4 : Wb.cell? ⟨R, 4, none⟩ = some (.int .i64 0) := HR_.out.cell 4
    have q0 := HR_.out.frozen 0
    have q1 := HR_.out.frozen 1
    have q2 := HR_.out.frozen 2
    have q3 := HR_.out.frozen 3
    have q4 := HR_.out.frozen 4
    go_simp
    refine hK16.out _ _ trivial ?_
    try simp only [Act.put, qz0, qz1, qz2]
    refine H_end (by decide +kernel) (NoPanic.normal ?_)
    try simp only [Act.put, qz0, qz1, qz2]
    have HRs0 := HR_.out
    have HMs0 := HM_.out
    have Hgs0 := Hg_.out
    have HRs1 := HRs0.set_ 0 (.int .i64 kd)
    have HMs1 := HMs0.grown (grown_set _ R 0 (.int .i64 kd)) HRs0 (by decide) hRb
    have HRs2 := HRs1.set_ 1 (.int .i64 of)
    have HMs2 := HMs1.grown (grown_set _ R 1 (.int .i64 of)) HRs1 (by decide) hRb
    have HRs3 := HRs2.set_ 2 (.int .i64 fr)
    have HMs3 := HMs2.grown (grown_set _ R 2 (.int .i64 fr)) HRs2 (by decide) hRb
    have HRs4 := HRs3.set_ 3 (.int .i64 (fr + 50 + 100 * x3))
    have HMs4 := HMs3.grown (grown_set _ R 3 (.int .i64 (fr + 50 + 100 * x3))) HRs3 (by decide) hRb
    have HRs5 := HRs4.set_ 4 (.int .i64 x4)
    have HMs5 := HMs4.grown (grown_set _ R 4 (.int .i64 x4)) HRs4 (by decide) hRb
    have HRz := Lib.hid (show Bk _ R 41 #[.int .i64 kd, .int .i64 of, .int .i64 fr, .int .i64 (fr + 50 + 100 * x3), .int .i64 x4] from HRs5)
    have HMz := Lib.hid HMs5
    have Hgz := Lib.hid (grown_new Hgs0 hRn (.int .i64 kd) (.int .i64 of) (.int .i64 fr) (.int .i64 (fr + 50 + 100 * x3)) (.int .i64 x4))
    clear HRs0 HMs0 HRs1 HMs1 HRs2 HMs2 HRs3 HMs3 HRs4 HMs4 HRs5 HMs5 Hgs0
    go_wp2_with fail
    have r0 := HRz.out.cell 0
    have r1 := HRz.out.cell 1
    have r2 := HRz.out.cell 2
    have r3 := HRz.out.cell 3
    have r4 := HRz.out.cell 4
    simp only [List.getElem?_toArray, List.getElem?_cons_zero, List.getElem?_cons_succ] at r0 r1 r2 r3 r4
    exact bodyPost_ret (v := .agg #[.int .i64 kd, .int .i64 of, .int .i64 fr, .int .i64 (fr + 50 + 100 * x3), .int .i64 x4]) (by simp [results, Tryz.results145, go_sem, r0, r1, r2, r3, r4]) rfl ⟨kd, fr, fr + 50 + 100 * x3, x4, rfl, by unfold clE; rw [if_pos (by dsimp only; omega)], HMz.out, Hgz.out⟩
end Go.Proofs.YtnapnkmehnabfaaGreat
