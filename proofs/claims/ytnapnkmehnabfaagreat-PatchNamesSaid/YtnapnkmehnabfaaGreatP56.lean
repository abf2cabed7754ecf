import Derived.Test.YtnapnkmehnabfaaGreatP52
import Derived.Test.YtnapnkmehnabfaaGreatQD
import Derived.Great.BuildSlice
namespace Go.Proofs.YtnapnkmehnabfaaGreat
open Go.RowKit Go.Maps

theorem run_bs_place (x y : Int) (nm : ByteArray) (o f t : Int) (w : World) : (Instr.buildSlice 29 1 #[(0, .agg #[.int .i64 x, .int .i64 y, .string nm, .int .i64 o, .int .i64 f, .int .i64 t])]).run Tryz.prog w = .ok (.slice (some ⟨w.heap.size, 0, none⟩) 1 1) (w.alloc (.cells #[.int .i64 x, .int .i64 y, .string nm, .int .i64 o, .int .i64 f, .int .i64 t] 114)) := by
 obtain ⟨i, hi, hz, hs, _⟩ := info_parts (show ((Tryz.prog).info? 114).map (fun i => (i.zero, i.size, i.bytes)) = some (some (.agg #[.int .i64 0, .int .i64 0, .string ⟨#[]⟩, .int .i64 0, .int .i64 0, .int .i64 0]), 6, 56) by kernel_rfl)
 exact run_buildSlice w _ _ 1 _ _ i _ Tryz.underlying29 hi hz (by rw [hs]; decide) (by rw [hs]; decide) (by rw [hs]; kernel_rfl)
theorem run_bs_mark (p i k o f t d : Int) (w : World) : (Instr.buildSlice 30 1 #[(0, .agg #[.int .u64 p, .int .i64 i, .int .i64 k, .int .i64 o, .int .i64 f, .int .i64 t, .int .i64 d])]).run Tryz.prog w = .ok (.slice (some ⟨w.heap.size, 0, none⟩) 1 1) (w.alloc (.cells #[.int .u64 p, .int .i64 i, .int .i64 k, .int .i64 o, .int .i64 f, .int .i64 t, .int .i64 d] 88)) := by
 obtain ⟨x, hi, hz, hs, _⟩ := info_parts (show ((Tryz.prog).info? 88).map (fun i => (i.zero, i.size, i.bytes)) = some (some (.agg #[.int .u64 0, .int .i64 0, .int .i64 0, .int .i64 0, .int .i64 0, .int .i64 0, .int .i64 0]), 7, 56) by kernel_rfl)
 exact run_buildSlice w _ _ 1 _ _ x _ Tryz.underlying30 hi hz (by rw [hs]; decide) (by rw [hs]; decide) (by rw [hs]; kernel_rfl)
theorem wp_bs_row {P : Program} {op : Oper} {a : Act} {w w' : World} {K : Act → World → Prop} {Q : Exit → Act → World → Prop} (ty : TypeId) (n : Nat) (ps : Array (Nat × Operand)) (ho : op.op = .buildSlice ty n ps) (vs : Array (Nat × Value)) (hv : (ps.map fun (i, x) => (i, a.eval x)) = vs) (v : Value) (hb : (Instr.buildSlice ty n vs).run P w = .ok v w')
  (h : K (a.put op.dst v) w') : op.wp P a w K Q := by
 unfold Oper.wp execOp
 subst hv
 simp only [ho]
 simp [hb]
 exact h
set_option linter.unusedSimpArgs false in
set_option maxHeartbeats 32000000 in
set_option maxRecDepth 100000 in
theorem mpatch_any (w0 w : World) (M : Nat) (A : Option Addr) (c : Nat) (l : List Int) (at_ : Nat) (X I : Option Addr) (cX cI n : Nat) (ps : List (Pa × Pw)) (ids : List Int) (h : MK w0 w M A c l at_ (.slice X n cX) (.slice I n cI)) (ha : at_ ≤ 10000) (hn : n ≤ 8) (hp : ps.length = n) (hi : ids.length = n) (hiu : ∀ x ∈ ids, u64 x) (hX : SB w 34 X (ps.flatMap paV)) (hI : SB w 53 I (ids.map (Value.int .u64))) (hA : AVs w ps) :
  Calls Tryz.prog 50 #[.pointer (some ⟨M, 0, none⟩)] w fun e w' => ∃ (p : Pa) (a : Pw) (at2 : Nat), e = .returned (.agg (paC p a)) ∧ PO p ∧ p.num = n ∧ PB w' p a ∧ NW w w' a ∧ CP p a ∧ at2 ≤ at_ + 300 ∧ MK w0 w' M A c l at2 (.slice X n cX) (.slice I n cI) ∧ w.grownBy w' (some M) := by
 have hw0 := h.below.size
 have HW := Lib.hid (fun W (hg : w.grownBy W (some M)) => And.intro (hX.grown hg (fun r e => by cases e; exact ⟨_, _, h.bk, by decide⟩)) (And.intro (hI.grown hg (fun r e => by cases e; exact ⟨_, _, h.bk, by decide⟩)) (hA.grown hg (fun r e => by cases e; exact ⟨_, _, h.bk, by decide⟩))))
 have Hp := Lib.hid hp
 have Hi := Lib.hid hi
 have Hu := Lib.hid hiu
 have hb1 := (Below.refl w.heap.size w).alloc (Nat.le_refl _) (.cells #[.int .i64 0, .int .i64 0, .slice none 0 0, .slice none 0 0, .slice none 0 0, .slice none 0 0, .slice none 0 0, .slice none 0 0, .slice none 0 0] 34)
 have HM := Lib.hid (h.keep hb1)
 have HZ := Lib.hid (Bk.new w 34 #[.int .i64 0, .int .i64 0, .slice none 0 0, .slice none 0 0, .slice none 0 0, .slice none 0 0, .slice none 0 0, .slice none 0 0, .slice none 0 0])
 have HG := Lib.hid (grown_below hb1 (some M))
 have hzs : w.heap.size < (w.alloc (.cells #[.int .i64 0, .int .i64 0, .slice none 0 0, .slice none 0 0, .slice none 0 0, .slice none 0 0, .slice none 0 0, .slice none 0 0, .slice none 0 0] 34)).heap.size := by simp
 clear h hb1 hX hI hA hp hi hiu
 go_enter Tryz.func50, Tryz.ntmps50
 go_upto_region 1 with fail
 generalize w.alloc (.cells #[.int .i64 0, .int .i64 0, .slice none 0 0, .slice none 0 0, .slice none 0 0, .slice none 0 0, .slice none 0 0, .slice none 0 0, .slice none 0 0] 34) = W0 at *
 go_cut [3] from 3 to 3 (fun v wx => ∃ S o at2, v = .pointer (some ⟨S, 0, none⟩) ∧ at2 ≤ at_ + 1 ∧ (0 ≤ o ∧ o ≤ 2) ∧ Hid (PX w0 w wx M S A c l at2 (.slice X n cX) (.slice I n cI) ⟨o, n, [], [], [], [], [], [], []⟩ pwZ))
 case first =>
  have HMd := Lib.hid (HM.out.keep (Below.refl _ _).drew)
  have HZd := Lib.hid (HZ.out.below (Below.refl _ _).drew HZ.out.lt)
  have HGd := Lib.hid (grown_trans HG.out (grown_below (Below.refl _ _).drew (some M)))
  have hzd : w.heap.size < W0.drew.heap.size := hzs
  refine wp_region_noPanic ?_
  refine region_H (S := fun W => W.cell? ⟨M, 2, none⟩ = some (.slice X n cX)) (by kernel_rfl) ?_
  change wpH _ _ _ _ 10 _ _ W0.drew
  generalize W0.drew = X0 at *
  refine H_takeD (k := 0) (v := .pointer (some ⟨M, 0, none⟩)) (d := some 14) rfl rfl (by decide +kernel) (fun _ _ _ h => h) (Or.inl ⟨by rfl, fun W hW => by go_simp⟩) (HMd.out.bk.cell 2) ?_
  try simp only [Act.put, qz0, qz1, qz2]
  refine H_takeD (k := 2) (v := .pointer (some ⟨M, 0, none⟩)) (d := some 16) rfl rfl (by decide +kernel) (fun _ _ _ h => h) (Or.inl ⟨by rfl, fun W hW => by go_simp⟩) (HMd.out.bk.cell 2) ?_
  try simp only [Act.put, qz0, qz1, qz2]
  refine H_takeD (k := 3) (v := .pointer (some ⟨M, 0, none⟩)) (d := some 17) rfl rfl (by decide +kernel) (fun _ _ _ h => h) (Or.inl ⟨by rfl, fun W hW => by go_simp⟩) (HMd.out.bk.cell 2) ?_
  try simp only [Act.put, qz0, qz1, qz2]
  refine H_takeD (k := 4) (v := .pointer (some ⟨M, 2, none⟩)) (d := some 18) rfl rfl (by decide +kernel) (fun _ _ _ h => h) (Or.inl ⟨by rfl, fun W hW => by go_simp⟩) (HMd.out.bk.cell 2) ?_
  try simp only [Act.put, qz0, qz1, qz2]
  refine H_takeD (k := 5) (v := .slice X n cX) (d := some 19) rfl rfl (by decide +kernel) (fun _ _ _ h => h) (Or.inl ⟨by rfl, fun W hW => by go_simp⟩) (HMd.out.bk.cell 2) ?_
  try simp only [Act.put, qz0, qz1, qz2]
  refine H_takeD (k := 6) (v := .int .i64 n) (d := some 20) rfl rfl (by decide +kernel) (fun _ _ _ h => h) (Or.inl ⟨by rfl, fun W hW => by go_simp⟩) (HMd.out.bk.cell 2) ?_
  try simp only [Act.put, qz0, qz1, qz2]
  refine H_two (i := 1) (j := 8) (by decide +kernel) (H_step rfl rfl (fun K hK6 => ?_)) (H_step rfl rfl (fun K hK6 => ?_))
  ·have hK6 := Lib.hid hK6
   go_simp
   go_at_call 142
   refine (next_any w0 _ M A c l at_ _ _ 3 HMd.out (by omega) (by decide) (by decide)).mono ?_
   rintro e wa ⟨x1, rfl, hx1, hm1, hg1⟩
   have HMa := Lib.hid hm1
   have HZa := Lib.hid (HZd.out.grown hg1 (fun e => HMd.out.bk.ne_ HZd.out (by decide) (Option.some.inj e).symm))
   have HGa := Lib.hid (grown_trans HGd.out hg1)
   have hza : w.heap.size < wa.heap.size := Nat.lt_of_lt_of_le hzd hg1.size
   clear hm1 hg1 HMd HZd HGd
   refine hK6.out _ _ (HMa.out.bk.cell 2) ?_
   try simp only [Act.put, qz0, qz1, qz2]
   refine H_takeD (k := 7) (v := .agg #[.int .i64 x1, .int .i64 n, .slice none 0 0, .slice none 0 0, .slice none 0 0, .slice none 0 0, .slice none 0 0, .slice none 0 0, .slice none 0 0]) (d := some 21) rfl rfl (by decide +kernel) (fun _ _ _ h => h) (Or.inl ⟨by rfl, fun W hW => by go_simp⟩) (HMa.out.bk.cell 2) ?_
   try simp only [Act.put, qz0, qz1, qz2]
   refine H_one (i := 8) (by decide +kernel) (H_step rfl rfl (fun K hK8 => ?_))
   have hK8 := Lib.hid hK8
   go_simp
   have HP1 := Lib.hid (show PX w0 w (wa.alloc (.cells #[.int .i64 0, .int .i64 0, .slice none 0 0, .slice none 0 0, .slice none 0 0, .slice none 0 0, .slice none 0 0, .slice none 0 0, .slice none 0 0] 34)) M wa.heap.size A c l (at_ + 1) (.slice X n cX) (.slice I n cI) paZ pwZ from ⟨HMa.out.keep ((Below.refl _ _).alloc (Nat.le_refl _) _), Bk.new _ _ _, HZa.out.alloc _, hza, PB.zero _, po_zero, grown_trans HGa.out (grown_below ((Below.refl _ _).alloc (Nat.le_refl _) _) _), (fun b o e => by cases e), ⟨Nat.zero_le _, Nat.zero_le _, Nat.zero_le _⟩⟩)
   generalize wa.alloc (.cells #[.int .i64 0, .int .i64 0, .slice none 0 0, .slice none 0 0, .slice none 0 0, .slice none 0 0, .slice none 0 0, .slice none 0 0, .slice none 0 0] 34) = Wb at *
   generalize wa.heap.size = g at *
   refine hK8.out _ _ (HP1.out.mm.bk.cell 2) ?_
   try simp only [Act.put, qz0, qz1, qz2]
   refine H_one (i := 9) (by decide +kernel) (H_step rfl rfl (fun K hK9 => ?_))
   have hK9 := Lib.hid hK9
   refine wp_store_row 34 (.tmp 3) (.tmp 21) rfl g 34 (paC paZ pwZ) (paC ⟨x1, n, [], [], [], [], [], [], []⟩ pwZ) (by rfl) (by rfl) HP1.out.s info_pa rfl (paC_one _ _) ?_
   have HQ := Lib.hid (HP1.out.put9 (p' := ⟨x1, n, [], [], [], [], [], [], []⟩) (a' := pwZ) hw0 (pb_new _ _ _) (po_new (by omega) (by omega)) (fun b o e => by cases e) ⟨Nat.zero_le _, Nat.zero_le _, Nat.zero_le _⟩)
   clear HP1
   generalize World.setRow _ _ _ = W9 at HQ ⊢
   refine hK9.out _ _ (HQ.out.mm.bk.cell 2) ?_
   try simp only [Act.put, qz0, qz1, qz2]
   refine H_end (by decide +kernel) (NoPanic.normal ?_)
   try simp only [Act.put, qz0, qz1, qz2]
   go_wp2_with fail
   go_meet
   exact ⟨g, x1, at_ + 1, rfl, by omega, by omega, HQ⟩
  ·have hK6 := Lib.hid hK6
   go_simp
   have HPb := Lib.hid (show PX w0 w (X0.alloc (.cells #[.int .i64 0, .int .i64 0, .slice none 0 0, .slice none 0 0, .slice none 0 0, .slice none 0 0, .slice none 0 0, .slice none 0 0, .slice none 0 0] 34)) M X0.heap.size A c l at_ (.slice X n cX) (.slice I n cI) paZ pwZ from ⟨HMd.out.keep ((Below.refl _ _).alloc (Nat.le_refl _) _), Bk.new _ _ _, HZd.out.alloc _, hzd, PB.zero _, po_zero, grown_trans HGd.out (grown_below ((Below.refl _ _).alloc (Nat.le_refl _) _) _), (fun b o e => by cases e), ⟨Nat.zero_le _, Nat.zero_le _, Nat.zero_le _⟩⟩)
   have HMb := Lib.hid HPb.out.mm
   generalize X0.alloc (.cells #[.int .i64 0, .int .i64 0, .slice none 0 0, .slice none 0 0, .slice none 0 0, .slice none 0 0, .slice none 0 0, .slice none 0 0, .slice none 0 0] 34) = Wb at *
   generalize X0.heap.size = g at *
   refine hK6.out _ _ (HPb.out.mm.bk.cell 2) ?_
   try simp only [Act.put, qz0, qz1, qz2]
   refine H_one (i := 1) (by decide +kernel) (H_step rfl rfl (fun K hK7 => ?_))
   have hK7 := Lib.hid hK7
   go_simp
   go_at_call 142
   refine (next_any w0 _ M A c l at_ _ _ 3 HMb.out (by omega) (by decide) (by decide)).mono ?_
   rintro e wa ⟨x1, rfl, hx1, hm1, hg1⟩
   have HP1 := Lib.hid (HPb.out.next hm1 hg1)
   clear hg1 HMb HPb
   refine hK7.out _ _ (HP1.out.mm.bk.cell 2) ?_
   try simp only [Act.put, qz0, qz1, qz2]
   refine H_takeD (k := 7) (v := .agg #[.int .i64 x1, .int .i64 n, .slice none 0 0, .slice none 0 0, .slice none 0 0, .slice none 0 0, .slice none 0 0, .slice none 0 0, .slice none 0 0]) (d := some 21) rfl rfl (by decide +kernel) (fun _ _ _ h => h) (Or.inl ⟨by rfl, fun W hW => by go_simp⟩) (HP1.out.mm.bk.cell 2) ?_
   try simp only [Act.put, qz0, qz1, qz2]
   refine H_one (i := 9) (by decide +kernel) (H_step rfl rfl (fun K hK9 => ?_))
   have hK9 := Lib.hid hK9
   refine wp_store_row 34 (.tmp 3) (.tmp 21) rfl g 34 (paC paZ pwZ) (paC ⟨x1, n, [], [], [], [], [], [], []⟩ pwZ) (by rfl) (by rfl) HP1.out.s info_pa rfl (paC_one _ _) ?_
   have HQ := Lib.hid (HP1.out.put9 (p' := ⟨x1, n, [], [], [], [], [], [], []⟩) (a' := pwZ) hw0 (pb_new _ _ _) (po_new (by omega) (by omega)) (fun b o e => by cases e) ⟨Nat.zero_le _, Nat.zero_le _, Nat.zero_le _⟩)
   clear HP1
   generalize World.setRow _ _ _ = W9 at HQ ⊢
   refine hK9.out _ _ (HQ.out.mm.bk.cell 2) ?_
   try simp only [Act.put, qz0, qz1, qz2]
   refine H_end (by decide +kernel) (NoPanic.normal ?_)
   try simp only [Act.put, qz0, qz1, qz2]
   go_wp2_with fail
   go_meet
   exact ⟨g, x1, at_ + 1, rfl, by omega, by omega, HQ⟩
 case rest =>
  clear HM HZ HG hzs
  obtain ⟨S, o, at1, rfl, hat1, ho, HP⟩ := hcut
  go_wp2_with fail
  refine (next_any w0 _ M A c l at1 _ _ 12 HP.out.mm (by omega) (by first | decide | omega) (by first | decide | omega)).mono ?_
  rintro e wk ⟨kd, rfl, hkd, hm_, hg_⟩
  have HP2 := Lib.hid (HP.out.next hm_ hg_)
  clear hm_ hg_ HP
  have cM : wk.cell? ⟨M, 2, none⟩ = some (.slice X n cX) := HP2.out.mm.bk.cell 2
  go_upto_region 3 with fail
  go_cut [33] from 33 to 33 (fun v wx => ∃ b : Bool, v = .bool b ∧ Hid (b = true → n = 0 ∨ kd < 4) ∧ Hid (PX w0 w wx M S A c l (at1 + 1) (.slice X n cX) (.slice I n cI) ⟨o, n, [], [], [], [], [], [], []⟩ pwZ))
  case first =>
   by_cases h1 : n = 0
   ·have b1 : ((n : Int) == 0) = true := by simp [h1]
    have H1 := Lib.hid h1
    clear h1
    go_wp2_with fail
    go_meet
    exact ⟨true, rfl, Lib.hid (fun _ => .inl H1.out), HP2⟩
   ·have b1 : ((n : Int) == 0) = false := by simp [h1]
    clear h1
    go_wp2_with fail
    go_meet
    exact ⟨decide (kd < 4), rfl, Lib.hid (fun h => .inr (of_decide_eq_true h)), HP2⟩
  case rest =>
   clear HP2 cM
   obtain ⟨b1, rfl, Hb1, HP⟩ := hcut
   go_upto_if 33 with fail
   go_cut [] from 33 to 33 (fun wx => ∃ (sts : List Sk) (Y : Option Addr) (cY at2 : Nat), at2 ≤ at_ + 60 ∧ Hid (PX w0 w wx M S A c l at2 (.slice X n cX) (.slice I n cI) ⟨o, n, [], sts, [], [], [], [], []⟩ ⟨none, Y, none, none, none, none, none, 0, cY, 0, 0, 0, 0, 0⟩) ∧ Hid (0 < n → 5 < kd → sts = [] ∧ Y = none ∧ cY = 0))
   case first =>
    cases b1
    ·go_wp2_with fail
     go_meet
     exact ⟨[], none, 0, _, by omega, HP, Lib.hid (fun _ _ => ⟨rfl, rfl, rfl⟩)⟩
    ·have z0 : wc.cell? ⟨S, 0, none⟩ = some (.int .i64 o) := HP.out.s.cell 0
     have z1 : wc.cell? ⟨S, 1, none⟩ = some (.int .i64 n) := HP.out.s.cell 1
     have z2 : wc.cell? ⟨S, 2, none⟩ = some (.slice none 0 0) := HP.out.s.cell 2
     have z3 : wc.cell? ⟨S, 3, none⟩ = some (.slice none 0 0) := HP.out.s.cell 3
     have z4 : wc.cell? ⟨S, 4, none⟩ = some (.slice none 0 0) := HP.out.s.cell 4
     have z5 : wc.cell? ⟨S, 5, none⟩ = some (.slice none 0 0) := HP.out.s.cell 5
     have z6 : wc.cell? ⟨S, 6, none⟩ = some (.slice none 0 0) := HP.out.s.cell 6
     have z7 : wc.cell? ⟨S, 7, none⟩ = some (.slice none 0 0) := HP.out.s.cell 7
     have z8 : wc.cell? ⟨S, 8, none⟩ = some (.slice none 0 0) := HP.out.s.cell 8
     go_wp2_with fail
     refine (draw_any w0 _ M A c l _ _ _ o n HP.out.mm (by omega) (by omega)).mono ?_
     rename_i K4 hK4
     rintro e wd ⟨sts, Y, cY, vs, at3, rfl, hsb, hsv, hl5, hsk, hat3, hmd, hgd, hcY⟩
     have HPd := Lib.hid (HP.out.next hmd hgd)
     have Hok := Lib.hid (show PO ⟨o, n, [], sts, [], [], [], [], []⟩ from ⟨HPd.out.ok.o, HPd.out.ok.num, HPd.out.ok.nd, ⟨by show sts.length ≤ 4096; omega, hsk⟩, HPd.out.ok.pl, HPd.out.ok.ma, HPd.out.ok.er, HPd.out.ok.dr, HPd.out.ok.rt⟩)
     have HQ := Lib.hid (HPd.out.put9 (p' := ⟨o, n, [], sts, [], [], [], [], []⟩) (a' := ⟨none, Y, none, none, none, none, none, 0, cY, 0, 0, 0, 0, 0⟩) hw0 ⟨.inl rfl, ⟨vs, hsb, hsv⟩, .inl rfl, .inl rfl, .inl rfl, .inl rfl, .inl rfl⟩ Hok.out (fun b o e => by cases e) ⟨hcY, Nat.zero_le _, Nat.zero_le _⟩)
     refine hK4 _ _ ?_
     refine wpList_store_row rfl 34 (.tmp 3) (.tmp 36) rfl S 34 _ (paC ⟨o, n, [], sts, [], [], [], [], []⟩ ⟨none, Y, none, none, none, none, none, 0, cY, 0, 0, 0, 0, 0⟩) (by rfl) (by rfl) HPd.out.s info_pa rfl (paC_one _ _) ?_
     clear hsb hsv hsk hmd hgd HPd HP Hok hK4 z0 z1 z2 z3 z4 z5 z6 z7 z8
     generalize World.setRow _ _ _ = W9 at HQ ⊢
     go_wp2_with fail
     go_meet
     exact ⟨sts, Y, cY, at3, by omega, HQ, Lib.hid (fun h0 h5 => absurd (Hb1.out (by trivial)) (by omega))⟩
   case rest =>
    clear HP Hb1
    obtain ⟨sts, Y, cY, at2, hat2, HP, Hs⟩ := hcut
    go_upto_region 5 with fail
    go_cut [42] from 42 to 42 (fun v wx => ∃ b : Bool, v = .bool b ∧ Hid (b = true → kd = 4 ∨ kd = 5) ∧ Hid (PX w0 w wx M S A c l at2 (.slice X n cX) (.slice I n cI) ⟨o, n, [], sts, [], [], [], [], []⟩ ⟨none, Y, none, none, none, none, none, 0, cY, 0, 0, 0, 0, 0⟩))
    case first =>
     by_cases h1 : kd = 4
     ·have b1 : (kd == 4) = true := by simp [h1]
      have H1 := Lib.hid h1
      clear h1
      go_wp2_with fail
      go_meet
      exact ⟨true, rfl, Lib.hid (fun _ => .inl H1.out), HP⟩
     ·have b1 : (kd == 4) = false := by simp [h1]
      clear h1
      go_wp2_with fail
      go_meet
      exact ⟨(kd == 5), rfl, Lib.hid (fun h => .inr (by simpa using h)), HP⟩
    case rest =>
     clear HP
     obtain ⟨b2, rfl, Hb2, HP⟩ := hcut
     go_upto_if 42 with fail
     go_cut [] from 42 to 42 (fun wx => ∃ (sts : List Sk) (Y : Option Addr) (cY : Nat) (pl : List Plc) (Q : Option Addr) (cQ at2 : Nat), at2 ≤ at_ + 80 ∧ Hid (PX w0 w wx M S A c l at2 (.slice X n cX) (.slice I n cI) ⟨o, n, [], sts, pl, [], [], [], []⟩ ⟨none, Y, Q, none, none, none, none, 0, cY, cQ, 0, 0, 0, 0⟩) ∧ Hid (0 < n → 5 < kd → (sts = [] ∧ Y = none ∧ cY = 0) ∧ pl = [] ∧ Q = none ∧ cQ = 0))
     case first =>
      cases b2
      ·go_wp2_with fail
       go_meet
       exact ⟨sts, Y, cY, [], none, 0, _, by omega, HP, Lib.hid (fun h0 h5 => ⟨Hs.out h0 h5, rfl, rfl, rfl⟩)⟩
      ·have Hx := HP
       clear HP
       go_wp2_with fail
       refine (next_any w0 _ M A c l at2 _ _ 8 Hx.out.mm (by omega) (by first | decide | omega) (by first | decide | omega)).mono ?_
       rintro e w5 ⟨x5, rfl, hx5, hm_, hg_⟩
       have Hx2 := Lib.hid (Hx.out.next hm_ hg_)
       clear hm_ hg_ Hx
       obtain ⟨f, hf⟩ : ∃ z, Hid (50 * x5 = z) := ⟨_, Lib.hid rfl⟩
       have hfb : 0 ≤ f ∧ f ≤ 350 := by have := hf.out; omega
       have v5 : IntKind.i64.wrap (50 * x5) = f := by rw [hf.out]; exact IntWalk.i64_in _ ⟨by omega, by omega⟩
       obtain ⟨t, ht⟩ : ∃ z, Hid (f + 200 = z) := ⟨_, Lib.hid rfl⟩
       have v6 : IntKind.i64.wrap (f + 200) = t := by rw [ht.out]; exact IntWalk.i64_in _ ⟨by have := ht.out; omega, by have := ht.out; omega⟩
       go_upto_region 7 with fail
       have HP := Lib.hid Hx2.out.drew
       clear Hx2
       refine wp_region_noPanic ?_
       refine region_T (s := 19) (S := fun W => W.cell? ⟨S, 4, none⟩ = some (.slice none 0 0) ∧ W.cell? ⟨S, 0, none⟩ = some (.int .i64 o)) (by kernel_rfl) ?_
       change wpT _ _ _ _ _ 20 _ _ w5.drew
       generalize w5.drew = X0 at *
       refine T_takeD (k := 0) (v := .pointer (some ⟨S, 4, none⟩)) (d := some 46) rfl rfl (by decide +kernel) (fun _ _ _ h => h) (Or.inl ⟨by rfl, fun W hW => by obtain ⟨s0, s1⟩ := hW; go_simp⟩) ⟨HP.out.s.cell 4, HP.out.s.cell 0⟩ ?_
       try simp only [Act.put, qz0, qz1, qz2]
       refine T_takeD (k := 1) (v := .slice none 0 0) (d := some 47) rfl rfl (by decide +kernel) (fun _ _ _ h => h) (Or.inl ⟨by rfl, fun W hW => by obtain ⟨s0, s1⟩ := hW; go_simp⟩) ⟨HP.out.s.cell 4, HP.out.s.cell 0⟩ ?_
       try simp only [Act.put, qz0, qz1, qz2]
       refine T_takeD (k := 2) (v := .pointer (some ⟨M, 0, none⟩)) (d := some 48) rfl rfl (by decide +kernel) (fun _ _ _ h => h) (Or.inl ⟨by rfl, fun W hW => by obtain ⟨s0, s1⟩ := hW; go_simp⟩) ⟨HP.out.s.cell 4, HP.out.s.cell 0⟩ ?_
       try simp only [Act.put, qz0, qz1, qz2]
       refine T_takeD (k := 6) (v := .pointer (some ⟨M, 0, none⟩)) (d := some 52) rfl rfl (by decide +kernel) (fun _ _ _ h => h) (Or.inl ⟨by rfl, fun W hW => by obtain ⟨s0, s1⟩ := hW; go_simp⟩) ⟨HP.out.s.cell 4, HP.out.s.cell 0⟩ ?_
       try simp only [Act.put, qz0, qz1, qz2]
       refine T_takeD (k := 10) (v := .pointer (some ⟨S, 0, none⟩)) (d := some 56) rfl rfl (by decide +kernel) (fun _ _ _ h => h) (Or.inl ⟨by rfl, fun W hW => by obtain ⟨s0, s1⟩ := hW; go_simp⟩) ⟨HP.out.s.cell 4, HP.out.s.cell 0⟩ ?_
       try simp only [Act.put, qz0, qz1, qz2]
       refine T_takeD (k := 11) (v := .int .i64 o) (d := some 57) rfl rfl (by decide +kernel) (fun _ _ _ h => h) (Or.inl ⟨by rfl, fun W hW => by obtain ⟨s0, s1⟩ := hW; go_simp⟩) ⟨HP.out.s.cell 4, HP.out.s.cell 0⟩ ?_
       try simp only [Act.put, qz0, qz1, qz2]
       refine T_takeD (k := 12) (v := .int .i64 f) (d := some 58) rfl rfl (by decide +kernel) (fun _ _ _ h => h) (Or.inl ⟨by rfl, fun W hW => by obtain ⟨s0, s1⟩ := hW; go_simp⟩) ⟨HP.out.s.cell 4, HP.out.s.cell 0⟩ ?_
       try simp only [Act.put, qz0, qz1, qz2]
       refine T_takeD (k := 13) (v := .int .i64 f) (d := some 59) rfl rfl (by decide +kernel) (fun _ _ _ h => h) (Or.inl ⟨by rfl, fun W hW => by obtain ⟨s0, s1⟩ := hW; go_simp⟩) ⟨HP.out.s.cell 4, HP.out.s.cell 0⟩ ?_
       try simp only [Act.put, qz0, qz1, qz2]
       refine T_takeD (k := 14) (v := .int .i64 t) (d := some 60) rfl rfl (by decide +kernel) (fun _ _ _ h => h) (Or.inl ⟨by rfl, fun W hW => by obtain ⟨s0, s1⟩ := hW; go_simp⟩) ⟨HP.out.s.cell 4, HP.out.s.cell 0⟩ ?_
       try simp only [Act.put, qz0, qz1, qz2]
       refine T_two (i := 3) (j := 5) (by decide +kernel) (T_step rfl rfl (fun K hK9 => ?_)) (T_step rfl rfl (fun K hK9 => ?_))
       ·have hK9 := Lib.hid hK9
        go_simp
        go_at_call 142
        refine (next_any w0 _ M A c l _ _ _ 1048576 HP.out.mm (by omega) (by decide) (by decide)).mono ?_
        rintro e wa ⟨x7, rfl, hx7, hm_, hg_⟩
        have HP2 := Lib.hid (HP.out.next hm_ hg_)
        clear hm_ hg_ HP
        have HP := HP2
        clear HP2
        refine hK9.out _ _ ⟨HP.out.s.cell 4, HP.out.s.cell 0⟩ ?_
        try simp only [Act.put, qz0, qz1, qz2]
        refine T_two (i := 4) (j := 5) (by decide +kernel) (T_step rfl rfl (fun K hK10 => ?_)) (T_step rfl rfl (fun K hK10 => ?_))
        ·have hK10 := Lib.hid hK10
         go_simp
         go_at_call 48
         refine (grid_any x7 _ ⟨by omega, by omega⟩).mono ?_
         rintro e wb ⟨gx, gy, rfl, hgx, hgy, hb_⟩
         have HP2 := Lib.hid (HP.out.keep hb_)
         clear hb_ HP
         have HP := HP2
         clear HP2
         refine hK10.out _ _ ⟨HP.out.s.cell 4, HP.out.s.cell 0⟩ ?_
         try simp only [Act.put, qz0, qz1, qz2]
         refine T_two (i := 5) (j := 7) (by decide +kernel) (T_step rfl rfl (fun K hK11 => ?_)) (T_step rfl rfl (fun K hK11 => ?_))
         ·have hK11 := Lib.hid hK11
          go_simp
          have HT := Lib.hid (Bk.new wb 9 #[.string ⟨#[97, 97]⟩, .string ⟨#[98, 50]⟩, .string ⟨#[99, 45, 99]⟩])
          have HP2 := Lib.hid (HP.out.alloc (.cells #[.string ⟨#[97, 97]⟩, .string ⟨#[98, 50]⟩, .string ⟨#[99, 45, 99]⟩] 9))
          clear HP
          have HP := HP2
          clear HP2
          generalize wb.alloc (.cells #[.string ⟨#[97, 97]⟩, .string ⟨#[98, 50]⟩, .string ⟨#[99, 45, 99]⟩] 9) = wbs at *
          generalize wb.heap.size = g_ at *
          refine hK11.out _ _ ⟨HP.out.s.cell 4, HP.out.s.cell 0⟩ ?_
          try simp only [Act.put, qz0, qz1, qz2]
          refine T_oneS (i := 7) (by decide +kernel) (T_step rfl rfl (fun K hK12 => ?_))
          have hK12 := Lib.hid hK12
          go_simp
          go_at_call 142
          refine (next_any w0 _ M A c l _ _ _ 3 HP.out.mm (by omega) (by decide) (by decide)).mono ?_
          rintro e we ⟨x8, rfl, hx8, hm_, hg_⟩
          have HT2 := Lib.hid (HT.out.grown hg_ (fun e => HP.out.mm.bk.ne_ HT.out (by decide) (Option.some.inj e).symm))
          clear HT
          have HT := HT2
          clear HT2
          have HP2 := Lib.hid (HP.out.next hm_ hg_)
          clear hm_ hg_ HP
          have HP := HP2
          clear HP2
          obtain ⟨j, nm, rfl, hj3, hnm, hcl⟩ := pick3 hx8
          have Hcl := Lib.hid hcl
          have Hnm := Lib.hid hnm
          have hjn : ¬ ((3 : Int) ≤ (j : Int)) := by omega
          clear hcl hnm hx8
          refine hK12.out _ _ ⟨HP.out.s.cell 4, HP.out.s.cell 0⟩ ?_
          try simp only [Act.put, qz0, qz1, qz2]
          refine T_takeD (k := 8) (v := .pointer (some ⟨g_, j, none⟩)) (d := some 54) rfl rfl (by decide +kernel) (fun _ _ _ h => h) (Or.inl ⟨by rfl, fun W hW => by obtain ⟨s0, s1⟩ := hW; go_simp⟩) ⟨HP.out.s.cell 4, HP.out.s.cell 0⟩ ?_
          try simp only [Act.put, qz0, qz1, qz2]
          refine T_oneS (i := 9) (by decide +kernel) (T_step rfl rfl (fun K hK14 => ?_))
          have hK14 := Lib.hid hK14
          have cj : we.cell? ⟨g_, j, none⟩ = some (.string nm) := (HT.out.cell j).trans Hcl.out
          go_simp
          clear cj HT Hcl
          refine hK14.out _ _ ⟨HP.out.s.cell 4, HP.out.s.cell 0⟩ ?_
          try simp only [Act.put, qz0, qz1, qz2]
          refine T_oneS (i := 15) (by decide +kernel) (T_step rfl rfl (fun K hK15 => ?_))
          have hK15 := Lib.hid hK15
          refine wp_build_row 114 #[(0, .tmp 50), (1, .tmp 55), (2, .tmp 57), (3, .tmp 58), (4, .tmp 60)] rfl #[(0, .agg #[.int .i64 gx, .int .i64 gy]), (1, .string nm), (2, .int .i64 o), (3, .int .i64 f), (4, .int .i64 t)] (by simp [Act.eval]) _ (run_build_place gx gy nm o f t _) ?_
          refine hK15.out _ _ ⟨HP.out.s.cell 4, HP.out.s.cell 0⟩ ?_
          try simp only [Act.put, qz0, qz1, qz2]
          refine T_oneS (i := 16) (by decide +kernel) (T_step rfl rfl (fun K hK16 => ?_))
          have hK16 := Lib.hid hK16
          refine wp_bs_row 29 1 #[(0, .tmp 61)] rfl #[(0, .agg #[.int .i64 gx, .int .i64 gy, .string nm, .int .i64 o, .int .i64 f, .int .i64 t])] (by simp [Act.eval]) _ (run_bs_place gx gy nm o f t _) ?_
          have HL := Lib.hid (Bk.new we 114 #[.int .i64 gx, .int .i64 gy, .string nm, .int .i64 o, .int .i64 f, .int .i64 t])
          have HP2 := Lib.hid (HP.out.alloc (.cells #[.int .i64 gx, .int .i64 gy, .string nm, .int .i64 o, .int .i64 f, .int .i64 t] 114))
          clear HP
          have HP := HP2
          clear HP2
          generalize we.alloc (.cells #[.int .i64 gx, .int .i64 gy, .string nm, .int .i64 o, .int .i64 f, .int .i64 t] 114) = Wl at *
          generalize we.heap.size = h_ at *
          refine hK16.out _ _ ⟨HP.out.s.cell 4, HP.out.s.cell 0⟩ ?_
          try simp only [Act.put, qz0, qz1, qz2]
          refine T_oneS (i := 17) (by decide +kernel) (T_step rfl rfl (fun K hK17 => ?_))
          have hK17 := Lib.hid hK17
          refine app_wp (us := [.int .i64 gx, .int .i64 gy, .string nm, .int .i64 o, .int .i64 f, .int .i64 t]) (xs := []) (n := 0) (base := w.heap.size) (c := 1) (H := h_) (v := .slice none 0 0) (.tmp 47) (.tmp 62) rfl elt_place (by simp [Act.eval]) (by simp [Act.eval]) (World.ownsRow_nil _ _ _ _) HL.out rfl rfl (by omega) HP.out.g.size ?_
          intro v8 w8 hown8 hg8
          obtain ⟨Q, cQ, rfl⟩ := own_slice hown8
          have HQs := Lib.hid (SB.own hown8)
          have HP2 := Lib.hid (HP.out.row0 hg8)
          clear hown8 hg8 HP HL
          have HP := HP2
          clear HP2
          refine hK17.out _ _ ⟨HP.out.s.cell 4, HP.out.s.cell 0⟩ ?_
          try simp only [Act.put, qz0, qz1, qz2]
          refine T_takeD (k := 18) (v := .pointer (some ⟨S, 4, none⟩)) (d := some 64) rfl rfl (by decide +kernel) (fun _ _ _ h => h) (Or.inl ⟨by rfl, fun W hW => by obtain ⟨s0, s1⟩ := hW; go_simp⟩) ⟨HP.out.s.cell 4, HP.out.s.cell 0⟩ ?_
          try simp only [Act.put, qz0, qz1, qz2]
          refine T_last (by decide +kernel) (by decide +kernel) (by decide +kernel) rfl rfl (fun K hKl => ?_)
          have hKl := Lib.hid hKl
          have d3 : w8.cell? ⟨S, 4, none⟩ = some (.slice none 0 0) := HP.out.s.cell 4
          have d4 := HP.out.s.frozen 4
          go_simp
          refine hKl.out _ _ (NoPanic.normal ?_)
          try simp only [Act.put, qz0, qz1, qz2]
          have Hpe := Lib.hid (pl_ok (o := o) hgx hgy Hnm.out ⟨hfb.1, by omega⟩)
          rw [ht.out] at Hpe
          have HQ := Lib.hid (show PX w0 w (w8.setCell ⟨S, 4, none⟩ (.slice Q 1 cQ)) M S A c l _ (.slice X n cX) (.slice I n cI) ⟨o, n, [], sts, [⟨gx, gy, nm, o, f, t⟩], [], [], [], []⟩ ⟨none, Y, Q, none, none, none, none, 0, cY, cQ, 0, 0, 0, 0⟩ from HP.out.put (i := 4) (v := .slice Q 1 cQ) hw0 rfl ⟨HP.out.pb.n, HP.out.pb.s, HQs.out, HP.out.pb.m, HP.out.pb.e, HP.out.pb.d, HP.out.pb.r⟩ (po_pl HP.out.ok Hpe.out) HP.out.nw HP.out.cp)
          clear hKl HP HQs Hpe d3 d4
          go_wp2_with fail
          go_meet
          exact ⟨sts, Y, cY, _, Q, cQ, _, by omega, HQ, Lib.hid (fun h0 h5 => absurd (Hb2.out (by trivial)) (by omega))⟩
         ·have hK11 := Lib.hid hK11
          go_simp
          go_at_call 142
          refine (next_any w0 _ M A c l _ _ _ 3 HP.out.mm (by omega) (by decide) (by decide)).mono ?_
          rintro e we ⟨x8, rfl, hx8, hm_, hg_⟩
          have HP2 := Lib.hid (HP.out.next hm_ hg_)
          clear hm_ hg_ HP
          have HP := HP2
          clear HP2
          obtain ⟨j, nm, rfl, hj3, hnm, hcl⟩ := pick3 hx8
          have Hcl := Lib.hid hcl
          have Hnm := Lib.hid hnm
          have hjn : ¬ ((3 : Int) ≤ (j : Int)) := by omega
          clear hcl hnm hx8
          refine hK11.out _ _ ⟨HP.out.s.cell 4, HP.out.s.cell 0⟩ ?_
          try simp only [Act.put, qz0, qz1, qz2]
          refine T_oneS (i := 5) (by decide +kernel) (T_step rfl rfl (fun K hK12 => ?_))
          have hK12 := Lib.hid hK12
          go_simp
          have HT := Lib.hid (Bk.new we 9 #[.string ⟨#[97, 97]⟩, .string ⟨#[98, 50]⟩, .string ⟨#[99, 45, 99]⟩])
          have HP2 := Lib.hid (HP.out.alloc (.cells #[.string ⟨#[97, 97]⟩, .string ⟨#[98, 50]⟩, .string ⟨#[99, 45, 99]⟩] 9))
          clear HP
          have HP := HP2
          clear HP2
          generalize we.alloc (.cells #[.string ⟨#[97, 97]⟩, .string ⟨#[98, 50]⟩, .string ⟨#[99, 45, 99]⟩] 9) = wes at *
          generalize we.heap.size = g_ at *
          refine hK12.out _ _ ⟨HP.out.s.cell 4, HP.out.s.cell 0⟩ ?_
          try simp only [Act.put, qz0, qz1, qz2]
          refine T_takeD (k := 8) (v := .pointer (some ⟨g_, j, none⟩)) (d := some 54) rfl rfl (by decide +kernel) (fun _ _ _ h => h) (Or.inl ⟨by rfl, fun W hW => by obtain ⟨s0, s1⟩ := hW; go_simp⟩) ⟨HP.out.s.cell 4, HP.out.s.cell 0⟩ ?_
          try simp only [Act.put, qz0, qz1, qz2]
          refine T_oneS (i := 9) (by decide +kernel) (T_step rfl rfl (fun K hK14 => ?_))
          have hK14 := Lib.hid hK14
          have cj : wes.cell? ⟨g_, j, none⟩ = some (.string nm) := (HT.out.cell j).trans Hcl.out
          go_simp
          clear cj HT Hcl
          refine hK14.out _ _ ⟨HP.out.s.cell 4, HP.out.s.cell 0⟩ ?_
          try simp only [Act.put, qz0, qz1, qz2]
          refine T_oneS (i := 15) (by decide +kernel) (T_step rfl rfl (fun K hK15 => ?_))
          have hK15 := Lib.hid hK15
          refine wp_build_row 114 #[(0, .tmp 50), (1, .tmp 55), (2, .tmp 57), (3, .tmp 58), (4, .tmp 60)] rfl #[(0, .agg #[.int .i64 gx, .int .i64 gy]), (1, .string nm), (2, .int .i64 o), (3, .int .i64 f), (4, .int .i64 t)] (by simp [Act.eval]) _ (run_build_place gx gy nm o f t _) ?_
          refine hK15.out _ _ ⟨HP.out.s.cell 4, HP.out.s.cell 0⟩ ?_
          try simp only [Act.put, qz0, qz1, qz2]
          refine T_oneS (i := 16) (by decide +kernel) (T_step rfl rfl (fun K hK16 => ?_))
          have hK16 := Lib.hid hK16
          refine wp_bs_row 29 1 #[(0, .tmp 61)] rfl #[(0, .agg #[.int .i64 gx, .int .i64 gy, .string nm, .int .i64 o, .int .i64 f, .int .i64 t])] (by simp [Act.eval]) _ (run_bs_place gx gy nm o f t _) ?_
          have HL := Lib.hid (Bk.new wes 114 #[.int .i64 gx, .int .i64 gy, .string nm, .int .i64 o, .int .i64 f, .int .i64 t])
          have HP2 := Lib.hid (HP.out.alloc (.cells #[.int .i64 gx, .int .i64 gy, .string nm, .int .i64 o, .int .i64 f, .int .i64 t] 114))
          clear HP
          have HP := HP2
          clear HP2
          generalize wes.alloc (.cells #[.int .i64 gx, .int .i64 gy, .string nm, .int .i64 o, .int .i64 f, .int .i64 t] 114) = Wl at *
          generalize wes.heap.size = h_ at *
          refine hK16.out _ _ ⟨HP.out.s.cell 4, HP.out.s.cell 0⟩ ?_
          try simp only [Act.put, qz0, qz1, qz2]
          refine T_oneS (i := 17) (by decide +kernel) (T_step rfl rfl (fun K hK17 => ?_))
          have hK17 := Lib.hid hK17
          refine app_wp (us := [.int .i64 gx, .int .i64 gy, .string nm, .int .i64 o, .int .i64 f, .int .i64 t]) (xs := []) (n := 0) (base := w.heap.size) (c := 1) (H := h_) (v := .slice none 0 0) (.tmp 47) (.tmp 62) rfl elt_place (by simp [Act.eval]) (by simp [Act.eval]) (World.ownsRow_nil _ _ _ _) HL.out rfl rfl (by omega) HP.out.g.size ?_
          intro v8 w8 hown8 hg8
          obtain ⟨Q, cQ, rfl⟩ := own_slice hown8
          have HQs := Lib.hid (SB.own hown8)
          have HP2 := Lib.hid (HP.out.row0 hg8)
          clear hown8 hg8 HP HL
          have HP := HP2
          clear HP2
          refine hK17.out _ _ ⟨HP.out.s.cell 4, HP.out.s.cell 0⟩ ?_
          try simp only [Act.put, qz0, qz1, qz2]
          refine T_takeD (k := 18) (v := .pointer (some ⟨S, 4, none⟩)) (d := some 64) rfl rfl (by decide +kernel) (fun _ _ _ h => h) (Or.inl ⟨by rfl, fun W hW => by obtain ⟨s0, s1⟩ := hW; go_simp⟩) ⟨HP.out.s.cell 4, HP.out.s.cell 0⟩ ?_
          try simp only [Act.put, qz0, qz1, qz2]
          refine T_last (by decide +kernel) (by decide +kernel) (by decide +kernel) rfl rfl (fun K hKl => ?_)
          have hKl := Lib.hid hKl
          have d3 : w8.cell? ⟨S, 4, none⟩ = some (.slice none 0 0) := HP.out.s.cell 4
          have d4 := HP.out.s.frozen 4
          go_simp
          refine hKl.out _ _ (NoPanic.normal ?_)
          try simp only [Act.put, qz0, qz1, qz2]
          have Hpe := Lib.hid (pl_ok (o := o) hgx hgy Hnm.out ⟨hfb.1, by omega⟩)
          rw [ht.out] at Hpe
          have HQ := Lib.hid (show PX w0 w (w8.setCell ⟨S, 4, none⟩ (.slice Q 1 cQ)) M S A c l _ (.slice X n cX) (.slice I n cI) ⟨o, n, [], sts, [⟨gx, gy, nm, o, f, t⟩], [], [], [], []⟩ ⟨none, Y, Q, none, none, none, none, 0, cY, cQ, 0, 0, 0, 0⟩ from HP.out.put (i := 4) (v := .slice Q 1 cQ) hw0 rfl ⟨HP.out.pb.n, HP.out.pb.s, HQs.out, HP.out.pb.m, HP.out.pb.e, HP.out.pb.d, HP.out.pb.r⟩ (po_pl HP.out.ok Hpe.out) HP.out.nw HP.out.cp)
          clear hKl HP HQs Hpe d3 d4
          go_wp2_with fail
          go_meet
          exact ⟨sts, Y, cY, _, Q, cQ, _, by omega, HQ, Lib.hid (fun h0 h5 => absurd (Hb2.out (by trivial)) (by omega))⟩
        ·have hK10 := Lib.hid hK10
         go_simp
         have HT := Lib.hid (Bk.new wa 9 #[.string ⟨#[97, 97]⟩, .string ⟨#[98, 50]⟩, .string ⟨#[99, 45, 99]⟩])
         have HP2 := Lib.hid (HP.out.alloc (.cells #[.string ⟨#[97, 97]⟩, .string ⟨#[98, 50]⟩, .string ⟨#[99, 45, 99]⟩] 9))
         clear HP
         have HP := HP2
         clear HP2
         generalize wa.alloc (.cells #[.string ⟨#[97, 97]⟩, .string ⟨#[98, 50]⟩, .string ⟨#[99, 45, 99]⟩] 9) = was at *
         generalize wa.heap.size = g_ at *
         refine hK10.out _ _ ⟨HP.out.s.cell 4, HP.out.s.cell 0⟩ ?_
         try simp only [Act.put, qz0, qz1, qz2]
         refine T_oneS (i := 4) (by decide +kernel) (T_step rfl rfl (fun K hK11 => ?_))
         have hK11 := Lib.hid hK11
         go_simp
         go_at_call 48
         refine (grid_any x7 _ ⟨by omega, by omega⟩).mono ?_
         rintro e wb ⟨gx, gy, rfl, hgx, hgy, hb_⟩
         have HT2 := Lib.hid (HT.out.below hb_ HT.out.lt)
         clear HT
         have HT := HT2
         clear HT2
         have HP2 := Lib.hid (HP.out.keep hb_)
         clear hb_ HP
         have HP := HP2
         clear HP2
         refine hK11.out _ _ ⟨HP.out.s.cell 4, HP.out.s.cell 0⟩ ?_
         try simp only [Act.put, qz0, qz1, qz2]
         refine T_oneS (i := 7) (by decide +kernel) (T_step rfl rfl (fun K hK12 => ?_))
         have hK12 := Lib.hid hK12
         go_simp
         go_at_call 142
         refine (next_any w0 _ M A c l _ _ _ 3 HP.out.mm (by omega) (by decide) (by decide)).mono ?_
         rintro e we ⟨x8, rfl, hx8, hm_, hg_⟩
         have HT2 := Lib.hid (HT.out.grown hg_ (fun e => HP.out.mm.bk.ne_ HT.out (by decide) (Option.some.inj e).symm))
         clear HT
         have HT := HT2
         clear HT2
         have HP2 := Lib.hid (HP.out.next hm_ hg_)
         clear hm_ hg_ HP
         have HP := HP2
         clear HP2
         obtain ⟨j, nm, rfl, hj3, hnm, hcl⟩ := pick3 hx8
         have Hcl := Lib.hid hcl
         have Hnm := Lib.hid hnm
         have hjn : ¬ ((3 : Int) ≤ (j : Int)) := by omega
         clear hcl hnm hx8
         refine hK12.out _ _ ⟨HP.out.s.cell 4, HP.out.s.cell 0⟩ ?_
         try simp only [Act.put, qz0, qz1, qz2]
         refine T_takeD (k := 8) (v := .pointer (some ⟨g_, j, none⟩)) (d := some 54) rfl rfl (by decide +kernel) (fun _ _ _ h => h) (Or.inl ⟨by rfl, fun W hW => by obtain ⟨s0, s1⟩ := hW; go_simp⟩) ⟨HP.out.s.cell 4, HP.out.s.cell 0⟩ ?_
         try simp only [Act.put, qz0, qz1, qz2]
         refine T_oneS (i := 9) (by decide +kernel) (T_step rfl rfl (fun K hK14 => ?_))
         have hK14 := Lib.hid hK14
         have cj : we.cell? ⟨g_, j, none⟩ = some (.string nm) := (HT.out.cell j).trans Hcl.out
         go_simp
         clear cj HT Hcl
         refine hK14.out _ _ ⟨HP.out.s.cell 4, HP.out.s.cell 0⟩ ?_
         try simp only [Act.put, qz0, qz1, qz2]
         refine T_oneS (i := 15) (by decide +kernel) (T_step rfl rfl (fun K hK15 => ?_))
         have hK15 := Lib.hid hK15
         refine wp_build_row 114 #[(0, .tmp 50), (1, .tmp 55), (2, .tmp 57), (3, .tmp 58), (4, .tmp 60)] rfl #[(0, .agg #[.int .i64 gx, .int .i64 gy]), (1, .string nm), (2, .int .i64 o), (3, .int .i64 f), (4, .int .i64 t)] (by simp [Act.eval]) _ (run_build_place gx gy nm o f t _) ?_
         refine hK15.out _ _ ⟨HP.out.s.cell 4, HP.out.s.cell 0⟩ ?_
         try simp only [Act.put, qz0, qz1, qz2]
         refine T_oneS (i := 16) (by decide +kernel) (T_step rfl rfl (fun K hK16 => ?_))
         have hK16 := Lib.hid hK16
         refine wp_bs_row 29 1 #[(0, .tmp 61)] rfl #[(0, .agg #[.int .i64 gx, .int .i64 gy, .string nm, .int .i64 o, .int .i64 f, .int .i64 t])] (by simp [Act.eval]) _ (run_bs_place gx gy nm o f t _) ?_
         have HL := Lib.hid (Bk.new we 114 #[.int .i64 gx, .int .i64 gy, .string nm, .int .i64 o, .int .i64 f, .int .i64 t])
         have HP2 := Lib.hid (HP.out.alloc (.cells #[.int .i64 gx, .int .i64 gy, .string nm, .int .i64 o, .int .i64 f, .int .i64 t] 114))
         clear HP
         have HP := HP2
         clear HP2
         generalize we.alloc (.cells #[.int .i64 gx, .int .i64 gy, .string nm, .int .i64 o, .int .i64 f, .int .i64 t] 114) = Wl at *
         generalize we.heap.size = h_ at *
         refine hK16.out _ _ ⟨HP.out.s.cell 4, HP.out.s.cell 0⟩ ?_
         try simp only [Act.put, qz0, qz1, qz2]
         refine T_oneS (i := 17) (by decide +kernel) (T_step rfl rfl (fun K hK17 => ?_))
         have hK17 := Lib.hid hK17
         refine app_wp (us := [.int .i64 gx, .int .i64 gy, .string nm, .int .i64 o, .int .i64 f, .int .i64 t]) (xs := []) (n := 0) (base := w.heap.size) (c := 1) (H := h_) (v := .slice none 0 0) (.tmp 47) (.tmp 62) rfl elt_place (by simp [Act.eval]) (by simp [Act.eval]) (World.ownsRow_nil _ _ _ _) HL.out rfl rfl (by omega) HP.out.g.size ?_
         intro v8 w8 hown8 hg8
         obtain ⟨Q, cQ, rfl⟩ := own_slice hown8
         have HQs := Lib.hid (SB.own hown8)
         have HP2 := Lib.hid (HP.out.row0 hg8)
         clear hown8 hg8 HP HL
         have HP := HP2
         clear HP2
         refine hK17.out _ _ ⟨HP.out.s.cell 4, HP.out.s.cell 0⟩ ?_
         try simp only [Act.put, qz0, qz1, qz2]
         refine T_takeD (k := 18) (v := .pointer (some ⟨S, 4, none⟩)) (d := some 64) rfl rfl (by decide +kernel) (fun _ _ _ h => h) (Or.inl ⟨by rfl, fun W hW => by obtain ⟨s0, s1⟩ := hW; go_simp⟩) ⟨HP.out.s.cell 4, HP.out.s.cell 0⟩ ?_
         try simp only [Act.put, qz0, qz1, qz2]
         refine T_last (by decide +kernel) (by decide +kernel) (by decide +kernel) rfl rfl (fun K hKl => ?_)
         have hKl := Lib.hid hKl
         have d3 : w8.cell? ⟨S, 4, none⟩ = some (.slice none 0 0) := HP.out.s.cell 4
         have d4 := HP.out.s.frozen 4
         go_simp
         refine hKl.out _ _ (NoPanic.normal ?_)
         try simp only [Act.put, qz0, qz1, qz2]
         have Hpe := Lib.hid (pl_ok (o := o) hgx hgy Hnm.out ⟨hfb.1, by omega⟩)
         rw [ht.out] at Hpe
         have HQ := Lib.hid (show PX w0 w (w8.setCell ⟨S, 4, none⟩ (.slice Q 1 cQ)) M S A c l _ (.slice X n cX) (.slice I n cI) ⟨o, n, [], sts, [⟨gx, gy, nm, o, f, t⟩], [], [], [], []⟩ ⟨none, Y, Q, none, none, none, none, 0, cY, cQ, 0, 0, 0, 0⟩ from HP.out.put (i := 4) (v := .slice Q 1 cQ) hw0 rfl ⟨HP.out.pb.n, HP.out.pb.s, HQs.out, HP.out.pb.m, HP.out.pb.e, HP.out.pb.d, HP.out.pb.r⟩ (po_pl HP.out.ok Hpe.out) HP.out.nw HP.out.cp)
         clear hKl HP HQs Hpe d3 d4
         go_wp2_with fail
         go_meet
         exact ⟨sts, Y, cY, _, Q, cQ, _, by omega, HQ, Lib.hid (fun h0 h5 => absurd (Hb2.out (by trivial)) (by omega))⟩
       ·have hK9 := Lib.hid hK9
        go_simp
        have HT := Lib.hid (Bk.new X0 9 #[.string ⟨#[97, 97]⟩, .string ⟨#[98, 50]⟩, .string ⟨#[99, 45, 99]⟩])
        have HP2 := Lib.hid (HP.out.alloc (.cells #[.string ⟨#[97, 97]⟩, .string ⟨#[98, 50]⟩, .string ⟨#[99, 45, 99]⟩] 9))
        clear HP
        have HP := HP2
        clear HP2
        generalize X0.alloc (.cells #[.string ⟨#[97, 97]⟩, .string ⟨#[98, 50]⟩, .string ⟨#[99, 45, 99]⟩] 9) = X0s at *
        generalize X0.heap.size = g_ at *
        refine hK9.out _ _ ⟨HP.out.s.cell 4, HP.out.s.cell 0⟩ ?_
        try simp only [Act.put, qz0, qz1, qz2]
        refine T_oneS (i := 3) (by decide +kernel) (T_step rfl rfl (fun K hK10 => ?_))
        have hK10 := Lib.hid hK10
        go_simp
        go_at_call 142
        refine (next_any w0 _ M A c l _ _ _ 1048576 HP.out.mm (by omega) (by decide) (by decide)).mono ?_
        rintro e wa ⟨x7, rfl, hx7, hm_, hg_⟩
        have HT2 := Lib.hid (HT.out.grown hg_ (fun e => HP.out.mm.bk.ne_ HT.out (by decide) (Option.some.inj e).symm))
        clear HT
        have HT := HT2
        clear HT2
        have HP2 := Lib.hid (HP.out.next hm_ hg_)
        clear hm_ hg_ HP
        have HP := HP2
        clear HP2
        refine hK10.out _ _ ⟨HP.out.s.cell 4, HP.out.s.cell 0⟩ ?_
        try simp only [Act.put, qz0, qz1, qz2]
        refine T_oneS (i := 4) (by decide +kernel) (T_step rfl rfl (fun K hK11 => ?_))
        have hK11 := Lib.hid hK11
        go_simp
        go_at_call 48
        refine (grid_any x7 _ ⟨by omega, by omega⟩).mono ?_
        rintro e wb ⟨gx, gy, rfl, hgx, hgy, hb_⟩
        have HT2 := Lib.hid (HT.out.below hb_ HT.out.lt)
        clear HT
        have HT := HT2
        clear HT2
        have HP2 := Lib.hid (HP.out.keep hb_)
        clear hb_ HP
        have HP := HP2
        clear HP2
        refine hK11.out _ _ ⟨HP.out.s.cell 4, HP.out.s.cell 0⟩ ?_
        try simp only [Act.put, qz0, qz1, qz2]
        refine T_oneS (i := 7) (by decide +kernel) (T_step rfl rfl (fun K hK12 => ?_))
        have hK12 := Lib.hid hK12
        go_simp
        go_at_call 142
        refine (next_any w0 _ M A c l _ _ _ 3 HP.out.mm (by omega) (by decide) (by decide)).mono ?_
        rintro e we ⟨x8, rfl, hx8, hm_, hg_⟩
        have HT2 := Lib.hid (HT.out.grown hg_ (fun e => HP.out.mm.bk.ne_ HT.out (by decide) (Option.some.inj e).symm))
        clear HT
        have HT := HT2
        clear HT2
        have HP2 := Lib.hid (HP.out.next hm_ hg_)
        clear hm_ hg_ HP
        have HP := HP2
        clear HP2
        obtain ⟨j, nm, rfl, hj3, hnm, hcl⟩ := pick3 hx8
        have Hcl := Lib.hid hcl
        have Hnm := Lib.hid hnm
        have hjn : ¬ ((3 : Int) ≤ (j : Int)) := by omega
        clear hcl hnm hx8
        refine hK12.out _ _ ⟨HP.out.s.cell 4, HP.out.s.cell 0⟩ ?_
        try simp only [Act.put, qz0, qz1, qz2]
        refine T_takeD (k := 8) (v := .pointer (some ⟨g_, j, none⟩)) (d := some 54) rfl rfl (by decide +kernel) (fun _ _ _ h => h) (Or.inl ⟨by rfl, fun W hW => by obtain ⟨s0, s1⟩ := hW; go_simp⟩) ⟨HP.out.s.cell 4, HP.out.s.cell 0⟩ ?_
        try simp only [Act.put, qz0, qz1, qz2]
        refine T_oneS (i := 9) (by decide +kernel) (T_step rfl rfl (fun K hK14 => ?_))
        have hK14 := Lib.hid hK14
        have cj : we.cell? ⟨g_, j, none⟩ = some (.string nm) := (HT.out.cell j).trans Hcl.out
        go_simp
        clear cj HT Hcl
        refine hK14.out _ _ ⟨HP.out.s.cell 4, HP.out.s.cell 0⟩ ?_
        try simp only [Act.put, qz0, qz1, qz2]
        refine T_oneS (i := 15) (by decide +kernel) (T_step rfl rfl (fun K hK15 => ?_))
        have hK15 := Lib.hid hK15
        refine wp_build_row 114 #[(0, .tmp 50), (1, .tmp 55), (2, .tmp 57), (3, .tmp 58), (4, .tmp 60)] rfl #[(0, .agg #[.int .i64 gx, .int .i64 gy]), (1, .string nm), (2, .int .i64 o), (3, .int .i64 f), (4, .int .i64 t)] (by simp [Act.eval]) _ (run_build_place gx gy nm o f t _) ?_
        refine hK15.out _ _ ⟨HP.out.s.cell 4, HP.out.s.cell 0⟩ ?_
        try simp only [Act.put, qz0, qz1, qz2]
        refine T_oneS (i := 16) (by decide +kernel) (T_step rfl rfl (fun K hK16 => ?_))
        have hK16 := Lib.hid hK16
        refine wp_bs_row 29 1 #[(0, .tmp 61)] rfl #[(0, .agg #[.int .i64 gx, .int .i64 gy, .string nm, .int .i64 o, .int .i64 f, .int .i64 t])] (by simp [Act.eval]) _ (run_bs_place gx gy nm o f t _) ?_
        have HL := Lib.hid (Bk.new we 114 #[.int .i64 gx, .int .i64 gy, .string nm, .int .i64 o, .int .i64 f, .int .i64 t])
        have HP2 := Lib.hid (HP.out.alloc (.cells #[.int .i64 gx, .int .i64 gy, .string nm, .int .i64 o, .int .i64 f, .int .i64 t] 114))
        clear HP
        have HP := HP2
        clear HP2
        generalize we.alloc (.cells #[.int .i64 gx, .int .i64 gy, .string nm, .int .i64 o, .int .i64 f, .int .i64 t] 114) = Wl at *
        generalize we.heap.size = h_ at *
        refine hK16.out _ _ ⟨HP.out.s.cell 4, HP.out.s.cell 0⟩ ?_
        try simp only [Act.put, qz0, qz1, qz2]
        refine T_oneS (i := 17) (by decide +kernel) (T_step rfl rfl (fun K hK17 => ?_))
        have hK17 := Lib.hid hK17
        refine app_wp (us := [.int .i64 gx, .int .i64 gy, .string nm, .int .i64 o, .int .i64 f, .int .i64 t]) (xs := []) (n := 0) (base := w.heap.size) (c := 1) (H := h_) (v := .slice none 0 0) (.tmp 47) (.tmp 62) rfl elt_place (by simp [Act.eval]) (by simp [Act.eval]) (World.ownsRow_nil _ _ _ _) HL.out rfl rfl (by omega) HP.out.g.size ?_
        intro v8 w8 hown8 hg8
        obtain ⟨Q, cQ, rfl⟩ := own_slice hown8
        have HQs := Lib.hid (SB.own hown8)
        have HP2 := Lib.hid (HP.out.row0 hg8)
        clear hown8 hg8 HP HL
        have HP := HP2
        clear HP2
        refine hK17.out _ _ ⟨HP.out.s.cell 4, HP.out.s.cell 0⟩ ?_
        try simp only [Act.put, qz0, qz1, qz2]
        refine T_takeD (k := 18) (v := .pointer (some ⟨S, 4, none⟩)) (d := some 64) rfl rfl (by decide +kernel) (fun _ _ _ h => h) (Or.inl ⟨by rfl, fun W hW => by obtain ⟨s0, s1⟩ := hW; go_simp⟩) ⟨HP.out.s.cell 4, HP.out.s.cell 0⟩ ?_
        try simp only [Act.put, qz0, qz1, qz2]
        refine T_last (by decide +kernel) (by decide +kernel) (by decide +kernel) rfl rfl (fun K hKl => ?_)
        have hKl := Lib.hid hKl
        have d3 : w8.cell? ⟨S, 4, none⟩ = some (.slice none 0 0) := HP.out.s.cell 4
        have d4 := HP.out.s.frozen 4
        go_simp
        refine hKl.out _ _ (NoPanic.normal ?_)
        try simp only [Act.put, qz0, qz1, qz2]
        have Hpe := Lib.hid (pl_ok (o := o) hgx hgy Hnm.out ⟨hfb.1, by omega⟩)
        rw [ht.out] at Hpe
        have HQ := Lib.hid (show PX w0 w (w8.setCell ⟨S, 4, none⟩ (.slice Q 1 cQ)) M S A c l _ (.slice X n cX) (.slice I n cI) ⟨o, n, [], sts, [⟨gx, gy, nm, o, f, t⟩], [], [], [], []⟩ ⟨none, Y, Q, none, none, none, none, 0, cY, cQ, 0, 0, 0, 0⟩ from HP.out.put (i := 4) (v := .slice Q 1 cQ) hw0 rfl ⟨HP.out.pb.n, HP.out.pb.s, HQs.out, HP.out.pb.m, HP.out.pb.e, HP.out.pb.d, HP.out.pb.r⟩ (po_pl HP.out.ok Hpe.out) HP.out.nw HP.out.cp)
        clear hKl HP HQs Hpe d3 d4
        go_wp2_with fail
        go_meet
        exact ⟨sts, Y, cY, _, Q, cQ, _, by omega, HQ, Lib.hid (fun h0 h5 => absurd (Hb2.out (by trivial)) (by omega))⟩
     case rest =>
      clear HP Hs Hb2
      obtain ⟨sts, Y, cY, pl, Q, cQ, at3, hat3, HP, Hs⟩ := hcut
      have cM : wc.cell? ⟨M, 2, none⟩ = some (.slice X n cX) := HP.out.mm.bk.cell 2
      go_upto_region 8 with fail
      go_cut [74] from 74 to 74 (fun v wx => ∃ b : Bool, v = .bool b ∧ Hid (b = true → 0 < n ∧ 5 < kd) ∧ Hid (PX w0 w wx M S A c l at3 (.slice X n cX) (.slice I n cI) ⟨o, n, [], sts, pl, [], [], [], []⟩ ⟨none, Y, Q, none, none, none, none, 0, cY, cQ, 0, 0, 0, 0⟩))
      case first =>
       by_cases h1 : n = 0
       ·have b1 : decide ((n : Int) > 0) = false := decide_eq_false (by omega)
        have b1b : decide (0 < n) = false := decide_eq_false (by omega)
        have b1c : ¬ (0 < n) := by omega
        have H1 := Lib.hid h1
        clear h1
        go_wp2_with fail
        go_meet
        exact ⟨false, rfl, Lib.hid (fun h => by cases h), HP⟩
       ·have b1 : decide ((n : Int) > 0) = true := decide_eq_true (by omega)
        go_wp2_with fail
        go_meet
        exact ⟨decide (kd > 5), rfl, Lib.hid (fun h => ⟨by omega, of_decide_eq_true h⟩), HP⟩
      case rest =>
       clear HP cM
       obtain ⟨b3, rfl, Hb3, HP⟩ := hcut
       go_upto_if 74 with fail
       go_cut [] from 74 to 74 (fun wx => ∃ (p : Pa) (a : Pw) (at2 : Nat), at2 ≤ at_ + 200 ∧ Hid (PX w0 w wx M S A c l at2 (.slice X n cX) (.slice I n cI) p a) ∧ Hid (p.num = n) ∧ Hid (p.rt = [] ∧ a.r = none ∧ a.cr = 0))
       case first =>
        cases b3
        ·go_wp2_with fail
         go_meet
         exact ⟨_, _, at3, by omega, HP, Lib.hid rfl, Lib.hid ⟨rfl, rfl, rfl⟩⟩
        ·obtain ⟨hn0, hk5⟩ := Hb3.out (by trivial)
         obtain ⟨⟨rfl, rfl, rfl⟩, rfl, rfl, rfl⟩ := Hs.out hn0 hk5
         clear Hs Hb3
         have cM : wc.cell? ⟨M, 2, none⟩ = some (.slice X n cX) := HP.out.mm.bk.cell 2
         go_wp2_with fail
         clear cM
         refine (next_any w0 _ M A c l at3 _ _ n HP.out.mm (by omega) (by first | decide | omega) (by first | decide | omega)).mono ?_
         rintro e w9 ⟨x9, rfl, hx9, hm_, hg_⟩
         have HP2 := Lib.hid (HP.out.next hm_ hg_)
         clear hm_ hg_ HP
         obtain ⟨k, rfl⟩ : ∃ k : Nat, x9 = (k : Int) := ⟨x9.toNat, by omega⟩
         have hk : k < n := by omega
         clear hx9
         go_upto_if 83 with fail
         go_cut [6] from 75 to 83 (fun v wx => ∃ k : Nat, k < n ∧ v = .int .i64 (k : Int) ∧ Hid (PX w0 w wx M S A c l (at3 + 1) (.slice X n cX) (.slice I n cI) ⟨o, n, [], [], [], [], [], [], []⟩ pwZ))
         case first =>
          cases h11 : (kd == 11)
          ·go_wp2_with fail
           go_meet
           exact ⟨k, hk, rfl, HP2⟩
          ·go_wp2_with fail
           go_meet
           exact ⟨0, by omega, rfl, HP2⟩
         case rest =>
          clear HP2 hk
          clear k
          obtain ⟨k, hk, rfl, HP⟩ := hcut
          obtain ⟨bX, oX, qq, hXe, hq, hqc⟩ := pa_get (HW.out _ HP.out.g).1.sl (k := k) (by rw [Hp.out]; exact hk)
          obtain ⟨bI, oI, id, hIe, i0, hidu⟩ := id_get (HW.out _ HP.out.g).2.1.sl (k := k) (by rw [Hi.out]; exact hk) Hu.out
          have hqo := ((HW.out _ HP.out.g).2.2 qq (List.mem_of_getElem? hq.out)).2
          have hqb := fun W (hg : w.grownBy W (some M)) => ((HW.out W hg).2.2 qq (List.mem_of_getElem? hq.out)).1
          clear HW
          subst hXe
          subst hIe
          obtain ⟨⟨qo, qn, qnd, qst, qpl, qma, qer, qdr, qrt⟩, ⟨bn, bs, bl, bm, be, bd, br, kn, ks, kl, km, ke, kd_, kr⟩⟩ := qq
          have c0 : wc.cell? ⟨bX, oX + k * 9, none⟩ = some (.int .i64 qo) := hqc 0 _ rfl
          have c1 : wc.cell? ⟨bX, oX + k * 9 + 1, none⟩ = some (.int .i64 qn) := hqc 1 _ rfl
          have c2 : wc.cell? ⟨bX, oX + k * 9 + 2, none⟩ = some (.slice bn qnd.length kn) := hqc 2 _ rfl
          have c3 : wc.cell? ⟨bX, oX + k * 9 + 3, none⟩ = some (.slice bs qst.length ks) := hqc 3 _ rfl
          have c4 : wc.cell? ⟨bX, oX + k * 9 + 4, none⟩ = some (.slice bl qpl.length kl) := hqc 4 _ rfl
          have c5 : wc.cell? ⟨bX, oX + k * 9 + 5, none⟩ = some (.slice bm qma.length km) := hqc 5 _ rfl
          have c6 : wc.cell? ⟨bX, oX + k * 9 + 6, none⟩ = some (.slice be qer.length ke) := hqc 6 _ rfl
          have c7 : wc.cell? ⟨bX, oX + k * 9 + 7, none⟩ = some (.slice bd qdr.length kd_) := hqc 7 _ rfl
          have c8 : wc.cell? ⟨bX, oX + k * 9 + 8, none⟩ = some (.slice br qrt.length kr) := hqc 8 _ rfl
          have cM : wc.cell? ⟨M, 2, none⟩ = some (.slice (some ⟨bX, oX, none⟩) n cX) := HP.out.mm.bk.cell 2
          have cI_ : wc.cell? ⟨M, 3, none⟩ = some (.slice (some ⟨bI, oI, none⟩) n cI) := HP.out.mm.bk.cell 3
          have cN_ : wc.cell? ⟨S, 2, none⟩ = some (.slice none 0 0) := HP.out.s.cell 2
          have hS_ : S < wc.heap.size := HP.out.s.lt
          have HOx := Lib.hid (show OX w0 w (wc.alloc (.cells #[.int .i64 qo, .int .i64 qn, .slice bn qnd.length kn, .slice bs qst.length ks, .slice bl qpl.length kl, .slice bm qma.length km, .slice be qer.length ke, .slice bd qdr.length kd_, .slice br qrt.length kr] 34)) M S wc.heap.size A c l _ (.slice (some ⟨bX, oX, none⟩) n cX) (.slice (some ⟨bI, oI, none⟩) n cI) ⟨o, n, [], [], [], [], [], [], []⟩ pwZ ⟨qo, qn, qnd, qst, qpl, qma, qer, qdr, qrt⟩ ⟨bn, bs, bl, bm, be, bd, br, kn, ks, kl, km, ke, kd_, kr⟩ from ⟨HP.out.alloc _, Bk.new _ _ _, hS_, hqb, hqo⟩)
          have Hiu := Lib.hid hidu
          clear hqc hq hqb hqo hidu hS_ HP
          have hbA := (Below.refl wc.heap.size wc).alloc (Nat.le_refl _) (.cells #[.int .i64 qo, .int .i64 qn, .slice bn qnd.length kn, .slice bs qst.length ks, .slice bl qpl.length kl, .slice bm qma.length km, .slice be qer.length ke, .slice bd qdr.length kd_, .slice br qrt.length kr] 34)
          have i1 := (hbA.cell (World.block_lt_of_cell? _ _ i0)).trans i0
          have cI2 : (wc.alloc (.cells #[.int .i64 qo, .int .i64 qn, .slice bn qnd.length kn, .slice bs qst.length ks, .slice bl qpl.length kl, .slice bm qma.length km, .slice be qer.length ke, .slice bd qdr.length kd_, .slice br qrt.length kr] 34)).cell? ⟨M, 3, none⟩ = some (.slice (some ⟨bI, oI, none⟩) n cI) := HOx.out.px.mm.bk.cell 3
          clear hbA i0 cI_
          go_upto_region 14 with fail
          generalize wc.alloc (.cells #[.int .i64 qo, .int .i64 qn, .slice bn qnd.length kn, .slice bs qst.length ks, .slice bl qpl.length kl, .slice bm qma.length km, .slice be qer.length ke, .slice bd qdr.length kd_, .slice br qrt.length kr] 34) = Wo at *
          generalize wc.heap.size = O at *
          clear c0 c1 c2 c3 c4 c5 c6 c7 c8 cM cI2 i1 cN_
          have cN_ : Wo.cell? ⟨S, 2, none⟩ = some (.slice none 0 0) := HOx.out.px.s.cell 2
          go_wp2_with fail
          refine (need_any id _).mono ?_
          rintro e wn ⟨hb_, N, cN, rfl, hown_⟩
          have HN := Lib.hid (SB.own hown_)
          have HNw := Lib.hid (show NW w wn ⟨N, none, none, none, none, none, none, cN, 0, 0, 0, 0, 0, 0⟩ from fun b o e => by have h1 := hown_.lt b (by have e2 : N = some ⟨b, o, none⟩ := e; rw [e2]; rfl); have h2 := HOx.out.px.g.size; omega)
          have HO2 := Lib.hid (HOx.out.keep hb_)
          clear hb_ hown_ HOx cN_
          have cN_ : wn.cell? ⟨S, 2, none⟩ = some (.slice none 0 0) := HO2.out.px.s.cell 2
          have cN2 := HO2.out.px.s.frozen 2
          have HO := Lib.hid (show OX w0 w (wn.setCell ⟨S, 2, none⟩ (.slice N 1 cN)) M S O A c l _ (.slice (some ⟨bX, oX, none⟩) n cX) (.slice (some ⟨bI, oI, none⟩) n cI) ⟨o, n, [id], [], [], [], [], [], []⟩ ⟨N, none, none, none, none, none, none, cN, 0, 0, 0, 0, 0, 0⟩ ⟨qo, qn, qnd, qst, qpl, qma, qer, qdr, qrt⟩ ⟨bn, bs, bl, bm, be, bd, br, kn, ks, kl, km, ke, kd_, kr⟩ from HO2.out.put (i := 2) (v := .slice N 1 cN) hw0 rfl ⟨HN.out, HO2.out.px.pb.s, HO2.out.px.pb.l, HO2.out.px.pb.m, HO2.out.px.pb.e, HO2.out.px.pb.d, HO2.out.px.pb.r⟩ (po_nd HO2.out.px.ok Hiu.out) HNw.out ⟨Nat.zero_le _, Nat.zero_le _, Nat.zero_le _⟩)
          clear HO2 HN HNw
          go_upto_region 15 with fail
          generalize wn.setCell ⟨S, 2, none⟩ (.slice N 1 cN) = W15 at *
          clear cN_ cN2
          have cq3 : W15.cell? ⟨O, 3, none⟩ = some (.slice bs qst.length ks) := HO.out.o.cell 3
          go_cut [114] from 114 to 114 (fun v wx => ∃ b : Bool, v = .bool b ∧ Hid (b = true → 0 < qst.length) ∧ Hid (OX w0 w wx M S O A c l (at3 + 1) (.slice (some ⟨bX, oX, none⟩) n cX) (.slice (some ⟨bI, oI, none⟩) n cI) ⟨o, n, [id], [], [], [], [], [], []⟩ ⟨N, none, none, none, none, none, none, cN, 0, 0, 0, 0, 0, 0⟩ ⟨qo, qn, qnd, qst, qpl, qma, qer, qdr, qrt⟩ ⟨bn, bs, bl, bm, be, bd, br, kn, ks, kl, km, ke, kd_, kr⟩))
          case first =>
           by_cases hl3 : 0 < qst.length
           ·have H3 := Lib.hid hl3
            by_cases h9 : kd < 9
            ·have h9b : decide (kd < 9) = true := decide_eq_true h9
             go_wp2_with fail
             go_meet
             exact ⟨_, rfl, Lib.hid (fun _ => H3.out), HO⟩
            ·have h9b : decide (kd < 9) = false := decide_eq_false h9
             go_wp2_with fail
             go_meet
             exact ⟨_, rfl, Lib.hid (fun _ => H3.out), HO⟩
           ·skip
            go_wp2_with fail
            go_meet
            exact ⟨false, rfl, Lib.hid (fun h => by cases h), HO⟩
          case rest =>
           clear HO cq3
           obtain ⟨b4, rfl, Hb4, HO⟩ := hcut
           go_upto_if 114 with fail
           go_cut [] from 114 to 114 (fun wx => ∃ (st : List Sk) (er : List (Int × Int)) (Y E : Option Addr) (cY cE at2 : Nat), at2 ≤ at_ + 100 ∧ Hid (OX w0 w wx M S O A c l at2 (.slice (some ⟨bX, oX, none⟩) n cX) (.slice (some ⟨bI, oI, none⟩) n cI) ⟨o, n, [id], st, [], [], er, [], []⟩ ⟨N, Y, none, none, E, none, none, cN, cY, 0, 0, cE, 0, 0⟩ ⟨qo, qn, qnd, qst, qpl, qma, qer, qdr, qrt⟩ ⟨bn, bs, bl, bm, be, bd, br, kn, ks, kl, km, ke, kd_, kr⟩))
           case first =>
            have hl3 := Hb4.out
            clear Hb4
            cases b4
            ·go_wp2_with fail
             go_meet
             exact ⟨[], [], none, none, 0, 0, _, by omega, HO⟩
            ·have hl0 : 0 < qst.length := hl3 (by trivial)
             have hl9 : qst.length ≤ 4096 := HO.out.qo.st.1
             clear hl3
             have cq3 : wc.cell? ⟨O, 3, none⟩ = some (.slice bs qst.length ks) := HO.out.o.cell 3
             go_wp2_with fail
             refine (next_any w0 _ M A c l (at3 + 1) _ _ qst.length HO.out.px.mm (by omega) (by first | decide | omega) (by first | decide | omega)).mono ?_
             rintro e w16 ⟨x16, rfl, hx16, hm_, hg_⟩
             have HN_ := Lib.hid (HO.out.next hm_ hg_)
             clear hm_ hg_ HO
             have HO := HN_
             clear HN_
             obtain ⟨i, rfl⟩ : ∃ k : Nat, x16 = (k : Int) := ⟨x16.toNat, by omega⟩
             have hi_ : i < qst.length := by omega
             clear hx16 cq3
             have c6 : w16.cell? ⟨S, 6, none⟩ = some (.slice none 0 0) := HO.out.px.s.cell 6
             have hbs := HO.out.px.g.size
             go_upto_region 18 with (at_builtin; refine wpList_app2 (w := w16) (xs := []) (n := 0) (base := w.heap.size) (v := .slice none 0 0) rfl _ _ rfl elt_id (World.ownsRow_nil _ _ _ _) hbs rfl rfl (by simp) rfl rfl (by omega) ?_; intro v8 w8 hown8 hg8 hz8; obtain ⟨E, cE, rfl⟩ := own_slice hown8; have HO8 := Lib.hid (HO.out.row0 hg8); have e3 : w8.cell? ⟨S, 6, none⟩ = some (.slice none 0 0) := HO8.out.px.s.cell 6; have e4 := HO8.out.px.s.frozen 6)
             have HE := Lib.hid (SB.own hown8)
             have HE1 := Lib.hid (show PO ⟨o, n, [id], [], [], [], [(id, (i : Int))], [], []⟩ from po_er HO8.out.px.ok (by omega))
             have HO1 := Lib.hid (show OX w0 w (w8.setCell ⟨S, 6, none⟩ (.slice E 1 cE)) M S O A c l _ (.slice (some ⟨bX, oX, none⟩) n cX) (.slice (some ⟨bI, oI, none⟩) n cI) ⟨o, n, [id], [], [], [], [(id, (i : Int))], [], []⟩ ⟨N, none, none, none, E, none, none, cN, 0, 0, 0, cE, 0, 0⟩ ⟨qo, qn, qnd, qst, qpl, qma, qer, qdr, qrt⟩ ⟨bn, bs, bl, bm, be, bd, br, kn, ks, kl, km, ke, kd_, kr⟩ from HO8.out.put (i := 6) (v := .slice E 1 cE) hw0 rfl ⟨HO8.out.px.pb.n, HO8.out.px.pb.s, HO8.out.px.pb.l, HO8.out.px.pb.m, HE.out, HO8.out.px.pb.d, HO8.out.px.pb.r⟩ HE1.out HO8.out.px.nw ⟨Nat.zero_le _, Nat.zero_le _, own_cap hown8⟩)
             clear HO HO8 HE HE1 hown8 hg8 hz8 e3 e4 c6 hbs
             generalize w8.setCell ⟨S, 6, none⟩ (.slice E 1 cE) = W18 at *
             by_cases h8 : kd < 8
             ·have b8 : decide (kd < 8) = true := decide_eq_true h8
              clear h8
              obtain ⟨vs, hsb, hsv⟩ := HO1.out.qr.s
              obtain ⟨bS, oS, s, C, cC, hbe, s0, s1, s2, s3, s4, hSC, hcl, hsi⟩ := SS.get (hsv.ss hsb.sl) hi_
              obtain ⟨hp1, hp2⟩ := sk_pts (HO1.out.qo.st.2 s (List.mem_of_getElem? hsi.out))
              have Hp1 := Lib.hid hp1
              have Hp2 := Lib.hid hp2
              obtain ⟨ax, ay, bx, by_, cl⟩ := s
              subst hbe
              have cq3 : W18.cell? ⟨O, 3, none⟩ = some (.slice (some ⟨bS, oS, none⟩) qst.length ks) := HO1.out.o.cell 3
              have HO2 := Lib.hid (HO1.out.alloc (.cells #[.int .i64 ax, .int .i64 ay, .int .i64 bx, .int .i64 by_, .slice C cl.length cC] 62))
              have HS2 := Lib.hid (Bk.new W18 62 #[.int .i64 ax, .int .i64 ay, .int .i64 bx, .int .i64 by_, .slice C cl.length cC])
              clear vs hsb hsv hSC hcl hsi hp1 hp2 HO1
              go_upto_region 20 with fail
              generalize W18.alloc (.cells #[.int .i64 ax, .int .i64 ay, .int .i64 bx, .int .i64 by_, .slice C cl.length cC] 62) = W20 at *
              generalize W18.heap.size = T at *
              clear s0 s1 s2 s3 s4 cq3
              go_wp2_with fail
              refine (next_any w0 _ M A c l _ _ _ 1048576 HO2.out.px.mm (by omega) (by decide) (by decide)).mono ?_
              rintro e wf ⟨x20, rfl, hx20, hm_, hg_⟩
              have HS := Lib.hid (HS2.out.grown hg_ (fun e => HO2.out.px.mm.bk.ne_ HS2.out (by decide) (Option.some.inj e).symm))
              have HO_ := Lib.hid (HO2.out.next hm_ hg_)
              clear hm_ hg_ HO2 HS2
              have HO2 := HO_
              clear HO_
              go_wp2_with fail
              refine (grid_any x20 _ ⟨by omega, by omega⟩).mono ?_
              rintro e wg ⟨gx, gy, rfl, hgx, hgy, hb_⟩
              have HO3 := Lib.hid ((HO2.out.keep hb_).alloc (.cells #[.int .i64 gx, .int .i64 gy] 58))
              have HS3 := Lib.hid ((HS.out.below hb_ HS.out.lt).alloc (.cells #[.int .i64 gx, .int .i64 gy] 58))
              have HG3 := Lib.hid (Bk.new wg 58 #[.int .i64 gx, .int .i64 gy])
              clear hb_ HO2 HS hx20
              go_upto_region 21 with fail
              generalize wg.alloc (.cells #[.int .i64 gx, .int .i64 gy] 58) = W21 at *
              generalize wg.heap.size = G at *
              have t0 : W21.cell? ⟨T, 0, none⟩ = some (.int .i64 ax) := HS3.out.cell 0
              have t1 : W21.cell? ⟨T, 1, none⟩ = some (.int .i64 ay) := HS3.out.cell 1
              have t2 : W21.cell? ⟨T, 2, none⟩ = some (.int .i64 bx) := HS3.out.cell 2
              have t3 : W21.cell? ⟨T, 3, none⟩ = some (.int .i64 by_) := HS3.out.cell 3
              have g0 : W21.cell? ⟨G, 0, none⟩ = some (.int .i64 gx) := HG3.out.cell 0
              have g1 : W21.cell? ⟨G, 1, none⟩ = some (.int .i64 gy) := HG3.out.cell 1
              have nq1 := fun W => neq_point gx gy ax ay W
              have nq2 := fun W => neq_point gx gy bx by_ W
              go_cut [149] from 149 to 149 (fun v wx => ∃ b : Bool, v = .bool b ∧ Hid (b = true → ¬ (gx = ax ∧ gy = ay) ∧ ¬ (gx = bx ∧ gy = by_)) ∧ Hid (OX w0 w wx M S O A c l (at3 + 1 + 1 + 1) (.slice (some ⟨bX, oX, none⟩) n cX) (.slice (some ⟨bI, oI, none⟩) n cI) ⟨o, n, [id], [], [], [], [(id, (i : Int))], [], []⟩ ⟨N, none, none, none, E, none, none, cN, 0, 0, 0, cE, 0, 0⟩ ⟨qo, qn, qnd, qst, qpl, qma, qer, qdr, qrt⟩ ⟨bn, (some ⟨bS, oS, none⟩), bl, bm, be, bd, br, kn, ks, kl, km, ke, kd_, kr⟩) ∧ Hid (Bk wx T 62 #[.int .i64 ax, .int .i64 ay, .int .i64 bx, .int .i64 by_, .slice C cl.length cC]) ∧ Hid (Bk wx G 58 #[.int .i64 gx, .int .i64 gy]))
              case first =>
               cases h1 : (gx == ax && gy == ay)
               ·go_wp2_with fail
                go_meet
                exact ⟨(!(gx == bx) || !(gy == by_)), rfl, Lib.hid (fun h => ⟨fun h2 => by simp [h2.1, h2.2] at h1, fun h2 => by simp [h2.1, h2.2] at h⟩), HO3, HS3, HG3⟩
               ·go_wp2_with fail
                go_meet
                exact ⟨false, rfl, Lib.hid (fun h => by cases h), HO3, HS3, HG3⟩
              case rest =>
               clear HO3 HS3 HG3 t0 t1 t2 t3 g0 g1 nq1 nq2
               obtain ⟨b9, rfl, Hb9, HO, HS, HG⟩ := hcut
               cases b9
               ·go_wp2_with fail
                go_meet
                exact ⟨[], _, none, E, 0, cE, _, by omega, HO⟩
               ·obtain ⟨hne1, hne2⟩ := Hb9.out (by trivial)
                have Hne1 := Lib.hid hne1
                have Hne2 := Lib.hid hne2
                clear hne1 hne2 Hb9
                have u0 : wc.cell? ⟨S, 0, none⟩ = some (.int .i64 o) := HO.out.px.s.cell 0
                go_wp2_with fail
                refine (mclaim_any w0 _ M A c l _ _ _ o HO.out.px.mm (by omega) (by omega)).mono ?_
                rintro e wz ⟨k1, f1, t1, d1, rfl, hce, hm_, hg_⟩
                have HO4 := Lib.hid ((HO.out.next hm_ hg_).alloc (.cells #[.int .i64 k1, .int .i64 o, .int .i64 f1, .int .i64 t1, .int .i64 d1] 41))
                have HS4 := Lib.hid ((HS.out.grown hg_ (fun e => HO.out.px.mm.bk.ne_ HS.out (by decide) (Option.some.inj e).symm)).alloc (.cells #[.int .i64 k1, .int .i64 o, .int .i64 f1, .int .i64 t1, .int .i64 d1] 41))
                have HG4 := Lib.hid ((HG.out.grown hg_ (fun e => HO.out.px.mm.bk.ne_ HG.out (by decide) (Option.some.inj e).symm)).alloc (.cells #[.int .i64 k1, .int .i64 o, .int .i64 f1, .int .i64 t1, .int .i64 d1] 41))
                have HC4 := Lib.hid (Bk.new wz 41 #[.int .i64 k1, .int .i64 o, .int .i64 f1, .int .i64 t1, .int .i64 d1])
                have Hce := Lib.hid hce
                clear hm_ hg_ hce HO HS HG u0
                go_upto_region 23 with fail
                generalize wz.alloc (.cells #[.int .i64 k1, .int .i64 o, .int .i64 f1, .int .i64 t1, .int .i64 d1] 41) = W23 at *
                generalize wz.heap.size = D at *
                have t0 : W23.cell? ⟨T, 0, none⟩ = some (.int .i64 ax) := HS4.out.cell 0
                have t1_ : W23.cell? ⟨T, 1, none⟩ = some (.int .i64 ay) := HS4.out.cell 1
                have t2 : W23.cell? ⟨T, 2, none⟩ = some (.int .i64 bx) := HS4.out.cell 2
                have t3 : W23.cell? ⟨T, 3, none⟩ = some (.int .i64 by_) := HS4.out.cell 3
                have g0 : W23.cell? ⟨G, 0, none⟩ = some (.int .i64 gx) := HG4.out.cell 0
                have g1 : W23.cell? ⟨G, 1, none⟩ = some (.int .i64 gy) := HG4.out.cell 1
                have u3 : W23.cell? ⟨S, 3, none⟩ = some (.slice none 0 0) := HO4.out.px.s.cell 3
                have kc0 : W23.cell? ⟨D, 0, none⟩ = some (.int .i64 k1) := HC4.out.cell 0
                have kc1 : W23.cell? ⟨D, 1, none⟩ = some (.int .i64 o) := HC4.out.cell 1
                have kc2 : W23.cell? ⟨D, 2, none⟩ = some (.int .i64 f1) := HC4.out.cell 2
                have kc3 : W23.cell? ⟨D, 3, none⟩ = some (.int .i64 t1) := HC4.out.cell 3
                have kc4 : W23.cell? ⟨D, 4, none⟩ = some (.int .i64 d1) := HC4.out.cell 4
                have HCa := Lib.hid (Bk.new W23 41 #[.int .i64 k1, .int .i64 o, .int .i64 f1, .int .i64 t1, .int .i64 d1])
                have HO5 := Lib.hid (HO4.out.alloc (.cells #[.int .i64 k1, .int .i64 o, .int .i64 f1, .int .i64 t1, .int .i64 d1] 41))
                have t2a : (W23.alloc (.cells #[.int .i64 k1, .int .i64 o, .int .i64 f1, .int .i64 t1, .int .i64 d1] 41)).cell? ⟨T, 2, none⟩ = some (.int .i64 bx) := (HS4.out.alloc _).cell 2
                have t3a : (W23.alloc (.cells #[.int .i64 k1, .int .i64 o, .int .i64 f1, .int .i64 t1, .int .i64 d1] 41)).cell? ⟨T, 3, none⟩ = some (.int .i64 by_) := (HS4.out.alloc _).cell 3
                have g0a : (W23.alloc (.cells #[.int .i64 k1, .int .i64 o, .int .i64 f1, .int .i64 t1, .int .i64 d1] 41)).cell? ⟨G, 0, none⟩ = some (.int .i64 gx) := (HG4.out.alloc _).cell 0
                have g1a : (W23.alloc (.cells #[.int .i64 k1, .int .i64 o, .int .i64 f1, .int .i64 t1, .int .i64 d1] 41)).cell? ⟨G, 1, none⟩ = some (.int .i64 gy) := (HG4.out.alloc _).cell 1
                have k0a : (W23.alloc (.cells #[.int .i64 k1, .int .i64 o, .int .i64 f1, .int .i64 t1, .int .i64 d1] 41)).cell? ⟨D, 0, none⟩ = some (.int .i64 k1) := (HC4.out.alloc _).cell 0
                have k1a : (W23.alloc (.cells #[.int .i64 k1, .int .i64 o, .int .i64 f1, .int .i64 t1, .int .i64 d1] 41)).cell? ⟨D, 1, none⟩ = some (.int .i64 o) := (HC4.out.alloc _).cell 1
                have k2a : (W23.alloc (.cells #[.int .i64 k1, .int .i64 o, .int .i64 f1, .int .i64 t1, .int .i64 d1] 41)).cell? ⟨D, 2, none⟩ = some (.int .i64 f1) := (HC4.out.alloc _).cell 2
                have k3a : (W23.alloc (.cells #[.int .i64 k1, .int .i64 o, .int .i64 f1, .int .i64 t1, .int .i64 d1] 41)).cell? ⟨D, 3, none⟩ = some (.int .i64 t1) := (HC4.out.alloc _).cell 3
                have k4a : (W23.alloc (.cells #[.int .i64 k1, .int .i64 o, .int .i64 f1, .int .i64 t1, .int .i64 d1] 41)).cell? ⟨D, 4, none⟩ = some (.int .i64 d1) := (HC4.out.alloc _).cell 4
                have HCb := Lib.hid (Bk.new' (W23.alloc (.cells #[.int .i64 k1, .int .i64 o, .int .i64 f1, .int .i64 t1, .int .i64 d1] 41)) 41 #[.int .i64 k1, .int .i64 o, .int .i64 f1, .int .i64 t1, .int .i64 d1] (g := W23.heap.size + 1) (by simp))
                have HO6 := Lib.hid (HO5.out.alloc (.cells #[.int .i64 k1, .int .i64 o, .int .i64 f1, .int .i64 t1, .int .i64 d1] 41))
                have HO7 := Lib.hid (HO6.out.alloc (.cells #[.int .i64 ax, .int .i64 ay, .int .i64 gx, .int .i64 gy, .slice (some ⟨W23.heap.size, 0, none⟩) 1 1, .int .i64 gx, .int .i64 gy, .int .i64 bx, .int .i64 by_, .slice (some ⟨W23.heap.size + 1, 0, none⟩) 1 1] 62))
                have HCa7 := Lib.hid (((HCa.out.alloc (.cells #[.int .i64 k1, .int .i64 o, .int .i64 f1, .int .i64 t1, .int .i64 d1] 41)).alloc (.cells #[.int .i64 ax, .int .i64 ay, .int .i64 gx, .int .i64 gy, .slice (some ⟨W23.heap.size, 0, none⟩) 1 1, .int .i64 gx, .int .i64 gy, .int .i64 bx, .int .i64 by_, .slice (some ⟨W23.heap.size + 1, 0, none⟩) 1 1] 62)))
                have HCb7 := Lib.hid (HCb.out.alloc (.cells #[.int .i64 ax, .int .i64 ay, .int .i64 gx, .int .i64 gy, .slice (some ⟨W23.heap.size, 0, none⟩) 1 1, .int .i64 gx, .int .i64 gy, .int .i64 bx, .int .i64 by_, .slice (some ⟨W23.heap.size + 1, 0, none⟩) 1 1] 62))
                have HB7 := Lib.hid (SB.bk (Bk.new' ((W23.alloc (.cells #[.int .i64 k1, .int .i64 o, .int .i64 f1, .int .i64 t1, .int .i64 d1] 41)).alloc (.cells #[.int .i64 k1, .int .i64 o, .int .i64 f1, .int .i64 t1, .int .i64 d1] 41)) 62 #[.int .i64 ax, .int .i64 ay, .int .i64 gx, .int .i64 gy, .slice (some ⟨W23.heap.size, 0, none⟩) 1 1, .int .i64 gx, .int .i64 gy, .int .i64 bx, .int .i64 by_, .slice (some ⟨W23.heap.size + 1, 0, none⟩) 1 1] (g := W23.heap.size + 2) (by simp)))
                have hbs := HO7.out.px.g.size
                have hB7 := HB7.out.sl
                clear HO5 HO6 HCa HCb HB7 HO4
                go_wp2_with (at_builtin; refine wpList_appM' (w := ((W23.alloc (.cells #[.int .i64 k1, .int .i64 o, .int .i64 f1, .int .i64 t1, .int .i64 d1] 41)).alloc (.cells #[.int .i64 k1, .int .i64 o, .int .i64 f1, .int .i64 t1, .int .i64 d1] 41)).alloc (.cells #[.int .i64 ax, .int .i64 ay, .int .i64 gx, .int .i64 gy, .slice (some ⟨W23.heap.size, 0, none⟩) 1 1, .int .i64 gx, .int .i64 gy, .int .i64 bx, .int .i64 by_, .slice (some ⟨W23.heap.size + 1, 0, none⟩) 1 1] 62)) (us := [.int .i64 ax, .int .i64 ay, .int .i64 gx, .int .i64 gy, .slice (some ⟨W23.heap.size, 0, none⟩) 1 1, .int .i64 gx, .int .i64 gy, .int .i64 bx, .int .i64 by_, .slice (some ⟨W23.heap.size + 1, 0, none⟩) 1 1]) (xs := []) (n := 0) (m := 2) (B := some ⟨W23.heap.size + 2, 0, none⟩) (base := w.heap.size) (v := .slice none 0 0) rfl _ _ rfl elt_stroke (World.ownsRow_nil _ _ _ _) hbs rfl rfl hB7 rfl rfl (by omega) ?_; intro v8 w8 hown8 hg8; have hown9 : w8.ownsRow w.heap.size 62 5 v8 2 [.int .i64 ax, .int .i64 ay, .int .i64 gx, .int .i64 gy, .slice (some ⟨W23.heap.size, 0, none⟩) 1 1, .int .i64 gx, .int .i64 gy, .int .i64 bx, .int .i64 by_, .slice (some ⟨W23.heap.size + 1, 0, none⟩) 1 1] := hown8; clear hown8; obtain ⟨Y, cY, rfl⟩ := own_slice hown9; have HO8 := Lib.hid (HO7.out.row0 hg8); have e3 : w8.cell? ⟨S, 3, none⟩ = some (.slice none 0 0) := HO8.out.px.s.cell 3; have e4 := HO8.out.px.s.frozen 3)
                have HCa8 := Lib.hid (SB.bk (HCa7.out.grown hg8 (fun e => by cases e)))
                have HCb8 := Lib.hid (SB.bk (HCb7.out.grown hg8 (fun e => by cases e)))
                have pg : ptE gx gy = 0 := by unfold ptE; rw [if_pos (by omega)]
                have hs1 : skE o ⟨ax, ay, gx, gy, [⟨k1, o, f1, t1, d1⟩]⟩ = 0 := sk_two Hp1.out pg (fun h => Hne1.out ⟨h.1.symm, h.2.symm⟩) Hce.out rfl
                have hs2 : skE o ⟨gx, gy, bx, by_, [⟨k1, o, f1, t1, d1⟩]⟩ = 0 := sk_two pg Hp2.out Hne2.out Hce.out rfl
                have hsv : SV w8 [.int .i64 ax, .int .i64 ay, .int .i64 gx, .int .i64 gy, .slice (some ⟨W23.heap.size, 0, none⟩) 1 1, .int .i64 gx, .int .i64 gy, .int .i64 bx, .int .i64 by_, .slice (some ⟨W23.heap.size + 1, 0, none⟩) 1 1] [⟨ax, ay, gx, gy, [⟨k1, o, f1, t1, d1⟩]⟩, ⟨gx, gy, bx, by_, [⟨k1, o, f1, t1, d1⟩]⟩] := ((SV.nil w8).snoc (ax := ax) (ay := ay) (bx := gx) (by_ := gy) (C := some ⟨W23.heap.size, 0, none⟩) (c := 1) (cl := [⟨k1, o, f1, t1, d1⟩]) HCa8.out (by simp)).snoc (ax := gx) (ay := gy) (bx := bx) (by_ := by_) (C := some ⟨W23.heap.size + 1, 0, none⟩) (c := 1) (cl := [⟨k1, o, f1, t1, d1⟩]) HCb8.out (by simp)
                go_meet
                exact ⟨_, _, Y, E, cY, cE, _, by omega, Lib.hid (show OX w0 w (w8.setCell ⟨S, 3, none⟩ (.slice Y 2 cY)) M S O A c l _ (.slice (some ⟨bX, oX, none⟩) n cX) (.slice (some ⟨bI, oI, none⟩) n cI) ⟨o, n, [id], [⟨ax, ay, gx, gy, [⟨k1, o, f1, t1, d1⟩]⟩, ⟨gx, gy, bx, by_, [⟨k1, o, f1, t1, d1⟩]⟩], [], [], [(id, (i : Int))], [], []⟩ ⟨N, Y, none, none, E, none, none, cN, cY, 0, 0, cE, 0, 0⟩ ⟨qo, qn, qnd, qst, qpl, qma, qer, qdr, qrt⟩ ⟨bn, (some ⟨bS, oS, none⟩), bl, bm, be, bd, br, kn, ks, kl, km, ke, kd_, kr⟩ from HO8.out.put (i := 3) (v := .slice Y 2 cY) hw0 rfl ⟨HO8.out.px.pb.n, ⟨_, SB.own hown9, hsv⟩, HO8.out.px.pb.l, HO8.out.px.pb.m, HO8.out.px.pb.e, HO8.out.px.pb.d, HO8.out.px.pb.r⟩ (po_st HO8.out.px.ok hs1 hs2) HO8.out.px.nw ⟨own_cap hown9, Nat.zero_le _, HO8.out.px.cp.2.2⟩)⟩
             ·have b8 : decide (kd < 8) = false := decide_eq_false h8
              clear h8
              go_wp2_with fail
              go_meet
              exact ⟨[], _, none, E, 0, cE, _, by omega, HO1⟩
           case rest =>
            clear HO Hb4
            obtain ⟨st, er, Y, E, cY, cE, at5, hat5, HO⟩ := hcut
            have cq3 : wc.cell? ⟨O, 3, none⟩ = some (.slice bs qst.length ks) := HO.out.o.cell 3
            go_upto_region 24 with fail
            go_cut [186] from 186 to 186 (fun v wx => ∃ b : Bool, v = .bool b ∧ Hid (b = true → 0 < qst.length) ∧ Hid (OX w0 w wx M S O A c l at5 (.slice (some ⟨bX, oX, none⟩) n cX) (.slice (some ⟨bI, oI, none⟩) n cI) ⟨o, n, [id], st, [], [], er, [], []⟩ ⟨N, Y, none, none, E, none, none, cN, cY, 0, 0, cE, 0, 0⟩ ⟨qo, qn, qnd, qst, qpl, qma, qer, qdr, qrt⟩ ⟨bn, bs, bl, bm, be, bd, br, kn, ks, kl, km, ke, kd_, kr⟩))
            case first =>
             by_cases hl3 : 0 < qst.length
             ·have H3 := Lib.hid hl3
              by_cases h9 : kd = 9
              ·subst h9
               go_wp2_with fail
               go_meet
               exact ⟨_, rfl, Lib.hid (fun _ => H3.out), HO⟩
              ·have h9b : (kd == 9) = false := by simp [h9]
               clear h9
               go_wp2_with fail
               go_meet
               exact ⟨_, rfl, Lib.hid (fun _ => H3.out), HO⟩
             ·skip
              go_wp2_with fail
              go_meet
              exact ⟨false, rfl, Lib.hid (fun h => by cases h), HO⟩
            case rest =>
             clear HO cq3
             obtain ⟨b5, rfl, Hb5, HO⟩ := hcut
             go_upto_if 186 with fail
             go_cut [] from 186 to 186 (fun wx => ∃ (ma : List Mk) (Z : Option Addr) (cZ at2 : Nat), at2 ≤ at_ + 120 ∧ Hid (OX w0 w wx M S O A c l at2 (.slice (some ⟨bX, oX, none⟩) n cX) (.slice (some ⟨bI, oI, none⟩) n cI) ⟨o, n, [id], st, [], ma, er, [], []⟩ ⟨N, Y, none, Z, E, none, none, cN, cY, 0, cZ, cE, 0, 0⟩ ⟨qo, qn, qnd, qst, qpl, qma, qer, qdr, qrt⟩ ⟨bn, bs, bl, bm, be, bd, br, kn, ks, kl, km, ke, kd_, kr⟩))
             case first =>
              have hl3 := Hb5.out
              clear Hb5
              cases b5
              ·go_wp2_with fail
               go_meet
               exact ⟨[], none, 0, _, by omega, HO⟩
              ·have hl0 : 0 < qst.length := hl3 (by trivial)
               have hl9 : qst.length ≤ 4096 := HO.out.qo.st.1
               clear hl3
               go_wp2_with fail
               go_loopw [13] (fun v wr => ∃ (j : Nat) (ma : List Mk) (Z : Option Addr) (cZ at2 : Nat), j ≤ 3 ∧ v = .int .i64 (j : Int) ∧ at2 ≤ at5 + 4 * j ∧ Hid (ma.length = j) ∧ Hid (OX w0 w wr M S O A c l at2 (.slice (some ⟨bX, oX, none⟩) n cX) (.slice (some ⟨bI, oI, none⟩) n cI) ⟨o, n, [id], st, [], ma, er, [], []⟩ ⟨N, Y, none, Z, E, none, none, cN, cY, 0, cZ, cE, 0, 0⟩ ⟨qo, qn, qnd, qst, qpl, qma, qer, qdr, qrt⟩ ⟨bn, bs, bl, bm, be, bd, br, kn, ks, kl, km, ke, kd_, kr⟩) ∧ Hid (wr.ownsRow w.heap.size 88 7 (.slice Z j cZ) j (ma.flatMap mkC))) (fun v _ => 3 - (intOf v).toNat)
               case atStart => exact ⟨0, [], none, 0, _, by omega, rfl, by omega, Lib.hid rfl, HO, Lib.hid (World.ownsRow_nil _ _ _ _)⟩
               case round =>
                clear HO
                obtain ⟨j, ma, Z, cZ, at6, hj3, rfl, hat6, Hml, HO, HR⟩ := hrel
                have cq3 : wr.cell? ⟨O, 3, none⟩ = some (.slice bs qst.length ks) := HO.out.o.cell 3
                by_cases hjl : j < qst.length ∧ j < 3
                ·obtain ⟨hja, hjb⟩ := hjl
                 have d1_ : decide ((j : Int) < (qst.length : Int)) = true := decide_eq_true (by omega)
                 have d2_ : decide ((j : Int) < 3) = true := decide_eq_true (by omega)
                 go_upto_region 28 with fail
                 have HP := Lib.hid HO.out.drew
                 have HQ := Lib.hid (show wr.drew.ownsRow w.heap.size 88 7 (.slice Z j cZ) j (ma.flatMap mkC) from HR.out)
                 clear HO HR cq3 d1_ d2_
                 refine wp_region_noPanic ?_
                 refine region_T (s := 13) (S := fun W => W.cell? ⟨S, 5, none⟩ = some (.slice Z j cZ) ∧ W.cell? ⟨S, 0, none⟩ = some (.int .i64 o)) (by kernel_rfl) ?_
                 change wpT _ _ _ _ _ 14 _ _ wr.drew
                 generalize wr.drew = X0 at *
                 refine T_takeD (k := 0) (v := .pointer (some ⟨S, 5, none⟩)) (d := some 198) rfl rfl (by decide +kernel) (fun _ _ _ h => h) (Or.inl ⟨by rfl, fun W hW => by obtain ⟨s0, s1⟩ := hW; go_simp⟩) ⟨by rw [← Hml.out]; exact HP.out.px.s.cell 5, HP.out.px.s.cell 0⟩ ?_
                 try simp only [Act.put, qz0, qz1, qz2]
                 refine T_takeD (k := 1) (v := .slice Z j cZ) (d := some 199) rfl rfl (by decide +kernel) (fun _ _ _ h => h) (Or.inl ⟨by rfl, fun W hW => by obtain ⟨s0, s1⟩ := hW; go_simp⟩) ⟨by rw [← Hml.out]; exact HP.out.px.s.cell 5, HP.out.px.s.cell 0⟩ ?_
                 try simp only [Act.put, qz0, qz1, qz2]
                 refine T_takeD (k := 2) (v := .int .u64 id) (d := some 200) rfl rfl (by decide +kernel) (fun _ _ _ h => h) (Or.inl ⟨by rfl, fun W hW => by obtain ⟨s0, s1⟩ := hW; go_simp⟩) ⟨by rw [← Hml.out]; exact HP.out.px.s.cell 5, HP.out.px.s.cell 0⟩ ?_
                 try simp only [Act.put, qz0, qz1, qz2]
                 refine T_takeD (k := 3) (v := .int .i64 (j : Int)) (d := some 201) rfl rfl (by decide +kernel) (fun _ _ _ h => h) (Or.inl ⟨by rfl, fun W hW => by obtain ⟨s0, s1⟩ := hW; go_simp⟩) ⟨by rw [← Hml.out]; exact HP.out.px.s.cell 5, HP.out.px.s.cell 0⟩ ?_
                 try simp only [Act.put, qz0, qz1, qz2]
                 refine T_takeD (k := 4) (v := .agg #[.int .u64 id, .int .i64 (j : Int)]) (d := some 202) rfl rfl (by decide +kernel) (fun _ _ _ h => h) (Or.inl ⟨by rfl, fun W hW => by obtain ⟨s0, s1⟩ := hW; go_simp⟩) ⟨by rw [← Hml.out]; exact HP.out.px.s.cell 5, HP.out.px.s.cell 0⟩ ?_
                 try simp only [Act.put, qz0, qz1, qz2]
                 refine T_takeD (k := 5) (v := .pointer (some ⟨M, 0, none⟩)) (d := some 203) rfl rfl (by decide +kernel) (fun _ _ _ h => h) (Or.inl ⟨by rfl, fun W hW => by obtain ⟨s0, s1⟩ := hW; go_simp⟩) ⟨by rw [← Hml.out]; exact HP.out.px.s.cell 5, HP.out.px.s.cell 0⟩ ?_
                 try simp only [Act.put, qz0, qz1, qz2]
                 refine T_takeD (k := 6) (v := .pointer (some ⟨S, 0, none⟩)) (d := some 204) rfl rfl (by decide +kernel) (fun _ _ _ h => h) (Or.inl ⟨by rfl, fun W hW => by obtain ⟨s0, s1⟩ := hW; go_simp⟩) ⟨by rw [← Hml.out]; exact HP.out.px.s.cell 5, HP.out.px.s.cell 0⟩ ?_
                 try simp only [Act.put, qz0, qz1, qz2]
                 refine T_takeD (k := 7) (v := .int .i64 o) (d := some 205) rfl rfl (by decide +kernel) (fun _ _ _ h => h) (Or.inl ⟨by rfl, fun W hW => by obtain ⟨s0, s1⟩ := hW; go_simp⟩) ⟨by rw [← Hml.out]; exact HP.out.px.s.cell 5, HP.out.px.s.cell 0⟩ ?_
                 try simp only [Act.put, qz0, qz1, qz2]
                 refine T_oneS (i := 8) (by decide +kernel) (T_step rfl rfl (fun K hK8 => ?_))
                 have hK8 := Lib.hid hK8
                 go_simp
                 go_at_call 145
                 refine (mclaim_any w0 _ M A c l _ _ _ o HP.out.px.mm (by omega) (by omega)).mono ?_
                 rintro e wa ⟨k1, f1, t1, d1, rfl, hce, hm_, hg_⟩
                 have HP2 := Lib.hid (HP.out.next hm_ hg_)
                 have HQ2 := Lib.hid (own_grown HQ.out hg_ (.inr (fun e => HP.out.px.mm.bk.ne_own HQ.out (by decide) e.symm)))
                 have Hce := Lib.hid hce
                 clear hm_ hg_ HP HQ hce
                 have HP := HP2
                 have HQ := HQ2
                 clear HP2 HQ2
                 refine hK8.out _ _ ⟨by rw [← Hml.out]; exact HP.out.px.s.cell 5, HP.out.px.s.cell 0⟩ ?_
                 try simp only [Act.put, qz0, qz1, qz2]
                 refine T_oneS (i := 9) (by decide +kernel) (T_step rfl rfl (fun K hK9 => ?_))
                 have hK9 := Lib.hid hK9
                 refine wp_build_row 88 #[(0, .tmp 202), (1, .tmp 206)] rfl #[(0, .agg #[.int .u64 id, .int .i64 (j : Int)]), (1, .agg #[.int .i64 k1, .int .i64 o, .int .i64 f1, .int .i64 t1, .int .i64 d1])] (by simp [Act.eval]) _ (run_build_mark id j k1 o f1 t1 d1 _) ?_
                 refine hK9.out _ _ ⟨by rw [← Hml.out]; exact HP.out.px.s.cell 5, HP.out.px.s.cell 0⟩ ?_
                 try simp only [Act.put, qz0, qz1, qz2]
                 refine T_oneS (i := 10) (by decide +kernel) (T_step rfl rfl (fun K hK10 => ?_))
                 have hK10 := Lib.hid hK10
                 refine wp_bs_row 30 1 #[(0, .tmp 207)] rfl #[(0, .agg #[.int .u64 id, .int .i64 (j : Int), .int .i64 k1, .int .i64 o, .int .i64 f1, .int .i64 t1, .int .i64 d1])] (by simp [Act.eval]) _ (run_bs_mark id j k1 o f1 t1 d1 _) ?_
                 have HL := Lib.hid (Bk.new wa 88 #[.int .u64 id, .int .i64 (j : Int), .int .i64 k1, .int .i64 o, .int .i64 f1, .int .i64 t1, .int .i64 d1])
                 have HP2 := Lib.hid (HP.out.alloc (.cells #[.int .u64 id, .int .i64 (j : Int), .int .i64 k1, .int .i64 o, .int .i64 f1, .int .i64 t1, .int .i64 d1] 88))
                 have HQ2 := Lib.hid (own_below HQ.out ((Below.refl _ _).alloc (Nat.le_refl _) (.cells #[.int .u64 id, .int .i64 (j : Int), .int .i64 k1, .int .i64 o, .int .i64 f1, .int .i64 t1, .int .i64 d1] 88)))
                 clear HP HQ
                 have HP := HP2
                 have HQ := HQ2
                 clear HP2 HQ2
                 generalize wa.alloc (.cells #[.int .u64 id, .int .i64 (j : Int), .int .i64 k1, .int .i64 o, .int .i64 f1, .int .i64 t1, .int .i64 d1] 88) = Wl at *
                 generalize wa.heap.size = h_ at *
                 refine hK10.out _ _ ⟨by rw [← Hml.out]; exact HP.out.px.s.cell 5, HP.out.px.s.cell 0⟩ ?_
                 try simp only [Act.put, qz0, qz1, qz2]
                 refine T_oneS (i := 11) (by decide +kernel) (T_step rfl rfl (fun K hK11 => ?_))
                 have hK11 := Lib.hid hK11
                 refine app_wp (us := [.int .u64 id, .int .i64 (j : Int), .int .i64 k1, .int .i64 o, .int .i64 f1, .int .i64 t1, .int .i64 d1]) (xs := ma.flatMap mkC) (n := j) (base := w.heap.size) (c := 1) (H := h_) (v := .slice Z j cZ) (.tmp 199) (.tmp 208) rfl elt_mark (by simp [Act.eval]) (by simp [Act.eval]) HQ.out HL.out rfl rfl (by omega) HP.out.px.g.size ?_
                 intro v8 w8 hown8 hg8
                 obtain ⟨Z8, c8, rfl⟩ := own_slice hown8
                 have Hs8 := Lib.hid (HP.out.px.s.grown hg8 (HP.out.px.s.ne_own HQ.out (by decide)))
                 have hk8 : (ma ++ [(⟨id, (j : Int), ⟨k1, o, f1, t1, d1⟩⟩ : Mk)]).length = j + 1 := by rw [List.length_append, Hml.out]; rfl
                 have HF := Lib.hid (HP.out.mark (ma' := ma ++ [(⟨id, (j : Int), ⟨k1, o, f1, t1, d1⟩⟩ : Mk)]) hw0 HQ.out hg8 (by rw [List.flatMap_append]; exact hown8) hk8 (po_ma HP.out.px.ok (by rw [Hml.out]; omega) rfl (by dsimp only; omega) Hce.out rfl))
                 have Hk8 := Lib.hid hk8
                 clear hown8 hg8 HP HQ HL Hce hk8
                 refine hK11.out _ _ ⟨by rw [← Hml.out]; exact Hs8.out.cell 5, Hs8.out.cell 0⟩ ?_
                 try simp only [Act.put, qz0, qz1, qz2]
                 refine T_takeD (k := 12) (v := .pointer (some ⟨S, 5, none⟩)) (d := some 210) rfl rfl (by decide +kernel) (fun _ _ _ h => h) (Or.inl ⟨by rfl, fun W hW => by obtain ⟨s0, s1⟩ := hW; go_simp⟩) ⟨by rw [← Hml.out]; exact Hs8.out.cell 5, Hs8.out.cell 0⟩ ?_
                 try simp only [Act.put, qz0, qz1, qz2]
                 refine T_last (by decide +kernel) (by decide +kernel) (by decide +kernel) rfl rfl (fun K hKl => ?_)
                 have hKl := Lib.hid hKl
                 have d3 : w8.cell? ⟨S, 5, none⟩ = some (.slice Z j cZ) := by rw [← Hml.out]; exact Hs8.out.cell 5
                 have d4 := Hs8.out.frozen 5
                 go_simp
                 refine hKl.out _ _ (NoPanic.normal ?_)
                 try simp only [Act.put, qz0, qz1, qz2]
                 clear hKl d3 d4 Hs8
                 obtain ⟨mb, hmb⟩ : ∃ z, Hid (ma ++ [(⟨id, (j : Int), ⟨k1, o, f1, t1, d1⟩⟩ : Mk)] = z) := ⟨_, Lib.hid rfl⟩
                 rw [hmb.out] at HF Hk8
                 clear hmb
                 go_wp2_with fail
                 go_roundw
                 case rel => exact ⟨j + 1, mb, Z8, c8, at6 + 4, by omega, by go_num, by omega, Hk8, Lib.hid HF.out.1, Lib.hid HF.out.2⟩
                 case measure => simp [intOf]; omega
                ·by_cases hd1 : j < qst.length
                 ·have hd2 : ¬ j < 3 := fun h => hjl ⟨hd1, h⟩
                  have hd3 : ¬ (j : Int) < 3 := by omega
                  go_wp2_with fail
                  go_meet
                  exact ⟨ma, Z, cZ, at6, by omega, HO⟩
                 ·skip
                  go_wp2_with fail
                  go_meet
                  exact ⟨ma, Z, cZ, at6, by omega, HO⟩
             case rest =>
              clear HO Hb5
              obtain ⟨ma, Z, cZ, at6, hat6, HO⟩ := hcut
              have cq4 : wc.cell? ⟨O, 4, none⟩ = some (.slice bl qpl.length kl) := HO.out.o.cell 4
              by_cases hl4 : 0 < qpl.length
              ·skip
               have c7 : wc.cell? ⟨S, 7, none⟩ = some (.slice none 0 0) := HO.out.px.s.cell 7
               have hbs := HO.out.px.g.size
               go_wp2_with (at_builtin; refine wpList_app2 (w := wc) (xs := []) (n := 0) (base := w.heap.size) (v := .slice none 0 0) rfl _ _ rfl elt_id (World.ownsRow_nil _ _ _ _) hbs rfl rfl (by simp) rfl rfl (by omega) ?_; intro v8 w8 hown8 hg8 hz8; obtain ⟨F, cF, rfl⟩ := own_slice hown8; have HO8 := Lib.hid (HO.out.row0 hg8); have e3 : w8.cell? ⟨S, 7, none⟩ = some (.slice none 0 0) := HO8.out.px.s.cell 7; have e4 := HO8.out.px.s.frozen 7)
               go_meet
               exact ⟨_, _, at6, by omega, Lib.hid (show PX w0 w (w8.setCell ⟨S, 7, none⟩ (.slice F 1 cF)) M S A c l _ (.slice (some ⟨bX, oX, none⟩) n cX) (.slice (some ⟨bI, oI, none⟩) n cI) ⟨o, n, [id], st, [], ma, er, [(id, 0)], []⟩ ⟨N, Y, none, Z, E, F, none, cN, cY, 0, cZ, cE, cF, 0⟩ from HO8.out.px.put (i := 7) (v := .slice F 1 cF) hw0 rfl ⟨HO8.out.px.pb.n, HO8.out.px.pb.s, HO8.out.px.pb.l, HO8.out.px.pb.m, HO8.out.px.pb.e, SB.own hown8, HO8.out.px.pb.r⟩ (po_dr HO8.out.px.ok) HO8.out.px.nw HO8.out.px.cp), Lib.hid rfl, Lib.hid ⟨rfl, rfl, rfl⟩⟩
              ·skip
               go_wp2_with fail
               go_meet
               exact ⟨_, _, at6, by omega, Lib.hid HO.out.px, Lib.hid rfl, Lib.hid ⟨rfl, rfl, rfl⟩⟩
       case rest =>
        clear HP Hs Hb3
        obtain ⟨p, a, at4, hat4, HP, Hn, Hr⟩ := hcut
        obtain ⟨o, nn, nd, st, pl, ma, er, dr, rt⟩ := p
        obtain ⟨an, as_, al, am, ae, ad, ar, kn, ks, kl, km, ke, kd_, kr⟩ := a
        have hr_ := Hr.out
        have hn_ := Hn.out
        dsimp only at hr_ hn_
        obtain ⟨rfl, rfl, rfl⟩ := hr_
        subst hn_
        clear Hr Hn
        go_wp2_with fail
        refine (next_any w0 _ M A c l at4 _ _ 7 HP.out.mm (by omega) (by first | decide | omega) (by first | decide | omega)).mono ?_
        rintro e w6 ⟨x6, rfl, hx6, hm_, hg_⟩
        have HP2 := Lib.hid (HP.out.next hm_ hg_)
        clear hm_ hg_ HP
        go_upto_if 224 with fail
        go_cut [] from 224 to 224 (fun wx => ∃ (rt : List (Int × Int)) (R : Option Addr) (cR at2 : Nat), at2 ≤ at_ + 300 ∧ Hid (PX w0 w wx M S A c l at2 (.slice X n cX) (.slice I n cI) ⟨o, n, nd, st, pl, ma, er, dr, rt⟩ ⟨an, as_, al, am, ae, ad, R, kn, ks, kl, km, ke, kd_, cR⟩))
        case first =>
         by_cases h6 : x6 = 0
         ·have b6 : (x6 == 0) = true := by simp [h6]
          clear h6 hx6
          go_upto_region 32 with fail
          have HP := Lib.hid HP2.out.drew
          clear HP2
          refine wp_region_noPanic ?_
          refine region_T (s := 11) (S := fun W => W.cell? ⟨S, 8, none⟩ = some (.slice none 0 0)) (by kernel_rfl) ?_
          change wpT _ _ _ _ _ 12 _ _ w6.drew
          generalize w6.drew = X0 at *
          refine T_takeD (k := 0) (v := .pointer (some ⟨S, 8, none⟩)) (d := some 225) rfl rfl (by decide +kernel) (fun _ _ _ h => h) (Or.inl ⟨by rfl, fun W hW => by go_simp⟩) (HP.out.s.cell 8) ?_
          try simp only [Act.put, qz0, qz1, qz2]
          refine T_takeD (k := 1) (v := .slice none 0 0) (d := some 226) rfl rfl (by decide +kernel) (fun _ _ _ h => h) (Or.inl ⟨by rfl, fun W hW => by go_simp⟩) (HP.out.s.cell 8) ?_
          try simp only [Act.put, qz0, qz1, qz2]
          refine T_takeD (k := 2) (v := .pointer (some ⟨M, 0, none⟩)) (d := some 227) rfl rfl (by decide +kernel) (fun _ _ _ h => h) (Or.inl ⟨by rfl, fun W hW => by go_simp⟩) (HP.out.s.cell 8) ?_
          try simp only [Act.put, qz0, qz1, qz2]
          refine T_takeD (k := 4) (v := .pointer (some ⟨M, 0, none⟩)) (d := some 229) rfl rfl (by decide +kernel) (fun _ _ _ h => h) (Or.inl ⟨by rfl, fun W hW => by go_simp⟩) (HP.out.s.cell 8) ?_
          try simp only [Act.put, qz0, qz1, qz2]
          refine T_oneS (i := 3) (by decide +kernel) (T_step rfl rfl (fun K hK4 => ?_))
          have hK4 := Lib.hid hK4
          go_simp
          go_at_call 142
          refine (next_any w0 _ M A c l _ _ _ 4 HP.out.mm (by omega) (by decide) (by decide)).mono ?_
          rintro e wa ⟨x8, rfl, hx8, hm_, hg_⟩
          have HP2 := Lib.hid (HP.out.next hm_ hg_)
          clear hm_ hg_ HP
          have HP := HP2
          clear HP2
          refine hK4.out _ _ (HP.out.s.cell 8) ?_
          try simp only [Act.put, qz0, qz1, qz2]
          refine T_oneS (i := 5) (by decide +kernel) (T_step rfl rfl (fun K hK5 => ?_))
          have hK5 := Lib.hid hK5
          go_simp
          go_at_call 142
          refine (next_any w0 _ M A c l _ _ _ 6 HP.out.mm (by omega) (by decide) (by decide)).mono ?_
          rintro e wb ⟨x9, rfl, hx9, hm_, hg_⟩
          have HP2 := Lib.hid (HP.out.next hm_ hg_)
          clear hm_ hg_ HP
          have HP := HP2
          clear HP2
          obtain ⟨d, hd⟩ : ∃ z, Hid (100 * x9 = z) := ⟨_, Lib.hid rfl⟩
          have hdb : 0 ≤ d ∧ d ≤ 500 := by have := hd.out; omega
          have v9 : IntKind.i64.wrap (100 * x9) = d := by rw [hd.out]; exact IntWalk.i64_in _ ⟨by omega, by omega⟩
          refine hK5.out _ _ (HP.out.s.cell 8) ?_
          try simp only [Act.put, qz0, qz1, qz2]
          refine T_takeD (k := 6) (v := .int .i64 d) (d := some 231) rfl rfl (by decide +kernel) (fun _ _ _ h => h) (Or.inl ⟨by rfl, fun W hW => by go_simp⟩) (HP.out.s.cell 8) ?_
          try simp only [Act.put, qz0, qz1, qz2]
          refine T_takeD (k := 7) (v := .agg #[.int .i64 x8, .int .i64 d]) (d := some 232) rfl rfl (by decide +kernel) (fun _ _ _ h => h) (Or.inl ⟨by rfl, fun W hW => by go_simp⟩) (HP.out.s.cell 8) ?_
          try simp only [Act.put, qz0, qz1, qz2]
          refine T_oneS (i := 8) (by decide +kernel) (T_step rfl rfl (fun K hK8 => ?_))
          have hK8 := Lib.hid hK8
          go_simp
          have HL := Lib.hid (Bk.new wb 92 #[.int .i64 x8, .int .i64 d])
          have HP2 := Lib.hid (HP.out.alloc (.cells #[.int .i64 x8, .int .i64 d] 92))
          clear HP
          have HP := HP2
          clear HP2
          generalize wb.alloc (.cells #[.int .i64 x8, .int .i64 d] 92) = Wl at *
          generalize wb.heap.size = h_ at *
          refine hK8.out _ _ (HP.out.s.cell 8) ?_
          try simp only [Act.put, qz0, qz1, qz2]
          refine T_oneS (i := 9) (by decide +kernel) (T_step rfl rfl (fun K hK9 => ?_))
          have hK9 := Lib.hid hK9
          refine app_wp (us := [.int .i64 x8, .int .i64 d]) (xs := []) (n := 0) (base := w.heap.size) (c := 1) (H := h_) (v := .slice none 0 0) (.tmp 226) (.tmp 233) rfl elt_rt (by simp [Act.eval]) (by simp [Act.eval]) (World.ownsRow_nil _ _ _ _) HL.out rfl rfl (by omega) HP.out.g.size ?_
          intro v8 w8 hown8 hg8
          obtain ⟨R, cR, rfl⟩ := own_slice hown8
          have HRs := Lib.hid (SB.own hown8)
          have HP2 := Lib.hid (HP.out.row0 hg8)
          clear hown8 hg8 HP HL
          have HP := HP2
          clear HP2
          refine hK9.out _ _ (HP.out.s.cell 8) ?_
          try simp only [Act.put, qz0, qz1, qz2]
          refine T_takeD (k := 10) (v := .pointer (some ⟨S, 8, none⟩)) (d := some 235) rfl rfl (by decide +kernel) (fun _ _ _ h => h) (Or.inl ⟨by rfl, fun W hW => by go_simp⟩) (HP.out.s.cell 8) ?_
          try simp only [Act.put, qz0, qz1, qz2]
          refine T_last (by decide +kernel) (by decide +kernel) (by decide +kernel) rfl rfl (fun K hKl => ?_)
          have hKl := Lib.hid hKl
          have d3 : w8.cell? ⟨S, 8, none⟩ = some (.slice none 0 0) := HP.out.s.cell 8
          have d4 := HP.out.s.frozen 8
          go_simp
          refine hKl.out _ _ (NoPanic.normal ?_)
          try simp only [Act.put, qz0, qz1, qz2]
          have HQ := Lib.hid (show PX w0 w (w8.setCell ⟨S, 8, none⟩ (.slice R 1 cR)) M S A c l _ (.slice X n cX) (.slice I n cI) ⟨o, n, nd, st, pl, ma, er, dr, [(x8, d)]⟩ ⟨an, as_, al, am, ae, ad, R, kn, ks, kl, km, ke, kd_, cR⟩ from HP.out.put (i := 8) (v := .slice R 1 cR) hw0 rfl ⟨HP.out.pb.n, HP.out.pb.s, HP.out.pb.l, HP.out.pb.m, HP.out.pb.e, HP.out.pb.d, HRs.out⟩ (po_rt HP.out.ok (by omega) (by omega)) HP.out.nw HP.out.cp)
          clear hKl HP HRs d3 d4
          go_wp2_with fail
          go_meet
          exact ⟨[(x8, d)], R, cR, _, by omega, HQ⟩
         ·have b6 : (x6 == 0) = false := by simp [h6]
          clear h6
          go_wp2_with fail
          go_meet
          exact ⟨[], none, 0, _, by omega, HP2⟩
        case rest =>
         clear HP2
         obtain ⟨rt, R, cR, at5, hat5, HP⟩ := hcut
         have u0 : wc.cell? ⟨S, 0, none⟩ = some (.int .i64 o) := HP.out.s.cell 0
         have u1 : wc.cell? ⟨S, 1, none⟩ = some (.int .i64 n) := HP.out.s.cell 1
         have u2 : wc.cell? ⟨S, 2, none⟩ = some (.slice an nd.length kn) := HP.out.s.cell 2
         have u3 : wc.cell? ⟨S, 3, none⟩ = some (.slice as_ st.length ks) := HP.out.s.cell 3
         have u4 : wc.cell? ⟨S, 4, none⟩ = some (.slice al pl.length kl) := HP.out.s.cell 4
         have u5 : wc.cell? ⟨S, 5, none⟩ = some (.slice am ma.length km) := HP.out.s.cell 5
         have u6 : wc.cell? ⟨S, 6, none⟩ = some (.slice ae er.length ke) := HP.out.s.cell 6
         have u7 : wc.cell? ⟨S, 7, none⟩ = some (.slice ad dr.length kd_) := HP.out.s.cell 7
         have u8 : wc.cell? ⟨S, 8, none⟩ = some (.slice R rt.length cR) := HP.out.s.cell 8
         have z0 : wc.cell? ⟨w.heap.size, 0, none⟩ = some (.int .i64 0) := HP.out.z.cell 0
         have q0 := HP.out.z.frozen 0
         have z1 : wc.cell? ⟨w.heap.size, 1, none⟩ = some (.int .i64 0) := HP.out.z.cell 1
         have q1 := HP.out.z.frozen 1
         have z2 : wc.cell? ⟨w.heap.size, 2, none⟩ = some (.slice none 0 0) := HP.out.z.cell 2
         have q2 := HP.out.z.frozen 2
         have z3 : wc.cell? ⟨w.heap.size, 3, none⟩ = some (.slice none 0 0) := HP.out.z.cell 3
         have q3 := HP.out.z.frozen 3
         have z4 : wc.cell? ⟨w.heap.size, 4, none⟩ = some (.slice none 0 0) := HP.out.z.cell 4
         have q4 := HP.out.z.frozen 4
         have z5 : wc.cell? ⟨w.heap.size, 5, none⟩ = some (.slice none 0 0) := HP.out.z.cell 5
         have q5 := HP.out.z.frozen 5
         have z6 : wc.cell? ⟨w.heap.size, 6, none⟩ = some (.slice none 0 0) := HP.out.z.cell 6
         have q6 := HP.out.z.frozen 6
         have z7 : wc.cell? ⟨w.heap.size, 7, none⟩ = some (.slice none 0 0) := HP.out.z.cell 7
         have q7 := HP.out.z.frozen 7
         have z8 : wc.cell? ⟨w.heap.size, 8, none⟩ = some (.slice none 0 0) := HP.out.z.cell 8
         have q8 := HP.out.z.frozen 8
         have HR := Lib.hid (show RXc w0 w (((((((((wc.setCell ⟨w.heap.size, 0, none⟩ (.int .i64 o)).setCell ⟨w.heap.size, 1, none⟩ (.int .i64 n)).setCell ⟨w.heap.size, 2, none⟩ (.slice an nd.length kn)).setCell ⟨w.heap.size, 3, none⟩ (.slice as_ st.length ks)).setCell ⟨w.heap.size, 4, none⟩ (.slice al pl.length kl)).setCell ⟨w.heap.size, 5, none⟩ (.slice am ma.length km)).setCell ⟨w.heap.size, 6, none⟩ (.slice ae er.length ke)).setCell ⟨w.heap.size, 7, none⟩ (.slice ad dr.length kd_)).setCell ⟨w.heap.size, 8, none⟩ (.slice R rt.length cR)) M A c l at5 (.slice X n cX) (.slice I n cI) (paC ⟨o, n, nd, st, pl, ma, er, dr, rt⟩ ⟨an, as_, al, am, ae, ad, R, kn, ks, kl, km, ke, kd_, cR⟩) ⟨o, n, nd, st, pl, ma, er, dr, rt⟩ ⟨an, as_, al, am, ae, ad, R, kn, ks, kl, km, ke, kd_, cR⟩ from HP.out.res hw0)
         have Hok := Lib.hid HP.out.ok
         have Hcp := Lib.hid HP.out.cp
         clear HP
         go_wp2_with fail
         have r0 : (((((((((wc.setCell ⟨w.heap.size, 0, none⟩ (.int .i64 o)).setCell ⟨w.heap.size, 1, none⟩ (.int .i64 n)).setCell ⟨w.heap.size, 2, none⟩ (.slice an nd.length kn)).setCell ⟨w.heap.size, 3, none⟩ (.slice as_ st.length ks)).setCell ⟨w.heap.size, 4, none⟩ (.slice al pl.length kl)).setCell ⟨w.heap.size, 5, none⟩ (.slice am ma.length km)).setCell ⟨w.heap.size, 6, none⟩ (.slice ae er.length ke)).setCell ⟨w.heap.size, 7, none⟩ (.slice ad dr.length kd_)).setCell ⟨w.heap.size, 8, none⟩ (.slice R rt.length cR)).cell? ⟨w.heap.size, 0, none⟩ = some (.int .i64 o) := HR.out.z.cell 0
         have r1 : (((((((((wc.setCell ⟨w.heap.size, 0, none⟩ (.int .i64 o)).setCell ⟨w.heap.size, 1, none⟩ (.int .i64 n)).setCell ⟨w.heap.size, 2, none⟩ (.slice an nd.length kn)).setCell ⟨w.heap.size, 3, none⟩ (.slice as_ st.length ks)).setCell ⟨w.heap.size, 4, none⟩ (.slice al pl.length kl)).setCell ⟨w.heap.size, 5, none⟩ (.slice am ma.length km)).setCell ⟨w.heap.size, 6, none⟩ (.slice ae er.length ke)).setCell ⟨w.heap.size, 7, none⟩ (.slice ad dr.length kd_)).setCell ⟨w.heap.size, 8, none⟩ (.slice R rt.length cR)).cell? ⟨w.heap.size, 1, none⟩ = some (.int .i64 n) := HR.out.z.cell 1
         have r2 : (((((((((wc.setCell ⟨w.heap.size, 0, none⟩ (.int .i64 o)).setCell ⟨w.heap.size, 1, none⟩ (.int .i64 n)).setCell ⟨w.heap.size, 2, none⟩ (.slice an nd.length kn)).setCell ⟨w.heap.size, 3, none⟩ (.slice as_ st.length ks)).setCell ⟨w.heap.size, 4, none⟩ (.slice al pl.length kl)).setCell ⟨w.heap.size, 5, none⟩ (.slice am ma.length km)).setCell ⟨w.heap.size, 6, none⟩ (.slice ae er.length ke)).setCell ⟨w.heap.size, 7, none⟩ (.slice ad dr.length kd_)).setCell ⟨w.heap.size, 8, none⟩ (.slice R rt.length cR)).cell? ⟨w.heap.size, 2, none⟩ = some (.slice an nd.length kn) := HR.out.z.cell 2
         have r3 : (((((((((wc.setCell ⟨w.heap.size, 0, none⟩ (.int .i64 o)).setCell ⟨w.heap.size, 1, none⟩ (.int .i64 n)).setCell ⟨w.heap.size, 2, none⟩ (.slice an nd.length kn)).setCell ⟨w.heap.size, 3, none⟩ (.slice as_ st.length ks)).setCell ⟨w.heap.size, 4, none⟩ (.slice al pl.length kl)).setCell ⟨w.heap.size, 5, none⟩ (.slice am ma.length km)).setCell ⟨w.heap.size, 6, none⟩ (.slice ae er.length ke)).setCell ⟨w.heap.size, 7, none⟩ (.slice ad dr.length kd_)).setCell ⟨w.heap.size, 8, none⟩ (.slice R rt.length cR)).cell? ⟨w.heap.size, 3, none⟩ = some (.slice as_ st.length ks) := HR.out.z.cell 3
         have r4 : (((((((((wc.setCell ⟨w.heap.size, 0, none⟩ (.int .i64 o)).setCell ⟨w.heap.size, 1, none⟩ (.int .i64 n)).setCell ⟨w.heap.size, 2, none⟩ (.slice an nd.length kn)).setCell ⟨w.heap.size, 3, none⟩ (.slice as_ st.length ks)).setCell ⟨w.heap.size, 4, none⟩ (.slice al pl.length kl)).setCell ⟨w.heap.size, 5, none⟩ (.slice am ma.length km)).setCell ⟨w.heap.size, 6, none⟩ (.slice ae er.length ke)).setCell ⟨w.heap.size, 7, none⟩ (.slice ad dr.length kd_)).setCell ⟨w.heap.size, 8, none⟩ (.slice R rt.length cR)).cell? ⟨w.heap.size, 4, none⟩ = some (.slice al pl.length kl) := HR.out.z.cell 4
         have r5 : (((((((((wc.setCell ⟨w.heap.size, 0, none⟩ (.int .i64 o)).setCell ⟨w.heap.size, 1, none⟩ (.int .i64 n)).setCell ⟨w.heap.size, 2, none⟩ (.slice an nd.length kn)).setCell ⟨w.heap.size, 3, none⟩ (.slice as_ st.length ks)).setCell ⟨w.heap.size, 4, none⟩ (.slice al pl.length kl)).setCell ⟨w.heap.size, 5, none⟩ (.slice am ma.length km)).setCell ⟨w.heap.size, 6, none⟩ (.slice ae er.length ke)).setCell ⟨w.heap.size, 7, none⟩ (.slice ad dr.length kd_)).setCell ⟨w.heap.size, 8, none⟩ (.slice R rt.length cR)).cell? ⟨w.heap.size, 5, none⟩ = some (.slice am ma.length km) := HR.out.z.cell 5
         have r6 : (((((((((wc.setCell ⟨w.heap.size, 0, none⟩ (.int .i64 o)).setCell ⟨w.heap.size, 1, none⟩ (.int .i64 n)).setCell ⟨w.heap.size, 2, none⟩ (.slice an nd.length kn)).setCell ⟨w.heap.size, 3, none⟩ (.slice as_ st.length ks)).setCell ⟨w.heap.size, 4, none⟩ (.slice al pl.length kl)).setCell ⟨w.heap.size, 5, none⟩ (.slice am ma.length km)).setCell ⟨w.heap.size, 6, none⟩ (.slice ae er.length ke)).setCell ⟨w.heap.size, 7, none⟩ (.slice ad dr.length kd_)).setCell ⟨w.heap.size, 8, none⟩ (.slice R rt.length cR)).cell? ⟨w.heap.size, 6, none⟩ = some (.slice ae er.length ke) := HR.out.z.cell 6
         have r7 : (((((((((wc.setCell ⟨w.heap.size, 0, none⟩ (.int .i64 o)).setCell ⟨w.heap.size, 1, none⟩ (.int .i64 n)).setCell ⟨w.heap.size, 2, none⟩ (.slice an nd.length kn)).setCell ⟨w.heap.size, 3, none⟩ (.slice as_ st.length ks)).setCell ⟨w.heap.size, 4, none⟩ (.slice al pl.length kl)).setCell ⟨w.heap.size, 5, none⟩ (.slice am ma.length km)).setCell ⟨w.heap.size, 6, none⟩ (.slice ae er.length ke)).setCell ⟨w.heap.size, 7, none⟩ (.slice ad dr.length kd_)).setCell ⟨w.heap.size, 8, none⟩ (.slice R rt.length cR)).cell? ⟨w.heap.size, 7, none⟩ = some (.slice ad dr.length kd_) := HR.out.z.cell 7
         have r8 : (((((((((wc.setCell ⟨w.heap.size, 0, none⟩ (.int .i64 o)).setCell ⟨w.heap.size, 1, none⟩ (.int .i64 n)).setCell ⟨w.heap.size, 2, none⟩ (.slice an nd.length kn)).setCell ⟨w.heap.size, 3, none⟩ (.slice as_ st.length ks)).setCell ⟨w.heap.size, 4, none⟩ (.slice al pl.length kl)).setCell ⟨w.heap.size, 5, none⟩ (.slice am ma.length km)).setCell ⟨w.heap.size, 6, none⟩ (.slice ae er.length ke)).setCell ⟨w.heap.size, 7, none⟩ (.slice ad dr.length kd_)).setCell ⟨w.heap.size, 8, none⟩ (.slice R rt.length cR)).cell? ⟨w.heap.size, 8, none⟩ = some (.slice R rt.length cR) := HR.out.z.cell 8
         exact bodyPost_ret (v := .agg #[.int .i64 o, .int .i64 n, .slice an nd.length kn, .slice as_ st.length ks, .slice al pl.length kl, .slice am ma.length km, .slice ae er.length ke, .slice ad dr.length kd_, .slice R rt.length cR]) (by simp [results, Tryz.results50, go_sem, r0, r1, r2, r3, r4, r5, r6, r7, r8]) rfl ⟨⟨o, n, nd, st, pl, ma, er, dr, rt⟩, ⟨an, as_, al, am, ae, ad, R, kn, ks, kl, km, ke, kd_, cR⟩, at5, rfl, Hok.out, rfl, HR.out.pb, HR.out.nw, Hcp.out, hat5, HR.out.mm, HR.out.g⟩
end Go.Proofs.YtnapnkmehnabfaaGreat
