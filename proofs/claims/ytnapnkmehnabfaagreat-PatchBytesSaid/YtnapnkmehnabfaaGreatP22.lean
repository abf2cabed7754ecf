import Derived.Test.YtnapnkmehnabfaaGreatQB
namespace Go.Proofs.YtnapnkmehnabfaaGreat
open Go.RowKit Go.Maps
theorem plE_or (o x y of fr til : Int) (nm : ByteArray) : orE [ptE x y, if (!namB nm) = true then 6 else 0, if of = o ∧ (0 ≤ fr ∧ fr ≤ 73048) ∧ (0 ≤ til ∧ til ≤ 73048) ∧ fr ≤ til then 0 else 1] = plE o ⟨x, y, nm, of, fr, til⟩ := by
 unfold plE;dsimp only;generalize (if of = o ∧ (0 ≤ fr ∧ fr ≤ 73048) ∧ (0 ≤ til ∧ til ≤ 73048) ∧ fr ≤ til then (0 : Int) else 1) = z;by_cases e1 : ptE x y = 0
 ·rw [orE_zero e1, if_neg (show ¬ ptE x y ≠ 0 from fun h => h e1)];cases namB nm with
  | false => rfl
  | true =>
   by_cases hz : z = 0
   ·rw [hz]; rfl
   show orE [0, z] = z; rw [orE_zero rfl, orE_ne hz]
 rw [orE_ne e1, if_pos e1];exact (ptE_or _ _).resolve_left e1
set_option linter.unusedSimpArgs false in
set_option maxHeartbeats 4000000 in
set_option maxRecDepth 100000 in
theorem rule8c_any (S : Nat) (p : Pa) (a : Pw) (i x y : Int) (nm : ByteArray) (of fr til : Int) (w : World) (hk : Bk w S 34 (paC p a)) (hn : nm.size ≤ 1099511627776) :
  Calls Tryz.prog 127 #[.int .i64 i, .agg #[.int .i64 x, .int .i64 y, .string nm, .int .i64 of, .int .i64 fr, .int .i64 til], .pointer (some ⟨S, 0, none⟩)] w fun e w' => e = .returned (.int .i64 (plE p.office ⟨x, y, nm, of, fr, til⟩)) ∧ Below w.heap.size w w' := by
 have hb := (Below.refl w.heap.size w).alloc (Nat.le_refl _) (.cells #[.int .i64 x, .int .i64 y, .string nm, .int .i64 of, .int .i64 fr, .int .i64 til] 114);have hk1 := Bk.new w 114 #[.int .i64 x, .int .i64 y, .string nm, .int .i64 of, .int .i64 fr, .int .i64 til];have hk2 := hk.below hb hk.lt;obtain ⟨R, hR⟩ : ∃ z, Hid (plE p.office ⟨x, y, nm, of, fr, til⟩ = z) := ⟨_, q9 rfl⟩;rw [hR.out];obtain ⟨r1, hr1⟩ : ∃ z, Hid (ptE x y = z) := ⟨_, q9 rfl⟩;obtain ⟨b2_, hb2⟩ : ∃ z, Hid (namB nm = z) := ⟨_, q9 rfl⟩;obtain ⟨r2, hr2⟩ : ∃ z, Hid ((if (!b2_) = true then (6 : Int) else 0) = z) := ⟨_, q9 rfl⟩;have K1 := q9 (fun W => hr1.out ▸ point_any x y W);have K2 := q9 (fun W => hb2.out ▸ named_any nm W hn);have K3 := q9 (fun W => hr2.out ▸ when_any (!b2_) 6 W);obtain ⟨po, hpo⟩ : ∃ z, Hid (p.office = z) := ⟨_, q9 rfl⟩;have hRe := q9 (show orE [r1, r2, if of = po ∧ (0 ≤ fr ∧ fr ≤ 73048) ∧ (0 ≤ til ∧ til ≤ 73048) ∧ fr ≤ til then 0 else 1] = R from by rw [← hR.out, ← plE_or, hr1.out, hb2.out, hr2.out, hpo.out]);clear hk;go_enter Tryz.func127, Tryz.ntmps127
 go_upto_region 1 with fail
 generalize w.alloc (.cells #[.int .i64 x, .int .i64 y, .string nm, .int .i64 of, .int .i64 fr, .int .i64 til] 114) = W0 at *;generalize hs : w.heap.size = s at *;have Hs := q9 hs;clear hs;have Hb := q9 hb;have HSf := q9 (fun (W : World) (hW : Below W0.heap.size W0 W) => show W.cell? ⟨s, 0, none⟩ = some (.int .i64 x) ∧ W.cell? ⟨s, 1, none⟩ = some (.int .i64 y) ∧ W.cell? ⟨s, 2, none⟩ = some (.string nm) ∧ W.cell? ⟨s, 3, none⟩ = some (.int .i64 of) ∧ W.cell? ⟨s, 4, none⟩ = some (.int .i64 fr) ∧ W.cell? ⟨s, 5, none⟩ = some (.int .i64 til) ∧ W.cell? ⟨S, 0, none⟩ = some (.int .i64 po) from ⟨(hk1.below hW hk1.lt).cell 0, (hk1.below hW hk1.lt).cell 1, (hk1.below hW hk1.lt).cell 2, (hk1.below hW hk1.lt).cell 3, (hk1.below hW hk1.lt).cell 4, (hk1.below hW hk1.lt).cell 5, hpo.out ▸ (hk2.below hW hk2.lt).cell 0⟩);have HB0 := q9 ((Below.refl W0.heap.size W0).drew);have hz0 : s ≤ W0.heap.size := by have := hk1.lt; omega
 clear hb hk1 hk2 hpo hR;by_cases hok : of = po ∧ (0 ≤ fr ∧ fr ≤ 73048) ∧ (0 ≤ til ∧ til ≤ 73048) ∧ fr ≤ til
 ·rw [if_pos hok] at hRe;obtain ⟨t2, t3, t4, t5⟩ := hok;have b2 : (of != po) = false := by simp [t2]
  have t6 : ¬ til < fr := by omega
  clear t2;refine rH 36 (fun W => W.cell? ⟨s, 0, none⟩ = some (.int .i64 x) ∧ W.cell? ⟨s, 1, none⟩ = some (.int .i64 y) ∧ W.cell? ⟨s, 2, none⟩ = some (.string nm) ∧ W.cell? ⟨s, 3, none⟩ = some (.int .i64 of) ∧ W.cell? ⟨s, 4, none⟩ = some (.int .i64 fr) ∧ W.cell? ⟨s, 5, none⟩ = some (.int .i64 til) ∧ W.cell? ⟨S, 0, none⟩ = some (.int .i64 po)) ?_;generalize W0.drew = X0 at *;refine Ht 0 (.pointer (some ⟨s, 0, none⟩)) 6 rfl rfl rfl (fun W hW => by obtain ⟨s0, s1, s2, s3, s4, s5, s6⟩ := hW; go_simp) (HSf.out _ HB0.out) ?_;refine Ht 1 (.agg #[.int .i64 x, .int .i64 y]) 7 rfl rfl rfl (fun W hW => by obtain ⟨s0, s1, s2, s3, s4, s5, s6⟩ := hW; go_simp) (HSf.out _ HB0.out) ?_;refine Ht 3 (.pointer (some ⟨s, 2, none⟩)) 9 rfl rfl rfl (fun W hW => by obtain ⟨s0, s1, s2, s3, s4, s5, s6⟩ := hW; go_simp) (HSf.out _ HB0.out) ?_;refine Ht 4 (.string nm) 10 rfl rfl rfl (fun W hW => by obtain ⟨s0, s1, s2, s3, s4, s5, s6⟩ := hW; go_simp) (HSf.out _ HB0.out) ?_;refine Ht 8 (.pointer (some ⟨s, 3, none⟩)) 14 rfl rfl rfl (fun W hW => by obtain ⟨s0, s1, s2, s3, s4, s5, s6⟩ := hW; go_simp) (HSf.out _ HB0.out) ?_;refine Ht 9 (.int .i64 of) 15 rfl rfl rfl (fun W hW => by obtain ⟨s0, s1, s2, s3, s4, s5, s6⟩ := hW; go_simp) (HSf.out _ HB0.out) ?_;refine Ht 10 (.pointer (some ⟨S, 0, none⟩)) 16 rfl rfl rfl (fun W hW => by obtain ⟨s0, s1, s2, s3, s4, s5, s6⟩ := hW; go_simp) (HSf.out _ HB0.out) ?_
  refine Ht 11 (.int .i64 po) 17 rfl rfl rfl (fun W hW => by obtain ⟨s0, s1, s2, s3, s4, s5, s6⟩ := hW; go_simp) (HSf.out _ HB0.out) ?_;refine Ht 12 (.bool false) 18 rfl rfl rfl (fun W hW => by obtain ⟨s0, s1, s2, s3, s4, s5, s6⟩ := hW; go_simp) (HSf.out _ HB0.out) ?_;try simp only [Act.put, qz0, qz1, qz2]
  refine H1 2 rfl rfl (fun K hK9 => ?_);go_simp
  go_at_call 24
  refine (K1.out _).mono ?_;rintro e wv1 ⟨rfl, hv1⟩;have HB1 := q9 (HB0.out.trans (hv1.mono HB0.out.size));clear hv1;refine hK9.out _ _ (HSf.out _ HB1.out) ?_;try simp only [Act.put, qz0, qz1, qz2]
  refine H1 5 rfl rfl (fun K hK10 => ?_);go_simp
  go_at_call 128
  refine (K2.out _).mono ?_;rintro e wv2 ⟨rfl, hv2⟩;have HB2 := q9 (HB1.out.trans (hv2.mono HB1.out.size));clear hv2;refine hK10.out _ _ (HSf.out _ HB2.out) ?_;try simp only [Act.put, qz0, qz1, qz2]
  refine Ht 6 (.bool (!b2_)) 12 rfl rfl rfl (fun W hW => by obtain ⟨s0, s1, s2, s3, s4, s5, s6⟩ := hW; go_simp) (HSf.out _ HB2.out) ?_;try simp only [Act.put, qz0, qz1, qz2]
  refine H1 7 rfl rfl (fun K hK12 => ?_);go_simp
  go_at_call 110
  refine (K3.out _).mono ?_;rintro e wv ⟨rfl, rfl⟩;refine hK12.out _ _ (HSf.out _ HB2.out) ?_;try simp only [Act.put, qz0, qz1, qz2]
  refine Ht 13 (.bool false) 19 rfl rfl rfl (fun W hW => by obtain ⟨s0, s1, s2, s3, s4, s5, s6⟩ := hW; go_simp) (HSf.out _ HB2.out) ?_;try simp only [Act.put, qz0, qz1, qz2]
  refine Ht 14 (.pointer (some ⟨s, 4, none⟩)) 20 rfl rfl (by simp [Region.wanted, yielded]) (fun W hW => by obtain ⟨s0, s1, s2, s3, s4, s5, s6⟩ := hW; go_simp) (HSf.out _ HB2.out) ?_;try simp only [Act.put, qz0, qz1, qz2]
  refine Ht 15 (.int .i64 fr) 21 rfl rfl (by simp [Region.wanted, yielded]) (fun W hW => by obtain ⟨s0, s1, s2, s3, s4, s5, s6⟩ := hW; go_simp) (HSf.out _ HB2.out) ?_;try simp only [Act.put, qz0, qz1, qz2]
  refine H1g 16 rfl (by simp [Region.wanted, yielded]) (fun K hK16 => ?_);go_simp
  go_at_call 129
  refine (pday_any fr _).mono ?_;rintro e wv ⟨rfl, rfl⟩;rw [inB_true t3];refine hK16.out _ _ (HSf.out _ HB2.out) ?_;try simp only [Act.put, qz0, qz1, qz2]
  refine Ht 17 (.bool false) 23 rfl rfl (by simp [Region.wanted, yielded]) (fun W hW => by obtain ⟨s0, s1, s2, s3, s4, s5, s6⟩ := hW; go_simp) (HSf.out _ HB2.out) ?_;refine Ht 18 (.bool false) 24 rfl rfl rfl (fun W hW => by obtain ⟨s0, s1, s2, s3, s4, s5, s6⟩ := hW; go_simp) (HSf.out _ HB2.out) ?_;refine Ht 19 (.bool false) 25 rfl rfl rfl (fun W hW => by obtain ⟨s0, s1, s2, s3, s4, s5, s6⟩ := hW; go_simp) (HSf.out _ HB2.out) ?_;try simp only [Act.put, qz0, qz1, qz2]
  refine Ht 20 (.pointer (some ⟨s, 5, none⟩)) 26 rfl rfl (by simp [Region.wanted, yielded]) (fun W hW => by obtain ⟨s0, s1, s2, s3, s4, s5, s6⟩ := hW; go_simp) (HSf.out _ HB2.out) ?_;try simp only [Act.put, qz0, qz1, qz2]
  refine Ht 21 (.int .i64 til) 27 rfl rfl (by simp [Region.wanted, yielded]) (fun W hW => by obtain ⟨s0, s1, s2, s3, s4, s5, s6⟩ := hW; go_simp) (HSf.out _ HB2.out) ?_;try simp only [Act.put, qz0, qz1, qz2]
  refine H1g 22 rfl (by simp [Region.wanted, yielded]) (fun K hK22 => ?_);go_simp
  go_at_call 129
  refine (pday_any til _).mono ?_;rintro e wv ⟨rfl, rfl⟩;rw [inB_true t4];refine hK22.out _ _ (HSf.out _ HB2.out) ?_;try simp only [Act.put, qz0, qz1, qz2]
  refine Ht 23 (.bool false) 29 rfl rfl (by simp [Region.wanted, yielded]) (fun W hW => by obtain ⟨s0, s1, s2, s3, s4, s5, s6⟩ := hW; go_simp) (HSf.out _ HB2.out) ?_;refine Ht 24 (.bool false) 30 rfl rfl rfl (fun W hW => by obtain ⟨s0, s1, s2, s3, s4, s5, s6⟩ := hW; go_simp) (HSf.out _ HB2.out) ?_;refine Ht 25 (.bool false) 31 rfl rfl rfl (fun W hW => by obtain ⟨s0, s1, s2, s3, s4, s5, s6⟩ := hW; go_simp) (HSf.out _ HB2.out) ?_;try simp only [Act.put, qz0, qz1, qz2]
  refine Ht 26 (.pointer (some ⟨s, 4, none⟩)) 32 rfl rfl (by simp [Region.wanted, yielded]) (fun W hW => by obtain ⟨s0, s1, s2, s3, s4, s5, s6⟩ := hW; go_simp) (HSf.out _ HB2.out) ?_;try simp only [Act.put, qz0, qz1, qz2]
  refine Ht 27 (.int .i64 fr) 33 rfl rfl (by simp [Region.wanted, yielded]) (fun W hW => by obtain ⟨s0, s1, s2, s3, s4, s5, s6⟩ := hW; go_simp) (HSf.out _ HB2.out) ?_;try simp only [Act.put, qz0, qz1, qz2]
  refine Ht 28 (.pointer (some ⟨s, 5, none⟩)) 34 rfl rfl (by simp [Region.wanted, yielded]) (fun W hW => by obtain ⟨s0, s1, s2, s3, s4, s5, s6⟩ := hW; go_simp) (HSf.out _ HB2.out) ?_;try simp only [Act.put, qz0, qz1, qz2]
  refine Ht 29 (.int .i64 til) 35 rfl rfl (by simp [Region.wanted, yielded]) (fun W hW => by obtain ⟨s0, s1, s2, s3, s4, s5, s6⟩ := hW; go_simp) (HSf.out _ HB2.out) ?_;try simp only [Act.put, qz0, qz1, qz2]
  refine Ht 30 (.bool false) 36 rfl rfl (by simp [Region.wanted, yielded]) (fun W hW => by obtain ⟨s0, s1, s2, s3, s4, s5, s6⟩ := hW; go_simp) (HSf.out _ HB2.out) ?_;refine Ht 31 (.bool false) 37 rfl rfl rfl (fun W hW => by obtain ⟨s0, s1, s2, s3, s4, s5, s6⟩ := hW; go_simp) (HSf.out _ HB2.out) ?_;try simp only [Act.put, qz0, qz1, qz2]
  refine H1 32 rfl rfl (fun K hK32 => ?_);go_simp
  go_at_call 110
  refine (when_any false 1 _).mono ?_;rintro e wv ⟨rfl, rfl⟩;refine hK32.out _ _ (HSf.out _ HB2.out) ?_;try simp only [Act.put, qz0, qz1, qz2]
  refine H1 33 rfl rfl (fun K hK33 => ?_);go_simp
  have HB3 := q9 (HB2.out.alloc HB2.out.size (.cells #[.int .i64 r1, .int .i64 r2, .int .i64 0] 25));have hsi := q9 (show SI (wv2.alloc (.cells #[.int .i64 r1, .int .i64 r2, .int .i64 0] 25)) (some ⟨wv2.heap.size, 0, none⟩) [r1, r2, 0] from sl_bk (Bk.new wv2 25 #[.int .i64 r1, .int .i64 r2, .int .i64 0]));refine hK33.out _ _ (HSf.out _ HB3.out) ?_;try simp only [Act.put, qz0, qz1, qz2]
  generalize wv2.alloc (.cells #[.int .i64 r1, .int .i64 r2, .int .i64 0] 25) = X9 at *;generalize wv2.heap.size = h9 at *;refine H1 34 rfl rfl (fun K hK34 => ?_);go_simp
  go_at_call 114
  refine (or_any (some ⟨h9, 0, none⟩) 3 [r1, r2, 0] X9 hsi.out (by simp)).mono ?_;rintro e wv ⟨he, rfl⟩;rw [hRe.out] at he;subst he;refine hK34.out _ _ (HSf.out _ HB3.out) ?_;try simp only [Act.put, qz0, qz1, qz2]
  refine Ht 35 (.int .i64 R) 5 rfl rfl rfl (fun W hW => by obtain ⟨s0, s1, s2, s3, s4, s5, s6⟩ := hW; go_simp) (HSf.out _ HB3.out) ?_;try simp only [Act.put, qz0, qz1, qz2]
  refine H0 ?_;try simp only [Act.put, qz0, qz1, qz2]
  have Hb2 := q9 (Hb.out.trans (HB3.out.mono hz0));clear HB0 HB1 HB2 HB3 HSf K1 K2 K3 hsi;go_wp2_with fail
  go_ret
  exact ⟨rfl, by rw [Hs.out]; exact Hb2.out⟩
 rw [if_neg hok] at hRe;have hc : ¬ of = po ∨ (of = po ∧ ¬ (0 ≤ fr ∧ fr ≤ 73048)) ∨ (of = po ∧ (0 ≤ fr ∧ fr ≤ 73048) ∧ ¬ (0 ≤ til ∧ til ≤ 73048)) ∨ (of = po ∧ (0 ≤ fr ∧ fr ≤ 73048) ∧ (0 ≤ til ∧ til ≤ 73048) ∧ til < fr) := by omega
 clear hok;rcases hc with t2 | ⟨t2, t3⟩ | ⟨t2, t3, t4⟩ | ⟨t2, t3, t4, t5⟩
 ·have b2 : (of != po) = true := by simp [t2]
  clear t2;refine rH 36 (fun W => W.cell? ⟨s, 0, none⟩ = some (.int .i64 x) ∧ W.cell? ⟨s, 1, none⟩ = some (.int .i64 y) ∧ W.cell? ⟨s, 2, none⟩ = some (.string nm) ∧ W.cell? ⟨s, 3, none⟩ = some (.int .i64 of) ∧ W.cell? ⟨s, 4, none⟩ = some (.int .i64 fr) ∧ W.cell? ⟨s, 5, none⟩ = some (.int .i64 til) ∧ W.cell? ⟨S, 0, none⟩ = some (.int .i64 po)) ?_;generalize W0.drew = X0 at *;refine Ht 0 (.pointer (some ⟨s, 0, none⟩)) 6 rfl rfl rfl (fun W hW => by obtain ⟨s0, s1, s2, s3, s4, s5, s6⟩ := hW; go_simp) (HSf.out _ HB0.out) ?_;refine Ht 1 (.agg #[.int .i64 x, .int .i64 y]) 7 rfl rfl rfl (fun W hW => by obtain ⟨s0, s1, s2, s3, s4, s5, s6⟩ := hW; go_simp) (HSf.out _ HB0.out) ?_;refine Ht 3 (.pointer (some ⟨s, 2, none⟩)) 9 rfl rfl rfl (fun W hW => by obtain ⟨s0, s1, s2, s3, s4, s5, s6⟩ := hW; go_simp) (HSf.out _ HB0.out) ?_;refine Ht 4 (.string nm) 10 rfl rfl rfl (fun W hW => by obtain ⟨s0, s1, s2, s3, s4, s5, s6⟩ := hW; go_simp) (HSf.out _ HB0.out) ?_;refine Ht 8 (.pointer (some ⟨s, 3, none⟩)) 14 rfl rfl rfl (fun W hW => by obtain ⟨s0, s1, s2, s3, s4, s5, s6⟩ := hW; go_simp) (HSf.out _ HB0.out) ?_;refine Ht 9 (.int .i64 of) 15 rfl rfl rfl (fun W hW => by obtain ⟨s0, s1, s2, s3, s4, s5, s6⟩ := hW; go_simp) (HSf.out _ HB0.out) ?_;refine Ht 10 (.pointer (some ⟨S, 0, none⟩)) 16 rfl rfl rfl (fun W hW => by obtain ⟨s0, s1, s2, s3, s4, s5, s6⟩ := hW; go_simp) (HSf.out _ HB0.out) ?_
  refine Ht 11 (.int .i64 po) 17 rfl rfl rfl (fun W hW => by obtain ⟨s0, s1, s2, s3, s4, s5, s6⟩ := hW; go_simp) (HSf.out _ HB0.out) ?_;refine Ht 12 (.bool true) 18 rfl rfl rfl (fun W hW => by obtain ⟨s0, s1, s2, s3, s4, s5, s6⟩ := hW; go_simp) (HSf.out _ HB0.out) ?_;try simp only [Act.put, qz0, qz1, qz2]
  refine H1 2 rfl rfl (fun K hK9 => ?_);go_simp
  go_at_call 24
  refine (K1.out _).mono ?_;rintro e wv1 ⟨rfl, hv1⟩;have HB1 := q9 (HB0.out.trans (hv1.mono HB0.out.size));clear hv1;refine hK9.out _ _ (HSf.out _ HB1.out) ?_;try simp only [Act.put, qz0, qz1, qz2]
  refine H1 5 rfl rfl (fun K hK10 => ?_);go_simp
  go_at_call 128
  refine (K2.out _).mono ?_;rintro e wv2 ⟨rfl, hv2⟩;have HB2 := q9 (HB1.out.trans (hv2.mono HB1.out.size));clear hv2;refine hK10.out _ _ (HSf.out _ HB2.out) ?_;try simp only [Act.put, qz0, qz1, qz2]
  refine Ht 6 (.bool (!b2_)) 12 rfl rfl rfl (fun W hW => by obtain ⟨s0, s1, s2, s3, s4, s5, s6⟩ := hW; go_simp) (HSf.out _ HB2.out) ?_;try simp only [Act.put, qz0, qz1, qz2]
  refine H1 7 rfl rfl (fun K hK12 => ?_);go_simp
  go_at_call 110
  refine (K3.out _).mono ?_;rintro e wv ⟨rfl, rfl⟩;refine hK12.out _ _ (HSf.out _ HB2.out) ?_;try simp only [Act.put, qz0, qz1, qz2]
  refine Ht 13 (.bool true) 19 rfl rfl rfl (fun W hW => by obtain ⟨s0, s1, s2, s3, s4, s5, s6⟩ := hW; go_simp) (HSf.out _ HB2.out) ?_;try simp only [Act.put, qz0, qz1, qz2]
  refine Hu 14 20 rfl rfl (by simp [Region.wanted, yielded, undef]) (HSf.out _ HB2.out) ?_;try simp only [Act.put, qz0, qz1, qz2]
  refine Hu 15 21 rfl rfl (by simp [Region.wanted, yielded, undef]) (HSf.out _ HB2.out) ?_;try simp only [Act.put, qz0, qz1, qz2]
  refine Hu 16 22 rfl rfl (by simp [Region.wanted, yielded, undef]) (HSf.out _ HB2.out) ?_;try simp only [Act.put, qz0, qz1, qz2]
  refine Hu 17 23 rfl rfl (by simp [Region.wanted, yielded, undef]) (HSf.out _ HB2.out) ?_;refine Ht 18 (.bool true) 24 rfl rfl rfl (fun W hW => by obtain ⟨s0, s1, s2, s3, s4, s5, s6⟩ := hW; go_simp) (HSf.out _ HB2.out) ?_;refine Ht 19 (.bool true) 25 rfl rfl rfl (fun W hW => by obtain ⟨s0, s1, s2, s3, s4, s5, s6⟩ := hW; go_simp) (HSf.out _ HB2.out) ?_;try simp only [Act.put, qz0, qz1, qz2]
  refine Hu 20 26 rfl rfl (by simp [Region.wanted, yielded, undef]) (HSf.out _ HB2.out) ?_;try simp only [Act.put, qz0, qz1, qz2]
  refine Hu 21 27 rfl rfl (by simp [Region.wanted, yielded, undef]) (HSf.out _ HB2.out) ?_;try simp only [Act.put, qz0, qz1, qz2]
  refine Hu 22 28 rfl rfl (by simp [Region.wanted, yielded, undef]) (HSf.out _ HB2.out) ?_;try simp only [Act.put, qz0, qz1, qz2]
  refine Hu 23 29 rfl rfl (by simp [Region.wanted, yielded, undef]) (HSf.out _ HB2.out) ?_;refine Ht 24 (.bool true) 30 rfl rfl rfl (fun W hW => by obtain ⟨s0, s1, s2, s3, s4, s5, s6⟩ := hW; go_simp) (HSf.out _ HB2.out) ?_;refine Ht 25 (.bool true) 31 rfl rfl rfl (fun W hW => by obtain ⟨s0, s1, s2, s3, s4, s5, s6⟩ := hW; go_simp) (HSf.out _ HB2.out) ?_;try simp only [Act.put, qz0, qz1, qz2]
  refine Hu 26 32 rfl rfl (by simp [Region.wanted, yielded, undef]) (HSf.out _ HB2.out) ?_;try simp only [Act.put, qz0, qz1, qz2]
  refine Hu 27 33 rfl rfl (by simp [Region.wanted, yielded, undef]) (HSf.out _ HB2.out) ?_;try simp only [Act.put, qz0, qz1, qz2]
  refine Hu 28 34 rfl rfl (by simp [Region.wanted, yielded, undef]) (HSf.out _ HB2.out) ?_;try simp only [Act.put, qz0, qz1, qz2]
  refine Hu 29 35 rfl rfl (by simp [Region.wanted, yielded, undef]) (HSf.out _ HB2.out) ?_;try simp only [Act.put, qz0, qz1, qz2]
  refine Hu 30 36 rfl rfl (by simp [Region.wanted, yielded, undef]) (HSf.out _ HB2.out) ?_;refine Ht 31 (.bool true) 37 rfl rfl rfl (fun W hW => by obtain ⟨s0, s1, s2, s3, s4, s5, s6⟩ := hW; go_simp) (HSf.out _ HB2.out) ?_;try simp only [Act.put, qz0, qz1, qz2]
  refine H1 32 rfl rfl (fun K hK32 => ?_);go_simp
  go_at_call 110
  refine (when_any true 1 _).mono ?_;rintro e wv ⟨rfl, rfl⟩;refine hK32.out _ _ (HSf.out _ HB2.out) ?_;try simp only [Act.put, qz0, qz1, qz2]
  refine H1 33 rfl rfl (fun K hK33 => ?_);go_simp
  have HB3 := q9 (HB2.out.alloc HB2.out.size (.cells #[.int .i64 r1, .int .i64 r2, .int .i64 1] 25));have hsi := q9 (show SI (wv2.alloc (.cells #[.int .i64 r1, .int .i64 r2, .int .i64 1] 25)) (some ⟨wv2.heap.size, 0, none⟩) [r1, r2, 1] from sl_bk (Bk.new wv2 25 #[.int .i64 r1, .int .i64 r2, .int .i64 1]));refine hK33.out _ _ (HSf.out _ HB3.out) ?_;try simp only [Act.put, qz0, qz1, qz2]
  generalize wv2.alloc (.cells #[.int .i64 r1, .int .i64 r2, .int .i64 1] 25) = X9 at *;generalize wv2.heap.size = h9 at *;refine H1 34 rfl rfl (fun K hK34 => ?_);go_simp
  go_at_call 114
  refine (or_any (some ⟨h9, 0, none⟩) 3 [r1, r2, 1] X9 hsi.out (by simp)).mono ?_;rintro e wv ⟨he, rfl⟩;rw [hRe.out] at he;subst he;refine hK34.out _ _ (HSf.out _ HB3.out) ?_;try simp only [Act.put, qz0, qz1, qz2]
  refine Ht 35 (.int .i64 R) 5 rfl rfl rfl (fun W hW => by obtain ⟨s0, s1, s2, s3, s4, s5, s6⟩ := hW; go_simp) (HSf.out _ HB3.out) ?_;try simp only [Act.put, qz0, qz1, qz2]
  refine H0 ?_;try simp only [Act.put, qz0, qz1, qz2]
  have Hb2 := q9 (Hb.out.trans (HB3.out.mono hz0));clear HB0 HB1 HB2 HB3 HSf K1 K2 K3 hsi;go_wp2_with fail
  go_ret
  exact ⟨rfl, by rw [Hs.out]; exact Hb2.out⟩
 ·have b2 : (of != po) = false := by simp [t2]
  clear t2;refine rH 36 (fun W => W.cell? ⟨s, 0, none⟩ = some (.int .i64 x) ∧ W.cell? ⟨s, 1, none⟩ = some (.int .i64 y) ∧ W.cell? ⟨s, 2, none⟩ = some (.string nm) ∧ W.cell? ⟨s, 3, none⟩ = some (.int .i64 of) ∧ W.cell? ⟨s, 4, none⟩ = some (.int .i64 fr) ∧ W.cell? ⟨s, 5, none⟩ = some (.int .i64 til) ∧ W.cell? ⟨S, 0, none⟩ = some (.int .i64 po)) ?_;generalize W0.drew = X0 at *;refine Ht 0 (.pointer (some ⟨s, 0, none⟩)) 6 rfl rfl rfl (fun W hW => by obtain ⟨s0, s1, s2, s3, s4, s5, s6⟩ := hW; go_simp) (HSf.out _ HB0.out) ?_;refine Ht 1 (.agg #[.int .i64 x, .int .i64 y]) 7 rfl rfl rfl (fun W hW => by obtain ⟨s0, s1, s2, s3, s4, s5, s6⟩ := hW; go_simp) (HSf.out _ HB0.out) ?_;refine Ht 3 (.pointer (some ⟨s, 2, none⟩)) 9 rfl rfl rfl (fun W hW => by obtain ⟨s0, s1, s2, s3, s4, s5, s6⟩ := hW; go_simp) (HSf.out _ HB0.out) ?_;refine Ht 4 (.string nm) 10 rfl rfl rfl (fun W hW => by obtain ⟨s0, s1, s2, s3, s4, s5, s6⟩ := hW; go_simp) (HSf.out _ HB0.out) ?_;refine Ht 8 (.pointer (some ⟨s, 3, none⟩)) 14 rfl rfl rfl (fun W hW => by obtain ⟨s0, s1, s2, s3, s4, s5, s6⟩ := hW; go_simp) (HSf.out _ HB0.out) ?_;refine Ht 9 (.int .i64 of) 15 rfl rfl rfl (fun W hW => by obtain ⟨s0, s1, s2, s3, s4, s5, s6⟩ := hW; go_simp) (HSf.out _ HB0.out) ?_;refine Ht 10 (.pointer (some ⟨S, 0, none⟩)) 16 rfl rfl rfl (fun W hW => by obtain ⟨s0, s1, s2, s3, s4, s5, s6⟩ := hW; go_simp) (HSf.out _ HB0.out) ?_
  refine Ht 11 (.int .i64 po) 17 rfl rfl rfl (fun W hW => by obtain ⟨s0, s1, s2, s3, s4, s5, s6⟩ := hW; go_simp) (HSf.out _ HB0.out) ?_;refine Ht 12 (.bool false) 18 rfl rfl rfl (fun W hW => by obtain ⟨s0, s1, s2, s3, s4, s5, s6⟩ := hW; go_simp) (HSf.out _ HB0.out) ?_;try simp only [Act.put, qz0, qz1, qz2]
  refine H1 2 rfl rfl (fun K hK9 => ?_);go_simp
  go_at_call 24
  refine (K1.out _).mono ?_;rintro e wv1 ⟨rfl, hv1⟩;have HB1 := q9 (HB0.out.trans (hv1.mono HB0.out.size));clear hv1;refine hK9.out _ _ (HSf.out _ HB1.out) ?_;try simp only [Act.put, qz0, qz1, qz2]
  refine H1 5 rfl rfl (fun K hK10 => ?_);go_simp
  go_at_call 128
  refine (K2.out _).mono ?_;rintro e wv2 ⟨rfl, hv2⟩;have HB2 := q9 (HB1.out.trans (hv2.mono HB1.out.size));clear hv2;refine hK10.out _ _ (HSf.out _ HB2.out) ?_;try simp only [Act.put, qz0, qz1, qz2]
  refine Ht 6 (.bool (!b2_)) 12 rfl rfl rfl (fun W hW => by obtain ⟨s0, s1, s2, s3, s4, s5, s6⟩ := hW; go_simp) (HSf.out _ HB2.out) ?_;try simp only [Act.put, qz0, qz1, qz2]
  refine H1 7 rfl rfl (fun K hK12 => ?_);go_simp
  go_at_call 110
  refine (K3.out _).mono ?_;rintro e wv ⟨rfl, rfl⟩;refine hK12.out _ _ (HSf.out _ HB2.out) ?_;try simp only [Act.put, qz0, qz1, qz2]
  refine Ht 13 (.bool false) 19 rfl rfl rfl (fun W hW => by obtain ⟨s0, s1, s2, s3, s4, s5, s6⟩ := hW; go_simp) (HSf.out _ HB2.out) ?_;try simp only [Act.put, qz0, qz1, qz2]
  refine Ht 14 (.pointer (some ⟨s, 4, none⟩)) 20 rfl rfl (by simp [Region.wanted, yielded]) (fun W hW => by obtain ⟨s0, s1, s2, s3, s4, s5, s6⟩ := hW; go_simp) (HSf.out _ HB2.out) ?_;try simp only [Act.put, qz0, qz1, qz2]
  refine Ht 15 (.int .i64 fr) 21 rfl rfl (by simp [Region.wanted, yielded]) (fun W hW => by obtain ⟨s0, s1, s2, s3, s4, s5, s6⟩ := hW; go_simp) (HSf.out _ HB2.out) ?_;try simp only [Act.put, qz0, qz1, qz2]
  refine H1g 16 rfl (by simp [Region.wanted, yielded]) (fun K hK16 => ?_);go_simp
  go_at_call 129
  refine (pday_any fr _).mono ?_;rintro e wv ⟨rfl, rfl⟩;rw [inB_false t3];refine hK16.out _ _ (HSf.out _ HB2.out) ?_;try simp only [Act.put, qz0, qz1, qz2]
  refine Ht 17 (.bool true) 23 rfl rfl (by simp [Region.wanted, yielded]) (fun W hW => by obtain ⟨s0, s1, s2, s3, s4, s5, s6⟩ := hW; go_simp) (HSf.out _ HB2.out) ?_;refine Ht 18 (.bool true) 24 rfl rfl rfl (fun W hW => by obtain ⟨s0, s1, s2, s3, s4, s5, s6⟩ := hW; go_simp) (HSf.out _ HB2.out) ?_;refine Ht 19 (.bool true) 25 rfl rfl rfl (fun W hW => by obtain ⟨s0, s1, s2, s3, s4, s5, s6⟩ := hW; go_simp) (HSf.out _ HB2.out) ?_;try simp only [Act.put, qz0, qz1, qz2]
  refine Hu 20 26 rfl rfl (by simp [Region.wanted, yielded, undef]) (HSf.out _ HB2.out) ?_;try simp only [Act.put, qz0, qz1, qz2]
  refine Hu 21 27 rfl rfl (by simp [Region.wanted, yielded, undef]) (HSf.out _ HB2.out) ?_;try simp only [Act.put, qz0, qz1, qz2]
  refine Hu 22 28 rfl rfl (by simp [Region.wanted, yielded, undef]) (HSf.out _ HB2.out) ?_;try simp only [Act.put, qz0, qz1, qz2]
  refine Hu 23 29 rfl rfl (by simp [Region.wanted, yielded, undef]) (HSf.out _ HB2.out) ?_;refine Ht 24 (.bool true) 30 rfl rfl rfl (fun W hW => by obtain ⟨s0, s1, s2, s3, s4, s5, s6⟩ := hW; go_simp) (HSf.out _ HB2.out) ?_;refine Ht 25 (.bool true) 31 rfl rfl rfl (fun W hW => by obtain ⟨s0, s1, s2, s3, s4, s5, s6⟩ := hW; go_simp) (HSf.out _ HB2.out) ?_;try simp only [Act.put, qz0, qz1, qz2]
  refine Hu 26 32 rfl rfl (by simp [Region.wanted, yielded, undef]) (HSf.out _ HB2.out) ?_;try simp only [Act.put, qz0, qz1, qz2]
  refine Hu 27 33 rfl rfl (by simp [Region.wanted, yielded, undef]) (HSf.out _ HB2.out) ?_;try simp only [Act.put, qz0, qz1, qz2]
  refine Hu 28 34 rfl rfl (by simp [Region.wanted, yielded, undef]) (HSf.out _ HB2.out) ?_;try simp only [Act.put, qz0, qz1, qz2]
  refine Hu 29 35 rfl rfl (by simp [Region.wanted, yielded, undef]) (HSf.out _ HB2.out) ?_;try simp only [Act.put, qz0, qz1, qz2]
  refine Hu 30 36 rfl rfl (by simp [Region.wanted, yielded, undef]) (HSf.out _ HB2.out) ?_;refine Ht 31 (.bool true) 37 rfl rfl rfl (fun W hW => by obtain ⟨s0, s1, s2, s3, s4, s5, s6⟩ := hW; go_simp) (HSf.out _ HB2.out) ?_;try simp only [Act.put, qz0, qz1, qz2]
  refine H1 32 rfl rfl (fun K hK32 => ?_);go_simp
  go_at_call 110
  refine (when_any true 1 _).mono ?_;rintro e wv ⟨rfl, rfl⟩;refine hK32.out _ _ (HSf.out _ HB2.out) ?_;try simp only [Act.put, qz0, qz1, qz2]
  refine H1 33 rfl rfl (fun K hK33 => ?_);go_simp
  have HB3 := q9 (HB2.out.alloc HB2.out.size (.cells #[.int .i64 r1, .int .i64 r2, .int .i64 1] 25));have hsi := q9 (show SI (wv2.alloc (.cells #[.int .i64 r1, .int .i64 r2, .int .i64 1] 25)) (some ⟨wv2.heap.size, 0, none⟩) [r1, r2, 1] from sl_bk (Bk.new wv2 25 #[.int .i64 r1, .int .i64 r2, .int .i64 1]));refine hK33.out _ _ (HSf.out _ HB3.out) ?_;try simp only [Act.put, qz0, qz1, qz2]
  generalize wv2.alloc (.cells #[.int .i64 r1, .int .i64 r2, .int .i64 1] 25) = X9 at *;generalize wv2.heap.size = h9 at *;refine H1 34 rfl rfl (fun K hK34 => ?_);go_simp
  go_at_call 114
  refine (or_any (some ⟨h9, 0, none⟩) 3 [r1, r2, 1] X9 hsi.out (by simp)).mono ?_;rintro e wv ⟨he, rfl⟩;rw [hRe.out] at he;subst he;refine hK34.out _ _ (HSf.out _ HB3.out) ?_;try simp only [Act.put, qz0, qz1, qz2]
  refine Ht 35 (.int .i64 R) 5 rfl rfl rfl (fun W hW => by obtain ⟨s0, s1, s2, s3, s4, s5, s6⟩ := hW; go_simp) (HSf.out _ HB3.out) ?_;try simp only [Act.put, qz0, qz1, qz2]
  refine H0 ?_;try simp only [Act.put, qz0, qz1, qz2]
  have Hb2 := q9 (Hb.out.trans (HB3.out.mono hz0));clear HB0 HB1 HB2 HB3 HSf K1 K2 K3 hsi;go_wp2_with fail
  go_ret
  exact ⟨rfl, by rw [Hs.out]; exact Hb2.out⟩
 ·have b2 : (of != po) = false := by simp [t2]
  clear t2;refine rH 36 (fun W => W.cell? ⟨s, 0, none⟩ = some (.int .i64 x) ∧ W.cell? ⟨s, 1, none⟩ = some (.int .i64 y) ∧ W.cell? ⟨s, 2, none⟩ = some (.string nm) ∧ W.cell? ⟨s, 3, none⟩ = some (.int .i64 of) ∧ W.cell? ⟨s, 4, none⟩ = some (.int .i64 fr) ∧ W.cell? ⟨s, 5, none⟩ = some (.int .i64 til) ∧ W.cell? ⟨S, 0, none⟩ = some (.int .i64 po)) ?_;generalize W0.drew = X0 at *;refine Ht 0 (.pointer (some ⟨s, 0, none⟩)) 6 rfl rfl rfl (fun W hW => by obtain ⟨s0, s1, s2, s3, s4, s5, s6⟩ := hW; go_simp) (HSf.out _ HB0.out) ?_;refine Ht 1 (.agg #[.int .i64 x, .int .i64 y]) 7 rfl rfl rfl (fun W hW => by obtain ⟨s0, s1, s2, s3, s4, s5, s6⟩ := hW; go_simp) (HSf.out _ HB0.out) ?_;refine Ht 3 (.pointer (some ⟨s, 2, none⟩)) 9 rfl rfl rfl (fun W hW => by obtain ⟨s0, s1, s2, s3, s4, s5, s6⟩ := hW; go_simp) (HSf.out _ HB0.out) ?_;refine Ht 4 (.string nm) 10 rfl rfl rfl (fun W hW => by obtain ⟨s0, s1, s2, s3, s4, s5, s6⟩ := hW; go_simp) (HSf.out _ HB0.out) ?_;refine Ht 8 (.pointer (some ⟨s, 3, none⟩)) 14 rfl rfl rfl (fun W hW => by obtain ⟨s0, s1, s2, s3, s4, s5, s6⟩ := hW; go_simp) (HSf.out _ HB0.out) ?_;refine Ht 9 (.int .i64 of) 15 rfl rfl rfl (fun W hW => by obtain ⟨s0, s1, s2, s3, s4, s5, s6⟩ := hW; go_simp) (HSf.out _ HB0.out) ?_;refine Ht 10 (.pointer (some ⟨S, 0, none⟩)) 16 rfl rfl rfl (fun W hW => by obtain ⟨s0, s1, s2, s3, s4, s5, s6⟩ := hW; go_simp) (HSf.out _ HB0.out) ?_
  refine Ht 11 (.int .i64 po) 17 rfl rfl rfl (fun W hW => by obtain ⟨s0, s1, s2, s3, s4, s5, s6⟩ := hW; go_simp) (HSf.out _ HB0.out) ?_;refine Ht 12 (.bool false) 18 rfl rfl rfl (fun W hW => by obtain ⟨s0, s1, s2, s3, s4, s5, s6⟩ := hW; go_simp) (HSf.out _ HB0.out) ?_;try simp only [Act.put, qz0, qz1, qz2]
  refine H1 2 rfl rfl (fun K hK9 => ?_);go_simp
  go_at_call 24
  refine (K1.out _).mono ?_;rintro e wv1 ⟨rfl, hv1⟩;have HB1 := q9 (HB0.out.trans (hv1.mono HB0.out.size));clear hv1;refine hK9.out _ _ (HSf.out _ HB1.out) ?_;try simp only [Act.put, qz0, qz1, qz2]
  refine H1 5 rfl rfl (fun K hK10 => ?_);go_simp
  go_at_call 128
  refine (K2.out _).mono ?_;rintro e wv2 ⟨rfl, hv2⟩;have HB2 := q9 (HB1.out.trans (hv2.mono HB1.out.size));clear hv2;refine hK10.out _ _ (HSf.out _ HB2.out) ?_;try simp only [Act.put, qz0, qz1, qz2]
  refine Ht 6 (.bool (!b2_)) 12 rfl rfl rfl (fun W hW => by obtain ⟨s0, s1, s2, s3, s4, s5, s6⟩ := hW; go_simp) (HSf.out _ HB2.out) ?_;try simp only [Act.put, qz0, qz1, qz2]
  refine H1 7 rfl rfl (fun K hK12 => ?_);go_simp
  go_at_call 110
  refine (K3.out _).mono ?_;rintro e wv ⟨rfl, rfl⟩;refine hK12.out _ _ (HSf.out _ HB2.out) ?_;try simp only [Act.put, qz0, qz1, qz2]
  refine Ht 13 (.bool false) 19 rfl rfl rfl (fun W hW => by obtain ⟨s0, s1, s2, s3, s4, s5, s6⟩ := hW; go_simp) (HSf.out _ HB2.out) ?_;try simp only [Act.put, qz0, qz1, qz2]
  refine Ht 14 (.pointer (some ⟨s, 4, none⟩)) 20 rfl rfl (by simp [Region.wanted, yielded]) (fun W hW => by obtain ⟨s0, s1, s2, s3, s4, s5, s6⟩ := hW; go_simp) (HSf.out _ HB2.out) ?_;try simp only [Act.put, qz0, qz1, qz2]
  refine Ht 15 (.int .i64 fr) 21 rfl rfl (by simp [Region.wanted, yielded]) (fun W hW => by obtain ⟨s0, s1, s2, s3, s4, s5, s6⟩ := hW; go_simp) (HSf.out _ HB2.out) ?_;try simp only [Act.put, qz0, qz1, qz2]
  refine H1g 16 rfl (by simp [Region.wanted, yielded]) (fun K hK16 => ?_);go_simp
  go_at_call 129
  refine (pday_any fr _).mono ?_;rintro e wv ⟨rfl, rfl⟩;rw [inB_true t3];refine hK16.out _ _ (HSf.out _ HB2.out) ?_;try simp only [Act.put, qz0, qz1, qz2]
  refine Ht 17 (.bool false) 23 rfl rfl (by simp [Region.wanted, yielded]) (fun W hW => by obtain ⟨s0, s1, s2, s3, s4, s5, s6⟩ := hW; go_simp) (HSf.out _ HB2.out) ?_;refine Ht 18 (.bool false) 24 rfl rfl rfl (fun W hW => by obtain ⟨s0, s1, s2, s3, s4, s5, s6⟩ := hW; go_simp) (HSf.out _ HB2.out) ?_;refine Ht 19 (.bool false) 25 rfl rfl rfl (fun W hW => by obtain ⟨s0, s1, s2, s3, s4, s5, s6⟩ := hW; go_simp) (HSf.out _ HB2.out) ?_;try simp only [Act.put, qz0, qz1, qz2]
  refine Ht 20 (.pointer (some ⟨s, 5, none⟩)) 26 rfl rfl (by simp [Region.wanted, yielded]) (fun W hW => by obtain ⟨s0, s1, s2, s3, s4, s5, s6⟩ := hW; go_simp) (HSf.out _ HB2.out) ?_;try simp only [Act.put, qz0, qz1, qz2]
  refine Ht 21 (.int .i64 til) 27 rfl rfl (by simp [Region.wanted, yielded]) (fun W hW => by obtain ⟨s0, s1, s2, s3, s4, s5, s6⟩ := hW; go_simp) (HSf.out _ HB2.out) ?_;try simp only [Act.put, qz0, qz1, qz2]
  refine H1g 22 rfl (by simp [Region.wanted, yielded]) (fun K hK22 => ?_);go_simp
  go_at_call 129
  refine (pday_any til _).mono ?_;rintro e wv ⟨rfl, rfl⟩;rw [inB_false t4];refine hK22.out _ _ (HSf.out _ HB2.out) ?_;try simp only [Act.put, qz0, qz1, qz2]
  refine Ht 23 (.bool true) 29 rfl rfl (by simp [Region.wanted, yielded]) (fun W hW => by obtain ⟨s0, s1, s2, s3, s4, s5, s6⟩ := hW; go_simp) (HSf.out _ HB2.out) ?_;refine Ht 24 (.bool true) 30 rfl rfl rfl (fun W hW => by obtain ⟨s0, s1, s2, s3, s4, s5, s6⟩ := hW; go_simp) (HSf.out _ HB2.out) ?_;refine Ht 25 (.bool true) 31 rfl rfl rfl (fun W hW => by obtain ⟨s0, s1, s2, s3, s4, s5, s6⟩ := hW; go_simp) (HSf.out _ HB2.out) ?_;try simp only [Act.put, qz0, qz1, qz2]
  refine Hu 26 32 rfl rfl (by simp [Region.wanted, yielded, undef]) (HSf.out _ HB2.out) ?_;try simp only [Act.put, qz0, qz1, qz2]
  refine Hu 27 33 rfl rfl (by simp [Region.wanted, yielded, undef]) (HSf.out _ HB2.out) ?_;try simp only [Act.put, qz0, qz1, qz2]
  refine Hu 28 34 rfl rfl (by simp [Region.wanted, yielded, undef]) (HSf.out _ HB2.out) ?_;try simp only [Act.put, qz0, qz1, qz2]
  refine Hu 29 35 rfl rfl (by simp [Region.wanted, yielded, undef]) (HSf.out _ HB2.out) ?_;try simp only [Act.put, qz0, qz1, qz2]
  refine Hu 30 36 rfl rfl (by simp [Region.wanted, yielded, undef]) (HSf.out _ HB2.out) ?_;refine Ht 31 (.bool true) 37 rfl rfl rfl (fun W hW => by obtain ⟨s0, s1, s2, s3, s4, s5, s6⟩ := hW; go_simp) (HSf.out _ HB2.out) ?_;try simp only [Act.put, qz0, qz1, qz2]
  refine H1 32 rfl rfl (fun K hK32 => ?_);go_simp
  go_at_call 110
  refine (when_any true 1 _).mono ?_;rintro e wv ⟨rfl, rfl⟩;refine hK32.out _ _ (HSf.out _ HB2.out) ?_;try simp only [Act.put, qz0, qz1, qz2]
  refine H1 33 rfl rfl (fun K hK33 => ?_);go_simp
  have HB3 := q9 (HB2.out.alloc HB2.out.size (.cells #[.int .i64 r1, .int .i64 r2, .int .i64 1] 25));have hsi := q9 (show SI (wv2.alloc (.cells #[.int .i64 r1, .int .i64 r2, .int .i64 1] 25)) (some ⟨wv2.heap.size, 0, none⟩) [r1, r2, 1] from sl_bk (Bk.new wv2 25 #[.int .i64 r1, .int .i64 r2, .int .i64 1]));refine hK33.out _ _ (HSf.out _ HB3.out) ?_;try simp only [Act.put, qz0, qz1, qz2]
  generalize wv2.alloc (.cells #[.int .i64 r1, .int .i64 r2, .int .i64 1] 25) = X9 at *;generalize wv2.heap.size = h9 at *;refine H1 34 rfl rfl (fun K hK34 => ?_);go_simp
  go_at_call 114
  refine (or_any (some ⟨h9, 0, none⟩) 3 [r1, r2, 1] X9 hsi.out (by simp)).mono ?_;rintro e wv ⟨he, rfl⟩;rw [hRe.out] at he;subst he;refine hK34.out _ _ (HSf.out _ HB3.out) ?_;try simp only [Act.put, qz0, qz1, qz2]
  refine Ht 35 (.int .i64 R) 5 rfl rfl rfl (fun W hW => by obtain ⟨s0, s1, s2, s3, s4, s5, s6⟩ := hW; go_simp) (HSf.out _ HB3.out) ?_;try simp only [Act.put, qz0, qz1, qz2]
  refine H0 ?_;try simp only [Act.put, qz0, qz1, qz2]
  have Hb2 := q9 (Hb.out.trans (HB3.out.mono hz0));clear HB0 HB1 HB2 HB3 HSf K1 K2 K3 hsi;go_wp2_with fail
  go_ret
  exact ⟨rfl, by rw [Hs.out]; exact Hb2.out⟩
 have b2 : (of != po) = false := by simp [t2]
 clear t2;refine rH 36 (fun W => W.cell? ⟨s, 0, none⟩ = some (.int .i64 x) ∧ W.cell? ⟨s, 1, none⟩ = some (.int .i64 y) ∧ W.cell? ⟨s, 2, none⟩ = some (.string nm) ∧ W.cell? ⟨s, 3, none⟩ = some (.int .i64 of) ∧ W.cell? ⟨s, 4, none⟩ = some (.int .i64 fr) ∧ W.cell? ⟨s, 5, none⟩ = some (.int .i64 til) ∧ W.cell? ⟨S, 0, none⟩ = some (.int .i64 po)) ?_;generalize W0.drew = X0 at *;refine Ht 0 (.pointer (some ⟨s, 0, none⟩)) 6 rfl rfl rfl (fun W hW => by obtain ⟨s0, s1, s2, s3, s4, s5, s6⟩ := hW; go_simp) (HSf.out _ HB0.out) ?_;refine Ht 1 (.agg #[.int .i64 x, .int .i64 y]) 7 rfl rfl rfl (fun W hW => by obtain ⟨s0, s1, s2, s3, s4, s5, s6⟩ := hW; go_simp) (HSf.out _ HB0.out) ?_;refine Ht 3 (.pointer (some ⟨s, 2, none⟩)) 9 rfl rfl rfl (fun W hW => by obtain ⟨s0, s1, s2, s3, s4, s5, s6⟩ := hW; go_simp) (HSf.out _ HB0.out) ?_;refine Ht 4 (.string nm) 10 rfl rfl rfl (fun W hW => by obtain ⟨s0, s1, s2, s3, s4, s5, s6⟩ := hW; go_simp) (HSf.out _ HB0.out) ?_;refine Ht 8 (.pointer (some ⟨s, 3, none⟩)) 14 rfl rfl rfl (fun W hW => by obtain ⟨s0, s1, s2, s3, s4, s5, s6⟩ := hW; go_simp) (HSf.out _ HB0.out) ?_;refine Ht 9 (.int .i64 of) 15 rfl rfl rfl (fun W hW => by obtain ⟨s0, s1, s2, s3, s4, s5, s6⟩ := hW; go_simp) (HSf.out _ HB0.out) ?_;refine Ht 10 (.pointer (some ⟨S, 0, none⟩)) 16 rfl rfl rfl (fun W hW => by obtain ⟨s0, s1, s2, s3, s4, s5, s6⟩ := hW; go_simp) (HSf.out _ HB0.out) ?_
 refine Ht 11 (.int .i64 po) 17 rfl rfl rfl (fun W hW => by obtain ⟨s0, s1, s2, s3, s4, s5, s6⟩ := hW; go_simp) (HSf.out _ HB0.out) ?_;refine Ht 12 (.bool false) 18 rfl rfl rfl (fun W hW => by obtain ⟨s0, s1, s2, s3, s4, s5, s6⟩ := hW; go_simp) (HSf.out _ HB0.out) ?_;try simp only [Act.put, qz0, qz1, qz2]
 refine H1 2 rfl rfl (fun K hK9 => ?_);go_simp
 go_at_call 24
 refine (K1.out _).mono ?_;rintro e wv1 ⟨rfl, hv1⟩;have HB1 := q9 (HB0.out.trans (hv1.mono HB0.out.size));clear hv1;refine hK9.out _ _ (HSf.out _ HB1.out) ?_;try simp only [Act.put, qz0, qz1, qz2]
 refine H1 5 rfl rfl (fun K hK10 => ?_);go_simp
 go_at_call 128
 refine (K2.out _).mono ?_;rintro e wv2 ⟨rfl, hv2⟩;have HB2 := q9 (HB1.out.trans (hv2.mono HB1.out.size));clear hv2;refine hK10.out _ _ (HSf.out _ HB2.out) ?_;try simp only [Act.put, qz0, qz1, qz2]
 refine Ht 6 (.bool (!b2_)) 12 rfl rfl rfl (fun W hW => by obtain ⟨s0, s1, s2, s3, s4, s5, s6⟩ := hW; go_simp) (HSf.out _ HB2.out) ?_;try simp only [Act.put, qz0, qz1, qz2]
 refine H1 7 rfl rfl (fun K hK12 => ?_);go_simp
 go_at_call 110
 refine (K3.out _).mono ?_;rintro e wv ⟨rfl, rfl⟩;refine hK12.out _ _ (HSf.out _ HB2.out) ?_;try simp only [Act.put, qz0, qz1, qz2]
 refine Ht 13 (.bool false) 19 rfl rfl rfl (fun W hW => by obtain ⟨s0, s1, s2, s3, s4, s5, s6⟩ := hW; go_simp) (HSf.out _ HB2.out) ?_;try simp only [Act.put, qz0, qz1, qz2]
 refine Ht 14 (.pointer (some ⟨s, 4, none⟩)) 20 rfl rfl (by simp [Region.wanted, yielded]) (fun W hW => by obtain ⟨s0, s1, s2, s3, s4, s5, s6⟩ := hW; go_simp) (HSf.out _ HB2.out) ?_;try simp only [Act.put, qz0, qz1, qz2]
 refine Ht 15 (.int .i64 fr) 21 rfl rfl (by simp [Region.wanted, yielded]) (fun W hW => by obtain ⟨s0, s1, s2, s3, s4, s5, s6⟩ := hW; go_simp) (HSf.out _ HB2.out) ?_;try simp only [Act.put, qz0, qz1, qz2]
 refine H1g 16 rfl (by simp [Region.wanted, yielded]) (fun K hK16 => ?_);go_simp
 go_at_call 129
 refine (pday_any fr _).mono ?_;rintro e wv ⟨rfl, rfl⟩;rw [inB_true t3];refine hK16.out _ _ (HSf.out _ HB2.out) ?_;try simp only [Act.put, qz0, qz1, qz2]
 refine Ht 17 (.bool false) 23 rfl rfl (by simp [Region.wanted, yielded]) (fun W hW => by obtain ⟨s0, s1, s2, s3, s4, s5, s6⟩ := hW; go_simp) (HSf.out _ HB2.out) ?_;refine Ht 18 (.bool false) 24 rfl rfl rfl (fun W hW => by obtain ⟨s0, s1, s2, s3, s4, s5, s6⟩ := hW; go_simp) (HSf.out _ HB2.out) ?_;refine Ht 19 (.bool false) 25 rfl rfl rfl (fun W hW => by obtain ⟨s0, s1, s2, s3, s4, s5, s6⟩ := hW; go_simp) (HSf.out _ HB2.out) ?_;try simp only [Act.put, qz0, qz1, qz2]
 refine Ht 20 (.pointer (some ⟨s, 5, none⟩)) 26 rfl rfl (by simp [Region.wanted, yielded]) (fun W hW => by obtain ⟨s0, s1, s2, s3, s4, s5, s6⟩ := hW; go_simp) (HSf.out _ HB2.out) ?_;try simp only [Act.put, qz0, qz1, qz2]
 refine Ht 21 (.int .i64 til) 27 rfl rfl (by simp [Region.wanted, yielded]) (fun W hW => by obtain ⟨s0, s1, s2, s3, s4, s5, s6⟩ := hW; go_simp) (HSf.out _ HB2.out) ?_;try simp only [Act.put, qz0, qz1, qz2]
 refine H1g 22 rfl (by simp [Region.wanted, yielded]) (fun K hK22 => ?_);go_simp
 go_at_call 129
 refine (pday_any til _).mono ?_;rintro e wv ⟨rfl, rfl⟩;rw [inB_true t4];refine hK22.out _ _ (HSf.out _ HB2.out) ?_;try simp only [Act.put, qz0, qz1, qz2]
 refine Ht 23 (.bool false) 29 rfl rfl (by simp [Region.wanted, yielded]) (fun W hW => by obtain ⟨s0, s1, s2, s3, s4, s5, s6⟩ := hW; go_simp) (HSf.out _ HB2.out) ?_;refine Ht 24 (.bool false) 30 rfl rfl rfl (fun W hW => by obtain ⟨s0, s1, s2, s3, s4, s5, s6⟩ := hW; go_simp) (HSf.out _ HB2.out) ?_;refine Ht 25 (.bool false) 31 rfl rfl rfl (fun W hW => by obtain ⟨s0, s1, s2, s3, s4, s5, s6⟩ := hW; go_simp) (HSf.out _ HB2.out) ?_;try simp only [Act.put, qz0, qz1, qz2]
 refine Ht 26 (.pointer (some ⟨s, 4, none⟩)) 32 rfl rfl (by simp [Region.wanted, yielded]) (fun W hW => by obtain ⟨s0, s1, s2, s3, s4, s5, s6⟩ := hW; go_simp) (HSf.out _ HB2.out) ?_;try simp only [Act.put, qz0, qz1, qz2]
 refine Ht 27 (.int .i64 fr) 33 rfl rfl (by simp [Region.wanted, yielded]) (fun W hW => by obtain ⟨s0, s1, s2, s3, s4, s5, s6⟩ := hW; go_simp) (HSf.out _ HB2.out) ?_;try simp only [Act.put, qz0, qz1, qz2]
 refine Ht 28 (.pointer (some ⟨s, 5, none⟩)) 34 rfl rfl (by simp [Region.wanted, yielded]) (fun W hW => by obtain ⟨s0, s1, s2, s3, s4, s5, s6⟩ := hW; go_simp) (HSf.out _ HB2.out) ?_;try simp only [Act.put, qz0, qz1, qz2]
 refine Ht 29 (.int .i64 til) 35 rfl rfl (by simp [Region.wanted, yielded]) (fun W hW => by obtain ⟨s0, s1, s2, s3, s4, s5, s6⟩ := hW; go_simp) (HSf.out _ HB2.out) ?_;try simp only [Act.put, qz0, qz1, qz2]
 refine Ht 30 (.bool true) 36 rfl rfl (by simp [Region.wanted, yielded]) (fun W hW => by obtain ⟨s0, s1, s2, s3, s4, s5, s6⟩ := hW; go_simp) (HSf.out _ HB2.out) ?_;refine Ht 31 (.bool true) 37 rfl rfl rfl (fun W hW => by obtain ⟨s0, s1, s2, s3, s4, s5, s6⟩ := hW; go_simp) (HSf.out _ HB2.out) ?_;try simp only [Act.put, qz0, qz1, qz2]
 refine H1 32 rfl rfl (fun K hK32 => ?_);go_simp
 go_at_call 110
 refine (when_any true 1 _).mono ?_;rintro e wv ⟨rfl, rfl⟩;refine hK32.out _ _ (HSf.out _ HB2.out) ?_;try simp only [Act.put, qz0, qz1, qz2]
 refine H1 33 rfl rfl (fun K hK33 => ?_);go_simp
 have HB3 := q9 (HB2.out.alloc HB2.out.size (.cells #[.int .i64 r1, .int .i64 r2, .int .i64 1] 25));have hsi := q9 (show SI (wv2.alloc (.cells #[.int .i64 r1, .int .i64 r2, .int .i64 1] 25)) (some ⟨wv2.heap.size, 0, none⟩) [r1, r2, 1] from sl_bk (Bk.new wv2 25 #[.int .i64 r1, .int .i64 r2, .int .i64 1]));refine hK33.out _ _ (HSf.out _ HB3.out) ?_;try simp only [Act.put, qz0, qz1, qz2]
 generalize wv2.alloc (.cells #[.int .i64 r1, .int .i64 r2, .int .i64 1] 25) = X9 at *;generalize wv2.heap.size = h9 at *;refine H1 34 rfl rfl (fun K hK34 => ?_);go_simp
 go_at_call 114
 refine (or_any (some ⟨h9, 0, none⟩) 3 [r1, r2, 1] X9 hsi.out (by simp)).mono ?_;rintro e wv ⟨he, rfl⟩;rw [hRe.out] at he;subst he;refine hK34.out _ _ (HSf.out _ HB3.out) ?_;try simp only [Act.put, qz0, qz1, qz2]
 refine Ht 35 (.int .i64 R) 5 rfl rfl rfl (fun W hW => by obtain ⟨s0, s1, s2, s3, s4, s5, s6⟩ := hW; go_simp) (HSf.out _ HB3.out) ?_;try simp only [Act.put, qz0, qz1, qz2]
 refine H0 ?_;try simp only [Act.put, qz0, qz1, qz2]
 have Hb2 := q9 (Hb.out.trans (HB3.out.mono hz0));clear HB0 HB1 HB2 HB3 HSf K1 K2 K3 hsi;go_wp2_with fail
 go_ret
 exact ⟨rfl, by rw [Hs.out]; exact Hb2.out⟩
end Go.Proofs.YtnapnkmehnabfaaGreat
