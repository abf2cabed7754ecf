import Derived.Test.YtnapnkmehnabfaaGreatQC
import Derived.Test.YtnapnkmehnabfaaGreatP31
namespace Go.Proofs.YtnapnkmehnabfaaGreat
open Go.RowKit Go.Maps
theorem orE_mem : ∀ {l : List Int}, orE l = 0 → ∀ x ∈ l, x = 0
 | [], _, x, h => by cases h
 | y :: l, h, x, hx => by
  have hy : y = 0 := by
   by_cases e : y = 0
   ·exact e
   rw [orE_ne e] at h; exact h
  rw [orE_zero hy] at h;rcases List.mem_cons.1 hx with e | e
  ·rw [e]; exact hy
  exact orE_mem h x e
theorem eachE_at {f : Nat → Int} {n i : Nat} (h : eachE f n = 0) (hi : i < n) : f i = 0 :=
 orE_mem h _ (List.mem_map.2 ⟨i, List.mem_range.2 hi, rfl⟩)
theorem clE_ok {c : Cl} (h : clE c = 0) : clW64 c := by
 unfold clE at h;split at h
 ·refine ⟨?_, ?_, ?_, ?_, ?_⟩ <;> (unfold i64; omega)
 cases h
theorem ptE_ok {x y : Int} (h : ptE x y = 0) : i64 x ∧ i64 y := by
 unfold ptE at h;split at h
 ·refine ⟨?_, ?_⟩ <;> (unfold i64; omega)
 cases h
structure PEn (p : Pa) : Prop where
 w : PW64 p
 nn : p.needs.length ≤ 64
 s : p.st.length ≤ 4096
 l : p.pl.length ≤ 4096
 m : p.ma.length ≤ 4096
 e : p.er.length ≤ 4096
 d : p.dr.length ≤ 4096
 r : p.rt.length ≤ 4096
 c : ∀ x ∈ p.st, x.cl.length ≤ 64
 x : ∀ x ∈ p.pl, x.nm.size ≤ 1000
theorem mem_at {α : Type} {l : List α} {x : α} (h : x ∈ l) : ∃ i : Nat, i < l.length ∧ l[i]? = some x := by
 obtain ⟨i, hi, e⟩ := List.mem_iff_getElem.1 h;exact ⟨i, hi, by rw [List.getElem?_eq_getElem hi, e]⟩
theorem idE_ok {needs : List Int} {l : List (Int × Int)} (hn : ∀ x ∈ needs, u64 x) (h : eachE (idE needs l) l.length = 0) : ∀ x ∈ l, idW64 x := by
 intro x hx;obtain ⟨i, hi, e⟩ := mem_at hx;have h1 := eachE_at h hi;unfold idE at h1;rw [List.getD_eq_getElem?_getD, e, Option.getD_some] at h1;by_cases e1 : x.1 ∈ needs
 ·rw [if_neg (by simp [e1])] at h1;by_cases e2 : 0 ≤ x.2 ∧ x.2 ≤ 4095
  ·exact ⟨hn _ e1, by unfold i64; omega⟩
  rw [if_pos e2] at h1; cases h1
 rw [if_pos e1] at h1; cases h1
theorem paE_ok {p : Pa} (hn : ∀ x ∈ p.needs, u64 x) (h : paE p = 0) : PEn p := by
 have ha := orE_mem h (argE p) (by simp [paL]);have hl := orE_mem h (limE p) (by simp [paL]);have hs := orE_mem h (eachE (skW p.office p.st) p.st.length) (by simp [paL]);have hp := orE_mem h (eachE (plW p.office p.pl) p.pl.length) (by simp [paL]);have hm := orE_mem h (eachE (mkW p.office p.needs p.ma) p.ma.length) (by simp [paL]);have he := orE_mem h (eachE (idE p.needs p.er) p.er.length) (by simp [paL]);have hd := orE_mem h (eachE (idE p.needs p.dr) p.dr.length) (by simp [paL]);have hr := orE_mem h (eachE (rtW p.rt) p.rt.length) (by simp [paL]);unfold argE at ha;split at ha
 case isFalse => cases ha
 case isTrue h1 =>
 unfold limE at hl;split at hl
 case isFalse => cases hl
 case isTrue h2 =>
 have hsk : ∀ x ∈ p.st, skW64 x ∧ x.cl.length ≤ 64 := fun x hx => by
  obtain ⟨i, hi, e⟩ := mem_at hx;have h3 := eachE_at hs hi;rw [skW, e] at h3;dsimp only at h3;unfold skE at h3;split at h3
  ·cases h3
  rename_i e1;split at h3
  ·cases h3
  split at h3
  ·cases h3
  rename_i e3;have a1 := ptE_ok (Decidable.of_not_not fun h => e1 (.inl h));have a2 := ptE_ok (Decidable.of_not_not fun h => e1 (.inr h));refine ⟨⟨a1.1, a1.2, a2.1, a2.2, fun c hc => ?_⟩, by omega⟩;obtain ⟨j, hj, ec⟩ := mem_at hc;have h4 := eachE_at h3 hj;rw [clW, ec] at h4;dsimp only at h4;split at h4
  ·cases h4
  rename_i e4;exact clE_ok (Decidable.of_not_not fun h => e4 (.inl h))
 have hpl : ∀ x ∈ p.pl, plW64 x ∧ x.nm.size ≤ 1000 := fun x hx => by
  obtain ⟨i, hi, e⟩ := mem_at hx;have h3 := eachE_at hp hi;rw [plW, e] at h3;dsimp only at h3;unfold plE at h3;split at h3
  ·cases h3
  rename_i e1;split at h3
  ·cases h3
  rename_i e2;split at h3
  ·rename_i e3;have a1 := ptE_ok (Decidable.of_not_not e1);have hnm : namB x.nm = true := by simpa using e2
   unfold namB at hnm;simp only [Bool.and_eq_true, decide_eq_true_eq] at hnm;have := hnm.1.2;refine ⟨⟨a1.1, a1.2, ?_, ?_, ?_⟩, by omega⟩ <;> (unfold i64; omega)
  cases h3
 have hmk : ∀ x ∈ p.ma, mkW64 x := fun x hx => by
  obtain ⟨i, hi, e⟩ := mem_at hx;have h3 := eachE_at hm hi;rw [mkW, e] at h3;dsimp only at h3;split at h3
  ·cases h3
  rename_i e1;split at h3
  ·cases h3
  rename_i e2;have e3 : 0 ≤ x.i ∧ x.i ≤ 4095 := Decidable.of_not_not fun h => e2 (.inl h);exact ⟨hn _ (Decidable.of_not_not e1), by unfold i64; omega, clE_ok (Decidable.of_not_not fun h => e2 (.inr (.inl h)))⟩
 have hrt : ∀ x ∈ p.rt, rtW64 x := fun x hx => by
  obtain ⟨i, hi, e⟩ := mem_at hx;have h3 := eachE_at hr hi;rw [rtW, e] at h3;dsimp only at h3;split at h3
  ·exact ⟨by unfold i64; omega, by unfold i64; omega⟩
  cases h3
 exact ⟨⟨by unfold i64; omega, by unfold i64; omega, hn, fun x hx => (hsk x hx).1, fun x hx => (hpl x hx).1, hmk, idE_ok hn he, idE_ok hn hd, hrt⟩, h2.1, h2.2.1, h2.2.2.1, h2.2.2.2.1, h2.2.2.2.2.1, h2.2.2.2.2.2.1, h2.2.2.2.2.2.2, fun x hx => (hsk x hx).2, fun x hx => (hpl x hx).2⟩
theorem ls_bd {α : Type} {f : α → List Nat} {K : Nat} {l : List α} (h : ∀ x ∈ l, (f x).length ≤ K) (hl : l.length ≤ 4096) (hK : K ≤ 4000) : (lsB f l).length ≤ 17000000 := by
 have h1 := lsB_len f K l h (by omega);have h2 := Nat.mul_le_mul hl hK;omega
theorem paB_len {p : Pa} (h : PEn p) : (paB p).length ≤ 100000000 := by
 have e0 := vbs_len [p.office, p.num] (w64_cons h.w.o (w64_cons h.w.k w64_nil));have e1 := lsB_len ndB 10 p.needs (fun x hx => ndB_len (h.w.n x hx)) (by have := h.nn; omega);have e2 := lsB_len skB 3250 p.st (fun x hx => skB_len (h.w.s x hx) (h.c x hx)) (by have := h.s; omega);have e3 := lsB_len plB 1060 p.pl (fun x hx => plB_len (h.w.l x hx) (h.x x hx)) (by have := h.l; omega);have e4 := lsB_len mkB 70 p.ma (fun x hx => mkB_len (h.w.m x hx)) (by have := h.m; omega);have e5 := lsB_len idB 20 p.er (fun x hx => idB_len (h.w.e x hx)) (by have := h.e; omega);have e6 := lsB_len idB 20 p.dr (fun x hx => idB_len (h.w.d x hx)) (by have := h.d; omega);have e7 := lsB_len rtB 20 p.rt (fun x hx => rtB_len (h.w.r x hx)) (by have := h.r; omega);have m1 := h.nn; have m2 := h.s; have m3 := h.l; have m4 := h.m; have m5 := h.e; have m6 := h.d; have m7 := h.r;simp only [paB, List.length_append, List.length_cons, List.length_nil] at e0 ⊢;omega
set_option linter.unusedSimpArgs false in
set_option maxHeartbeats 8000000 in
set_option maxRecDepth 100000 in
theorem encode_any (p : Pa) (a : Pw) (w : World) (h : PT w p a) (hl : PLn p) (hn : ∀ x ∈ p.needs, u64 x) :
  Calls Tryz.prog 22 #[.agg (paC p a)] w fun e w' => Below w.heap.size w w' ∧ ((paE p ≠ 0 ∧ e = .returned (.tuple #[.slice none 0 0, .int .i64 (paE p)])) ∨
   (paE p = 0 ∧ ∃ A c, e = .returned (.tuple #[.slice A (paB p).length c, .int .i64 0]) ∧ w'.ownsRow w.heap.size 5 1 (.slice A (paB p).length c) (paB p).length (byV (paB p)))) := by
 have hb0 := (Below.refl w.heap.size w).alloc (Nat.le_refl _) (.cells #[.int .i64 p.office, .int .i64 p.num, .slice a.n p.needs.length a.cn, .slice a.s p.st.length a.cs, .slice a.l p.pl.length a.cl, .slice a.m p.ma.length a.cm, .slice a.e p.er.length a.ce, .slice a.d p.dr.length a.cd, .slice a.r p.rt.length a.cr] 34);have hk := Bk.new w 34 #[.int .i64 p.office, .int .i64 p.num, .slice a.n p.needs.length a.cn, .slice a.s p.st.length a.cs, .slice a.l p.pl.length a.cl, .slice a.m p.ma.length a.cm, .slice a.e p.er.length a.ce, .slice a.d p.dr.length a.cd, .slice a.r p.rt.length a.cr];have HV := q9 (patchValid_any p a _ (h.below hb0) hl);show Calls Tryz.prog 22 #[.agg #[.int .i64 p.office, .int .i64 p.num, .slice a.n p.needs.length a.cn, .slice a.s p.st.length a.cs, .slice a.l p.pl.length a.cl, .slice a.m p.ma.length a.cm, .slice a.e p.er.length a.ce, .slice a.d p.dr.length a.cd, .slice a.r p.rt.length a.cr]] w _;have HT := q9 (h.below hb0);have HK := q9 hk;have hsz : w.heap.size < (w.alloc (.cells #[.int .i64 p.office, .int .i64 p.num, .slice a.n p.needs.length a.cn, .slice a.s p.st.length a.cs, .slice a.l p.pl.length a.cl, .slice a.m p.ma.length a.cm, .slice a.e p.er.length a.ce, .slice a.d p.dr.length a.cd, .slice a.r p.rt.length a.cr] 34)).heap.size := by simp
 have Hb0 := q9 hb0;obtain ⟨R, hR⟩ : ∃ z, Hid (paE p = z) := ⟨_, q9 rfl⟩;rw [hR.out] at HV ⊢;clear h hb0 hk;go_enter Tryz.func22, Tryz.ntmps22
 go_wp2_with fail
 refine HV.out.mono ?_;rintro e w1 ⟨rfl, hb1⟩;have HK1 := q9 (HK.out.below hb1 HK.out.lt);have HT1 := q9 (HT.out.below hb1);have Hb1 := q9 (Hb0.out.trans (hb1.mono (Nat.le_of_lt hsz)));have hs1 : w.heap.size < w1.heap.size := Nat.lt_of_lt_of_le hsz hb1.size;clear HV HT HK hb1 Hb0 hsz;generalize hS : w.heap.size = S at *;have HS := q9 hS;clear hS;by_cases f1 : R = 0
 case neg =>
  have b1 : (R != 0) = true := by simp [f1]
  have Hf := q9 f1;clear f1;go_wp2_with fail
  exact bodyPost_ret (v := .tuple #[.slice none 0 0, .int .i64 R]) (by simp [results, Tryz.results22, go_sem]) rfl ⟨by rw [HS.out]; exact Hb1.out, .inl ⟨Hf.out, rfl⟩⟩
 case pos =>
  have b1 : (R != 0) = false := by simp [f1]
  have HE := q9 (paE_ok hn (hR.out.trans f1));have Hf := q9 f1;clear f1 hR hn;have g0 : w1.cell? ⟨S, 0, none⟩ = some (.int .i64 p.office) := HK1.out.cell 0;have HW := q9 (show WR ((w1.alloc (.cells #[.slice none 0 0] 104)).alloc (.cells #[.pointer (some ⟨w1.heap.size, 0, none⟩)] 100)) w1.heap.size w1.heap.size (.slice none 0 0) [] from ⟨(Bk.new w1 _ _).alloc _, World.ownsRow_nil _ _ _ _, Nat.le_refl _⟩);have HQ := q9 (show Bk ((w1.alloc (.cells #[.slice none 0 0] 104)).alloc (.cells #[.pointer (some ⟨w1.heap.size, 0, none⟩)] 100)) (w1.heap.size + 1) 100 #[.pointer (some ⟨w1.heap.size, 0, none⟩)] from Bk.new' _ _ _ (by simp));have HB := q9 (((Below.refl w1.heap.size w1).alloc (Nat.le_refl _) (.cells #[.slice none 0 0] 104)).alloc (by simp) (.cells #[.pointer (some ⟨w1.heap.size, 0, none⟩)] 100));have HSC := q9 (fun (W : World) (hW : Below w1.heap.size w1 W) => (HK1.out.below hW HK1.out.lt).cell);have HK2 := q9 HK1.out;clear HK1;go_upto_region 5 with fail
  obtain ⟨pp, hpp⟩ : ∃ z, Hid (w1.heap.size = z) := ⟨_, q9 rfl⟩;obtain ⟨q, hq⟩ : ∃ z, Hid (w1.heap.size + 1 = z) := ⟨_, q9 rfl⟩;have hqp : q ≠ pp := by rw [← hpp.out, ← hq.out]; omega
  have hpb : w1.heap.size ≤ pp := Nat.le_of_eq hpp.out;simp only [hq.out] at HQ ⊢;simp only [hpp.out] at HW HQ HB HSC hs1 ⊢;generalize (w1.alloc (.cells #[.slice none 0 0] 104)).alloc (.cells #[.pointer (some ⟨pp, 0, none⟩)] 100) = W4 at *;have e0 : W4.cell? ⟨S, 0, none⟩ = some (.int .i64 p.office) := HSC.out W4 HB.out 0;have e1 : W4.cell? ⟨S, 1, none⟩ = some (.int .i64 p.num) := HSC.out W4 HB.out 1;have e2 : W4.cell? ⟨q, 0, none⟩ = some (.pointer (some ⟨pp, 0, none⟩)) := HQ.out.cell 0;have hx64 : W64 [p.office, p.num] := w64_cons HE.out.w.o (w64_cons HE.out.w.k w64_nil);have HC := q9 (qInts_any pp pp _ 2 (.slice none 0 0) [] [p.office, p.num] _ (Bk.new W4 3 (rowI [p.office, p.num])) hx64 (by simp) (HW.out.alloc _) (by simp));have HB' := q9 (HB.out.alloc HW.out.size (.cells #[.int .i64 p.office, .int .i64 p.num] 3));have HQ' := q9 (HQ.out.alloc (.cells #[.int .i64 p.office, .int .i64 p.num] 3));have hl0 := vbs_len [p.office, p.num] hx64;clear HW HB HQ hx64 g0;go_upto_region 6 with (refine HC.out.mono ?_; rintro e W5 ⟨v5, rfl, hW5, hb5, hn5⟩; have HW5 := q9 (show WR W5 pp pp v5 (vbs [p.office, p.num]) from hW5); have HB5 := q9 (HB'.out.trans hb5); have HQ5 := q9 (hn5 _ _ _ hqp (by decide) HQ'.out); clear hW5 hb5 hn5 HC HB' HQ')
  obtain ⟨d5, hd5⟩ : ∃ z, Hid (vbs [p.office, p.num] = z) := ⟨_, q9 rfl⟩;rw [hd5.out] at HW5 hl0;have hl5 : d5.length ≤ 20000000 := by simp only [List.length_cons, List.length_nil] at hl0; omega
  clear hl0 e0 e1 e2;have HW6 := q9 HW5.out.drew;have HB6 := q9 HB5.out.drew;have HQ6 := q9 (show Bk W5.drew q 100 #[.pointer (some ⟨pp, 0, none⟩)] from HQ5.out);clear HW5 HB5 HQ5;refine rH 8 (fun W => W.cell? ⟨S, 2, none⟩ = some (.slice a.n p.needs.length a.cn) ∧ W.cell? ⟨q, 0, none⟩ = some (.pointer (some ⟨pp, 0, none⟩))) ?_;generalize W5.drew = X0 at *;refine Ht 0 (.pointer (some ⟨pp, 0, none⟩)) 20 rfl rfl rfl (fun W hW => by obtain ⟨s0, s1⟩ := hW; go_simp) (show (fun W => W.cell? ⟨S, 2, none⟩ = some (.slice a.n p.needs.length a.cn) ∧ W.cell? ⟨q, 0, none⟩ = some (.pointer (some ⟨pp, 0, none⟩))) X0 from ⟨HSC.out X0 HB6.out 2, HQ6.out.cell 0⟩) ?_;refine Ht 1 (.pointer (some ⟨S, 2, none⟩)) 21 rfl rfl rfl (fun W hW => by obtain ⟨s0, s1⟩ := hW; go_simp) (show (fun W => W.cell? ⟨S, 2, none⟩ = some (.slice a.n p.needs.length a.cn) ∧ W.cell? ⟨q, 0, none⟩ = some (.pointer (some ⟨pp, 0, none⟩))) X0 from ⟨HSC.out X0 HB6.out 2, HQ6.out.cell 0⟩) ?_;refine Ht 2 (.slice a.n p.needs.length a.cn) 22 rfl rfl rfl (fun W hW => by obtain ⟨s0, s1⟩ := hW; go_simp) (show (fun W => W.cell? ⟨S, 2, none⟩ = some (.slice a.n p.needs.length a.cn) ∧ W.cell? ⟨q, 0, none⟩ = some (.pointer (some ⟨pp, 0, none⟩))) X0 from ⟨HSC.out X0 HB6.out 2, HQ6.out.cell 0⟩) ?_
  refine Ht 3 (.pointer (some ⟨pp, 0, none⟩)) 23 rfl rfl rfl (fun W hW => by obtain ⟨s0, s1⟩ := hW; go_simp) (show (fun W => W.cell? ⟨S, 2, none⟩ = some (.slice a.n p.needs.length a.cn) ∧ W.cell? ⟨q, 0, none⟩ = some (.pointer (some ⟨pp, 0, none⟩))) X0 from ⟨HSC.out X0 HB6.out 2, HQ6.out.cell 0⟩) ?_;refine Ht 4 (.pointer (some ⟨pp, 0, none⟩)) 24 rfl rfl rfl (fun W hW => by obtain ⟨s0, s1⟩ := hW; go_simp) (show (fun W => W.cell? ⟨S, 2, none⟩ = some (.slice a.n p.needs.length a.cn) ∧ W.cell? ⟨q, 0, none⟩ = some (.pointer (some ⟨pp, 0, none⟩))) X0 from ⟨HSC.out X0 HB6.out 2, HQ6.out.cell 0⟩) ?_;refine Ht 5 (.pointer (some ⟨pp, 0, none⟩)) 25 rfl rfl rfl (fun W hW => by obtain ⟨s0, s1⟩ := hW; go_simp) (show (fun W => W.cell? ⟨S, 2, none⟩ = some (.slice a.n p.needs.length a.cn) ∧ W.cell? ⟨q, 0, none⟩ = some (.pointer (some ⟨pp, 0, none⟩))) X0 from ⟨HSC.out X0 HB6.out 2, HQ6.out.cell 0⟩) ?_;refine Ht 6 (.func (.func 53) #[.pointer (some ⟨pp, 0, none⟩)] #[]) 26 rfl rfl rfl (fun W hW => by obtain ⟨s0, s1⟩ := hW; go_simp) (show (fun W => W.cell? ⟨S, 2, none⟩ = some (.slice a.n p.needs.length a.cn) ∧ W.cell? ⟨q, 0, none⟩ = some (.pointer (some ⟨pp, 0, none⟩))) X0 from ⟨HSC.out X0 HB6.out 2, HQ6.out.cell 0⟩) ?_;try simp only [Act.put, qz0, qz1, qz2]
  refine H1 7 rfl rfl (fun K hK7 => ?_);go_simp
  go_at_call 52
  refine (lsU_any pp pp v5 d5 a.n a.cn p.needs w1 X0 HT1.out.n (Nat.le_of_eq hpp.out) HB6.out HE.out.w.n (by have := HE.out.nn; omega) HW6.out (by omega)).mono ?_;rintro e W7 ⟨v7, rfl, hW7, hb7, hn7⟩;have HW7 := q9 hW7;have HB7 := q9 (HB6.out.trans hb7);have HQ7 := q9 (hn7 _ _ _ hqp (by decide) HQ6.out);clear hW7 hb7 hn7;refine hK7.out _ _ (show (fun W => W.cell? ⟨S, 2, none⟩ = some (.slice a.n p.needs.length a.cn) ∧ W.cell? ⟨q, 0, none⟩ = some (.pointer (some ⟨pp, 0, none⟩))) W7 from ⟨HSC.out W7 HB7.out 2, HQ7.out.cell 0⟩) ?_;try simp only [Act.put, qz0, qz1, qz2]
  refine H0 ?_;try simp only [Act.put, qz0, qz1, qz2]
  obtain ⟨d7, hd7⟩ : ∃ z, Hid (d5 ++ lsB ndB p.needs = z) := ⟨_, q9 rfl⟩;have hlb := ls_bd (f := ndB) (K := 10) (fun x hx => ndB_len (HE.out.w.n x hx)) (by have := HE.out.nn; omega) (by omega);have hl7 : d7.length ≤ 40000000 := by rw [← hd7.out, List.length_append]; omega
  rw [hd7.out] at HW7;clear hlb;clear hl5;have e0 : W7.cell? ⟨S, 3, none⟩ = some (.slice a.s p.st.length a.cs) := HSC.out W7 HB7.out 3;have e1 : W7.cell? ⟨q, 0, none⟩ = some (.pointer (some ⟨pp, 0, none⟩)) := HQ7.out.cell 0;have HC := q9 (lsS_any pp pp q v7 d7 a.s a.cs p.st w1 W7 HT1.out.s (Nat.le_of_eq hpp.out) HB7.out HQ7.out (fun x hx => ⟨HE.out.w.s x hx, HE.out.c x hx⟩) HE.out.s HW7.out (by omega));go_wp2_with fail
  refine (HC.out).mono ?_;rintro e W8 ⟨v8, rfl, hW8, hb8, hn8⟩;have HW8 := q9 hW8;have HB8 := q9 (HB7.out.trans hb8);have HQ8 := q9 (hn8 _ _ _ hqp (by decide) HQ7.out);clear hW8 hb8 hn8 HW7 HB7 HQ7 HC e0 e1;obtain ⟨d8, hd8⟩ : ∃ z, Hid (d7 ++ lsB skB p.st = z) := ⟨_, q9 rfl⟩;have hlb := ls_bd (f := skB) (K := 3250) (fun x hx => skB_len (HE.out.w.s x hx) (HE.out.c x hx)) HE.out.s (by omega);have hl8 : d8.length ≤ 60000000 := by rw [← hd8.out, List.length_append]; omega
  rw [hd8.out] at HW8;clear hlb;have e0 : W8.cell? ⟨S, 4, none⟩ = some (.slice a.l p.pl.length a.cl) := HSC.out W8 HB8.out 4;have e1 : W8.cell? ⟨q, 0, none⟩ = some (.pointer (some ⟨pp, 0, none⟩)) := HQ8.out.cell 0;have HC := q9 (lsP_any pp pp q v8 d8 a.l a.cl p.pl w1 W8 HT1.out.l (Nat.le_of_eq hpp.out) HB8.out HQ8.out (fun x hx => ⟨HE.out.w.l x hx, HE.out.x x hx⟩) HE.out.l HW8.out (by omega));go_wp2_with fail
  refine (HC.out).mono ?_;rintro e W9 ⟨v9, rfl, hW9, hb9, hn9⟩;have HW9 := q9 hW9;have HB9 := q9 (HB8.out.trans hb9);have HQ9 := q9 (hn9 _ _ _ hqp (by decide) HQ8.out);clear hW9 hb9 hn9 HW8 HB8 HQ8 HC e0 e1;obtain ⟨d9, hd9⟩ : ∃ z, Hid (d8 ++ lsB plB p.pl = z) := ⟨_, q9 rfl⟩;have hlb := ls_bd (f := plB) (K := 1060) (fun x hx => plB_len (HE.out.w.l x hx) (HE.out.x x hx)) HE.out.l (by omega);have hl9 : d9.length ≤ 80000000 := by rw [← hd9.out, List.length_append]; omega
  rw [hd9.out] at HW9;clear hlb;clear hl8;have e0 : W9.cell? ⟨S, 5, none⟩ = some (.slice a.m p.ma.length a.cm) := HSC.out W9 HB9.out 5;have e1 : W9.cell? ⟨q, 0, none⟩ = some (.pointer (some ⟨pp, 0, none⟩)) := HQ9.out.cell 0;have HC := q9 (lsM_any pp pp q v9 d9 a.m a.cm p.ma w1 W9 HT1.out.m (Nat.le_of_eq hpp.out) HB9.out HQ9.out HE.out.w.m HE.out.m HW9.out (by omega));go_wp2_with fail
  refine (HC.out).mono ?_;rintro e W10 ⟨v10, rfl, hW10, hb10, hn10⟩;have HW10 := q9 hW10;have HB10 := q9 (HB9.out.trans hb10);have HQ10 := q9 (hn10 _ _ _ hqp (by decide) HQ9.out);clear hW10 hb10 hn10 HW9 HB9 HQ9 HC e0 e1;obtain ⟨d10, hd10⟩ : ∃ z, Hid (d9 ++ lsB mkB p.ma = z) := ⟨_, q9 rfl⟩;have hlb := ls_bd (f := mkB) (K := 70) (fun x hx => mkB_len (HE.out.w.m x hx)) HE.out.m (by omega);have hl10 : d10.length ≤ 100000000 := by rw [← hd10.out, List.length_append]; omega
  rw [hd10.out] at HW10;clear hlb;clear hl9;have e0 : W10.cell? ⟨S, 6, none⟩ = some (.slice a.e p.er.length a.ce) := HSC.out W10 HB10.out 6;have e1 : W10.cell? ⟨q, 0, none⟩ = some (.pointer (some ⟨pp, 0, none⟩)) := HQ10.out.cell 0;have HC := q9 (lsI_any pp pp v10 d10 a.e a.ce p.er w1 W10 HT1.out.e (Nat.le_of_eq hpp.out) HB10.out HE.out.w.e HE.out.e HW10.out (by omega));go_wp2_with fail
  refine (HC.out).mono ?_;rintro e W11 ⟨v11, rfl, hW11, hb11, hn11⟩;have HW11 := q9 hW11;have HB11 := q9 (HB10.out.trans hb11);have HQ11 := q9 (hn11 _ _ _ hqp (by decide) HQ10.out);clear hW11 hb11 hn11 HW10 HB10 HQ10 HC e0 e1;obtain ⟨d11, hd11⟩ : ∃ z, Hid (d10 ++ lsB idB p.er = z) := ⟨_, q9 rfl⟩;have hlb := ls_bd (f := idB) (K := 20) (fun x hx => idB_len (HE.out.w.e x hx)) HE.out.e (by omega);have hl11 : d11.length ≤ 120000000 := by rw [← hd11.out, List.length_append]; omega
  rw [hd11.out] at HW11;clear hlb;clear hl10;have e0 : W11.cell? ⟨S, 7, none⟩ = some (.slice a.d p.dr.length a.cd) := HSC.out W11 HB11.out 7;have e1 : W11.cell? ⟨q, 0, none⟩ = some (.pointer (some ⟨pp, 0, none⟩)) := HQ11.out.cell 0;have HC := q9 (lsI_any pp pp v11 d11 a.d a.cd p.dr w1 W11 HT1.out.d (Nat.le_of_eq hpp.out) HB11.out HE.out.w.d HE.out.d HW11.out (by omega));go_wp2_with fail
  refine (HC.out).mono ?_;rintro e W12 ⟨v12, rfl, hW12, hb12, hn12⟩;have HW12 := q9 hW12;have HB12 := q9 (HB11.out.trans hb12);have HQ12 := q9 (hn12 _ _ _ hqp (by decide) HQ11.out);clear hW12 hb12 hn12 HW11 HB11 HQ11 HC e0 e1;obtain ⟨d12, hd12⟩ : ∃ z, Hid (d11 ++ lsB idB p.dr = z) := ⟨_, q9 rfl⟩;have hlb := ls_bd (f := idB) (K := 20) (fun x hx => idB_len (HE.out.w.d x hx)) HE.out.d (by omega);have hl12 : d12.length ≤ 140000000 := by rw [← hd12.out, List.length_append]; omega
  rw [hd12.out] at HW12;clear hlb;clear hl11;have e0 : W12.cell? ⟨S, 8, none⟩ = some (.slice a.r p.rt.length a.cr) := HSC.out W12 HB12.out 8;have e1 : W12.cell? ⟨q, 0, none⟩ = some (.pointer (some ⟨pp, 0, none⟩)) := HQ12.out.cell 0;have HC := q9 (lsR_any pp pp q v12 d12 a.r a.cr p.rt w1 W12 HT1.out.r (Nat.le_of_eq hpp.out) HB12.out HQ12.out HE.out.w.r HE.out.r HW12.out (by omega));go_wp2_with fail
  refine (HC.out).mono ?_;rintro e W13 ⟨v13, rfl, hW13, hb13, hn13⟩;have HW13 := q9 hW13;have HB13 := q9 (HB12.out.trans hb13);have HQ13 := q9 (hn13 _ _ _ hqp (by decide) HQ12.out);clear hW13 hb13 hn13 HW12 HB12 HQ12 HC e0 e1;obtain ⟨d13, hd13⟩ : ∃ z, Hid (d12 ++ lsB rtB p.rt = z) := ⟨_, q9 rfl⟩;have hlb := ls_bd (f := rtB) (K := 20) (fun x hx => rtB_len (HE.out.w.r x hx)) HE.out.r (by omega);have hl13 : d13.length ≤ 160000000 := by rw [← hd13.out, List.length_append]; omega
  rw [hd13.out] at HW13;clear hlb;clear hl12;have e1 : W13.cell? ⟨q, 0, none⟩ = some (.pointer (some ⟨pp, 0, none⟩)) := HQ13.out.cell 0;have HD := q9 (wDone_any pp pp v13 d13 W13 HW13.out (by omega));have hW13 : S ≤ W13.heap.size := by have := HB13.out.size; have := hpp.out; omega
  have Hb13 := q9 (Hb1.out.trans (HB13.out.mono (Nat.le_trans (Nat.le_of_lt hs1) (Nat.le_refl _))));clear HW13 HB13 HQ13;go_wp2_with fail
  refine HD.out.mono ?_;rintro e W14 ⟨v14, rfl, hown, hb14⟩;obtain ⟨A, c, rfl⟩ := own_slice hown;have Hown := q9 (own_mono hown hW13);have Hb14 := q9 (Hb13.out.trans (hb14.mono hW13));have Hd := q9 (show d13 = paB p from by rw [← hd13.out, ← hd12.out, ← hd11.out, ← hd10.out, ← hd9.out, ← hd8.out, ← hd7.out, ← hd5.out]; rfl);clear hown hb14 HD;go_wp2_with fail
  refine bodyPost_ret (v := .tuple #[.slice A d13.length c, .int .i64 0]) (by simp [results, Tryz.results22, go_sem]) rfl ⟨by rw [HS.out]; exact Hb14.out, .inr ⟨Hf.out, A, c, ?_, ?_⟩⟩
  ·rw [← Hd.out]
  rw [← Hd.out, HS.out]; exact Hown.out
end Go.Proofs.YtnapnkmehnabfaaGreat
