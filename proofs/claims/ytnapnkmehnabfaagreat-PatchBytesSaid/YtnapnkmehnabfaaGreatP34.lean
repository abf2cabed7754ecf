import Derived.Test.YtnapnkmehnabfaaGreatP33
set_option linter.unusedSimpArgs false
set_option maxHeartbeats 4000000
set_option maxRecDepth 100000
namespace Go.Proofs.YtnapnkmehnabfaaGreat
open Go.RowKit Go.Maps
def nmU (x : Int) (m : Nat) : List (Int × Int) := (List.range m).map fun i : Nat => (x, (i : Int))
theorem nmU_succ (x : Int) (m : Nat) : nmU x (m + 1) = nmU x m ++ [(x, (m : Int))] := by simp [nmU, List.range_succ]
theorem nmU_len (x : Int) (m : Nat) : (nmU x m).length = m := by simp [nmU]
noncomputable def nmL (p : Pa) (m : Nat) : List (Int × Int) := if paE p = 0 then nmU (idH p) m else []
theorem elt_id : Elt Tryz.prog 31 77 (.agg #[.int .u64 0, .int .i64 0]) 2 16 := Elt.mk' Tryz.underlying31 (by kernel_rfl) (by decide) (by decide) rfl
theorem idC_app (a b : List (Int × Int)) : idC (a ++ b) = idC a ++ idC b := by simp [idC]
theorem numbered_any (p : Pa) (a : Pw) (m : Nat) (w : World) (h : PT w p a) (hl : PLn p) (hn : ∀ x ∈ p.needs, u64 x) (hm : m ≤ 1099511627776) :
  Calls Tryz.prog 104 #[.agg (paC p a), .int .i64 (m : Int)] w fun e w' => Below w.heap.size w w' ∧ ∃ A c, e = .returned (.tuple #[.slice A (nmL p m).length c, .int .i64 (paE p)]) ∧ w'.ownsRow w.heap.size 77 2 (.slice A (nmL p m).length c) (nmL p m).length (idC (nmL p m)) := by
 have hb0 := (Below.refl w.heap.size w).alloc (Nat.le_refl _) (.cells #[.int .i64 p.office, .int .i64 p.num, .slice a.n p.needs.length a.cn, .slice a.s p.st.length a.cs, .slice a.l p.pl.length a.cl, .slice a.m p.ma.length a.cm, .slice a.e p.er.length a.ce, .slice a.d p.dr.length a.cd, .slice a.r p.rt.length a.cr] 34);have HV := q9 (id_any p a _ (h.below hb0) hl hn);have Hb0 := q9 hb0;have hsz : w.heap.size < (w.alloc (.cells #[.int .i64 p.office, .int .i64 p.num, .slice a.n p.needs.length a.cn, .slice a.s p.st.length a.cs, .slice a.l p.pl.length a.cl, .slice a.m p.ma.length a.cm, .slice a.e p.er.length a.ce, .slice a.d p.dr.length a.cd, .slice a.r p.rt.length a.cr] 34)).heap.size := by simp
 show Calls Tryz.prog 104 #[.agg #[.int .i64 p.office, .int .i64 p.num, .slice a.n p.needs.length a.cn, .slice a.s p.st.length a.cs, .slice a.l p.pl.length a.cl, .slice a.m p.ma.length a.cm, .slice a.e p.er.length a.ce, .slice a.d p.dr.length a.cd, .slice a.r p.rt.length a.cr], .int .i64 (m : Int)] w _;obtain ⟨I, hI⟩ : ∃ z, Hid (idV p = z) := ⟨_, q9 rfl⟩;obtain ⟨R, hR⟩ : ∃ z, Hid (paE p = z) := ⟨_, q9 rfl⟩;obtain ⟨L, hL⟩ : ∃ z, Hid (nmL p m = z) := ⟨_, q9 rfl⟩;rw [hI.out, hR.out] at HV;rw [hR.out, hL.out];have Hn := q9 hn;clear h hb0 hn;go_enter Tryz.func104, Tryz.ntmps104
 go_wp2_with fail
 refine HV.out.mono ?_;rintro e w1 ⟨rfl, hb1⟩;have Hb1 := q9 (Hb0.out.trans (hb1.mono (Nat.le_of_lt hsz)));clear hb1 HV Hb0;by_cases f1 : R = 0
 ·have b1 : (R != 0) = false := by simp [f1]
  have Hf := q9 f1;have Hl := q9 (show L = nmU I m from by rw [← hL.out, nmL, if_pos (by rw [hR.out]; exact f1), ← hI.out, idV, if_pos (by rw [hR.out]; exact f1)]);clear f1 hR hL;go_wp2_with fail
  go_loopw [8, 19] (fun o i wr => ∃ k : Nat, k ≤ m ∧ i = .int .i64 (k : Int) ∧ wr.ownsRow w.heap.size 77 2 o k (idC (nmU I k)) ∧ Hid (Below w.heap.size w wr)) (fun _ i _ => m - (intOf i).toNat)
  case atStart => exact ⟨0, by omega, rfl, World.ownsRow_nil _ _ _ _, Hb1⟩
  case round =>
   clear Hb1;obtain ⟨k, hk, rfl, hown, hb⟩ := hrel;have hbs := hb.out.size;by_cases hlt : k < m
   ·go_wp2_with (at_builtin; refine wpList_app2 (w := wr) rfl _ _ rfl elt_id hown hbs rfl rfl (by simp) rfl rfl (by omega) ?_; intro v2 w2 hown2 hg2 hz2)
    go_roundw
    case rel => exact ⟨k + 1, by omega, by go_num, by rw [nmU_succ, idC_app]; exact hown2, q9 (hb.out.grown hg2 hbs (fun j hj => (hown.lt j hj).1))⟩
    case measure => simp [intOf]; omega
   obtain rfl : k = m := by omega
   obtain ⟨A, c, rfl⟩ := own_slice hown;have Hown := q9 hown;clear hown;go_wp2_with fail
   exact bodyPost_ret (v := .tuple #[.slice A k c, .int .i64 0]) (by simp [results, Tryz.results104, go_sem]) rfl ⟨hb.out, A, c, by rw [Hl.out, nmU_len, Hf.out], by rw [Hl.out, nmU_len]; exact Hown.out⟩
 have b1 : (R != 0) = true := by simp [f1]
 have Hl := q9 (show L = [] from by rw [← hL.out, nmL, if_neg (by rw [hR.out]; exact f1)]);clear f1;go_wp2_with fail
 exact bodyPost_ret (v := .tuple #[.slice none 0 0, .int .i64 R]) (by simp [results, Tryz.results104, go_sem]) rfl ⟨Hb1.out, none, 0, by rw [Hl.out]; rfl, by rw [Hl.out]; exact World.ownsRow_nil _ _ _ _⟩
theorem strokes_any (p : Pa) (a : Pw) (w : World) (h : PT w p a) (hl : PLn p) (hn : ∀ x ∈ p.needs, u64 x) :
  Calls Tryz.prog 35 #[.agg (paC p a)] w fun e w' => Below w.heap.size w w' ∧ ∃ A c, e = .returned (.tuple #[.slice A (nmL p p.st.length).length c, .int .i64 (paE p)]) ∧ w'.ownsRow w.heap.size 77 2 (.slice A (nmL p p.st.length).length c) (nmL p p.st.length).length (idC (nmL p p.st.length)) := by
 have hb0 := (Below.refl w.heap.size w).alloc (Nat.le_refl _) (.cells #[.int .i64 p.office, .int .i64 p.num, .slice a.n p.needs.length a.cn, .slice a.s p.st.length a.cs, .slice a.l p.pl.length a.cl, .slice a.m p.ma.length a.cm, .slice a.e p.er.length a.ce, .slice a.d p.dr.length a.cd, .slice a.r p.rt.length a.cr] 34);have HV := q9 (numbered_any p a p.st.length _ (h.below hb0) hl hn hl.s);have Hb0 := q9 hb0;have hsz : w.heap.size < (w.alloc (.cells #[.int .i64 p.office, .int .i64 p.num, .slice a.n p.needs.length a.cn, .slice a.s p.st.length a.cs, .slice a.l p.pl.length a.cl, .slice a.m p.ma.length a.cm, .slice a.e p.er.length a.ce, .slice a.d p.dr.length a.cd, .slice a.r p.rt.length a.cr] 34)).heap.size := by simp
 show Calls Tryz.prog 35 #[.agg #[.int .i64 p.office, .int .i64 p.num, .slice a.n p.needs.length a.cn, .slice a.s p.st.length a.cs, .slice a.l p.pl.length a.cl, .slice a.m p.ma.length a.cm, .slice a.e p.er.length a.ce, .slice a.d p.dr.length a.cd, .slice a.r p.rt.length a.cr]] w _;obtain ⟨R, hR⟩ : ∃ z, Hid (paE p = z) := ⟨_, q9 rfl⟩;obtain ⟨L, hL⟩ : ∃ z, Hid (nmL p p.st.length = z) := ⟨_, q9 rfl⟩;rw [hR.out, hL.out] at HV ⊢;clear h hb0 hn;go_enter Tryz.func35, Tryz.ntmps35
 go_wp2_with fail
 refine HV.out.mono ?_;rintro e w1 ⟨hb1, A, c, rfl, hown⟩;have Hb1 := q9 (Hb0.out.trans (hb1.mono (Nat.le_of_lt hsz)));have Hown := q9 (own_mono hown (Nat.le_of_lt hsz));obtain ⟨n, hnn⟩ : ∃ z, Hid (L.length = z) := ⟨_, q9 rfl⟩;rw [hnn.out] at Hown ⊢;clear hb1 HV Hb0 hown;go_wp2_with fail
 exact bodyPost_ret (v := .tuple #[.slice A n c, .int .i64 R]) (by simp [results, Tryz.results35, go_sem]) rfl ⟨Hb1.out, A, c, by rw [hnn.out], by rw [hnn.out]; exact Hown.out⟩
theorem neq_id (x y x' y' : Int) (W : World) : (binOp .neq 77 (.agg #[.int .u64 x, .int .i64 y]) (.agg #[.int .u64 x', .int .i64 y'])).run Tryz.prog W = .ok (.bool (!(x == x' && y == y'))) W := by
 rw [run_neq_struct, show (10000 : Nat) = 9999 + 1 from rfl, run_equalIn_struct (P := Tryz.prog) W 9999 77 _ _ (by kernel_rfl) (by kernel_rfl)];have ha := Tryz.isAgg3;have hb := Tryz.isAgg53;have hu3 := Tryz.underlying3;have hu4 := Tryz.underlying53;by_cases e1 : x = x'
 ·by_cases e2 : y = y'
  ·simp [Program.fieldsOf, Tryz.underlying77, Op.eqFields, part, ha, hb, run_equalIn_int W 9998 3 .i64 .i64 _ _ hu3, run_equalIn_int W 9998 53 .u64 .u64 _ _ hu4, e1, e2]
  simp [Program.fieldsOf, Tryz.underlying77, Op.eqFields, part, ha, hb, run_equalIn_int W 9998 3 .i64 .i64 _ _ hu3, run_equalIn_int W 9998 53 .u64 .u64 _ _ hu4, e1, e2]
 simp [Program.fieldsOf, Tryz.underlying77, Op.eqFields, part, ha, hb, run_equalIn_int W 9998 53 .u64 .u64 _ _ hu4, e1]
end Go.Proofs.YtnapnkmehnabfaaGreat
