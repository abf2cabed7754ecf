import Derived.Test.YtnapnkmehnabfaaGreatU8
import Derived.Test.YtnapnkmehnabfaaGreatU9
import Derived.Test.YtnapnkmehnabfaaGreatP38
import Derived.Shelf.SlSortCmp.NoneTotal
namespace Go.Proofs.YtnapnkmehnabfaaGreat
open Go.RowKit Go.Maps

set_option linter.unusedSimpArgs false in
set_option maxHeartbeats 8000000 in
set_option maxRecDepth 100000 in
theorem uses_any (p : Pa) (a : Pw) (w : World) (h : PT w p a) (hl : PLn p) (h1 : p.ma.length ≤ 100000) (h2 : p.er.length ≤ 100000) (h3 : p.dr.length ≤ 100000) :
  Calls Tryz.prog 33 #[.agg (paC p a)] w fun e w' => Below w.heap.size w w' ∧ ((paE p ≠ 0 ∧ e = .returned (.tuple #[.slice none 0 0, .int .i64 (paE p)])) ∨
   (paE p = 0 ∧ ∃ (U : List (Int × Int)) (A : Option Addr) (c : Nat), e = .returned (.tuple #[.slice A U.length c, .int .i64 0]) ∧ SD w' A U ∧ SO U ∧ ∀ x, x ∈ U ↔ x ∈ usesL p)) := by
 have hb0 := (Below.refl w.heap.size w).alloc (Nat.le_refl _) (.cells #[.int .i64 p.office, .int .i64 p.num, .slice a.n p.needs.length a.cn, .slice a.s p.st.length a.cs, .slice a.l p.pl.length a.cl, .slice a.m p.ma.length a.cm, .slice a.e p.er.length a.ce, .slice a.d p.dr.length a.cd, .slice a.r p.rt.length a.cr] 34)
 have HK := Lib.hid (Bk.new w 34 #[.int .i64 p.office, .int .i64 p.num, .slice a.n p.needs.length a.cn, .slice a.s p.st.length a.cs, .slice a.l p.pl.length a.cl, .slice a.m p.ma.length a.cm, .slice a.e p.er.length a.ce, .slice a.d p.dr.length a.cd, .slice a.r p.rt.length a.cr])
 have HB0 := Lib.hid hb0
 have HP := Lib.hid (h.below hb0)
 have HV := Lib.hid (patchValid_any p a _ (h.below hb0) hl)
 obtain ⟨E, hE⟩ : ∃ z, Hid (paE p = z) := ⟨_, Lib.hid rfl⟩
 rw [hE.out] at HV ⊢
 obtain ⟨x1, hx1⟩ : ∃ z, Hid (p.ma.length = z) := ⟨_, Lib.hid rfl⟩
 rw [hx1.out] at h1
 show Calls Tryz.prog 33 #[.agg #[.int .i64 p.office, .int .i64 p.num, .slice a.n p.needs.length a.cn, .slice a.s p.st.length a.cs, .slice a.l p.pl.length a.cl, .slice a.m p.ma.length a.cm, .slice a.e p.er.length a.ce, .slice a.d p.dr.length a.cd, .slice a.r p.rt.length a.cr]] w _
 clear h hb0 hl
 go_enter Tryz.func33, Tryz.ntmps33
 go_upto_region 1 with fail
 generalize w.alloc (.cells #[.int .i64 p.office, .int .i64 p.num, .slice a.n p.needs.length a.cn, .slice a.s p.st.length a.cs, .slice a.l p.pl.length a.cl, .slice a.m p.ma.length a.cm, .slice a.e p.er.length a.ce, .slice a.d p.dr.length a.cd, .slice a.r p.rt.length a.cr] 34) = W0 at *
 obtain ⟨S, hS⟩ : ∃ z, Hid (w.heap.size = z) := ⟨_, Lib.hid rfl⟩
 rw [hS.out] at HK HB0
 simp only [hS.out]
 have c0 : W0.cell? ⟨S, 0, none⟩ = some (.int .i64 p.office) := HK.out.cell 0
 have c1 : W0.cell? ⟨S, 1, none⟩ = some (.int .i64 p.num) := HK.out.cell 1
 have c2 : W0.cell? ⟨S, 2, none⟩ = some (.slice a.n p.needs.length a.cn) := HK.out.cell 2
 have c3 : W0.cell? ⟨S, 3, none⟩ = some (.slice a.s p.st.length a.cs) := HK.out.cell 3
 have c4 : W0.cell? ⟨S, 4, none⟩ = some (.slice a.l p.pl.length a.cl) := HK.out.cell 4
 have c5 : W0.cell? ⟨S, 5, none⟩ = some (.slice a.m p.ma.length a.cm) := HK.out.cell 5
 have c6 : W0.cell? ⟨S, 6, none⟩ = some (.slice a.e p.er.length a.ce) := HK.out.cell 6
 have c7 : W0.cell? ⟨S, 7, none⟩ = some (.slice a.d p.dr.length a.cd) := HK.out.cell 7
 have c8 : W0.cell? ⟨S, 8, none⟩ = some (.slice a.r p.rt.length a.cr) := HK.out.cell 8
 go_wp2_with fail
 refine HV.out.mono ?_
 rintro e w1 ⟨rfl, hb1⟩
 have HK1 := Lib.hid (HK.out.below hb1 HK.out.lt)
 have HP1 := Lib.hid (HP.out.below hb1)
 have HB1 := Lib.hid (HB0.out.trans (hb1.mono (hS.out ▸ HB0.out.size)))
 clear hb1 HK HP HB0 HV c0 c1 c2 c3 c4 c5 c6 c7 c8
 by_cases hE0 : E = 0
 ·subst hE0
  have d6 : w1.cell? ⟨S, 6, none⟩ = some (.slice a.e p.er.length a.ce) := HK1.out.cell 6
  have d7 : w1.cell? ⟨S, 7, none⟩ = some (.slice a.d p.dr.length a.cd) := HK1.out.cell 7
  have hbA := (Below.refl w1.heap.size w1).alloc (Nat.le_refl _) (.cells #[.slice a.e p.er.length a.ce, .slice a.d p.dr.length a.cd] 31)
  have HC := Lib.hid (concat_any a.e a.d a.ce a.cd p.er p.dr w1.heap.size _ (SD.below HP1.out.e hbA) (SD.below HP1.out.d hbA) h2 h3 (Bk.new w1 31 #[.slice a.e p.er.length a.ce, .slice a.d p.dr.length a.cd]))
  have HbA := Lib.hid hbA
  clear hbA
  go_wp2_with fail
  refine HC.out.mono ?_
  generalize w1.alloc (.cells #[.slice a.e p.er.length a.ce, .slice a.d p.dr.length a.cd] 31) = W2 at *
  rintro e w3 ⟨X, cX, rfl, hown, hb3⟩
  have HK2 := Lib.hid (HK1.out.below HbA.out HK1.out.lt)
  have HM2 := Lib.hid (SM.below HP1.out.m HbA.out)
  have HB2 := Lib.hid (HB1.out.trans (HbA.out.mono (hS.out ▸ HB1.out.size)))
  have Hb3 := Lib.hid hb3
  have HK3 := Lib.hid (HK2.out.below hb3 HK2.out.lt)
  obtain ⟨n0, hn0⟩ : ∃ z, Hid ((p.er ++ p.dr).length = z) := ⟨_, Lib.hid rfl⟩
  have hn0b : n0 ≤ 200000 := by rw [← hn0.out, List.length_append]; omega
  rw [hn0.out] at hown ⊢
  obtain ⟨t0, ht0⟩ : ∃ z, Hid (p.er ++ p.dr = z) := ⟨_, Lib.hid rfl⟩
  rw [ht0.out] at hown hn0
  have HO := Lib.hid hown
  have d5 : w3.cell? ⟨S, 5, none⟩ = some (.slice a.m x1 a.cm) := by rw [← hx1.out]; exact HK3.out.cell 5
  clear hown hb3 d6 d7 HC HP1 HK1 HB1
  go_wp2_with fail
  go_loopw [5, 22] (fun ov v wr => ∃ (k n : Nat) (A : Option Addr) (c : Nat) (t : List (Int × Int)), k ≤ x1 ∧ v = .int .i64 (k : Int) ∧ ov = .slice A n c ∧ n ≤ 200000 + k ∧ Hid (t.length = n) ∧ Hid (t = t0 ++ (p.ma.map (fun m => (m.p, m.i))).take k) ∧ Hid (wr.ownsRow W2.heap.size 77 2 (.slice A n c) n (idC t)) ∧ Hid (Below W2.heap.size W2 wr)) (fun _ v _ => x1 - (intOf v).toNat)
  case atStart => exact ⟨0, n0, X, cX, t0, by omega, rfl, rfl, by omega, hn0, Lib.hid (by rw [List.take_zero, List.append_nil]), HO, Hb3⟩
  case round =>
   obtain ⟨k, n, A, c, t, hk, rfl, rfl, hn, Hn, Ht, HOr, HBr⟩ := hrel
   by_cases hlt : k < x1
   ·obtain ⟨b, o, m, hAe, m0, m1, m2, m3, m4, m5, m6, hi⟩ := SM.get (HM2.out.below HBr.out) (k := k) (by rw [hx1.out]; exact hlt)
    rw [hAe]
    have Hx := Lib.hid (show (p.ma.map (fun m => (m.p, m.i)))[k]? = some (m.p, m.i) from by rw [List.getElem?_map, hi.out]; rfl)
    have hki : ¬ (x1 ≤ k) := by omega
    have hbM := (Below.refl wr.heap.size wr).alloc (Nat.le_refl _) (.cells #[.int .u64 m.p, .int .i64 m.i, .int .i64 m.c.kind, .int .i64 m.c.office, .int .i64 m.c.fr, .int .i64 m.c.til, .int .i64 m.c.dec] 88)
    have HOa := Lib.hid (own_below HOr.out hbM)
    have HBa := Lib.hid (HBr.out.trans (hbM.mono HBr.out.size))
    have HMb := Lib.hid (Bk.new wr 88 #[.int .u64 m.p, .int .i64 m.i, .int .i64 m.c.kind, .int .i64 m.c.office, .int .i64 m.c.fr, .int .i64 m.c.til, .int .i64 m.c.dec])
    clear hbM HOr HBr hAe
    go_upto_region 8 with fail
    generalize wr.alloc (.cells #[.int .u64 m.p, .int .i64 m.i, .int .i64 m.c.kind, .int .i64 m.c.office, .int .i64 m.c.fr, .int .i64 m.c.til, .int .i64 m.c.dec] 88) = Wm at *
    generalize wr.heap.size = Q at *
    clear m0 m1 m2 m3 m4 m5 m6
    have n0_ : Wm.cell? ⟨Q, 0, none⟩ = some (.int .u64 m.p) := HMb.out.cell 0
    have n1_ : Wm.cell? ⟨Q, 1, none⟩ = some (.int .i64 m.i) := HMb.out.cell 1
    have hO := HOa.out
    have hzb : W2.heap.size ≤ Wm.heap.size := HBa.out.size
    go_wp2_with (at_builtin; refine wpList_app2 (w := Wm) rfl _ _ rfl elt_id hO hzb rfl rfl (by simp) rfl rfl (by omega) ?_; intro v8 w8 hown8 hg8 hz8; obtain ⟨X8, c8, rfl⟩ := own_slice hown8)
    have hB8 := HBa.out.grown hg8 hzb (fun j hj => (hO.lt j hj).1)
    have ht8 : t ++ [(m.p, m.i)] = t0 ++ (p.ma.map (fun m => (m.p, m.i))).take (k + 1) := by rw [Ht.out, List.append_assoc, List.take_add_one, Hx.out]; rfl
    go_roundw
    case rel => exact ⟨k + 1, n + 1, X8, c8, t ++ [(m.p, m.i)], by omega, by go_num, rfl, by omega, Lib.hid (by rw [List.length_append, Hn.out]; rfl), Lib.hid ht8, Lib.hid (by rw [idC_app]; exact hown8), Lib.hid hB8⟩
    case measure => simp [intOf]; omega
   ·obtain rfl : k = x1 := by omega
    have htL : ∀ x, x ∈ t ↔ x ∈ usesL p := fun x => by
     rw [Ht.out, ← ht0.out, List.take_of_length_le (by rw [List.length_map, hx1.out]; exact Nat.le_refl _), usesL]
     simp only [List.mem_append]
     constructor
     ·rintro ((h | h) | h)
      ·exact .inl (.inr h)
      ·exact .inr h
      ·exact .inl (.inl h)
     ·rintro ((h | h) | h)
      ·exact .inr h
      ·exact .inl (.inl h)
      ·exact .inl (.inr h)
    have HtL := Lib.hid htL
    have hform := own_form HOr.out
    clear htL Ht
    rcases hform with ⟨hA, hc⟩ | ⟨g, hA⟩
    ·have hn0z : n = 0 := by
      have hO1 := HOr.out
      rcases hO1.2 with ⟨_, h0⟩ | ⟨g, _, _, he, _⟩
      ·exact h0
      ·rw [hA] at he; injection he with e1; cases e1
     subst hA hc hn0z
     have ht : t = [] := List.eq_nil_of_length_eq_zero Hn.out
     subst ht
     have HSo := Lib.hid (AnyF.slices_SortFunc_none Tryz.sortID none 0 (.func (.func 102) #[] #[]) wr)
     have HC5 := Lib.hid (compact_any none 0 [] W2.heap.size wr (World.ownsRow_nil _ _ _ _) (by simp))
     have HBr2 := HBr
     clear HBr HOr
     go_wp2_with fail
     refine HSo.out.mono ?_
     rintro e w5 ⟨rfl, rfl⟩
     clear HSo
     go_wp2_with fail
     refine HC5.out.mono ?_
     rintro e w6 ⟨c', rfl, hown6, hg6⟩
     have HB6 := Lib.hid (HBr2.out.grown hg6 HBr2.out.size (fun j hj => by cases hj))
     clear hown6 hg6 HC5
     go_wp2_with fail
     exact bodyPost_ret (v := .tuple #[.slice none 0 c', .int .i64 0]) (by simp [results, Tryz.results33, go_sem]; rfl) rfl ⟨by rw [hS.out]; exact HB2.out.trans (HB6.out.mono (hS.out ▸ HB2.out.size)), [], none, ⟨c', rfl⟩, SL.nil_, List.Pairwise.nil, fun x y => HtL.out (x, y)⟩
    ·subst hA
     have hO1 := HOr.out
     rw [← Hn.out] at hO1
     have HSo := Lib.hid (sortI_any hO1 (by rw [Hn.out]; omega))
     rw [Hn.out] at HSo
     have HBr2 := HBr
     have HOr2 := HOr
     clear hO1 HBr HOr
     go_wp2_with fail
     refine HSo.out.mono ?_
     rintro e w5 ⟨rfl, l', hpm, hpw, hown5, hg5⟩
     have hl5 : l'.length = n := by rw [hpm.length_eq, Hn.out]
     have HC5 := Lib.hid (compact_any (some ⟨g, 0, none⟩) c l' W2.heap.size w5 (by rw [hl5]; exact hown5) (by rw [hl5]; omega))
     rw [hl5] at HC5
     obtain ⟨hso, hmem⟩ := cmpF_all hpw
     rw [hl5] at hso hmem
     have Hso := Lib.hid hso
     have Hmem := Lib.hid (fun x => (hmem x).trans ((hpm.mem_iff).trans (HtL.out x)))
     have hgl := (HOr2.out.lt g rfl)
     have HB5 := Lib.hid (HBr2.out.grown hg5 HBr2.out.size (fun j hj => by cases hj; exact hgl.1))
     clear hso hmem hpm hpw hown5 hg5 HSo
     go_wp2_with fail
     refine HC5.out.mono ?_
     rintro e w6 ⟨c', rfl, hown6, hg6⟩
     have HB6 := Lib.hid (HB5.out.grown hg6 HB5.out.size (fun j hj => by cases hj; exact hgl.1))
     obtain ⟨nu, hnu⟩ : ∃ z, Hid ((cmpF l' n).length = z) := ⟨_, Lib.hid rfl⟩
     rw [hnu.out] at hown6 ⊢
     have HSl := Lib.hid (SB.own hown6).sl
     clear hown6 hg6 HB5 HC5
     go_wp2_with fail
     exact bodyPost_ret (v := .tuple #[.slice (some ⟨g, 0, none⟩) nu c', .int .i64 0]) (by simp [results, Tryz.results33, go_sem]) rfl ⟨by rw [hS.out]; exact HB2.out.trans (HB6.out.mono (hS.out ▸ HB2.out.size)), cmpF l' n, _, ⟨c', by rw [hnu.out]⟩, HSl.out, Hso.out, fun x y => Hmem.out (x, y)⟩
 ·have hE1 : (E != 0) = true := by simp [hE0]
  have HE0 := Lib.hid hE0
  clear hE0
  go_wp2_with fail
  exact bodyPost_ret (v := .tuple #[.slice none 0 0, .int .i64 E]) (by simp [results, Tryz.results33, go_sem]) rfl ⟨by rw [hS.out]; exact HB1.out, .inl ⟨HE0.out, rfl⟩⟩
end Go.Proofs.YtnapnkmehnabfaaGreat
