import Derived.Test.YtnapnkmehnabfaaGreatP33
import Derived.Test.YtnapnkmehnabfaaGreatP50
set_option linter.unusedSimpArgs false
set_option maxHeartbeats 4000000
set_option maxRecDepth 100000
namespace Go.Proofs.YtnapnkmehnabfaaGreat
open Go.RowKit Go.Maps
theorem refBytesH_any (st : ByteArray) (A : Option Addr) (c : Nat) (bs : List Nat) (w : World) (hst : st.size ≤ 1000000000) (hA : SL w A (byV bs)) (hl : bs.length ≤ 100000000) (hb : ∀ x ∈ bs, x < 256) :
  Calls Tryz.prog 107 #[.string st, .slice A bs.length c] w fun e w' => e = .returned (.int .u64 (bytesH (bl st) bs : Nat)) ∧ Below w.heap.size w w' := by
 have HW := q9 (refWords_any A c bs w hA hb (by omega));have hwl : (wordsU bs).length ≤ 100000001 := by rw [wordsU, upTo_len]; omega
 obtain ⟨R, hR⟩ : ∃ z, Hid (((bytesH (bl st) bs : Nat) : Int) = z) := ⟨_, q9 rfl⟩;rw [hR.out];obtain ⟨ws, hws⟩ : ∃ z, Hid (wordsU bs = z) := ⟨_, q9 rfl⟩;rw [hws.out] at HW hwl;clear hA hb;go_enter Tryz.func107, Tryz.ntmps107
 go_wp2_with fail
 refine HW.out.mono ?_;rintro e w1 ⟨B, d, rfl, hown, hb1⟩;have HB1 := q9 hb1;have HS1 := q9 (SL.of_own hown);obtain ⟨nw, hnw⟩ : ∃ z, Hid (ws.length = z) := ⟨_, q9 rfl⟩;rw [hnw.out] at hwl ⊢;clear hown hb1 HW;go_wp2_with fail
 go_loopw [6, 7] (fun o i wr => ∃ k : Nat, k ≤ nw ∧ i = .int .i64 (k : Int) ∧ Hid (wr.ownsRow w1.heap.size 3 1 o k (((ws.take k).map toI).map (Value.int .i64))) ∧ Hid (Below w1.heap.size w1 wr)) (fun _ i _ => nw - (intOf i).toNat)
 case atStart => exact ⟨0, by omega, rfl, q9 (World.ownsRow_nil _ _ _ _), q9 (Below.refl _ _)⟩
 case round =>
  obtain ⟨k, hk, rfl, HO, HB⟩ := hrel;have k0 : (0 : Int) ≤ (k : Int) := by omega
  have hsz := HB.out.size;have hown := HO.out;by_cases hlt : k < nw
  ·obtain ⟨b1, o1, x, hae, cA, hx⟩ := word_at (show SL wr B (wrV ws) from HS1.out.below HB.out) (j := k) (by have := hnw.out; omega);obtain ⟨tx, htx⟩ : ∃ z, Hid (toI x = z) := ⟨_, q9 rfl⟩;have hcv : IntKind.i64.wrap ((x.1 : Nat) : Int) = tx := by rw [← htx.out, toI]; exact IntWalk.i64_left _
   have htk := q9 (show ((ws.take (k + 1)).map toI).map (Value.int .i64) = ((ws.take k).map toI).map (Value.int .i64) ++ [.int .i64 tx] from by rw [take_snoc' hx.out, List.map_append, List.map_append, ← htx.out]; rfl);rw [hae];clear hx htx;go_wp2_with (at_builtin; refine wpList_app2 (w := wr) rfl _ _ rfl elt_int hown hsz rfl rfl (by simp) rfl rfl (by omega) ?_; intro v2 w3 hown2 hg2 hz2)
   go_roundw
   case rel => exact ⟨k + 1, by omega, by go_num, q9 (by rw [htk.out]; exact hown2), q9 (HB.out.grown hg2 hsz (fun q hq => (hown.lt q hq).1))⟩
   case measure => simp [intOf]; omega
  obtain rfl : k = nw := by omega
  have hzs := q9 (show ((ws.take k).map toI).map (Value.int .i64) ++ [.int .i64 (bs.length : Int)] = (((wordsU bs).map toI ++ [(bs.length : Int)])).map (Value.int .i64) from by rw [List.take_of_length_le (by have := hnw.out; omega), hws.out, List.map_append]; rfl);obtain ⟨zs, hz⟩ : ∃ zs, Hid ((wordsU bs).map toI ++ [(bs.length : Int)] = zs) := ⟨_, q9 rfl⟩;rw [hz.out] at hzs;have hzl : zs.length = k + 1 := by rw [← hz.out, List.length_append, List.length_map, hws.out, hnw.out]; rfl
  have hr := q9 (show R = ((sumH (bl st) zs : Nat) : Int) from by rw [← hR.out, bytesH, hz.out]);clear hz;go_wp2_with (at_builtin; refine wpList_app2 (w := wr) rfl _ _ rfl elt_int hown hsz rfl rfl (by simp) rfl rfl (by omega) ?_; intro v2 w3 hown2 hg2 hz2; obtain ⟨A3, c3, rfl⟩ := own_slice hown2)
  rw [hzs.out] at hown2;have HB3 := q9 (HB1.out.trans ((HB.out.grown hg2 hsz (fun q hq => (hown.lt q hq).1)).mono HB1.out.size));have HS := q9 (refSum_any st A3 c3 zs w3 hst (SL.of_own hown2) (by omega));rw [hzl] at HS;clear hown2 hg2 hz2 hown HO;refine HS.out.mono ?_;rintro e w4 ⟨rfl, hb4⟩;have HB4 := q9 (HB3.out.trans (hb4.mono HB3.out.size));clear hb4 HS;go_wp2_with fail
  go_ret
  exact ⟨by rw [hr.out]; rfl, HB4.out⟩
theorem refId_any (p : Pa) (a : Pw) (w : World) (h : PT w p a) (he : PEn p) :
  Calls Tryz.prog 38 #[.agg (paC p a)] w fun e w' => e = .returned (.int .u64 (idH p)) ∧ Below w.heap.size w w' := by
 have hb0 := (Below.refl w.heap.size w).alloc (Nat.le_refl _) (.cells #[.int .i64 p.office, .int .i64 p.num, .slice a.n p.needs.length a.cn, .slice a.s p.st.length a.cs, .slice a.l p.pl.length a.cl, .slice a.m p.ma.length a.cm, .slice a.e p.er.length a.ce, .slice a.d p.dr.length a.cd, .slice a.r p.rt.length a.cr] 34);have hr : RPn p := ⟨by have := he.nn; omega, by have := he.s; omega, fun x hx => by have := he.c x hx; omega, by have := he.l; omega, he.x, by have := he.m; omega, by have := he.e; omega, by have := he.d; omega, by have := he.r; omega⟩;have HV := q9 (refBytes_any p a _ (h.below hb0) he.w hr);have hlen := paB_len he;have Hb0 := q9 hb0;have hsz : w.heap.size ≤ (w.alloc (.cells #[.int .i64 p.office, .int .i64 p.num, .slice a.n p.needs.length a.cn, .slice a.s p.st.length a.cs, .slice a.l p.pl.length a.cl, .slice a.m p.ma.length a.cm, .slice a.e p.er.length a.ce, .slice a.d p.dr.length a.cd, .slice a.r p.rt.length a.cr] 34)).heap.size := by simp
 have Hlt := q9 (paB_lt p);show Calls Tryz.prog 38 #[.agg #[.int .i64 p.office, .int .i64 p.num, .slice a.n p.needs.length a.cn, .slice a.s p.st.length a.cs, .slice a.l p.pl.length a.cl, .slice a.m p.ma.length a.cm, .slice a.e p.er.length a.ce, .slice a.d p.dr.length a.cd, .slice a.r p.rt.length a.cr]] w _;obtain ⟨J, hJ⟩ : ∃ z, Hid (((bytesH (bl ⟨#[112, 97, 116, 99, 104]⟩) (paB p) : Nat) : Int) = z) := ⟨_, q9 rfl⟩;rw [show idH p = J from hJ.out];obtain ⟨bs, hbs⟩ : ∃ z, Hid (paB p = z) := ⟨_, q9 rfl⟩;rw [hbs.out] at HV hlen Hlt hJ;clear h hb0 hr he;go_enter Tryz.func38, Tryz.ntmps38
 go_wp2_with fail
 refine HV.out.mono ?_;rintro e w1 ⟨v, rfl, hown, hb1⟩;obtain ⟨A, c, rfl⟩ := own_slice hown;have Hb1 := q9 (Hb0.out.trans (hb1.mono hsz));have HC := q9 (refBytesH_any ⟨#[112, 97, 116, 99, 104]⟩ A c bs w1 (by decide) (SL.of_own hown) (by omega) Hlt.out);rw [hJ.out] at HC;clear hown hb1 HV;go_wp2_with fail
 refine HC.out.mono ?_;rintro e w2 ⟨rfl, hb2⟩;have Hb2 := q9 (Hb1.out.trans (hb2.mono Hb1.out.size));clear hb2;go_wp2_with fail
 go_ret
 exact ⟨rfl, Hb2.out⟩
end Go.Proofs.YtnapnkmehnabfaaGreat
