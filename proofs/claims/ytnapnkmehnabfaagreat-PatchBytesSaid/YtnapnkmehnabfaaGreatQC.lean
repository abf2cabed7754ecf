import Derived.Test.YtnapnkmehnabfaaGreatP22
import Derived.RangeFuncBound
import Derived.RangeFuncCalls
import Derived.RangeFuncLeaves
import Derived.Shelf.Abstract
import Derived.OwnWalkIn
import Derived.TacticsInMore
import Derived.LoopNIn
import Derived.LoopIn
import Derived.RangeFuncNested
set_option linter.unusedSimpArgs false
set_option maxHeartbeats 8000000
set_option maxRecDepth 100000
namespace Go.Proofs.YtnapnkmehnabfaaGreat
open Go.RowKit Go.Maps
theorem eachPl_any (S : Nat) (p : Pa) (a : Pw) (C : Option Addr) (c : Nat) (cl : List Plc) (w : World) (hk : Bk w S 34 (paC p a)) (hC : SPl w C cl) (hN : ∀ q ∈ cl, q.nm.size ≤ 1099511627776) (hl : cl.length ≤ 1099511627776) :
  Calls Tryz.prog 126 #[.slice C cl.length c, .func (.func 127) #[] #[.pointer (some ⟨S, 0, none⟩)]] w fun e w' => e = .returned (.int .i64 (eachE (plW p.office cl) cl.length)) ∧ Below w.heap.size w w' := by
 obtain ⟨R, hR⟩ : ∃ z, Hid (eachE (plW p.office cl) cl.length = z) := ⟨_, q9 rfl⟩;rw [hR.out];have HC := q9 (fun (W : World) (hW : Below w.heap.size w W) => (show SPl W C cl from hC.below hW));have HSf := q9 (fun (W : World) (hW : Below w.heap.size w W) => hk.below hW hk.lt);have HN := q9 hN;clear hk hC hN;go_enter Tryz.func126, Tryz.ntmps126
 go_wp2_with fail
 go_loopw [10] (fun v wr => ∃ k : Nat, k ≤ cl.length ∧ v = .int .i64 k ∧ Hid (orE (((List.range cl.length).map (plW p.office cl)).drop k) = R) ∧ Below w.heap.size w wr) (fun v _ => cl.length - (intOf v).toNat)
 case atStart => exact ⟨0, by omega, rfl, q9 (by rw [List.drop_zero]; exact hR.out), Below.refl _ _⟩
 case round =>
  clear hR;obtain ⟨k, hk, rfl, hd, hb⟩ := hrel;have k0 : (0 : Int) ≤ (k : Int) := by omega
  by_cases hlt : k < cl.length
  ·obtain ⟨bC, oC, ⟨x, y, nm, of, fr, til⟩, hae, c0, c1, c2, c3, c4, c5, hx⟩ := (HC.out _ hb).get (k := k) hlt;obtain ⟨z, hz⟩ : ∃ z, Hid ((plE p.office ⟨x, y, nm, of, fr, til⟩) = z) := ⟨_, q9 rfl⟩;have hEk : (plW p.office cl) k = z := by rw [← hz.out, plW, hx.out]
   have hB1 := hb.alloc hb.size (.cells #[.int .i64 x, .int .i64 y, .string nm, .int .i64 of, .int .i64 fr, .int .i64 til] 114);have hC1 := rule8c_any S p a (k : Int) x y nm of fr til (wr.alloc (.cells #[.int .i64 x, .int .i64 y, .string nm, .int .i64 of, .int .i64 fr, .int .i64 til] 114)) (HSf.out _ hB1) (HN.out _ (List.mem_of_getElem? hx.out));rw [hz.out] at hC1;have hd2 := hd.out;rw [eachE_drop hlt, hEk] at hd2;have Hd2 := q9 hd2;have HB1 := q9 hB1;have hz1 : w.heap.size ≤ (wr.alloc (.cells #[.int .i64 x, .int .i64 y, .string nm, .int .i64 of, .int .i64 fr, .int .i64 til] 114)).heap.size := hB1.size;clear hd hd2 hx hz hb hB1 hEk;rw [hae];go_wp2_with fail
   refine hC1.mono ?_;rintro e w1 ⟨rfl, hb1⟩;have HB2 := q9 (HB1.out.trans (hb1.mono hz1));clear hb1 HB1 hz1;by_cases f1 : z = 0
   ·have b1 : (z != 0) = false := by simp [f1]
    have Hd3 := q9 (show orE (((List.range cl.length).map (plW p.office cl)).drop (k + 1)) = R from by have h := Hd2.out; rw [if_neg (by simp [f1])] at h; exact h);clear Hd2 f1;go_wp2_with fail
    go_roundw
    case rel => exact ⟨k + 1, by omega, by go_num, Hd3, HB2.out⟩
    case measure => simp [intOf]; omega
   have b1 : (z != 0) = true := by simp [f1]
   have hr := q9 (show R = z from by have h := Hd2.out; rw [if_pos f1] at h; exact h.symm);clear Hd2 f1;go_wp2_with fail
   go_ret
   exact ⟨by rw [hr.out]; rfl, HB2.out⟩
  have hr := q9 (show R = 0 from by rw [← hd.out, List.drop_eq_nil_of_le (by simp; omega)]; rfl);have Hb := q9 hb;clear hd hb;go_wp2_with fail
  go_ret
  exact ⟨by rw [hr.out]; rfl, Hb.out⟩
theorem eachSt_any (S T I N : Nat) (p : Pa) (a : Pw) (C : Option Addr) (c : Nat) (cl : List Sk) (w : World) (h : RC w S T I N p a) (hC : SS w C cl) (hl : cl.length ≤ 1099511627776) :
  Calls Tryz.prog 122 #[.slice C cl.length c, .func (.func 123) #[] #[.pointer (some ⟨T, 0, none⟩)]] w fun e w' => e = .returned (.int .i64 (eachE (skW p.office cl) cl.length)) ∧ Below w.heap.size w w' := by
 obtain ⟨R, hR⟩ : ∃ z, Hid (eachE (skW p.office cl) cl.length = z) := ⟨_, q9 rfl⟩;rw [hR.out];have HC := q9 (fun (W : World) (hW : Below w.heap.size w W) => (show SS W C cl from hC.below hW));have HSf := q9 (fun (W : World) (hW : Below w.heap.size w W) => h.below hW);clear h hC;go_enter Tryz.func122, Tryz.ntmps122
 go_wp2_with fail
 go_loopw [10] (fun v wr => ∃ k : Nat, k ≤ cl.length ∧ v = .int .i64 k ∧ Hid (orE (((List.range cl.length).map (skW p.office cl)).drop k) = R) ∧ Below w.heap.size w wr) (fun v _ => cl.length - (intOf v).toNat)
 case atStart => exact ⟨0, by omega, rfl, q9 (by rw [List.drop_zero]; exact hR.out), Below.refl _ _⟩
 case round =>
  clear hR;obtain ⟨k, hk, rfl, hd, hb⟩ := hrel;have k0 : (0 : Int) ≤ (k : Int) := by omega
  by_cases hlt : k < cl.length
  ·obtain ⟨bC, oC, ⟨ax, ay, bx, by_, cls⟩, D, dc, hae, c0, c1, c2, c3, c4, hcs, hcl, hx⟩ := (HC.out _ hb).get (k := k) hlt;obtain ⟨z, hz⟩ : ∃ z, Hid ((skE p.office ⟨ax, ay, bx, by_, cls⟩) = z) := ⟨_, q9 rfl⟩;have hEk : (skW p.office cl) k = z := by rw [← hz.out, skW, hx.out]
   have hB0 := Below.refl wr.heap.size wr;have hB1 := hb.alloc hb.size (.cells #[.int .i64 ax, .int .i64 ay, .int .i64 bx, .int .i64 by_, .slice D cls.length dc] 62);have hC1 := rule7c_any S T I N p a (k : Int) ax ay bx by_ D dc cls (wr.alloc (.cells #[.int .i64 ax, .int .i64 ay, .int .i64 bx, .int .i64 by_, .slice D cls.length dc] 62)) (HSf.out _ hB1) (hcs.below (hB0.alloc hB0.size (.cells #[.int .i64 ax, .int .i64 ay, .int .i64 bx, .int .i64 by_, .slice D cls.length dc] 62))) hcl;rw [hz.out] at hC1;have hd2 := hd.out;rw [eachE_drop hlt, hEk] at hd2;have Hd2 := q9 hd2;have HB1 := q9 hB1;have hz1 : w.heap.size ≤ (wr.alloc (.cells #[.int .i64 ax, .int .i64 ay, .int .i64 bx, .int .i64 by_, .slice D cls.length dc] 62)).heap.size := hB1.size;clear hd hd2 hx hz hb hB1 hEk hB0 hcs hcl;rw [hae];go_wp2_with fail
   refine hC1.mono ?_;rintro e w1 ⟨rfl, hb1⟩;have HB2 := q9 (HB1.out.trans (hb1.mono hz1));clear hb1 HB1 hz1;by_cases f1 : z = 0
   ·have b1 : (z != 0) = false := by simp [f1]
    have Hd3 := q9 (show orE (((List.range cl.length).map (skW p.office cl)).drop (k + 1)) = R from by have h := Hd2.out; rw [if_neg (by simp [f1])] at h; exact h);clear Hd2 f1;go_wp2_with fail
    go_roundw
    case rel => exact ⟨k + 1, by omega, by go_num, Hd3, HB2.out⟩
    case measure => simp [intOf]; omega
   have b1 : (z != 0) = true := by simp [f1]
   have hr := q9 (show R = z from by have h := Hd2.out; rw [if_pos f1] at h; exact h.symm);clear Hd2 f1;go_wp2_with fail
   go_ret
   exact ⟨by rw [hr.out]; rfl, HB2.out⟩
  have hr := q9 (show R = 0 from by rw [← hd.out, List.drop_eq_nil_of_le (by simp; omega)]; rfl);have Hb := q9 hb;clear hd hb;go_wp2_with fail
  go_ret
  exact ⟨by rw [hr.out]; rfl, Hb.out⟩
theorem rule7_any (S T I N : Nat) (p : Pa) (a : Pw) (w : World) (h : RC w S T I N p a) (hl : p.st.length ≤ 1099511627776) :
  Calls Tryz.prog 121 #[.pointer (some ⟨S, 0, none⟩), .pointer (some ⟨T, 0, none⟩)] w fun e w' => e = .returned (.int .i64 (eachE (skW p.office p.st) p.st.length)) ∧ Below w.heap.size w w' := by
 have g2 : w.cell? ⟨S, 3, none⟩ = some (.slice a.s p.st.length a.cs) := h.s.cell 3;have hC := eachSt_any S T I N p a a.s a.cs p.st w h h.t.s hl;obtain ⟨R, hR⟩ : ∃ z, Hid (eachE (skW p.office p.st) p.st.length = z) := ⟨_, q9 rfl⟩;rw [hR.out] at hC ⊢;clear h hR hl;go_enter Tryz.func121, Tryz.ntmps121
 go_wp2_with fail
 refine hC.mono ?_;rintro e w1 ⟨rfl, hb⟩;have Hb := q9 hb;clear hb;go_wp2_with fail
 go_ret
 exact ⟨rfl, Hb.out⟩
theorem rule8_any (S T I N : Nat) (p : Pa) (a : Pw) (w : World) (h : RC w S T I N p a) (hl : p.pl.length ≤ 1099511627776) (hN : ∀ q ∈ p.pl, q.nm.size ≤ 1099511627776) :
  Calls Tryz.prog 125 #[.pointer (some ⟨S, 0, none⟩)] w fun e w' => e = .returned (.int .i64 (eachE (plW p.office p.pl) p.pl.length)) ∧ Below w.heap.size w w' := by
 have g2 : w.cell? ⟨S, 4, none⟩ = some (.slice a.l p.pl.length a.cl) := h.s.cell 4;have hC := eachPl_any S p a a.l a.cl p.pl w h.s h.t.l hN hl;obtain ⟨R, hR⟩ : ∃ z, Hid (eachE (plW p.office p.pl) p.pl.length = z) := ⟨_, q9 rfl⟩;rw [hR.out] at hC ⊢;clear h hR hl hN;go_enter Tryz.func125, Tryz.ntmps125
 go_wp2_with fail
 refine hC.mono ?_;rintro e w1 ⟨rfl, hb⟩;have Hb := q9 hb;clear hb;go_wp2_with fail
 go_ret
 exact ⟨rfl, Hb.out⟩
theorem rule12_any (S T I N : Nat) (p : Pa) (a : Pw) (w : World) (h : RC w S T I N p a) (hl : p.rt.length ≤ 1099511627776) :
  Calls Tryz.prog 136 #[.pointer (some ⟨S, 0, none⟩)] w fun e w' => e = .returned (.int .i64 (eachE (rtW p.rt) p.rt.length)) ∧ Below w.heap.size w w' := by
 have g2 : w.cell? ⟨S, 8, none⟩ = some (.slice a.r p.rt.length a.cr) := h.s.cell 8;have hC := eachR_any a.r a.cr p.rt w h.t.r hl;obtain ⟨R, hR⟩ : ∃ z, Hid (eachE (rtW p.rt) p.rt.length = z) := ⟨_, q9 rfl⟩;rw [hR.out] at hC ⊢;clear h hR hl;go_enter Tryz.func136, Tryz.ntmps136
 go_wp2_with fail
 refine hC.mono ?_;rintro e w1 ⟨rfl, hb⟩;have Hb := q9 hb;clear hb;go_wp2_with fail
 go_ret
 exact ⟨rfl, Hb.out⟩
def mkE (o : Int) (needs : List Int) (m : Mk) : Int := if m.p ∉ needs then 12 else if ¬ (0 ≤ m.i ∧ m.i ≤ 4095) ∨ clE m.c ≠ 0 ∨ m.c.office ≠ o then 1 else 0
theorem or3 (P Q C : Prop) [Decidable P] [Decidable Q] [Decidable C] : orE [if (!decide P) = true then 12 else 0, if decide (¬ Q) = true then 1 else 0, if C then 1 else 0] = if ¬ P then 12 else if ¬ Q ∨ C then 1 else 0 := by
 by_cases hp : P <;> by_cases hq : Q <;> by_cases hc : C <;> simp [orE, hp, hq, hc]
theorem or3' (P Q C : Prop) [Decidable P] [Decidable Q] [Decidable C] : orE [if (!decide P) = true then 12 else 0, if decide (¬ Q) = true then 1 else 0, if C then 16 else 0] = if ¬ P then 12 else if ¬ Q then 1 else if C then 16 else 0 := by
 by_cases hp : P <;> by_cases hq : Q <;> by_cases hc : C <;> simp [orE, hp, hq, hc]
theorem mkE_or (o : Int) (needs : List Int) (m : Mk) : orE [if (!decide (m.p ∈ needs)) = true then 12 else 0, if decide (¬ (0 ≤ m.i ∧ m.i ≤ 4095)) = true then 1 else 0, if clE m.c ≠ 0 ∨ m.c.office ≠ o then 1 else 0] = mkE o needs m := by
 exact or3 _ _ _
theorem rule9c_any (S T I N : Nat) (p : Pa) (a : Pw) (i mp mi kd of fr til de : Int) (w : World) (h : RC w S T I N p a) (hl : p.needs.length ≤ 1099511627776) :
  Calls Tryz.prog 132 #[.int .i64 i, .agg #[.int .u64 mp, .int .i64 mi, .int .i64 kd, .int .i64 of, .int .i64 fr, .int .i64 til, .int .i64 de], .pointer (some ⟨S, 0, none⟩), .pointer (some ⟨I, 0, none⟩), .pointer (some ⟨T, 0, none⟩)] w fun e w' => e = .returned (.int .i64 (mkE p.office p.needs ⟨mp, mi, ⟨kd, of, fr, til, de⟩⟩)) ∧ Below w.heap.size w w' := by
 have hb := (Below.refl w.heap.size w).alloc (Nat.le_refl _) (.cells #[.int .u64 mp, .int .i64 mi, .int .i64 kd, .int .i64 of, .int .i64 fr, .int .i64 til, .int .i64 de] 88);have hk1 := Bk.new w 88 #[.int .u64 mp, .int .i64 mi, .int .i64 kd, .int .i64 of, .int .i64 fr, .int .i64 til, .int .i64 de];have hk2 := h.below hb;obtain ⟨R, hR⟩ : ∃ z, Hid (mkE p.office p.needs ⟨mp, mi, ⟨kd, of, fr, til, de⟩⟩ = z) := ⟨_, q9 rfl⟩;rw [hR.out];obtain ⟨b1, hb1⟩ : ∃ z, Hid (decide (mp ∈ p.needs) = z) := ⟨_, q9 rfl⟩;obtain ⟨b2, hb2⟩ : ∃ z, Hid (decide (¬ (0 ≤ mi ∧ mi ≤ 4095)) = z) := ⟨_, q9 rfl⟩;obtain ⟨r1, hr1⟩ : ∃ z, Hid ((if (!b1) = true then (12 : Int) else 0) = z) := ⟨_, q9 rfl⟩;obtain ⟨r2, hr2⟩ : ∃ z, Hid ((if b2 = true then (1 : Int) else 0) = z) := ⟨_, q9 rfl⟩;obtain ⟨r3, hr3⟩ : ∃ z, Hid ((if clE ⟨kd, of, fr, til, de⟩ ≠ 0 ∨ (⟨kd, of, fr, til, de⟩ : Cl).office ≠ p.office then (1 : Int) else 0) = z) := ⟨_, q9 rfl⟩;have hRe := q9 (show orE [r1, r2, r3] = R from by rw [← hR.out, ← mkE_or, ← hr1.out, ← hr2.out, ← hr3.out, ← hb1.out, ← hb2.out]);have K1 := q9 (fun W (h1 : SU W a.n p.needs) => hb1.out ▸ containsU_any a.n a.cn p.needs mp W h1 hl);have K2 := q9 (fun W => hb2.out ▸ rule2_any mi W);have K3 := q9 (fun W => hr1.out ▸ when_any (!b1) 12 W);have K4 := q9 (fun W => hr2.out ▸ when_any b2 1 W);have K5 := q9 (fun W (h1 : Bk W S 34 (paC p a)) => hr3.out ▸ rule1_any S p a i ⟨kd, of, fr, til, de⟩ W h1);clear h hR hb1 hb2 hr1 hr2 hr3;go_enter Tryz.func132, Tryz.ntmps132
 go_upto_region 1 with fail
 generalize w.alloc (.cells #[.int .u64 mp, .int .i64 mi, .int .i64 kd, .int .i64 of, .int .i64 fr, .int .i64 til, .int .i64 de] 88) = W0 at *;generalize hs : w.heap.size = s at *;have Hs := q9 hs;clear hs;have Hb := q9 hb;have HQ := q9 (fun (W : World) (hW : Below W0.heap.size W0 W) => hk2.below hW);have HSf := q9 (fun (W : World) (hW : Below W0.heap.size W0 W) => show W.cell? ⟨S, 2, none⟩ = some (.slice a.n p.needs.length a.cn) ∧ W.cell? ⟨s, 0, none⟩ = some (.int .u64 mp) ∧ W.cell? ⟨s, 1, none⟩ = some (.int .i64 mi) ∧ W.cell? ⟨s, 2, none⟩ = some (.int .i64 kd) ∧ W.cell? ⟨s, 3, none⟩ = some (.int .i64 of) ∧ W.cell? ⟨s, 4, none⟩ = some (.int .i64 fr) ∧ W.cell? ⟨s, 5, none⟩ = some (.int .i64 til) ∧ W.cell? ⟨s, 6, none⟩ = some (.int .i64 de) ∧ W.cell? ⟨I, 0, none⟩ = some (.func (.func 111) #[] #[]) ∧ W.cell? ⟨T, 0, none⟩ = some (.func (.func 109) #[] #[.pointer (some ⟨S, 0, none⟩)]) from ⟨(hk2.below hW).s.cell 2, (hk1.below hW hk1.lt).cell 0, (hk1.below hW hk1.lt).cell 1, (hk1.below hW hk1.lt).cell 2, (hk1.below hW hk1.lt).cell 3, (hk1.below hW hk1.lt).cell 4, (hk1.below hW hk1.lt).cell 5, (hk1.below hW hk1.lt).cell 6, (hk2.below hW).i.cell 0, (hk2.below hW).c.cell 0⟩);have HB0 := q9 ((Below.refl W0.heap.size W0).drew);have hz0 : s ≤ W0.heap.size := by have := hk1.lt; omega
 clear hb hk1 hk2;refine rH 22 (fun W => W.cell? ⟨S, 2, none⟩ = some (.slice a.n p.needs.length a.cn) ∧ W.cell? ⟨s, 0, none⟩ = some (.int .u64 mp) ∧ W.cell? ⟨s, 1, none⟩ = some (.int .i64 mi) ∧ W.cell? ⟨s, 2, none⟩ = some (.int .i64 kd) ∧ W.cell? ⟨s, 3, none⟩ = some (.int .i64 of) ∧ W.cell? ⟨s, 4, none⟩ = some (.int .i64 fr) ∧ W.cell? ⟨s, 5, none⟩ = some (.int .i64 til) ∧ W.cell? ⟨s, 6, none⟩ = some (.int .i64 de) ∧ W.cell? ⟨I, 0, none⟩ = some (.func (.func 111) #[] #[]) ∧ W.cell? ⟨T, 0, none⟩ = some (.func (.func 109) #[] #[.pointer (some ⟨S, 0, none⟩)])) ?_;generalize W0.drew = X0 at *;refine Ht 0 (.pointer (some ⟨S, 2, none⟩)) 8 rfl rfl rfl (fun W hW => by obtain ⟨s0, s1, s2, s3, s4, s5, s6, s7, s8, s9⟩ := hW; go_simp) (HSf.out _ HB0.out) ?_;refine Ht 1 (.slice a.n p.needs.length a.cn) 9 rfl rfl rfl (fun W hW => by obtain ⟨s0, s1, s2, s3, s4, s5, s6, s7, s8, s9⟩ := hW; go_simp) (HSf.out _ HB0.out) ?_;refine Ht 2 (.pointer (some ⟨s, 0, none⟩)) 10 rfl rfl rfl (fun W hW => by obtain ⟨s0, s1, s2, s3, s4, s5, s6, s7, s8, s9⟩ := hW; go_simp) (HSf.out _ HB0.out) ?_;refine Ht 3 (.pointer (some ⟨s, 0, none⟩)) 11 rfl rfl rfl (fun W hW => by obtain ⟨s0, s1, s2, s3, s4, s5, s6, s7, s8, s9⟩ := hW; go_simp) (HSf.out _ HB0.out) ?_;refine Ht 4 (.int .u64 mp) 12 rfl rfl rfl (fun W hW => by obtain ⟨s0, s1, s2, s3, s4, s5, s6, s7, s8, s9⟩ := hW; go_simp) (HSf.out _ HB0.out) ?_
 refine Ht 8 (.func (.func 111) #[] #[]) 16 rfl rfl rfl (fun W hW => by obtain ⟨s0, s1, s2, s3, s4, s5, s6, s7, s8, s9⟩ := hW; go_simp) (HSf.out _ HB0.out) ?_;refine Ht 9 (.pointer (some ⟨s, 0, none⟩)) 17 rfl rfl rfl (fun W hW => by obtain ⟨s0, s1, s2, s3, s4, s5, s6, s7, s8, s9⟩ := hW; go_simp) (HSf.out _ HB0.out) ?_;refine Ht 10 (.pointer (some ⟨s, 1, none⟩)) 18 rfl rfl rfl (fun W hW => by obtain ⟨s0, s1, s2, s3, s4, s5, s6, s7, s8, s9⟩ := hW; go_simp) (HSf.out _ HB0.out) ?_;refine Ht 11 (.int .i64 mi) 19 rfl rfl rfl (fun W hW => by obtain ⟨s0, s1, s2, s3, s4, s5, s6, s7, s8, s9⟩ := hW; go_simp) (HSf.out _ HB0.out) ?_;try simp only [Act.put, qz0, qz1, qz2]
 refine Ht 14 (.func (.func 109) #[] #[.pointer (some ⟨S, 0, none⟩)]) 22 rfl rfl rfl (fun W hW => by obtain ⟨s0, s1, s2, s3, s4, s5, s6, s7, s8, s9⟩ := hW; go_simp) (HSf.out _ HB0.out) ?_;refine Ht 15 (.int .i64 i) 23 rfl rfl rfl (fun W hW => by obtain ⟨s0, s1, s2, s3, s4, s5, s6, s7, s8, s9⟩ := hW; go_simp) (HSf.out _ HB0.out) ?_;refine Ht 16 (.pointer (some ⟨s, 2, none⟩)) 24 rfl rfl rfl (fun W hW => by obtain ⟨s0, s1, s2, s3, s4, s5, s6, s7, s8, s9⟩ := hW; go_simp) (HSf.out _ HB0.out) ?_;refine Ht 17 (.agg #[.int .i64 kd, .int .i64 of, .int .i64 fr, .int .i64 til, .int .i64 de]) 25 rfl rfl rfl (fun W hW => by obtain ⟨s0, s1, s2, s3, s4, s5, s6, s7, s8, s9⟩ := hW; go_simp) (HSf.out _ HB0.out) ?_;try simp only [Act.put, qz0, qz1, qz2]
 refine H1 5 rfl rfl (fun K hK13 => ?_);go_simp
 go_at_call 115
 refine (K1.out _ (HQ.out _ HB0.out).t.n).mono ?_;rintro e wv ⟨rfl, rfl⟩;refine hK13.out _ _ (HSf.out _ HB0.out) ?_;try simp only [Act.put, qz0, qz1, qz2]
 refine Ht 6 (.bool (!b1)) 14 rfl rfl rfl (fun W hW => by obtain ⟨s0, s1, s2, s3, s4, s5, s6, s7, s8, s9⟩ := hW; go_simp) (HSf.out _ HB0.out) ?_;try simp only [Act.put, qz0, qz1, qz2]
 refine H1 7 rfl rfl (fun K hK15 => ?_);go_simp
 go_at_call 110
 refine (K3.out _).mono ?_;rintro e wv ⟨rfl, rfl⟩;refine hK15.out _ _ (HSf.out _ HB0.out) ?_;try simp only [Act.put, qz0, qz1, qz2]
 refine H1 12 rfl rfl (fun K hK16 => ?_);go_simp
 go_at_call 111
 refine (K2.out _).mono ?_;rintro e wv ⟨rfl, rfl⟩;refine hK16.out _ _ (HSf.out _ HB0.out) ?_;try simp only [Act.put, qz0, qz1, qz2]
 refine H1 13 rfl rfl (fun K hK17 => ?_);go_simp
 go_at_call 110
 refine (K4.out _).mono ?_;rintro e wv ⟨rfl, rfl⟩;refine hK17.out _ _ (HSf.out _ HB0.out) ?_;try simp only [Act.put, qz0, qz1, qz2]
 refine H1 18 rfl rfl (fun K hK18 => ?_);go_simp
 go_at_call 109
 refine (K5.out _ (HQ.out _ HB0.out).s).mono ?_;rintro e wv1 ⟨rfl, hv1⟩;have HB1 := q9 (HB0.out.trans (hv1.mono HB0.out.size));clear hv1;refine hK18.out _ _ (HSf.out _ HB1.out) ?_;try simp only [Act.put, qz0, qz1, qz2]
 refine H1 19 rfl rfl (fun K hK19 => ?_);go_simp
 have HB2 := q9 (HB1.out.alloc HB1.out.size (.cells #[.int .i64 r1, .int .i64 r2, .int .i64 r3] 25));have hsi := q9 (show SI (wv1.alloc (.cells #[.int .i64 r1, .int .i64 r2, .int .i64 r3] 25)) (some ⟨wv1.heap.size, 0, none⟩) [r1, r2, r3] from sl_bk (Bk.new wv1 25 #[.int .i64 r1, .int .i64 r2, .int .i64 r3]));refine hK19.out _ _ (HSf.out _ HB2.out) ?_;try simp only [Act.put, qz0, qz1, qz2]
 generalize wv1.alloc (.cells #[.int .i64 r1, .int .i64 r2, .int .i64 r3] 25) = X9 at *;generalize wv1.heap.size = h9 at *;refine H1 20 rfl rfl (fun K hK20 => ?_);go_simp
 go_at_call 114
 refine (or_any (some ⟨h9, 0, none⟩) 3 [r1, r2, r3] X9 hsi.out (by simp)).mono ?_;rintro e wv ⟨he, rfl⟩;rw [hRe.out] at he;subst he;refine hK20.out _ _ (HSf.out _ HB2.out) ?_;try simp only [Act.put, qz0, qz1, qz2]
 refine Ht 21 (.int .i64 R) 7 rfl rfl rfl (fun W hW => by obtain ⟨s0, s1, s2, s3, s4, s5, s6, s7, s8, s9⟩ := hW; go_simp) (HSf.out _ HB2.out) ?_;try simp only [Act.put, qz0, qz1, qz2]
 refine H0 ?_;try simp only [Act.put, qz0, qz1, qz2]
 have Hb2 := q9 (Hb.out.trans (HB2.out.mono hz0));clear HB0 HB1 HB2 HSf HQ K1 K2 K3 K4 K5 hsi;go_wp2_with fail
 go_ret
 exact ⟨rfl, by rw [Hs.out]; exact Hb2.out⟩
theorem eachM_any (S T I N : Nat) (p : Pa) (a : Pw) (C : Option Addr) (c : Nat) (cl : List Mk) (w : World) (h : RC w S T I N p a) (hC : SM w C cl) (hl2 : p.needs.length ≤ 1099511627776) (hl : cl.length ≤ 1099511627776) :
  Calls Tryz.prog 131 #[.slice C cl.length c, .func (.func 132) #[] #[.pointer (some ⟨S, 0, none⟩), .pointer (some ⟨I, 0, none⟩), .pointer (some ⟨T, 0, none⟩)]] w fun e w' => e = .returned (.int .i64 (eachE (mkW p.office p.needs cl) cl.length)) ∧ Below w.heap.size w w' := by
 obtain ⟨R, hR⟩ : ∃ z, Hid (eachE (mkW p.office p.needs cl) cl.length = z) := ⟨_, q9 rfl⟩;rw [hR.out];have HC := q9 (fun (W : World) (hW : Below w.heap.size w W) => (show SM W C cl from hC.below hW));have HSf := q9 (fun (W : World) (hW : Below w.heap.size w W) => h.below hW);clear h hC;go_enter Tryz.func131, Tryz.ntmps131
 go_wp2_with fail
 go_loopw [10] (fun v wr => ∃ k : Nat, k ≤ cl.length ∧ v = .int .i64 k ∧ Hid (orE (((List.range cl.length).map (mkW p.office p.needs cl)).drop k) = R) ∧ Below w.heap.size w wr) (fun v _ => cl.length - (intOf v).toNat)
 case atStart => exact ⟨0, by omega, rfl, q9 (by rw [List.drop_zero]; exact hR.out), Below.refl _ _⟩
 case round =>
  clear hR;obtain ⟨k, hk, rfl, hd, hb⟩ := hrel;have k0 : (0 : Int) ≤ (k : Int) := by omega
  by_cases hlt : k < cl.length
  ·obtain ⟨bC, oC, ⟨mp, mi, ⟨kd, of, fr, til, de⟩⟩, hae, c0, c1, c2, c3, c4, c5, c6, hx⟩ := (HC.out _ hb).get (k := k) hlt;obtain ⟨z, hz⟩ : ∃ z, Hid ((mkE p.office p.needs ⟨mp, mi, ⟨kd, of, fr, til, de⟩⟩) = z) := ⟨_, q9 rfl⟩;have hEk : (mkW p.office p.needs cl) k = z := by rw [← hz.out, mkW, hx.out]; rfl
   have hB1 := hb.alloc hb.size (.cells #[.int .u64 mp, .int .i64 mi, .int .i64 kd, .int .i64 of, .int .i64 fr, .int .i64 til, .int .i64 de] 88);have hC1 := rule9c_any S T I N p a (k : Int) mp mi kd of fr til de (wr.alloc (.cells #[.int .u64 mp, .int .i64 mi, .int .i64 kd, .int .i64 of, .int .i64 fr, .int .i64 til, .int .i64 de] 88)) (HSf.out _ hB1) hl2;rw [hz.out] at hC1;have hd2 := hd.out;rw [eachE_drop hlt, hEk] at hd2;have Hd2 := q9 hd2;have HB1 := q9 hB1;have hz1 : w.heap.size ≤ (wr.alloc (.cells #[.int .u64 mp, .int .i64 mi, .int .i64 kd, .int .i64 of, .int .i64 fr, .int .i64 til, .int .i64 de] 88)).heap.size := hB1.size;clear hd hd2 hx hz hb hB1 hEk;rw [hae];go_wp2_with fail
   refine hC1.mono ?_;rintro e w1 ⟨rfl, hb1⟩;have HB2 := q9 (HB1.out.trans (hb1.mono hz1));clear hb1 HB1 hz1;by_cases f1 : z = 0
   ·have b1 : (z != 0) = false := by simp [f1]
    have Hd3 := q9 (show orE (((List.range cl.length).map (mkW p.office p.needs cl)).drop (k + 1)) = R from by have h := Hd2.out; rw [if_neg (by simp [f1])] at h; exact h);clear Hd2 f1;go_wp2_with fail
    go_roundw
    case rel => exact ⟨k + 1, by omega, by go_num, Hd3, HB2.out⟩
    case measure => simp [intOf]; omega
   have b1 : (z != 0) = true := by simp [f1]
   have hr := q9 (show R = z from by have h := Hd2.out; rw [if_pos f1] at h; exact h.symm);clear Hd2 f1;go_wp2_with fail
   go_ret
   exact ⟨by rw [hr.out]; rfl, HB2.out⟩
  have hr := q9 (show R = 0 from by rw [← hd.out, List.drop_eq_nil_of_le (by simp; omega)]; rfl);have Hb := q9 hb;clear hd hb;go_wp2_with fail
  go_ret
  exact ⟨by rw [hr.out]; rfl, Hb.out⟩
theorem rule9_any (S T I N : Nat) (p : Pa) (a : Pw) (w : World) (h : RC w S T I N p a) (hl : p.ma.length ≤ 1099511627776) (hl2 : p.needs.length ≤ 1099511627776) :
  Calls Tryz.prog 130 #[.pointer (some ⟨S, 0, none⟩), .pointer (some ⟨I, 0, none⟩), .pointer (some ⟨T, 0, none⟩)] w fun e w' => e = .returned (.int .i64 (eachE (mkW p.office p.needs p.ma) p.ma.length)) ∧ Below w.heap.size w w' := by
 have g2 : w.cell? ⟨S, 5, none⟩ = some (.slice a.m p.ma.length a.cm) := h.s.cell 5;have hC := eachM_any S T I N p a a.m a.cm p.ma w h h.t.m hl2 hl;obtain ⟨R, hR⟩ : ∃ z, Hid (eachE (mkW p.office p.needs p.ma) p.ma.length = z) := ⟨_, q9 rfl⟩;rw [hR.out] at hC ⊢;clear h hR hl;go_enter Tryz.func130, Tryz.ntmps130
 go_wp2_with fail
 refine hC.mono ?_;rintro e w1 ⟨rfl, hb⟩;have Hb := q9 hb;clear hb;go_wp2_with fail
 go_ret
 exact ⟨rfl, Hb.out⟩
theorem idE_or {needs : List Int} {l : List (Int × Int)} {k : Nat} {x y : Int} (b : Bool) (hx : l[k]? = some (x, y)) (hb : b = true ↔ 0 < k ∧ lessI (l.getD (k - 1) (0, 0)) (x, y) = false) :
  orE [if (!decide (x ∈ needs)) = true then 12 else 0, if decide (¬ (0 ≤ y ∧ y ≤ 4095)) = true then 1 else 0, if b = true then 16 else 0] = idE needs l k := by
 have hd : l.getD k (0, 0) = (x, y) := by rw [List.getD_eq_getElem?_getD, hx]; rfl
 unfold idE;rw [hd];refine (or3' _ _ _).trans ?_;congr 2
 exact ite_congr (propext hb) (fun _ => rfl) (fun _ => rfl)
theorem rule3c0_any (S T I N L : Nat) (p : Pa) (a : Pw) (A : Option Addr) (c : Nat) (l : List (Int × Int)) (x y : Int) (w : World) (h : RC w S T I N p a) (hL : Bk w L 31 #[.slice A l.length c]) (hx : l[0]? = some (x, y)) (hl : p.needs.length ≤ 1099511627776) :
  Calls Tryz.prog 113 #[.int .i64 0, .agg #[.int .u64 x, .int .i64 y], .pointer (some ⟨S, 0, none⟩), .pointer (some ⟨I, 0, none⟩), .pointer (some ⟨L, 0, none⟩)] w fun e w' => e = .returned (.int .i64 (idE p.needs l 0)) ∧ Below w.heap.size w w' := by
 have hb := (Below.refl w.heap.size w).alloc (Nat.le_refl _) (.cells #[.int .u64 x, .int .i64 y] 77);have hk1 := Bk.new w 77 #[.int .u64 x, .int .i64 y];have hk2 := h.below hb;have hk3 := hL.below hb hL.lt;obtain ⟨R, hR⟩ : ∃ z, Hid (idE p.needs l 0 = z) := ⟨_, q9 rfl⟩;rw [hR.out];obtain ⟨b1, hb1⟩ : ∃ z, Hid (decide (x ∈ p.needs) = z) := ⟨_, q9 rfl⟩;obtain ⟨b2, hb2⟩ : ∃ z, Hid (decide (¬ (0 ≤ y ∧ y ≤ 4095)) = z) := ⟨_, q9 rfl⟩;obtain ⟨r1, hr1⟩ : ∃ z, Hid ((if (!b1) = true then (12 : Int) else 0) = z) := ⟨_, q9 rfl⟩;obtain ⟨r2, hr2⟩ : ∃ z, Hid ((if b2 = true then (1 : Int) else 0) = z) := ⟨_, q9 rfl⟩;have hRe := q9 (show orE [r1, r2, 0] = R from by rw [← hR.out, ← idE_or false hx (by simp), ← hr1.out, ← hr2.out, ← hb1.out, ← hb2.out]; rfl);have K1 := q9 (fun W (h1 : SU W a.n p.needs) => hb1.out ▸ containsU_any a.n a.cn p.needs x W h1 hl);have K2 := q9 (fun W => hb2.out ▸ rule2_any y W);have K3 := q9 (fun W => hr1.out ▸ when_any (!b1) 12 W);have K4 := q9 (fun W => hr2.out ▸ when_any b2 1 W);clear h hL hR hb1 hb2 hr1 hr2 hx;go_enter Tryz.func113, Tryz.ntmps113
 go_upto_region 1 with fail
 generalize w.alloc (.cells #[.int .u64 x, .int .i64 y] 77) = W0 at *;generalize hs : w.heap.size = s at *;have Hs := q9 hs;clear hs;have Hb := q9 hb;have HQ := q9 (fun (W : World) (hW : Below W0.heap.size W0 W) => hk2.below hW);have HSf := q9 (fun (W : World) (hW : Below W0.heap.size W0 W) => show W.cell? ⟨S, 2, none⟩ = some (.slice a.n p.needs.length a.cn) ∧ W.cell? ⟨s, 0, none⟩ = some (.int .u64 x) ∧ W.cell? ⟨s, 1, none⟩ = some (.int .i64 y) ∧ W.cell? ⟨I, 0, none⟩ = some (.func (.func 111) #[] #[]) from ⟨(hk2.below hW).s.cell 2, (hk1.below hW hk1.lt).cell 0, (hk1.below hW hk1.lt).cell 1, (hk2.below hW).i.cell 0⟩);have HB0 := q9 ((Below.refl W0.heap.size W0).drew);have hz0 : s ≤ W0.heap.size := by have := hk1.lt; omega
 clear hb hk1 hk2 hk3;refine rH 29 (fun W => W.cell? ⟨S, 2, none⟩ = some (.slice a.n p.needs.length a.cn) ∧ W.cell? ⟨s, 0, none⟩ = some (.int .u64 x) ∧ W.cell? ⟨s, 1, none⟩ = some (.int .i64 y) ∧ W.cell? ⟨I, 0, none⟩ = some (.func (.func 111) #[] #[])) ?_;generalize W0.drew = X0 at *;refine Ht 0 (.pointer (some ⟨S, 2, none⟩)) 8 rfl rfl rfl (fun W hW => by obtain ⟨s0, s1, s2, s3⟩ := hW; go_simp) (HSf.out _ HB0.out) ?_;refine Ht 1 (.slice a.n p.needs.length a.cn) 9 rfl rfl rfl (fun W hW => by obtain ⟨s0, s1, s2, s3⟩ := hW; go_simp) (HSf.out _ HB0.out) ?_;refine Ht 2 (.pointer (some ⟨s, 0, none⟩)) 10 rfl rfl rfl (fun W hW => by obtain ⟨s0, s1, s2, s3⟩ := hW; go_simp) (HSf.out _ HB0.out) ?_;refine Ht 3 (.int .u64 x) 11 rfl rfl rfl (fun W hW => by obtain ⟨s0, s1, s2, s3⟩ := hW; go_simp) (HSf.out _ HB0.out) ?_;refine Ht 7 (.func (.func 111) #[] #[]) 15 rfl rfl rfl (fun W hW => by obtain ⟨s0, s1, s2, s3⟩ := hW; go_simp) (HSf.out _ HB0.out) ?_;refine Ht 8 (.pointer (some ⟨s, 1, none⟩)) 16 rfl rfl rfl (fun W hW => by obtain ⟨s0, s1, s2, s3⟩ := hW; go_simp) (HSf.out _ HB0.out) ?_;refine Ht 9 (.int .i64 y) 17 rfl rfl rfl (fun W hW => by obtain ⟨s0, s1, s2, s3⟩ := hW; go_simp) (HSf.out _ HB0.out) ?_;refine Ht 12 (.int .i64 0) 20 rfl rfl rfl (fun W hW => by obtain ⟨s0, s1, s2, s3⟩ := hW; go_simp) (HSf.out _ HB0.out) ?_;refine Ht 13 (.bool false) 21 rfl rfl rfl (fun W hW => by obtain ⟨s0, s1, s2, s3⟩ := hW; go_simp) (HSf.out _ HB0.out) ?_;try simp only [Act.put, qz0, qz1, qz2]
 refine H1 4 rfl rfl (fun K hK9 => ?_);go_simp
 go_at_call 115
 refine (K1.out _ (HQ.out _ HB0.out).t.n).mono ?_;rintro e wv ⟨rfl, rfl⟩;refine hK9.out _ _ (HSf.out _ HB0.out) ?_;try simp only [Act.put, qz0, qz1, qz2]
 refine Ht 5 (.bool (!b1)) 13 rfl rfl rfl (fun W hW => by obtain ⟨s0, s1, s2, s3⟩ := hW; go_simp) (HSf.out _ HB0.out) ?_;try simp only [Act.put, qz0, qz1, qz2]
 refine H1 6 rfl rfl (fun K hK11 => ?_);go_simp
 go_at_call 110
 refine (K3.out _).mono ?_;rintro e wv ⟨rfl, rfl⟩;refine hK11.out _ _ (HSf.out _ HB0.out) ?_;try simp only [Act.put, qz0, qz1, qz2]
 refine H1 10 rfl rfl (fun K hK12 => ?_);go_simp
 go_at_call 111
 refine (K2.out _).mono ?_;rintro e wv ⟨rfl, rfl⟩;refine hK12.out _ _ (HSf.out _ HB0.out) ?_;try simp only [Act.put, qz0, qz1, qz2]
 refine H1 11 rfl rfl (fun K hK13 => ?_);go_simp
 go_at_call 110
 refine (K4.out _).mono ?_;rintro e wv ⟨rfl, rfl⟩;refine hK13.out _ _ (HSf.out _ HB0.out) ?_;try simp only [Act.put, qz0, qz1, qz2]
 refine Ht 14 (.bool false) 22 rfl rfl rfl (fun W hW => by obtain ⟨s0, s1, s2, s3⟩ := hW; go_simp) (HSf.out _ HB0.out) ?_;try simp only [Act.put, qz0, qz1, qz2]
 refine Hu 15 23 rfl rfl (by simp [Region.wanted, yielded, undef]) (HSf.out _ HB0.out) ?_;try simp only [Act.put, qz0, qz1, qz2]
 refine Hu 16 24 rfl rfl (by simp [Region.wanted, yielded, undef]) (HSf.out _ HB0.out) ?_;try simp only [Act.put, qz0, qz1, qz2]
 refine Hu 17 25 rfl rfl (by simp [Region.wanted, yielded, undef]) (HSf.out _ HB0.out) ?_;try simp only [Act.put, qz0, qz1, qz2]
 refine Hu 18 26 rfl rfl (by simp [Region.wanted, yielded, undef]) (HSf.out _ HB0.out) ?_;try simp only [Act.put, qz0, qz1, qz2]
 refine Hu 19 27 rfl rfl (by simp [Region.wanted, yielded, undef]) (HSf.out _ HB0.out) ?_;try simp only [Act.put, qz0, qz1, qz2]
 refine Hu 20 28 rfl rfl (by simp [Region.wanted, yielded, undef]) (HSf.out _ HB0.out) ?_;try simp only [Act.put, qz0, qz1, qz2]
 refine Hu 21 29 rfl rfl (by simp [Region.wanted, yielded, undef]) (HSf.out _ HB0.out) ?_;try simp only [Act.put, qz0, qz1, qz2]
 refine Hu 22 30 rfl rfl (by simp [Region.wanted, yielded, undef]) (HSf.out _ HB0.out) ?_;try simp only [Act.put, qz0, qz1, qz2]
 refine Hu 23 31 rfl rfl (by simp [Region.wanted, yielded, undef]) (HSf.out _ HB0.out) ?_;refine Ht 24 (.bool false) 32 rfl rfl rfl (fun W hW => by obtain ⟨s0, s1, s2, s3⟩ := hW; go_simp) (HSf.out _ HB0.out) ?_;try simp only [Act.put, qz0, qz1, qz2]
 refine H1 25 rfl rfl (fun K hK25 => ?_);go_simp
 go_at_call 110
 refine (when_any false 16 _).mono ?_;rintro e wv ⟨rfl, rfl⟩;refine hK25.out _ _ (HSf.out _ HB0.out) ?_;try simp only [Act.put, qz0, qz1, qz2]
 refine H1 26 rfl rfl (fun K hK26 => ?_);go_simp
 have HB1 := q9 (HB0.out.alloc HB0.out.size (.cells #[.int .i64 r1, .int .i64 r2, .int .i64 0] 25));have hsi := q9 (show SI (X0.alloc (.cells #[.int .i64 r1, .int .i64 r2, .int .i64 0] 25)) (some ⟨X0.heap.size, 0, none⟩) [r1, r2, 0] from sl_bk (Bk.new X0 25 #[.int .i64 r1, .int .i64 r2, .int .i64 0]));refine hK26.out _ _ (HSf.out _ HB1.out) ?_;try simp only [Act.put, qz0, qz1, qz2]
 generalize X0.alloc (.cells #[.int .i64 r1, .int .i64 r2, .int .i64 0] 25) = X9 at *;generalize X0.heap.size = h9 at *;refine H1 27 rfl rfl (fun K hK27 => ?_);go_simp
 go_at_call 114
 refine (or_any (some ⟨h9, 0, none⟩) 3 [r1, r2, 0] X9 hsi.out (by simp)).mono ?_;rintro e wv ⟨he, rfl⟩;rw [hRe.out] at he;subst he;refine hK27.out _ _ (HSf.out _ HB1.out) ?_;try simp only [Act.put, qz0, qz1, qz2]
 refine Ht 28 (.int .i64 R) 7 rfl rfl rfl (fun W hW => by obtain ⟨s0, s1, s2, s3⟩ := hW; go_simp) (HSf.out _ HB1.out) ?_;try simp only [Act.put, qz0, qz1, qz2]
 refine H0 ?_;try simp only [Act.put, qz0, qz1, qz2]
 have Hb2 := q9 (Hb.out.trans (HB1.out.mono hz0));clear HB0 HB1 HSf HQ K1 K2 K3 K4 hsi;go_wp2_with fail
 go_ret
 exact ⟨rfl, by rw [Hs.out]; exact Hb2.out⟩
theorem rule3cS_any (S T I N L : Nat) (p : Pa) (a : Pw) (k : Nat) (A : Option Addr) (c : Nat) (l : List (Int × Int)) (x y : Int) (w : World) (h : RC w S T I N p a) (hL : Bk w L 31 #[.slice A l.length c]) (hA : SD w A l) (hx : l[(k + 1)]? = some (x, y)) (hl : p.needs.length ≤ 1099511627776) (hl2 : l.length ≤ 1099511627776) :
  Calls Tryz.prog 113 #[.int .i64 ((k + 1 : Nat) : Int), .agg #[.int .u64 x, .int .i64 y], .pointer (some ⟨S, 0, none⟩), .pointer (some ⟨I, 0, none⟩), .pointer (some ⟨L, 0, none⟩)] w fun e w' => e = .returned (.int .i64 (idE p.needs l (k + 1))) ∧ Below w.heap.size w w' := by
 have hb := (Below.refl w.heap.size w).alloc (Nat.le_refl _) (.cells #[.int .u64 x, .int .i64 y] 77);have hk1 := Bk.new w 77 #[.int .u64 x, .int .i64 y];have hk2 := h.below hb;have hk3 := hL.below hb hL.lt;obtain ⟨R, hR⟩ : ∃ z, Hid (idE p.needs l (k + 1) = z) := ⟨_, q9 rfl⟩;rw [hR.out];obtain ⟨b1, hb1⟩ : ∃ z, Hid (decide (x ∈ p.needs) = z) := ⟨_, q9 rfl⟩;obtain ⟨b2, hb2⟩ : ∃ z, Hid (decide (¬ (0 ≤ y ∧ y ≤ 4095)) = z) := ⟨_, q9 rfl⟩;obtain ⟨r1, hr1⟩ : ∃ z, Hid ((if (!b1) = true then (12 : Int) else 0) = z) := ⟨_, q9 rfl⟩;obtain ⟨r2, hr2⟩ : ∃ z, Hid ((if b2 = true then (1 : Int) else 0) = z) := ⟨_, q9 rfl⟩;have hk2l := (List.getElem?_eq_some_iff.1 hx).1;obtain ⟨b, o, x2, y2, hae, c0, c1, hy⟩ := hA.get (k := k) (by omega);rw [hae] at hk3;obtain ⟨n1, hn1⟩ : ∃ z, Hid (byN (x2, y2) (x, y) = z) := ⟨_, q9 rfl⟩;obtain ⟨b3, hb3⟩ : ∃ z, Hid (decide (0 ≤ n1) = z) := ⟨_, q9 rfl⟩;obtain ⟨r3, hr3⟩ : ∃ z, Hid ((if b3 = true then (16 : Int) else 0) = z) := ⟨_, q9 rfl⟩;have hRe := q9 (show orE [r1, r2, r3] = R from by
  rw [← hR.out, ← idE_or b3 hx (by rw [← hb3.out, ← hn1.out, byN_ge, show k + 1 - 1 = k from rfl, List.getD_eq_getElem?_getD, hy.out]; simp), ← hr1.out, ← hr2.out, ← hr3.out, ← hb1.out, ← hb2.out])
 have t5 := hb3.out;have hkl : k < l.length := by omega
 have k0 : (0 : Int) ≤ (k : Int) := by omega
 have hw : IntKind.i64.wrap (k : Int) = (k : Int) := IntWalk.i64_in _ ⟨by omega, by omega⟩;have hmx : ∀ (ts : Array TypeId) (t : TypeId) (W : World), (Builtin.max_ ts t #[.int .i64 0, .int .i64 (k : Int)]).run Tryz.prog W = .ok (.int .i64 (k : Int)) W := fun ts t W => by
  rw [Lib.run_max_ints W ts t .i64 .i64 0 (k : Int), Int.max_eq_right k0]
 have hgt : decide ((k : Int) + 1 > 0) = true := decide_eq_true (by omega);have K6 := q9 (fun W => hn1.out ▸ byName_any x2 y2 x y W);have K7 := q9 (fun W => hr3.out ▸ when_any b3 16 W);have hbl : b < w.heap.size := World.block_lt_of_cell? _ _ c0;have hc0 := (hb.cell (p := ⟨b, o + k * 2, none⟩) hbl).trans c0;have hc1 := (hb.cell (p := ⟨b, o + k * 2 + 1, none⟩) hbl).trans c1;have K1 := q9 (fun W (h1 : SU W a.n p.needs) => hb1.out ▸ containsU_any a.n a.cn p.needs x W h1 hl);have K2 := q9 (fun W => hb2.out ▸ rule2_any y W);have K3 := q9 (fun W => hr1.out ▸ when_any (!b1) 12 W);have K4 := q9 (fun W => hr2.out ▸ when_any b2 1 W);clear h hL hR hb1 hb2 hr1 hr2 hx hA hae c0 c1 hy hn1 hb3 hr3;go_enter Tryz.func113, Tryz.ntmps113
 go_upto_region 1 with fail
 have hbl2 : b < (w.alloc (.cells #[.int .u64 x, .int .i64 y] 77)).heap.size := by simp; omega
 generalize w.alloc (.cells #[.int .u64 x, .int .i64 y] 77) = W0 at *;generalize hs : w.heap.size = s at *;have Hs := q9 hs;clear hs;have Hb := q9 hb;have HQ := q9 (fun (W : World) (hW : Below W0.heap.size W0 W) => hk2.below hW);have HSf := q9 (fun (W : World) (hW : Below W0.heap.size W0 W) => show W.cell? ⟨S, 2, none⟩ = some (.slice a.n p.needs.length a.cn) ∧ W.cell? ⟨s, 0, none⟩ = some (.int .u64 x) ∧ W.cell? ⟨s, 1, none⟩ = some (.int .i64 y) ∧ W.cell? ⟨I, 0, none⟩ = some (.func (.func 111) #[] #[]) ∧ W.cell? ⟨L, 0, none⟩ = some (.slice (some ⟨b, o, none⟩) l.length c) ∧ W.cell? ⟨b, o + k * 2, none⟩ = some (.int .u64 x2) ∧ W.cell? ⟨b, o + k * 2 + 1, none⟩ = some (.int .i64 y2) from ⟨(hk2.below hW).s.cell 2, (hk1.below hW hk1.lt).cell 0, (hk1.below hW hk1.lt).cell 1, (hk2.below hW).i.cell 0, (hk3.below hW hk3.lt).cell 0, (hW.cell (p := ⟨b, o + k * 2, none⟩) hbl2).trans hc0, (hW.cell (p := ⟨b, o + k * 2 + 1, none⟩) hbl2).trans hc1⟩);have HB0 := q9 ((Below.refl W0.heap.size W0).drew);have hz0 : s ≤ W0.heap.size := by have := hk1.lt; omega
 clear hb hk1 hk2 hk3 hc0 hc1 hbl hbl2 hk2l;refine rH 29 (fun W => W.cell? ⟨S, 2, none⟩ = some (.slice a.n p.needs.length a.cn) ∧ W.cell? ⟨s, 0, none⟩ = some (.int .u64 x) ∧ W.cell? ⟨s, 1, none⟩ = some (.int .i64 y) ∧ W.cell? ⟨I, 0, none⟩ = some (.func (.func 111) #[] #[]) ∧ W.cell? ⟨L, 0, none⟩ = some (.slice (some ⟨b, o, none⟩) l.length c) ∧ W.cell? ⟨b, o + k * 2, none⟩ = some (.int .u64 x2) ∧ W.cell? ⟨b, o + k * 2 + 1, none⟩ = some (.int .i64 y2)) ?_;generalize W0.drew = X0 at *;refine Ht 0 (.pointer (some ⟨S, 2, none⟩)) 8 rfl rfl rfl (fun W hW => by obtain ⟨s0, s1, s2, s3, s4, s5, s6⟩ := hW; go_simp) (HSf.out _ HB0.out) ?_;refine Ht 1 (.slice a.n p.needs.length a.cn) 9 rfl rfl rfl (fun W hW => by obtain ⟨s0, s1, s2, s3, s4, s5, s6⟩ := hW; go_simp) (HSf.out _ HB0.out) ?_;refine Ht 2 (.pointer (some ⟨s, 0, none⟩)) 10 rfl rfl rfl (fun W hW => by obtain ⟨s0, s1, s2, s3, s4, s5, s6⟩ := hW; go_simp) (HSf.out _ HB0.out) ?_;refine Ht 3 (.int .u64 x) 11 rfl rfl rfl (fun W hW => by obtain ⟨s0, s1, s2, s3, s4, s5, s6⟩ := hW; go_simp) (HSf.out _ HB0.out) ?_;refine Ht 7 (.func (.func 111) #[] #[]) 15 rfl rfl rfl (fun W hW => by obtain ⟨s0, s1, s2, s3, s4, s5, s6⟩ := hW; go_simp) (HSf.out _ HB0.out) ?_;refine Ht 8 (.pointer (some ⟨s, 1, none⟩)) 16 rfl rfl rfl (fun W hW => by obtain ⟨s0, s1, s2, s3, s4, s5, s6⟩ := hW; go_simp) (HSf.out _ HB0.out) ?_;refine Ht 9 (.int .i64 y) 17 rfl rfl rfl (fun W hW => by obtain ⟨s0, s1, s2, s3, s4, s5, s6⟩ := hW; go_simp) (HSf.out _ HB0.out) ?_
 refine Ht 12 (.int .i64 ((k : Int) + 1)) 20 rfl rfl rfl (fun W hW => by obtain ⟨s0, s1, s2, s3, s4, s5, s6⟩ := hW; go_simp) (HSf.out _ HB0.out) ?_;refine Ht 13 (.bool true) 21 rfl rfl rfl (fun W hW => by obtain ⟨s0, s1, s2, s3, s4, s5, s6⟩ := hW; go_simp) (HSf.out _ HB0.out) ?_;try simp only [Act.put, qz0, qz1, qz2]
 refine H1 4 rfl rfl (fun K hK9 => ?_);go_simp
 go_at_call 115
 refine (K1.out _ (HQ.out _ HB0.out).t.n).mono ?_;rintro e wv ⟨rfl, rfl⟩;refine hK9.out _ _ (HSf.out _ HB0.out) ?_;try simp only [Act.put, qz0, qz1, qz2]
 refine Ht 5 (.bool (!b1)) 13 rfl rfl rfl (fun W hW => by obtain ⟨s0, s1, s2, s3, s4, s5, s6⟩ := hW; go_simp) (HSf.out _ HB0.out) ?_;try simp only [Act.put, qz0, qz1, qz2]
 refine H1 6 rfl rfl (fun K hK11 => ?_);go_simp
 go_at_call 110
 refine (K3.out _).mono ?_;rintro e wv ⟨rfl, rfl⟩;refine hK11.out _ _ (HSf.out _ HB0.out) ?_;try simp only [Act.put, qz0, qz1, qz2]
 refine H1 10 rfl rfl (fun K hK12 => ?_);go_simp
 go_at_call 111
 refine (K2.out _).mono ?_;rintro e wv ⟨rfl, rfl⟩;refine hK12.out _ _ (HSf.out _ HB0.out) ?_;try simp only [Act.put, qz0, qz1, qz2]
 refine H1 11 rfl rfl (fun K hK13 => ?_);go_simp
 go_at_call 110
 refine (K4.out _).mono ?_;rintro e wv ⟨rfl, rfl⟩;refine hK13.out _ _ (HSf.out _ HB0.out) ?_;try simp only [Act.put, qz0, qz1, qz2]
 refine Ht 14 (.bool true) 22 rfl rfl rfl (fun W hW => by obtain ⟨s0, s1, s2, s3, s4, s5, s6⟩ := hW; go_simp) (HSf.out _ HB0.out) ?_;try simp only [Act.put, qz0, qz1, qz2]
 refine Ht 15 (.slice (some ⟨b, o, none⟩) l.length c) 23 rfl rfl (by simp [Region.wanted, yielded]) (fun W hW => by obtain ⟨s0, s1, s2, s3, s4, s5, s6⟩ := hW; go_simp) (HSf.out _ HB0.out) ?_;try simp only [Act.put, qz0, qz1, qz2]
 refine Ht 16 (.int .i64 ((k : Int) + 1)) 24 rfl rfl (by simp [Region.wanted, yielded]) (fun W hW => by obtain ⟨s0, s1, s2, s3, s4, s5, s6⟩ := hW; go_simp) (HSf.out _ HB0.out) ?_;try simp only [Act.put, qz0, qz1, qz2]
 refine Ht 17 (.int .i64 (k : Int)) 25 rfl rfl (by simp [Region.wanted, yielded]) (fun W hW => by obtain ⟨s0, s1, s2, s3, s4, s5, s6⟩ := hW; go_simp) (HSf.out _ HB0.out) ?_;try simp only [Act.put, qz0, qz1, qz2]
 refine Ht 18 (.int .i64 (k : Int)) 26 rfl rfl (by simp [Region.wanted, yielded]) (fun W hW => by obtain ⟨s0, s1, s2, s3, s4, s5, s6⟩ := hW; go_simp) (HSf.out _ HB0.out) ?_;try simp only [Act.put, qz0, qz1, qz2]
 refine Ht 19 (.pointer (some ⟨b, o + k * 2, none⟩)) 27 rfl rfl (by simp [Region.wanted, yielded]) (fun W hW => by obtain ⟨s0, s1, s2, s3, s4, s5, s6⟩ := hW; go_simp) (HSf.out _ HB0.out) ?_;try simp only [Act.put, qz0, qz1, qz2]
 refine Ht 20 (.agg #[.int .u64 x2, .int .i64 y2]) 28 rfl rfl (by simp [Region.wanted, yielded]) (fun W hW => by obtain ⟨s0, s1, s2, s3, s4, s5, s6⟩ := hW; go_simp) (HSf.out _ HB0.out) ?_;try simp only [Act.put, qz0, qz1, qz2]
 refine Ht 21 (.agg #[.int .u64 x, .int .i64 y]) 29 rfl rfl (by simp [Region.wanted, yielded]) (fun W hW => by obtain ⟨s0, s1, s2, s3, s4, s5, s6⟩ := hW; go_simp) (HSf.out _ HB0.out) ?_;try simp only [Act.put, qz0, qz1, qz2]
 refine H1g 22 rfl (by simp [Region.wanted, yielded]) (fun K hK22 => ?_);go_simp
 go_at_call 102
 refine (K6.out _).mono ?_;rintro e wv1 ⟨rfl, hv1⟩;have HB1 := q9 (HB0.out.trans (hv1.mono HB0.out.size));clear hv1;refine hK22.out _ _ (HSf.out _ HB1.out) ?_;try simp only [Act.put, qz0, qz1, qz2]
 refine Ht 23 (.bool b3) 31 rfl rfl (by simp [Region.wanted, yielded]) (fun W hW => by obtain ⟨s0, s1, s2, s3, s4, s5, s6⟩ := hW; go_simp) (HSf.out _ HB1.out) ?_;refine Ht 24 (.bool b3) 32 rfl rfl rfl (fun W hW => by obtain ⟨s0, s1, s2, s3, s4, s5, s6⟩ := hW; go_simp) (HSf.out _ HB1.out) ?_;try simp only [Act.put, qz0, qz1, qz2]
 refine H1 25 rfl rfl (fun K hK25 => ?_);go_simp
 go_at_call 110
 refine (K7.out _).mono ?_;rintro e wv ⟨rfl, rfl⟩;refine hK25.out _ _ (HSf.out _ HB1.out) ?_;try simp only [Act.put, qz0, qz1, qz2]
 refine H1 26 rfl rfl (fun K hK26 => ?_);go_simp
 have HB2 := q9 (HB1.out.alloc HB1.out.size (.cells #[.int .i64 r1, .int .i64 r2, .int .i64 r3] 25));have hsi := q9 (show SI (wv1.alloc (.cells #[.int .i64 r1, .int .i64 r2, .int .i64 r3] 25)) (some ⟨wv1.heap.size, 0, none⟩) [r1, r2, r3] from sl_bk (Bk.new wv1 25 #[.int .i64 r1, .int .i64 r2, .int .i64 r3]));refine hK26.out _ _ (HSf.out _ HB2.out) ?_;try simp only [Act.put, qz0, qz1, qz2]
 generalize wv1.alloc (.cells #[.int .i64 r1, .int .i64 r2, .int .i64 r3] 25) = X9 at *;generalize wv1.heap.size = h9 at *;refine H1 27 rfl rfl (fun K hK27 => ?_);go_simp
 go_at_call 114
 refine (or_any (some ⟨h9, 0, none⟩) 3 [r1, r2, r3] X9 hsi.out (by simp)).mono ?_;rintro e wv ⟨he, rfl⟩;rw [hRe.out] at he;subst he;refine hK27.out _ _ (HSf.out _ HB2.out) ?_;try simp only [Act.put, qz0, qz1, qz2]
 refine Ht 28 (.int .i64 R) 7 rfl rfl rfl (fun W hW => by obtain ⟨s0, s1, s2, s3, s4, s5, s6⟩ := hW; go_simp) (HSf.out _ HB2.out) ?_;try simp only [Act.put, qz0, qz1, qz2]
 refine H0 ?_;try simp only [Act.put, qz0, qz1, qz2]
 have Hb2 := q9 (Hb.out.trans (HB2.out.mono hz0));clear HB0 HB1 HB2 HSf HQ K1 K2 K3 K4 hsi K6 K7 hmx t5 hw hgt k0;go_wp2_with fail
 go_ret
 exact ⟨rfl, by rw [Hs.out]; exact Hb2.out⟩
theorem rule3c_any (S T I N L : Nat) (p : Pa) (a : Pw) (k : Nat) (A : Option Addr) (c : Nat) (l : List (Int × Int)) (x y : Int) (w : World) (h : RC w S T I N p a) (hL : Bk w L 31 #[.slice A l.length c]) (hA : SD w A l) (hx : l[k]? = some (x, y)) (hl : p.needs.length ≤ 1099511627776) (hl2 : l.length ≤ 1099511627776) :
  Calls Tryz.prog 113 #[.int .i64 (k : Int), .agg #[.int .u64 x, .int .i64 y], .pointer (some ⟨S, 0, none⟩), .pointer (some ⟨I, 0, none⟩), .pointer (some ⟨L, 0, none⟩)] w fun e w' => e = .returned (.int .i64 (idE p.needs l k)) ∧ Below w.heap.size w w' := by
 cases k with
 | zero => exact rule3c0_any S T I N L p a A c l x y w h hL hx hl
 | succ k => exact rule3cS_any S T I N L p a k A c l x y w h hL hA hx hl hl2
theorem eachI_any (S T I N L : Nat) (p : Pa) (a : Pw) (C : Option Addr) (c : Nat) (cl : List (Int × Int)) (w : World) (h : RC w S T I N p a) (hL : Bk w L 31 #[.slice C cl.length c]) (hC : SD w C cl) (hl2 : p.needs.length ≤ 1099511627776) (hl : cl.length ≤ 1099511627776) :
  Calls Tryz.prog 134 #[.slice C cl.length c, .func (.func 113) #[] #[.pointer (some ⟨S, 0, none⟩), .pointer (some ⟨I, 0, none⟩), .pointer (some ⟨L, 0, none⟩)]] w fun e w' => e = .returned (.int .i64 (eachE (idE p.needs cl) cl.length)) ∧ Below w.heap.size w w' := by
 obtain ⟨R, hR⟩ : ∃ z, Hid (eachE (idE p.needs cl) cl.length = z) := ⟨_, q9 rfl⟩;rw [hR.out];have HC := q9 (fun (W : World) (hW : Below w.heap.size w W) => (show SD W C cl from hC.below hW));have HSf := q9 (fun (W : World) (hW : Below w.heap.size w W) => h.below hW);have HL := q9 (fun (W : World) (hW : Below w.heap.size w W) => hL.below hW hL.lt);clear h hC hL;go_enter Tryz.func134, Tryz.ntmps134
 go_wp2_with fail
 go_loopw [10] (fun v wr => ∃ k : Nat, k ≤ cl.length ∧ v = .int .i64 k ∧ Hid (orE (((List.range cl.length).map (idE p.needs cl)).drop k) = R) ∧ Below w.heap.size w wr) (fun v _ => cl.length - (intOf v).toNat)
 case atStart => exact ⟨0, by omega, rfl, q9 (by rw [List.drop_zero]; exact hR.out), Below.refl _ _⟩
 case round =>
  clear hR;obtain ⟨k, hk, rfl, hd, hb⟩ := hrel;have k0 : (0 : Int) ≤ (k : Int) := by omega
  by_cases hlt : k < cl.length
  ·obtain ⟨bC, oC, x, y, hae, c0, c1, hx⟩ := (HC.out _ hb).get (k := k) hlt;obtain ⟨z, hz⟩ : ∃ z, Hid ((idE p.needs cl k) = z) := ⟨_, q9 rfl⟩;have hEk : (idE p.needs cl) k = z := hz.out;have hB1 := hb.alloc hb.size (.cells #[.int .u64 x, .int .i64 y] 77);have hC1 := rule3c_any S T I N L p a k C c cl x y (wr.alloc (.cells #[.int .u64 x, .int .i64 y] 77)) (HSf.out _ hB1) (HL.out _ hB1) (HC.out _ hB1) hx.out hl2 hl;rw [hz.out] at hC1;have hd2 := hd.out;rw [eachE_drop hlt, hEk] at hd2;have Hd2 := q9 hd2;have HB1 := q9 hB1;have hz1 : w.heap.size ≤ (wr.alloc (.cells #[.int .u64 x, .int .i64 y] 77)).heap.size := hB1.size;clear hd hd2 hx hz hb hB1 hEk;rw [hae];go_wp2_with fail
   refine hC1.mono ?_;rintro e w1 ⟨rfl, hb1⟩;have HB2 := q9 (HB1.out.trans (hb1.mono hz1));clear hb1 HB1 hz1;by_cases f1 : z = 0
   ·have b1 : (z != 0) = false := by simp [f1]
    have Hd3 := q9 (show orE (((List.range cl.length).map (idE p.needs cl)).drop (k + 1)) = R from by have h := Hd2.out; rw [if_neg (by simp [f1])] at h; exact h);clear Hd2 f1;go_wp2_with fail
    go_roundw
    case rel => exact ⟨k + 1, by omega, by go_num, Hd3, HB2.out⟩
    case measure => simp [intOf]; omega
   have b1 : (z != 0) = true := by simp [f1]
   have hr := q9 (show R = z from by have h := Hd2.out; rw [if_pos f1] at h; exact h.symm);clear Hd2 f1;go_wp2_with fail
   go_ret
   exact ⟨by rw [hr.out]; rfl, HB2.out⟩
  have hr := q9 (show R = 0 from by rw [← hd.out, List.drop_eq_nil_of_le (by simp; omega)]; rfl);have Hb := q9 hb;clear hd hb;go_wp2_with fail
  go_ret
  exact ⟨by rw [hr.out]; rfl, Hb.out⟩
theorem rule3_any (S I : Nat) (A : Option Addr) (n c : Nat) (w : World) :
  Calls Tryz.prog 112 #[.slice A n c, .pointer (some ⟨S, 0, none⟩), .pointer (some ⟨I, 0, none⟩)] w fun e w' => e = .returned (.func (.func 113) #[] #[.pointer (some ⟨S, 0, none⟩), .pointer (some ⟨I, 0, none⟩), .pointer (some ⟨w.heap.size, 0, none⟩)]) ∧ w' = w.alloc (.cells #[.slice A n c] 31) := by
 go_enter Tryz.func112, Tryz.ntmps112
 go_wp2_with fail
 go_ret
 exact ⟨rfl, rfl⟩
theorem rule10_any (S T I N : Nat) (p : Pa) (a : Pw) (w : World) (h : RC w S T I N p a) (hl : p.er.length ≤ 1099511627776) (hl2 : p.needs.length ≤ 1099511627776) :
  Calls Tryz.prog 133 #[.pointer (some ⟨S, 0, none⟩), .pointer (some ⟨N, 0, none⟩)] w fun e w' => e = .returned (.int .i64 (eachE (idE p.needs p.er) p.er.length)) ∧ Below w.heap.size w w' := by
 have g2 : w.cell? ⟨S, 6, none⟩ = some (.slice a.e p.er.length a.ce) := h.s.cell 6;have g3 : w.cell? ⟨N, 0, none⟩ = some (.func (.func 112) #[] #[.pointer (some ⟨S, 0, none⟩), .pointer (some ⟨I, 0, none⟩)]) := h.n.cell 0;have hb0 := (Below.refl w.heap.size w).drew.drew.drew;obtain ⟨R, hR⟩ : ∃ z, Hid (eachE (idE p.needs p.er) p.er.length = z) := ⟨_, q9 rfl⟩;have K1 := q9 (fun (W : World) (hW : Below w.heap.size w W) => hR.out ▸ eachI_any S T I N W.heap.size p a a.e a.ce p.er (W.alloc (.cells #[.slice a.e p.er.length a.ce] 31)) (h.below (hW.alloc hW.size _)) (Bk.new _ _ _) (h.t.e.below (hW.alloc hW.size _)) hl2 hl);rw [hR.out];have Hr := q9 (Below.refl w.heap.size w);have HSf := q9 (fun (W : World) (hW : Below w.heap.size w W) => show W.cell? ⟨S, 6, none⟩ = some (.slice a.e p.er.length a.ce) ∧ W.cell? ⟨N, 0, none⟩ = some (.func (.func 112) #[] #[.pointer (some ⟨S, 0, none⟩), .pointer (some ⟨I, 0, none⟩)]) from ⟨(h.s.below hW h.s.lt).cell 6, (h.n.below hW h.n.lt).cell 0⟩);have HB0 := q9 ((Below.refl w.heap.size w).drew);clear h hR hl hl2 hb0 g2 g3;go_enter Tryz.func133, Tryz.ntmps133
 go_upto_region 1 with fail
 refine rH 8 (fun W => W.cell? ⟨S, 6, none⟩ = some (.slice a.e p.er.length a.ce) ∧ W.cell? ⟨N, 0, none⟩ = some (.func (.func 112) #[] #[.pointer (some ⟨S, 0, none⟩), .pointer (some ⟨I, 0, none⟩)])) ?_;generalize w.drew = X0 at *;refine Ht 0 (.pointer (some ⟨S, 6, none⟩)) 3 rfl rfl rfl (fun W hW => by obtain ⟨s0, s1⟩ := hW; go_simp) (HSf.out _ HB0.out) ?_;refine Ht 1 (.slice a.e p.er.length a.ce) 4 rfl rfl rfl (fun W hW => by obtain ⟨s0, s1⟩ := hW; go_simp) (HSf.out _ HB0.out) ?_;refine Ht 2 (.func (.func 112) #[] #[.pointer (some ⟨S, 0, none⟩), .pointer (some ⟨I, 0, none⟩)]) 5 rfl rfl rfl (fun W hW => by obtain ⟨s0, s1⟩ := hW; go_simp) (HSf.out _ HB0.out) ?_;refine Ht 3 (.pointer (some ⟨S, 6, none⟩)) 6 rfl rfl rfl (fun W hW => by obtain ⟨s0, s1⟩ := hW; go_simp) (HSf.out _ HB0.out) ?_;refine Ht 4 (.slice a.e p.er.length a.ce) 7 rfl rfl rfl (fun W hW => by obtain ⟨s0, s1⟩ := hW; go_simp) (HSf.out _ HB0.out) ?_;try simp only [Act.put, qz0, qz1, qz2]
 refine H1 5 rfl rfl (fun K hK5 => ?_);go_simp
 go_at_call 112
 refine (rule3_any S I _ _ _ _).mono ?_;rintro e wv ⟨rfl, rfl⟩;have HB1 := q9 (HB0.out.alloc HB0.out.size (.cells #[.slice a.e p.er.length a.ce] 31));have K2 := q9 (K1.out X0 HB0.out);clear K1;refine hK5.out _ _ (HSf.out _ HB1.out) ?_;try simp only [Act.put, qz0, qz1, qz2]
 generalize X0.alloc (.cells #[.slice a.e p.er.length a.ce] 31) = X1 at *;generalize X0.heap.size = h1 at *;refine H1 6 rfl rfl (fun K hK6 => ?_);go_simp
 go_at_call 134
 refine K2.out.mono ?_;rintro e wv2 ⟨rfl, hv2⟩;have HB2 := q9 (HB1.out.trans (hv2.mono HB1.out.size));clear hv2;refine hK6.out _ _ (HSf.out _ HB2.out) ?_;try simp only [Act.put, qz0, qz1, qz2]
 refine Ht 7 (.int .i64 R) 2 rfl rfl rfl (fun W hW => by obtain ⟨s0, s1⟩ := hW; go_simp) (HSf.out _ HB2.out) ?_;try simp only [Act.put, qz0, qz1, qz2]
 refine H0 ?_;try simp only [Act.put, qz0, qz1, qz2]
 have Hb2 := q9 HB2.out;clear HB0 HB1 HB2 HSf K2;go_wp2_with fail
 go_ret
 exact ⟨rfl, Hb2.out⟩
theorem rule11_any (S T I N : Nat) (p : Pa) (a : Pw) (w : World) (h : RC w S T I N p a) (hl : p.dr.length ≤ 1099511627776) (hl2 : p.needs.length ≤ 1099511627776) :
  Calls Tryz.prog 135 #[.pointer (some ⟨S, 0, none⟩), .pointer (some ⟨N, 0, none⟩)] w fun e w' => e = .returned (.int .i64 (eachE (idE p.needs p.dr) p.dr.length)) ∧ Below w.heap.size w w' := by
 have g2 : w.cell? ⟨S, 7, none⟩ = some (.slice a.d p.dr.length a.cd) := h.s.cell 7;have g3 : w.cell? ⟨N, 0, none⟩ = some (.func (.func 112) #[] #[.pointer (some ⟨S, 0, none⟩), .pointer (some ⟨I, 0, none⟩)]) := h.n.cell 0;have hb0 := (Below.refl w.heap.size w).drew.drew.drew;obtain ⟨R, hR⟩ : ∃ z, Hid (eachE (idE p.needs p.dr) p.dr.length = z) := ⟨_, q9 rfl⟩;have K1 := q9 (fun (W : World) (hW : Below w.heap.size w W) => hR.out ▸ eachI_any S T I N W.heap.size p a a.d a.cd p.dr (W.alloc (.cells #[.slice a.d p.dr.length a.cd] 31)) (h.below (hW.alloc hW.size _)) (Bk.new _ _ _) (h.t.d.below (hW.alloc hW.size _)) hl2 hl);rw [hR.out];have Hr := q9 (Below.refl w.heap.size w);have HSf := q9 (fun (W : World) (hW : Below w.heap.size w W) => show W.cell? ⟨S, 7, none⟩ = some (.slice a.d p.dr.length a.cd) ∧ W.cell? ⟨N, 0, none⟩ = some (.func (.func 112) #[] #[.pointer (some ⟨S, 0, none⟩), .pointer (some ⟨I, 0, none⟩)]) from ⟨(h.s.below hW h.s.lt).cell 7, (h.n.below hW h.n.lt).cell 0⟩);have HB0 := q9 ((Below.refl w.heap.size w).drew);clear h hR hl hl2 hb0 g2 g3;go_enter Tryz.func135, Tryz.ntmps135
 go_upto_region 1 with fail
 refine rH 8 (fun W => W.cell? ⟨S, 7, none⟩ = some (.slice a.d p.dr.length a.cd) ∧ W.cell? ⟨N, 0, none⟩ = some (.func (.func 112) #[] #[.pointer (some ⟨S, 0, none⟩), .pointer (some ⟨I, 0, none⟩)])) ?_;generalize w.drew = X0 at *;refine Ht 0 (.pointer (some ⟨S, 7, none⟩)) 3 rfl rfl rfl (fun W hW => by obtain ⟨s0, s1⟩ := hW; go_simp) (HSf.out _ HB0.out) ?_;refine Ht 1 (.slice a.d p.dr.length a.cd) 4 rfl rfl rfl (fun W hW => by obtain ⟨s0, s1⟩ := hW; go_simp) (HSf.out _ HB0.out) ?_;refine Ht 2 (.func (.func 112) #[] #[.pointer (some ⟨S, 0, none⟩), .pointer (some ⟨I, 0, none⟩)]) 5 rfl rfl rfl (fun W hW => by obtain ⟨s0, s1⟩ := hW; go_simp) (HSf.out _ HB0.out) ?_;refine Ht 3 (.pointer (some ⟨S, 7, none⟩)) 6 rfl rfl rfl (fun W hW => by obtain ⟨s0, s1⟩ := hW; go_simp) (HSf.out _ HB0.out) ?_;refine Ht 4 (.slice a.d p.dr.length a.cd) 7 rfl rfl rfl (fun W hW => by obtain ⟨s0, s1⟩ := hW; go_simp) (HSf.out _ HB0.out) ?_;try simp only [Act.put, qz0, qz1, qz2]
 refine H1 5 rfl rfl (fun K hK5 => ?_);go_simp
 go_at_call 112
 refine (rule3_any S I _ _ _ _).mono ?_;rintro e wv ⟨rfl, rfl⟩;have HB1 := q9 (HB0.out.alloc HB0.out.size (.cells #[.slice a.d p.dr.length a.cd] 31));have K2 := q9 (K1.out X0 HB0.out);clear K1;refine hK5.out _ _ (HSf.out _ HB1.out) ?_;try simp only [Act.put, qz0, qz1, qz2]
 generalize X0.alloc (.cells #[.slice a.d p.dr.length a.cd] 31) = X1 at *;generalize X0.heap.size = h1 at *;refine H1 6 rfl rfl (fun K hK6 => ?_);go_simp
 go_at_call 134
 refine K2.out.mono ?_;rintro e wv2 ⟨rfl, hv2⟩;have HB2 := q9 (HB1.out.trans (hv2.mono HB1.out.size));clear hv2;refine hK6.out _ _ (HSf.out _ HB2.out) ?_;try simp only [Act.put, qz0, qz1, qz2]
 refine Ht 7 (.int .i64 R) 2 rfl rfl rfl (fun W hW => by obtain ⟨s0, s1⟩ := hW; go_simp) (HSf.out _ HB2.out) ?_;try simp only [Act.put, qz0, qz1, qz2]
 refine H0 ?_;try simp only [Act.put, qz0, qz1, qz2]
 have Hb2 := q9 HB2.out;clear HB0 HB1 HB2 HSf K2;go_wp2_with fail
 go_ret
 exact ⟨rfl, Hb2.out⟩
def ruleV (S T I N : Nat) : Array Value := #[.func (.func 116) #[] #[.pointer (some ⟨S, 0, none⟩)], .func (.func 117) #[] #[.pointer (some ⟨S, 0, none⟩)], .func (.func 118) #[] #[.pointer (some ⟨S, 0, none⟩)], .func (.func 121) #[] #[.pointer (some ⟨S, 0, none⟩), .pointer (some ⟨T, 0, none⟩)], .func (.func 125) #[] #[.pointer (some ⟨S, 0, none⟩)], .func (.func 130) #[] #[.pointer (some ⟨S, 0, none⟩), .pointer (some ⟨I, 0, none⟩), .pointer (some ⟨T, 0, none⟩)], .func (.func 133) #[] #[.pointer (some ⟨S, 0, none⟩), .pointer (some ⟨N, 0, none⟩)], .func (.func 135) #[] #[.pointer (some ⟨S, 0, none⟩), .pointer (some ⟨N, 0, none⟩)], .func (.func 136) #[] #[.pointer (some ⟨S, 0, none⟩)]]
theorem rules_any (p : Pa) (a : Pw) (w : World) (h : PT w p a) :
  Calls Tryz.prog 42 #[.agg (paC p a)] w fun e w' => e = .returned (.func (.func 139) #[] #[.pointer (some ⟨w.heap.size + 1 + 1 + 1 + 1 + 1, 0, none⟩)]) ∧ Below w.heap.size w w' ∧ RC w' w.heap.size (w.heap.size + 1) (w.heap.size + 1 + 1) (w.heap.size + 1 + 1 + 1) p a ∧ Bk w' (w.heap.size + 1 + 1 + 1 + 1) 152 (ruleV w.heap.size (w.heap.size + 1) (w.heap.size + 1 + 1) (w.heap.size + 1 + 1 + 1)) ∧ Bk w' (w.heap.size + 1 + 1 + 1 + 1 + 1) 185 #[.slice (some ⟨w.heap.size + 1 + 1 + 1 + 1, 0, none⟩) 9 9] := by
 have HT := q9 h;clear h;have hsf := fun (n : Nat) (a : Addr) (c : Array Value) (w : World) => run_store Tryz.prog w a (.func (.func n) #[] c) .plain rfl;show Calls Tryz.prog 42 #[.agg #[.int .i64 p.office, .int .i64 p.num, .slice a.n p.needs.length a.cn, .slice a.s p.st.length a.cs, .slice a.l p.pl.length a.cl, .slice a.m p.ma.length a.cm, .slice a.e p.er.length a.ce, .slice a.d p.dr.length a.cd, .slice a.r p.rt.length a.cr]] w _;go_enter Tryz.func42, Tryz.ntmps42
 go_wp2_with fail
 go_ret
 have hB : Below w.heap.size w ((((((w.alloc (.cells #[.int .i64 p.office, .int .i64 p.num, .slice a.n p.needs.length a.cn, .slice a.s p.st.length a.cs, .slice a.l p.pl.length a.cl, .slice a.m p.ma.length a.cm, .slice a.e p.er.length a.ce, .slice a.d p.dr.length a.cd, .slice a.r p.rt.length a.cr] 34)).alloc (.cells #[.func (.func 109) #[] #[.pointer (some ⟨w.heap.size, 0, none⟩)]] 168)).alloc (.cells #[.func (.func 111) #[] #[]] 93)).alloc (.cells #[.func (.func 112) #[] #[.pointer (some ⟨w.heap.size, 0, none⟩), .pointer (some ⟨w.heap.size + 1 + 1, 0, none⟩)]] 171)).alloc (.cells #[.func (.func 116) #[] #[.pointer (some ⟨w.heap.size, 0, none⟩)], .func (.func 117) #[] #[.pointer (some ⟨w.heap.size, 0, none⟩)], .func (.func 118) #[] #[.pointer (some ⟨w.heap.size, 0, none⟩)], .func (.func 121) #[] #[.pointer (some ⟨w.heap.size, 0, none⟩), .pointer (some ⟨w.heap.size + 1, 0, none⟩)], .func (.func 125) #[] #[.pointer (some ⟨w.heap.size, 0, none⟩)], .func (.func 130) #[] #[.pointer (some ⟨w.heap.size, 0, none⟩), .pointer (some ⟨w.heap.size + 1 + 1, 0, none⟩), .pointer (some ⟨w.heap.size + 1, 0, none⟩)], .func (.func 133) #[] #[.pointer (some ⟨w.heap.size, 0, none⟩), .pointer (some ⟨w.heap.size + 1 + 1 + 1, 0, none⟩)], .func (.func 135) #[] #[.pointer (some ⟨w.heap.size, 0, none⟩), .pointer (some ⟨w.heap.size + 1 + 1 + 1, 0, none⟩)], .func (.func 136) #[] #[.pointer (some ⟨w.heap.size, 0, none⟩)]] 152)).alloc (.cells #[.slice (some ⟨w.heap.size + 1 + 1 + 1 + 1, 0, none⟩) 9 9] 185)) := by
  repeat (first | exact Below.refl _ _ | refine Below.alloc ?_ (by simp; try omega) _)
 refine ⟨rfl, hB, ⟨?_, ?_, ?_, ?_, HT.out.below hB⟩, ?_, ?_⟩ <;> repeat (first | exact Bk.new' _ _ _ (by simp) | refine Bk.alloc ?_ _);trace_state
theorem grownBy_of_below {w w' : World} (h : Below w.heap.size w w') : w.grownBy w' none := ⟨h.os, h.tape, h.output, h.size, fun k hk _ => h.block k hk⟩
theorem take_app {l : List Int} {k : Nat} {x : Int} (h : l[k]? = some x) : l.take k ++ [x] = l.take (k + 1) := by
 obtain ⟨hk, rfl⟩ := List.getElem?_eq_some_iff.1 h;rw [List.take_succ_eq_append_getElem hk]
attribute [local go_sem] Oper.semAt_some
theorem rules13_in (n : Nat) (hn : 1 ≤ n) (lp S T I N G B : Nat) (w0 : World) (z0 z1 z2 z3 z4 z5 z6 z7 z8 : Int)
  (K0 : ∀ W, Below w0.heap.size w0 W → Calls Tryz.prog 116 #[.pointer (some ⟨S, 0, none⟩)] W fun e w' => e = .returned (.int .i64 z0) ∧ Below W.heap.size W w')
  (K1 : ∀ W, Below w0.heap.size w0 W → Calls Tryz.prog 117 #[.pointer (some ⟨S, 0, none⟩)] W fun e w' => e = .returned (.int .i64 z1) ∧ Below W.heap.size W w')
  (K2 : ∀ W, Below w0.heap.size w0 W → Calls Tryz.prog 118 #[.pointer (some ⟨S, 0, none⟩)] W fun e w' => e = .returned (.int .i64 z2) ∧ Below W.heap.size W w')
  (K3 : ∀ W, Below w0.heap.size w0 W → Calls Tryz.prog 121 #[.pointer (some ⟨S, 0, none⟩), .pointer (some ⟨T, 0, none⟩)] W fun e w' => e = .returned (.int .i64 z3) ∧ Below W.heap.size W w')
  (K4 : ∀ W, Below w0.heap.size w0 W → Calls Tryz.prog 125 #[.pointer (some ⟨S, 0, none⟩)] W fun e w' => e = .returned (.int .i64 z4) ∧ Below W.heap.size W w')
  (K5 : ∀ W, Below w0.heap.size w0 W → Calls Tryz.prog 130 #[.pointer (some ⟨S, 0, none⟩), .pointer (some ⟨I, 0, none⟩), .pointer (some ⟨T, 0, none⟩)] W fun e w' => e = .returned (.int .i64 z5) ∧ Below W.heap.size W w')
  (K6 : ∀ W, Below w0.heap.size w0 W → Calls Tryz.prog 133 #[.pointer (some ⟨S, 0, none⟩), .pointer (some ⟨N, 0, none⟩)] W fun e w' => e = .returned (.int .i64 z6) ∧ Below W.heap.size W w')
  (K7 : ∀ W, Below w0.heap.size w0 W → Calls Tryz.prog 135 #[.pointer (some ⟨S, 0, none⟩), .pointer (some ⟨N, 0, none⟩)] W fun e w' => e = .returned (.int .i64 z7) ∧ Below W.heap.size W w')
  (K8 : ∀ W, Below w0.heap.size w0 W → Calls Tryz.prog 136 #[.pointer (some ⟨S, 0, none⟩)] W fun e w' => e = .returned (.int .i64 z8) ∧ Below W.heap.size W w')
  (hG : Bk w0 G 152 (ruleV S T I N)) (hBk : Bk w0 B 185 #[.slice (some ⟨G, 0, none⟩) 9 9])
  (J Jx : List Int → World → Prop) (W : World) (hW : Below w0.heap.size w0 W) (hJ : AbidesFrom W.heap.size J)
  (hY : ∀ pre x W1, J pre W1 → pre.length < 9 → YieldAt Fence.wide (n - 1) Tryz.prog lp #[.int .i64 x] W1 fun e W' => (e = .returned (.bool true) ∧ J (pre ++ [x]) W' ∧ Below w0.heap.size W1 W') ∨ (e = .returned (.bool false) ∧ Jx (pre ++ [x]) W'))
  (h0 : J [] W) :
  CallsIn Fence.wide n Tryz.prog 139 #[.func (.yield lp) #[] #[], .pointer (some ⟨B, 0, none⟩)] W fun e W' => (∃ v, e = .returned v) ∧ ((∃ xs, xs = [z0, z1, z2, z3, z4, z5, z6, z7, z8] ∧ J xs W') ∨ ∃ pre, pre <+: [z0, z1, z2, z3, z4, z5, z6, z7, z8] ∧ Jx pre W') := by
 have HC := q9 (fun (W : World) (hW : Below w0.heap.size w0 W) => (hG.below hW hG.lt).cell);have cB := (hBk.below hW hBk.lt).cell 0;obtain ⟨zs, hzs⟩ : ∃ z, Hid ([z0, z1, z2, z3, z4, z5, z6, z7, z8] = z) := ⟨_, q9 rfl⟩;rw [hzs.out];have HK := q9 (And.intro K0 (And.intro K1 (And.intro K2 (And.intro K3 (And.intro K4 (And.intro K5 (And.intro K6 (And.intro K7 K8))))))));have HJ := q9 hJ;have HW := q9 hW;clear hG hBk K0 K1 K2 K3 K4 K5 K6 K7 K8 hJ hW;refine callsIn_of_wp Tryz.func139 rfl trivial ?_ rfl;simp only [Tryz.ntmps139, List.size_toArray, List.length_cons, List.length_nil, Nat.reduceAdd, Nat.reduceSub, Array.replicate_succ, Array.replicate_zero, List.push_toArray, List.append_toArray, List.nil_append, List.cons_append];gi_wp2
 gi_loopw [7] (fun i wr => ∃ k : Nat, k ≤ 9 ∧ i = .int .i64 (k : Int) ∧ J (zs.take k) wr ∧ Hid (Below w0.heap.size w0 wr ∧ W.heap.size ≤ wr.heap.size)) (fun i _ => 9 - (intOf i).toNat)
 case atStart => exact ⟨0, by omega, rfl, h0, q9 ⟨HW.out, Nat.le_refl _⟩⟩
 case round =>
  obtain ⟨k, hk, rfl, hJs, hb⟩ := hrel;clear cB h0;have hkk : k = 0 ∨ k = 1 ∨ k = 2 ∨ k = 3 ∨ k = 4 ∨ k = 5 ∨ k = 6 ∨ k = 7 ∨ k = 8 ∨ k = 9 := by omega
  rcases hkk with rfl | rfl | rfl | rfl | rfl | rfl | rfl | rfl | rfl | rfl
  ·have c0 : wr.cell? ⟨G, 0, none⟩ = some (.func (.func 116) #[] #[.pointer (some ⟨S, 0, none⟩)]) := HC.out wr hb.out.1 0;have hC := HK.out.1 wr hb.out.1;have hz := q9 (show zs[0]? = some z0 from by rw [← hzs.out]; rfl);gi_wp2
   refine ⟨trivial, ?_⟩;refine (callsIn_wide.2 hC).mono ?_;rintro e w1 ⟨rfl, hb1⟩;have HB1 := q9 (hb.out.1.trans (hb1.mono hb.out.1.size));have HS1 := q9 (Nat.le_trans hb.out.2 hb1.size);have hJ1 : J (zs.take 0) w1 := HJ.out _ _ _ none hJs (grownBy_of_below hb1) (fun r e => by cases e);obtain ⟨fn, tmps, assign, body, hy, hR⟩ := hY _ z0 w1 hJ1 (by rw [← hzs.out]; simp);clear hb1 hC hJs hJ1 c0;gi_wp2
   refine hR.mono ?_;rintro e W3 (⟨rfl, hJ3, hk3⟩ | ⟨rfl, hJx3⟩)
   ·have HB3 := q9 (show Below w0.heap.size w0 W3 ∧ W.heap.size ≤ W3.heap.size from ⟨HB1.out.trans hk3, Nat.le_trans HS1.out hk3.size⟩);clear hk3;gi_wp2
    go_roundw
    case rel => exact ⟨0 + 1, by omega, rfl, by rw [← take_app hz.out]; exact hJ3, HB3⟩
    case measure => simp [intOf]
   gi_wp2
   refine bodyPost_ret (results_none rfl _ _ _) rfl ?_;exact ⟨⟨_, rfl⟩, .inr ⟨_, by rw [take_app hz.out]; exact List.take_prefix _ _, hJx3⟩⟩
  ·have c0 : wr.cell? ⟨G, 1, none⟩ = some (.func (.func 117) #[] #[.pointer (some ⟨S, 0, none⟩)]) := HC.out wr hb.out.1 1;have hC := HK.out.2.1 wr hb.out.1;have hz := q9 (show zs[1]? = some z1 from by rw [← hzs.out]; rfl);gi_wp2
   refine ⟨trivial, ?_⟩;refine (callsIn_wide.2 hC).mono ?_;rintro e w1 ⟨rfl, hb1⟩;have HB1 := q9 (hb.out.1.trans (hb1.mono hb.out.1.size));have HS1 := q9 (Nat.le_trans hb.out.2 hb1.size);have hJ1 : J (zs.take 1) w1 := HJ.out _ _ _ none hJs (grownBy_of_below hb1) (fun r e => by cases e);obtain ⟨fn, tmps, assign, body, hy, hR⟩ := hY _ z1 w1 hJ1 (by rw [← hzs.out]; simp);clear hb1 hC hJs hJ1 c0;gi_wp2
   refine hR.mono ?_;rintro e W3 (⟨rfl, hJ3, hk3⟩ | ⟨rfl, hJx3⟩)
   ·have HB3 := q9 (show Below w0.heap.size w0 W3 ∧ W.heap.size ≤ W3.heap.size from ⟨HB1.out.trans hk3, Nat.le_trans HS1.out hk3.size⟩);clear hk3;gi_wp2
    go_roundw
    case rel => exact ⟨1 + 1, by omega, rfl, by rw [← take_app hz.out]; exact hJ3, HB3⟩
    case measure => simp [intOf]
   gi_wp2
   refine bodyPost_ret (results_none rfl _ _ _) rfl ?_;exact ⟨⟨_, rfl⟩, .inr ⟨_, by rw [take_app hz.out]; exact List.take_prefix _ _, hJx3⟩⟩
  ·have c0 : wr.cell? ⟨G, 2, none⟩ = some (.func (.func 118) #[] #[.pointer (some ⟨S, 0, none⟩)]) := HC.out wr hb.out.1 2;have hC := HK.out.2.2.1 wr hb.out.1;have hz := q9 (show zs[2]? = some z2 from by rw [← hzs.out]; rfl);gi_wp2
   refine ⟨trivial, ?_⟩;refine (callsIn_wide.2 hC).mono ?_;rintro e w1 ⟨rfl, hb1⟩;have HB1 := q9 (hb.out.1.trans (hb1.mono hb.out.1.size));have HS1 := q9 (Nat.le_trans hb.out.2 hb1.size);have hJ1 : J (zs.take 2) w1 := HJ.out _ _ _ none hJs (grownBy_of_below hb1) (fun r e => by cases e);obtain ⟨fn, tmps, assign, body, hy, hR⟩ := hY _ z2 w1 hJ1 (by rw [← hzs.out]; simp);clear hb1 hC hJs hJ1 c0;gi_wp2
   refine hR.mono ?_;rintro e W3 (⟨rfl, hJ3, hk3⟩ | ⟨rfl, hJx3⟩)
   ·have HB3 := q9 (show Below w0.heap.size w0 W3 ∧ W.heap.size ≤ W3.heap.size from ⟨HB1.out.trans hk3, Nat.le_trans HS1.out hk3.size⟩);clear hk3;gi_wp2
    go_roundw
    case rel => exact ⟨2 + 1, by omega, rfl, by rw [← take_app hz.out]; exact hJ3, HB3⟩
    case measure => simp [intOf]
   gi_wp2
   refine bodyPost_ret (results_none rfl _ _ _) rfl ?_;exact ⟨⟨_, rfl⟩, .inr ⟨_, by rw [take_app hz.out]; exact List.take_prefix _ _, hJx3⟩⟩
  ·have c0 : wr.cell? ⟨G, 3, none⟩ = some (.func (.func 121) #[] #[.pointer (some ⟨S, 0, none⟩), .pointer (some ⟨T, 0, none⟩)]) := HC.out wr hb.out.1 3;have hC := HK.out.2.2.2.1 wr hb.out.1;have hz := q9 (show zs[3]? = some z3 from by rw [← hzs.out]; rfl);gi_wp2
   refine ⟨trivial, ?_⟩;refine (callsIn_wide.2 hC).mono ?_;rintro e w1 ⟨rfl, hb1⟩;have HB1 := q9 (hb.out.1.trans (hb1.mono hb.out.1.size));have HS1 := q9 (Nat.le_trans hb.out.2 hb1.size);have hJ1 : J (zs.take 3) w1 := HJ.out _ _ _ none hJs (grownBy_of_below hb1) (fun r e => by cases e);obtain ⟨fn, tmps, assign, body, hy, hR⟩ := hY _ z3 w1 hJ1 (by rw [← hzs.out]; simp);clear hb1 hC hJs hJ1 c0;gi_wp2
   refine hR.mono ?_;rintro e W3 (⟨rfl, hJ3, hk3⟩ | ⟨rfl, hJx3⟩)
   ·have HB3 := q9 (show Below w0.heap.size w0 W3 ∧ W.heap.size ≤ W3.heap.size from ⟨HB1.out.trans hk3, Nat.le_trans HS1.out hk3.size⟩);clear hk3;gi_wp2
    go_roundw
    case rel => exact ⟨3 + 1, by omega, rfl, by rw [← take_app hz.out]; exact hJ3, HB3⟩
    case measure => simp [intOf]
   gi_wp2
   refine bodyPost_ret (results_none rfl _ _ _) rfl ?_;exact ⟨⟨_, rfl⟩, .inr ⟨_, by rw [take_app hz.out]; exact List.take_prefix _ _, hJx3⟩⟩
  ·have c0 : wr.cell? ⟨G, 4, none⟩ = some (.func (.func 125) #[] #[.pointer (some ⟨S, 0, none⟩)]) := HC.out wr hb.out.1 4;have hC := HK.out.2.2.2.2.1 wr hb.out.1;have hz := q9 (show zs[4]? = some z4 from by rw [← hzs.out]; rfl);gi_wp2
   refine ⟨trivial, ?_⟩;refine (callsIn_wide.2 hC).mono ?_;rintro e w1 ⟨rfl, hb1⟩;have HB1 := q9 (hb.out.1.trans (hb1.mono hb.out.1.size));have HS1 := q9 (Nat.le_trans hb.out.2 hb1.size);have hJ1 : J (zs.take 4) w1 := HJ.out _ _ _ none hJs (grownBy_of_below hb1) (fun r e => by cases e);obtain ⟨fn, tmps, assign, body, hy, hR⟩ := hY _ z4 w1 hJ1 (by rw [← hzs.out]; simp);clear hb1 hC hJs hJ1 c0;gi_wp2
   refine hR.mono ?_;rintro e W3 (⟨rfl, hJ3, hk3⟩ | ⟨rfl, hJx3⟩)
   ·have HB3 := q9 (show Below w0.heap.size w0 W3 ∧ W.heap.size ≤ W3.heap.size from ⟨HB1.out.trans hk3, Nat.le_trans HS1.out hk3.size⟩);clear hk3;gi_wp2
    go_roundw
    case rel => exact ⟨4 + 1, by omega, rfl, by rw [← take_app hz.out]; exact hJ3, HB3⟩
    case measure => simp [intOf]
   gi_wp2
   refine bodyPost_ret (results_none rfl _ _ _) rfl ?_;exact ⟨⟨_, rfl⟩, .inr ⟨_, by rw [take_app hz.out]; exact List.take_prefix _ _, hJx3⟩⟩
  ·have c0 : wr.cell? ⟨G, 5, none⟩ = some (.func (.func 130) #[] #[.pointer (some ⟨S, 0, none⟩), .pointer (some ⟨I, 0, none⟩), .pointer (some ⟨T, 0, none⟩)]) := HC.out wr hb.out.1 5;have hC := HK.out.2.2.2.2.2.1 wr hb.out.1;have hz := q9 (show zs[5]? = some z5 from by rw [← hzs.out]; rfl);gi_wp2
   refine ⟨trivial, ?_⟩;refine (callsIn_wide.2 hC).mono ?_;rintro e w1 ⟨rfl, hb1⟩;have HB1 := q9 (hb.out.1.trans (hb1.mono hb.out.1.size));have HS1 := q9 (Nat.le_trans hb.out.2 hb1.size);have hJ1 : J (zs.take 5) w1 := HJ.out _ _ _ none hJs (grownBy_of_below hb1) (fun r e => by cases e);obtain ⟨fn, tmps, assign, body, hy, hR⟩ := hY _ z5 w1 hJ1 (by rw [← hzs.out]; simp);clear hb1 hC hJs hJ1 c0;gi_wp2
   refine hR.mono ?_;rintro e W3 (⟨rfl, hJ3, hk3⟩ | ⟨rfl, hJx3⟩)
   ·have HB3 := q9 (show Below w0.heap.size w0 W3 ∧ W.heap.size ≤ W3.heap.size from ⟨HB1.out.trans hk3, Nat.le_trans HS1.out hk3.size⟩);clear hk3;gi_wp2
    go_roundw
    case rel => exact ⟨5 + 1, by omega, rfl, by rw [← take_app hz.out]; exact hJ3, HB3⟩
    case measure => simp [intOf]
   gi_wp2
   refine bodyPost_ret (results_none rfl _ _ _) rfl ?_;exact ⟨⟨_, rfl⟩, .inr ⟨_, by rw [take_app hz.out]; exact List.take_prefix _ _, hJx3⟩⟩
  ·have c0 : wr.cell? ⟨G, 6, none⟩ = some (.func (.func 133) #[] #[.pointer (some ⟨S, 0, none⟩), .pointer (some ⟨N, 0, none⟩)]) := HC.out wr hb.out.1 6;have hC := HK.out.2.2.2.2.2.2.1 wr hb.out.1;have hz := q9 (show zs[6]? = some z6 from by rw [← hzs.out]; rfl);gi_wp2
   refine ⟨trivial, ?_⟩;refine (callsIn_wide.2 hC).mono ?_;rintro e w1 ⟨rfl, hb1⟩;have HB1 := q9 (hb.out.1.trans (hb1.mono hb.out.1.size));have HS1 := q9 (Nat.le_trans hb.out.2 hb1.size);have hJ1 : J (zs.take 6) w1 := HJ.out _ _ _ none hJs (grownBy_of_below hb1) (fun r e => by cases e);obtain ⟨fn, tmps, assign, body, hy, hR⟩ := hY _ z6 w1 hJ1 (by rw [← hzs.out]; simp);clear hb1 hC hJs hJ1 c0;gi_wp2
   refine hR.mono ?_;rintro e W3 (⟨rfl, hJ3, hk3⟩ | ⟨rfl, hJx3⟩)
   ·have HB3 := q9 (show Below w0.heap.size w0 W3 ∧ W.heap.size ≤ W3.heap.size from ⟨HB1.out.trans hk3, Nat.le_trans HS1.out hk3.size⟩);clear hk3;gi_wp2
    go_roundw
    case rel => exact ⟨6 + 1, by omega, rfl, by rw [← take_app hz.out]; exact hJ3, HB3⟩
    case measure => simp [intOf]
   gi_wp2
   refine bodyPost_ret (results_none rfl _ _ _) rfl ?_;exact ⟨⟨_, rfl⟩, .inr ⟨_, by rw [take_app hz.out]; exact List.take_prefix _ _, hJx3⟩⟩
  ·have c0 : wr.cell? ⟨G, 7, none⟩ = some (.func (.func 135) #[] #[.pointer (some ⟨S, 0, none⟩), .pointer (some ⟨N, 0, none⟩)]) := HC.out wr hb.out.1 7;have hC := HK.out.2.2.2.2.2.2.2.1 wr hb.out.1;have hz := q9 (show zs[7]? = some z7 from by rw [← hzs.out]; rfl);gi_wp2
   refine ⟨trivial, ?_⟩;refine (callsIn_wide.2 hC).mono ?_;rintro e w1 ⟨rfl, hb1⟩;have HB1 := q9 (hb.out.1.trans (hb1.mono hb.out.1.size));have HS1 := q9 (Nat.le_trans hb.out.2 hb1.size);have hJ1 : J (zs.take 7) w1 := HJ.out _ _ _ none hJs (grownBy_of_below hb1) (fun r e => by cases e);obtain ⟨fn, tmps, assign, body, hy, hR⟩ := hY _ z7 w1 hJ1 (by rw [← hzs.out]; simp);clear hb1 hC hJs hJ1 c0;gi_wp2
   refine hR.mono ?_;rintro e W3 (⟨rfl, hJ3, hk3⟩ | ⟨rfl, hJx3⟩)
   ·have HB3 := q9 (show Below w0.heap.size w0 W3 ∧ W.heap.size ≤ W3.heap.size from ⟨HB1.out.trans hk3, Nat.le_trans HS1.out hk3.size⟩);clear hk3;gi_wp2
    go_roundw
    case rel => exact ⟨7 + 1, by omega, rfl, by rw [← take_app hz.out]; exact hJ3, HB3⟩
    case measure => simp [intOf]
   gi_wp2
   refine bodyPost_ret (results_none rfl _ _ _) rfl ?_;exact ⟨⟨_, rfl⟩, .inr ⟨_, by rw [take_app hz.out]; exact List.take_prefix _ _, hJx3⟩⟩
  ·have c0 : wr.cell? ⟨G, 8, none⟩ = some (.func (.func 136) #[] #[.pointer (some ⟨S, 0, none⟩)]) := HC.out wr hb.out.1 8;have hC := HK.out.2.2.2.2.2.2.2.2 wr hb.out.1;have hz := q9 (show zs[8]? = some z8 from by rw [← hzs.out]; rfl);gi_wp2
   refine ⟨trivial, ?_⟩;refine (callsIn_wide.2 hC).mono ?_;rintro e w1 ⟨rfl, hb1⟩;have HB1 := q9 (hb.out.1.trans (hb1.mono hb.out.1.size));have HS1 := q9 (Nat.le_trans hb.out.2 hb1.size);have hJ1 : J (zs.take 8) w1 := HJ.out _ _ _ none hJs (grownBy_of_below hb1) (fun r e => by cases e);obtain ⟨fn, tmps, assign, body, hy, hR⟩ := hY _ z8 w1 hJ1 (by rw [← hzs.out]; simp);clear hb1 hC hJs hJ1 c0;gi_wp2
   refine hR.mono ?_;rintro e W3 (⟨rfl, hJ3, hk3⟩ | ⟨rfl, hJx3⟩)
   ·have HB3 := q9 (show Below w0.heap.size w0 W3 ∧ W.heap.size ≤ W3.heap.size from ⟨HB1.out.trans hk3, Nat.le_trans HS1.out hk3.size⟩);clear hk3;gi_wp2
    go_roundw
    case rel => exact ⟨8 + 1, by omega, rfl, by rw [← take_app hz.out]; exact hJ3, HB3⟩
    case measure => simp [intOf]
   gi_wp2
   refine bodyPost_ret (results_none rfl _ _ _) rfl ?_;exact ⟨⟨_, rfl⟩, .inr ⟨_, by rw [take_app hz.out]; exact List.take_prefix _ _, hJx3⟩⟩
  gi_wp2
  go_end0
  exact ⟨⟨_, rfl⟩, .inl ⟨_, by rw [← hzs.out]; rfl, hJs⟩⟩
theorem orE_zeros : ∀ {l : List Int}, (∀ e ∈ l, e = 0) → orE l = 0
 | [], _ => rfl
 | x :: l, h => by rw [orE_zero (h x (by simp))]; exact orE_zeros (fun e he => h e (by simp [he]))
theorem orE_stop : ∀ {q l : List Int} {z : Int}, (∀ e ∈ q, e = 0) → z ≠ 0 → q ++ [z] <+: l → orE l = z
 | [], l, z, _, hz, h => by
  obtain ⟨t, rfl⟩ := h;rw [List.nil_append, List.singleton_append, orE_ne hz]
 | x :: q, l, z, h0, hz, h => by
  obtain ⟨t, rfl⟩ := h;rw [List.cons_append, List.cons_append, orE_zero (h0 x (by simp))];exact orE_stop (fun e he => h0 e (by simp [he])) hz ⟨t, rfl⟩
structure PLn (p : Pa) : Prop where
 n : p.needs.length ≤ 1099511627776
 s : p.st.length ≤ 1099511627776
 l : p.pl.length ≤ 1099511627776
 m : p.ma.length ≤ 1099511627776
 e : p.er.length ≤ 1099511627776
 d : p.dr.length ≤ 1099511627776
 r : p.rt.length ≤ 1099511627776
 x : ∀ q ∈ p.pl, q.nm.size ≤ 1099511627776
theorem rules_stops (n : Nat) (hn : 1 ≤ n) (S T I N G B : Nat) (p : Pa) (a : Pw) (w0 : World) (hR : RC w0 S T I N p a) (hl : PLn p) (hG : Bk w0 G 152 (ruleV S T I N)) (hB : Bk w0 B 185 #[.slice (some ⟨G, 0, none⟩) 9 9]) :
  SeqStopsK Fence.wide n Tryz.prog 139 #[.pointer (some ⟨B, 0, none⟩)] (fun x : Int => #[Value.int .i64 x]) (Below w0.heap.size) (fun ys => ys = paL p) (fun pre => pre <+: paL p) 9 w0 := fun lp J Jx W hW hJ _ hY h0 =>
 rules13_in n hn lp S T I N G B w0 _ _ _ _ _ _ _ _ _
  (fun W hW => (rule4_any S p a W (hR.below hW).s).mono (fun _ _ h => ⟨h.1, h.2 ▸ Below.refl _ _⟩))
  (fun W hW => (rule5_any S p a W (hR.below hW).s).mono (fun _ _ h => ⟨h.1, h.2 ▸ Below.refl _ _⟩))
  (fun W hW => (rule6_any S p a W (hR.below hW).s (hR.below hW).t.n hl.n).mono (fun _ _ h => ⟨h.1, h.2 ▸ Below.refl _ _⟩))
  (fun W hW => rule7_any S T I N p a W (hR.below hW) hl.s)
  (fun W hW => rule8_any S T I N p a W (hR.below hW) hl.l hl.x)
  (fun W hW => rule9_any S T I N p a W (hR.below hW) hl.m hl.n)
  (fun W hW => rule10_any S T I N p a W (hR.below hW) hl.e hl.n)
  (fun W hW => rule11_any S T I N p a W (hR.below hW) hl.d hl.n)
  (fun W hW => rule12_any S T I N p a W (hR.below hW) hl.r)
  hG hB J Jx W hW hJ hY h0
attribute [local go_sem] Oper.semAt_some
theorem patchValid_any (p : Pa) (a : Pw) (w : World) (h : PT w p a) (hl : PLn p) :
  Calls Tryz.prog 11 #[.agg (paC p a)] w fun e w' => e = .returned (.int .i64 (paE p)) ∧ Below w.heap.size w w' := by
 refine (callsIn_wide (n := 5)).1 ?_;have HT := q9 h;have HL := q9 hl;obtain ⟨R, hR⟩ : ∃ z, Hid (paE p = z) := ⟨_, q9 rfl⟩;rw [hR.out];clear h hl;refine callsIn_of_wp_marks Tryz.func11 rfl trivial ?_ rfl;simp only [Tryz.ntmps11, List.size_toArray, List.length_cons, List.length_nil, Nat.reduceAdd, Nat.reduceSub, Array.replicate_succ, Array.replicate_zero, List.push_toArray, List.append_toArray, List.nil_append, List.cons_append, paC];gi_wp2
 refine ⟨trivial, ?_⟩;have hB0 := ((Below.refl w.heap.size w).alloc (Nat.le_refl _) (.cells #[.int .i64 p.office, .int .i64 p.num, .slice a.n p.needs.length a.cn, .slice a.s p.st.length a.cs, .slice a.l p.pl.length a.cl, .slice a.m p.ma.length a.cm, .slice a.e p.er.length a.ce, .slice a.d p.dr.length a.cd, .slice a.r p.rt.length a.cr] 34)).alloc (by simp) (.cells #[.int .i64 0] 25);have c2 := Bk.new' (w.alloc (.cells #[.int .i64 p.office, .int .i64 p.num, .slice a.n p.needs.length a.cn, .slice a.s p.st.length a.cs, .slice a.l p.pl.length a.cl, .slice a.m p.ma.length a.cm, .slice a.e p.er.length a.ce, .slice a.d p.dr.length a.cd, .slice a.r p.rt.length a.cr] 34)) 25 #[.int .i64 0] (g := w.heap.size + 1) (by simp);have hW0 : w.heap.size + 2 ≤ ((w.alloc (.cells #[.int .i64 p.office, .int .i64 p.num, .slice a.n p.needs.length a.cn, .slice a.s p.st.length a.cs, .slice a.l p.pl.length a.cl, .slice a.m p.ma.length a.cm, .slice a.e p.er.length a.ce, .slice a.d p.dr.length a.cd, .slice a.r p.rt.length a.cr] 34)).alloc (.cells #[.int .i64 0] 25)).heap.size := by simp
 refine (callsIn_wide.2 (rules_any p a _ (HT.out.below hB0))).mono ?_;generalize (w.alloc (.cells #[.int .i64 p.office, .int .i64 p.num, .slice a.n p.needs.length a.cn, .slice a.s p.st.length a.cs, .slice a.l p.pl.length a.cl, .slice a.m p.ma.length a.cm, .slice a.e p.er.length a.ce, .slice a.d p.dr.length a.cd, .slice a.r p.rt.length a.cr] 34)).alloc (.cells #[.int .i64 0] 25) = W0 at *;rintro e w1 ⟨rfl, hb1, hRC, hG, hBk⟩;have c3 := c2.below hb1 (by omega);have hB1 := hB0.trans (hb1.mono hB0.size);have hW1 : w.heap.size + 2 ≤ w1.heap.size := by have := hb1.size; omega
 gi_wp2
 refine wpIn_rangeFunc_ownF rfl (by omega) (gf := 139) (lb := #[.pointer (some ⟨W0.heap.size + 1 + 1 + 1 + 1 + 1, 0, none⟩)]) rfl trivial (enters_of Tryz.func139 (by kernel_rfl) rfl)
  (rules_stops 4 (by omega) _ _ _ _ _ _ p a w1 hRC HL.out hG hBk) belowK_t (belowK_b (Nat.le_refl _)) (Below.refl _ _) (fun _ => rfl)
  (fun pre W => ((∀ e ∈ pre, e = 0) ∧ W.cell? ⟨w.heap.size + 1, 0, none⟩ = some (.int .i64 0) ∧ W.frozen? ⟨w.heap.size + 1, 0, none⟩ = false) ∧ Below w.heap.size w W)
  (fun c pre W => (c = .ret ∧ ∃ q z, pre = q ++ [z] ∧ z ≠ 0 ∧ (∀ e ∈ q, e = 0) ∧ W.cell? ⟨w.heap.size + 1, 0, none⟩ = some (.int .i64 z)) ∧ Below w.heap.size w W)
  (OwnFrom.and (Own.from (fun s A B row hs hg hr => ⟨hs.1, cell_kept hs.2.1 hg hr, (frozen_kept hs.2.1 hg hr).trans hs.2.2⟩) _) (ownFrom_below (Nat.le_refl _) (by omega)))
  (fun c => OwnFrom.and (Own.from (fun s A B row hs hg hr => ⟨hs.1, by obtain ⟨q, z, h1, h2, h3, h4⟩ := hs.2; exact ⟨q, z, h1, h2, h3, cell_kept h4 hg hr⟩⟩) _) (ownFrom_below (Nat.le_refl _) (by omega)))
  ⟨⟨by simp, c3.cell 0, c3.frozen 0⟩, hB1⟩
  (fun x => { tmps := #[.agg #[.int .i64 p.office, .int .i64 p.num, .slice a.n p.needs.length a.cn, .slice a.s p.st.length a.cs, .slice a.l p.pl.length a.cl, .slice a.m p.ma.length a.cm, .slice a.e p.er.length a.ce, .slice a.d p.dr.length a.cd, .slice a.r p.rt.length a.cr], .pointer (some ⟨w.heap.size, 0, none⟩), .pointer (some ⟨w.heap.size + 1, 0, none⟩), .int .i64 x, .agg #[.int .i64 p.office, .int .i64 p.num, .slice a.n p.needs.length a.cn, .slice a.s p.st.length a.cs, .slice a.l p.pl.length a.cl, .slice a.m p.ma.length a.cm, .slice a.e p.er.length a.ce, .slice a.d p.dr.length a.cd, .slice a.r p.rt.length a.cr], .func (.func 139) #[] #[.pointer (some ⟨W0.heap.size + 1 + 1 + 1 + 1 + 1, 0, none⟩)], .int .i64 x, undef, undef, undef], defers := [] }) ?assign ?body ?done ?stop
 case assign =>
  intro l x W K hK;gi_wp2
  exact hK
 case body =>
  clear hRC hG hBk hb1 hB1 hB0 c2 c3;rintro l pre x W ⟨⟨hp, hcr, hfr⟩, hB⟩ _;have Hp := q9 hp;have HB := q9 hB;clear hp hB;by_cases f1 : x = 0
  ·have b1 : (x != 0) = false := by simp [f1]
   have Hf1 := q9 f1;clear f1;gi_wp2
   exact ⟨KeepsOthers.refl _, Below.refl _ _, ⟨fun e he => (List.mem_append.1 he).elim (Hp.out e) (fun h => by rw [List.mem_singleton.1 h]; exact Hf1.out), hcr, hfr⟩, HB.out⟩
  have b1 : (x != 0) = true := by simp [f1]
  have Hf1 := q9 f1;clear f1;gi_wp2
  exact ⟨KeepsOthers.setCell _ _ _, ⟨rfl, pre, x, rfl, Hf1.out, Hp.out, World.cell?_setCell_same' _ _ _ (by rw [hcr]; rfl)⟩, HB.out.setCell (p := ⟨w.heap.size + 1, 0, none⟩) (by simp) _⟩
 case done =>
  clear hRC hG hBk hb1 hB1 hB0 c2 c3;rintro D ys W hD rfl ⟨⟨hne, hcr, hfr⟩, hB⟩ hK;have hr := q9 (show R = 0 from by rw [← hR.out]; exact orE_zeros hne);have HB := q9 hB;clear hne hB hR;gi_wp2
  have hK' := (KeepsOthers.setCell W ⟨w.heap.size + 1, 0, none⟩ (.int .i64 0)).same D _ hK rfl;refine ⟨by simp, .inl ⟨_, _, rfl, run_takeDeferred hK', ?_⟩⟩;have hc5 := cell_kept (World.cell?_setCell_same' W ⟨w.heap.size + 1, 0, none⟩ (.int .i64 0) (by rw [hcr]; rfl)) (grownBy_putObj' _ D (.deferred none)) (fun r e => by cases e; exact ⟨_, hK', rfl⟩);refine ⟨.int .i64 0, ?_, by rw [hr.out], (HB.out.setCell (p := ⟨w.heap.size + 1, 0, none⟩) (by simp) _).trans (belowK_b (w := w1) (by omega) _ D _ _ hD hK' rfl rfl)⟩;simp [results, Tryz.f11, go_sem, hc5]
 case stop =>
  clear hRC hG hBk hb1 hB1 hB0 c2 c3;rintro D c pre W hD hpre ⟨⟨rfl, q, z, rfl, hz, hq, hcr⟩, hB⟩ hK;have hr := q9 (show R = z from by rw [← hR.out]; exact orE_stop hq hz hpre);have HB := q9 hB;clear hq hz hpre hR hB;gi_wp2
  refine ⟨by simp, .inl ⟨_, _, rfl, run_takeDeferred hK, ?_⟩⟩;have hc5 := cell_kept hcr (grownBy_putObj' _ D (.deferred none)) (fun r e => by cases e; exact ⟨_, hK, rfl⟩);refine ⟨.int .i64 z, ?_, by rw [hr.out], HB.out.trans (belowK_b (w := w1) (by omega) W D _ _ hD hK rfl rfl)⟩;simp [results, Tryz.f11, go_sem, hc5]
end Go.Proofs.YtnapnkmehnabfaaGreat
