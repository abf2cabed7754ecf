import Derived.Test.YtnapnkmehnabfaaGreatP36
namespace Go.Proofs.YtnapnkmehnabfaaGreat
open Go.RowKit Go.Maps

theorem us64_all (l : List Int) : (l.map (Value.int .u64)).all (·.oneCell') = true := by
 rw [List.all_eq_true]
 intro v hv
 obtain ⟨x, _, rfl⟩ := List.mem_map.1 hv
 rfl
set_option maxHeartbeats 1000000 in
set_option maxRecDepth 100000 in
theorem cloneU_any (A : Option Addr) (c : Nat) (l : List Int) (w : World) (hA : SU w A l) (hl : l.length ≤ 1000000000) :
  Calls Tryz.prog 49 #[.slice A l.length c] w fun e w' => ∃ B d, e = .returned (.slice B l.length d) ∧ w'.ownsRow w.heap.size 53 1 (.slice B l.length d) l.length (l.map (Value.int .u64)) ∧ Below w.heap.size w w' := by
 have eql_nil8 := fun (a : Option Addr) (l c : Nat) (W : World) => show (binOp .eql 27 (.slice a l c) (.slice none 0 0)).run Tryz.prog W = .ok (.bool a.isNone) W from by
  simp only [binOp]
  simp [run_equal_slice_nil W 27 53 a l c Tryz.underlying27]
 have elt_u64 : Elt Tryz.prog 27 53 (.int .u64 0) 1 8 := Elt.mk' Tryz.underlying27 (by kernel_rfl) (by decide) (by decide) rfl
 cases A with
 | none =>
  have hl0 : l = [] := by
   cases l with
   | nil => rfl
   | cons x l =>
    obtain ⟨b, o, e, _⟩ := hA 0 _ rfl
    cases e
  subst hl0
  have hu := fun W => eql_nil8 none 0 c W
  clear eql_nil8
  go_enter Tryz.func49, Tryz.ntmps49
  go_wp2_with fail
  go_ret
  exact ⟨_, _, rfl, World.ownsRow_nil _ _ _ _, Below.refl _ _⟩
 | some a =>
  have Hv := Lib.hid (own_void8 (base := w.heap.size) (size := 1) (Bk.new w 53 #[]) (Nat.le_refl _))
  have Hx := Lib.hid ((Below.refl w.heap.size w).alloc (Nat.le_refl _) (.cells #[] 53))
  have hsz : w.heap.size ≤ (w.alloc (.cells #[] 53)).heap.size := by simp
  have Ha := Lib.hid (SL.below hA Hx.out)
  have hu := fun W => eql_nil8 (some a) l.length c W
  clear eql_nil8
  go_enter Tryz.func49, Tryz.ntmps49
  go_wp2_with (at_builtin; refine wpList_appM' (w := w.alloc (.cells #[] 53)) rfl _ _ rfl elt_u64 Hv.out hsz rfl rfl Ha.out (by simp) (us64_all l) (by omega) ?_; intro v2 W2 hown2 hg2; obtain ⟨A2, c2, rfl⟩ := own_slice hown2)
  go_ret
  exact ⟨A2, c2, by simp, by simpa using hown2, Hx.out.grown hg2 hsz (fun k hk => by simp [Value.ownBlock] at hk; omega)⟩
theorem own_row_bk {w : World} {base n size r : Nat} {e : TypeId} {v : Value} {xs : List Value} (h : w.ownsRow base e size v n xs) (hr : v.ownBlock = some r) : ∃ cs, Bk w r e cs := by
 rcases h.2 with ⟨rfl, _⟩ | ⟨g, cap, cur, rfl, _, hg, _⟩
 ·simp [Value.ownBlock] at hr
 ·simp only [Value.ownBlock, Option.some.injEq] at hr
  subst hr
  exact ⟨cur, hg⟩
theorem elt_stroke : Elt Tryz.prog 28 62 (.agg #[.int .i64 0, .int .i64 0, .int .i64 0, .int .i64 0, .slice none 0 0]) 5 56 := Elt.mk' Tryz.underlying28 (by kernel_rfl) (by decide) (by decide) rfl
def L7 (P S h bB q : Nat) (X : Value) (x1 y1 x2 y2 k of fr til de : Int) (W : World) : Prop := W.cell? ⟨P, 3, none⟩ = some X ∧ W.cell? ⟨bB, q, none⟩ = some (.int .i64 x1) ∧ W.cell? ⟨bB, q + 1, none⟩ = some (.int .i64 y1) ∧ W.cell? ⟨h, 0, none⟩ = some (.int .i64 x2) ∧ W.cell? ⟨h, 1, none⟩ = some (.int .i64 y2) ∧ W.cell? ⟨S, 0, none⟩ = some (.int .i64 k) ∧ W.cell? ⟨S, 1, none⟩ = some (.int .i64 of) ∧ W.cell? ⟨S, 2, none⟩ = some (.int .i64 fr) ∧ W.cell? ⟨S, 3, none⟩ = some (.int .i64 til) ∧ W.cell? ⟨S, 4, none⟩ = some (.int .i64 de)
theorem PB.store {w : World} {g i : Nat} {t : TypeId} {cs : Array Value} {p : Pa} {a : Pw} (h : PB w p a) (hb : Bk w g t cs) (ht : t ∉ paT) (u : Value) : PB (w.setCell ⟨g, i, none⟩ u) p a :=
 h.grown (grown_set w g i u) (fun r e => by cases e; exact ⟨_, cs, hb, ht⟩)
/-- Strokes are appended: what their claims are stays. -/
theorem SV.app {w w' : World} {base n : Nat} {v : Value} {xs vs : List Value} {l : List Sk} (h : SV w vs l) (hown : w.ownsRow base 62 5 v n xs) (hg : w.grownBy w' v.ownBlock) : SV w' vs l :=
 h.grown hg (fun r e => by obtain ⟨cs, hb⟩ := own_row_bk hown e; exact ⟨_, cs, hb, by decide⟩)
theorem SV.store {w : World} {p i : Nat} {t : TypeId} {cs : Array Value} {vs : List Value} {l : List Sk} (h : SV w vs l) (hp : Bk w p t cs) (ht : t ≠ 41) (u : Value) : SV (w.setCell ⟨p, i, none⟩ u) vs l :=
 h.grown (grown_set w p i u) (fun r e => by cases e; exact ⟨_, cs, hp, ht⟩)
/-- A stroke between two points that follow each other. -/
def seg (pts : List (Int × Int)) (c : Cl) (i : Nat) : Sk := ⟨(pts.getD i (0, 0)).1, (pts.getD i (0, 0)).2, (pts.getD (i + 1) (0, 0)).1, (pts.getD (i + 1) (0, 0)).2, [c]⟩
def segs (pts : List (Int × Int)) (c : Cl) (k : Nat) : List Sk := (List.range k).map (seg pts c)
theorem segs_succ (pts : List (Int × Int)) (c : Cl) (k : Nat) : segs pts c (k + 1) = segs pts c k ++ [seg pts c k] := by simp [segs, List.range_succ]
theorem segs_len (pts : List (Int × Int)) (c : Cl) (k : Nat) : (segs pts c k).length = k := by simp [segs]
def lineP (o n : Int) (needs : List Int) (pts : List (Int × Int)) (c : Cl) : Pa := ⟨o, n, needs, segs pts c (pts.length - 1), [], [], [], [], []⟩
def lineE (o n : Int) (needs : List Int) (pts : List (Int × Int)) (c : Cl) : Int := if pts.length < 2 then 25 else paE (lineP o n needs pts c)
def lineV (o n : Int) (needs : List Int) (pts : List (Int × Int)) (c : Cl) : Pa := if lineE o n needs pts c = 0 then lineP o n needs pts c else paZ

set_option linter.unusedSimpArgs false in
set_option maxHeartbeats 8000000 in
set_option maxRecDepth 100000 in
theorem line_any (o n : Int) (needs : List Int) (A : Option Addr) (cA : Nat) (pts : List (Int × Int)) (B : Option Addr) (cB : Nat) (k of fr til de : Int) (w : World) (hA : SU w A needs) (hn : needs.length ≤ 1000000) (hB : SR w B pts) (hc : pts.length ≤ cB) (hp : pts.length ≤ 1000000) :
  Calls Tryz.prog 18 #[.int .i64 o, .int .i64 n, .slice A needs.length cA, .slice B pts.length cB, .agg #[.int .i64 k, .int .i64 of, .int .i64 fr, .int .i64 til, .int .i64 de]] w fun e w' => Below w.heap.size w w' ∧ ∃ a, PB w' (lineV o n needs pts ⟨k, of, fr, til, de⟩) a ∧ e = .returned (.tuple #[.agg (paC (lineV o n needs pts ⟨k, of, fr, til, de⟩) a), .int .i64 (lineE o n needs pts ⟨k, of, fr, til, de⟩)]) := by
 by_cases h2 : pts.length < 2
 ·have he : lineE o n needs pts ⟨k, of, fr, til, de⟩ = 25 := by rw [lineE, if_pos h2]
  have hv : lineV o n needs pts ⟨k, of, fr, til, de⟩ = paZ := by rw [lineV, if_neg (by rw [he]; decide)]
  rw [he, hv]
  have HB0 := Lib.hid (((Below.refl w.heap.size w).alloc (Nat.le_refl _) (.cells #[.int .i64 k, .int .i64 of, .int .i64 fr, .int .i64 til, .int .i64 de] 41)).alloc (by simp) (.cells (paC paZ pwZ) 34))
  clear he hv
  go_enter Tryz.func18, Tryz.ntmps18
  go_wp2_with fail
  refine bodyPost_ret (v := .tuple #[.agg (paC paZ pwZ), .int .i64 25]) ?_ rfl ⟨HB0.out, pwZ, PB.zero _, rfl⟩
  simp [results, Tryz.results18, go_sem]
  rfl
 ·have HB0 := Lib.hid (((Below.refl w.heap.size w).alloc (Nat.le_refl _) (.cells #[.int .i64 k, .int .i64 of, .int .i64 fr, .int .i64 til, .int .i64 de] 41)).alloc (by simp) (.cells (paC paZ pwZ) 34))
  have HK0 := Lib.hid ((Bk.new w 41 #[.int .i64 k, .int .i64 of, .int .i64 fr, .int .i64 til, .int .i64 de]).alloc (.cells (paC paZ pwZ) 34))
  have HZ0 := Lib.hid (Bk.new' (w.alloc (.cells #[.int .i64 k, .int .i64 of, .int .i64 fr, .int .i64 til, .int .i64 de] 41)) 34 (paC paZ pwZ) (g := w.heap.size + 1) (by simp))
  have HC := Lib.hid (cloneU_any A cA needs _ (hA.below HB0.out) (by omega))
  obtain ⟨cl, hcl⟩ : ∃ z : Cl, Hid ((⟨k, of, fr, til, de⟩ : Cl) = z) := ⟨_, Lib.hid rfl⟩
  have Hcl := Lib.hid (show clC cl = [.int .i64 k, .int .i64 of, .int .i64 fr, .int .i64 til, .int .i64 de] from by rw [← hcl.out]; rfl)
  obtain ⟨R, hR⟩ : ∃ z, Hid (paE (lineP o n needs pts cl) = z) := ⟨_, Lib.hid rfl⟩
  obtain ⟨V, hV⟩ : ∃ z, Hid (lineV o n needs pts cl = z) := ⟨_, Lib.hid rfl⟩
  have he : lineE o n needs pts cl = R := by rw [lineE, if_neg h2, hR.out]
  have hV2 := Lib.hid (show V = if R = 0 then lineP o n needs pts cl else paZ from by rw [← hV.out, lineV, he])
  rw [hcl.out, hV.out, he]
  have HBs := Lib.hid (fun (W : World) (hW : Below w.heap.size w W) => (show SR W B pts from hB.below hW))
  obtain ⟨bB, oB, x0, y0, hBe, _⟩ := hB.get (k := 0) (by omega)
  subst hBe
  obtain ⟨m, hm⟩ : ∃ m : Nat, Hid (pts.length = m + 1) := ⟨pts.length - 1, Lib.hid (by show _ = _; omega)⟩
  have hm1 : 1 ≤ m := by have := hm.out; omega
  have hm2 : m + 1 ≤ cB := by have := hm.out; omega
  have hmb : m ≤ 1000000 := by have := hm.out; omega
  rw [hm.out]
  have b0 : ¬ ((m + 1 : Nat) : Int) < 2 := by omega
  clear hA hB hc hp h2 he hV
  go_enter Tryz.func18, Tryz.ntmps18
  go_upto_region 4 with (refine HC.out.mono ?_; rintro e w1 ⟨N, cN, rfl, hown, hb1⟩)
  have HB1 := Lib.hid ((HB0.out.trans (hb1.mono HB0.out.size)).alloc (Nat.le_trans HB0.out.size hb1.size) (.cells #[.int .i64 o, .int .i64 n, .slice N needs.length cN, .slice none 0 0, .slice none 0 0, .slice none 0 0, .slice none 0 0, .slice none 0 0, .slice none 0 0] 34))
  have HK1 := Lib.hid ((HK0.out.below hb1 HK0.out.lt).alloc (.cells #[.int .i64 o, .int .i64 n, .slice N needs.length cN, .slice none 0 0, .slice none 0 0, .slice none 0 0, .slice none 0 0, .slice none 0 0, .slice none 0 0] 34))
  have HZ1 := Lib.hid ((HZ0.out.below hb1 HZ0.out.lt).alloc (.cells #[.int .i64 o, .int .i64 n, .slice N needs.length cN, .slice none 0 0, .slice none 0 0, .slice none 0 0, .slice none 0 0, .slice none 0 0, .slice none 0 0] 34))
  have HN1 := Lib.hid ((own_mono hown HB0.out.size).alloc (.cells #[.int .i64 o, .int .i64 n, .slice N needs.length cN, .slice none 0 0, .slice none 0 0, .slice none 0 0, .slice none 0 0, .slice none 0 0, .slice none 0 0] 34))
  have HP1 := Lib.hid (Bk.new w1 34 #[.int .i64 o, .int .i64 n, .slice N needs.length cN, .slice none 0 0, .slice none 0 0, .slice none 0 0, .slice none 0 0, .slice none 0 0, .slice none 0 0])
  have hPw : w.heap.size + 2 ≤ w1.heap.size := Nat.le_trans (by simp) hb1.size
  clear hown hb1 HC HB0 HK0 HZ0
  generalize w1.alloc (.cells #[.int .i64 o, .int .i64 n, .slice N needs.length cN, .slice none 0 0, .slice none 0 0, .slice none 0 0, .slice none 0 0, .slice none 0 0, .slice none 0 0] 34) = W2 at *
  generalize w1.heap.size = P at *
  obtain ⟨S, hS⟩ : ∃ z, Hid (w.heap.size = z) := ⟨_, Lib.hid rfl⟩
  simp only [hS.out] at HB1 HK1 HZ1 HN1 HBs hPw ⊢
  obtain ⟨kk, hkk⟩ : ∃ kk : Nat, Hid ((if cB = 1 then (some ⟨bB, oB, none⟩ : Option Addr) else some ⟨bB, oB + 2, none⟩) = some ⟨bB, oB + kk, none⟩ ∧ kk = 2) := ⟨2, Lib.hid ⟨by rw [if_neg (by omega)], rfl⟩⟩
  have hcb1 : ¬ cB = 1 := by omega
  go_wp2_with fail
  go_loopw [28] (fun i wr => ∃ (j : Nat) (X : Option Addr) (cX : Nat) (vs : List Value), j ≤ m ∧ i = .int .i64 (j : Int) ∧ Hid (Bk wr P 34 #[.int .i64 o, .int .i64 n, .slice N needs.length cN, .slice X j cX, .slice none 0 0, .slice none 0 0, .slice none 0 0, .slice none 0 0, .slice none 0 0]) ∧ Hid (wr.ownsRow S 62 5 (.slice X j cX) j vs) ∧ Hid (SV wr vs (segs pts cl j)) ∧ Hid (Bk wr S 41 #[.int .i64 k, .int .i64 of, .int .i64 fr, .int .i64 til, .int .i64 de] ∧ Bk wr (S + 1) 34 (paC paZ pwZ) ∧ wr.ownsRow S 53 1 (.slice N needs.length cN) needs.length (needs.map (Value.int .u64)) ∧ Below S w wr)) (fun i _ => m - (intOf i).toNat)
  case atStart => exact ⟨0, none, 0, [], by omega, rfl, HP1, Lib.hid (World.ownsRow_nil _ _ _ _), Lib.hid (SV.nil _), Lib.hid ⟨HK1.out, HZ1.out, HN1.out, HB1.out⟩⟩
  case round =>
   clear HP1 HK1 HZ1 HN1 HB1
   obtain ⟨j, X, cX, vs, hj, rfl, HP, HO, HV, HF⟩ := hrel
   have j0 : (0 : Int) ≤ (j : Int) := by omega
   by_cases hlt : j < m
   ·have hjl : j + 1 < pts.length := by have := hm.out; omega
    obtain ⟨b1, o1, x1, y1, e1, c0, c1, hx1⟩ := (HBs.out wr HF.out.2.2.2).get (k := j) (by omega)
    obtain ⟨b2, o2, x2, y2, e2, c2, c3, hx2⟩ := (HBs.out wr HF.out.2.2.2).get (k := j + 1) hjl
    injection e1 with e1
    injection e1 with e1 e3
    injection e2 with e2
    injection e2 with e2 e4
    subst e1 e3 e2 e4
    rw [show oB + (j + 1) * 2 = oB + 2 + j * 2 by omega] at c2 c3
    have hjt := Lib.hid (show segs pts cl (j + 1) = segs pts cl j ++ [⟨x1, y1, x2, y2, [cl]⟩] from by
     rw [segs_succ, seg, List.getD_eq_getElem?_getD, hx1.out, List.getD_eq_getElem?_getD, hx2.out]; rfl)
    have hP3 : wr.cell? ⟨P, 3, none⟩ = some (.slice X j cX) := HP.out.cell 3
    have hbW := HF.out.2.2.2.size
    rw [hS.out] at hbW
    have hxq := Lib.hid hx1.out
    clear hx1 hx2
    go_upto_region 7 with fail
    have hnj : ¬ ((m : Int) + 1 ≤ (j : Int)) := by omega
    have hSP : S ≠ P := HF.out.1.ne_ HP.out (by decide)
    have hbl := World.block_lt_of_cell? _ _ c0
    have HPa := Lib.hid (show Bk ((wr.alloc (.cells #[.int .i64 x2, .int .i64 y2] 58)).drew) P 34 #[.int .i64 o, .int .i64 n, .slice N needs.length cN, .slice X j cX, .slice none 0 0, .slice none 0 0, .slice none 0 0, .slice none 0 0, .slice none 0 0] from HP.out.alloc _)
    have HHa := Lib.hid (show Bk ((wr.alloc (.cells #[.int .i64 x2, .int .i64 y2] 58)).drew) wr.heap.size 58 #[.int .i64 x2, .int .i64 y2] from Bk.new _ _ _)
    have HKa := Lib.hid (show Bk ((wr.alloc (.cells #[.int .i64 x2, .int .i64 y2] 58)).drew) S 41 #[.int .i64 k, .int .i64 of, .int .i64 fr, .int .i64 til, .int .i64 de] from HF.out.1.alloc _)
    have HZa := Lib.hid (show Bk ((wr.alloc (.cells #[.int .i64 x2, .int .i64 y2] 58)).drew) (S + 1) 34 (paC paZ pwZ) from HF.out.2.1.alloc _)
    have HNa := Lib.hid (show ((wr.alloc (.cells #[.int .i64 x2, .int .i64 y2] 58)).drew).ownsRow S 53 1 (.slice N needs.length cN) needs.length (needs.map (Value.int .u64)) from HF.out.2.2.1.alloc _)
    have HOa := Lib.hid (show ((wr.alloc (.cells #[.int .i64 x2, .int .i64 y2] 58)).drew).ownsRow S 62 5 (.slice X j cX) j vs from HO.out.alloc _)
    have HVa := Lib.hid (show SV ((wr.alloc (.cells #[.int .i64 x2, .int .i64 y2] 58)).drew) vs (segs pts cl j) from HV.out.below (((Below.refl _ _).alloc (Nat.le_refl _) _).drew))
    have HBa := Lib.hid ((HF.out.2.2.2.alloc (hS.out ▸ hbW) (.cells #[.int .i64 x2, .int .i64 y2] 58)).drew)
    have HSf := Lib.hid (fun (W : World) (k1 : Bk W P 34 #[.int .i64 o, .int .i64 n, .slice N needs.length cN, .slice X j cX, .slice none 0 0, .slice none 0 0, .slice none 0 0, .slice none 0 0, .slice none 0 0]) (k2 : Bk W wr.heap.size 58 #[.int .i64 x2, .int .i64 y2]) (k3 : Bk W S 41 #[.int .i64 k, .int .i64 of, .int .i64 fr, .int .i64 til, .int .i64 de]) (k4 : Below S w W) => show L7 P S wr.heap.size bB (oB + j * 2) (.slice X j cX) x1 y1 x2 y2 k of fr til de W from by
     obtain ⟨b3, o3, x3, y3, e3, g0, g1, hx3⟩ := (HBs.out W k4).get (k := j) (by omega)
     injection e3 with e3
     injection e3 with e3 e4
     subst e3 e4
     have hxy : (x3, y3) = (x1, y1) := by have h := hx3.out; rw [hxq.out] at h; injection h with h; exact h.symm
     injection hxy with hx hy
     subst hx hy
     exact ⟨k1.cell 3, g0, g1, k2.cell 0, k2.cell 1, k3.cell 0, k3.cell 1, k3.cell 2, k3.cell 3, k3.cell 4⟩)
    refine wp_region_noPanic ?_
    refine region_T (s := 14) (S := L7 P S wr.heap.size bB (oB + j * 2) (.slice X j cX) x1 y1 x2 y2 k of fr til de) (by kernel_rfl) ?_
    change wpT _ _ _ _ _ 15 _ _ (wr.alloc (.cells #[.int .i64 x2, .int .i64 y2] 58)).drew
    have HSa : S ≤ ((wr.alloc (.cells #[.int .i64 x2, .int .i64 y2] 58)).drew).heap.size := by show S ≤ (World.alloc _ _).heap.size; simp; omega
    generalize (wr.alloc (.cells #[.int .i64 x2, .int .i64 y2] 58)).drew = X0 at *
    refine T_take (k := 0) (v := .pointer (some ⟨P, 3, none⟩)) rfl (by decide +kernel) (fun _ _ _ h => h) (Or.inl ⟨by rfl, fun W hW => by obtain ⟨s0, s1, s2, s3, s4, s5, s6, s7, s8, s9⟩ := hW; go_simp⟩) (HSf.out _ HPa.out HHa.out HKa.out HBa.out) ?_
    try simp only [Act.put, qz0, qz1, qz2]
    refine T_take (k := 1) (v := .slice X j cX) rfl (by decide +kernel) (fun _ _ _ h => h) (Or.inl ⟨by rfl, fun W hW => by obtain ⟨s0, s1, s2, s3, s4, s5, s6, s7, s8, s9⟩ := hW; go_simp⟩) (HSf.out _ HPa.out HHa.out HKa.out HBa.out) ?_
    try simp only [Act.put, qz0, qz1, qz2]
    refine T_take (k := 2) (v := .slice (some ⟨bB, oB, none⟩) (m + 1) cB) rfl (by decide +kernel) (fun _ _ _ h => h) (Or.inl ⟨by rfl, fun W hW => by obtain ⟨s0, s1, s2, s3, s4, s5, s6, s7, s8, s9⟩ := hW; go_simp⟩) (HSf.out _ HPa.out HHa.out HKa.out HBa.out) ?_
    try simp only [Act.put, qz0, qz1, qz2]
    refine T_take (k := 3) (v := .int .i64 (j : Int)) rfl (by decide +kernel) (fun _ _ _ h => h) (Or.inl ⟨by rfl, fun W hW => by obtain ⟨s0, s1, s2, s3, s4, s5, s6, s7, s8, s9⟩ := hW; go_simp⟩) (HSf.out _ HPa.out HHa.out HKa.out HBa.out) ?_
    try simp only [Act.put, qz0, qz1, qz2]
    refine T_take (k := 4) (v := .pointer (some ⟨bB, oB + j * 2, none⟩)) rfl (by decide +kernel) (fun _ _ _ h => h) (Or.inl ⟨by rfl, fun W hW => by obtain ⟨s0, s1, s2, s3, s4, s5, s6, s7, s8, s9⟩ := hW; go_simp⟩) (HSf.out _ HPa.out HHa.out HKa.out HBa.out) ?_
    try simp only [Act.put, qz0, qz1, qz2]
    refine T_take (k := 5) (v := .agg #[.int .i64 x1, .int .i64 y1]) rfl (by decide +kernel) (fun _ _ _ h => h) (Or.inl ⟨by rfl, fun W hW => by obtain ⟨s0, s1, s2, s3, s4, s5, s6, s7, s8, s9⟩ := hW; go_simp⟩) (HSf.out _ HPa.out HHa.out HKa.out HBa.out) ?_
    try simp only [Act.put, qz0, qz1, qz2]
    refine T_take (k := 6) (v := .agg #[.int .i64 x2, .int .i64 y2]) rfl (by decide +kernel) (fun _ _ _ h => h) (Or.inl ⟨by rfl, fun W hW => by obtain ⟨s0, s1, s2, s3, s4, s5, s6, s7, s8, s9⟩ := hW; go_simp⟩) (HSf.out _ HPa.out HHa.out HKa.out HBa.out) ?_
    try simp only [Act.put, qz0, qz1, qz2]
    refine T_take (k := 7) (v := .agg #[.int .i64 x1, .int .i64 y1, .int .i64 x2, .int .i64 y2]) rfl (by decide +kernel) (fun _ _ _ h => h) (Or.inl ⟨by rfl, fun W hW => by obtain ⟨s0, s1, s2, s3, s4, s5, s6, s7, s8, s9⟩ := hW; go_simp⟩) (HSf.out _ HPa.out HHa.out HKa.out HBa.out) ?_
    try simp only [Act.put, qz0, qz1, qz2]
    refine T_take (k := 8) (v := .agg #[.int .i64 k, .int .i64 of, .int .i64 fr, .int .i64 til, .int .i64 de]) rfl (by decide +kernel) (fun _ _ _ h => h) (Or.inl ⟨by rfl, fun W hW => by obtain ⟨s0, s1, s2, s3, s4, s5, s6, s7, s8, s9⟩ := hW; go_simp⟩) (HSf.out _ HPa.out HHa.out HKa.out HBa.out) ?_
    try simp only [Act.put, qz0, qz1, qz2]
    refine T_one (i := 9) (by decide +kernel) rfl rfl (fun K hK9 => ?_)
    have hK9 := Lib.hid hK9
    go_simp
    have HPb := Lib.hid (HPa.out.alloc (.cells #[.int .i64 k, .int .i64 of, .int .i64 fr, .int .i64 til, .int .i64 de] 41))
    have HHb := Lib.hid (HHa.out.alloc (.cells #[.int .i64 k, .int .i64 of, .int .i64 fr, .int .i64 til, .int .i64 de] 41))
    have HKb := Lib.hid (HKa.out.alloc (.cells #[.int .i64 k, .int .i64 of, .int .i64 fr, .int .i64 til, .int .i64 de] 41))
    have HZb := Lib.hid (HZa.out.alloc (.cells #[.int .i64 k, .int .i64 of, .int .i64 fr, .int .i64 til, .int .i64 de] 41))
    have HNb := Lib.hid (HNa.out.alloc (.cells #[.int .i64 k, .int .i64 of, .int .i64 fr, .int .i64 til, .int .i64 de] 41))
    have HOb := Lib.hid (HOa.out.alloc (.cells #[.int .i64 k, .int .i64 of, .int .i64 fr, .int .i64 til, .int .i64 de] 41))
    have HVb := Lib.hid (HVa.out.below ((Below.refl _ _).alloc (Nat.le_refl _) (.cells #[.int .i64 k, .int .i64 of, .int .i64 fr, .int .i64 til, .int .i64 de] 41)))
    have HBb := Lib.hid (HBa.out.alloc HSa (.cells #[.int .i64 k, .int .i64 of, .int .i64 fr, .int .i64 til, .int .i64 de] 41))
    have HSb : S ≤ (X0.alloc (.cells #[.int .i64 k, .int .i64 of, .int .i64 fr, .int .i64 til, .int .i64 de] 41)).heap.size := by simp; omega
    have HCl := Lib.hid (Bk.new X0 41 #[.int .i64 k, .int .i64 of, .int .i64 fr, .int .i64 til, .int .i64 de])
    refine hK9.out _ _ (HSf.out _ HPb.out HHb.out HKb.out HBb.out) ?_
    try simp only [Act.put, qz0, qz1, qz2]
    refine T_take (k := 10) (v := .agg #[.int .i64 x1, .int .i64 y1, .int .i64 x2, .int .i64 y2, .slice (some ⟨X0.heap.size, 0, none⟩) 1 1]) rfl (by decide +kernel) (fun _ _ _ h => h) (Or.inl ⟨by rfl, fun W hW => by obtain ⟨s0, s1, s2, s3, s4, s5, s6, s7, s8, s9⟩ := hW; go_simp⟩) (HSf.out _ HPb.out HHb.out HKb.out HBb.out) ?_
    try simp only [Act.put, qz0, qz1, qz2]
    refine T_one (i := 11) (by decide +kernel) rfl rfl (fun K hK11 => ?_)
    have hK11 := Lib.hid hK11
    go_simp
    have HPc := Lib.hid (HPb.out.alloc (.cells #[.int .i64 x1, .int .i64 y1, .int .i64 x2, .int .i64 y2, .slice (some ⟨X0.heap.size, 0, none⟩) 1 1] 62))
    have HHc := Lib.hid (HHb.out.alloc (.cells #[.int .i64 x1, .int .i64 y1, .int .i64 x2, .int .i64 y2, .slice (some ⟨X0.heap.size, 0, none⟩) 1 1] 62))
    have HKc := Lib.hid (HKb.out.alloc (.cells #[.int .i64 x1, .int .i64 y1, .int .i64 x2, .int .i64 y2, .slice (some ⟨X0.heap.size, 0, none⟩) 1 1] 62))
    have HZc := Lib.hid (HZb.out.alloc (.cells #[.int .i64 x1, .int .i64 y1, .int .i64 x2, .int .i64 y2, .slice (some ⟨X0.heap.size, 0, none⟩) 1 1] 62))
    have HNc := Lib.hid (HNb.out.alloc (.cells #[.int .i64 x1, .int .i64 y1, .int .i64 x2, .int .i64 y2, .slice (some ⟨X0.heap.size, 0, none⟩) 1 1] 62))
    have HOc := Lib.hid (HOb.out.alloc (.cells #[.int .i64 x1, .int .i64 y1, .int .i64 x2, .int .i64 y2, .slice (some ⟨X0.heap.size, 0, none⟩) 1 1] 62))
    have HVc := Lib.hid (HVb.out.below ((Below.refl _ _).alloc (Nat.le_refl _) (.cells #[.int .i64 x1, .int .i64 y1, .int .i64 x2, .int .i64 y2, .slice (some ⟨X0.heap.size, 0, none⟩) 1 1] 62)))
    have HBc := Lib.hid (HBb.out.alloc HSb (.cells #[.int .i64 x1, .int .i64 y1, .int .i64 x2, .int .i64 y2, .slice (some ⟨X0.heap.size, 0, none⟩) 1 1] 62))
    have HSc : S ≤ ((X0.alloc (.cells #[.int .i64 k, .int .i64 of, .int .i64 fr, .int .i64 til, .int .i64 de] 41)).alloc (.cells #[.int .i64 x1, .int .i64 y1, .int .i64 x2, .int .i64 y2, .slice (some ⟨X0.heap.size, 0, none⟩) 1 1] 62)).heap.size := by simp; omega
    have HCc := Lib.hid (HCl.out.alloc (.cells #[.int .i64 x1, .int .i64 y1, .int .i64 x2, .int .i64 y2, .slice (some ⟨X0.heap.size, 0, none⟩) 1 1] 62))
    have Hnew := Lib.hid (Bk.new' (X0.alloc (.cells #[.int .i64 k, .int .i64 of, .int .i64 fr, .int .i64 til, .int .i64 de] 41)) 62 #[.int .i64 x1, .int .i64 y1, .int .i64 x2, .int .i64 y2, .slice (some ⟨X0.heap.size, 0, none⟩) 1 1] (g := X0.heap.size + 1) (by simp))
    refine hK11.out _ _ (HSf.out _ HPc.out HHc.out HKc.out HBc.out) ?_
    try simp only [Act.put, qz0, qz1, qz2]
    refine T_one (i := 12) (by decide +kernel) rfl rfl (fun K hK12 => ?_)
    have hK12 := Lib.hid hK12
    refine app_wp3 (us := [.int .i64 x1, .int .i64 y1, .int .i64 x2, .int .i64 y2, .slice (some ⟨X0.heap.size, 0, none⟩) 1 1]) (c := 1) (H := X0.heap.size + 1) (v := .slice X j cX) (.tmp 34) (.tmp 44) rfl elt_stroke.big (by simp [Act.eval]) (by simp [Act.eval]) HOc.out Hnew.out rfl rfl (by omega) HSc ?_
    intro v8 w8 hown8 hg8 hv8
    obtain ⟨X8, c8, rfl⟩ := own_slice hown8
    have HP8 := Lib.hid (HPc.out.grown hg8 (HPc.out.ne_own HOc.out (by decide)))
    have HH8 := Lib.hid (HHc.out.grown hg8 (HHc.out.ne_own HOc.out (by decide)))
    have HK8 := Lib.hid (HKc.out.grown hg8 (HKc.out.ne_own HOc.out (by decide)))
    have HZ8 := Lib.hid (HZc.out.grown hg8 (HZc.out.ne_own HOc.out (by decide)))
    have HC8 := Lib.hid (HCc.out.grown hg8 (HCc.out.ne_own HOc.out (by decide)))
    have HN8 := Lib.hid (own_grown HNc.out hg8 (own_ne HNc.out HOc.out (by decide)))
    have HO8 := Lib.hid hown8
    have HB8 := Lib.hid (HBc.out.grown hg8 HSc (fun q hq => (HOc.out.lt q hq).1))
    have HV8 := Lib.hid ((HVc.out.app HOc.out hg8).snoc (ax := x1) (ay := y1) (bx := x2) (by_ := y2) (c := 1) (cl := [cl]) (show SB w8 41 (some ⟨X0.heap.size, 0, none⟩) ([cl].flatMap clC) from by rw [List.flatMap_cons, Hcl.out]; exact SB.bk HC8.out) (by simp))
    clear hown8 hg8 hv8
    have d4 := HP8.out.frozen 3
    have d3 : w8.cell? ⟨P, 3, none⟩ = some (.slice X j cX) := HP8.out.cell 3
    refine hK12.out _ _ (HSf.out _ HP8.out HH8.out HK8.out HB8.out) ?_
    try simp only [Act.put, qz0, qz1, qz2]
    refine T_take (k := 13) (v := .pointer (some ⟨P, 3, none⟩)) rfl (by decide +kernel) (fun _ _ _ h => h) (Or.inl ⟨by rfl, fun W hW => by obtain ⟨s0, s1, s2, s3, s4, s5, s6, s7, s8, s9⟩ := hW; go_simp⟩) (HSf.out _ HP8.out HH8.out HK8.out HB8.out) ?_
    try simp only [Act.put, qz0, qz1, qz2]
    refine T_last (by decide +kernel) (by decide +kernel) (by decide +kernel) rfl rfl (fun K hKl => ?_)
    have hKl := Lib.hid hKl
    go_simp
    refine hKl.out _ _ (NoPanic.normal ?_)
    try simp only [Act.put, qz0, qz1, qz2]
    clear hKl HSf
    have HP9 := Lib.hid (show Bk (w8.setCell ⟨P, 3, none⟩ (.slice X8 (j + 1) c8)) P 34 #[.int .i64 o, .int .i64 n, .slice N needs.length cN, .slice X8 (j + 1) c8, .slice none 0 0, .slice none 0 0, .slice none 0 0, .slice none 0 0, .slice none 0 0] from HP8.out.set_ 3 _)
    have HK9 := Lib.hid (HK8.out.far (p := ⟨P, 3, none⟩) hSP (.slice X8 (j + 1) c8))
    have HZ9 := Lib.hid (HZ8.out.far (p := ⟨P, 3, none⟩) (by show S + 1 ≠ P; omega) (.slice X8 (j + 1) c8))
    have HN9 := Lib.hid (own_set (i := 3) HN8.out (HP8.out.ne_own HN8.out (by decide)) (.slice X8 (j + 1) c8))
    have HO9 := Lib.hid (own_set (i := 3) HO8.out (HP8.out.ne_own HO8.out (by decide)) (.slice X8 (j + 1) c8))
    have HV9 := Lib.hid (HV8.out.store (i := 3) HP8.out (by decide) (.slice X8 (j + 1) c8))
    have HB9 := Lib.hid (HB8.out.setCell (p := ⟨P, 3, none⟩) (by show S ≤ P; omega) (.slice X8 (j + 1) c8))
    go_wp2_with fail
    go_roundw
    case rel => exact ⟨j + 1, X8, c8, _, by omega, by go_num, HP9, HO9, Lib.hid (by rw [hjt.out]; exact HV9.out), Lib.hid ⟨HK9.out, HZ9.out, HN9.out, HB9.out⟩⟩
    case measure => simp [intOf]; omega
   ·obtain rfl : j = m := by omega
    obtain ⟨HK, HZ, HN, HB⟩ := HF.out
    have hpc : paC (lineP o n needs pts cl) ⟨N, X, none, none, none, none, none, cN, cX, 0, 0, 0, 0, 0⟩ = #[.int .i64 o, .int .i64 n, .slice N needs.length cN, .slice X j cX, .slice none 0 0, .slice none 0 0, .slice none 0 0, .slice none 0 0, .slice none 0 0] := by
     have e : pts.length - 1 = j := by have := hm.out; omega
     simp only [paC, lineP, e, segs_len]; rfl
    have HPB := Lib.hid (show PB wr (lineP o n needs pts cl) ⟨N, X, none, none, none, none, none, cN, cX, 0, 0, 0, 0, 0⟩ from by
     have e : pts.length - 1 = j := by have := hm.out; omega
     refine ⟨SB.own HN, ⟨vs, SB.own HO.out, ?_⟩, .inl rfl, .inl rfl, .inl rfl, .inl rfl, .inl rfl⟩
     show SV wr vs (segs pts cl (pts.length - 1))
     rw [e]; exact HV.out)
    have HCv := patchValid_any (lineP o n needs pts cl) _ wr HPB.out.pt ⟨by show needs.length ≤ _; omega, by show (segs pts cl (pts.length - 1)).length ≤ _; rw [segs_len]; have := hm.out; omega, by simp [lineP], by simp [lineP], by simp [lineP], by simp [lineP], by simp [lineP], by simp [lineP]⟩
    rw [hpc, hR.out] at HCv
    have HCV := Lib.hid HCv
    have HP0 := Lib.hid HP.out
    have HZ0 := Lib.hid HZ
    have HBw := Lib.hid HB
    have g0 : wr.cell? ⟨P, 0, none⟩ = some (.int .i64 o) := HP.out.cell 0
    have g1 : wr.cell? ⟨P, 1, none⟩ = some (.int .i64 n) := HP.out.cell 1
    have g2 : wr.cell? ⟨P, 2, none⟩ = some (.slice N needs.length cN) := HP.out.cell 2
    have g3 : wr.cell? ⟨P, 3, none⟩ = some (.slice X j cX) := HP.out.cell 3
    have g4 : wr.cell? ⟨P, 4, none⟩ = some (.slice none 0 0) := HP.out.cell 4
    have g5 : wr.cell? ⟨P, 5, none⟩ = some (.slice none 0 0) := HP.out.cell 5
    have g6 : wr.cell? ⟨P, 6, none⟩ = some (.slice none 0 0) := HP.out.cell 6
    have g7 : wr.cell? ⟨P, 7, none⟩ = some (.slice none 0 0) := HP.out.cell 7
    have g8 : wr.cell? ⟨P, 8, none⟩ = some (.slice none 0 0) := HP.out.cell 8
    clear HK HZ HN HB HF HCv HP HO HV
    go_wp2_with fail
    refine HCV.out.mono ?_
    rintro e w3 ⟨rfl, hb3⟩
    have HP3 := Lib.hid (HP0.out.below hb3 HP0.out.lt)
    have HZ3 := Lib.hid (HZ0.out.below hb3 HZ0.out.lt)
    have HPB3 := Lib.hid (HPB.out.below hb3)
    have HB3 := Lib.hid (HBw.out.trans (hb3.mono (by have := HBw.out.size; rw [hS.out] at this; exact this)))
    clear hb3 HCV HP0 HZ0 HPB HBw g0 g1 g2 g3 g4 g5 g6 g7 g8
    by_cases f1 : R = 0
    ·have b1 : (R != 0) = false := by simp [f1]
     have y0 : w3.cell? ⟨P, 0, none⟩ = some (.int .i64 o) := HP3.out.cell 0
     have y1 : w3.cell? ⟨P, 1, none⟩ = some (.int .i64 n) := HP3.out.cell 1
     have y2 : w3.cell? ⟨P, 2, none⟩ = some (.slice N needs.length cN) := HP3.out.cell 2
     have y3 : w3.cell? ⟨P, 3, none⟩ = some (.slice X j cX) := HP3.out.cell 3
     have y4 : w3.cell? ⟨P, 4, none⟩ = some (.slice none 0 0) := HP3.out.cell 4
     have y5 : w3.cell? ⟨P, 5, none⟩ = some (.slice none 0 0) := HP3.out.cell 5
     have y6 : w3.cell? ⟨P, 6, none⟩ = some (.slice none 0 0) := HP3.out.cell 6
     have y7 : w3.cell? ⟨P, 7, none⟩ = some (.slice none 0 0) := HP3.out.cell 7
     have y8 : w3.cell? ⟨P, 8, none⟩ = some (.slice none 0 0) := HP3.out.cell 8
     have z0 : w3.cell? ⟨S + 1, 0, none⟩ = some (.int .i64 0) := HZ3.out.cell 0
     have q0 := HZ3.out.frozen 0
     have z1 : w3.cell? ⟨S + 1, 1, none⟩ = some (.int .i64 0) := HZ3.out.cell 1
     have q1 := HZ3.out.frozen 1
     have z2 : w3.cell? ⟨S + 1, 2, none⟩ = some (.slice none 0 0) := HZ3.out.cell 2
     have q2 := HZ3.out.frozen 2
     have z3 : w3.cell? ⟨S + 1, 3, none⟩ = some (.slice none 0 0) := HZ3.out.cell 3
     have q3 := HZ3.out.frozen 3
     have z4 : w3.cell? ⟨S + 1, 4, none⟩ = some (.slice none 0 0) := HZ3.out.cell 4
     have q4 := HZ3.out.frozen 4
     have z5 : w3.cell? ⟨S + 1, 5, none⟩ = some (.slice none 0 0) := HZ3.out.cell 5
     have q5 := HZ3.out.frozen 5
     have z6 : w3.cell? ⟨S + 1, 6, none⟩ = some (.slice none 0 0) := HZ3.out.cell 6
     have q6 := HZ3.out.frozen 6
     have z7 : w3.cell? ⟨S + 1, 7, none⟩ = some (.slice none 0 0) := HZ3.out.cell 7
     have q7 := HZ3.out.frozen 7
     have z8 : w3.cell? ⟨S + 1, 8, none⟩ = some (.slice none 0 0) := HZ3.out.cell 8
     have q8 := HZ3.out.frozen 8
     have hvv := Lib.hid (show V = lineP o n needs pts cl from by rw [hV2.out, if_pos f1])
     have hf := Lib.hid f1
     clear f1
     have HZy1 := Lib.hid (HZ3.out.set_ 0 (.int .i64 o))
     have HZy2 := Lib.hid (HZy1.out.set_ 1 (.int .i64 n))
     have HZy3 := Lib.hid (HZy2.out.set_ 2 (.slice N needs.length cN))
     have HZy4 := Lib.hid (HZy3.out.set_ 3 (.slice X j cX))
     have HZy5 := Lib.hid (HZy4.out.set_ 4 (.slice none 0 0))
     have HZy6 := Lib.hid (HZy5.out.set_ 5 (.slice none 0 0))
     have HZy7 := Lib.hid (HZy6.out.set_ 6 (.slice none 0 0))
     have HZy8 := Lib.hid (HZy7.out.set_ 7 (.slice none 0 0))
     have HZy9 := Lib.hid (HZy8.out.set_ 8 (.slice none 0 0))
     have HBy1 := Lib.hid (HB3.out.setCell (p := ⟨S + 1, 0, none⟩) (by show S ≤ S + 1; omega) (.int .i64 o))
     have HBy2 := Lib.hid (HBy1.out.setCell (p := ⟨S + 1, 1, none⟩) (by show S ≤ S + 1; omega) (.int .i64 n))
     have HBy3 := Lib.hid (HBy2.out.setCell (p := ⟨S + 1, 2, none⟩) (by show S ≤ S + 1; omega) (.slice N needs.length cN))
     have HBy4 := Lib.hid (HBy3.out.setCell (p := ⟨S + 1, 3, none⟩) (by show S ≤ S + 1; omega) (.slice X j cX))
     have HBy5 := Lib.hid (HBy4.out.setCell (p := ⟨S + 1, 4, none⟩) (by show S ≤ S + 1; omega) (.slice none 0 0))
     have HBy6 := Lib.hid (HBy5.out.setCell (p := ⟨S + 1, 5, none⟩) (by show S ≤ S + 1; omega) (.slice none 0 0))
     have HBy7 := Lib.hid (HBy6.out.setCell (p := ⟨S + 1, 6, none⟩) (by show S ≤ S + 1; omega) (.slice none 0 0))
     have HBy8 := Lib.hid (HBy7.out.setCell (p := ⟨S + 1, 7, none⟩) (by show S ≤ S + 1; omega) (.slice none 0 0))
     have HBy9 := Lib.hid (HBy8.out.setCell (p := ⟨S + 1, 8, none⟩) (by show S ≤ S + 1; omega) (.slice none 0 0))
     have HPy1 := Lib.hid (HPB3.out.store (i := 0) HZ3.out (by decide) (.int .i64 o))
     have HPy2 := Lib.hid (HPy1.out.store (i := 1) HZy1.out (by decide) (.int .i64 n))
     have HPy3 := Lib.hid (HPy2.out.store (i := 2) HZy2.out (by decide) (.slice N needs.length cN))
     have HPy4 := Lib.hid (HPy3.out.store (i := 3) HZy3.out (by decide) (.slice X j cX))
     have HPy5 := Lib.hid (HPy4.out.store (i := 4) HZy4.out (by decide) (.slice none 0 0))
     have HPy6 := Lib.hid (HPy5.out.store (i := 5) HZy5.out (by decide) (.slice none 0 0))
     have HPy7 := Lib.hid (HPy6.out.store (i := 6) HZy6.out (by decide) (.slice none 0 0))
     have HPy8 := Lib.hid (HPy7.out.store (i := 7) HZy7.out (by decide) (.slice none 0 0))
     have HPy9 := Lib.hid (HPy8.out.store (i := 8) HZy8.out (by decide) (.slice none 0 0))
     have HZz := Lib.hid (show Bk _ (S + 1) 34 #[.int .i64 o, .int .i64 n, .slice N needs.length cN, .slice X j cX, .slice none 0 0, .slice none 0 0, .slice none 0 0, .slice none 0 0, .slice none 0 0] from HZy9.out)
     go_wp2_with fail
     have r0 := HZz.out.cell 0
     have r1 := HZz.out.cell 1
     have r2 := HZz.out.cell 2
     have r3 := HZz.out.cell 3
     have r4 := HZz.out.cell 4
     have r5 := HZz.out.cell 5
     have r6 := HZz.out.cell 6
     have r7 := HZz.out.cell 7
     have r8 := HZz.out.cell 8
     simp only [List.getElem?_toArray, List.getElem?_cons_zero, List.getElem?_cons_succ] at r0 r1 r2 r3 r4 r5 r6 r7 r8
     refine bodyPost_ret (v := .tuple #[.agg #[.int .i64 o, .int .i64 n, .slice N needs.length cN, .slice X j cX, .slice none 0 0, .slice none 0 0, .slice none 0 0, .slice none 0 0, .slice none 0 0], .int .i64 0]) (by simp [results, Tryz.results18, go_sem, r0, r1, r2, r3, r4, r5, r6, r7, r8]) rfl ⟨by rw [hS.out]; exact HBy9.out, ⟨N, X, none, none, none, none, none, cN, cX, 0, 0, 0, 0, 0⟩, by rw [hvv.out]; exact HPy9.out, by rw [hvv.out, hpc, hf.out]⟩
    ·have b1 : (R != 0) = true := by simp [f1]
     have z0 : w3.cell? ⟨S + 1, 0, none⟩ = some (.int .i64 0) := HZ3.out.cell 0
     have z1 : w3.cell? ⟨S + 1, 1, none⟩ = some (.int .i64 0) := HZ3.out.cell 1
     have z2 : w3.cell? ⟨S + 1, 2, none⟩ = some (.slice none 0 0) := HZ3.out.cell 2
     have z3 : w3.cell? ⟨S + 1, 3, none⟩ = some (.slice none 0 0) := HZ3.out.cell 3
     have z4 : w3.cell? ⟨S + 1, 4, none⟩ = some (.slice none 0 0) := HZ3.out.cell 4
     have z5 : w3.cell? ⟨S + 1, 5, none⟩ = some (.slice none 0 0) := HZ3.out.cell 5
     have z6 : w3.cell? ⟨S + 1, 6, none⟩ = some (.slice none 0 0) := HZ3.out.cell 6
     have z7 : w3.cell? ⟨S + 1, 7, none⟩ = some (.slice none 0 0) := HZ3.out.cell 7
     have z8 : w3.cell? ⟨S + 1, 8, none⟩ = some (.slice none 0 0) := HZ3.out.cell 8
     have q0 := HZ3.out.frozen 0; have q1 := HZ3.out.frozen 1; have q2 := HZ3.out.frozen 2; have q3 := HZ3.out.frozen 3; have q4 := HZ3.out.frozen 4; have q5 := HZ3.out.frozen 5; have q6 := HZ3.out.frozen 6; have q7 := HZ3.out.frozen 7; have q8 := HZ3.out.frozen 8
     have hvv := Lib.hid (show V = paZ from by rw [hV2.out, if_neg f1])
     clear f1 hpc
     have HZy1 := Lib.hid (HZ3.out.set_ 0 (.int .i64 0))
     have HZy2 := Lib.hid (HZy1.out.set_ 1 (.int .i64 0))
     have HZy3 := Lib.hid (HZy2.out.set_ 2 (.slice none 0 0))
     have HZy4 := Lib.hid (HZy3.out.set_ 3 (.slice none 0 0))
     have HZy5 := Lib.hid (HZy4.out.set_ 4 (.slice none 0 0))
     have HZy6 := Lib.hid (HZy5.out.set_ 5 (.slice none 0 0))
     have HZy7 := Lib.hid (HZy6.out.set_ 6 (.slice none 0 0))
     have HZy8 := Lib.hid (HZy7.out.set_ 7 (.slice none 0 0))
     have HZy9 := Lib.hid (HZy8.out.set_ 8 (.slice none 0 0))
     have HBy1 := Lib.hid (HB3.out.setCell (p := ⟨S + 1, 0, none⟩) (by show S ≤ S + 1; omega) (.int .i64 0))
     have HBy2 := Lib.hid (HBy1.out.setCell (p := ⟨S + 1, 1, none⟩) (by show S ≤ S + 1; omega) (.int .i64 0))
     have HBy3 := Lib.hid (HBy2.out.setCell (p := ⟨S + 1, 2, none⟩) (by show S ≤ S + 1; omega) (.slice none 0 0))
     have HBy4 := Lib.hid (HBy3.out.setCell (p := ⟨S + 1, 3, none⟩) (by show S ≤ S + 1; omega) (.slice none 0 0))
     have HBy5 := Lib.hid (HBy4.out.setCell (p := ⟨S + 1, 4, none⟩) (by show S ≤ S + 1; omega) (.slice none 0 0))
     have HBy6 := Lib.hid (HBy5.out.setCell (p := ⟨S + 1, 5, none⟩) (by show S ≤ S + 1; omega) (.slice none 0 0))
     have HBy7 := Lib.hid (HBy6.out.setCell (p := ⟨S + 1, 6, none⟩) (by show S ≤ S + 1; omega) (.slice none 0 0))
     have HBy8 := Lib.hid (HBy7.out.setCell (p := ⟨S + 1, 7, none⟩) (by show S ≤ S + 1; omega) (.slice none 0 0))
     have HBy9 := Lib.hid (HBy8.out.setCell (p := ⟨S + 1, 8, none⟩) (by show S ≤ S + 1; omega) (.slice none 0 0))
     have HZz := Lib.hid (show Bk _ (S + 1) 34 #[.int .i64 0, .int .i64 0, .slice none 0 0, .slice none 0 0, .slice none 0 0, .slice none 0 0, .slice none 0 0, .slice none 0 0, .slice none 0 0] from HZy9.out)
     go_wp2_with fail
     have r0 := HZz.out.cell 0
     have r1 := HZz.out.cell 1
     have r2 := HZz.out.cell 2
     have r3 := HZz.out.cell 3
     have r4 := HZz.out.cell 4
     have r5 := HZz.out.cell 5
     have r6 := HZz.out.cell 6
     have r7 := HZz.out.cell 7
     have r8 := HZz.out.cell 8
     simp only [List.getElem?_toArray, List.getElem?_cons_zero, List.getElem?_cons_succ] at r0 r1 r2 r3 r4 r5 r6 r7 r8
     refine bodyPost_ret (v := .tuple #[.agg #[.int .i64 0, .int .i64 0, .slice none 0 0, .slice none 0 0, .slice none 0 0, .slice none 0 0, .slice none 0 0, .slice none 0 0, .slice none 0 0], .int .i64 R]) (by simp [results, Tryz.results18, go_sem, r0, r1, r2, r3, r4, r5, r6, r7, r8]) rfl ⟨by rw [hS.out]; exact HBy9.out, pwZ, by rw [hvv.out]; exact PB.zero _, by rw [hvv.out]; rfl⟩
end Go.Proofs.YtnapnkmehnabfaaGreat
