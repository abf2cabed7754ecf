import Derived.Test.YtnapnkmehnabfaaGreatP46
import Derived.Test.YtnapnkmehnabfaaGreatP48
namespace Go.Proofs.YtnapnkmehnabfaaGreat
open Go.RowKit Go.Maps

theorem grown_row {a b c : World} {m row : Option Nat} (h : a.grownBy b m) (hg : b.grownBy c row) (hr : ∀ r, row = some r → a.heap.size ≤ r) : a.grownBy c m :=
 ⟨hg.os.trans h.os, hg.tape.trans h.tape, hg.output.trans h.output, Nat.le_trans h.size hg.size, fun j hj hm => (hg.block j (Nat.lt_of_lt_of_le hj h.size) (fun e => by have := hr j e.symm; omega)).trans (h.block j hj hm)⟩
theorem MK.row {w0 w w' : World} {M base n size : Nat} {e : TypeId} {v : Value} {xs : List Value} {A : Option Addr} {c : Nat} {l : List Int} {at_ : Nat} {va vi : Value} (h : MK w0 w M A c l at_ va vi) (hown : w.ownsRow base e size v n xs) (he : e ≠ 98) (hg : w.grownBy w' v.ownBlock) (hb : w0.heap.size ≤ base) : MK w0 w' M A c l at_ va vi :=
 ⟨h.bk.grown hg (h.bk.ne_own hown he), h.below.grown hg h.below.size (fun k e => Nat.le_trans hb (hown.lt k e).1), h.m, h.si, h.l⟩
/-- What holds while strokes are drawn: the patch at S, the result at S + 1, the claim at C. -/
structure DW (w0 w wr : World) (M S C : Nat) (A : Option Addr) (c : Nat) (l : List Int) (at_ : Nat) (va vi : Value) (o num : Int) (X : Option Addr) (cX k : Nat) (vs : List Value) (sts : List Sk) (G : Option Addr) (sg : List Sg) (k1 o1 f1 t1 d1 : Int) : Prop where
 mm : MK w0 wr M A c l at_ va vi
 s : Bk wr S 34 #[.int .i64 o, .int .i64 num, .slice none 0 0, .slice X k cX, .slice none 0 0, .slice none 0 0, .slice none 0 0, .slice none 0 0, .slice none 0 0]
 z : Bk wr (S + 1) 34 #[.int .i64 0, .int .i64 0, .slice none 0 0, .slice none 0 0, .slice none 0 0, .slice none 0 0, .slice none 0 0, .slice none 0 0, .slice none 0 0]
 cb : Bk wr C 41 #[.int .i64 k1, .int .i64 o1, .int .i64 f1, .int .i64 t1, .int .i64 d1]
 sg : SB wr 60 G (sgC sg)
 own : wr.ownsRow w.heap.size 62 5 (.slice X k cX) k vs
 sv : SV wr vs sts
 g : w.grownBy wr (some M)
section
variable {w0 w wr : World} {M S C : Nat} {A : Option Addr} {c : Nat} {l : List Int} {at_ : Nat} {va vi : Value} {o num : Int} {X : Option Addr} {cX k : Nat} {vs : List Value} {sts : List Sk} {G : Option Addr} {sg : List Sg} {k1 o1 f1 t1 d1 : Int}
theorem DW.keep {w' : World} (h : DW w0 w wr M S C A c l at_ va vi o num X cX k vs sts G sg k1 o1 f1 t1 d1) (hb : Below wr.heap.size wr w') : DW w0 w w' M S C A c l at_ va vi o num X cX k vs sts G sg k1 o1 f1 t1 d1 :=
 ⟨h.mm.keep hb, h.s.below hb h.s.lt, h.z.below hb h.z.lt, h.cb.below hb h.cb.lt, h.sg.below hb, own_below h.own hb, h.sv.below hb, grown_trans h.g (grown_below hb _)⟩
theorem DW.alloc (h : DW w0 w wr M S C A c l at_ va vi o num X cX k vs sts G sg k1 o1 f1 t1 d1) (ob : Obj) : DW w0 w (wr.alloc ob) M S C A c l at_ va vi o num X cX k vs sts G sg k1 o1 f1 t1 d1 := h.keep ((Below.refl _ _).alloc (Nat.le_refl _) ob)
theorem DW.next {w' : World} {at2 : Nat} (h : DW w0 w wr M S C A c l at_ va vi o num X cX k vs sts G sg k1 o1 f1 t1 d1) (hm : MK w0 w' M A c l at2 va vi) (hg : wr.grownBy w' (some M)) : DW w0 w w' M S C A c l at2 va vi o num X cX k vs sts G sg k1 o1 f1 t1 d1 :=
 ⟨hm, h.s.grown hg (fun e => h.mm.bk.ne_ h.s (by decide) (Option.some.inj e).symm), h.z.grown hg (fun e => h.mm.bk.ne_ h.z (by decide) (Option.some.inj e).symm), h.cb.grown hg (fun e => h.mm.bk.ne_ h.cb (by decide) (Option.some.inj e).symm),
  h.sg.grown hg (fun r e => by cases e; exact ⟨_, _, h.mm.bk, by decide⟩), own_grown h.own hg (.inr (fun e => h.mm.bk.ne_own h.own (by decide) e.symm)), h.sv.grown hg (fun r e => by cases e; exact ⟨_, _, h.mm.bk, by decide⟩), grown_trans h.g hg⟩
theorem DW.app {w8 : World} {us : List Value} {X8 : Option Addr} {c8 : Nat} {st : List Sk} (h : DW w0 w wr M S C A c l at_ va vi o num X cX k vs sts G sg k1 o1 f1 t1 d1) (hS : w.heap.size ≤ S) (hw0 : w0.heap.size ≤ w.heap.size)
  (hg : wr.grownBy w8 (Value.slice X k cX).ownBlock) (hown : w8.ownsRow w.heap.size 62 5 (.slice X8 (k + 1) c8) (k + 1) (vs ++ us)) (hsv : SV w8 vs sts → SV w8 (vs ++ us) st) :
  DW w0 w (w8.setCell ⟨S, 3, none⟩ (.slice X8 (k + 1) c8)) M S C A c l at_ va vi o num X8 c8 (k + 1) (vs ++ us) st G sg k1 o1 f1 t1 d1 := by
 have m1 := h.mm.row h.own (by decide) hg hw0
 have s1 := h.s.grown hg (h.s.ne_own h.own (by decide))
 have z1 := h.z.grown hg (h.z.ne_own h.own (by decide))
 have c1 := h.cb.grown hg (h.cb.ne_own h.own (by decide))
 have g1 : SB w8 60 G (sgC sg) := h.sg.grown hg (fun r e => by obtain ⟨cs, hb⟩ := own_row_bk h.own e; exact ⟨_, cs, hb, by decide⟩)
 have v1 := hsv (h.sv.app h.own hg)
 have y1 := grown_row h.g hg (fun r e => (h.own.lt r e).1)
 have hs := grown_set w8 S 3 (.slice X8 (k + 1) c8)
 refine ⟨m1.grown hs s1 (by decide) (Nat.le_trans hw0 hS), s1.set_ 3 _, z1.far (p := ⟨S, 3, none⟩) (by show S + 1 ≠ S; omega) _, c1.far (p := ⟨S, 3, none⟩) (fun e => s1.ne_ c1 (by decide) e.symm) _, g1.grown hs (fun r e => by cases e; exact ⟨_, _, s1, by decide⟩), own_set (i := 3) hown (s1.ne_own hown (by decide)) _, v1.store s1 (by decide) _, grown_cell y1 hS _⟩
theorem DW.cell {r i : Nat} {cs : Array Value} (h : DW w0 w wr M S C A c l at_ va vi o num X cX k vs sts G sg k1 o1 f1 t1 d1) (hr : Bk wr r 62 cs) (hrn : w.heap.size ≤ r) (hw0 : w0.heap.size ≤ w.heap.size) (hne : some r ≠ (Value.slice X k cX).ownBlock) (u : Value) : DW w0 w (wr.setCell ⟨r, i, none⟩ u) M S C A c l at_ va vi o num X cX k vs sts G sg k1 o1 f1 t1 d1 :=
 ⟨h.mm.grown (grown_set wr r i u) hr (by decide) (Nat.le_trans hw0 hrn), h.s.far (p := ⟨r, i, none⟩) (h.s.ne_ hr (by decide)) u, h.z.far (p := ⟨r, i, none⟩) (h.z.ne_ hr (by decide)) u, h.cb.far (p := ⟨r, i, none⟩) (h.cb.ne_ hr (by decide)) u,
  h.sg.grown (grown_set wr r i u) (fun q e => by cases e; exact ⟨_, _, hr, by decide⟩), own_set (i := i) h.own hne u, h.sv.store hr (by decide) u, grown_cell h.g hrn u⟩
/-- What a patch that is drawn leaves behind. -/
structure DZ (w0 w wr : World) (M : Nat) (A : Option Addr) (c : Nat) (l : List Int) (at_ : Nat) (va vi : Value) (X : Option Addr) (vs : List Value) (sts : List Sk) : Prop where
 mm : MK w0 wr M A c l at_ va vi
 sb : SB wr 62 X vs
 sv : SV wr vs sts
 g : w.grownBy wr (some M)
theorem DZ.cell {r i : Nat} {cs : Array Value} (h : DZ w0 w wr M A c l at_ va vi X vs sts) (hr : Bk wr r 34 cs) (hrn : w.heap.size ≤ r) (hw0 : w0.heap.size ≤ w.heap.size) (u : Value) : DZ w0 w (wr.setCell ⟨r, i, none⟩ u) M A c l at_ va vi X vs sts :=
 ⟨h.mm.grown (grown_set wr r i u) hr (by decide) (Nat.le_trans hw0 hrn), h.sb.grown (grown_set wr r i u) (fun q e => by cases e; exact ⟨_, _, hr, by decide⟩), h.sv.store hr (by decide) u, grown_cell h.g hrn u⟩
end
theorem own_capD {w : World} {base n c size : Nat} {A : Option Addr} {e : TypeId} {vs : List Value} (h : w.ownsRow base e size (.slice A n c) n vs) : n ≤ c := by
 rcases h.2 with ⟨_, h1⟩ | ⟨g, cap, cur, e1, _, _, h1, _⟩
 ·omega
 ·injection e1 with _ _ e3; omega
theorem sk_new {o : Int} {s : Sg} {cl : List Cl} (ho : sgOK s) (hl : cl.length ≤ 1) (hc : ∀ x ∈ cl, clE x = 0 ∧ x.office = o) : skE o ⟨s.ax, s.ay, s.bx, s.by_, cl⟩ = 0 := by
 obtain ⟨⟨h1, h2⟩, ⟨h3, h4⟩, h5⟩ := ho
 unfold near at h1 h2 h3 h4
 have p1 : ptE s.ax s.ay = 0 := by unfold ptE; rw [if_pos (by omega)]
 have p2 : ptE s.bx s.by_ = 0 := by unfold ptE; rw [if_pos (by omega)]
 unfold skE
 dsimp only
 rw [if_neg (by rw [p1, p2]; simp), if_neg h5, if_neg (by omega)]
 refine orE_zeros (fun e he => ?_)
 obtain ⟨i, hi, rfl⟩ := List.mem_map.1 he
 have hil : i < cl.length := List.mem_range.1 hi
 have := hc cl[i] (List.getElem_mem hil)
 rw [clW, List.getElem?_eq_getElem hil]
 dsimp only
 rw [if_neg (by simp [this.1, this.2])]
theorem seg_at {l : List Sg} {w : World} {A : Option Addr} {k : Nat} (h : SL w A (sgC l)) (hk : k < l.length) : ∃ (b o : Nat) (s : Sg), A = some ⟨b, o, none⟩ ∧ w.cell? ⟨b, o + k * 4, none⟩ = some (.int .i64 s.ax) ∧ w.cell? ⟨b, o + k * 4 + 1, none⟩ = some (.int .i64 s.ay) ∧ w.cell? ⟨b, o + k * 4 + 2, none⟩ = some (.int .i64 s.bx) ∧ w.cell? ⟨b, o + k * 4 + 3, none⟩ = some (.int .i64 s.by_) ∧ Hid (l[k]? = some s) := by
 have key : ∀ (l : List Sg) (k : Nat) (t : Sg), l[k]? = some t → (sgC l)[k * 4]? = some (.int .i64 t.ax) ∧ (sgC l)[k * 4 + 1]? = some (.int .i64 t.ay) ∧ (sgC l)[k * 4 + 2]? = some (.int .i64 t.bx) ∧ (sgC l)[k * 4 + 3]? = some (.int .i64 t.by_) := by
  intro l
  induction l with
  | nil => intro k t h; simp at h
  | cons u l ih =>
   intro k t h
   cases k with
   | zero =>
    obtain rfl : u = t := by simpa using h
    exact ⟨rfl, rfl, rfl, rfl⟩
   | succ k =>
    have := ih k t (by simpa using h)
    have e : sgC (u :: l) = .int .i64 u.ax :: .int .i64 u.ay :: .int .i64 u.bx :: .int .i64 u.by_ :: sgC l := rfl
    rw [e, show (k + 1) * 4 = k * 4 + 1 + 1 + 1 + 1 by omega]
    simpa using this
 obtain ⟨h1, h2, h3, h4⟩ := key l k _ (List.getElem?_eq_getElem hk)
 obtain ⟨b, o, e, _, c1⟩ := h _ _ h1
 subst e
 have c2 := SL.two h h1 h2
 have c3 := SL.two h h1 h3
 have c4 := SL.two h h1 h4
 rw [← Nat.add_assoc] at c2 c3 c4
 exact ⟨b, o, _, rfl, c1, c2, c3, c4, Lib.hid (List.getElem?_eq_getElem hk)⟩
set_option linter.unusedSimpArgs false in
set_option maxHeartbeats 8000000 in
set_option maxRecDepth 100000 in
theorem draw_any (w0 w : World) (M : Nat) (A : Option Addr) (c : Nat) (l : List Int) (at_ : Nat) (va vi : Value) (o num : Int) (h : MK w0 w M A c l at_ va vi) (ha : at_ ≤ 10000000) (ho : 0 ≤ o ∧ o ≤ 63) :
  Calls Tryz.prog 143 #[.pointer (some ⟨M, 0, none⟩), .agg #[.int .i64 o, .int .i64 num, .slice none 0 0, .slice none 0 0, .slice none 0 0, .slice none 0 0, .slice none 0 0, .slice none 0 0, .slice none 0 0]] w fun e w' => ∃ (sts : List Sk) (X : Option Addr) (cX : Nat) (vs : List Value) (at2 : Nat), e = .returned (.agg #[.int .i64 o, .int .i64 num, .slice none 0 0, .slice X sts.length cX, .slice none 0 0, .slice none 0 0, .slice none 0 0, .slice none 0 0, .slice none 0 0]) ∧ SB w' 62 X vs ∧ SV w' vs sts ∧ sts.length ≤ 5 ∧ (∀ s ∈ sts, skE o s = 0) ∧ at2 ≤ at_ + 40 ∧ MK w0 w' M A c l at2 va vi ∧ w.grownBy w' (some M) ∧ sts.length ≤ cX := by
 have hw0 := h.below.size
 have hb2 := ((Below.refl w.heap.size w).alloc (Nat.le_refl _) (.cells #[.int .i64 o, .int .i64 num, .slice none 0 0, .slice none 0 0, .slice none 0 0, .slice none 0 0, .slice none 0 0, .slice none 0 0, .slice none 0 0] 34)).alloc (by simp) (.cells #[.int .i64 0, .int .i64 0, .slice none 0 0, .slice none 0 0, .slice none 0 0, .slice none 0 0, .slice none 0 0, .slice none 0 0, .slice none 0 0] 34)
 have HM := Lib.hid (h.keep hb2)
 have HS := Lib.hid ((Bk.new w 34 #[.int .i64 o, .int .i64 num, .slice none 0 0, .slice none 0 0, .slice none 0 0, .slice none 0 0, .slice none 0 0, .slice none 0 0, .slice none 0 0]).alloc (.cells #[.int .i64 0, .int .i64 0, .slice none 0 0, .slice none 0 0, .slice none 0 0, .slice none 0 0, .slice none 0 0, .slice none 0 0, .slice none 0 0] 34))
 have HZ := Lib.hid (Bk.new' (w.alloc (.cells #[.int .i64 o, .int .i64 num, .slice none 0 0, .slice none 0 0, .slice none 0 0, .slice none 0 0, .slice none 0 0, .slice none 0 0, .slice none 0 0] 34)) 34 #[.int .i64 0, .int .i64 0, .slice none 0 0, .slice none 0 0, .slice none 0 0, .slice none 0 0, .slice none 0 0, .slice none 0 0, .slice none 0 0] (g := w.heap.size + 1) (by simp))
 have HG := Lib.hid (grown_below hb2 (some M))
 clear h hb2
 go_enter Tryz.func143, Tryz.ntmps143
 go_wp2_with fail
 refine (next_any w0 _ M A c l at_ va vi 1048576 HM.out (by omega) (by decide) (by decide)).mono ?_
 generalize (w.alloc (.cells #[.int .i64 o, .int .i64 num, .slice none 0 0, .slice none 0 0, .slice none 0 0, .slice none 0 0, .slice none 0 0, .slice none 0 0, .slice none 0 0] 34)).alloc (.cells #[.int .i64 0, .int .i64 0, .slice none 0 0, .slice none 0 0, .slice none 0 0, .slice none 0 0, .slice none 0 0, .slice none 0 0, .slice none 0 0] 34) = W1 at *
 rintro e w2 ⟨x1, rfl, hx1, hm2, hg2⟩
 have HM2 := Lib.hid hm2
 have HS2 := Lib.hid (HS.out.grown hg2 (fun e => HM.out.bk.ne_ HS.out (by decide) (Option.some.inj e).symm))
 have HZ2 := Lib.hid (HZ.out.grown hg2 (fun e => HM.out.bk.ne_ HZ.out (by decide) (Option.some.inj e).symm))
 have HG2 := Lib.hid (grown_trans HG.out hg2)
 clear hm2 hg2 HM HS HZ HG
 go_wp2_with fail
 refine (next_any w0 _ M A c l _ va vi 1048576 HM2.out (by omega) (by decide) (by decide)).mono ?_
 rintro e w3 ⟨x2, rfl, hx2, hm3, hg3⟩
 have HM3 := Lib.hid (hm3.keep ((Below.refl _ _).alloc (Nat.le_refl _) (.cells #[.int .i64 x1, .int .i64 x2, .int .i64 0] 3)))
 have HS3 := Lib.hid ((HS2.out.grown hg3 (fun e => HM2.out.bk.ne_ HS2.out (by decide) (Option.some.inj e).symm)).alloc (.cells #[.int .i64 x1, .int .i64 x2, .int .i64 0] 3))
 have HZ3 := Lib.hid ((HZ2.out.grown hg3 (fun e => HM2.out.bk.ne_ HZ2.out (by decide) (Option.some.inj e).symm)).alloc (.cells #[.int .i64 x1, .int .i64 x2, .int .i64 0] 3))
 have HG3 := Lib.hid (grown_trans (grown_trans HG2.out hg3) (grown_below ((Below.refl _ _).alloc (Nat.le_refl _) (.cells #[.int .i64 x1, .int .i64 x2, .int .i64 0] 3)) (some M)))
 have hxw : W64 [x1, x2, 0] := w64_cons ⟨by omega, by omega⟩ (w64_cons ⟨by omega, by omega⟩ (w64_cons ⟨by omega, by omega⟩ w64_nil))
 have HN := Lib.hid (net_any (some ⟨w3.heap.size, 0, none⟩) 3 [x1, x2, 0] _ (show SI (w3.alloc (.cells #[.int .i64 x1, .int .i64 x2, .int .i64 0] 3)) (some ⟨w3.heap.size, 0, none⟩) [x1, x2, 0] from sl_bk (Bk.new _ _ _)) hxw rfl)
 clear hm3 hg3 HM2 HS2 HZ2 HG2 hxw
 go_wp2_with fail
 refine HN.out.mono ?_
 generalize w3.alloc (.cells #[.int .i64 x1, .int .i64 x2, .int .i64 0] 3) = W3 at *
 rintro e w4 ⟨sg, G, cG, rfl, hgl, hown4, hok, hb4⟩
 have HM4 := Lib.hid (HM3.out.keep hb4)
 have HS4 := Lib.hid (HS3.out.below hb4 HS3.out.lt)
 have HZ4 := Lib.hid (HZ3.out.below hb4 HZ3.out.lt)
 have HG4 := Lib.hid (grown_trans HG3.out (grown_below hb4 _))
 have HB4 := Lib.hid (SB.own hown4)
 have Hok := Lib.hid hok
 clear hown4 hb4 HM3 HS3 HZ3 HG3 HN hok
 go_wp2_with fail
 refine (next_any w0 _ M A c l _ va vi 3 HM4.out (by omega) (by decide) (by decide)).mono ?_
 rintro e w5 ⟨x3, rfl, hx3, hm5, hg5⟩
 have HM5 := Lib.hid hm5
 have HS5 := Lib.hid (HS4.out.grown hg5 (fun e => HM4.out.bk.ne_ HS4.out (by decide) (Option.some.inj e).symm))
 have HZ5 := Lib.hid (HZ4.out.grown hg5 (fun e => HM4.out.bk.ne_ HZ4.out (by decide) (Option.some.inj e).symm))
 have HG5 := Lib.hid (grown_trans HG4.out hg5)
 have HB5 := Lib.hid (HB4.out.grown hg5 (fun r e => by cases e; exact ⟨_, _, HM4.out.bk, by decide⟩))
 clear hm5 hg5 HM4 HS4 HZ4 HG4 HB4
 by_cases h3 : x3 = 0
 ·have b3 : (x3 == 0) = true := by simp [h3]
  clear h3
  go_wp2_with fail
  refine (next_any w0 _ M A c l _ va vi 1048576 HM5.out (by omega) (by decide) (by decide)).mono ?_
  rintro e w6 ⟨x4, rfl, hx4, hm6, hg6⟩
  have HM6 := Lib.hid hm6
  have HS6 := Lib.hid (HS5.out.grown hg6 (fun e => HM5.out.bk.ne_ HS5.out (by decide) (Option.some.inj e).symm))
  have HZ6 := Lib.hid (HZ5.out.grown hg6 (fun e => HM5.out.bk.ne_ HZ5.out (by decide) (Option.some.inj e).symm))
  have HG6 := Lib.hid (grown_trans HG5.out hg6)
  clear hm6 hg6 HM5 HS5 HZ5 HG5 HB5
  go_wp2_with fail
  refine (next_any w0 _ M A c l _ va vi 1048576 HM6.out (by omega) (by decide) (by decide)).mono ?_
  rintro e w7 ⟨x5, rfl, hx5, hm7, hg7⟩
  have HM7 := Lib.hid (hm7.keep ((Below.refl _ _).alloc (Nat.le_refl _) (.cells #[.int .i64 x4, .int .i64 x5] 3)))
  have HS7 := Lib.hid ((HS6.out.grown hg7 (fun e => HM6.out.bk.ne_ HS6.out (by decide) (Option.some.inj e).symm)).alloc (.cells #[.int .i64 x4, .int .i64 x5] 3))
  have HZ7 := Lib.hid ((HZ6.out.grown hg7 (fun e => HM6.out.bk.ne_ HZ6.out (by decide) (Option.some.inj e).symm)).alloc (.cells #[.int .i64 x4, .int .i64 x5] 3))
  have HG7 := Lib.hid (grown_trans (grown_trans HG6.out hg7) (grown_below ((Below.refl _ _).alloc (Nat.le_refl _) (.cells #[.int .i64 x4, .int .i64 x5] 3)) (some M)))
  have hxw : W64 [x4, x5] := w64_cons ⟨by omega, by omega⟩ (w64_cons ⟨by omega, by omega⟩ w64_nil)
  have HN := Lib.hid (segs_any (some ⟨w7.heap.size, 0, none⟩) 2 [x4, x5] _ (show SI (w7.alloc (.cells #[.int .i64 x4, .int .i64 x5] 3)) (some ⟨w7.heap.size, 0, none⟩) [x4, x5] from sl_bk (Bk.new _ _ _)) hxw rfl)
  clear hm7 hg7 HM6 HS6 HZ6 HG6 hxw Hok hgl
  go_wp2_with fail
  refine HN.out.mono ?_
  generalize w7.alloc (.cells #[.int .i64 x4, .int .i64 x5] 3) = W7 at *
  rintro e w8 ⟨sg2, G2, cG2, rfl, hgl, hown8, hok, hb8⟩
  have HM9 := Lib.hid (HM7.out.keep hb8)
  have HS9 := Lib.hid (HS7.out.below hb8 HS7.out.lt)
  have HZ9 := Lib.hid (HZ7.out.below hb8 HZ7.out.lt)
  have HG9 := Lib.hid (grown_trans HG7.out (grown_below hb8 _))
  have HB9 := Lib.hid (SB.own hown8)
  have Hok := Lib.hid hok
  clear hown8 hb8 HM7 HS7 HZ7 HG7 HN hok
  have c0 : w8.cell? ⟨w.heap.size, 0, none⟩ = some (.int .i64 o) := HS9.out.cell 0
  go_wp2_with fail
  refine (mclaim_any w0 _ M A c l _ va vi o HM9.out (by omega) ho).mono ?_
  rintro e wa ⟨k1, f1, t1, d1, rfl, hce, hma, hga⟩
  have HD := Lib.hid (show DW w0 w (wa.alloc (.cells #[.int .i64 k1, .int .i64 o, .int .i64 f1, .int .i64 t1, .int .i64 d1] 41)) M w.heap.size wa.heap.size A c l _ va vi o num none 0 0 [] [] G2 sg2 k1 o f1 t1 d1 from
   ⟨hma.keep ((Below.refl _ _).alloc (Nat.le_refl _) _), (HS9.out.grown hga (fun e => HM9.out.bk.ne_ HS9.out (by decide) (Option.some.inj e).symm)).alloc _, (HZ9.out.grown hga (fun e => HM9.out.bk.ne_ HZ9.out (by decide) (Option.some.inj e).symm)).alloc _, Bk.new _ _ _, (HB9.out.grown hga (fun r e => by cases e; exact ⟨_, _, HM9.out.bk, by decide⟩)).below ((Below.refl _ _).alloc (Nat.le_refl _) _), World.ownsRow_nil _ _ _ _, SV.nil _, grown_trans (grown_trans HG9.out hga) (grown_below ((Below.refl _ _).alloc (Nat.le_refl _) _) _)⟩)
  have Hce := Lib.hid hce
  clear hma hga hce c0 HM9 HS9 HZ9 HG9 HB9
  obtain ⟨ng, hng⟩ : ∃ z, Hid (sg2.length = z) := ⟨_, Lib.hid rfl⟩
  rw [hng.out] at hgl ⊢
  go_wp2_with fail
  generalize wa.alloc (.cells #[.int .i64 k1, .int .i64 o, .int .i64 f1, .int .i64 t1, .int .i64 d1] 41) = Wa at *
  generalize wa.heap.size = C at *
  go_loopw [7] (fun i wr => ∃ (k : Nat) (X : Option Addr) (cX : Nat) (vs : List Value) (sts : List Sk) (at2 : Nat), k ≤ ng ∧ i = .int .i64 (k : Int) ∧ at2 ≤ at_ + 20 + k ∧ Hid (sts.length = k) ∧ Hid (∀ s ∈ sts, skE o s = 0) ∧ Hid (DW w0 w wr M w.heap.size C A c l at2 va vi o num X cX k vs sts G2 sg2 k1 o f1 t1 d1)) (fun i _ => ng - (intOf i).toNat)
  case atStart => exact ⟨0, none, 0, [], [], _, by omega, rfl, by omega, Lib.hid rfl, Lib.hid (by simp), HD⟩
  case round =>
   clear HD
   obtain ⟨k, X, cX, vs, sts, at2, hk, rfl, hat, hsl, Hsk, HD⟩ := hrel
   have k0 : (0 : Int) ≤ (k : Int) := by omega
   by_cases hlt : k < ng
   ·obtain ⟨q, qo, s, hae, c0, c1, c2, c3, hx⟩ := seg_at HD.out.sg.sl (k := k) (by have := hng.out; omega)
    rw [hae]
    have HXs := Lib.hid (Hok.out s (List.mem_of_getElem? hx.out))
    have HDa := Lib.hid (HD.out.alloc (.cells #[.int .i64 s.ax, .int .i64 s.ay, .int .i64 s.bx, .int .i64 s.by_, .slice none 0 0] 62))
    have HBa := Lib.hid (Bk.new wr 62 #[.int .i64 s.ax, .int .i64 s.ay, .int .i64 s.bx, .int .i64 s.by_, .slice none 0 0])
    have hne : some wr.heap.size ≠ (Value.slice X k cX).ownBlock := fun e => by have := (HD.out.own.lt wr.heap.size e.symm).2; omega
    have hbw : w.heap.size ≤ wr.heap.size := HD.out.g.size
    clear hx HD
    go_wp2_with fail
    refine (next_any w0 _ M A c l _ va vi 8 HDa.out.mm (by omega) (by decide) (by decide)).mono ?_
    rintro e w2_ ⟨xq, rfl, hxq, hm2, hg2⟩
    have HD2 := Lib.hid (HDa.out.next hm2 hg2)
    have HB2 := Lib.hid (HBa.out.grown hg2 (fun e => HDa.out.mm.bk.ne_ HBa.out (by decide) (Option.some.inj e).symm))
    obtain ⟨bx_, hbx⟩ : ∃ z, Hid (wr.heap.size = z) := ⟨_, Lib.hid rfl⟩
    rw [hbx.out] at HB2 hne hbw
    simp only [hbx.out]
    clear hm2 hg2 HDa HBa c0 c1 c2 c3
    by_cases hq0 : xq > 0
    ·have b0 : decide (xq > 0) = true := decide_eq_true hq0
     clear hq0
     have cb0 : w2_.cell? ⟨C, 0, none⟩ = some (.int .i64 k1) := HD2.out.cb.cell 0
     have cb1 : w2_.cell? ⟨C, 1, none⟩ = some (.int .i64 o) := HD2.out.cb.cell 1
     have cb2 : w2_.cell? ⟨C, 2, none⟩ = some (.int .i64 f1) := HD2.out.cb.cell 2
     have cb3 : w2_.cell? ⟨C, 3, none⟩ = some (.int .i64 t1) := HD2.out.cb.cell 3
     have cb4 : w2_.cell? ⟨C, 4, none⟩ = some (.int .i64 d1) := HD2.out.cb.cell 4
     have HBb := Lib.hid (HB2.out.alloc (.cells #[.int .i64 k1, .int .i64 o, .int .i64 f1, .int .i64 t1, .int .i64 d1] 41))
     have y0 : (w2_.alloc (.cells #[.int .i64 k1, .int .i64 o, .int .i64 f1, .int .i64 t1, .int .i64 d1] 41)).cell? ⟨bx_, 4, none⟩ = some (.slice none 0 0) := HBb.out.cell 4
     have y1 := HBb.out.frozen 4
     go_upto_region 11 with fail
     have HQ := Lib.hid ((Bk.new w2_ 41 #[.int .i64 k1, .int .i64 o, .int .i64 f1, .int .i64 t1, .int .i64 d1]).far (p := ⟨bx_, 4, none⟩) ((Bk.new w2_ 41 #[.int .i64 k1, .int .i64 o, .int .i64 f1, .int .i64 t1, .int .i64 d1]).ne_ HBb.out (by decide)) (.slice (some ⟨w2_.heap.size, 0, none⟩) 1 1))
     have HD9 := Lib.hid ((HD2.out.alloc (.cells #[.int .i64 k1, .int .i64 o, .int .i64 f1, .int .i64 t1, .int .i64 d1] 41)).cell (i := 4) HBb.out hbw hw0 hne (.slice (some ⟨w2_.heap.size, 0, none⟩) 1 1))
     have HB9 := Lib.hid (show Bk ((w2_.alloc (.cells #[.int .i64 k1, .int .i64 o, .int .i64 f1, .int .i64 t1, .int .i64 d1] 41)).setCell ⟨bx_, 4, none⟩ (.slice (some ⟨w2_.heap.size, 0, none⟩) 1 1)) bx_ 62 #[.int .i64 s.ax, .int .i64 s.ay, .int .i64 s.bx, .int .i64 s.by_, .slice (some ⟨w2_.heap.size, 0, none⟩) 1 1] from HBb.out.set_ 4 _)
     have HSBc := Lib.hid (show SB _ 41 (some ⟨w2_.heap.size, 0, none⟩) (([⟨k1, o, f1, t1, d1⟩] : List Cl).flatMap clC) from SB.bk HQ.out)
     have Hsk2 := Lib.hid (sk_new (o := o) (cl := [⟨k1, o, f1, t1, d1⟩]) HXs.out (by simp) (fun x hx => by rw [List.mem_singleton.1 hx]; exact ⟨Hce.out, rfl⟩))
     clear y0 y1 cb0 cb1 cb2 cb3 cb4 HBb HD2 HB2 HQ
     generalize (w2_.alloc (.cells #[.int .i64 k1, .int .i64 o, .int .i64 f1, .int .i64 t1, .int .i64 d1] 41)).setCell ⟨bx_, 4, none⟩ (.slice (some ⟨w2_.heap.size, 0, none⟩) 1 1) = W9 at *
     generalize w2_.heap.size = q2 at *
     have HO9 := HD9.out.own
     have hsz9 : w.heap.size ≤ W9.heap.size := HD9.out.g.size
     have n0 : W9.cell? ⟨bx_, 0, none⟩ = some (.int .i64 s.ax) := HB9.out.cell 0
     have n1 : W9.cell? ⟨bx_, 1, none⟩ = some (.int .i64 s.ay) := HB9.out.cell 1
     have n2 : W9.cell? ⟨bx_, 2, none⟩ = some (.int .i64 s.bx) := HB9.out.cell 2
     have n3 : W9.cell? ⟨bx_, 3, none⟩ = some (.int .i64 s.by_) := HB9.out.cell 3
     have n4 : W9.cell? ⟨bx_, 4, none⟩ = some (.slice (some ⟨q2, 0, none⟩) 1 1) := HB9.out.cell 4
     have n5 : W9.cell? ⟨w.heap.size, 3, none⟩ = some (.slice X k cX) := HD9.out.s.cell 3
     have hk5 : k < 1099511627776 := by omega
     go_wp2_with (at_builtin; refine wpList_app2 (w := W9) rfl _ _ rfl elt_stroke HO9 hsz9 rfl rfl (by simp) rfl rfl hk5 ?_; intro v8 w8 hown8 hg8 hz8; obtain ⟨X8, c8, rfl⟩ := own_slice hown8; have hs8 := HD9.out.s.grown hg8 (HD9.out.s.ne_own HO9 (by decide)); have p3 : w8.cell? ⟨w.heap.size, 3, none⟩ = some (.slice X k cX) := hs8.cell 3; have p4 := hs8.frozen 3)
     go_roundw
     case rel => exact ⟨k + 1, X8, c8, vs ++ [.int .i64 s.ax, .int .i64 s.ay, .int .i64 s.bx, .int .i64 s.by_, .slice (some ⟨q2, 0, none⟩) 1 1], sts ++ [⟨s.ax, s.ay, s.bx, s.by_, [⟨k1, o, f1, t1, d1⟩]⟩], at2 + 1, by omega, by go_num, by omega, Lib.hid (by rw [List.length_append, hsl.out]; rfl), Lib.hid (fun z hz => (List.mem_append.1 hz).elim (Hsk.out z) (fun h => by rw [List.mem_singleton.1 h]; exact Hsk2.out)), by rw [← hae]; exact Lib.hid (HD9.out.app (Nat.le_refl _) hw0 hg8 hown8 (fun hv => hv.snoc (C := some ⟨q2, 0, none⟩) (c := 1) (cl := [⟨k1, o, f1, t1, d1⟩]) (HSBc.out.grown hg8 (fun r e => by obtain ⟨cs, hb⟩ := own_row_bk HO9 e; exact ⟨_, cs, hb, by decide⟩)) (by simp)))⟩
     case measure => simp [intOf]; omega
    ·have b0 : decide (xq > 0) = false := decide_eq_false hq0
     clear hq0
     go_upto_region 11 with fail
     have HD9 := HD2
     have HB9 := HB2
     have HSBc := Lib.hid (SB.nil w2_ 41 none)
     have Hsk2 := Lib.hid (sk_new (o := o) (cl := []) HXs.out (by simp) (fun x hx => by cases hx))
     clear HD2 HB2
     generalize w2_ = W9 at *
     have HO9 := HD9.out.own
     have hsz9 : w.heap.size ≤ W9.heap.size := HD9.out.g.size
     have n0 : W9.cell? ⟨bx_, 0, none⟩ = some (.int .i64 s.ax) := HB9.out.cell 0
     have n1 : W9.cell? ⟨bx_, 1, none⟩ = some (.int .i64 s.ay) := HB9.out.cell 1
     have n2 : W9.cell? ⟨bx_, 2, none⟩ = some (.int .i64 s.bx) := HB9.out.cell 2
     have n3 : W9.cell? ⟨bx_, 3, none⟩ = some (.int .i64 s.by_) := HB9.out.cell 3
     have n4 : W9.cell? ⟨bx_, 4, none⟩ = some (.slice none 0 0) := HB9.out.cell 4
     have n5 : W9.cell? ⟨w.heap.size, 3, none⟩ = some (.slice X k cX) := HD9.out.s.cell 3
     have hk5 : k < 1099511627776 := by omega
     go_wp2_with (at_builtin; refine wpList_app2 (w := W9) rfl _ _ rfl elt_stroke HO9 hsz9 rfl rfl (by simp) rfl rfl hk5 ?_; intro v8 w8 hown8 hg8 hz8; obtain ⟨X8, c8, rfl⟩ := own_slice hown8; have hs8 := HD9.out.s.grown hg8 (HD9.out.s.ne_own HO9 (by decide)); have p3 : w8.cell? ⟨w.heap.size, 3, none⟩ = some (.slice X k cX) := hs8.cell 3; have p4 := hs8.frozen 3)
     go_roundw
     case rel => exact ⟨k + 1, X8, c8, vs ++ [.int .i64 s.ax, .int .i64 s.ay, .int .i64 s.bx, .int .i64 s.by_, .slice none 0 0], sts ++ [⟨s.ax, s.ay, s.bx, s.by_, []⟩], at2 + 1, by omega, by go_num, by omega, Lib.hid (by rw [List.length_append, hsl.out]; rfl), Lib.hid (fun z hz => (List.mem_append.1 hz).elim (Hsk.out z) (fun h => by rw [List.mem_singleton.1 h]; exact Hsk2.out)), by rw [← hae]; exact Lib.hid (HD9.out.app (Nat.le_refl _) hw0 hg8 hown8 (fun hv => hv.snoc (C := none) (c := 0) (cl := []) (HSBc.out.grown hg8 (fun r e => by obtain ⟨cs, hb⟩ := own_row_bk HO9 e; exact ⟨_, cs, hb, by decide⟩)) (by simp)))⟩
     case measure => simp [intOf]; omega
   ·obtain rfl : k = ng := by omega
    have HF := Lib.hid (show DZ w0 w wr M A c l at2 va vi X vs sts from ⟨HD.out.mm, SB.own HD.out.own, HD.out.sv, HD.out.g⟩)
    have HSz := Lib.hid HD.out.s
    have HZz := Lib.hid HD.out.z
    have hk5 : k ≤ 5 := hgl
    have hcX := own_capD HD.out.own
    clear HD
    have u0 : wr.cell? ⟨w.heap.size, 0, none⟩ = some (.int .i64 o) := HSz.out.cell 0
    have u1 : wr.cell? ⟨w.heap.size, 1, none⟩ = some (.int .i64 num) := HSz.out.cell 1
    have u2 : wr.cell? ⟨w.heap.size, 2, none⟩ = some (.slice none 0 0) := HSz.out.cell 2
    have u3 : wr.cell? ⟨w.heap.size, 3, none⟩ = some (.slice X k cX) := HSz.out.cell 3
    have u4 : wr.cell? ⟨w.heap.size, 4, none⟩ = some (.slice none 0 0) := HSz.out.cell 4
    have u5 : wr.cell? ⟨w.heap.size, 5, none⟩ = some (.slice none 0 0) := HSz.out.cell 5
    have u6 : wr.cell? ⟨w.heap.size, 6, none⟩ = some (.slice none 0 0) := HSz.out.cell 6
    have u7 : wr.cell? ⟨w.heap.size, 7, none⟩ = some (.slice none 0 0) := HSz.out.cell 7
    have u8 : wr.cell? ⟨w.heap.size, 8, none⟩ = some (.slice none 0 0) := HSz.out.cell 8
    have z0 : wr.cell? ⟨w.heap.size + 1, 0, none⟩ = some (.int .i64 0) := HZz.out.cell 0
    have q0 := HZz.out.frozen 0
    have z1 : wr.cell? ⟨w.heap.size + 1, 1, none⟩ = some (.int .i64 0) := HZz.out.cell 1
    have q1 := HZz.out.frozen 1
    have z2 : wr.cell? ⟨w.heap.size + 1, 2, none⟩ = some (.slice none 0 0) := HZz.out.cell 2
    have q2 := HZz.out.frozen 2
    have z3 : wr.cell? ⟨w.heap.size + 1, 3, none⟩ = some (.slice none 0 0) := HZz.out.cell 3
    have q3 := HZz.out.frozen 3
    have z4 : wr.cell? ⟨w.heap.size + 1, 4, none⟩ = some (.slice none 0 0) := HZz.out.cell 4
    have q4 := HZz.out.frozen 4
    have z5 : wr.cell? ⟨w.heap.size + 1, 5, none⟩ = some (.slice none 0 0) := HZz.out.cell 5
    have q5 := HZz.out.frozen 5
    have z6 : wr.cell? ⟨w.heap.size + 1, 6, none⟩ = some (.slice none 0 0) := HZz.out.cell 6
    have q6 := HZz.out.frozen 6
    have z7 : wr.cell? ⟨w.heap.size + 1, 7, none⟩ = some (.slice none 0 0) := HZz.out.cell 7
    have q7 := HZz.out.frozen 7
    have z8 : wr.cell? ⟨w.heap.size + 1, 8, none⟩ = some (.slice none 0 0) := HZz.out.cell 8
    have q8 := HZz.out.frozen 8
    have a0 := HZz.out
    have d0 := HF.out
    have d1 := d0.cell (i := 0) a0 (by omega) hw0 (.int .i64 o)
    have a1 := a0.set_ 0 (.int .i64 o)
    have d2 := d1.cell (i := 1) a1 (by omega) hw0 (.int .i64 num)
    have a2 := a1.set_ 1 (.int .i64 num)
    have d3 := d2.cell (i := 2) a2 (by omega) hw0 (.slice none 0 0)
    have a3 := a2.set_ 2 (.slice none 0 0)
    have d4 := d3.cell (i := 3) a3 (by omega) hw0 (.slice X k cX)
    have a4 := a3.set_ 3 (.slice X k cX)
    have d5 := d4.cell (i := 4) a4 (by omega) hw0 (.slice none 0 0)
    have a5 := a4.set_ 4 (.slice none 0 0)
    have d6 := d5.cell (i := 5) a5 (by omega) hw0 (.slice none 0 0)
    have a6 := a5.set_ 5 (.slice none 0 0)
    have d7 := d6.cell (i := 6) a6 (by omega) hw0 (.slice none 0 0)
    have a7 := a6.set_ 6 (.slice none 0 0)
    have d8 := d7.cell (i := 7) a7 (by omega) hw0 (.slice none 0 0)
    have a8 := a7.set_ 7 (.slice none 0 0)
    have d9 := d8.cell (i := 8) a8 (by omega) hw0 (.slice none 0 0)
    have a9 := a8.set_ 8 (.slice none 0 0)
    have HZf := Lib.hid (show Bk _ (w.heap.size + 1) 34 #[.int .i64 o, .int .i64 num, .slice none 0 0, .slice X k cX, .slice none 0 0, .slice none 0 0, .slice none 0 0, .slice none 0 0, .slice none 0 0] from a9)
    have HFf := Lib.hid d9
    clear a9 d9 a8 d8 a7 d7 a6 d6 a5 d5 a4 d4 a3 d3 a2 d2 a1 d1 a0 d0 HF
    go_wp2_with fail
    have r0 := HZf.out.cell 0
    have r1 := HZf.out.cell 1
    have r2 := HZf.out.cell 2
    have r3 := HZf.out.cell 3
    have r4 := HZf.out.cell 4
    have r5 := HZf.out.cell 5
    have r6 := HZf.out.cell 6
    have r7 := HZf.out.cell 7
    have r8 := HZf.out.cell 8
    simp only [List.getElem?_toArray, List.getElem?_cons_zero, List.getElem?_cons_succ] at r0 r1 r2 r3 r4 r5 r6 r7 r8
    exact bodyPost_ret (v := .agg #[.int .i64 o, .int .i64 num, .slice none 0 0, .slice X k cX, .slice none 0 0, .slice none 0 0, .slice none 0 0, .slice none 0 0, .slice none 0 0]) (by simp [results, Tryz.results143, go_sem, r0, r1, r2, r3, r4, r5, r6, r7, r8]) rfl ⟨sts, X, cX, vs, at2, by rw [hsl.out], HFf.out.sb, HFf.out.sv, by rw [hsl.out]; exact hk5, Hsk.out, by omega, HFf.out.mm, HFf.out.g, by rw [hsl.out]; exact hcX⟩
 ·have b3 : (x3 == 0) = false := by simp [h3]
  clear h3
  have HM9 := HM5
  have HS9 := HS5
  have HZ9 := HZ5
  have HG9 := HG5
  have HB9 := HB5
  clear HM5 HS5 HZ5 HG5 HB5
  have c0 : w5.cell? ⟨w.heap.size, 0, none⟩ = some (.int .i64 o) := HS9.out.cell 0
  go_wp2_with fail
  refine (mclaim_any w0 _ M A c l _ va vi o HM9.out (by omega) ho).mono ?_
  rintro e wa ⟨k1, f1, t1, d1, rfl, hce, hma, hga⟩
  have HD := Lib.hid (show DW w0 w (wa.alloc (.cells #[.int .i64 k1, .int .i64 o, .int .i64 f1, .int .i64 t1, .int .i64 d1] 41)) M w.heap.size wa.heap.size A c l _ va vi o num none 0 0 [] [] G sg k1 o f1 t1 d1 from
   ⟨hma.keep ((Below.refl _ _).alloc (Nat.le_refl _) _), (HS9.out.grown hga (fun e => HM9.out.bk.ne_ HS9.out (by decide) (Option.some.inj e).symm)).alloc _, (HZ9.out.grown hga (fun e => HM9.out.bk.ne_ HZ9.out (by decide) (Option.some.inj e).symm)).alloc _, Bk.new _ _ _, (HB9.out.grown hga (fun r e => by cases e; exact ⟨_, _, HM9.out.bk, by decide⟩)).below ((Below.refl _ _).alloc (Nat.le_refl _) _), World.ownsRow_nil _ _ _ _, SV.nil _, grown_trans (grown_trans HG9.out hga) (grown_below ((Below.refl _ _).alloc (Nat.le_refl _) _) _)⟩)
  have Hce := Lib.hid hce
  clear hma hga hce c0 HM9 HS9 HZ9 HG9 HB9
  obtain ⟨ng, hng⟩ : ∃ z, Hid (sg.length = z) := ⟨_, Lib.hid rfl⟩
  rw [hng.out] at hgl ⊢
  go_wp2_with fail
  generalize wa.alloc (.cells #[.int .i64 k1, .int .i64 o, .int .i64 f1, .int .i64 t1, .int .i64 d1] 41) = Wa at *
  generalize wa.heap.size = C at *
  go_loopw [7] (fun i wr => ∃ (k : Nat) (X : Option Addr) (cX : Nat) (vs : List Value) (sts : List Sk) (at2 : Nat), k ≤ ng ∧ i = .int .i64 (k : Int) ∧ at2 ≤ at_ + 20 + k ∧ Hid (sts.length = k) ∧ Hid (∀ s ∈ sts, skE o s = 0) ∧ Hid (DW w0 w wr M w.heap.size C A c l at2 va vi o num X cX k vs sts G sg k1 o f1 t1 d1)) (fun i _ => ng - (intOf i).toNat)
  case atStart => exact ⟨0, none, 0, [], [], _, by omega, rfl, by omega, Lib.hid rfl, Lib.hid (by simp), HD⟩
  case round =>
   clear HD
   obtain ⟨k, X, cX, vs, sts, at2, hk, rfl, hat, hsl, Hsk, HD⟩ := hrel
   have k0 : (0 : Int) ≤ (k : Int) := by omega
   by_cases hlt : k < ng
   ·obtain ⟨q, qo, s, hae, c0, c1, c2, c3, hx⟩ := seg_at HD.out.sg.sl (k := k) (by have := hng.out; omega)
    rw [hae]
    have HXs := Lib.hid (Hok.out s (List.mem_of_getElem? hx.out))
    have HDa := Lib.hid (HD.out.alloc (.cells #[.int .i64 s.ax, .int .i64 s.ay, .int .i64 s.bx, .int .i64 s.by_, .slice none 0 0] 62))
    have HBa := Lib.hid (Bk.new wr 62 #[.int .i64 s.ax, .int .i64 s.ay, .int .i64 s.bx, .int .i64 s.by_, .slice none 0 0])
    have hne : some wr.heap.size ≠ (Value.slice X k cX).ownBlock := fun e => by have := (HD.out.own.lt wr.heap.size e.symm).2; omega
    have hbw : w.heap.size ≤ wr.heap.size := HD.out.g.size
    clear hx HD
    go_wp2_with fail
    refine (next_any w0 _ M A c l _ va vi 8 HDa.out.mm (by omega) (by decide) (by decide)).mono ?_
    rintro e w2_ ⟨xq, rfl, hxq, hm2, hg2⟩
    have HD2 := Lib.hid (HDa.out.next hm2 hg2)
    have HB2 := Lib.hid (HBa.out.grown hg2 (fun e => HDa.out.mm.bk.ne_ HBa.out (by decide) (Option.some.inj e).symm))
    obtain ⟨bx_, hbx⟩ : ∃ z, Hid (wr.heap.size = z) := ⟨_, Lib.hid rfl⟩
    rw [hbx.out] at HB2 hne hbw
    simp only [hbx.out]
    clear hm2 hg2 HDa HBa c0 c1 c2 c3
    by_cases hq0 : xq > 0
    ·have b0 : decide (xq > 0) = true := decide_eq_true hq0
     clear hq0
     have cb0 : w2_.cell? ⟨C, 0, none⟩ = some (.int .i64 k1) := HD2.out.cb.cell 0
     have cb1 : w2_.cell? ⟨C, 1, none⟩ = some (.int .i64 o) := HD2.out.cb.cell 1
     have cb2 : w2_.cell? ⟨C, 2, none⟩ = some (.int .i64 f1) := HD2.out.cb.cell 2
     have cb3 : w2_.cell? ⟨C, 3, none⟩ = some (.int .i64 t1) := HD2.out.cb.cell 3
     have cb4 : w2_.cell? ⟨C, 4, none⟩ = some (.int .i64 d1) := HD2.out.cb.cell 4
     have HBb := Lib.hid (HB2.out.alloc (.cells #[.int .i64 k1, .int .i64 o, .int .i64 f1, .int .i64 t1, .int .i64 d1] 41))
     have y0 : (w2_.alloc (.cells #[.int .i64 k1, .int .i64 o, .int .i64 f1, .int .i64 t1, .int .i64 d1] 41)).cell? ⟨bx_, 4, none⟩ = some (.slice none 0 0) := HBb.out.cell 4
     have y1 := HBb.out.frozen 4
     go_upto_region 11 with fail
     have HQ := Lib.hid ((Bk.new w2_ 41 #[.int .i64 k1, .int .i64 o, .int .i64 f1, .int .i64 t1, .int .i64 d1]).far (p := ⟨bx_, 4, none⟩) ((Bk.new w2_ 41 #[.int .i64 k1, .int .i64 o, .int .i64 f1, .int .i64 t1, .int .i64 d1]).ne_ HBb.out (by decide)) (.slice (some ⟨w2_.heap.size, 0, none⟩) 1 1))
     have HD9 := Lib.hid ((HD2.out.alloc (.cells #[.int .i64 k1, .int .i64 o, .int .i64 f1, .int .i64 t1, .int .i64 d1] 41)).cell (i := 4) HBb.out hbw hw0 hne (.slice (some ⟨w2_.heap.size, 0, none⟩) 1 1))
     have HB9 := Lib.hid (show Bk ((w2_.alloc (.cells #[.int .i64 k1, .int .i64 o, .int .i64 f1, .int .i64 t1, .int .i64 d1] 41)).setCell ⟨bx_, 4, none⟩ (.slice (some ⟨w2_.heap.size, 0, none⟩) 1 1)) bx_ 62 #[.int .i64 s.ax, .int .i64 s.ay, .int .i64 s.bx, .int .i64 s.by_, .slice (some ⟨w2_.heap.size, 0, none⟩) 1 1] from HBb.out.set_ 4 _)
     have HSBc := Lib.hid (show SB _ 41 (some ⟨w2_.heap.size, 0, none⟩) (([⟨k1, o, f1, t1, d1⟩] : List Cl).flatMap clC) from SB.bk HQ.out)
     have Hsk2 := Lib.hid (sk_new (o := o) (cl := [⟨k1, o, f1, t1, d1⟩]) HXs.out (by simp) (fun x hx => by rw [List.mem_singleton.1 hx]; exact ⟨Hce.out, rfl⟩))
     clear y0 y1 cb0 cb1 cb2 cb3 cb4 HBb HD2 HB2 HQ
     generalize (w2_.alloc (.cells #[.int .i64 k1, .int .i64 o, .int .i64 f1, .int .i64 t1, .int .i64 d1] 41)).setCell ⟨bx_, 4, none⟩ (.slice (some ⟨w2_.heap.size, 0, none⟩) 1 1) = W9 at *
     generalize w2_.heap.size = q2 at *
     have HO9 := HD9.out.own
     have hsz9 : w.heap.size ≤ W9.heap.size := HD9.out.g.size
     have n0 : W9.cell? ⟨bx_, 0, none⟩ = some (.int .i64 s.ax) := HB9.out.cell 0
     have n1 : W9.cell? ⟨bx_, 1, none⟩ = some (.int .i64 s.ay) := HB9.out.cell 1
     have n2 : W9.cell? ⟨bx_, 2, none⟩ = some (.int .i64 s.bx) := HB9.out.cell 2
     have n3 : W9.cell? ⟨bx_, 3, none⟩ = some (.int .i64 s.by_) := HB9.out.cell 3
     have n4 : W9.cell? ⟨bx_, 4, none⟩ = some (.slice (some ⟨q2, 0, none⟩) 1 1) := HB9.out.cell 4
     have n5 : W9.cell? ⟨w.heap.size, 3, none⟩ = some (.slice X k cX) := HD9.out.s.cell 3
     have hk5 : k < 1099511627776 := by omega
     go_wp2_with (at_builtin; refine wpList_app2 (w := W9) rfl _ _ rfl elt_stroke HO9 hsz9 rfl rfl (by simp) rfl rfl hk5 ?_; intro v8 w8 hown8 hg8 hz8; obtain ⟨X8, c8, rfl⟩ := own_slice hown8; have hs8 := HD9.out.s.grown hg8 (HD9.out.s.ne_own HO9 (by decide)); have p3 : w8.cell? ⟨w.heap.size, 3, none⟩ = some (.slice X k cX) := hs8.cell 3; have p4 := hs8.frozen 3)
     go_roundw
     case rel => exact ⟨k + 1, X8, c8, vs ++ [.int .i64 s.ax, .int .i64 s.ay, .int .i64 s.bx, .int .i64 s.by_, .slice (some ⟨q2, 0, none⟩) 1 1], sts ++ [⟨s.ax, s.ay, s.bx, s.by_, [⟨k1, o, f1, t1, d1⟩]⟩], at2 + 1, by omega, by go_num, by omega, Lib.hid (by rw [List.length_append, hsl.out]; rfl), Lib.hid (fun z hz => (List.mem_append.1 hz).elim (Hsk.out z) (fun h => by rw [List.mem_singleton.1 h]; exact Hsk2.out)), by rw [← hae]; exact Lib.hid (HD9.out.app (Nat.le_refl _) hw0 hg8 hown8 (fun hv => hv.snoc (C := some ⟨q2, 0, none⟩) (c := 1) (cl := [⟨k1, o, f1, t1, d1⟩]) (HSBc.out.grown hg8 (fun r e => by obtain ⟨cs, hb⟩ := own_row_bk HO9 e; exact ⟨_, cs, hb, by decide⟩)) (by simp)))⟩
     case measure => simp [intOf]; omega
    ·have b0 : decide (xq > 0) = false := decide_eq_false hq0
     clear hq0
     go_upto_region 11 with fail
     have HD9 := HD2
     have HB9 := HB2
     have HSBc := Lib.hid (SB.nil w2_ 41 none)
     have Hsk2 := Lib.hid (sk_new (o := o) (cl := []) HXs.out (by simp) (fun x hx => by cases hx))
     clear HD2 HB2
     generalize w2_ = W9 at *
     have HO9 := HD9.out.own
     have hsz9 : w.heap.size ≤ W9.heap.size := HD9.out.g.size
     have n0 : W9.cell? ⟨bx_, 0, none⟩ = some (.int .i64 s.ax) := HB9.out.cell 0
     have n1 : W9.cell? ⟨bx_, 1, none⟩ = some (.int .i64 s.ay) := HB9.out.cell 1
     have n2 : W9.cell? ⟨bx_, 2, none⟩ = some (.int .i64 s.bx) := HB9.out.cell 2
     have n3 : W9.cell? ⟨bx_, 3, none⟩ = some (.int .i64 s.by_) := HB9.out.cell 3
     have n4 : W9.cell? ⟨bx_, 4, none⟩ = some (.slice none 0 0) := HB9.out.cell 4
     have n5 : W9.cell? ⟨w.heap.size, 3, none⟩ = some (.slice X k cX) := HD9.out.s.cell 3
     have hk5 : k < 1099511627776 := by omega
     go_wp2_with (at_builtin; refine wpList_app2 (w := W9) rfl _ _ rfl elt_stroke HO9 hsz9 rfl rfl (by simp) rfl rfl hk5 ?_; intro v8 w8 hown8 hg8 hz8; obtain ⟨X8, c8, rfl⟩ := own_slice hown8; have hs8 := HD9.out.s.grown hg8 (HD9.out.s.ne_own HO9 (by decide)); have p3 : w8.cell? ⟨w.heap.size, 3, none⟩ = some (.slice X k cX) := hs8.cell 3; have p4 := hs8.frozen 3)
     go_roundw
     case rel => exact ⟨k + 1, X8, c8, vs ++ [.int .i64 s.ax, .int .i64 s.ay, .int .i64 s.bx, .int .i64 s.by_, .slice none 0 0], sts ++ [⟨s.ax, s.ay, s.bx, s.by_, []⟩], at2 + 1, by omega, by go_num, by omega, Lib.hid (by rw [List.length_append, hsl.out]; rfl), Lib.hid (fun z hz => (List.mem_append.1 hz).elim (Hsk.out z) (fun h => by rw [List.mem_singleton.1 h]; exact Hsk2.out)), by rw [← hae]; exact Lib.hid (HD9.out.app (Nat.le_refl _) hw0 hg8 hown8 (fun hv => hv.snoc (C := none) (c := 0) (cl := []) (HSBc.out.grown hg8 (fun r e => by obtain ⟨cs, hb⟩ := own_row_bk HO9 e; exact ⟨_, cs, hb, by decide⟩)) (by simp)))⟩
     case measure => simp [intOf]; omega
   ·obtain rfl : k = ng := by omega
    have HF := Lib.hid (show DZ w0 w wr M A c l at2 va vi X vs sts from ⟨HD.out.mm, SB.own HD.out.own, HD.out.sv, HD.out.g⟩)
    have HSz := Lib.hid HD.out.s
    have HZz := Lib.hid HD.out.z
    have hk5 : k ≤ 5 := hgl
    have hcX := own_capD HD.out.own
    clear HD
    have u0 : wr.cell? ⟨w.heap.size, 0, none⟩ = some (.int .i64 o) := HSz.out.cell 0
    have u1 : wr.cell? ⟨w.heap.size, 1, none⟩ = some (.int .i64 num) := HSz.out.cell 1
    have u2 : wr.cell? ⟨w.heap.size, 2, none⟩ = some (.slice none 0 0) := HSz.out.cell 2
    have u3 : wr.cell? ⟨w.heap.size, 3, none⟩ = some (.slice X k cX) := HSz.out.cell 3
    have u4 : wr.cell? ⟨w.heap.size, 4, none⟩ = some (.slice none 0 0) := HSz.out.cell 4
    have u5 : wr.cell? ⟨w.heap.size, 5, none⟩ = some (.slice none 0 0) := HSz.out.cell 5
    have u6 : wr.cell? ⟨w.heap.size, 6, none⟩ = some (.slice none 0 0) := HSz.out.cell 6
    have u7 : wr.cell? ⟨w.heap.size, 7, none⟩ = some (.slice none 0 0) := HSz.out.cell 7
    have u8 : wr.cell? ⟨w.heap.size, 8, none⟩ = some (.slice none 0 0) := HSz.out.cell 8
    have z0 : wr.cell? ⟨w.heap.size + 1, 0, none⟩ = some (.int .i64 0) := HZz.out.cell 0
    have q0 := HZz.out.frozen 0
    have z1 : wr.cell? ⟨w.heap.size + 1, 1, none⟩ = some (.int .i64 0) := HZz.out.cell 1
    have q1 := HZz.out.frozen 1
    have z2 : wr.cell? ⟨w.heap.size + 1, 2, none⟩ = some (.slice none 0 0) := HZz.out.cell 2
    have q2 := HZz.out.frozen 2
    have z3 : wr.cell? ⟨w.heap.size + 1, 3, none⟩ = some (.slice none 0 0) := HZz.out.cell 3
    have q3 := HZz.out.frozen 3
    have z4 : wr.cell? ⟨w.heap.size + 1, 4, none⟩ = some (.slice none 0 0) := HZz.out.cell 4
    have q4 := HZz.out.frozen 4
    have z5 : wr.cell? ⟨w.heap.size + 1, 5, none⟩ = some (.slice none 0 0) := HZz.out.cell 5
    have q5 := HZz.out.frozen 5
    have z6 : wr.cell? ⟨w.heap.size + 1, 6, none⟩ = some (.slice none 0 0) := HZz.out.cell 6
    have q6 := HZz.out.frozen 6
    have z7 : wr.cell? ⟨w.heap.size + 1, 7, none⟩ = some (.slice none 0 0) := HZz.out.cell 7
    have q7 := HZz.out.frozen 7
    have z8 : wr.cell? ⟨w.heap.size + 1, 8, none⟩ = some (.slice none 0 0) := HZz.out.cell 8
    have q8 := HZz.out.frozen 8
    have a0 := HZz.out
    have d0 := HF.out
    have d1 := d0.cell (i := 0) a0 (by omega) hw0 (.int .i64 o)
    have a1 := a0.set_ 0 (.int .i64 o)
    have d2 := d1.cell (i := 1) a1 (by omega) hw0 (.int .i64 num)
    have a2 := a1.set_ 1 (.int .i64 num)
    have d3 := d2.cell (i := 2) a2 (by omega) hw0 (.slice none 0 0)
    have a3 := a2.set_ 2 (.slice none 0 0)
    have d4 := d3.cell (i := 3) a3 (by omega) hw0 (.slice X k cX)
    have a4 := a3.set_ 3 (.slice X k cX)
    have d5 := d4.cell (i := 4) a4 (by omega) hw0 (.slice none 0 0)
    have a5 := a4.set_ 4 (.slice none 0 0)
    have d6 := d5.cell (i := 5) a5 (by omega) hw0 (.slice none 0 0)
    have a6 := a5.set_ 5 (.slice none 0 0)
    have d7 := d6.cell (i := 6) a6 (by omega) hw0 (.slice none 0 0)
    have a7 := a6.set_ 6 (.slice none 0 0)
    have d8 := d7.cell (i := 7) a7 (by omega) hw0 (.slice none 0 0)
    have a8 := a7.set_ 7 (.slice none 0 0)
    have d9 := d8.cell (i := 8) a8 (by omega) hw0 (.slice none 0 0)
    have a9 := a8.set_ 8 (.slice none 0 0)
    have HZf := Lib.hid (show Bk _ (w.heap.size + 1) 34 #[.int .i64 o, .int .i64 num, .slice none 0 0, .slice X k cX, .slice none 0 0, .slice none 0 0, .slice none 0 0, .slice none 0 0, .slice none 0 0] from a9)
    have HFf := Lib.hid d9
    clear a9 d9 a8 d8 a7 d7 a6 d6 a5 d5 a4 d4 a3 d3 a2 d2 a1 d1 a0 d0 HF
    go_wp2_with fail
    have r0 := HZf.out.cell 0
    have r1 := HZf.out.cell 1
    have r2 := HZf.out.cell 2
    have r3 := HZf.out.cell 3
    have r4 := HZf.out.cell 4
    have r5 := HZf.out.cell 5
    have r6 := HZf.out.cell 6
    have r7 := HZf.out.cell 7
    have r8 := HZf.out.cell 8
    simp only [List.getElem?_toArray, List.getElem?_cons_zero, List.getElem?_cons_succ] at r0 r1 r2 r3 r4 r5 r6 r7 r8
    exact bodyPost_ret (v := .agg #[.int .i64 o, .int .i64 num, .slice none 0 0, .slice X k cX, .slice none 0 0, .slice none 0 0, .slice none 0 0, .slice none 0 0, .slice none 0 0]) (by simp [results, Tryz.results143, go_sem, r0, r1, r2, r3, r4, r5, r6, r7, r8]) rfl ⟨sts, X, cX, vs, at2, by rw [hsl.out], HFf.out.sb, HFf.out.sv, by rw [hsl.out]; exact hk5, Hsk.out, by omega, HFf.out.mm, HFf.out.g, by rw [hsl.out]; exact hcX⟩
end Go.Proofs.YtnapnkmehnabfaaGreat
