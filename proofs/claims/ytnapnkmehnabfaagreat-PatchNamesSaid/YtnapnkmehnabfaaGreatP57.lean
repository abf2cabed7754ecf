import Derived.Test.YtnapnkmehnabfaaGreatP56
import Derived.Test.YtnapnkmehnabfaaGreatP60
namespace Go.Proofs.YtnapnkmehnabfaaGreat
open Go.RowKit Go.Maps

theorem elt_patch : EltB Tryz.prog 23 34 (.agg #[.int .i64 0, .int .i64 0, .slice none 0 0, .slice none 0 0, .slice none 0 0, .slice none 0 0, .slice none 0 0, .slice none 0 0, .slice none 0 0]) 9 184 := EltB.mk' Tryz.underlying23 (by kernel_rfl) (by decide) (by decide) rfl
/-- The maker with the patches that are made. -/
structure SW (w wr : World) (M : Nat) (A : Option Addr) (c : Nat) (l : List Int) (at_ : Nat) (X : Option Addr) (j cX : Nat) (I : Option Addr) (i cI : Nat) (ps : List (Pa × Pw)) (ids : List Int) : Prop where
 mm : MK w wr M A c l at_ (.slice X j cX) (.slice I i cI)
 rx : wr.ownsRow w.heap.size 34 9 (.slice X j cX) j (ps.flatMap paV)
 ri : wr.ownsRow w.heap.size 53 1 (.slice I i cI) i (ids.map (Value.int .u64))
 av : AVs wr ps
 nm : ∀ q ∈ ps, 0 ≤ q.1.num ∧ q.1.num ≤ 8
 iu : ∀ x ∈ ids, u64 x
 pl : ps.length = j
 il : ids.length = i
 nb : ∀ q ∈ ps, ∀ b o, q.2.n = some ⟨b, o, none⟩ → (Value.slice I i cI).ownBlock ≠ some b ∧ b < wr.heap.size
 cp : ∀ q ∈ ps, CP q.1 q.2
section
variable {w wr w' : World} {M : Nat} {A : Option Addr} {c : Nat} {l : List Int} {at_ : Nat} {X : Option Addr} {j cX : Nat} {I : Option Addr} {i cI : Nat} {ps : List (Pa × Pw)} {ids : List Int}
theorem SW.next {at2 : Nat} (h : SW w wr M A c l at_ X j cX I i cI ps ids) (hm : MK w w' M A c l at2 (.slice X j cX) (.slice I i cI)) (hg : wr.grownBy w' (some M)) : SW w w' M A c l at2 X j cX I i cI ps ids :=
 ⟨hm, own_grown h.rx hg (.inr (fun e => h.mm.bk.ne_own h.rx (by decide) e.symm)), own_grown h.ri hg (.inr (fun e => h.mm.bk.ne_own h.ri (by decide) e.symm)), h.av.grown hg (fun r e => by cases e; exact ⟨_, _, h.mm.bk, by decide⟩), h.nm, h.iu, h.pl, h.il, fun q hq b o e => ⟨(h.nb q hq b o e).1, Nat.lt_of_lt_of_le (h.nb q hq b o e).2 hg.size⟩, h.cp⟩
theorem SW.keep (h : SW w wr M A c l at_ X j cX I i cI ps ids) (hb : Below wr.heap.size wr w') : SW w w' M A c l at_ X j cX I i cI ps ids :=
 ⟨h.mm.keep hb, own_below h.rx hb, own_below h.ri hb, h.av.grown (grown_below hb none) (fun r e => by cases e), h.nm, h.iu, h.pl, h.il, fun q hq b o e => ⟨(h.nb q hq b o e).1, Nat.lt_of_lt_of_le (h.nb q hq b o e).2 hb.size⟩, h.cp⟩
theorem MK.fld {w0 : World} {va vi v : Value} {k : Nat} {cs : Array Value} (h : MK w0 wr M A c l at_ va vi) (e : #[Value.slice A l.length c, .int .i64 (at_ : Int), va, vi].setIfInBounds k v = cs) : Bk (wr.setCell ⟨M, k, none⟩ v) M 98 cs := e ▸ h.bk.set_ k v
/-- One more patch. -/
theorem SW.app {w8 : World} {p : Pa} {a : Pw} {X8 : Option Addr} {c8 : Nat} (h : SW w wr M A c l at_ X j cX I i cI ps ids) (hg : wr.grownBy w8 (Value.slice X j cX).ownBlock) (hown8 : w8.ownsRow w.heap.size 34 9 (.slice X8 (j + 1) c8) (j + 1) (ps.flatMap paV ++ paV (p, a))) (hpb : PB wr p a) (hpo : PO p) (hn : 0 ≤ p.num ∧ p.num ≤ 8) (hnb : ∀ b o, a.n = some ⟨b, o, none⟩ → (Value.slice I i cI).ownBlock ≠ some b ∧ b < wr.heap.size) (hcp : CP p a) :
  SW w (w8.setCell ⟨M, 2, none⟩ (.slice X8 (j + 1) c8)) M A c l at_ X8 (j + 1) c8 I i cI (ps ++ [(p, a)]) ids := by
 have m1 := h.mm.row h.rx (by decide) hg (Nat.le_refl _)
 have hs := grown_set w8 M 2 (.slice X8 (j + 1) c8)
 have hr : ∀ r, (Value.slice X j cX).ownBlock = some r → ∃ t' cs, Bk wr r t' cs ∧ t' ∉ paT := fun r e => by
  obtain ⟨cs, hb⟩ := own_row_bk h.rx e
  exact ⟨_, cs, hb, by decide⟩
 have ri1 := own_grown h.ri hg (by
  by_cases e : (Value.slice I i cI).ownBlock = none
  ·exact .inl e
  ·refine .inr fun e2 => ?_
   obtain ⟨r, e3⟩ := Option.ne_none_iff_exists'.1 e
   obtain ⟨cs, hb⟩ := own_row_bk h.ri e3
   obtain ⟨cs2, hb2⟩ := own_row_bk h.rx (e2 ▸ e3)
   exact hb.ne_ hb2 (by decide) rfl)
 refine ⟨⟨m1.fld rfl, m1.below.grown hs m1.below.size (fun k e => by cases e; exact m1.m), m1.m, m1.si, m1.l⟩, own_set (i := 2) (by rw [List.flatMap_append, List.flatMap_cons, List.flatMap_nil, List.append_nil]; exact hown8) (m1.bk.ne_own hown8 (by decide)) _, own_set (i := 2) ri1 (m1.bk.ne_own ri1 (by decide)) _, ?_, ?_, h.iu, by simp [h.pl], h.il, ?_, fun q hq => (List.mem_append.1 hq).elim (h.cp q) (fun hq => by rw [List.mem_singleton.1 hq]; exact hcp)⟩
 ·intro q hq
  rcases List.mem_append.1 hq with hq | hq
  ·exact ⟨((h.av q hq).1.grown hg hr).store m1.bk (by decide) _, (h.av q hq).2⟩
  ·rw [List.mem_singleton.1 hq]
   exact ⟨(hpb.grown hg hr).store m1.bk (by decide) _, hpo⟩
 ·intro q hq
  rcases List.mem_append.1 hq with hq | hq
  ·exact h.nm q hq
  ·rw [List.mem_singleton.1 hq]; exact hn
 ·intro q hq b o e
  have hz : wr.heap.size ≤ (w8.setCell ⟨M, 2, none⟩ (.slice X8 (j + 1) c8)).heap.size := Nat.le_trans hg.size hs.size
  rcases List.mem_append.1 hq with hq | hq
  ·exact ⟨(h.nb q hq b o e).1, Nat.lt_of_lt_of_le (h.nb q hq b o e).2 hz⟩
  ·rw [List.mem_singleton.1 hq] at e
   exact ⟨(hnb b o e).1, Nat.lt_of_lt_of_le (hnb b o e).2 hz⟩
/-- A patch stands where a row of numbers grows in which its needs do not lie. -/
theorem PB.idrow {w w' : World} {p : Pa} {a : Pw} {row : Option Nat} (h : PB w p a) (hg : w.grownBy w' row) (hr : ∀ r, row = some r → ∃ cs, Bk w r 53 cs) (hn : ∀ b o, a.n = some ⟨b, o, none⟩ → row ≠ some b) : PB w' p a := by
 have k : ∀ t, t ≠ 53 → ∀ r, row = some r → ∃ t' cs, Bk w r t' cs ∧ t' ≠ t := fun t ht r e => by
  obtain ⟨cs, h1⟩ := hr r e
  exact ⟨_, cs, h1, fun e => ht e.symm⟩
 obtain ⟨vs, h1, h2⟩ := h.s
 refine ⟨?_, ⟨vs, h1.grown hg (k _ (by decide)), h2.grown hg (k _ (by decide))⟩, h.l.grown hg (k _ (by decide)), h.m.grown hg (k _ (by decide)), h.e.grown hg (k _ (by decide)), h.d.grown hg (k _ (by decide)), h.r.grown hg (k _ (by decide))⟩
 rcases h.n with hz | ⟨b, o, cs, e, hb, hc⟩
 ·exact .inl hz
 ·exact .inr ⟨b, o, cs, e, hb.grown hg (fun e2 => hn b o e e2.symm), hc⟩
/-- One more name. -/
theorem SW.id {w8 : World} {x : Int} {I8 : Option Addr} {c8 : Nat} (h : SW w wr M A c l at_ X j cX I i cI ps ids) (hg : wr.grownBy w8 (Value.slice I i cI).ownBlock) (hown8 : w8.ownsRow w.heap.size 53 1 (.slice I8 (i + 1) c8) (i + 1) (ids.map (Value.int .u64) ++ [.int .u64 x])) (hx : u64 x) (hv : (Value.slice I8 (i + 1) c8).ownBlock = (Value.slice I i cI).ownBlock ∨ ∃ b, (Value.slice I8 (i + 1) c8).ownBlock = some b ∧ wr.heap.size ≤ b) :
  SW w (w8.setCell ⟨M, 3, none⟩ (.slice I8 (i + 1) c8)) M A c l at_ X j cX I8 (i + 1) c8 ps (ids ++ [x]) := by
 have m1 := h.mm.row h.ri (by decide) hg (Nat.le_refl _)
 have hs := grown_set w8 M 3 (.slice I8 (i + 1) c8)
 have rx1 := own_grown h.rx hg (by
  by_cases e : (Value.slice X j cX).ownBlock = none
  ·exact .inl e
  ·refine .inr fun e2 => ?_
   obtain ⟨r, e3⟩ := Option.ne_none_iff_exists'.1 e
   obtain ⟨cs, hb⟩ := own_row_bk h.rx e3
   obtain ⟨cs2, hb2⟩ := own_row_bk h.ri (e2 ▸ e3)
   exact hb.ne_ hb2 (by decide) rfl)
 refine ⟨⟨m1.fld rfl, m1.below.grown hs m1.below.size (fun k e => by cases e; exact m1.m), m1.m, m1.si, m1.l⟩, own_set (i := 3) rx1 (m1.bk.ne_own rx1 (by decide)) _, own_set (i := 3) (by rw [List.map_append]; exact hown8) (m1.bk.ne_own hown8 (by decide)) _, ?_, h.nm, ?_, h.pl, by simp [h.il], ?_, h.cp⟩
 ·intro q hq
  exact ⟨PB.store ((h.av q hq).1.idrow hg (fun r e => own_row_bk h.ri e) (fun b o e => (h.nb q hq b o e).1)) m1.bk (by decide) _, (h.av q hq).2⟩
 ·intro y hy
  rcases List.mem_append.1 hy with hy | hy
  ·exact h.iu y hy
  ·rw [List.mem_singleton.1 hy]; exact hx
 ·intro q hq b o e
  have h1 := h.nb q hq b o e
  refine ⟨fun e2 => ?_, Nat.lt_of_lt_of_le h1.2 (Nat.le_trans hg.size hs.size)⟩
  rcases hv with hv | ⟨b2, hv, hz⟩
  ·exact h1.1 (hv ▸ e2)
  ·rw [hv] at e2
   obtain rfl := Option.some.inj e2
   omega
end
set_option linter.unusedSimpArgs false in
set_option maxHeartbeats 8000000 in
set_option maxRecDepth 100000 in
theorem script_any (A : Option Addr) (c : Nat) (l : List Int) (m : Int) (w : World) (hA : SI w A l) (hl : W64 l) (hm : 0 ≤ m ∧ m ≤ 8) :
  Calls Tryz.prog 21 #[.slice A l.length c, .int .i64 m] w fun e w' => ∃ (ps : List (Pa × Pw)) (X : Option Addr) (cX : Nat), e = .returned (.slice X ps.length cX) ∧ ps.length ≤ 8 ∧ (ps.length : Int) ≤ m ∧ w'.ownsRow w.heap.size 34 9 (.slice X ps.length cX) ps.length (ps.flatMap paV) ∧ AVs w' ps ∧ (∀ q ∈ ps, 0 ≤ q.1.num ∧ q.1.num ≤ 8) ∧ (∀ q ∈ ps, CP q.1 q.2) ∧ Below w.heap.size w w' := by
 have hb0 := (Below.refl w.heap.size w).alloc (Nat.le_refl _) (.cells #[.slice A l.length c, .int .i64 0, .slice none 0 0, .slice none 0 0] 98)
 have HS0 := Lib.hid (show SW w (w.alloc (.cells #[.slice A l.length c, .int .i64 0, .slice none 0 0, .slice none 0 0] 98)) w.heap.size A c l 0 none 0 0 none 0 0 [] [] from
  ⟨⟨Bk.new _ _ _, hb0, Nat.le_refl _, hA, hl⟩, World.ownsRow_nil _ _ _ _, World.ownsRow_nil _ _ _ _, (fun q hq => by cases hq), (fun q hq => by cases hq), (fun q hq => by cases hq), rfl, rfl, (fun q hq => by cases hq), (fun q hq => by cases hq)⟩)
 clear hb0 hA hl
 go_enter Tryz.func21, Tryz.ntmps21
 go_wp2_with fail
 generalize w.alloc (.cells #[.slice A l.length c, .int .i64 0, .slice none 0 0, .slice none 0 0] 98) = W0 at *
 obtain ⟨M, hM⟩ : ∃ z, Hid (w.heap.size = z) := ⟨_, Lib.hid rfl⟩
 rw [hM.out] at HS0
 simp only [hM.out]
 go_loopw [6] (fun v wr => ∃ (j at_ : Nat) (X I : Option Addr) (cX cI : Nat) (ps : List (Pa × Pw)) (ids : List Int), j ≤ 8 ∧ (j : Int) ≤ m ∧ v = .int .i64 (j : Int) ∧ at_ ≤ 300 * j ∧ Hid (SW w wr M A c l at_ X j cX I j cI ps ids)) (fun v _ => m.toNat - (intOf v).toNat)
 case atStart => exact ⟨0, 0, none, none, 0, 0, [], [], by omega, by omega, rfl, by omega, HS0⟩
 case round =>
  clear HS0
  obtain ⟨j, at_, X, I, cX, cI, ps, ids, hj8, hjm, rfl, hat, HS⟩ := hrel
  have cM1 : wr.cell? ⟨M, 1, none⟩ = some (.int .i64 (at_ : Int)) := HS.out.mm.bk.cell 1
  have cM2 : wr.cell? ⟨M, 2, none⟩ = some (.slice X j cX) := HS.out.mm.bk.cell 2
  by_cases hlt : (j : Int) < m ∧ (at_ : Int) < l.length
  ·obtain ⟨h1, h2⟩ := hlt
   have d1 : decide ((j : Int) < m) = true := decide_eq_true h1
   have d2 : at_ < l.length := by omega
   clear h2
   have HC := Lib.hid (mpatch_any w wr M A c l at_ X I cX cI j ps ids HS.out.mm (by omega) (by omega) HS.out.pl HS.out.il HS.out.iu (SB.own HS.out.rx) (SB.own HS.out.ri) HS.out.av)
   go_wp2_with fail
   refine HC.out.mono ?_
   rintro e wa ⟨p, a, at2, rfl, hpo, hpn, hpb, hnw, hcp, hat2, hmk, hgr⟩
   simp only [paC]
   clear HC cM1 cM2 d1 d2
   have hneP : some wa.heap.size ≠ (Value.slice X j cX).ownBlock := fun e => by have := (HS.out.rx.lt _ e.symm).2; have := hgr.size; omega
   have hne2 := fun (b o : Nat) (e : a.n = some ⟨b, o, none⟩) => (show (Value.slice I j cI).ownBlock ≠ some b from fun e2 => by have h1 := (HS.out.ri.lt _ e2).2; have h2 := (hnw b o e).1; omega)
   have HS1 := Lib.hid ((HS.out.next hmk hgr).keep ((Below.refl _ _).alloc (Nat.le_refl _) (.cells #[.int .i64 p.office, .int .i64 p.num, .slice a.n p.needs.length a.cn, .slice a.s p.st.length a.cs, .slice a.l p.pl.length a.cl, .slice a.m p.ma.length a.cm, .slice a.e p.er.length a.ce, .slice a.d p.dr.length a.cd, .slice a.r p.rt.length a.cr] 34)))
   have HB1 := Lib.hid (Bk.new wa 34 #[.int .i64 p.office, .int .i64 p.num, .slice a.n p.needs.length a.cn, .slice a.s p.st.length a.cs, .slice a.l p.pl.length a.cl, .slice a.m p.ma.length a.cm, .slice a.e p.er.length a.ce, .slice a.d p.dr.length a.cd, .slice a.r p.rt.length a.cr])
   have HPB := Lib.hid (hpb.below ((Below.refl _ _).alloc (Nat.le_refl _) (.cells #[.int .i64 p.office, .int .i64 p.num, .slice a.n p.needs.length a.cn, .slice a.s p.st.length a.cs, .slice a.l p.pl.length a.cl, .slice a.m p.ma.length a.cm, .slice a.e p.er.length a.ce, .slice a.d p.dr.length a.cd, .slice a.r p.rt.length a.cr] 34)))
   have HN1 := Lib.hid (fun (b o : Nat) (e : a.n = some ⟨b, o, none⟩) => And.intro (hne2 b o e) (Nat.lt_of_lt_of_le (hnw b o e).2 (show wa.heap.size ≤ (wa.alloc (.cells #[.int .i64 p.office, .int .i64 p.num, .slice a.n p.needs.length a.cn, .slice a.s p.st.length a.cs, .slice a.l p.pl.length a.cl, .slice a.m p.ma.length a.cm, .slice a.e p.er.length a.ce, .slice a.d p.dr.length a.cd, .slice a.r p.rt.length a.cr] 34)).heap.size by simp)))
   have Hpo := Lib.hid hpo
   have Hpn := Lib.hid hpn
   have Hcp := Lib.hid hcp
   clear hmk hgr hpb hnw hne2 HS hpo hpn hcp
   go_upto_region 6 with fail
   generalize wa.alloc (.cells #[.int .i64 p.office, .int .i64 p.num, .slice a.n p.needs.length a.cn, .slice a.s p.st.length a.cs, .slice a.l p.pl.length a.cl, .slice a.m p.ma.length a.cm, .slice a.e p.er.length a.ce, .slice a.d p.dr.length a.cd, .slice a.r p.rt.length a.cr] 34) = Wp at *
   generalize wa.heap.size = P at *
   have HS := Lib.hid (HS1.out.keep (Below.refl _ _).drew)
   have HB := Lib.hid (HB1.out.below (Below.refl _ _).drew HB1.out.lt)
   have HPb := Lib.hid (HPB.out.below (Below.refl _ _).drew)
   have HN := Lib.hid (fun (b o : Nat) (e : a.n = some ⟨b, o, none⟩) => (show (Value.slice I j cI).ownBlock ≠ some b ∧ b < Wp.drew.heap.size from HN1.out b o e))
   clear HS1 HB1 HPB HN1
   refine wp_region_noPanic ?_
   refine region_T (s := 10) (S := fun W => W.cell? ⟨M, 2, none⟩ = some (.slice X j cX) ∧ W.cell? ⟨P, 0, none⟩ = some (.int .i64 p.office) ∧ W.cell? ⟨P, 1, none⟩ = some (.int .i64 p.num) ∧ W.cell? ⟨P, 2, none⟩ = some (.slice a.n p.needs.length a.cn) ∧ W.cell? ⟨P, 3, none⟩ = some (.slice a.s p.st.length a.cs) ∧ W.cell? ⟨P, 4, none⟩ = some (.slice a.l p.pl.length a.cl) ∧ W.cell? ⟨P, 5, none⟩ = some (.slice a.m p.ma.length a.cm) ∧ W.cell? ⟨P, 6, none⟩ = some (.slice a.e p.er.length a.ce) ∧ W.cell? ⟨P, 7, none⟩ = some (.slice a.d p.dr.length a.cd) ∧ W.cell? ⟨P, 8, none⟩ = some (.slice a.r p.rt.length a.cr)) (by kernel_rfl) ?_
   change wpT _ _ _ _ _ 11 _ _ Wp.drew
   generalize Wp.drew = X0 at *
   refine T_takeD (k := 0) (v := .pointer (some ⟨M, 0, none⟩)) (d := some 27) rfl rfl (by decide +kernel) (fun _ _ _ h => h) (Or.inl ⟨by rfl, fun W hW => by obtain ⟨s0, t0, t1, t2, t3, t4, t5, t6, t7, t8⟩ := hW; go_simp⟩) ⟨HS.out.mm.bk.cell 2, HB.out.cell 0, HB.out.cell 1, HB.out.cell 2, HB.out.cell 3, HB.out.cell 4, HB.out.cell 5, HB.out.cell 6, HB.out.cell 7, HB.out.cell 8⟩ ?_
   try simp only [Act.put, qz0, qz1, qz2]
   refine T_takeD (k := 1) (v := .pointer (some ⟨M, 0, none⟩)) (d := some 28) rfl rfl (by decide +kernel) (fun _ _ _ h => h) (Or.inl ⟨by rfl, fun W hW => by obtain ⟨s0, t0, t1, t2, t3, t4, t5, t6, t7, t8⟩ := hW; go_simp⟩) ⟨HS.out.mm.bk.cell 2, HB.out.cell 0, HB.out.cell 1, HB.out.cell 2, HB.out.cell 3, HB.out.cell 4, HB.out.cell 5, HB.out.cell 6, HB.out.cell 7, HB.out.cell 8⟩ ?_
   try simp only [Act.put, qz0, qz1, qz2]
   refine T_takeD (k := 2) (v := .pointer (some ⟨M, 0, none⟩)) (d := some 29) rfl rfl (by decide +kernel) (fun _ _ _ h => h) (Or.inl ⟨by rfl, fun W hW => by obtain ⟨s0, t0, t1, t2, t3, t4, t5, t6, t7, t8⟩ := hW; go_simp⟩) ⟨HS.out.mm.bk.cell 2, HB.out.cell 0, HB.out.cell 1, HB.out.cell 2, HB.out.cell 3, HB.out.cell 4, HB.out.cell 5, HB.out.cell 6, HB.out.cell 7, HB.out.cell 8⟩ ?_
   try simp only [Act.put, qz0, qz1, qz2]
   refine T_takeD (k := 3) (v := .pointer (some ⟨M, 2, none⟩)) (d := some 30) rfl rfl (by decide +kernel) (fun _ _ _ h => h) (Or.inl ⟨by rfl, fun W hW => by obtain ⟨s0, t0, t1, t2, t3, t4, t5, t6, t7, t8⟩ := hW; go_simp⟩) ⟨HS.out.mm.bk.cell 2, HB.out.cell 0, HB.out.cell 1, HB.out.cell 2, HB.out.cell 3, HB.out.cell 4, HB.out.cell 5, HB.out.cell 6, HB.out.cell 7, HB.out.cell 8⟩ ?_
   try simp only [Act.put, qz0, qz1, qz2]
   refine T_takeD (k := 4) (v := .slice X j cX) (d := some 31) rfl rfl (by decide +kernel) (fun _ _ _ h => h) (Or.inl ⟨by rfl, fun W hW => by obtain ⟨s0, t0, t1, t2, t3, t4, t5, t6, t7, t8⟩ := hW; go_simp⟩) ⟨HS.out.mm.bk.cell 2, HB.out.cell 0, HB.out.cell 1, HB.out.cell 2, HB.out.cell 3, HB.out.cell 4, HB.out.cell 5, HB.out.cell 6, HB.out.cell 7, HB.out.cell 8⟩ ?_
   try simp only [Act.put, qz0, qz1, qz2]
   refine T_takeD (k := 5) (v := .agg #[.int .i64 p.office, .int .i64 p.num, .slice a.n p.needs.length a.cn, .slice a.s p.st.length a.cs, .slice a.l p.pl.length a.cl, .slice a.m p.ma.length a.cm, .slice a.e p.er.length a.ce, .slice a.d p.dr.length a.cd, .slice a.r p.rt.length a.cr]) (d := some 32) rfl rfl (by decide +kernel) (fun _ _ _ h => h) (Or.inl ⟨by rfl, fun W hW => by obtain ⟨s0, t0, t1, t2, t3, t4, t5, t6, t7, t8⟩ := hW; go_simp⟩) ⟨HS.out.mm.bk.cell 2, HB.out.cell 0, HB.out.cell 1, HB.out.cell 2, HB.out.cell 3, HB.out.cell 4, HB.out.cell 5, HB.out.cell 6, HB.out.cell 7, HB.out.cell 8⟩ ?_
   try simp only [Act.put, qz0, qz1, qz2]
   refine T_oneS (i := 6) (by decide +kernel) (T_step rfl rfl (fun K hK6 => ?_))
   have hK6 := Lib.hid hK6
   go_simp
   have HL := Lib.hid (Bk.new X0 34 #[.int .i64 p.office, .int .i64 p.num, .slice a.n p.needs.length a.cn, .slice a.s p.st.length a.cs, .slice a.l p.pl.length a.cl, .slice a.m p.ma.length a.cm, .slice a.e p.er.length a.ce, .slice a.d p.dr.length a.cd, .slice a.r p.rt.length a.cr])
   have HS2 := Lib.hid (HS.out.keep ((Below.refl _ _).alloc (Nat.le_refl _) (.cells #[.int .i64 p.office, .int .i64 p.num, .slice a.n p.needs.length a.cn, .slice a.s p.st.length a.cs, .slice a.l p.pl.length a.cl, .slice a.m p.ma.length a.cm, .slice a.e p.er.length a.ce, .slice a.d p.dr.length a.cd, .slice a.r p.rt.length a.cr] 34)))
   have HB2 := Lib.hid (HB.out.alloc (.cells #[.int .i64 p.office, .int .i64 p.num, .slice a.n p.needs.length a.cn, .slice a.s p.st.length a.cs, .slice a.l p.pl.length a.cl, .slice a.m p.ma.length a.cm, .slice a.e p.er.length a.ce, .slice a.d p.dr.length a.cd, .slice a.r p.rt.length a.cr] 34))
   have HP2 := Lib.hid (HPb.out.below ((Below.refl _ _).alloc (Nat.le_refl _) (.cells #[.int .i64 p.office, .int .i64 p.num, .slice a.n p.needs.length a.cn, .slice a.s p.st.length a.cs, .slice a.l p.pl.length a.cl, .slice a.m p.ma.length a.cm, .slice a.e p.er.length a.ce, .slice a.d p.dr.length a.cd, .slice a.r p.rt.length a.cr] 34)))
   have HN2 := Lib.hid (fun (b o : Nat) (e : a.n = some ⟨b, o, none⟩) => And.intro (HN.out b o e).1 (Nat.lt_of_lt_of_le (HN.out b o e).2 (show X0.heap.size ≤ (X0.alloc (.cells #[.int .i64 p.office, .int .i64 p.num, .slice a.n p.needs.length a.cn, .slice a.s p.st.length a.cs, .slice a.l p.pl.length a.cl, .slice a.m p.ma.length a.cm, .slice a.e p.er.length a.ce, .slice a.d p.dr.length a.cd, .slice a.r p.rt.length a.cr] 34)).heap.size by simp)))
   clear HN
   clear HS HB HPb
   have HS := HS2
   have HB := HB2
   have HPb := HP2
   clear HS2 HB2 HP2
   generalize X0.alloc (.cells #[.int .i64 p.office, .int .i64 p.num, .slice a.n p.needs.length a.cn, .slice a.s p.st.length a.cs, .slice a.l p.pl.length a.cl, .slice a.m p.ma.length a.cm, .slice a.e p.er.length a.ce, .slice a.d p.dr.length a.cd, .slice a.r p.rt.length a.cr] 34) = Wl at *
   generalize X0.heap.size = h_ at *
   refine hK6.out _ _ ⟨HS.out.mm.bk.cell 2, HB.out.cell 0, HB.out.cell 1, HB.out.cell 2, HB.out.cell 3, HB.out.cell 4, HB.out.cell 5, HB.out.cell 6, HB.out.cell 7, HB.out.cell 8⟩ ?_
   try simp only [Act.put, qz0, qz1, qz2]
   refine T_oneS (i := 7) (by decide +kernel) (T_step rfl rfl (fun K hK7 => ?_))
   have hK7 := Lib.hid hK7
   refine app_wp3 (us := [.int .i64 p.office, .int .i64 p.num, .slice a.n p.needs.length a.cn, .slice a.s p.st.length a.cs, .slice a.l p.pl.length a.cl, .slice a.m p.ma.length a.cm, .slice a.e p.er.length a.ce, .slice a.d p.dr.length a.cd, .slice a.r p.rt.length a.cr]) (xs := ps.flatMap paV) (n := j) (base := w.heap.size) (c := 1) (H := h_) (v := .slice X j cX) (.tmp 31) (.tmp 33) rfl elt_patch (by simp [Act.eval]) (by simp [Act.eval]) HS.out.rx HL.out rfl rfl (by omega) HS.out.mm.below.size ?_
   intro v8 w8 hown8 hg8 hv8
   obtain ⟨X8, c8, rfl⟩ := own_slice hown8
   have Hm8 := Lib.hid (HS.out.mm.row HS.out.rx (by decide) hg8 (Nat.le_refl _))
   have HB8 := Lib.hid (HB.out.grown hg8 hneP)
   have HF := Lib.hid (HS.out.app (p := p) (a := a) hg8 hown8 HPb.out Hpo.out (by rw [Hpn.out]; omega) HN2.out Hcp.out)
   have HP8 := Lib.hid (HPb.out.grown hg8 (fun r e => by obtain ⟨cs, hb⟩ := own_row_bk HS.out.rx e; exact ⟨_, cs, hb, by decide⟩))
   clear hown8 hg8 hv8 HS HB HPb HL HN2
   refine hK7.out _ _ ⟨Hm8.out.bk.cell 2, HB8.out.cell 0, HB8.out.cell 1, HB8.out.cell 2, HB8.out.cell 3, HB8.out.cell 4, HB8.out.cell 5, HB8.out.cell 6, HB8.out.cell 7, HB8.out.cell 8⟩ ?_
   try simp only [Act.put, qz0, qz1, qz2]
   refine T_oneS (i := 8) (by decide +kernel) (T_step rfl rfl (fun K hK8 => ?_))
   have hK8 := Lib.hid hK8
   go_simp
   refine hK8.out _ _ ⟨Hm8.out.bk.cell 2, HB8.out.cell 0, HB8.out.cell 1, HB8.out.cell 2, HB8.out.cell 3, HB8.out.cell 4, HB8.out.cell 5, HB8.out.cell 6, HB8.out.cell 7, HB8.out.cell 8⟩ ?_
   try simp only [Act.put, qz0, qz1, qz2]
   refine T_takeD (k := 9) (v := .pointer (some ⟨M, 2, none⟩)) (d := some 36) rfl rfl (by decide +kernel) (fun _ _ _ h => h) (Or.inl ⟨by rfl, fun W hW => by obtain ⟨s0, t0, t1, t2, t3, t4, t5, t6, t7, t8⟩ := hW; go_simp⟩) ⟨Hm8.out.bk.cell 2, HB8.out.cell 0, HB8.out.cell 1, HB8.out.cell 2, HB8.out.cell 3, HB8.out.cell 4, HB8.out.cell 5, HB8.out.cell 6, HB8.out.cell 7, HB8.out.cell 8⟩ ?_
   try simp only [Act.put, qz0, qz1, qz2]
   refine T_last (by decide +kernel) (by decide +kernel) (by decide +kernel) rfl rfl (fun K hKl => ?_)
   have hKl := Lib.hid hKl
   have d3 : w8.cell? ⟨M, 2, none⟩ = some (.slice X j cX) := Hm8.out.bk.cell 2
   have d4 := Hm8.out.bk.frozen 2
   go_simp
   refine hKl.out _ _ (NoPanic.normal ?_)
   try simp only [Act.put, qz0, qz1, qz2]
   have HS9 := HF
   have HB9 := Lib.hid (HB8.out.far (p := ⟨M, 2, none⟩) (HB8.out.ne_ Hm8.out.bk (by decide)) (.slice X8 (j + 1) c8))
   have HPb9 := Lib.hid (HP8.out.store (i := 2) Hm8.out.bk (by decide) (.slice X8 (j + 1) c8))
   clear hKl d3 d4 HF HB8 HP8 Hm8 hneP
   generalize w8.setCell ⟨M, 2, none⟩ (.slice X8 (j + 1) c8) = W6 at *
   go_upto_region 7 with fail
   have HS := Lib.hid (HS9.out.keep (Below.refl _ _).drew)
   have HB := Lib.hid (HB9.out.below (Below.refl _ _).drew HB9.out.lt)
   have HPb := Lib.hid (HPb9.out.below (Below.refl _ _).drew)
   clear HS9 HB9 HPb9
   refine wp_region_noPanic ?_
   refine region_T (s := 11) (S := fun W => W.cell? ⟨M, 3, none⟩ = some (.slice I j cI) ∧ W.cell? ⟨P, 0, none⟩ = some (.int .i64 p.office) ∧ W.cell? ⟨P, 1, none⟩ = some (.int .i64 p.num) ∧ W.cell? ⟨P, 2, none⟩ = some (.slice a.n p.needs.length a.cn) ∧ W.cell? ⟨P, 3, none⟩ = some (.slice a.s p.st.length a.cs) ∧ W.cell? ⟨P, 4, none⟩ = some (.slice a.l p.pl.length a.cl) ∧ W.cell? ⟨P, 5, none⟩ = some (.slice a.m p.ma.length a.cm) ∧ W.cell? ⟨P, 6, none⟩ = some (.slice a.e p.er.length a.ce) ∧ W.cell? ⟨P, 7, none⟩ = some (.slice a.d p.dr.length a.cd) ∧ W.cell? ⟨P, 8, none⟩ = some (.slice a.r p.rt.length a.cr)) (by kernel_rfl) ?_
   change wpT _ _ _ _ _ 12 _ _ W6.drew
   generalize W6.drew = X0 at *
   refine T_takeD (k := 0) (v := .pointer (some ⟨M, 0, none⟩)) (d := some 37) rfl rfl (by decide +kernel) (fun _ _ _ h => h) (Or.inl ⟨by rfl, fun W hW => by obtain ⟨s0, t0, t1, t2, t3, t4, t5, t6, t7, t8⟩ := hW; go_simp⟩) ⟨HS.out.mm.bk.cell 3, HB.out.cell 0, HB.out.cell 1, HB.out.cell 2, HB.out.cell 3, HB.out.cell 4, HB.out.cell 5, HB.out.cell 6, HB.out.cell 7, HB.out.cell 8⟩ ?_
   try simp only [Act.put, qz0, qz1, qz2]
   refine T_takeD (k := 1) (v := .pointer (some ⟨M, 0, none⟩)) (d := some 38) rfl rfl (by decide +kernel) (fun _ _ _ h => h) (Or.inl ⟨by rfl, fun W hW => by obtain ⟨s0, t0, t1, t2, t3, t4, t5, t6, t7, t8⟩ := hW; go_simp⟩) ⟨HS.out.mm.bk.cell 3, HB.out.cell 0, HB.out.cell 1, HB.out.cell 2, HB.out.cell 3, HB.out.cell 4, HB.out.cell 5, HB.out.cell 6, HB.out.cell 7, HB.out.cell 8⟩ ?_
   try simp only [Act.put, qz0, qz1, qz2]
   refine T_takeD (k := 2) (v := .pointer (some ⟨M, 0, none⟩)) (d := some 39) rfl rfl (by decide +kernel) (fun _ _ _ h => h) (Or.inl ⟨by rfl, fun W hW => by obtain ⟨s0, t0, t1, t2, t3, t4, t5, t6, t7, t8⟩ := hW; go_simp⟩) ⟨HS.out.mm.bk.cell 3, HB.out.cell 0, HB.out.cell 1, HB.out.cell 2, HB.out.cell 3, HB.out.cell 4, HB.out.cell 5, HB.out.cell 6, HB.out.cell 7, HB.out.cell 8⟩ ?_
   try simp only [Act.put, qz0, qz1, qz2]
   refine T_takeD (k := 3) (v := .pointer (some ⟨M, 3, none⟩)) (d := some 40) rfl rfl (by decide +kernel) (fun _ _ _ h => h) (Or.inl ⟨by rfl, fun W hW => by obtain ⟨s0, t0, t1, t2, t3, t4, t5, t6, t7, t8⟩ := hW; go_simp⟩) ⟨HS.out.mm.bk.cell 3, HB.out.cell 0, HB.out.cell 1, HB.out.cell 2, HB.out.cell 3, HB.out.cell 4, HB.out.cell 5, HB.out.cell 6, HB.out.cell 7, HB.out.cell 8⟩ ?_
   try simp only [Act.put, qz0, qz1, qz2]
   refine T_takeD (k := 4) (v := .slice I j cI) (d := some 41) rfl rfl (by decide +kernel) (fun _ _ _ h => h) (Or.inl ⟨by rfl, fun W hW => by obtain ⟨s0, t0, t1, t2, t3, t4, t5, t6, t7, t8⟩ := hW; go_simp⟩) ⟨HS.out.mm.bk.cell 3, HB.out.cell 0, HB.out.cell 1, HB.out.cell 2, HB.out.cell 3, HB.out.cell 4, HB.out.cell 5, HB.out.cell 6, HB.out.cell 7, HB.out.cell 8⟩ ?_
   try simp only [Act.put, qz0, qz1, qz2]
   refine T_takeD (k := 5) (v := .agg #[.int .i64 p.office, .int .i64 p.num, .slice a.n p.needs.length a.cn, .slice a.s p.st.length a.cs, .slice a.l p.pl.length a.cl, .slice a.m p.ma.length a.cm, .slice a.e p.er.length a.ce, .slice a.d p.dr.length a.cd, .slice a.r p.rt.length a.cr]) (d := some 42) rfl rfl (by decide +kernel) (fun _ _ _ h => h) (Or.inl ⟨by rfl, fun W hW => by obtain ⟨s0, t0, t1, t2, t3, t4, t5, t6, t7, t8⟩ := hW; go_simp⟩) ⟨HS.out.mm.bk.cell 3, HB.out.cell 0, HB.out.cell 1, HB.out.cell 2, HB.out.cell 3, HB.out.cell 4, HB.out.cell 5, HB.out.cell 6, HB.out.cell 7, HB.out.cell 8⟩ ?_
   try simp only [Act.put, qz0, qz1, qz2]
   refine T_oneS (i := 6) (by decide +kernel) (T_step rfl rfl (fun K hK6 => ?_))
   have hK6 := Lib.hid hK6
   go_simp
   go_at_call 38
   refine (refId_any p a _ HPb.out.pt (paE_ok Hpo.out.nd.2 Hpo.out.ok)).mono ?_
   rintro e wi ⟨rfl, hb_⟩
   have HS2 := Lib.hid (HS.out.keep hb_)
   have HB2 := Lib.hid (HB.out.below hb_ HB.out.lt)
   have HP2 := Lib.hid (HPb.out.below hb_)
   clear hb_ HS HB HPb
   have HS := HS2
   have HB := HB2
   have HPb := HP2
   clear HS2 HB2 HP2
   refine hK6.out _ _ ⟨HS.out.mm.bk.cell 3, HB.out.cell 0, HB.out.cell 1, HB.out.cell 2, HB.out.cell 3, HB.out.cell 4, HB.out.cell 5, HB.out.cell 6, HB.out.cell 7, HB.out.cell 8⟩ ?_
   try simp only [Act.put, qz0, qz1, qz2]
   refine T_oneS (i := 7) (by decide +kernel) (T_step rfl rfl (fun K hK7 => ?_))
   have hK7 := Lib.hid hK7
   go_simp
   have HL := Lib.hid (Bk.new wi 53 #[.int .u64 (idH p)])
   have HS2 := Lib.hid (HS.out.keep ((Below.refl _ _).alloc (Nat.le_refl _) (.cells #[.int .u64 (idH p)] 53)))
   have HB2 := Lib.hid (HB.out.alloc (.cells #[.int .u64 (idH p)] 53))
   have HP2 := Lib.hid (HPb.out.below ((Below.refl _ _).alloc (Nat.le_refl _) (.cells #[.int .u64 (idH p)] 53)))
   clear HS HB HPb
   have HS := HS2
   have HB := HB2
   have HPb := HP2
   clear HS2 HB2 HP2
   generalize wi.alloc (.cells #[.int .u64 (idH p)] 53) = Wl at *
   generalize wi.heap.size = h_ at *
   refine hK7.out _ _ ⟨HS.out.mm.bk.cell 3, HB.out.cell 0, HB.out.cell 1, HB.out.cell 2, HB.out.cell 3, HB.out.cell 4, HB.out.cell 5, HB.out.cell 6, HB.out.cell 7, HB.out.cell 8⟩ ?_
   try simp only [Act.put, qz0, qz1, qz2]
   refine T_oneS (i := 8) (by decide +kernel) (T_step rfl rfl (fun K hK8 => ?_))
   have hK8 := Lib.hid hK8
   refine app_wp3 (us := [.int .u64 (idH p)]) (xs := ids.map (Value.int .u64)) (n := j) (base := w.heap.size) (c := 1) (H := h_) (v := .slice I j cI) (.tmp 41) (.tmp 44) rfl elt_u64'.big (by simp [Act.eval]) (by simp [Act.eval]) HS.out.ri HL.out rfl rfl (by omega) HS.out.mm.below.size ?_
   intro v7 w7 hown7 hg7 hv7
   obtain ⟨I8, c7, rfl⟩ := own_slice hown7
   have Hm8 := Lib.hid (HS.out.mm.row HS.out.ri (by decide) hg7 (Nat.le_refl _))
   have HB8 := Lib.hid (HB.out.grown hg7 (HB.out.ne_own HS.out.ri (by decide)))
   have HF := Lib.hid (HS.out.id (x := idH p) hg7 hown7 (idH_u64 (paE_ok Hpo.out.nd.2 Hpo.out.ok)) hv7)
   clear hown7 hg7 hv7 HS HB HPb HL
   refine hK8.out _ _ ⟨Hm8.out.bk.cell 3, HB8.out.cell 0, HB8.out.cell 1, HB8.out.cell 2, HB8.out.cell 3, HB8.out.cell 4, HB8.out.cell 5, HB8.out.cell 6, HB8.out.cell 7, HB8.out.cell 8⟩ ?_
   try simp only [Act.put, qz0, qz1, qz2]
   refine T_oneS (i := 9) (by decide +kernel) (T_step rfl rfl (fun K hK9 => ?_))
   have hK9 := Lib.hid hK9
   go_simp
   refine hK9.out _ _ ⟨Hm8.out.bk.cell 3, HB8.out.cell 0, HB8.out.cell 1, HB8.out.cell 2, HB8.out.cell 3, HB8.out.cell 4, HB8.out.cell 5, HB8.out.cell 6, HB8.out.cell 7, HB8.out.cell 8⟩ ?_
   try simp only [Act.put, qz0, qz1, qz2]
   refine T_takeD (k := 10) (v := .pointer (some ⟨M, 3, none⟩)) (d := some 47) rfl rfl (by decide +kernel) (fun _ _ _ h => h) (Or.inl ⟨by rfl, fun W hW => by obtain ⟨s0, t0, t1, t2, t3, t4, t5, t6, t7, t8⟩ := hW; go_simp⟩) ⟨Hm8.out.bk.cell 3, HB8.out.cell 0, HB8.out.cell 1, HB8.out.cell 2, HB8.out.cell 3, HB8.out.cell 4, HB8.out.cell 5, HB8.out.cell 6, HB8.out.cell 7, HB8.out.cell 8⟩ ?_
   try simp only [Act.put, qz0, qz1, qz2]
   refine T_last (by decide +kernel) (by decide +kernel) (by decide +kernel) rfl rfl (fun K hKl => ?_)
   have hKl := Lib.hid hKl
   have d3 : w7.cell? ⟨M, 3, none⟩ = some (.slice I j cI) := Hm8.out.bk.cell 3
   have d4 := Hm8.out.bk.frozen 3
   go_simp
   refine hKl.out _ _ (NoPanic.normal ?_)
   try simp only [Act.put, qz0, qz1, qz2]
   clear hKl d3 d4 HB8 Hm8
   go_wp2_with fail
   go_roundw
   case rel => exact ⟨j + 1, at2, X8, I8, c8, c7, ps ++ [(p, a)], ids ++ [idH p], by omega, by omega, by go_num, by omega, HF⟩
   case measure => simp [intOf]; omega
  ·cases d1 : decide ((j : Int) < m)
   ·go_wp2_with fail
    go_ret
    exact ⟨ps, X, cX, by rw [HS.out.pl]; rfl, by rw [HS.out.pl]; exact hj8, by rw [HS.out.pl]; exact hjm, by rw [HS.out.pl]; exact HS.out.rx, HS.out.av, HS.out.nm, HS.out.cp, HS.out.mm.below⟩
   ·have d2 : ¬ at_ < l.length := fun h => hlt ⟨of_decide_eq_true d1, by omega⟩
    go_wp2_with fail
    go_ret
    exact ⟨ps, X, cX, by rw [HS.out.pl]; rfl, by rw [HS.out.pl]; exact hj8, by rw [HS.out.pl]; exact hjm, by rw [HS.out.pl]; exact HS.out.rx, HS.out.av, HS.out.nm, HS.out.cp, HS.out.mm.below⟩
end Go.Proofs.YtnapnkmehnabfaaGreat
