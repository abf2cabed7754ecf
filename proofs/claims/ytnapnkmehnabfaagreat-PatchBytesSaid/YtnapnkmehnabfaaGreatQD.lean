import Derived.Test.YtnapnkmehnabfaaGreatP52
import Derived.Test.YtnapnkmehnabfaaGreatP49
import Derived.Deep.MidRow
namespace Go.Proofs.YtnapnkmehnabfaaGreat
open Go.RowKit Go.Maps
set_option linter.unusedSimpArgs false in
set_option maxHeartbeats 4000000 in
set_option maxRecDepth 100000 in
theorem need_any (id : Int) (w : World) :
  Calls Tryz.prog 144 #[.slice none 0 0, .int .u64 id] w fun e w' => Below w.heap.size w w' ∧ ∃ A c, e = .returned (.slice A 1 c) ∧ w'.ownsRow w.heap.size 53 1 (.slice A 1 c) 1 [.int .u64 id] := by
 go_enter Tryz.func144, Tryz.ntmps144
 go_wp2_with fail
 go_loopw [5] (fun i wr => i = .int .i64 0 ∧ wr = w) (fun _ _ => 0)
 case atStart => exact ⟨rfl, rfl⟩
 case round =>
  obtain ⟨rfl, rfl⟩ := hrel;have hs0 : SL wr none [] := SL.nil_;have hz : wr.heap.size ≤ wr.heap.size := Nat.le_refl _;go_upto_region 8 with (at_builtin; refine wpList_appM' (w := wr) (us := []) (m := 0) (B := none) rfl _ _ rfl elt_u64' (World.ownsRow_nil wr wr.heap.size _ _) hz rfl rfl hs0 rfl rfl (by omega) ?_; intro v1 w1 hown1 hg1; obtain ⟨A1, c1, rfl⟩ := own_slice hown1)
  have hz1 : wr.heap.size ≤ w1.heap.size := hg1.size;go_upto_region 9 with (at_builtin; refine wpList_app2 (w := w1) rfl _ _ rfl elt_u64' hown1 hz1 rfl rfl (by simp) rfl rfl (by omega) ?_; intro v2 w2 hown2 hg2 hz2; obtain ⟨A2, c2, rfl⟩ := own_slice hown2)
  have hs2 : SL w2 none [] := SL.nil_;have hz3 : wr.heap.size ≤ w2.heap.size := Nat.le_trans hz1 hg2.size;go_wp2_with (at_builtin; refine wpList_appM' (w := w2) (us := []) (m := 0) (B := none) rfl _ _ rfl elt_u64' hown2 hz3 rfl rfl hs2 rfl rfl (by omega) ?_; intro v3 w3 hown3 hg3; obtain ⟨A3, c3, rfl⟩ := own_slice hown3)
  have hb1 : Below wr.heap.size wr w1 := (Below.refl _ _).grown hg1 (Nat.le_refl _) (fun j hj => by simp [Value.ownBlock] at hj);have hb2 : Below wr.heap.size wr w2 := hb1.grown hg2 hz1 (fun j hj => (hown1.lt j hj).1);have hb3 : Below wr.heap.size wr w3 := hb2.grown hg3 hz3 (fun j hj => (hown2.lt j hj).1);go_ret
  exact ⟨hb3, A3, c3, rfl, by simpa using hown3⟩
structure PO (p : Pa) : Prop where
 o : 0 ≤ p.office ∧ p.office ≤ 63
 num : 0 ≤ p.num ∧ p.num ≤ 1099511627776
 nd : p.needs.length ≤ 1 ∧ ∀ x ∈ p.needs, u64 x
 st : p.st.length ≤ 4096 ∧ ∀ s ∈ p.st, skE p.office s = 0
 pl : p.pl.length ≤ 4096 ∧ ∀ q ∈ p.pl, plE p.office q = 0
 ma : p.ma.length ≤ 4096 ∧ ∀ m ∈ p.ma, m.p ∈ p.needs ∧ (0 ≤ m.i ∧ m.i ≤ 4095) ∧ clE m.c = 0 ∧ m.c.office = p.office
 er : p.er.length ≤ 1 ∧ ∀ e ∈ p.er, e.1 ∈ p.needs ∧ (0 ≤ e.2 ∧ e.2 ≤ 4095)
 dr : p.dr.length ≤ 1 ∧ ∀ e ∈ p.dr, e.1 ∈ p.needs ∧ (0 ≤ e.2 ∧ e.2 ≤ 4095)
 rt : p.rt.length ≤ 4096 ∧ ∀ t ∈ p.rt, (0 ≤ t.1 ∧ t.1 ≤ 1048576) ∧ (0 ≤ t.2 ∧ t.2 ≤ 73048)
theorem each_z {f : Nat → Int} {n : Nat} (h : ∀ i, i < n → f i = 0) : eachE f n = 0 :=
 orE_zeros (fun e he => by
  obtain ⟨i, hi, rfl⟩ := List.mem_map.1 he;exact h i (List.mem_range.1 hi))
theorem idE_z {nd : List Int} {l : List (Int × Int)} (hl : l.length ≤ 1) (h : ∀ e ∈ l, e.1 ∈ nd ∧ (0 ≤ e.2 ∧ e.2 ≤ 4095)) : eachE (idE nd l) l.length = 0 := by
 refine each_z fun i hi => ?_;obtain rfl : i = 0 := by omega
 have hm := h _ (List.getElem_mem hi);have e : l.getD 0 (0, 0) = l[0] := by rw [List.getD_eq_getElem?_getD, List.getElem?_eq_getElem hi]; rfl
 unfold idE;rw [e, if_neg (by simpa using hm.1), if_neg (by simpa using hm.2), if_neg (by omega)]
theorem PO.ok {p : Pa} (h : PO p) : paE p = 0 := by
 refine orE_zeros fun e he => ?_;simp only [paL, List.mem_cons, List.not_mem_nil, or_false] at he;rcases he with rfl | rfl | rfl | rfl | rfl | rfl | rfl | rfl | rfl
 ·unfold argE; rw [if_pos ⟨h.o, h.num⟩]
 ·unfold limE;have h1 := h.nd.1; have h2 := h.er.1; have h3 := h.dr.1;rw [if_pos ⟨by omega, h.st.1, h.pl.1, h.ma.1, by omega, by omega, h.rt.1⟩]
 ·refine each_z fun i hi => ?_;have h1 := h.nd.1;unfold ndW;rw [if_neg (by omega)]
 ·refine each_z fun i hi => ?_;rw [skW, List.getElem?_eq_getElem hi];exact h.st.2 _ (List.getElem_mem hi)
 ·refine each_z fun i hi => ?_;rw [plW, List.getElem?_eq_getElem hi];exact h.pl.2 _ (List.getElem_mem hi)
 ·refine each_z fun i hi => ?_;rw [mkW, List.getElem?_eq_getElem hi];obtain ⟨h1, h2, h3, h4⟩ := h.ma.2 _ (List.getElem_mem hi);dsimp only;rw [if_neg (by simpa using h1), if_neg (fun h6 => h6.elim (fun h5 => h5 h2) (fun h6 => h6.elim (fun h5 => h5 h3) (fun h5 => h5 h4)))]
 ·exact idE_z h.er.1 h.er.2
 ·exact idE_z h.dr.1 h.dr.2
 refine each_z fun i hi => ?_;rw [rtW, List.getElem?_eq_getElem hi];dsimp only;rw [if_pos (h.rt.2 _ (List.getElem_mem hi))]
def NW (w wr : World) (a : Pw) : Prop := ∀ b o, a.n = some ⟨b, o, none⟩ → w.heap.size ≤ b ∧ b < wr.heap.size
theorem NW.size {w wr w' : World} {a : Pw} (h : NW w wr a) (hs : wr.heap.size ≤ w'.heap.size) : NW w w' a := fun b o e => ⟨(h b o e).1, Nat.lt_of_lt_of_le (h b o e).2 hs⟩
def CP (p : Pa) (a : Pw) : Prop := p.st.length ≤ a.cs ∧ p.ma.length ≤ a.cm ∧ p.er.length ≤ a.ce
structure PX (w0 w wr : World) (M S : Nat) (A : Option Addr) (c : Nat) (l : List Int) (at_ : Nat) (va vi : Value) (p : Pa) (a : Pw) : Prop where
 mm : MK w0 wr M A c l at_ va vi
 s : Bk wr S 34 (paC p a)
 z : Bk wr w.heap.size 34 (paC paZ pwZ)
 ne : w.heap.size < S
 pb : PB wr p a
 ok : PO p
 g : w.grownBy wr (some M)
 nw : NW w wr a
 cp : CP p a
section
variable {w0 w wr : World} {M S : Nat} {A : Option Addr} {c : Nat} {l : List Int} {at_ : Nat} {va vi : Value} {p : Pa} {a : Pw}
theorem PX.keep {w' : World} (h : PX w0 w wr M S A c l at_ va vi p a) (hb : Below wr.heap.size wr w') : PX w0 w w' M S A c l at_ va vi p a :=
 ⟨h.mm.keep hb, h.s.below hb h.s.lt, h.z.below hb h.z.lt, h.ne, h.pb.below hb, h.ok, grown_trans h.g (grown_below hb _), h.nw.size hb.size, h.cp⟩
theorem PX.next {w' : World} {at2 : Nat} (h : PX w0 w wr M S A c l at_ va vi p a) (hm : MK w0 w' M A c l at2 va vi) (hg : wr.grownBy w' (some M)) : PX w0 w w' M S A c l at2 va vi p a :=
 ⟨hm, h.s.grown hg (fun e => h.mm.bk.ne_ h.s (by decide) (Option.some.inj e).symm), h.z.grown hg (fun e => h.mm.bk.ne_ h.z (by decide) (Option.some.inj e).symm), h.ne, h.pb.grown hg (fun r e => by cases e; exact ⟨_, _, h.mm.bk, by decide⟩), h.ok, grown_trans h.g hg, h.nw.size hg.size, h.cp⟩
theorem PX.put {i : Nat} {v : Value} {p' : Pa} {a' : Pw} (h : PX w0 w wr M S A c l at_ va vi p a) (hw0 : w0.heap.size ≤ w.heap.size) (hc : (paC p a).setIfInBounds i v = paC p' a') (hpb : PB wr p' a') (hok : PO p') (hnw : NW w wr a') (hcp : CP p' a') :
  PX w0 w (wr.setCell ⟨S, i, none⟩ v) M S A c l at_ va vi p' a' :=
 ⟨h.mm.grown (grown_set wr S i v) h.s (by decide) (Nat.le_trans hw0 (Nat.le_of_lt h.ne)), hc ▸ h.s.set_ i v, h.z.far (p := ⟨S, i, none⟩) (fun e => by have := h.ne; simp only at e; omega) v, h.ne, hpb.store h.s (by decide) v, hok, grown_cell h.g (Nat.le_of_lt h.ne) v, hnw.size (grown_set wr S i v).size, hcp⟩
end
def AVs (w : World) (ps : List (Pa × Pw)) : Prop := ∀ q ∈ ps, PB w q.1 q.2 ∧ PO q.1
theorem AVs.grown {w w' : World} {ps : List (Pa × Pw)} {row : Option Nat} (h : AVs w ps) (hg : w.grownBy w' row) (hr : ∀ r, row = some r → ∃ t' cs, Bk w r t' cs ∧ t' ∉ paT) : AVs w' ps := fun q hq => ⟨(h q hq).1.grown hg hr, (h q hq).2⟩
theorem po_zero : PO paZ := ⟨by decide, by decide, ⟨by decide, fun x hx => by cases hx⟩, ⟨by decide, fun x hx => by cases hx⟩, ⟨by decide, fun x hx => by cases hx⟩, ⟨by decide, fun x hx => by cases hx⟩, ⟨by decide, fun x hx => by cases hx⟩, ⟨by decide, fun x hx => by cases hx⟩, ⟨by decide, fun x hx => by cases hx⟩⟩
theorem po_new {o n : Int} (ho : 0 ≤ o ∧ o ≤ 63) (hn : 0 ≤ n ∧ n ≤ 1099511627776) : PO ⟨o, n, [], [], [], [], [], [], []⟩ :=
 ⟨ho, hn, ⟨by simp, fun x hx => by cases hx⟩, ⟨by simp, fun x hx => by cases hx⟩, ⟨by simp, fun x hx => by cases hx⟩, ⟨by simp, fun x hx => by cases hx⟩, ⟨by simp, fun x hx => by cases hx⟩, ⟨by simp, fun x hx => by cases hx⟩, ⟨by simp, fun x hx => by cases hx⟩⟩
theorem grown_rowB {a b c : World} {m row : Option Nat} (h : a.grownBy b m) (hg : b.grownBy c row) (hr : ∀ r, row = some r → a.heap.size ≤ r) : a.grownBy c m :=
 ⟨hg.os.trans h.os, hg.tape.trans h.tape, hg.output.trans h.output, Nat.le_trans h.size hg.size, fun j hj hm => (hg.block j (Nat.lt_of_lt_of_le hj h.size) (fun e => by have := hr j e.symm; omega)).trans (h.block j hj hm)⟩
theorem MK.rowB {w0 w w' : World} {M base n size : Nat} {e : TypeId} {v : Value} {xs : List Value} {A : Option Addr} {c : Nat} {l : List Int} {at_ : Nat} {va vi : Value} (h : MK w0 w M A c l at_ va vi) (hown : w.ownsRow base e size v n xs) (he : e ≠ 98) (hg : w.grownBy w' v.ownBlock) (hb : w0.heap.size ≤ base) : MK w0 w' M A c l at_ va vi :=
 ⟨h.bk.grown hg (h.bk.ne_own hown he), h.below.grown hg h.below.size (fun k e => Nat.le_trans hb (hown.lt k e).1), h.m, h.si, h.l⟩
structure PXc (w0 w wr : World) (M S : Nat) (A : Option Addr) (c : Nat) (l : List Int) (at_ : Nat) (va vi : Value) (cs : Array Value) (p : Pa) (a : Pw) : Prop where
 mm : MK w0 wr M A c l at_ va vi
 s : Bk wr S 34 cs
 z : Bk wr w.heap.size 34 (paC paZ pwZ)
 ne : w.heap.size < S
 pb : PB wr p a
 ok : PO p
 g : w.grownBy wr (some M)
 nw : NW w wr a
 cp : CP p a
section
variable {w0 w wr : World} {M S : Nat} {A : Option Addr} {c : Nat} {l : List Int} {at_ : Nat} {va vi : Value} {cs : Array Value} {p p' : Pa} {a a' : Pw}
theorem PXc.px (h : PXc w0 w wr M S A c l at_ va vi cs p a) (e : cs = paC p a) : PX w0 w wr M S A c l at_ va vi p a := ⟨h.mm, e ▸ h.s, h.z, h.ne, h.pb, h.ok, h.g, h.nw, h.cp⟩
theorem PXc.put (h : PXc w0 w wr M S A c l at_ va vi cs p a) (i : Nat) (v : Value) (hw0 : w0.heap.size ≤ w.heap.size) : PXc w0 w (wr.setCell ⟨S, i, none⟩ v) M S A c l at_ va vi (cs.setIfInBounds i v) p a :=
 ⟨h.mm.grown (grown_set wr S i v) h.s (by decide) (Nat.le_trans hw0 (Nat.le_of_lt h.ne)), h.s.set_ i v, h.z.far (p := ⟨S, i, none⟩) (fun e => by have := h.ne; simp only at e; omega) v, h.ne, h.pb.store h.s (by decide) v, h.ok, grown_cell h.g (Nat.le_of_lt h.ne) v, h.nw.size (grown_set wr S i v).size, h.cp⟩
theorem PX.put9 (h : PX w0 w wr M S A c l at_ va vi p a) (hw0 : w0.heap.size ≤ w.heap.size) (hpb : PB wr p' a') (hok : PO p') (hnw : NW w wr a') (hcp : CP p' a') : PX w0 w (wr.setRow S (paC p' a')) M S A c l at_ va vi p' a' := by
 have hg := grown_row9 wr S (paC p' a');refine ⟨h.mm.grown hg h.s (by decide) (Nat.le_trans hw0 (Nat.le_of_lt h.ne)), h.s.row _, h.z.grown hg (fun e => by have := h.ne; have := Option.some.inj e; omega), h.ne, hpb.grown hg (fun r e => by cases e; exact ⟨_, _, h.s, by decide⟩), hok, ?_, hnw.size hg.size, hcp⟩;exact ⟨hg.os.trans h.g.os, hg.tape.trans h.g.tape, hg.output.trans h.g.output, Nat.le_trans h.g.size hg.size, fun j hj hm => (hg.block j (Nat.lt_of_lt_of_le hj h.g.size) (fun e => by have := Option.some.inj e; have := h.ne; omega)).trans (h.g.block j hj hm)⟩
theorem PX.row0 {w' : World} (h : PX w0 w wr M S A c l at_ va vi p a) (hg : wr.grownBy w' none) : PX w0 w w' M S A c l at_ va vi p a := h.keep (below_of_grown hg)
theorem PX.alloc (h : PX w0 w wr M S A c l at_ va vi p a) (ob : Obj) : PX w0 w (wr.alloc ob) M S A c l at_ va vi p a := h.keep ((Below.refl _ _).alloc (Nat.le_refl _) ob)
theorem PX.drew (h : PX w0 w wr M S A c l at_ va vi p a) : PX w0 w wr.drew M S A c l at_ va vi p a := h.keep (Below.refl _ _).drew
end
theorem pick3 {x : Int} (h : 0 ≤ x ∧ x < 3) : ∃ (j : Nat) (nm : ByteArray), x = (j : Int) ∧ j < 3 ∧ namB nm = true ∧ #[Value.string ⟨#[97, 97]⟩, .string ⟨#[98, 50]⟩, .string ⟨#[99, 45, 99]⟩][j]? = some (.string nm) := by
 obtain ⟨j, hj⟩ : ∃ j : Nat, x = (j : Int) := ⟨x.toNat, by omega⟩;have h3 : j < 3 := by omega
 have h : j = 0 ∨ j = 1 ∨ j = 2 := by omega
 rcases h with rfl | rfl | rfl
 ·exact ⟨0, _, hj, h3, by decide, rfl⟩
 ·exact ⟨1, _, hj, h3, by decide, rfl⟩
 exact ⟨2, _, hj, h3, by decide, rfl⟩
theorem po_pl {o n : Int} {sts : List Sk} {q : Plc} (h : PO ⟨o, n, [], sts, [], [], [], [], []⟩) (hq : plE o q = 0) : PO ⟨o, n, [], sts, [q], [], [], [], []⟩ :=
 ⟨h.o, h.num, h.nd, h.st, ⟨by simp, fun x hx => by rw [List.mem_singleton.1 hx]; exact hq⟩, h.ma, h.er, h.dr, h.rt⟩
theorem pl_ok {x y f o : Int} {nm : ByteArray} (hx : 0 ≤ x ∧ x ≤ 100) (hy : 0 ≤ y ∧ y ≤ 100) (hn : namB nm = true) (hf : 0 ≤ f ∧ f ≤ 1000) : plE o ⟨x, y, nm, o, f, f + 200⟩ = 0 := by
 have p1 : ptE x y = 0 := by unfold ptE; rw [if_pos (by omega)]
 unfold plE;rw [if_neg (by rw [p1]; decide), if_neg (by rw [hn]; decide), if_pos (by refine ⟨rfl, ?_, ?_, ?_⟩ <;> (dsimp only; omega))]
structure RXc (w0 w wr : World) (M : Nat) (A : Option Addr) (c : Nat) (l : List Int) (at_ : Nat) (va vi : Value) (cs : Array Value) (p : Pa) (a : Pw) : Prop where
 mm : MK w0 wr M A c l at_ va vi
 z : Bk wr w.heap.size 34 cs
 pb : PB wr p a
 g : w.grownBy wr (some M)
 nw : NW w wr a
structure OX (w0 w wr : World) (M S O : Nat) (A : Option Addr) (c : Nat) (l : List Int) (at_ : Nat) (va vi : Value) (p : Pa) (a : Pw) (q : Pa) (b : Pw) : Prop where
 px : PX w0 w wr M S A c l at_ va vi p a
 o : Bk wr O 34 (paC q b)
 so : S < O
 qb : ∀ W, w.grownBy W (some M) → PB W q b
 qo : PO q
section
variable {w0 w wr : World} {M S O : Nat} {A : Option Addr} {c : Nat} {l : List Int} {at_ : Nat} {va vi : Value} {cs : Array Value} {p p' : Pa} {a a' : Pw} {q : Pa} {b : Pw}
theorem RXc.put (h : RXc w0 w wr M A c l at_ va vi cs p a) (i : Nat) (v : Value) (hw0 : w0.heap.size ≤ w.heap.size) : RXc w0 w (wr.setCell ⟨w.heap.size, i, none⟩ v) M A c l at_ va vi (cs.setIfInBounds i v) p a :=
 ⟨h.mm.grown (grown_set wr w.heap.size i v) h.z (by decide) hw0, h.z.set_ i v, h.pb.store h.z (by decide) v, grown_cell h.g (Nat.le_refl _) v, h.nw.size (grown_set wr w.heap.size i v).size⟩
theorem PX.res (h : PX w0 w wr M S A c l at_ va vi p a) (hw0 : w0.heap.size ≤ w.heap.size) : RXc w0 w (((((((((wr.setCell ⟨w.heap.size, 0, none⟩ (.int .i64 p.office)).setCell ⟨w.heap.size, 1, none⟩ (.int .i64 p.num)).setCell ⟨w.heap.size, 2, none⟩ (.slice a.n p.needs.length a.cn)).setCell ⟨w.heap.size, 3, none⟩ (.slice a.s p.st.length a.cs)).setCell ⟨w.heap.size, 4, none⟩ (.slice a.l p.pl.length a.cl)).setCell ⟨w.heap.size, 5, none⟩ (.slice a.m p.ma.length a.cm)).setCell ⟨w.heap.size, 6, none⟩ (.slice a.e p.er.length a.ce)).setCell ⟨w.heap.size, 7, none⟩ (.slice a.d p.dr.length a.cd)).setCell ⟨w.heap.size, 8, none⟩ (.slice a.r p.rt.length a.cr)) M A c l at_ va vi (paC p a) p a := by
 have h9 := ((((((((((show RXc w0 w wr M A c l at_ va vi (paC paZ pwZ) p a from ⟨h.mm, h.z, h.pb, h.g, h.nw⟩)).put 0 (.int .i64 p.office) hw0).put 1 (.int .i64 p.num) hw0).put 2 (.slice a.n p.needs.length a.cn) hw0).put 3 (.slice a.s p.st.length a.cs) hw0).put 4 (.slice a.l p.pl.length a.cl) hw0).put 5 (.slice a.m p.ma.length a.cm) hw0).put 6 (.slice a.e p.er.length a.ce) hw0).put 7 (.slice a.d p.dr.length a.cd) hw0).put 8 (.slice a.r p.rt.length a.cr) hw0;have e : ((((((((((paC paZ pwZ).setIfInBounds 0 (.int .i64 p.office)).setIfInBounds 1 (.int .i64 p.num)).setIfInBounds 2 (.slice a.n p.needs.length a.cn)).setIfInBounds 3 (.slice a.s p.st.length a.cs)).setIfInBounds 4 (.slice a.l p.pl.length a.cl)).setIfInBounds 5 (.slice a.m p.ma.length a.cm)).setIfInBounds 6 (.slice a.e p.er.length a.ce)).setIfInBounds 7 (.slice a.d p.dr.length a.cd)).setIfInBounds 8 (.slice a.r p.rt.length a.cr)) = paC p a := by simp only [paC, List.setIfInBounds_toArray, List.set_cons_succ, List.set_cons_zero]
 rw [← e];exact h9
theorem OX.keep {w' : World} (h : OX w0 w wr M S O A c l at_ va vi p a q b) (hb : Below wr.heap.size wr w') : OX w0 w w' M S O A c l at_ va vi p a q b :=
 ⟨h.px.keep hb, h.o.below hb h.o.lt, h.so, h.qb, h.qo⟩
theorem OX.next {w' : World} {at2 : Nat} (h : OX w0 w wr M S O A c l at_ va vi p a q b) (hm : MK w0 w' M A c l at2 va vi) (hg : wr.grownBy w' (some M)) : OX w0 w w' M S O A c l at2 va vi p a q b :=
 ⟨h.px.next hm hg, h.o.grown hg (fun e => h.px.mm.bk.ne_ h.o (by decide) (Option.some.inj e).symm), h.so, h.qb, h.qo⟩
theorem OX.put {i : Nat} {v : Value} {p' : Pa} {a' : Pw} (h : OX w0 w wr M S O A c l at_ va vi p a q b) (hw0 : w0.heap.size ≤ w.heap.size) (hc : (paC p a).setIfInBounds i v = paC p' a') (hpb : PB wr p' a') (hok : PO p') (hnw : NW w wr a') (hcp : CP p' a') :
  OX w0 w (wr.setCell ⟨S, i, none⟩ v) M S O A c l at_ va vi p' a' q b :=
 ⟨h.px.put hw0 hc hpb hok hnw hcp, h.o.far (p := ⟨S, i, none⟩) (fun e => by have := h.so; simp only at e; omega) v, h.so, h.qb, h.qo⟩
theorem OX.qr (h : OX w0 w wr M S O A c l at_ va vi p a q b) : PB wr q b := h.qb _ h.px.g
theorem OX.mark {w8 : World} {o n x : Int} {st : List Sk} {ma ma' : List Mk} {er : List (Int × Int)} {k k8 : Nat} {v : Value} {vs : List Value} {Z8 : Option Addr} {c8 : Nat} {an as_ al am ae ad ar : Option Addr} {kn ks kl km ke kd kr : Nat}
  (h : OX w0 w wr M S O A c l at_ va vi ⟨o, n, [x], st, [], ma, er, [], []⟩ ⟨an, as_, al, am, ae, ad, ar, kn, ks, kl, km, ke, kd, kr⟩ q b) (hw0 : w0.heap.size ≤ w.heap.size) (hown : wr.ownsRow w.heap.size 88 7 v k vs) (hg : wr.grownBy w8 v.ownBlock)
  (hown8 : w8.ownsRow w.heap.size 88 7 (.slice Z8 k8 c8) k8 (ma'.flatMap mkC)) (hk : ma'.length = k8) (hok : PO ⟨o, n, [x], st, [], ma', er, [], []⟩) :
  OX w0 w (w8.setCell ⟨S, 5, none⟩ (.slice Z8 k8 c8)) M S O A c l at_ va vi ⟨o, n, [x], st, [], ma', er, [], []⟩ ⟨an, as_, al, Z8, ae, ad, ar, kn, ks, kl, c8, ke, kd, kr⟩ q b ∧ (w8.setCell ⟨S, 5, none⟩ (.slice Z8 k8 c8)).ownsRow w.heap.size 88 7 (.slice Z8 k8 c8) k8 (ma'.flatMap mkC) := by
 have hcap : ma'.length ≤ c8 := by rw [hk]; exact own_cap hown8
 subst hk;have m1 := h.px.mm.rowB hown (by decide) hg hw0;have s1 := h.px.s.grown hg (h.px.s.ne_own hown (by decide));have z1 := h.px.z.grown hg (h.px.z.ne_own hown (by decide));have o1 := h.o.grown hg (h.o.ne_own hown (by decide));have r1 : ∀ t, t ≠ 88 → ∀ r, v.ownBlock = some r → ∃ t' cs, Bk wr r t' cs ∧ t' ≠ t := fun t ht r e => by
  obtain ⟨cs, hb⟩ := own_row_bk hown e;exact ⟨_, cs, hb, fun e => ht e.symm⟩
 have g1 := grown_rowB h.px.g hg (fun r e => (hown.lt r e).1);have hp := h.px.pb;obtain ⟨ws, hs1, hs2⟩ := hp.s;have pb8 : PB w8 ⟨o, n, [x], st, [], ma', er, [], []⟩ ⟨an, as_, al, Z8, ae, ad, ar, kn, ks, kl, c8, ke, kd, kr⟩ :=
  ⟨hp.n.grown hg (r1 _ (by decide)), ⟨ws, hs1.grown hg (r1 _ (by decide)), hs2.grown hg (r1 _ (by decide))⟩, hp.l.grown hg (r1 _ (by decide)), SB.own hown8, hp.e.grown hg (r1 _ (by decide)), hp.d.grown hg (r1 _ (by decide)), hp.r.grown hg (r1 _ (by decide))⟩
 have c1 : PXc w0 w w8 M S A c l at_ va vi (paC ⟨o, n, [x], st, [], ma, er, [], []⟩ ⟨an, as_, al, am, ae, ad, ar, kn, ks, kl, km, ke, kd, kr⟩) ⟨o, n, [x], st, [], ma', er, [], []⟩ ⟨an, as_, al, Z8, ae, ad, ar, kn, ks, kl, c8, ke, kd, kr⟩ := ⟨m1, s1, z1, h.px.ne, pb8, hok, g1, h.px.nw.size hg.size, ⟨h.px.cp.1, hcap, h.px.cp.2.2⟩⟩;exact ⟨⟨(c1.put 5 (.slice Z8 ma'.length c8) hw0).px rfl, o1.far (p := ⟨S, 5, none⟩) (fun e => by have := h.so; simp only at e; omega) _, h.so, h.qb, h.qo⟩, own_set (i := 5) hown8 (s1.ne_own hown8 (by decide)) _⟩
theorem OX.row0 {w' : World} (h : OX w0 w wr M S O A c l at_ va vi p a q b) (hg : wr.grownBy w' none) : OX w0 w w' M S O A c l at_ va vi p a q b := h.keep (below_of_grown hg)
theorem OX.alloc (h : OX w0 w wr M S O A c l at_ va vi p a q b) (ob : Obj) : OX w0 w (wr.alloc ob) M S O A c l at_ va vi p a q b := h.keep ((Below.refl _ _).alloc (Nat.le_refl _) ob)
theorem OX.drew (h : OX w0 w wr M S O A c l at_ va vi p a q b) : OX w0 w wr.drew M S O A c l at_ va vi p a q b := h.keep (Below.refl _ _).drew
end
theorem id_get {w : World} {I : Option Addr} {ids : List Int} {k : Nat} (h : SL w I (ids.map (Value.int .u64))) (hk : k < ids.length) (hu : ∀ x ∈ ids, u64 x) :
  ∃ b o x, I = some ⟨b, o, none⟩ ∧ w.cell? ⟨b, o + k, none⟩ = some (.int .u64 x) ∧ u64 x := by
 obtain ⟨b, o, x, e, hc, hx⟩ := SU.get (show SU w I ids from h) hk;exact ⟨b, o, x, e, hc, hu _ (List.mem_of_getElem? hx.out)⟩
theorem po_nd {o n x : Int} (h : PO ⟨o, n, [], [], [], [], [], [], []⟩) (hx : u64 x) : PO ⟨o, n, [x], [], [], [], [], [], []⟩ :=
 ⟨h.o, h.num, ⟨by simp, fun y hy => by rw [List.mem_singleton.1 hy]; exact hx⟩, h.st, h.pl, ⟨by simp, fun x hx => by cases hx⟩, ⟨by simp, fun x hx => by cases hx⟩, ⟨by simp, fun x hx => by cases hx⟩, h.rt⟩
theorem po_er {o n x i : Int} (h : PO ⟨o, n, [x], [], [], [], [], [], []⟩) (hi : 0 ≤ i ∧ i ≤ 4095) : PO ⟨o, n, [x], [], [], [], [(x, i)], [], []⟩ :=
 ⟨h.o, h.num, h.nd, h.st, h.pl, h.ma, ⟨by simp, fun y hy => by rw [List.mem_singleton.1 hy]; exact ⟨by simp, hi⟩⟩, h.dr, h.rt⟩
theorem po_st {o n x i : Int} {s t : Sk} (h : PO ⟨o, n, [x], [], [], [], [(x, i)], [], []⟩) (hs : skE o s = 0) (ht : skE o t = 0) : PO ⟨o, n, [x], [s, t], [], [], [(x, i)], [], []⟩ :=
 ⟨h.o, h.num, h.nd, ⟨by simp, fun y hy => by simp at hy; rcases hy with rfl | rfl; exact hs; exact ht⟩, h.pl, h.ma, h.er, h.dr, h.rt⟩
theorem po_dr {o n x : Int} {st : List Sk} {ma : List Mk} {er : List (Int × Int)} (h : PO ⟨o, n, [x], st, [], ma, er, [], []⟩) : PO ⟨o, n, [x], st, [], ma, er, [(x, 0)], []⟩ :=
 ⟨h.o, h.num, h.nd, h.st, h.pl, h.ma, h.er, ⟨by simp, fun y hy => by rw [List.mem_singleton.1 hy]; exact ⟨by simp, by dsimp only; omega⟩⟩, h.rt⟩
theorem po_ma {o n x : Int} {st : List Sk} {ma : List Mk} {er : List (Int × Int)} {m : Mk} (h : PO ⟨o, n, [x], st, [], ma, er, [], []⟩) (hl : ma.length < 4096) (hx : m.p = x) (hi : 0 ≤ m.i ∧ m.i ≤ 4095) (hc : clE m.c = 0) (ho : m.c.office = o) : PO ⟨o, n, [x], st, [], ma ++ [m], er, [], []⟩ :=
 ⟨h.o, h.num, h.nd, h.st, h.pl, ⟨by simp; omega, fun y hy => (List.mem_append.1 hy).elim (h.ma.2 y) (fun hy => by rw [List.mem_singleton.1 hy]; exact ⟨by simp [hx], hi, hc, ho⟩)⟩, h.er, h.dr, h.rt⟩
theorem po_rt {o n : Int} {nd : List Int} {st : List Sk} {pl : List Plc} {ma : List Mk} {er dr : List (Int × Int)} {x y : Int} (h : PO ⟨o, n, nd, st, pl, ma, er, dr, []⟩) (hx : 0 ≤ x ∧ x ≤ 1048576) (hy : 0 ≤ y ∧ y ≤ 73048) : PO ⟨o, n, nd, st, pl, ma, er, dr, [(x, y)]⟩ :=
 ⟨h.o, h.num, h.nd, h.st, h.pl, h.ma, h.er, h.dr, ⟨by simp, fun z hz => by rw [List.mem_singleton.1 hz]; exact ⟨hx, hy⟩⟩⟩
theorem sk_pts {o : Int} {s : Sk} (h : skE o s = 0) : ptE s.ax s.ay = 0 ∧ ptE s.bx s.by_ = 0 := by
 unfold skE at h;split at h
 ·cases h
 rename_i h1;exact ⟨Classical.byContradiction fun h2 => h1 (.inl h2), Classical.byContradiction fun h2 => h1 (.inr h2)⟩
theorem sk_two {o ax ay bx by_ : Int} {c : Cl} (h1 : ptE ax ay = 0) (h2 : ptE bx by_ = 0) (h3 : ¬ (ax = bx ∧ ay = by_)) (hc : clE c = 0) (ho : c.office = o) : skE o ⟨ax, ay, bx, by_, [c]⟩ = 0 := by
 unfold skE;dsimp only;rw [if_neg (by rw [h1, h2]; simp), if_neg h3, if_neg (by simp)];refine orE_zeros (fun e he => ?_);obtain ⟨i, hi, rfl⟩ := List.mem_map.1 he;obtain rfl : i = 0 := by simpa using hi
 show clW o [c] 0 = 0;simp [clW, hc, ho]
end Go.Proofs.YtnapnkmehnabfaaGreat
