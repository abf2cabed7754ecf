import Derived.Test.YtnapnkmehnabfaaGreatW2
set_option maxHeartbeats 2000000
set_option maxRecDepth 100000
namespace Go.Proofs.YtnapnkmehnabfaaGreat
open Go.RowKit Go.Maps
def u64 (x : Int) : Prop := 0 ≤ x ∧ x < 18446744073709551616
def clB (c : Cl) : List Nat := vbs [c.kind, c.office, c.fr, c.til, c.dec]
def idB (t : Int × Int) : List Nat := vb t.1.toNat ++ vb (zz t.2)
def lsB {α : Type} (f : α → List Nat) (l : List α) : List Nat := vb (zz l.length) ++ l.flatMap f
def skB (s : Sk) : List Nat := vbs [s.ax, s.ay, s.bx, s.by_] ++ lsB clB s.cl
def plB (p : Plc) : List Nat := vbs [p.x, p.y] ++ (vb p.nm.size ++ bl p.nm) ++ vbs [p.office, p.fr, p.til]
def mkB (m : Mk) : List Nat := idB (m.p, m.i) ++ clB m.c
def rtB (t : Int × Int) : List Nat := vbs [t.1, t.2]
def ndB (n : Int) : List Nat := vb n.toNat
def paB (p : Pa) : List Nat := vbs [p.office, p.num] ++ lsB ndB p.needs ++ lsB skB p.st ++ lsB plB p.pl ++ lsB mkB p.ma ++ lsB idB p.er ++ lsB idB p.dr ++ lsB rtB p.rt
def clW64 (c : Cl) : Prop := i64 c.kind ∧ i64 c.office ∧ i64 c.fr ∧ i64 c.til ∧ i64 c.dec
def idW64 (t : Int × Int) : Prop := u64 t.1 ∧ i64 t.2
def skW64 (s : Sk) : Prop := i64 s.ax ∧ i64 s.ay ∧ i64 s.bx ∧ i64 s.by_ ∧ ∀ c ∈ s.cl, clW64 c
def plW64 (p : Plc) : Prop := i64 p.x ∧ i64 p.y ∧ i64 p.office ∧ i64 p.fr ∧ i64 p.til
def mkW64 (m : Mk) : Prop := u64 m.p ∧ i64 m.i ∧ clW64 m.c
def rtW64 (t : Int × Int) : Prop := i64 t.1 ∧ i64 t.2
structure PW64 (p : Pa) : Prop where
 o : i64 p.office
 k : i64 p.num
 n : ∀ x ∈ p.needs, u64 x
 s : ∀ x ∈ p.st, skW64 x
 l : ∀ x ∈ p.pl, plW64 x
 m : ∀ x ∈ p.ma, mkW64 x
 e : ∀ x ∈ p.er, idW64 x
 d : ∀ x ∈ p.dr, idW64 x
 r : ∀ x ∈ p.rt, rtW64 x
theorem w64_nil : W64 [] := fun z h => by cases h
theorem w64_cons {x : Int} {l : List Int} (h : i64 x) (hl : W64 l) : W64 (x :: l) := fun z hz => by
 rcases List.mem_cons.1 hz with e | e
 ·rw [e]; exact h
 exact hl z e
theorem WR.drew {w : World} {base p : Nat} {v : Value} {d : List Nat} (h : WR w base p v d) : WR w.drew base p v d := ⟨h.hp, h.own, h.bp⟩
theorem qInts_any (base p g c : Nat) (v : Value) (d : List Nat) (l : List Int) (w : World) (hg : Bk w g 3 (rowI l)) (hl : W64 l) (hll : l.length ≤ 10000) (h : WR w base p v d) (hd : d.length ≤ 800000000) :
  Calls Tryz.prog 51 #[.pointer (some ⟨p, 0, none⟩), .slice (some ⟨g, 0, none⟩) l.length c] w fun e w' => ∃ v', e = .returned (.tuple #[]) ∧ WR w' base p v' (d ++ vbs l) ∧ Below base w w' ∧ Nb w w' p := by
 have H := q9 h;have Hg := q9 hg;have hgp : g ≠ p := hg.ne_ h.hp (by decide);clear h hg;go_enter Tryz.func51, Tryz.ntmps51
 go_wp2_with fail
 go_loopw [8] (fun i wr => ∃ (k : Nat) (v' : Value), k ≤ l.length ∧ i = .int .i64 k ∧ WR wr base p v' (d ++ vbs (l.take k)) ∧ Below base w wr ∧ Hid (Nb w wr p)) (fun i _ => l.length - (intOf i).toNat)
 case atStart => exact ⟨0, v, by omega, rfl, by simpa [vbs] using H.out, Below.refl _ _, q9 (Nb.refl _ _)⟩
 case round =>
  clear H;obtain ⟨k, v', hk, rfl, hW, hb, hnb⟩ := hrel;by_cases hlt : k < l.length
  ·obtain ⟨x, hx⟩ : ∃ x, l[k]? = some x := ⟨_, List.getElem?_eq_getElem hlt⟩;have hc : wr.cell? ⟨g, k, none⟩ = some (.int .i64 x) := ((hnb.out g 3 _ hgp (by decide) Hg.out).cell k).trans (rowI_get hx);have hx64 := hl x (List.mem_of_getElem? hx);have hvl := vbs_len (l.take k) (fun z hz => hl z (List.mem_of_mem_take hz));have htl : (l.take k).length ≤ k := by simp; omega
   have htk := q9 (take_snoc' hx);have HW := q9 hW;have Hb := q9 hb;clear hW hb hx;go_wp2_with fail
   refine (qInt_any base p v' (d ++ vbs (l.take k)) x wr hx64 HW.out (by simp only [List.length_append]; omega)).mono ?_;rintro e w2 ⟨v2, rfl, hW2, hb2, hn2⟩;have HW2 := q9 hW2;have Hb2 := q9 hb2;have Hn2 := q9 hn2;clear hW2 hb2 hn2;go_wp2_with fail
   go_roundw
   case rel => exact ⟨k + 1, v2, by omega, by go_num, by rw [htk.out, vbs_snoc, ← List.append_assoc]; exact HW2.out, Hb.out.trans Hb2.out, q9 (hnb.out.trans Hn2.out)⟩
   case measure => simp [intOf]; omega
  obtain rfl : k = l.length := by omega
  rw [List.take_length] at hW;have HW := q9 hW;have Hb := q9 hb;clear hW hb;go_wp2_with fail
  go_end0
  exact ⟨v', rfl, HW.out, Hb.out, hnb.out⟩
theorem qClaim_any (base p : Nat) (v : Value) (d : List Nat) (k o f t ee : Int) (hw : clW64 ⟨k, o, f, t, ee⟩) (w : World) (h : WR w base p v d) (hd : d.length ≤ 700000000) :
  Calls Tryz.prog 57 #[.pointer (some ⟨p, 0, none⟩), .agg #[.int .i64 k, .int .i64 o, .int .i64 f, .int .i64 t, .int .i64 ee]] w fun e w' => ∃ v', e = .returned (.tuple #[]) ∧ WR w' base p v' (d ++ clB ⟨k, o, f, t, ee⟩) ∧ Below base w w' ∧ Nb w w' p := by
 have hW1 := (h.alloc (.cells #[.int .i64 k, .int .i64 o, .int .i64 f, .int .i64 t, .int .i64 ee] 41)).alloc (.cells #[.int .i64 k, .int .i64 o, .int .i64 f, .int .i64 t, .int .i64 ee] 3);have hb1 := ((Below.refl base w).alloc h.size (.cells #[.int .i64 k, .int .i64 o, .int .i64 f, .int .i64 t, .int .i64 ee] 41)).alloc (h.alloc _).size (.cells #[.int .i64 k, .int .i64 o, .int .i64 f, .int .i64 t, .int .i64 ee] 3);have hn1 := ((Nb.refl w p).alloc (.cells #[.int .i64 k, .int .i64 o, .int .i64 f, .int .i64 t, .int .i64 ee] 41)).alloc (.cells #[.int .i64 k, .int .i64 o, .int .i64 f, .int .i64 t, .int .i64 ee] 3);have hg : Bk ((w.alloc (.cells #[.int .i64 k, .int .i64 o, .int .i64 f, .int .i64 t, .int .i64 ee] 41)).alloc (.cells #[.int .i64 k, .int .i64 o, .int .i64 f, .int .i64 t, .int .i64 ee] 3)) (w.heap.size + 1) 3 (rowI [k, o, f, t, ee]) := Bk.new' _ _ _ (by simp);have HC := q9 (qInts_any base p _ 5 v d [k, o, f, t, ee] _ hg (w64_cons hw.1 (w64_cons hw.2.1 (w64_cons hw.2.2.1 (w64_cons hw.2.2.2.1 (w64_cons hw.2.2.2.2 w64_nil))))) (by simp) hW1 (by omega));have Hb1 := q9 hb1;have Hn1 := q9 hn1;clear h hW1 hb1 hn1 hg;go_enter Tryz.func57, Tryz.ntmps57
 go_wp2_with fail
 refine HC.out.mono ?_;rintro e w2 ⟨v2, rfl, hW2, hb2, hn2⟩;have HW2 := q9 hW2;have Hb2 := q9 hb2;have Hn2 := q9 hn2;clear hW2 hb2 hn2;go_wp2_with fail
 go_end0
 exact ⟨v2, rfl, HW2.out, Hb1.out.trans Hb2.out, Hn1.out.trans Hn2.out⟩
theorem qName_any (base p : Nat) (v : Value) (d : List Nat) (x y : Int) (hw : idW64 (x, y)) (w : World) (h : WR w base p v d) (hd : d.length ≤ 700000000) :
  Calls Tryz.prog 63 #[.pointer (some ⟨p, 0, none⟩), .agg #[.int .u64 x, .int .i64 y]] w fun e w' => ∃ v', e = .returned (.tuple #[]) ∧ WR w' base p v' (d ++ idB (x, y)) ∧ Below base w w' ∧ Nb w w' p := by
 obtain ⟨n, rfl⟩ : ∃ n : Nat, x = n := ⟨x.toNat, by have := hw.1.1; simp at this; omega⟩;have hn : n < 18446744073709551616 := by have := hw.1.2; simp at this; omega
 have hv10 := vb_ten hn;have hW1 := h.alloc (.cells #[.int .u64 n, .int .i64 y] 77);have hb1 := (Below.refl base w).alloc h.size (.cells #[.int .u64 n, .int .i64 y] 77);have hn1 := (Nb.refl w p).alloc (.cells #[.int .u64 n, .int .i64 y] 77);have hk := Bk.new w 77 #[.int .u64 n, .int .i64 y];have hgp : w.heap.size ≠ p := hk.ne_ hW1.hp (by decide);have HW1 := q9 hW1;have Hb1 := q9 hb1;have Hn1 := q9 hn1;have Hk := q9 hk;have Hy := q9 hw.2;have HSf := q9 (fun (W : World) (h : Bk W w.heap.size 77 #[.int .u64 n, .int .i64 y]) => show W.cell? ⟨w.heap.size, 0, none⟩ = some (.int .u64 n) ∧ W.cell? ⟨w.heap.size, 1, none⟩ = some (.int .i64 y) from ⟨h.cell 0, h.cell 1⟩);have HW0 := q9 hW1.drew;have HB0 := q9 hb1.drew;have HN0 := q9 (show Nb w ((w.alloc (.cells #[.int .u64 n, .int .i64 y] 77)).drew) p from hn1);have HK0 := q9 (show Bk ((w.alloc (.cells #[.int .u64 n, .int .i64 y] 77)).drew) w.heap.size 77 #[.int .u64 n, .int .i64 y] from hk);clear h hW1 hb1 hn1 hk hw HW1 Hb1 Hn1 Hk;go_enter Tryz.func63, Tryz.ntmps63
 go_upto_region 1 with fail
 generalize w.heap.size = g at *;generalize w.alloc (.cells #[.int .u64 n, .int .i64 y] 77) = W0 at *;refine rH 6 (fun W => W.cell? ⟨g, 0, none⟩ = some (.int .u64 n) ∧ W.cell? ⟨g, 1, none⟩ = some (.int .i64 y)) ?_;generalize W0.drew = X0 at *;refine Ht 0 (.pointer (some ⟨p, 0, none⟩)) 4 rfl rfl rfl (fun W hW => by obtain ⟨s0, s1⟩ := hW; go_simp) (HSf.out _ HK0.out) ?_;refine Ht 1 (.pointer (some ⟨p, 0, none⟩)) 5 rfl rfl rfl (fun W hW => by obtain ⟨s0, s1⟩ := hW; go_simp) (HSf.out _ HK0.out) ?_;refine Ht 2 (.pointer (some ⟨p, 0, none⟩)) 6 rfl rfl rfl (fun W hW => by obtain ⟨s0, s1⟩ := hW; go_simp) (HSf.out _ HK0.out) ?_;refine Ht 3 (.pointer (some ⟨g, 0, none⟩)) 7 rfl rfl rfl (fun W hW => by obtain ⟨s0, s1⟩ := hW; go_simp) (HSf.out _ HK0.out) ?_;refine Ht 4 (.int .u64 n) 8 rfl rfl rfl (fun W hW => by obtain ⟨s0, s1⟩ := hW; go_simp) (HSf.out _ HK0.out) ?_;try simp only [Act.put, qz0, qz1, qz2]
 refine H1 5 rfl rfl (fun K hK5 => ?_);go_simp
 go_at_call 53
 refine (qU_any base p v d n X0 hn HW0.out (by omega)).mono ?_;rintro e wv1 ⟨v1, rfl, hw1, hb1, hn1⟩;have HW1 := q9 hw1;have HB1 := q9 (HB0.out.trans hb1);have HN1 := q9 (HN0.out.trans hn1);have HK1 := q9 (hn1 _ _ _ hgp (by decide) HK0.out);clear hw1 hb1 hn1;refine hK5.out _ _ (HSf.out _ HK1.out) ?_;try simp only [Act.put, qz0, qz1, qz2]
 refine H0 ?_;try simp only [Act.put, qz0, qz1, qz2]
 go_wp2_with fail
 go_upto_region 2 with fail
 have HW2 := q9 HW1.out.drew;have HB2 := q9 HB1.out.drew;have HN2 := q9 (show Nb w wv1.drew p from HN1.out);have HK2 := q9 (show Bk wv1.drew g 77 #[.int .u64 n, .int .i64 y] from HK1.out);clear HW1 HB1 HN1 HK1 HK0 HB0 HN0 HW0;refine rH 6 (fun W => W.cell? ⟨g, 0, none⟩ = some (.int .u64 n) ∧ W.cell? ⟨g, 1, none⟩ = some (.int .i64 y)) ?_;generalize wv1.drew = X2 at *;refine Ht 0 (.pointer (some ⟨p, 0, none⟩)) 10 rfl rfl rfl (fun W hW => by obtain ⟨s0, s1⟩ := hW; go_simp) (HSf.out _ HK2.out) ?_;refine Ht 1 (.pointer (some ⟨p, 0, none⟩)) 11 rfl rfl rfl (fun W hW => by obtain ⟨s0, s1⟩ := hW; go_simp) (HSf.out _ HK2.out) ?_;refine Ht 2 (.pointer (some ⟨p, 0, none⟩)) 12 rfl rfl rfl (fun W hW => by obtain ⟨s0, s1⟩ := hW; go_simp) (HSf.out _ HK2.out) ?_;refine Ht 3 (.pointer (some ⟨g, 1, none⟩)) 13 rfl rfl rfl (fun W hW => by obtain ⟨s0, s1⟩ := hW; go_simp) (HSf.out _ HK2.out) ?_;refine Ht 4 (.int .i64 y) 14 rfl rfl rfl (fun W hW => by obtain ⟨s0, s1⟩ := hW; go_simp) (HSf.out _ HK2.out) ?_;try simp only [Act.put, qz0, qz1, qz2]
 refine H1 5 rfl rfl (fun K hK5 => ?_);go_simp
 go_at_call 146
 refine (qInt_any base p v1 _ y X2 Hy.out HW2.out (by simp only [List.length_append]; omega)).mono ?_;rintro e wv3 ⟨v3, rfl, hw3, hb3, hn3⟩;have HW3 := q9 hw3;have HB3 := q9 (HB2.out.trans hb3);have HN3 := q9 (HN2.out.trans hn3);have HK3 := q9 (hn3 _ _ _ hgp (by decide) HK2.out);clear hw3 hb3 hn3;refine hK5.out _ _ (HSf.out _ HK3.out) ?_;try simp only [Act.put, qz0, qz1, qz2]
 refine H0 ?_;try simp only [Act.put, qz0, qz1, qz2]
 go_wp2_with fail
 go_end0
 exact ⟨v3, rfl, by rw [show idB ((n : Int), y) = vb n ++ vb (zz y) from rfl, ← List.append_assoc]; exact HW3.out, HB3.out, HN3.out⟩
end Go.Proofs.YtnapnkmehnabfaaGreat
