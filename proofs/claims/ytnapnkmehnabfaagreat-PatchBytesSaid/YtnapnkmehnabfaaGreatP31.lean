import Derived.Test.YtnapnkmehnabfaaGreatP30
set_option linter.unusedSimpArgs false
set_option maxHeartbeats 4000000
set_option maxRecDepth 100000
namespace Go.Proofs.YtnapnkmehnabfaaGreat
open Go.RowKit Go.Maps
theorem flat_len {α : Type} (f : α → List Nat) (K : Nat) : ∀ l : List α, (∀ x ∈ l, (f x).length ≤ K) → (l.flatMap f).length ≤ l.length * K
 | [], _ => by simp
 | x :: l, h => by
  have h1 := h x (by simp);have h2 := flat_len f K l (fun y hy => h y (by simp [hy]));rw [List.flatMap_cons, List.length_append, List.length_cons, Nat.succ_mul];omega
theorem flat_take {α : Type} (f : α → List Nat) {l : List α} {k : Nat} {x : α} (h : l[k]? = some x) : (l.take (k + 1)).flatMap f = (l.take k).flatMap f ++ f x := by
 rw [take_snoc' h, List.flatMap_append, List.flatMap_cons, List.flatMap_nil, List.append_nil]
theorem zz_len {n : Nat} (h : n ≤ 1000000) : (vb (zz (n : Int))).length ≤ 10 := vb_ten (zz_lt (by omega))
theorem clB_len {c : Cl} (h : clW64 c) : (clB c).length ≤ 50 := vbs_len [c.kind, c.office, c.fr, c.til, c.dec] (w64_cons h.1 (w64_cons h.2.1 (w64_cons h.2.2.1 (w64_cons h.2.2.2.1 (w64_cons h.2.2.2.2 w64_nil)))))
theorem idB_len {t : Int × Int} (h : idW64 t) : (idB t).length ≤ 20 := by
 have h1 : (vb t.1.toNat).length ≤ 10 := vb_ten (by have := h.1.1; have := h.1.2; omega);have h2 : (vb (zz t.2)).length ≤ 10 := vb_ten (zz_lt h.2);rw [idB, List.length_append]; omega
theorem ndB_len {n : Int} (h : u64 n) : (ndB n).length ≤ 10 := vb_ten (by have := h.1; have := h.2; omega)
theorem mkB_len {m : Mk} (h : mkW64 m) : (mkB m).length ≤ 70 := by
 have h1 := idB_len (t := (m.p, m.i)) ⟨h.1, h.2.1⟩;have h2 := clB_len h.2.2;rw [mkB, List.length_append]; omega
theorem rtB_len {t : Int × Int} (h : rtW64 t) : (rtB t).length ≤ 20 := vbs_len [t.1, t.2] (w64_cons h.1 (w64_cons h.2 w64_nil))
theorem plB_len {p : Plc} (h : plW64 p) (hs : p.nm.size ≤ 1000) : (plB p).length ≤ 1060 := by
 have h1 := vbs_len [p.x, p.y] (w64_cons h.1 (w64_cons h.2.1 w64_nil));have h2 := vbs_len [p.office, p.fr, p.til] (w64_cons h.2.2.1 (w64_cons h.2.2.2.1 (w64_cons h.2.2.2.2 w64_nil)));have h3 : (vb p.nm.size).length ≤ 10 := vb_ten (by omega);simp only [plB, List.length_append, bl_len, List.length_cons, List.length_nil] at h1 h2 ⊢;omega
theorem lsB_len {α : Type} (f : α → List Nat) (K : Nat) (l : List α) (h : ∀ x ∈ l, (f x).length ≤ K) (hl : l.length ≤ 1000000) : (lsB f l).length ≤ 10 + l.length * K := by
 have h1 := flat_len f K l h;have h2 := zz_len hl;rw [lsB, List.length_append]; omega
theorem skB_len {s : Sk} (h : skW64 s) (hs : s.cl.length ≤ 64) : (skB s).length ≤ 3250 := by
 have h1 := vbs_len [s.ax, s.ay, s.bx, s.by_] (w64_cons h.1 (w64_cons h.2.1 (w64_cons h.2.2.1 (w64_cons h.2.2.2.1 w64_nil))));have h2 := lsB_len clB 50 s.cl (fun c hc => clB_len (h.2.2.2.2 c hc)) (by omega);have h3 : s.cl.length * 50 ≤ 64 * 50 := Nat.mul_le_mul_right 50 hs;simp only [skB, List.length_append, List.length_cons, List.length_nil] at h1 h2 ⊢;omega
theorem lsU_any (base p : Nat) (v : Value) (d : List Nat) (A : Option Addr) (c : Nat) (l : List Int) (w0 w : World) (h0 : SU w0 A l) (hb0 : w0.heap.size ≤ base) (hw0 : Below base w0 w) (hwf : ∀ x ∈ l, (u64) x) (hl : l.length ≤ 4096) (h : WR w base p v d) (hd : d.length ≤ 500000000) :
  Calls Tryz.prog 52 #[.pointer (some ⟨p, 0, none⟩), .slice A l.length c, .func (.func 53) #[.pointer (some ⟨p, 0, none⟩)] #[]] w fun e w' => ∃ v', e = .returned (.tuple #[]) ∧ WR w' base p v' (d ++ lsB ndB l) ∧ Below base w w' ∧ Nb w w' p := by
 have HC := q9 (fun (W : World) (hW : Below base w W) => (show SU W A l from h0.below ((hw0.trans hW).mono hb0)));have Hwf := q9 hwf;have hlen10 := zz_len (n := l.length) (by omega);have H := q9 h;clear h h0 hb0 hw0 hwf;go_enter Tryz.func52, Tryz.ntmps52
 go_wp2_with fail
 refine (qInt_any base p v d l.length w (by omega) H.out (by omega)).mono ?_;rintro e w1 ⟨v1, rfl, hW1, hb1, hn1⟩;have HW1 := q9 hW1;have Hb1 := q9 hb1;have Hn1 := q9 hn1;clear hW1 hb1 hn1;go_wp2_with fail
 go_loopw [16] (fun i wr => ∃ (k : Nat) (v' : Value), k ≤ l.length ∧ i = .int .i64 k ∧ Hid (WR wr base p v' (d ++ vb (zz l.length) ++ (l.take k).flatMap ndB)) ∧ Hid (Below base w wr ∧ Nb w wr p)) (fun i _ => l.length - (intOf i).toNat)
 case atStart => exact ⟨0, v1, by omega, rfl, q9 (by simpa using HW1.out), q9 ⟨Hb1.out, Hn1.out⟩⟩
 case round =>
  clear HW1 Hb1 Hn1 H;obtain ⟨k, v', hk, rfl, hW, hbn⟩ := hrel;have k0 : (0 : Int) ≤ (k : Int) := by omega
  by_cases hlt : k < l.length
  ·obtain ⟨bC, oC, n, hae, c0, hx⟩ := (HC.out wr hbn.out.1).get (k := k) hlt;have hw := Hwf.out _ (List.mem_of_getElem? hx.out);have htk := q9 (flat_take ndB hx.out);have hfl : ((l.take k).flatMap ndB).length ≤ l.length * 10 := by
    refine Nat.le_trans (flat_len ndB 10 (l.take k) (fun x hx => by have hw := Hwf.out x (List.mem_of_mem_take hx); exact ndB_len hw)) ?_;exact Nat.mul_le_mul_right 10 (by simp; omega)
   have hdl : (d ++ vb (zz l.length) ++ (l.take k).flatMap ndB).length ≤ 500000000 + 20000000 := by
    have := Nat.mul_le_mul_right 10 hl;simp only [List.length_append]; omega
   have HW2 := q9 (hW.out);have HB2 := q9 (hbn.out.1);have HN2 := q9 (hbn.out.2);obtain ⟨m, rfl⟩ : ∃ m : Nat, n = m := ⟨n.toNat, by have := hw.1; omega⟩;have HE := q9 (qU_any base p v' _ m wr (by have := hw.2; omega) HW2.out (by omega));clear hx hw;rw [hae];go_wp2_with fail
   refine HE.out.mono ?_;rintro e w3 ⟨v3, rfl, hW3, hb3, hn3⟩;have HW3 := q9 hW3;have HB3 := q9 (HB2.out.trans hb3);have HN3 := q9 (HN2.out.trans hn3);clear hW3 hb3 hn3 HE HW2 HB2 HN2 hW hbn;go_wp2_with fail
   go_roundw
   case rel => exact ⟨k + 1, v3, by omega, by go_num, q9 (by rw [htk.out, ← List.append_assoc]; exact HW3.out), q9 ⟨HB3.out, HN3.out⟩⟩
   case measure => simp [intOf]; omega
  obtain rfl : k = l.length := by omega
  have HW := q9 (show WR wr base p v' (d ++ lsB ndB l) from by have h := hW.out; rw [List.take_length, List.append_assoc] at h; exact h);clear hW;go_wp2_with fail
  go_end0
  exact ⟨v', rfl, HW.out, hbn.out.1, hbn.out.2⟩
theorem lsC_any (base p : Nat) (v : Value) (d : List Nat) (A : Option Addr) (c : Nat) (l : List Cl) (w0 w : World) (h0 : SC w0 A l) (hb0 : w0.heap.size ≤ base) (hw0 : Below base w0 w) (hwf : ∀ x ∈ l, (clW64) x) (hl : l.length ≤ 4096) (h : WR w base p v d) (hd : d.length ≤ 600000000) :
  Calls Tryz.prog 56 #[.pointer (some ⟨p, 0, none⟩), .slice A l.length c, .func (.func 57) #[.pointer (some ⟨p, 0, none⟩)] #[]] w fun e w' => ∃ v', e = .returned (.tuple #[]) ∧ WR w' base p v' (d ++ lsB clB l) ∧ Below base w w' ∧ Nb w w' p := by
 have HC := q9 (fun (W : World) (hW : Below base w W) => (show SC W A l from h0.below ((hw0.trans hW).mono hb0)));have Hwf := q9 hwf;have hlen10 := zz_len (n := l.length) (by omega);have H := q9 h;clear h h0 hb0 hw0 hwf;go_enter Tryz.func56, Tryz.ntmps56
 go_wp2_with fail
 refine (qInt_any base p v d l.length w (by omega) H.out (by omega)).mono ?_;rintro e w1 ⟨v1, rfl, hW1, hb1, hn1⟩;have HW1 := q9 hW1;have Hb1 := q9 hb1;have Hn1 := q9 hn1;clear hW1 hb1 hn1;go_wp2_with fail
 go_loopw [16] (fun i wr => ∃ (k : Nat) (v' : Value), k ≤ l.length ∧ i = .int .i64 k ∧ Hid (WR wr base p v' (d ++ vb (zz l.length) ++ (l.take k).flatMap clB)) ∧ Hid (Below base w wr ∧ Nb w wr p)) (fun i _ => l.length - (intOf i).toNat)
 case atStart => exact ⟨0, v1, by omega, rfl, q9 (by simpa using HW1.out), q9 ⟨Hb1.out, Hn1.out⟩⟩
 case round =>
  clear HW1 Hb1 Hn1 H;obtain ⟨k, v', hk, rfl, hW, hbn⟩ := hrel;have k0 : (0 : Int) ≤ (k : Int) := by omega
  by_cases hlt : k < l.length
  ·obtain ⟨bC, oC, ⟨t1, t2, t3, t4, t5⟩, hae, c0, c1, c2, c3, c4, hx⟩ := (HC.out wr hbn.out.1).get (k := k) hlt;have hw := Hwf.out _ (List.mem_of_getElem? hx.out);have htk := q9 (flat_take clB hx.out);have hfl : ((l.take k).flatMap clB).length ≤ l.length * 50 := by
    refine Nat.le_trans (flat_len clB 50 (l.take k) (fun x hx => by have hw := Hwf.out x (List.mem_of_mem_take hx); exact clB_len hw)) ?_;exact Nat.mul_le_mul_right 50 (by simp; omega)
   have hdl : (d ++ vb (zz l.length) ++ (l.take k).flatMap clB).length ≤ 600000000 + 20000000 := by
    have := Nat.mul_le_mul_right 50 hl;simp only [List.length_append]; omega
   have HW2 := q9 (hW.out.alloc (.cells #[.int .i64 t1, .int .i64 t2, .int .i64 t3, .int .i64 t4, .int .i64 t5] 41));have HB2 := q9 (hbn.out.1.alloc hW.out.size (.cells #[.int .i64 t1, .int .i64 t2, .int .i64 t3, .int .i64 t4, .int .i64 t5] 41));have HN2 := q9 (hbn.out.2.alloc (.cells #[.int .i64 t1, .int .i64 t2, .int .i64 t3, .int .i64 t4, .int .i64 t5] 41));have HE := q9 (qClaim_any base p v' _ t1 t2 t3 t4 t5 hw (wr.alloc (.cells #[.int .i64 t1, .int .i64 t2, .int .i64 t3, .int .i64 t4, .int .i64 t5] 41)) HW2.out (by omega));clear hx hw;rw [hae];go_wp2_with fail
   refine HE.out.mono ?_;rintro e w3 ⟨v3, rfl, hW3, hb3, hn3⟩;have HW3 := q9 hW3;have HB3 := q9 (HB2.out.trans hb3);have HN3 := q9 (HN2.out.trans hn3);clear hW3 hb3 hn3 HE HW2 HB2 HN2 hW hbn;go_wp2_with fail
   go_roundw
   case rel => exact ⟨k + 1, v3, by omega, by go_num, q9 (by rw [htk.out, ← List.append_assoc]; exact HW3.out), q9 ⟨HB3.out, HN3.out⟩⟩
   case measure => simp [intOf]; omega
  obtain rfl : k = l.length := by omega
  have HW := q9 (show WR wr base p v' (d ++ lsB clB l) from by have h := hW.out; rw [List.take_length, List.append_assoc] at h; exact h);clear hW;go_wp2_with fail
  go_end0
  exact ⟨v', rfl, HW.out, hbn.out.1, hbn.out.2⟩
theorem lsI_any (base p : Nat) (v : Value) (d : List Nat) (A : Option Addr) (c : Nat) (l : List (Int × Int)) (w0 w : World) (h0 : SD w0 A l) (hb0 : w0.heap.size ≤ base) (hw0 : Below base w0 w) (hwf : ∀ x ∈ l, (idW64) x) (hl : l.length ≤ 4096) (h : WR w base p v d) (hd : d.length ≤ 500000000) :
  Calls Tryz.prog 64 #[.pointer (some ⟨p, 0, none⟩), .slice A l.length c, .func (.func 63) #[.pointer (some ⟨p, 0, none⟩)] #[]] w fun e w' => ∃ v', e = .returned (.tuple #[]) ∧ WR w' base p v' (d ++ lsB idB l) ∧ Below base w w' ∧ Nb w w' p := by
 have HC := q9 (fun (W : World) (hW : Below base w W) => (show SD W A l from h0.below ((hw0.trans hW).mono hb0)));have Hwf := q9 hwf;have hlen10 := zz_len (n := l.length) (by omega);have H := q9 h;clear h h0 hb0 hw0 hwf;go_enter Tryz.func64, Tryz.ntmps64
 go_wp2_with fail
 refine (qInt_any base p v d l.length w (by omega) H.out (by omega)).mono ?_;rintro e w1 ⟨v1, rfl, hW1, hb1, hn1⟩;have HW1 := q9 hW1;have Hb1 := q9 hb1;have Hn1 := q9 hn1;clear hW1 hb1 hn1;go_wp2_with fail
 go_loopw [16] (fun i wr => ∃ (k : Nat) (v' : Value), k ≤ l.length ∧ i = .int .i64 k ∧ Hid (WR wr base p v' (d ++ vb (zz l.length) ++ (l.take k).flatMap idB)) ∧ Hid (Below base w wr ∧ Nb w wr p)) (fun i _ => l.length - (intOf i).toNat)
 case atStart => exact ⟨0, v1, by omega, rfl, q9 (by simpa using HW1.out), q9 ⟨Hb1.out, Hn1.out⟩⟩
 case round =>
  clear HW1 Hb1 Hn1 H;obtain ⟨k, v', hk, rfl, hW, hbn⟩ := hrel;have k0 : (0 : Int) ≤ (k : Int) := by omega
  by_cases hlt : k < l.length
  ·obtain ⟨bC, oC, x, y, hae, c0, c1, hx⟩ := (HC.out wr hbn.out.1).get (k := k) hlt;have hw := Hwf.out _ (List.mem_of_getElem? hx.out);have htk := q9 (flat_take idB hx.out);have hfl : ((l.take k).flatMap idB).length ≤ l.length * 20 := by
    refine Nat.le_trans (flat_len idB 20 (l.take k) (fun x hx => by have hw := Hwf.out x (List.mem_of_mem_take hx); exact idB_len hw)) ?_;exact Nat.mul_le_mul_right 20 (by simp; omega)
   have hdl : (d ++ vb (zz l.length) ++ (l.take k).flatMap idB).length ≤ 500000000 + 20000000 := by
    have := Nat.mul_le_mul_right 20 hl;simp only [List.length_append]; omega
   have HW2 := q9 (hW.out.alloc (.cells #[.int .u64 x, .int .i64 y] 77));have HB2 := q9 (hbn.out.1.alloc hW.out.size (.cells #[.int .u64 x, .int .i64 y] 77));have HN2 := q9 (hbn.out.2.alloc (.cells #[.int .u64 x, .int .i64 y] 77));have HE := q9 (qName_any base p v' _ x y hw (wr.alloc (.cells #[.int .u64 x, .int .i64 y] 77)) HW2.out (by omega));clear hx hw;rw [hae];go_wp2_with fail
   refine HE.out.mono ?_;rintro e w3 ⟨v3, rfl, hW3, hb3, hn3⟩;have HW3 := q9 hW3;have HB3 := q9 (HB2.out.trans hb3);have HN3 := q9 (HN2.out.trans hn3);clear hW3 hb3 hn3 HE HW2 HB2 HN2 hW hbn;go_wp2_with fail
   go_roundw
   case rel => exact ⟨k + 1, v3, by omega, by go_num, q9 (by rw [htk.out, ← List.append_assoc]; exact HW3.out), q9 ⟨HB3.out, HN3.out⟩⟩
   case measure => simp [intOf]; omega
  obtain rfl : k = l.length := by omega
  have HW := q9 (show WR wr base p v' (d ++ lsB idB l) from by have h := hW.out; rw [List.take_length, List.append_assoc] at h; exact h);clear hW;go_wp2_with fail
  go_end0
  exact ⟨v', rfl, HW.out, hbn.out.1, hbn.out.2⟩
theorem lsR_any (base p q : Nat) (v : Value) (d : List Nat) (A : Option Addr) (c : Nat) (l : List (Int × Int)) (w0 w : World) (h0 : SR w0 A l) (hb0 : w0.heap.size ≤ base) (hw0 : Below base w0 w) (hq : Bk w q 100 #[.pointer (some ⟨p, 0, none⟩)]) (hwf : ∀ x ∈ l, (rtW64) x) (hl : l.length ≤ 4096) (h : WR w base p v d) (hd : d.length ≤ 500000000) :
  Calls Tryz.prog 65 #[.pointer (some ⟨p, 0, none⟩), .slice A l.length c, .func (.func 66) #[] #[.pointer (some ⟨q, 0, none⟩)]] w fun e w' => ∃ v', e = .returned (.tuple #[]) ∧ WR w' base p v' (d ++ lsB rtB l) ∧ Below base w w' ∧ Nb w w' p := by
 have HC := q9 (fun (W : World) (hW : Below base w W) => (show SR W A l from h0.below ((hw0.trans hW).mono hb0)));have Hwf := q9 hwf;have hlen10 := zz_len (n := l.length) (by omega);have hqp : q ≠ p := hq.ne_ h.hp (by decide);have HQ := q9 hq;clear hq;have H := q9 h;clear h h0 hb0 hw0 hwf;go_enter Tryz.func65, Tryz.ntmps65
 go_wp2_with fail
 refine (qInt_any base p v d l.length w (by omega) H.out (by omega)).mono ?_;rintro e w1 ⟨v1, rfl, hW1, hb1, hn1⟩;have HW1 := q9 hW1;have Hb1 := q9 hb1;have Hn1 := q9 hn1;clear hW1 hb1 hn1;go_wp2_with fail
 go_loopw [16] (fun i wr => ∃ (k : Nat) (v' : Value), k ≤ l.length ∧ i = .int .i64 k ∧ Hid (WR wr base p v' (d ++ vb (zz l.length) ++ (l.take k).flatMap rtB)) ∧ Hid (Below base w wr ∧ Nb w wr p)) (fun i _ => l.length - (intOf i).toNat)
 case atStart => exact ⟨0, v1, by omega, rfl, q9 (by simpa using HW1.out), q9 ⟨Hb1.out, Hn1.out⟩⟩
 case round =>
  clear HW1 Hb1 Hn1 H;obtain ⟨k, v', hk, rfl, hW, hbn⟩ := hrel;have k0 : (0 : Int) ≤ (k : Int) := by omega
  by_cases hlt : k < l.length
  ·obtain ⟨bC, oC, x, y, hae, c0, c1, hx⟩ := (HC.out wr hbn.out.1).get (k := k) hlt;have hw := Hwf.out _ (List.mem_of_getElem? hx.out);have htk := q9 (flat_take rtB hx.out);have hfl : ((l.take k).flatMap rtB).length ≤ l.length * 20 := by
    refine Nat.le_trans (flat_len rtB 20 (l.take k) (fun x hx => by have hw := Hwf.out x (List.mem_of_mem_take hx); exact rtB_len hw)) ?_;exact Nat.mul_le_mul_right 20 (by simp; omega)
   have hdl : (d ++ vb (zz l.length) ++ (l.take k).flatMap rtB).length ≤ 500000000 + 20000000 := by
    have := Nat.mul_le_mul_right 20 hl;simp only [List.length_append]; omega
   have HW2 := q9 (hW.out.alloc (.cells #[.int .i64 x, .int .i64 y] 92));have HB2 := q9 (hbn.out.1.alloc hW.out.size (.cells #[.int .i64 x, .int .i64 y] 92));have HN2 := q9 (hbn.out.2.alloc (.cells #[.int .i64 x, .int .i64 y] 92));have HE := q9 (qRetire_any base p q v' _ x y hw (wr.alloc (.cells #[.int .i64 x, .int .i64 y] 92)) (HN2.out _ _ _ hqp (by decide) HQ.out) HW2.out (by omega));clear hx hw;rw [hae];go_wp2_with fail
   refine HE.out.mono ?_;rintro e w3 ⟨v3, rfl, hW3, hb3, hn3⟩;have HW3 := q9 hW3;have HB3 := q9 (HB2.out.trans hb3);have HN3 := q9 (HN2.out.trans hn3);clear hW3 hb3 hn3 HE HW2 HB2 HN2 hW hbn;go_wp2_with fail
   go_roundw
   case rel => exact ⟨k + 1, v3, by omega, by go_num, q9 (by rw [htk.out, ← List.append_assoc]; exact HW3.out), q9 ⟨HB3.out, HN3.out⟩⟩
   case measure => simp [intOf]; omega
  obtain rfl : k = l.length := by omega
  have HW := q9 (show WR wr base p v' (d ++ lsB rtB l) from by have h := hW.out; rw [List.take_length, List.append_assoc] at h; exact h);clear hW;go_wp2_with fail
  go_end0
  exact ⟨v', rfl, HW.out, hbn.out.1, hbn.out.2⟩
theorem lsM_any (base p q : Nat) (v : Value) (d : List Nat) (A : Option Addr) (c : Nat) (l : List Mk) (w0 w : World) (h0 : SM w0 A l) (hb0 : w0.heap.size ≤ base) (hw0 : Below base w0 w) (hq : Bk w q 100 #[.pointer (some ⟨p, 0, none⟩)]) (hwf : ∀ x ∈ l, (mkW64) x) (hl : l.length ≤ 4096) (h : WR w base p v d) (hd : d.length ≤ 500000000) :
  Calls Tryz.prog 61 #[.pointer (some ⟨p, 0, none⟩), .slice A l.length c, .func (.func 62) #[] #[.pointer (some ⟨q, 0, none⟩)]] w fun e w' => ∃ v', e = .returned (.tuple #[]) ∧ WR w' base p v' (d ++ lsB mkB l) ∧ Below base w w' ∧ Nb w w' p := by
 have HC := q9 (fun (W : World) (hW : Below base w W) => (show SM W A l from h0.below ((hw0.trans hW).mono hb0)));have Hwf := q9 hwf;have hlen10 := zz_len (n := l.length) (by omega);have hqp : q ≠ p := hq.ne_ h.hp (by decide);have HQ := q9 hq;clear hq;have H := q9 h;clear h h0 hb0 hw0 hwf;go_enter Tryz.func61, Tryz.ntmps61
 go_wp2_with fail
 refine (qInt_any base p v d l.length w (by omega) H.out (by omega)).mono ?_;rintro e w1 ⟨v1, rfl, hW1, hb1, hn1⟩;have HW1 := q9 hW1;have Hb1 := q9 hb1;have Hn1 := q9 hn1;clear hW1 hb1 hn1;go_wp2_with fail
 go_loopw [16] (fun i wr => ∃ (k : Nat) (v' : Value), k ≤ l.length ∧ i = .int .i64 k ∧ Hid (WR wr base p v' (d ++ vb (zz l.length) ++ (l.take k).flatMap mkB)) ∧ Hid (Below base w wr ∧ Nb w wr p)) (fun i _ => l.length - (intOf i).toNat)
 case atStart => exact ⟨0, v1, by omega, rfl, q9 (by simpa using HW1.out), q9 ⟨Hb1.out, Hn1.out⟩⟩
 case round =>
  clear HW1 Hb1 Hn1 H;obtain ⟨k, v', hk, rfl, hW, hbn⟩ := hrel;have k0 : (0 : Int) ≤ (k : Int) := by omega
  by_cases hlt : k < l.length
  ·obtain ⟨bC, oC, ⟨mp, mi, ⟨k1, o1, f1, u1, e1⟩⟩, hae, c0, c1, c2, c3, c4, c5, c6, hx⟩ := (HC.out wr hbn.out.1).get (k := k) hlt;have hw := Hwf.out _ (List.mem_of_getElem? hx.out);have htk := q9 (flat_take mkB hx.out);have hfl : ((l.take k).flatMap mkB).length ≤ l.length * 70 := by
    refine Nat.le_trans (flat_len mkB 70 (l.take k) (fun x hx => by have hw := Hwf.out x (List.mem_of_mem_take hx); exact mkB_len hw)) ?_;exact Nat.mul_le_mul_right 70 (by simp; omega)
   have hdl : (d ++ vb (zz l.length) ++ (l.take k).flatMap mkB).length ≤ 500000000 + 20000000 := by
    have := Nat.mul_le_mul_right 70 hl;simp only [List.length_append]; omega
   have HW2 := q9 (hW.out.alloc (.cells #[.int .u64 mp, .int .i64 mi, .int .i64 k1, .int .i64 o1, .int .i64 f1, .int .i64 u1, .int .i64 e1] 88));have HB2 := q9 (hbn.out.1.alloc hW.out.size (.cells #[.int .u64 mp, .int .i64 mi, .int .i64 k1, .int .i64 o1, .int .i64 f1, .int .i64 u1, .int .i64 e1] 88));have HN2 := q9 (hbn.out.2.alloc (.cells #[.int .u64 mp, .int .i64 mi, .int .i64 k1, .int .i64 o1, .int .i64 f1, .int .i64 u1, .int .i64 e1] 88));have HE := q9 (qMark_any base p q v' _ mp mi k1 o1 f1 u1 e1 hw (wr.alloc (.cells #[.int .u64 mp, .int .i64 mi, .int .i64 k1, .int .i64 o1, .int .i64 f1, .int .i64 u1, .int .i64 e1] 88)) (HN2.out _ _ _ hqp (by decide) HQ.out) HW2.out (by omega));clear hx hw;rw [hae];go_wp2_with fail
   refine HE.out.mono ?_;rintro e w3 ⟨v3, rfl, hW3, hb3, hn3⟩;have HW3 := q9 hW3;have HB3 := q9 (HB2.out.trans hb3);have HN3 := q9 (HN2.out.trans hn3);clear hW3 hb3 hn3 HE HW2 HB2 HN2 hW hbn;go_wp2_with fail
   go_roundw
   case rel => exact ⟨k + 1, v3, by omega, by go_num, q9 (by rw [htk.out, ← List.append_assoc]; exact HW3.out), q9 ⟨HB3.out, HN3.out⟩⟩
   case measure => simp [intOf]; omega
  obtain rfl : k = l.length := by omega
  have HW := q9 (show WR wr base p v' (d ++ lsB mkB l) from by have h := hW.out; rw [List.take_length, List.append_assoc] at h; exact h);clear hW;go_wp2_with fail
  go_end0
  exact ⟨v', rfl, HW.out, hbn.out.1, hbn.out.2⟩
theorem lsP_any (base p q : Nat) (v : Value) (d : List Nat) (A : Option Addr) (c : Nat) (l : List Plc) (w0 w : World) (h0 : SPl w0 A l) (hb0 : w0.heap.size ≤ base) (hw0 : Below base w0 w) (hq : Bk w q 100 #[.pointer (some ⟨p, 0, none⟩)]) (hwf : ∀ x ∈ l, (fun x => plW64 x ∧ x.nm.size ≤ 1000) x) (hl : l.length ≤ 4096) (h : WR w base p v d) (hd : d.length ≤ 500000000) :
  Calls Tryz.prog 58 #[.pointer (some ⟨p, 0, none⟩), .slice A l.length c, .func (.func 59) #[] #[.pointer (some ⟨q, 0, none⟩)]] w fun e w' => ∃ v', e = .returned (.tuple #[]) ∧ WR w' base p v' (d ++ lsB plB l) ∧ Below base w w' ∧ Nb w w' p := by
 have HC := q9 (fun (W : World) (hW : Below base w W) => (show SPl W A l from h0.below ((hw0.trans hW).mono hb0)));have Hwf := q9 hwf;have hlen10 := zz_len (n := l.length) (by omega);have hqp : q ≠ p := hq.ne_ h.hp (by decide);have HQ := q9 hq;clear hq;have H := q9 h;clear h h0 hb0 hw0 hwf;go_enter Tryz.func58, Tryz.ntmps58
 go_wp2_with fail
 refine (qInt_any base p v d l.length w (by omega) H.out (by omega)).mono ?_;rintro e w1 ⟨v1, rfl, hW1, hb1, hn1⟩;have HW1 := q9 hW1;have Hb1 := q9 hb1;have Hn1 := q9 hn1;clear hW1 hb1 hn1;go_wp2_with fail
 go_loopw [16] (fun i wr => ∃ (k : Nat) (v' : Value), k ≤ l.length ∧ i = .int .i64 k ∧ Hid (WR wr base p v' (d ++ vb (zz l.length) ++ (l.take k).flatMap plB)) ∧ Hid (Below base w wr ∧ Nb w wr p)) (fun i _ => l.length - (intOf i).toNat)
 case atStart => exact ⟨0, v1, by omega, rfl, q9 (by simpa using HW1.out), q9 ⟨Hb1.out, Hn1.out⟩⟩
 case round =>
  clear HW1 Hb1 Hn1 H;obtain ⟨k, v', hk, rfl, hW, hbn⟩ := hrel;have k0 : (0 : Int) ≤ (k : Int) := by omega
  by_cases hlt : k < l.length
  ·obtain ⟨bC, oC, ⟨x, y, nm, of, fr, til⟩, hae, c0, c1, c2, c3, c4, c5, hx⟩ := (HC.out wr hbn.out.1).get (k := k) hlt;have hw := Hwf.out _ (List.mem_of_getElem? hx.out);have htk := q9 (flat_take plB hx.out);have hfl : ((l.take k).flatMap plB).length ≤ l.length * 1060 := by
    refine Nat.le_trans (flat_len plB 1060 (l.take k) (fun x hx => by have hw := Hwf.out x (List.mem_of_mem_take hx); exact plB_len hw.1 hw.2)) ?_;exact Nat.mul_le_mul_right 1060 (by simp; omega)
   have hdl : (d ++ vb (zz l.length) ++ (l.take k).flatMap plB).length ≤ 500000000 + 20000000 := by
    have := Nat.mul_le_mul_right 1060 hl;simp only [List.length_append]; omega
   have HW2 := q9 (hW.out.alloc (.cells #[.int .i64 x, .int .i64 y, .string nm, .int .i64 of, .int .i64 fr, .int .i64 til] 114));have HB2 := q9 (hbn.out.1.alloc hW.out.size (.cells #[.int .i64 x, .int .i64 y, .string nm, .int .i64 of, .int .i64 fr, .int .i64 til] 114));have HN2 := q9 (hbn.out.2.alloc (.cells #[.int .i64 x, .int .i64 y, .string nm, .int .i64 of, .int .i64 fr, .int .i64 til] 114));have HE := q9 (qPlace_any base p q v' _ x y nm of fr til hw.1 hw.2 (wr.alloc (.cells #[.int .i64 x, .int .i64 y, .string nm, .int .i64 of, .int .i64 fr, .int .i64 til] 114)) (HN2.out _ _ _ hqp (by decide) HQ.out) HW2.out (by omega));clear hx hw;rw [hae];go_wp2_with fail
   refine HE.out.mono ?_;rintro e w3 ⟨v3, rfl, hW3, hb3, hn3⟩;have HW3 := q9 hW3;have HB3 := q9 (HB2.out.trans hb3);have HN3 := q9 (HN2.out.trans hn3);clear hW3 hb3 hn3 HE HW2 HB2 HN2 hW hbn;go_wp2_with fail
   go_roundw
   case rel => exact ⟨k + 1, v3, by omega, by go_num, q9 (by rw [htk.out, ← List.append_assoc]; exact HW3.out), q9 ⟨HB3.out, HN3.out⟩⟩
   case measure => simp [intOf]; omega
  obtain rfl : k = l.length := by omega
  have HW := q9 (show WR wr base p v' (d ++ lsB plB l) from by have h := hW.out; rw [List.take_length, List.append_assoc] at h; exact h);clear hW;go_wp2_with fail
  go_end0
  exact ⟨v', rfl, HW.out, hbn.out.1, hbn.out.2⟩
theorem qStroke_any (base p q : Nat) (v : Value) (d : List Nat) (ax ay bx by_ : Int) (C : Option Addr) (cc : Nat) (cl : List Cl) (hw : skW64 ⟨ax, ay, bx, by_, cl⟩) (hcl : cl.length ≤ 64) (w0 w : World) (h0 : SC w0 C cl) (hb0 : w0.heap.size ≤ base) (hw0 : Below base w0 w) (hq : Bk w q 100 #[.pointer (some ⟨p, 0, none⟩)]) (h : WR w base p v d) (hd : d.length ≤ 590000000) :
  Calls Tryz.prog 55 #[.agg #[.int .i64 ax, .int .i64 ay, .int .i64 bx, .int .i64 by_, .slice C cl.length cc], .pointer (some ⟨q, 0, none⟩)] w fun e w' => ∃ v', e = .returned (.tuple #[]) ∧ WR w' base p v' (d ++ skB ⟨ax, ay, bx, by_, cl⟩) ∧ Below base w w' ∧ Nb w w' p := by
 have hW1 := (h.alloc (.cells #[.int .i64 ax, .int .i64 ay, .int .i64 bx, .int .i64 by_, .slice C cl.length cc] 62)).alloc (.cells #[.int .i64 ax, .int .i64 ay, .int .i64 bx, .int .i64 by_] 3);have hb1 := ((Below.refl base w).alloc h.size (.cells #[.int .i64 ax, .int .i64 ay, .int .i64 bx, .int .i64 by_, .slice C cl.length cc] 62)).alloc (h.alloc _).size (.cells #[.int .i64 ax, .int .i64 ay, .int .i64 bx, .int .i64 by_] 3);have hn1 := ((Nb.refl w p).alloc (.cells #[.int .i64 ax, .int .i64 ay, .int .i64 bx, .int .i64 by_, .slice C cl.length cc] 62)).alloc (.cells #[.int .i64 ax, .int .i64 ay, .int .i64 bx, .int .i64 by_] 3);have hk := (Bk.new w 62 #[.int .i64 ax, .int .i64 ay, .int .i64 bx, .int .i64 by_, .slice C cl.length cc]).alloc (.cells #[.int .i64 ax, .int .i64 ay, .int .i64 bx, .int .i64 by_] 3);have hgp : w.heap.size ≠ p := hk.ne_ hW1.hp (by decide);have hqp : q ≠ p := hq.ne_ h.hp (by decide);have hq1 := (hq.alloc (.cells #[.int .i64 ax, .int .i64 ay, .int .i64 bx, .int .i64 by_, .slice C cl.length cc] 62)).alloc (.cells #[.int .i64 ax, .int .i64 ay, .int .i64 bx, .int .i64 by_] 3);have hc0 : (w.alloc (.cells #[.int .i64 ax, .int .i64 ay, .int .i64 bx, .int .i64 by_, .slice C cl.length cc] 62)).cell? ⟨q, 0, none⟩ = some (.pointer (some ⟨p, 0, none⟩)) := (hq.alloc _).cell 0
 have hg : Bk ((w.alloc (.cells #[.int .i64 ax, .int .i64 ay, .int .i64 bx, .int .i64 by_, .slice C cl.length cc] 62)).alloc (.cells #[.int .i64 ax, .int .i64 ay, .int .i64 bx, .int .i64 by_] 3)) (w.heap.size + 1) 3 (rowI [ax, ay, bx, by_]) := Bk.new' _ _ _ (by simp);have hx : W64 [ax, ay, bx, by_] := w64_cons hw.1 (w64_cons hw.2.1 (w64_cons hw.2.2.1 (w64_cons hw.2.2.2.1 w64_nil)));have HC := q9 (qInts_any base p _ 4 v d [ax, ay, bx, by_] _ hg hx (by simp) hW1 (by omega));have hl1 := q9 (vbs_len [ax, ay, bx, by_] hx);have HK := q9 hk;have HQ := q9 hq1;have Hb1 := q9 hb1;have Hn1 := q9 hn1;have Hw := q9 hw.2.2.2.2;have H0 := q9 h0;have Hw0 := q9 hw0;clear h hW1 hb1 hn1 hk hq hq1 hg hw hx h0 hw0;go_enter Tryz.func55, Tryz.ntmps55
 go_wp2_with fail
 refine HC.out.mono ?_;rintro e w2 ⟨v2, rfl, hW2, hb2, hn2⟩;have hk2 := hn2 _ _ _ hgp (by decide) HK.out;have hq2 := hn2 _ _ _ hqp (by decide) HQ.out;have e4 : w2.cell? ⟨w.heap.size, 4, none⟩ = some (.slice C cl.length cc) := hk2.cell 4;have e5 : w2.cell? ⟨q, 0, none⟩ = some (.pointer (some ⟨p, 0, none⟩)) := hq2.cell 0;have hl2 : (d ++ vbs [ax, ay, bx, by_]).length ≤ 590000040 := by have := hl1.out; simp only [List.length_append, List.length_cons, List.length_nil] at this ⊢; omega
 have HB2 := q9 (Hb1.out.trans hb2);have HN2 := q9 (Hn1.out.trans hn2);have HC2 := q9 (lsC_any base p v2 _ C cc cl w0 w2 H0.out hb0 (Hw0.out.trans HB2.out) Hw.out (by omega) hW2 (by omega));clear hk2 hq2 hW2 hb2 hn2 HC Hb1 Hn1 HK HQ;go_wp2_with fail
 refine HC2.out.mono ?_;rintro e w3 ⟨v3, rfl, hW3, hb3, hn3⟩;have HW3 := q9 hW3;have HB3 := q9 (HB2.out.trans hb3);have HN3 := q9 (HN2.out.trans hn3);clear hW3 hb3 hn3;go_wp2_with fail
 go_end0
 exact ⟨v3, rfl, by rw [skB, ← List.append_assoc]; exact HW3.out, HB3.out, HN3.out⟩
theorem lsS_any (base p q : Nat) (v : Value) (d : List Nat) (A : Option Addr) (c : Nat) (l : List Sk) (w0 w : World) (h0 : SS w0 A l) (hb0 : w0.heap.size ≤ base) (hw0 : Below base w0 w) (hq : Bk w q 100 #[.pointer (some ⟨p, 0, none⟩)]) (hwf : ∀ x ∈ l, (fun x => skW64 x ∧ x.cl.length ≤ 64) x) (hl : l.length ≤ 4096) (h : WR w base p v d) (hd : d.length ≤ 500000000) :
  Calls Tryz.prog 54 #[.pointer (some ⟨p, 0, none⟩), .slice A l.length c, .func (.func 55) #[] #[.pointer (some ⟨q, 0, none⟩)]] w fun e w' => ∃ v', e = .returned (.tuple #[]) ∧ WR w' base p v' (d ++ lsB skB l) ∧ Below base w w' ∧ Nb w w' p := by
 have Hwf := q9 hwf;have hlen10 := zz_len (n := l.length) (by omega);have hqp : q ≠ p := hq.ne_ h.hp (by decide);have HQ := q9 hq;clear hq;have H := q9 h;have Hw0 := q9 hw0;have H0 := q9 h0;clear h h0 hw0 hwf;go_enter Tryz.func54, Tryz.ntmps54
 go_wp2_with fail
 refine (qInt_any base p v d l.length w (by omega) H.out (by omega)).mono ?_;rintro e w1 ⟨v1, rfl, hW1, hb1, hn1⟩;have HW1 := q9 hW1;have Hb1 := q9 hb1;have Hn1 := q9 hn1;clear hW1 hb1 hn1;go_wp2_with fail
 go_loopw [16] (fun i wr => ∃ (k : Nat) (v' : Value), k ≤ l.length ∧ i = .int .i64 k ∧ Hid (WR wr base p v' (d ++ vb (zz l.length) ++ (l.take k).flatMap skB)) ∧ Hid (Below base w wr ∧ Nb w wr p)) (fun i _ => l.length - (intOf i).toNat)
 case atStart => exact ⟨0, v1, by omega, rfl, q9 (by simpa using HW1.out), q9 ⟨Hb1.out, Hn1.out⟩⟩
 case round =>
  clear HW1 Hb1 Hn1 H;obtain ⟨k, v', hk, rfl, hW, hbn⟩ := hrel;have k0 : (0 : Int) ≤ (k : Int) := by omega
  by_cases hlt : k < l.length
  ·obtain ⟨bC, oC, ⟨ax, ay, bx, by_, cls⟩, D, dc, hae, c0, c1, c2, c3, c4, hcs, hcl, hx⟩ := H0.out.get (k := k) hlt;have c0 := ((Hw0.out.trans hbn.out.1).mono hb0 |>.cell (World.block_lt_of_cell? _ _ c0)).trans c0;have c1 := ((Hw0.out.trans hbn.out.1).mono hb0 |>.cell (World.block_lt_of_cell? _ _ c1)).trans c1;have c2 := ((Hw0.out.trans hbn.out.1).mono hb0 |>.cell (World.block_lt_of_cell? _ _ c2)).trans c2;have c3 := ((Hw0.out.trans hbn.out.1).mono hb0 |>.cell (World.block_lt_of_cell? _ _ c3)).trans c3;have c4 := ((Hw0.out.trans hbn.out.1).mono hb0 |>.cell (World.block_lt_of_cell? _ _ c4)).trans c4;have hw := Hwf.out _ (List.mem_of_getElem? hx.out);have htk := q9 (flat_take skB hx.out);have hfl : ((l.take k).flatMap skB).length ≤ l.length * 3250 := by
    refine Nat.le_trans (flat_len skB 3250 (l.take k) (fun x hx => by have hw := Hwf.out x (List.mem_of_mem_take hx); exact skB_len hw.1 hw.2)) ?_;exact Nat.mul_le_mul_right 3250 (by simp; omega)
   have hdl : (d ++ vb (zz l.length) ++ (l.take k).flatMap skB).length ≤ 500000000 + 20000000 := by
    have := Nat.mul_le_mul_right 3250 hl;simp only [List.length_append]; omega
   have HW2 := q9 (hW.out.alloc (.cells #[.int .i64 ax, .int .i64 ay, .int .i64 bx, .int .i64 by_, .slice D cls.length dc] 62));have HB2 := q9 (hbn.out.1.alloc hW.out.size (.cells #[.int .i64 ax, .int .i64 ay, .int .i64 bx, .int .i64 by_, .slice D cls.length dc] 62));have HN2 := q9 (hbn.out.2.alloc (.cells #[.int .i64 ax, .int .i64 ay, .int .i64 bx, .int .i64 by_, .slice D cls.length dc] 62));have HE := q9 (qStroke_any base p q v' _ ax ay bx by_ D dc cls hw.1 hw.2 w0 (wr.alloc (.cells #[.int .i64 ax, .int .i64 ay, .int .i64 bx, .int .i64 by_, .slice D cls.length dc] 62)) hcs hb0 (Hw0.out.trans HB2.out) (HN2.out _ _ _ hqp (by decide) HQ.out) HW2.out (by omega));clear hx hw hcs;rw [hae];go_wp2_with fail
   refine HE.out.mono ?_;rintro e w3 ⟨v3, rfl, hW3, hb3, hn3⟩;have HW3 := q9 hW3;have HB3 := q9 (HB2.out.trans hb3);have HN3 := q9 (HN2.out.trans hn3);clear hW3 hb3 hn3 HE HW2 HB2 HN2 hW hbn;go_wp2_with fail
   go_roundw
   case rel => exact ⟨k + 1, v3, by omega, by go_num, q9 (by rw [htk.out, ← List.append_assoc]; exact HW3.out), q9 ⟨HB3.out, HN3.out⟩⟩
   case measure => simp [intOf]; omega
  obtain rfl : k = l.length := by omega
  have HW := q9 (show WR wr base p v' (d ++ lsB skB l) from by have h := hW.out; rw [List.take_length, List.append_assoc] at h; exact h);clear hW;go_wp2_with fail
  go_end0
  exact ⟨v', rfl, HW.out, hbn.out.1, hbn.out.2⟩
end Go.Proofs.YtnapnkmehnabfaaGreat
