import Derived.Test.YtnapnkmehnabfaaGreatP31
set_option maxHeartbeats 2000000
set_option maxRecDepth 100000
set_option linter.unusedSimpArgs false
namespace Go.Proofs.YtnapnkmehnabfaaGreat
open Go.RowKit Go.Maps
theorem refIntsB_any (g c : Nat) (l : List Int) (w : World) (h0 : Bk w g 3 (rowI l)) (hl : W64 l) (hll : l.length ≤ 10000) :
  Calls Tryz.prog 73 #[.slice (some ⟨g, 0, none⟩) l.length c] w fun e w' => ∃ v, e = .returned v ∧ w'.ownsRow w.heap.size 5 1 v (vbs l).length (byV (vbs l)) ∧ Below w.heap.size w w' := by
 have H0 := q9 (fun (W : World) (h : Below w.heap.size w W) => (h0.below h h0.lt).cell);clear h0;go_enter Tryz.func73, Tryz.ntmps73
 go_wp2_with fail
 go_loopw [3, 4] (fun v i wr => ∃ (k : Nat), k ≤ l.length ∧ i = .int .i64 k ∧ wr.ownsRow w.heap.size 5 1 v (vbs (l.take k)).length (byV (vbs (l.take k))) ∧ Below w.heap.size w wr) (fun _ i _ => l.length - (intOf i).toNat)
 case atStart => exact ⟨0, by omega, rfl, World.ownsRow_nil _ _ _ _, Below.refl _ _⟩
 case round =>
  obtain ⟨k, hk, rfl, hown, hb⟩ := hrel;by_cases hlt : k < l.length
  ·obtain ⟨x, hx⟩ : ∃ x, l[k]? = some x := ⟨_, List.getElem?_eq_getElem hlt⟩;have hc : wr.cell? ⟨g, k, none⟩ = some (.int .i64 x) := (H0.out wr hb k).trans (rowI_get hx);have hx64 := hl x (List.mem_of_getElem? hx);have hvl := vbs_len (l.take k) (fun z hz => hl z (List.mem_of_mem_take hz));have htl : (l.take k).length ≤ k := by simp; omega
   have htk := q9 (take_snoc' hx);have hx10 := vb_ten (zz_lt hx64);have hlen : (vbs (l.take k)).length ≤ 100010 := by omega
   generalize hd : vbs (l.take k) = d at *;have Hd := q9 hd;have Hown := q9 hown;have Hb := q9 hb;clear hown hb hd hx;go_wp2_with fail
   refine (refInt_any x wr hx64).mono ?_;rintro e w2 ⟨v2, rfl, hown2, hb2⟩;obtain ⟨A2, c2, rfl⟩ := own_slice hown2;have hownO := own_below Hown.out hb2;have hbs2 := (Hb.out.trans (hb2.mono Hb.out.size)).size;have Hs2 := q9 (SL.of_own hown2);have Hb2 := q9 (Hb.out.trans (hb2.mono Hb.out.size));clear hown2 hb2;go_wp2_with (at_builtin; refine wpList_appM' (w := w2) rfl _ _ rfl elt_byte hownO hbs2 rfl rfl Hs2.out (by rw [byV_len]; simp) (byV_all _) (by omega) ?_; intro v3 w3 hown3 hg3)
   go_roundw
   case rel => exact ⟨k + 1, by omega, by go_num, by rw [htk.out, vbs_snoc, Hd.out, byV_append, List.length_append]; exact hown3, Hb2.out.grown hg3 hbs2 (fun k hk => (hownO.lt k hk).1)⟩
   case measure => simp [intOf]; omega
  obtain rfl : k = l.length := by omega
  rw [List.take_length] at hown;go_wp2_with fail
  go_ret
  exact ⟨_, rfl, hown, hb⟩
theorem refClaimB_any (k o f t ee : Int) (w : World) (hw : clW64 ⟨k, o, f, t, ee⟩) :
  Calls Tryz.prog 76 #[.agg #[.int .i64 k, .int .i64 o, .int .i64 f, .int .i64 t, .int .i64 ee]] w fun e w' => ∃ v, e = .returned v ∧ w'.ownsRow w.heap.size 5 1 v (clB ⟨k, o, f, t, ee⟩).length (byV (clB ⟨k, o, f, t, ee⟩)) ∧ Below w.heap.size w w' := by
 have hb := ((Below.refl w.heap.size w).alloc (Nat.le_refl _) (.cells #[.int .i64 k, .int .i64 o, .int .i64 f, .int .i64 t, .int .i64 ee] 41)).alloc (by simp) (.cells #[.int .i64 k, .int .i64 o, .int .i64 f, .int .i64 t, .int .i64 ee] 3);have hg : Bk ((w.alloc (.cells #[.int .i64 k, .int .i64 o, .int .i64 f, .int .i64 t, .int .i64 ee] 41)).alloc (.cells #[.int .i64 k, .int .i64 o, .int .i64 f, .int .i64 t, .int .i64 ee] 3)) (w.heap.size + 1) 3 (rowI [k, o, f, t, ee]) := Bk.new' _ _ _ (by simp);have HC := q9 (refIntsB_any _ 5 [k, o, f, t, ee] _ hg (w64_cons hw.1 (w64_cons hw.2.1 (w64_cons hw.2.2.1 (w64_cons hw.2.2.2.1 (w64_cons hw.2.2.2.2 w64_nil))))) (by simp));have Hb := q9 hb;have hsz := hb.size;clear hb hg;go_enter Tryz.func76, Tryz.ntmps76
 go_wp2_with fail
 refine HC.out.mono ?_;rintro e w2 ⟨v2, rfl, hown, hb2⟩;have Hown := q9 (own_mono hown hsz);have Hb2 := q9 (Hb.out.trans (hb2.mono hsz));clear hown hb2;go_wp2_with fail
 go_ret
 exact ⟨v2, rfl, Hown.out, Hb2.out⟩
theorem refNameB_any (x y : Int) (w : World) (hw : idW64 (x, y)) :
  Calls Tryz.prog 78 #[.agg #[.int .u64 x, .int .i64 y]] w fun e w' => ∃ v, e = .returned v ∧ w'.ownsRow w.heap.size 5 1 v (idB (x, y)).length (byV (idB (x, y))) ∧ Below w.heap.size w w' := by
 obtain ⟨n, rfl⟩ : ∃ n : Nat, x = n := ⟨x.toNat, by have := hw.1.1; simp at this; omega⟩;have hn : n < 18446744073709551616 := by have := hw.1.2; simp at this; omega
 have hv10 := vb_ten hn;have hv11 := vb_ten (zz_lt hw.2);have hb := (Below.refl w.heap.size w).alloc (Nat.le_refl _) (.cells #[.int .u64 (n : Int), .int .i64 y] 77);have hk := Bk.new w 77 #[.int .u64 (n : Int), .int .i64 y];have hsz := hb.size;have hy := hw.2;dsimp only at hv11 hy;have HSf := q9 (fun (W : World) (h : Bk W w.heap.size 77 #[.int .u64 (n : Int), .int .i64 y]) => show W.cell? ⟨w.heap.size, 0, none⟩ = some (.int .u64 (n : Int)) ∧ W.cell? ⟨w.heap.size, 1, none⟩ = some (.int .i64 y) from ⟨h.cell 0, h.cell 1⟩);have HB0 := q9 (show Below w.heap.size w ((w.alloc (.cells #[.int .u64 (n : Int), .int .i64 y] 77)).drew) from hb.drew);have HK0 := q9 (show Bk ((w.alloc (.cells #[.int .u64 (n : Int), .int .i64 y] 77)).drew) w.heap.size 77 #[.int .u64 (n : Int), .int .i64 y] from hk);clear hb hk hw hsz;go_enter Tryz.func78, Tryz.ntmps78
 go_upto_region 1 with fail
 generalize hg : w.heap.size = g at *;have Hg := q9 hg;clear hg;refine wp_region_noPanic ?_;refine region_H (S := fun W => W.cell? ⟨g, 0, none⟩ = some (.int .u64 (n : Int)) ∧ W.cell? ⟨g, 1, none⟩ = some (.int .i64 y)) (by kernel_rfl) ?_;change wpH _ _ _ _ 8 _ _ (w.alloc (.cells #[.int .u64 (n : Int), .int .i64 y] 77)).drew;generalize (w.alloc (.cells #[.int .u64 (n : Int), .int .i64 y] 77)).drew = X0 at *;refine Ht 0 (.pointer (some ⟨g, 0, none⟩)) 3 rfl rfl rfl (fun W hW => by obtain ⟨s0, s1⟩ := hW; go_simp) (HSf.out _ HK0.out) ?_;refine Ht 1 (.int .u64 (n : Int)) 4 rfl rfl rfl (fun W hW => by obtain ⟨s0, s1⟩ := hW; go_simp) (HSf.out _ HK0.out) ?_;refine Ht 3 (.pointer (some ⟨g, 1, none⟩)) 6 rfl rfl rfl (fun W hW => by obtain ⟨s0, s1⟩ := hW; go_simp) (HSf.out _ HK0.out) ?_;refine Ht 4 (.int .i64 y) 7 rfl rfl rfl (fun W hW => by obtain ⟨s0, s1⟩ := hW; go_simp) (HSf.out _ HK0.out) ?_;try simp only [Act.put, qz0, qz1, qz2]
 refine H1 2 rfl rfl (fun K hK4 => ?_);go_simp
 go_at_call 74
 refine (refUint_any n X0 hn).mono ?_;rintro e w2 ⟨v2, rfl, hown2, hb2⟩;have HO2 := q9 (own_mono hown2 (Hg.out ▸ HB0.out.size));have HB2 := q9 (HB0.out.trans (hb2.mono (Hg.out ▸ HB0.out.size)));have HK2 := q9 (HK0.out.below hb2 HK0.out.lt);obtain ⟨A2, c2, rfl⟩ := own_slice hown2;clear hown2 hb2;refine hK4.out _ _ (HSf.out _ HK2.out) ?_;try simp only [Act.put, qz0, qz1, qz2]
 refine H1 5 rfl rfl (fun K hK5 => ?_);go_simp
 go_at_call 75
 refine (refInt_any y w2 hy).mono ?_;rintro e w3 ⟨v3, rfl, hown3, hb3⟩;have HO3 := q9 (own_below HO2.out hb3);have HB3 := q9 (HB2.out.trans (hb3.mono (Hg.out ▸ HB2.out.size)));have HK3 := q9 (HK2.out.below hb3 HK2.out.lt);obtain ⟨A3, c3, rfl⟩ := own_slice hown3;have HS3 := q9 (SL.of_own hown3);clear hown3 hb3;refine hK5.out _ _ (HSf.out _ HK3.out) ?_;try simp only [Act.put, qz0, qz1, qz2]
 refine H1 6 rfl rfl (fun K hK6 => ?_);refine app_wpM (m := (vb (zz y)).length) (c := c3) (B := A3) (us := byV (vb (zz y))) (v := .slice A2 (vb n).length c2) (.tmp 5) (.tmp 8) rfl elt_byte HO3.out (Hg.out ▸ HB3.out.size) (by simp [Act.eval]) (by simp [Act.eval]) HS3.out (by rw [byV_len]; simp) (byV_all _) (by omega) ?_;intro v4 w4 hown4 hg4;obtain ⟨A4, c4, rfl⟩ := own_slice hown4;have HO4 := q9 hown4;have HB4 := q9 (HB3.out.grown hg4 (Hg.out ▸ HB3.out.size) (fun k hk => (HO3.out.lt k hk).1));have HK4 := q9 (HK3.out.grown hg4 (HK3.out.ne_own HO3.out (by decide)));clear hown4 hg4;refine hK6.out _ _ (HSf.out _ HK4.out) ?_;try simp only [Act.put, qz0, qz1, qz2]
 simp only [List.getElem_toArray, List.getElem_cons_succ, List.getElem_cons_zero, List.set_cons_succ, List.set_cons_zero];refine Ht 7 (.slice A4 ((vb n).length + (vb (zz y)).length) c4) 2 rfl rfl rfl (fun W hW => by obtain ⟨s0, s1⟩ := hW; go_simp) (HSf.out _ HK4.out) ?_;try simp only [Act.put, qz0, qz1, qz2]
 refine H0 ?_;try simp only [Act.put, qz0, qz1, qz2]
 go_wp2_with fail
 go_ret
 exact ⟨.slice A4 ((vb n).length + (vb (zz y)).length) c4, rfl, by rw [Hg.out, show idB ((n : Int), y) = vb n ++ vb (zz y) from rfl, byV_append, List.length_append]; exact HO4.out, by rw [Hg.out]; exact HB4.out⟩
theorem refNames_any (A : Option Addr) (c : Nat) (l : List (Int × Int)) (w : World) (h0 : SD w A l) (hl : ∀ x ∈ l, idW64 x) (hll : l.length ≤ 10000) :
  Calls Tryz.prog 79 #[.slice A l.length c] w fun e w' => ∃ v, e = .returned v ∧ w'.ownsRow w.heap.size 5 1 v (lsB idB l).length (byV (lsB idB l)) ∧ Below w.heap.size w w' := by
 have H0 := q9 (fun (W : World) (h : Below w.heap.size w W) => (show SD W A l from h0.below h));have Hl := q9 hl;have hv10 := zz_len (n := l.length) (by omega);clear h0 hl;go_enter Tryz.func79, Tryz.ntmps79
 go_wp2_with fail
 refine (refInt_any l.length w (by omega)).mono ?_;rintro e w1 ⟨v1, rfl, hown1, hb1⟩;have Hown1 := q9 hown1;have Hb1 := q9 hb1;clear hown1 hb1;go_wp2_with fail
 go_loopw [3, 4] (fun v i wr => ∃ (k : Nat), k ≤ l.length ∧ i = .int .i64 k ∧ wr.ownsRow w.heap.size 5 1 v (vb (zz l.length) ++ (l.take k).flatMap idB).length (byV (vb (zz l.length) ++ (l.take k).flatMap idB)) ∧ Below w.heap.size w wr) (fun _ i _ => l.length - (intOf i).toNat)
 case atStart => exact ⟨0, by omega, rfl, by simpa using Hown1.out, Hb1.out⟩
 case round =>
  clear Hown1 Hb1;obtain ⟨k, hk, rfl, hown, hb⟩ := hrel;by_cases hlt : k < l.length
  ·obtain ⟨b1, o1, x, y, hae, c0, c1, hx⟩ := (H0.out wr hb).get (k := k) hlt;have hxw := Hl.out _ (List.mem_of_getElem? hx.out);have hfl : ((l.take k).flatMap idB).length ≤ (l.take k).length * 20 := flat_len idB 20 _ (fun z hz => idB_len (Hl.out z (List.mem_of_mem_take hz)));have htl : (l.take k).length ≤ k := by simp; omega
   have htk := q9 (flat_take idB hx.out);have hx10 := idB_len hxw;have hlen : (vb (zz l.length) ++ (l.take k).flatMap idB).length ≤ 300010 := by rw [List.length_append]; omega
   generalize hd : vb (zz l.length) ++ (l.take k).flatMap idB = d at *;have Hd := q9 hd;have Hown := q9 hown;have Hb := q9 hb;have HC := q9 (refNameB_any x y wr hxw);obtain ⟨X, hX⟩ : ∃ z, Hid (idB (x, y) = z) := ⟨_, q9 rfl⟩;rw [hX.out] at HC hx10;clear hown hb hd hx hxw;rw [hae];go_wp2_with fail
   refine HC.out.mono ?_;rintro e w2 ⟨v2, rfl, hown2, hb2⟩;obtain ⟨A2, c2, rfl⟩ := own_slice hown2;have hownO := own_below Hown.out hb2;have hbs2 := (Hb.out.trans (hb2.mono Hb.out.size)).size;have Hs2 := q9 (SL.of_own hown2);have Hb2 := q9 (Hb.out.trans (hb2.mono Hb.out.size));clear hown2 hb2 HC;go_wp2_with (at_builtin; refine wpList_appM' (w := w2) rfl _ _ rfl elt_byte hownO hbs2 rfl rfl Hs2.out (by rw [byV_len]; simp) (byV_all _) (by omega) ?_; intro v3 w3 hown3 hg3)
   go_roundw
   case rel => exact ⟨k + 1, by omega, by go_num, by rw [htk.out, ← List.append_assoc, Hd.out, hX.out, byV_append, List.length_append]; exact hown3, Hb2.out.grown hg3 hbs2 (fun k hk => (hownO.lt k hk).1)⟩
   case measure => simp [intOf]; omega
  obtain rfl : k = l.length := by omega
  rw [List.take_length] at hown;go_wp2_with fail
  go_ret
  exact ⟨_, rfl, hown, hb⟩
theorem refRaw_any (A : Option Addr) (c : Nat) (l : List Nat) (w : World) (h0 : SL w A (byV l)) (hll : l.length ≤ 1000000) :
  Calls Tryz.prog 77 #[.slice A l.length c] w fun e w' => ∃ v, e = .returned v ∧ w'.ownsRow w.heap.size 5 1 v (vb l.length ++ l).length (byV (vb l.length ++ l)) ∧ Below w.heap.size w w' := by
 have hv10 := vb_ten (n := l.length) (by omega);have hw : IntKind.u64.wrap (l.length : Int) = ((l.length : Nat) : Int) := by rw [IntKind.wrap_u64]; omega
 go_enter Tryz.func77, Tryz.ntmps77
 go_wp2_with fail
 refine (refUint_any l.length w (by omega)).mono ?_;rintro e w1 ⟨v1, rfl, hown1, hb1⟩;have Hs := q9 (show SL w1 A (byV l) from h0.below hb1);have hbs := hb1.size;go_wp2_with (at_builtin; refine wpList_appM' (w := w1) rfl _ _ rfl elt_byte hown1 hbs rfl rfl Hs.out (by rw [byV_len]; simp) (byV_all _) (by omega) ?_; intro v3 w3 hown3 hg3)
 go_ret
 exact ⟨v3, rfl, by rw [byV_append, List.length_append]; exact hown3, hb1.grown hg3 hbs (fun k hk => (hown1.lt k hk).1)⟩
end Go.Proofs.YtnapnkmehnabfaaGreat
