import Derived.Test.YtnapnkmehnabfaaGreatP29
namespace Go.Proofs.YtnapnkmehnabfaaGreat
open Go.RowKit Go.Maps

theorem WR.below {w w' : World} {base p : Nat} {v : Value} {d : List Nat} (h : WR w base p v d) (hb : Below w.heap.size w w') : WR w' base p v d := ⟨h.hp.below hb h.hp.lt, own_below h.own hb, h.bp⟩
set_option maxHeartbeats 2000000 in
set_option maxRecDepth 100000 in
theorem qRaw_any (base p g c : Nat) (v : Value) (d : List Nat) (s : ByteArray) (w : World) (hc : ∀ k, k < s.size → w.cell? ⟨g, k, none⟩ = some (.int .u8 (byt s k))) (hs : s.size ≤ 1000000) (h : WR w base p v d) (hd : d.length ≤ 700000000) :
  Calls Tryz.prog 60 #[.pointer (some ⟨p, 0, none⟩), .slice (some ⟨g, 0, none⟩) s.size c] w fun e w' => ∃ v', e = .returned (.tuple #[]) ∧ WR w' base p v' (d ++ (vb s.size ++ bl s)) ∧ Below base w w' ∧ Nb w w' p := by
 have hcv := text_of s g c w hc
 have HC := Lib.hid (qText_any base p v d s w hs h (by omega))
 clear h hc
 go_enter Tryz.func60, Tryz.ntmps60
 go_wp2_with fail
 refine HC.out.mono ?_
 rintro e w1 ⟨v1, rfl, hW, hb, hn⟩
 have HW := Lib.hid hW
 have Hb := Lib.hid hb
 have Hn := Lib.hid hn
 clear hW hb hn
 go_wp2_with fail
 go_end0
 exact ⟨v1, rfl, HW.out, Hb.out, Hn.out⟩
set_option linter.unusedSimpArgs false in
set_option maxHeartbeats 4000000 in
set_option maxRecDepth 100000 in
theorem qRetire_any (base p q : Nat) (v : Value) (d : List Nat) (x y : Int) (hw : rtW64 (x, y)) (w : World) (hq : Bk w q 100 #[.pointer (some ⟨p, 0, none⟩)]) (h : WR w base p v d) (hd : d.length ≤ 590000000) :
  Calls Tryz.prog 66 #[.agg #[.int .i64 x, .int .i64 y], .pointer (some ⟨q, 0, none⟩)] w fun e w' => ∃ v', e = .returned (.tuple #[]) ∧ WR w' base p v' (d ++ rtB (x, y)) ∧ Below base w w' ∧ Nb w w' p := by
 have hW1 := (h.alloc (.cells #[.int .i64 x, .int .i64 y] 92)).alloc (.cells #[.int .i64 x, .int .i64 y] 3)
 have hb1 := ((Below.refl base w).alloc h.size (.cells #[.int .i64 x, .int .i64 y] 92)).alloc (h.alloc _).size (.cells #[.int .i64 x, .int .i64 y] 3)
 have hn1 := ((Nb.refl w p).alloc (.cells #[.int .i64 x, .int .i64 y] 92)).alloc (.cells #[.int .i64 x, .int .i64 y] 3)
 have hg : Bk ((w.alloc (.cells #[.int .i64 x, .int .i64 y] 92)).alloc (.cells #[.int .i64 x, .int .i64 y] 3)) (w.heap.size + 1) 3 (rowI [x, y]) := Bk.new' _ _ _ (by simp)
 have HC := Lib.hid (qInts_any base p _ 2 v d [x, y] _ hg (w64_cons hw.1 (w64_cons hw.2 w64_nil)) (by simp) hW1 (by omega))
 have hc0 : (w.alloc (.cells #[.int .i64 x, .int .i64 y] 92)).cell? ⟨q, 0, none⟩ = some (.pointer (some ⟨p, 0, none⟩)) := (hq.alloc _).cell 0
 have Hb1 := Lib.hid hb1
 have Hn1 := Lib.hid hn1
 clear h hW1 hb1 hn1 hg hq
 go_enter Tryz.func66, Tryz.ntmps66
 go_wp2_with fail
 refine HC.out.mono ?_
 rintro e w2 ⟨v2, rfl, hW2, hb2, hn2⟩
 have HW2 := Lib.hid hW2
 have Hb2 := Lib.hid hb2
 have Hn2 := Lib.hid hn2
 clear hW2 hb2 hn2
 go_wp2_with fail
 go_end0
 exact ⟨v2, rfl, HW2.out, Hb1.out.trans Hb2.out, Hn1.out.trans Hn2.out⟩
set_option linter.unusedSimpArgs false in
set_option maxHeartbeats 4000000 in
set_option maxRecDepth 100000 in
theorem qMark_any (base p q : Nat) (v : Value) (d : List Nat) (mp mi k o f t ee : Int) (hw : mkW64 ⟨mp, mi, ⟨k, o, f, t, ee⟩⟩) (w : World) (hq : Bk w q 100 #[.pointer (some ⟨p, 0, none⟩)]) (h : WR w base p v d) (hd : d.length ≤ 590000000) :
  Calls Tryz.prog 62 #[.agg #[.int .u64 mp, .int .i64 mi, .int .i64 k, .int .i64 o, .int .i64 f, .int .i64 t, .int .i64 ee], .pointer (some ⟨q, 0, none⟩)] w fun e w' => ∃ v', e = .returned (.tuple #[]) ∧ WR w' base p v' (d ++ mkB ⟨mp, mi, ⟨k, o, f, t, ee⟩⟩) ∧ Below base w w' ∧ Nb w w' p := by
 have hW1 := h.alloc (.cells #[.int .u64 mp, .int .i64 mi, .int .i64 k, .int .i64 o, .int .i64 f, .int .i64 t, .int .i64 ee] 88)
 have hb1 := (Below.refl base w).alloc h.size (.cells #[.int .u64 mp, .int .i64 mi, .int .i64 k, .int .i64 o, .int .i64 f, .int .i64 t, .int .i64 ee] 88)
 have hn1 := (Nb.refl w p).alloc (.cells #[.int .u64 mp, .int .i64 mi, .int .i64 k, .int .i64 o, .int .i64 f, .int .i64 t, .int .i64 ee] 88)
 have hk := Bk.new w 88 #[.int .u64 mp, .int .i64 mi, .int .i64 k, .int .i64 o, .int .i64 f, .int .i64 t, .int .i64 ee]
 have hgp : w.heap.size ≠ p := hk.ne_ hW1.hp (by decide)
 have hqp : q ≠ p := hq.ne_ h.hp (by decide)
 have hq1 := hq.alloc (.cells #[.int .u64 mp, .int .i64 mi, .int .i64 k, .int .i64 o, .int .i64 f, .int .i64 t, .int .i64 ee] 88)
 have c0 : (w.alloc (.cells #[.int .u64 mp, .int .i64 mi, .int .i64 k, .int .i64 o, .int .i64 f, .int .i64 t, .int .i64 ee] 88)).cell? ⟨w.heap.size, 0, none⟩ = some (.int .u64 mp) := hk.cell 0
 have c1 : (w.alloc (.cells #[.int .u64 mp, .int .i64 mi, .int .i64 k, .int .i64 o, .int .i64 f, .int .i64 t, .int .i64 ee] 88)).cell? ⟨w.heap.size, 1, none⟩ = some (.int .i64 mi) := hk.cell 1
 have cq : (w.alloc (.cells #[.int .u64 mp, .int .i64 mi, .int .i64 k, .int .i64 o, .int .i64 f, .int .i64 t, .int .i64 ee] 88)).cell? ⟨q, 0, none⟩ = some (.pointer (some ⟨p, 0, none⟩)) := hq1.cell 0
 have HK := Lib.hid hk
 have HQ := Lib.hid hq1
 have HW1 := Lib.hid hW1
 have Hb1 := Lib.hid hb1
 have Hn1 := Lib.hid hn1
 obtain ⟨hwp, hwi, hwc⟩ := hw
 have Hwn := Lib.hid (show idW64 (mp, mi) from ⟨hwp, hwi⟩)
 have Hwc := Lib.hid hwc
 have hv1 : (vb mp.toNat).length ≤ 10 := vb_ten (by have := hwp.1; have := hwp.2; simp at *; omega)
 have hv2 : (vb (zz mi)).length ≤ 10 := vb_ten (zz_lt hwi)
 clear h hW1 hb1 hn1 hk hq hq1 hwp hwi hwc
 go_enter Tryz.func62, Tryz.ntmps62
 go_upto_region 1 with fail
 generalize w.heap.size = g at *
 generalize w.alloc (.cells #[.int .u64 mp, .int .i64 mi, .int .i64 k, .int .i64 o, .int .i64 f, .int .i64 t, .int .i64 ee] 88) = W1 at *
 go_wp2_with fail
 refine (qName_any base p v d mp mi Hwn.out W1 HW1.out (by omega)).mono ?_
 rintro e w2 ⟨v2, rfl, hW2, hb2, hn2⟩
 have hk2 := hn2 _ _ _ hgp (by decide) HK.out
 have hq2 := hn2 _ _ _ hqp (by decide) HQ.out
 have e0 : w2.cell? ⟨g, 2, none⟩ = some (.int .i64 k) := hk2.cell 2
 have e1 : w2.cell? ⟨g, 3, none⟩ = some (.int .i64 o) := hk2.cell 3
 have e2 : w2.cell? ⟨g, 4, none⟩ = some (.int .i64 f) := hk2.cell 4
 have e3 : w2.cell? ⟨g, 5, none⟩ = some (.int .i64 t) := hk2.cell 5
 have e4 : w2.cell? ⟨g, 6, none⟩ = some (.int .i64 ee) := hk2.cell 6
 have e5 : w2.cell? ⟨q, 0, none⟩ = some (.pointer (some ⟨p, 0, none⟩)) := hq2.cell 0
 have HW2 := Lib.hid hW2
 have Hb2 := Lib.hid hb2
 have Hn2 := Lib.hid hn2
 clear hW2 hb2 hn2
 clear hk2 hq2
 go_wp2_with fail
 refine (qClaim_any base p v2 _ k o f t ee Hwc.out w2 HW2.out (by rw [List.length_append, idB, List.length_append]; dsimp only; omega)).mono ?_
 rintro e w3 ⟨v3, rfl, hW3, hb3, hn3⟩
 have HW3 := Lib.hid hW3
 have Hb3 := Lib.hid hb3
 have Hn3 := Lib.hid hn3
 clear hW3 hb3 hn3
 go_wp2_with fail
 go_end0
 exact ⟨v3, rfl, by rw [mkB, ← List.append_assoc]; exact HW3.out, Hb1.out.trans (Hb2.out.trans Hb3.out), Hn1.out.trans (Hn2.out.trans Hn3.out)⟩
set_option linter.unusedSimpArgs false in
set_option maxHeartbeats 4000000 in
set_option maxRecDepth 100000 in
theorem qPlace_any (base p q : Nat) (v : Value) (d : List Nat) (x y : Int) (nm : ByteArray) (of fr til : Int) (hw : plW64 ⟨x, y, nm, of, fr, til⟩) (hs : nm.size ≤ 1000) (w : World) (hq : Bk w q 100 #[.pointer (some ⟨p, 0, none⟩)]) (h : WR w base p v d) (hd : d.length ≤ 590000000) :
  Calls Tryz.prog 59 #[.agg #[.int .i64 x, .int .i64 y, .string nm, .int .i64 of, .int .i64 fr, .int .i64 til], .pointer (some ⟨q, 0, none⟩)] w fun e w' => ∃ v', e = .returned (.tuple #[]) ∧ WR w' base p v' (d ++ plB ⟨x, y, nm, of, fr, til⟩) ∧ Below base w w' ∧ Nb w w' p := by
 have hW1 := (h.alloc (.cells #[.int .i64 x, .int .i64 y, .string nm, .int .i64 of, .int .i64 fr, .int .i64 til] 114)).alloc (.cells #[.int .i64 x, .int .i64 y] 3)
 have hb1 := ((Below.refl base w).alloc h.size (.cells #[.int .i64 x, .int .i64 y, .string nm, .int .i64 of, .int .i64 fr, .int .i64 til] 114)).alloc (h.alloc _).size (.cells #[.int .i64 x, .int .i64 y] 3)
 have hn1 := ((Nb.refl w p).alloc (.cells #[.int .i64 x, .int .i64 y, .string nm, .int .i64 of, .int .i64 fr, .int .i64 til] 114)).alloc (.cells #[.int .i64 x, .int .i64 y] 3)
 have hk := (Bk.new w 114 #[.int .i64 x, .int .i64 y, .string nm, .int .i64 of, .int .i64 fr, .int .i64 til]).alloc (.cells #[.int .i64 x, .int .i64 y] 3)
 have hgp : w.heap.size ≠ p := hk.ne_ hW1.hp (by decide)
 have hqp : q ≠ p := hq.ne_ h.hp (by decide)
 have hq1 := (hq.alloc (.cells #[.int .i64 x, .int .i64 y, .string nm, .int .i64 of, .int .i64 fr, .int .i64 til] 114)).alloc (.cells #[.int .i64 x, .int .i64 y] 3)
 have hc0 : (w.alloc (.cells #[.int .i64 x, .int .i64 y, .string nm, .int .i64 of, .int .i64 fr, .int .i64 til] 114)).cell? ⟨q, 0, none⟩ = some (.pointer (some ⟨p, 0, none⟩)) := (hq.alloc _).cell 0
 have hg : Bk ((w.alloc (.cells #[.int .i64 x, .int .i64 y, .string nm, .int .i64 of, .int .i64 fr, .int .i64 til] 114)).alloc (.cells #[.int .i64 x, .int .i64 y] 3)) (w.heap.size + 1) 3 (rowI [x, y]) := Bk.new' _ _ _ (by simp)
 have HC := Lib.hid (qInts_any base p _ 2 v d [x, y] _ hg (w64_cons hw.1 (w64_cons hw.2.1 w64_nil)) (by simp) hW1 (by omega))
 have hl1 := Lib.hid (vbs_len [x, y] (w64_cons hw.1 (w64_cons hw.2.1 w64_nil)))
 have HK := Lib.hid hk
 have HQ := Lib.hid hq1
 have Hb1 := Lib.hid hb1
 have Hn1 := Lib.hid hn1
 have Hw3 := Lib.hid (show W64 [of, fr, til] from w64_cons hw.2.2.1 (w64_cons hw.2.2.2.1 (w64_cons hw.2.2.2.2 w64_nil)))
 have HSf := Lib.hid (fun (W : World) (h : Bk W w.heap.size 114 #[.int .i64 x, .int .i64 y, .string nm, .int .i64 of, .int .i64 fr, .int .i64 til] ∧ Bk W q 100 #[.pointer (some ⟨p, 0, none⟩)]) => show W.cell? ⟨w.heap.size, 2, none⟩ = some (.string nm) ∧ W.cell? ⟨q, 0, none⟩ = some (.pointer (some ⟨p, 0, none⟩)) from ⟨h.1.cell 2, h.2.cell 0⟩)
 clear h hW1 hb1 hn1 hk hq hq1 hg hw
 go_enter Tryz.func59, Tryz.ntmps59
 go_upto_region 2 with (refine HC.out.mono ?_; rintro e w2 ⟨v2, rfl, hW2, hb2, hn2⟩; have HW2 := Lib.hid hW2; have HB2 := Lib.hid (Hb1.out.trans hb2); have HN2 := Lib.hid (Hn1.out.trans hn2); have HK2 := Lib.hid (And.intro (hn2 _ _ _ hgp (by decide) HK.out) (hn2 _ _ _ hqp (by decide) HQ.out)); clear hW2 hb2 hn2 HC Hb1 Hn1 HK HQ)
 generalize w.heap.size = g at *
 have hl2 : (d ++ vbs [x, y]).length ≤ 590000020 := by have := hl1.out; simp only [List.length_append, List.length_cons, List.length_nil] at this ⊢; omega
 obtain ⟨d2, hd2⟩ : ∃ z, Hid (d ++ vbs [x, y] = z) := ⟨_, Lib.hid rfl⟩
 rw [hd2.out] at HW2 hl2
 have HW3 := Lib.hid HW2.out.drew
 have HB3 := Lib.hid HB2.out.drew
 have HN3 := Lib.hid (show Nb w w2.drew p from HN2.out)
 have HK3 := Lib.hid (show Bk w2.drew g 114 #[.int .i64 x, .int .i64 y, .string nm, .int .i64 of, .int .i64 fr, .int .i64 til] ∧ Bk w2.drew q 100 #[.pointer (some ⟨p, 0, none⟩)] from HK2.out)
 clear HW2 HB2 HN2 HK2
 refine wp_region_noPanic ?_
 refine region_H (S := fun W => W.cell? ⟨g, 2, none⟩ = some (.string nm) ∧ W.cell? ⟨q, 0, none⟩ = some (.pointer (some ⟨p, 0, none⟩))) (by kernel_rfl) ?_
 change wpH _ _ _ _ 7 _ _ w2.drew
 generalize w2.drew = X0 at *
 obtain ⟨W4, c4, hcv, hb4, hz4, hcs4⟩ := bytes_of nm X0
 have HW4 := Lib.hid (HW3.out.below hb4)
 have HB4 := Lib.hid (HB3.out.trans (hb4.mono HW3.out.size))
 have HN4 := Lib.hid (HN3.out.below hb4)
 have HK4 := Lib.hid (And.intro (HK3.out.1.below hb4 HK3.out.1.lt) (HK3.out.2.below hb4 HK3.out.2.lt))
 have HC4 := Lib.hid hcs4
 clear hb4 hz4 hcs4
 refine H_takeD (k := 0) (v := .pointer (some ⟨p, 0, none⟩)) (d := some 12) rfl rfl (by decide +kernel) (fun _ _ _ h => h) (Or.inl ⟨by rfl, fun W hW => by obtain ⟨s0, s1⟩ := hW; go_simp⟩) (HSf.out _ HK3.out) ?_
 try simp only [Act.put, qz0, qz1, qz2]
 refine H_takeD (k := 1) (v := .pointer (some ⟨p, 0, none⟩)) (d := some 13) rfl rfl (by decide +kernel) (fun _ _ _ h => h) (Or.inl ⟨by rfl, fun W hW => by obtain ⟨s0, s1⟩ := hW; go_simp⟩) (HSf.out _ HK3.out) ?_
 try simp only [Act.put, qz0, qz1, qz2]
 refine H_takeD (k := 2) (v := .pointer (some ⟨p, 0, none⟩)) (d := some 14) rfl rfl (by decide +kernel) (fun _ _ _ h => h) (Or.inl ⟨by rfl, fun W hW => by obtain ⟨s0, s1⟩ := hW; go_simp⟩) (HSf.out _ HK3.out) ?_
 try simp only [Act.put, qz0, qz1, qz2]
 refine H_takeD (k := 3) (v := .pointer (some ⟨g, 2, none⟩)) (d := some 15) rfl rfl (by decide +kernel) (fun _ _ _ h => h) (Or.inl ⟨by rfl, fun W hW => by obtain ⟨s0, s1⟩ := hW; go_simp⟩) (HSf.out _ HK3.out) ?_
 try simp only [Act.put, qz0, qz1, qz2]
 refine H_takeD (k := 4) (v := .string nm) (d := some 16) rfl rfl (by decide +kernel) (fun _ _ _ h => h) (Or.inl ⟨by rfl, fun W hW => by obtain ⟨s0, s1⟩ := hW; go_simp⟩) (HSf.out _ HK3.out) ?_
 try simp only [Act.put, qz0, qz1, qz2]
 refine H_one (i := 5) (by decide +kernel) (H_step rfl rfl (fun K hK5 => ?_))
 have hK5 := Lib.hid hK5
 go_simp
 refine hK5.out _ _ (HSf.out _ HK4.out) ?_
 try simp only [Act.put, qz0, qz1, qz2]
 clear hcv
 generalize X0.heap.size = g4 at *
 refine H_one (i := 6) (by decide +kernel) (H_step rfl rfl (fun K hK6 => ?_))
 have hK6 := Lib.hid hK6
 go_simp
 go_at_call 60
 refine (qRaw_any base p g4 c4 v2 d2 nm W4 HC4.out (by omega) HW4.out (by omega)).mono ?_
 rintro e wv5 ⟨v5, rfl, hw5, hb5, hn5⟩
 have HW5 := Lib.hid hw5
 have HB5 := Lib.hid (HB4.out.trans hb5)
 have HN5 := Lib.hid (HN4.out.trans hn5)
 have HK5 := Lib.hid (And.intro (hn5 _ _ _ hgp (by decide) HK4.out.1) (hn5 _ _ _ hqp (by decide) HK4.out.2))
 clear hw5 hb5 hn5
 refine hK6.out _ _ (HSf.out _ HK5.out) ?_
 try simp only [Act.put, qz0, qz1, qz2]
 refine H_end (by decide +kernel) (NoPanic.normal ?_)
 try simp only [Act.put, qz0, qz1, qz2]
 have e0 : wv5.cell? ⟨g, 3, none⟩ = some (.int .i64 of) := HK5.out.1.cell 3
 have e1 : wv5.cell? ⟨g, 4, none⟩ = some (.int .i64 fr) := HK5.out.1.cell 4
 have e2 : wv5.cell? ⟨g, 5, none⟩ = some (.int .i64 til) := HK5.out.1.cell 5
 have e3 : wv5.cell? ⟨q, 0, none⟩ = some (.pointer (some ⟨p, 0, none⟩)) := HK5.out.2.cell 0
 have hv10 : (vb nm.size).length ≤ 10 := vb_ten (by omega)
 have hl5 : (d2 ++ (vb nm.size ++ bl nm)).length ≤ 600000000 := by simp only [List.length_append, bl_len]; omega
 obtain ⟨d5, hd5⟩ : ∃ z, Hid (d2 ++ (vb nm.size ++ bl nm) = z) := ⟨_, Lib.hid rfl⟩
 rw [hd5.out] at HW5 hl5
 have HC6 := Lib.hid (qInts_any base p _ 3 v5 d5 [of, fr, til] _ (Bk.new wv5 3 (rowI [of, fr, til])) Hw3.out (by simp) (HW5.out.alloc _) (by omega))
 have HB6 := Lib.hid (HB5.out.alloc HW5.out.size (.cells #[.int .i64 of, .int .i64 fr, .int .i64 til] 3))
 have HN6 := Lib.hid (HN5.out.alloc (.cells #[.int .i64 of, .int .i64 fr, .int .i64 til] 3))
 clear HW5 HB5 HN5 HK5 HK4 HB4 HN4 HW4 HB3 HN3 HW3 HK3 HC4 HSf
 go_wp2_with fail
 refine HC6.out.mono ?_
 rintro e w7 ⟨v7, rfl, hW7, hb7, hn7⟩
 have HW7 := Lib.hid hW7
 have Hb7 := Lib.hid (HB6.out.trans hb7)
 have Hn7 := Lib.hid (HN6.out.trans hn7)
 clear hW7 hb7 hn7
 go_wp2_with fail
 go_end0
 exact ⟨v7, rfl, by rw [plB, ← List.append_assoc, ← List.append_assoc, hd2.out, hd5.out]; exact HW7.out, Hb7.out, Hn7.out⟩
end Go.Proofs.YtnapnkmehnabfaaGreat
