import Derived.Test.YtnapnkmehnabfaaGreatP39
namespace Go.Proofs.YtnapnkmehnabfaaGreat
open Go.RowKit Go.Maps

/-- Bounds of what is encoded by the reference, valid or not. -/
structure RPn (p : Pa) : Prop where
 n : p.needs.length ≤ 10000
 s : p.st.length ≤ 10000
 c : ∀ x ∈ p.st, x.cl.length ≤ 1000
 l : p.pl.length ≤ 10000
 x : ∀ x ∈ p.pl, x.nm.size ≤ 1000
 m : p.ma.length ≤ 10000
 e : p.er.length ≤ 10000
 d : p.dr.length ≤ 10000
 r : p.rt.length ≤ 10000
theorem skB_len2 {s : Sk} (h : skW64 s) (hs : s.cl.length ≤ 1000) : (skB s).length ≤ 50050 := by
 have h1 := vbs_len [s.ax, s.ay, s.bx, s.by_] (w64_cons h.1 (w64_cons h.2.1 (w64_cons h.2.2.1 (w64_cons h.2.2.2.1 w64_nil))))
 have h2 := lsB_len clB 50 s.cl (fun c hc => clB_len (h.2.2.2.2 c hc)) (by omega)
 have h3 : s.cl.length * 50 ≤ 1000 * 50 := Nat.mul_le_mul_right 50 hs
 simp only [skB, List.length_append, List.length_cons, List.length_nil] at h1 h2 ⊢
 omega
theorem app_own {w w2 w' : World} {base n : Nat} {v v2 v3 : Value} {d x : List Nat} (h : w2.ownsRow base 5 1 v d.length (byV d)) (hb : Below base w w2) (hbs : base ≤ w2.heap.size) (hg : w2.grownBy w' v.ownBlock) (ho : w'.ownsRow base 5 1 v3 (d.length + x.length) (byV d ++ byV x)) (_ : v2 = v2) (_ : n = n) :
  w'.ownsRow base 5 1 v3 (d ++ x).length (byV (d ++ x)) ∧ Below base w w' :=
 ⟨by rw [byV_append, List.length_append]; exact ho, hb.grown hg hbs (fun k hk => (h.lt k hk).1)⟩
theorem sl_text {s : ByteArray} {w : World} {g : Nat} (h : ∀ k, k < s.size → w.cell? ⟨g, k, none⟩ = some (.int .u8 (byt s k))) : SL w (some ⟨g, 0, none⟩) (byV (bl s)) := by
 intro j u hu
 have hj : j < s.size := by have := (List.getElem?_eq_some_iff.1 hu).1; rwa [byV_len, bl_len] at this
 refine ⟨g, 0, rfl, World.block_lt_of_cell? _ _ (h j hj), ?_⟩
 rw [Nat.zero_add, h j hj]
 rw [byV, List.getElem?_map, bl_get s hj] at hu
 rw [byt, List.getD, bl_get s hj]
 exact hu
set_option linter.unusedSimpArgs false in
set_option maxHeartbeats 16000000 in
set_option maxRecDepth 100000 in
theorem refBytes_any (p : Pa) (a : Pw) (w : World) (h : PT w p a) (hw : PW64 p) (hr : RPn p) :
  Calls Tryz.prog 27 #[.agg (paC p a)] w fun e w' => ∃ v, e = .returned v ∧ w'.ownsRow w.heap.size 5 1 v (paB p).length (byV (paB p)) ∧ Below w.heap.size w w' := by
 have hb0 := (Below.refl w.heap.size w).alloc (Nat.le_refl _) (.cells #[.int .i64 p.office, .int .i64 p.num, .slice a.n p.needs.length a.cn, .slice a.s p.st.length a.cs, .slice a.l p.pl.length a.cl, .slice a.m p.ma.length a.cm, .slice a.e p.er.length a.ce, .slice a.d p.dr.length a.cd, .slice a.r p.rt.length a.cr] 34)
 have hk := Bk.new w 34 #[.int .i64 p.office, .int .i64 p.num, .slice a.n p.needs.length a.cn, .slice a.s p.st.length a.cs, .slice a.l p.pl.length a.cl, .slice a.m p.ma.length a.cm, .slice a.e p.er.length a.ce, .slice a.d p.dr.length a.cd, .slice a.r p.rt.length a.cr]
 have HT1 := Lib.hid (h.below hb0)
 have HK1 := Lib.hid hk
 have Hb0 := Lib.hid hb0
 have hsz : w.heap.size ≤ (w.alloc (.cells #[.int .i64 p.office, .int .i64 p.num, .slice a.n p.needs.length a.cn, .slice a.s p.st.length a.cs, .slice a.l p.pl.length a.cl, .slice a.m p.ma.length a.cm, .slice a.e p.er.length a.ce, .slice a.d p.dr.length a.cd, .slice a.r p.rt.length a.cr] 34)).heap.size := by simp
 show Calls Tryz.prog 27 #[.agg #[.int .i64 p.office, .int .i64 p.num, .slice a.n p.needs.length a.cn, .slice a.s p.st.length a.cs, .slice a.l p.pl.length a.cl, .slice a.m p.ma.length a.cm, .slice a.e p.er.length a.ce, .slice a.d p.dr.length a.cd, .slice a.r p.rt.length a.cr]] w _
 have HW := Lib.hid hw
 have HR := Lib.hid hr
 obtain ⟨R, hR⟩ : ∃ z, Hid (paB p = z) := ⟨_, Lib.hid rfl⟩
 rw [hR.out]
 clear h hb0 hk hw hr
 go_enter Tryz.func27, Tryz.ntmps27
 go_upto_region 1 with fail
 generalize w.alloc (.cells #[.int .i64 p.office, .int .i64 p.num, .slice a.n p.needs.length a.cn, .slice a.s p.st.length a.cs, .slice a.l p.pl.length a.cl, .slice a.m p.ma.length a.cm, .slice a.e p.er.length a.ce, .slice a.d p.dr.length a.cd, .slice a.r p.rt.length a.cr] 34) = w1 at *
 generalize hS : w.heap.size = S at *
 have HS := Lib.hid hS
 clear hS
 have HSC := Lib.hid (fun (W : World) (hW : Below w1.heap.size w1 W) => (HK1.out.below hW HK1.out.lt).cell)
 have c0 : w1.cell? ⟨S, 0, none⟩ = some (.int .i64 p.office) := HK1.out.cell 0
 have c1 : w1.cell? ⟨S, 1, none⟩ = some (.int .i64 p.num) := HK1.out.cell 1
 have c2 : w1.cell? ⟨S, 2, none⟩ = some (.slice a.n p.needs.length a.cn) := HK1.out.cell 2
 have hln := HR.out.n
 have hx64 : W64 [p.office, p.num, (p.needs.length : Int)] := w64_cons HW.out.o (w64_cons HW.out.k (w64_cons (by unfold i64; omega) w64_nil))
 have HC := Lib.hid (refIntsB_any w1.heap.size 3 [p.office, p.num, (p.needs.length : Int)] _ (Bk.new w1 3 (rowI [p.office, p.num, (p.needs.length : Int)])) hx64 (by simp))
 have HA := Lib.hid ((Below.refl w1.heap.size w1).alloc (Nat.le_refl _) (.cells (rowI [p.office, p.num, (p.needs.length : Int)]) 3))
 have hlv := vbs_len _ hx64
 clear hx64
 go_wp2_with fail
 refine HC.out.mono ?_
 rintro e w2 ⟨v2, rfl, hown2, hb2⟩
 have HO := Lib.hid (own_mono hown2 HA.out.size)
 have HB := Lib.hid (HA.out.trans (hb2.mono HA.out.size))
 obtain ⟨d0, hd0⟩ : ∃ z, Hid (vbs [p.office, p.num, (p.needs.length : Int)] = z) := ⟨_, Lib.hid rfl⟩
 rw [hd0.out] at HO hlv
 have hl0 : d0.length ≤ 30 := by simpa using hlv
 clear hown2 hb2 HC HA hlv c0 c1 c2
 have hK := Lib.hid (show ∀ x ∈ p.needs, (ndB x).length ≤ 10 from fun x hx => ndB_len (HW.out.n x hx))
 go_wp2_with fail
 go_loopw [3, 4] (fun v i wr => ∃ (k : Nat), k ≤ p.needs.length ∧ i = .int .i64 k ∧ Hid (wr.ownsRow w1.heap.size 5 1 v (d0 ++ (p.needs.take k).flatMap ndB).length (byV (d0 ++ (p.needs.take k).flatMap ndB))) ∧ Hid (Below w1.heap.size w1 wr)) (fun _ i _ => p.needs.length - (intOf i).toNat)
 case atStart => exact ⟨0, by omega, rfl, Lib.hid (by simpa using HO.out), HB⟩
 case round =>
  clear HO HB
  obtain ⟨k, hk, rfl, HO, HB⟩ := hrel
  have cc : wr.cell? ⟨S, 2, none⟩ = some (.slice a.n p.needs.length a.cn) := HSC.out wr HB.out 2
  have hfl : ((p.needs.take k).flatMap ndB).length ≤ p.needs.length * 10 := by
   refine Nat.le_trans (flat_len ndB 10 (p.needs.take k) (fun x hx => hK.out x (List.mem_of_mem_take hx))) ?_
   exact Nat.mul_le_mul_right 10 (by simp; omega)
  have hll := HR.out.n
  have hdl : (d0 ++ (p.needs.take k).flatMap ndB).length ≤ 200000 := by rw [List.length_append]; omega
  by_cases hlt : k < p.needs.length
  ·obtain ⟨d, hd⟩ : ∃ z, Hid (d0 ++ (p.needs.take k).flatMap ndB = z) := ⟨_, Lib.hid rfl⟩
   rw [hd.out] at HO hdl
   obtain ⟨bC, oC, n, hae, c0, hx⟩ := HT1.out.n.get (k := k) hlt
   have c0 := ((HB.out.cell (World.block_lt_of_cell? _ _ c0)).trans c0)
   have hxw := HW.out.n _ (List.mem_of_getElem? hx.out)
   have htk := Lib.hid (flat_take ndB hx.out)
   obtain ⟨m, rfl⟩ : ∃ m : Nat, n = m := ⟨n.toNat, by have := hxw.1; omega⟩
   have hm : m < 18446744073709551616 := by have := hxw.2; omega
   have hx10 := vb_ten hm
   clear hx hxw
   rw [hae] at cc ⊢
   go_wp2_with fail
   refine (refUint_any m wr hm).mono ?_
   rintro e w2 ⟨v2, rfl, hown2, hb2⟩
   obtain ⟨A2, c2_, rfl⟩ := own_slice hown2
   have hownO := own_below HO.out hb2
   have HBx := Lib.hid (HB.out.trans (hb2.mono HB.out.size))
   have hbsx := HBx.out.size
   have Hsx := Lib.hid (SL.of_own hown2)
   clear hb2 hown2 HO HB c0 cc
   go_wp2_with (at_builtin; refine wpList_appM' (w := w2) rfl _ _ rfl elt_byte hownO hbsx rfl rfl Hsx.out (by rw [byV_len]; simp) (byV_all _) (by omega) ?_; intro v3 w3 hown3 hg3; obtain ⟨A3, c3_, rfl⟩ := own_slice hown3)
   have hap := app_own (w := w1) (n := 0) (v2 := .bool true) hownO HBx.out hbsx hg3 hown3 rfl rfl
   have HO3 := Lib.hid hap.1
   have HB3 := Lib.hid hap.2
   clear hap hown3 hg3
   go_roundw
   case rel => exact ⟨k + 1, by omega, by go_num, Lib.hid (by rw [htk.out, ← List.append_assoc, hd.out, show ndB (m : Int) = vb m from rfl]; exact HO3.out), HB3⟩
   case measure => simp [intOf]; omega
  ·obtain rfl : k = p.needs.length := by omega
   rw [List.take_length] at HO hdl
   clear hfl hlt hk
   obtain ⟨d1, hd1⟩ : ∃ z, Hid (d0 ++ p.needs.flatMap ndB = z) := ⟨_, Lib.hid rfl⟩
   rw [hd1.out] at HO hdl
   have hld1 := hdl
   clear hdl hll
   have cn : wr.cell? ⟨S, 3, none⟩ = some (.slice a.s p.st.length a.cs) := HSC.out wr HB.out 3
   go_wp2_with fail
   refine (refInt_any (p.st.length : Int) wr (by have := HR.out.s; omega)).mono ?_
   rintro e w2 ⟨v2, rfl, hown2, hb2⟩
   obtain ⟨X, hX⟩ : ∃ z, Hid (vb (zz (p.st.length : Int)) = z) := ⟨_, Lib.hid rfl⟩
   have hXl : X.length ≤ 10 := by rw [← hX.out]; exact zz_len (by have := HR.out.s; omega)
   rw [hX.out] at hown2
   obtain ⟨A2, c2_, rfl⟩ := own_slice hown2
   have hownO := own_below HO.out hb2
   have HBx := Lib.hid (HB.out.trans (hb2.mono HB.out.size))
   have hbsx := HBx.out.size
   have Hsx := Lib.hid (SL.of_own hown2)
   clear hb2 hown2 HO HB cn
   go_wp2_with (at_builtin; refine wpList_appM' (w := w2) rfl _ _ rfl elt_byte hownO hbsx rfl rfl Hsx.out (by rw [byV_len]; simp) (byV_all _) (by omega) ?_; intro v3 w3 hown3 hg3; obtain ⟨A3, c3_, rfl⟩ := own_slice hown3)
   have hap := app_own (w := w1) (n := 0) (v2 := .bool true) hownO HBx.out hbsx hg3 hown3 rfl rfl
   obtain ⟨d2, hq⟩ : ∃ z, Hid (d1 ++ X = z) := ⟨_, Lib.hid rfl⟩
   have hld2 : d2.length ≤ 300000 := by rw [← hq.out, List.length_append]; omega
   rw [hq.out] at hap
   have hd2 := Lib.hid (show d1 ++ vb (zz (p.st.length : Int)) = d2 from by rw [hX.out, hq.out])
   have HO := Lib.hid hap.1
   have HB := Lib.hid hap.2
   clear hap hown3 hg3 hownO HBx hbsx Hsx hXl hq hX
   have hK := Lib.hid (show ∀ x ∈ p.st, (skB x).length ≤ 50050 from fun x hx => skB_len2 (HW.out.s x hx) (HR.out.c x hx))
   go_loopw [3, 5] (fun v i wr => ∃ (k : Nat), k ≤ p.st.length ∧ i = .int .i64 k ∧ Hid (wr.ownsRow w1.heap.size 5 1 v (d2 ++ (p.st.take k).flatMap skB).length (byV (d2 ++ (p.st.take k).flatMap skB))) ∧ Hid (Below w1.heap.size w1 wr)) (fun _ i _ => p.st.length - (intOf i).toNat)
   case atStart => exact ⟨0, by omega, rfl, Lib.hid (by simpa using HO.out), HB⟩
   case round =>
    clear HO HB
    obtain ⟨k, hk, rfl, HO, HB⟩ := hrel
    have cc : wr.cell? ⟨S, 3, none⟩ = some (.slice a.s p.st.length a.cs) := HSC.out wr HB.out 3
    have hfl : ((p.st.take k).flatMap skB).length ≤ p.st.length * 50050 := by
     refine Nat.le_trans (flat_len skB 50050 (p.st.take k) (fun x hx => hK.out x (List.mem_of_mem_take hx))) ?_
     exact Nat.mul_le_mul_right 50050 (by simp; omega)
    have hll := HR.out.s
    have hdl : (d2 ++ (p.st.take k).flatMap skB).length ≤ 600000000 := by rw [List.length_append]; omega
    by_cases hlt : k < p.st.length
    ·obtain ⟨d, hd⟩ : ∃ z, Hid (d2 ++ (p.st.take k).flatMap skB = z) := ⟨_, Lib.hid rfl⟩
     rw [hd.out] at HO hdl
     obtain ⟨bC, oC, ⟨ax, ay, bx, by_, cls⟩, D, dc, hae, c0, c1, c2, c3, c4, hcs, hcl, hx⟩ := HT1.out.s.get (k := k) hlt
     have c0 := ((HB.out.cell (World.block_lt_of_cell? _ _ c0)).trans c0)
     have c1 := ((HB.out.cell (World.block_lt_of_cell? _ _ c1)).trans c1)
     have c2 := ((HB.out.cell (World.block_lt_of_cell? _ _ c2)).trans c2)
     have c3 := ((HB.out.cell (World.block_lt_of_cell? _ _ c3)).trans c3)
     have c4 := ((HB.out.cell (World.block_lt_of_cell? _ _ c4)).trans c4)
     have hxw := HW.out.s _ (List.mem_of_getElem? hx.out)
     have hxl := HR.out.c _ (List.mem_of_getElem? hx.out)
     have htk := Lib.hid (flat_take skB hx.out)
     have Hcw := Lib.hid hxw.2.2.2.2
     have hxl2 : cls.length ≤ 1000 := hxl
     have hx64 : W64 [ax, ay, bx, by_, (cls.length : Int)] := w64_cons hxw.1 (w64_cons hxw.2.1 (w64_cons hxw.2.2.1 (w64_cons hxw.2.2.2.1 (w64_cons (by unfold i64; omega) w64_nil))))
     have hlv := vbs_len _ hx64
     have HCS := Lib.hid (fun (W : World) (hW : Below w1.heap.size w1 W) => (show SC W D cls from hcs.below hW))
     have HGB := Lib.hid ((HB.out.alloc HB.out.size (.cells #[.int .i64 ax, .int .i64 ay, .int .i64 bx, .int .i64 by_, .slice D cls.length dc] 62)).alloc (Nat.le_trans HB.out.size (by simp)) (.cells (rowI [ax, ay, bx, by_, (cls.length : Int)]) 3))
     have HGO := Lib.hid ((HO.out.alloc (.cells #[.int .i64 ax, .int .i64 ay, .int .i64 bx, .int .i64 by_, .slice D cls.length dc] 62)).alloc (.cells (rowI [ax, ay, bx, by_, (cls.length : Int)]) 3))
     have HGK := Lib.hid ((Bk.new wr 62 #[.int .i64 ax, .int .i64 ay, .int .i64 bx, .int .i64 by_, .slice D cls.length dc]).alloc (.cells (rowI [ax, ay, bx, by_, (cls.length : Int)]) 3))
     have HC := Lib.hid (refIntsB_any (wr.heap.size + 1) 5 [ax, ay, bx, by_, (cls.length : Int)] ((wr.alloc (.cells #[.int .i64 ax, .int .i64 ay, .int .i64 bx, .int .i64 by_, .slice D cls.length dc] 62)).alloc (.cells (rowI [ax, ay, bx, by_, (cls.length : Int)]) 3)) (Bk.new' _ _ _ (by simp)) hx64 (by simp))
     clear hx hxw hxl hx64 hcs
     rw [hae] at cc ⊢
     go_wp2_with fail
     refine HC.out.mono ?_
     generalize ((wr.alloc (.cells #[.int .i64 ax, .int .i64 ay, .int .i64 bx, .int .i64 by_, .slice D cls.length dc] 62)).alloc (.cells (rowI [ax, ay, bx, by_, (cls.length : Int)]) 3)) = W1 at *
     generalize wr.heap.size = g at *
     rintro e w2 ⟨v2, rfl, hown2, hb2⟩
     obtain ⟨X, hX⟩ : ∃ z, Hid (vbs [ax, ay, bx, by_, (cls.length : Int)] = z) := ⟨_, Lib.hid rfl⟩
     rw [hX.out] at hown2 hlv
     have hXl : X.length ≤ 50 := by simpa using hlv
     have HGK2 := Lib.hid (HGK.out.below hb2 HGK.out.lt)
     obtain ⟨A2, c2_, rfl⟩ := own_slice hown2
     have hownO := own_below HGO.out hb2
     have HBx := Lib.hid (HGB.out.trans (hb2.mono HGB.out.size))
     have hbsx := HBx.out.size
     have Hsx := Lib.hid (SL.of_own hown2)
     clear hb2 hown2 HO HB c0 c1 c2 c3 c4 cc HGO HGB HC HGK hlv
     go_wp2_with (at_builtin; refine wpList_appM' (w := w2) rfl _ _ rfl elt_byte hownO hbsx rfl rfl Hsx.out (by rw [byV_len]; simp) (byV_all _) (by omega) ?_; intro v3 w3 hown3 hg3; obtain ⟨A3, c3_, rfl⟩ := own_slice hown3)
     have hap := app_own (w := w1) (n := 0) (v2 := .bool true) hownO HBx.out hbsx hg3 hown3 rfl rfl
     obtain ⟨e1, he1⟩ : ∃ z, Hid (d ++ X = z) := ⟨_, Lib.hid rfl⟩
     have hle1 : e1.length ≤ 700000000 := by rw [← he1.out, List.length_append]; omega
     rw [he1.out] at hap
     have HO := Lib.hid hap.1
     have HB := Lib.hid hap.2
     have HGK3 := Lib.hid (HGK2.out.grown hg3 (HGK2.out.ne_own hownO (by decide)))
     clear hap hown3 hg3 hownO HBx hbsx Hsx hXl HGK2
     go_loopw [3, 7] (fun v i wr => ∃ (m : Nat), m ≤ cls.length ∧ i = .int .i64 m ∧ Hid (wr.ownsRow w1.heap.size 5 1 v (e1 ++ (cls.take m).flatMap clB).length (byV (e1 ++ (cls.take m).flatMap clB))) ∧ Hid (Below w1.heap.size w1 wr) ∧ Hid (Bk wr g 62 #[.int .i64 ax, .int .i64 ay, .int .i64 bx, .int .i64 by_, .slice D cls.length dc])) (fun _ i _ => cls.length - (intOf i).toNat)
     case atStart => exact ⟨0, by omega, rfl, Lib.hid (by simpa using HO.out), HB, HGK3⟩
     case round =>
      clear HO HB HGK3
      obtain ⟨m, hm, rfl, HO, HB, HGK⟩ := hrel
      have cc : wr.cell? ⟨g, 4, none⟩ = some (.slice D cls.length dc) := HGK.out.cell 4
      have hfl2 : ((cls.take m).flatMap clB).length ≤ cls.length * 50 := by
       refine Nat.le_trans (flat_len clB 50 (cls.take m) (fun x hx => clB_len (Hcw.out x (List.mem_of_mem_take hx)))) ?_
       exact Nat.mul_le_mul_right 50 (by simp; omega)
      have hdl2 : (e1 ++ (cls.take m).flatMap clB).length ≤ 800000000 := by rw [List.length_append]; omega
      by_cases hlt2 : m < cls.length
      ·obtain ⟨e2, he2⟩ : ∃ z, Hid (e1 ++ (cls.take m).flatMap clB = z) := ⟨_, Lib.hid rfl⟩
       rw [he2.out] at HO hdl2
       obtain ⟨b3, o3, ⟨t1, t2, t3, t4, t5⟩, hae3, c0, c1, c2, c3, c4, hx⟩ := (HCS.out wr HB.out).get (k := m) hlt2
       have hxw := Hcw.out _ (List.mem_of_getElem? hx.out)
       have htk2 := Lib.hid (flat_take clB hx.out)
       have HC := Lib.hid (refClaimB_any t1 t2 t3 t4 t5 wr hxw)
       have hXl := clB_len hxw
       obtain ⟨X2, hX2⟩ : ∃ z, Hid (clB ⟨t1, t2, t3, t4, t5⟩ = z) := ⟨_, Lib.hid rfl⟩
       rw [hX2.out] at HC hXl
       clear hx hxw
       rw [hae3] at cc ⊢
       go_wp2_with fail
       refine HC.out.mono ?_
       rintro e w4 ⟨v2, rfl, hown2, hb2⟩
       have HGK2 := Lib.hid (HGK.out.below hb2 HGK.out.lt)
       obtain ⟨A2, c2_, rfl⟩ := own_slice hown2
       have hownO := own_below HO.out hb2
       have HBx := Lib.hid (HB.out.trans (hb2.mono HB.out.size))
       have hbsx := HBx.out.size
       have Hsx := Lib.hid (SL.of_own hown2)
       clear hb2 hown2 HO HB c0 c1 c2 c3 c4 cc HC HGK
       go_wp2_with (at_builtin; refine wpList_appM' (w := w4) rfl _ _ rfl elt_byte hownO hbsx rfl rfl Hsx.out (by rw [byV_len]; simp) (byV_all _) (by omega) ?_; intro v5 w5 hown3 hg3; obtain ⟨A3, c3_, rfl⟩ := own_slice hown3)
       have hap := app_own (w := w1) (n := 0) (v2 := .bool true) hownO HBx.out hbsx hg3 hown3 rfl rfl
       have HO3 := Lib.hid hap.1
       have HB3 := Lib.hid hap.2
       have HGK3 := Lib.hid (HGK2.out.grown hg3 (HGK2.out.ne_own hownO (by decide)))
       clear hap hown3 hg3 hownO HBx hbsx Hsx HGK2
       go_roundw
       case rel => exact ⟨m + 1, by omega, by go_num, Lib.hid (by rw [htk2.out, ← List.append_assoc, he2.out, hX2.out]; exact HO3.out), HB3, (by rw [← hae3]; exact HGK3)⟩
       case measure => simp [intOf]; omega
      ·obtain rfl : m = cls.length := by omega
       rw [List.take_length] at HO
       have HO3 := Lib.hid HO.out
       have HB3 := Lib.hid HB.out
       clear HO HB hfl2 hdl2
       go_wp2_with fail
       go_roundw
       case rel => exact ⟨k + 1, by omega, by go_num, Lib.hid (by rw [htk.out, ← List.append_assoc, hd.out, show skB ⟨ax, ay, bx, by_, cls⟩ = X ++ cls.flatMap clB from by rw [← hX.out, skB, lsB]; simp [vbs], ← List.append_assoc, he1.out]; exact HO3.out), HB3⟩
       case measure => simp [intOf]; omega
    ·obtain rfl : k = p.st.length := by omega
     rw [List.take_length] at HO hdl
     clear hfl hlt hk
     obtain ⟨d3, hd3⟩ : ∃ z, Hid (d2 ++ p.st.flatMap skB = z) := ⟨_, Lib.hid rfl⟩
     rw [hd3.out] at HO hdl
     have hld3 := hdl
     clear hdl hll
     have cn : wr.cell? ⟨S, 4, none⟩ = some (.slice a.l p.pl.length a.cl) := HSC.out wr HB.out 4
     go_wp2_with fail
     refine (refInt_any (p.pl.length : Int) wr (by have := HR.out.l; omega)).mono ?_
     rintro e w2 ⟨v2, rfl, hown2, hb2⟩
     obtain ⟨X, hX⟩ : ∃ z, Hid (vb (zz (p.pl.length : Int)) = z) := ⟨_, Lib.hid rfl⟩
     have hXl : X.length ≤ 10 := by rw [← hX.out]; exact zz_len (by have := HR.out.l; omega)
     rw [hX.out] at hown2
     obtain ⟨A2, c2_, rfl⟩ := own_slice hown2
     have hownO := own_below HO.out hb2
     have HBx := Lib.hid (HB.out.trans (hb2.mono HB.out.size))
     have hbsx := HBx.out.size
     have Hsx := Lib.hid (SL.of_own hown2)
     clear hb2 hown2 HO HB cn
     go_wp2_with (at_builtin; refine wpList_appM' (w := w2) rfl _ _ rfl elt_byte hownO hbsx rfl rfl Hsx.out (by rw [byV_len]; simp) (byV_all _) (by omega) ?_; intro v3 w3 hown3 hg3; obtain ⟨A3, c3_, rfl⟩ := own_slice hown3)
     have hap := app_own (w := w1) (n := 0) (v2 := .bool true) hownO HBx.out hbsx hg3 hown3 rfl rfl
     obtain ⟨d4, hq⟩ : ∃ z, Hid (d3 ++ X = z) := ⟨_, Lib.hid rfl⟩
     have hld4 : d4.length ≤ 600000100 := by rw [← hq.out, List.length_append]; omega
     rw [hq.out] at hap
     have hd4 := Lib.hid (show d3 ++ vb (zz (p.pl.length : Int)) = d4 from by rw [hX.out, hq.out])
     have HO := Lib.hid hap.1
     have HB := Lib.hid hap.2
     clear hap hown3 hg3 hownO HBx hbsx Hsx hXl hq hX
     have hK := Lib.hid (show ∀ x ∈ p.pl, (plB x).length ≤ 1060 from fun x hx => plB_len (HW.out.l x hx) (HR.out.x x hx))
     go_loopw [3, 8] (fun v i wr => ∃ (k : Nat), k ≤ p.pl.length ∧ i = .int .i64 k ∧ Hid (wr.ownsRow w1.heap.size 5 1 v (d4 ++ (p.pl.take k).flatMap plB).length (byV (d4 ++ (p.pl.take k).flatMap plB))) ∧ Hid (Below w1.heap.size w1 wr)) (fun _ i _ => p.pl.length - (intOf i).toNat)
     case atStart => exact ⟨0, by omega, rfl, Lib.hid (by simpa using HO.out), HB⟩
     case round =>
      clear HO HB
      obtain ⟨k, hk, rfl, HO, HB⟩ := hrel
      have cc : wr.cell? ⟨S, 4, none⟩ = some (.slice a.l p.pl.length a.cl) := HSC.out wr HB.out 4
      have hfl : ((p.pl.take k).flatMap plB).length ≤ p.pl.length * 1060 := by
       refine Nat.le_trans (flat_len plB 1060 (p.pl.take k) (fun x hx => hK.out x (List.mem_of_mem_take hx))) ?_
       exact Nat.mul_le_mul_right 1060 (by simp; omega)
      have hll := HR.out.l
      have hdl : (d4 ++ (p.pl.take k).flatMap plB).length ≤ 700000000 := by rw [List.length_append]; omega
      by_cases hlt : k < p.pl.length
      ·obtain ⟨d, hd⟩ : ∃ z, Hid (d4 ++ (p.pl.take k).flatMap plB = z) := ⟨_, Lib.hid rfl⟩
       rw [hd.out] at HO hdl
       obtain ⟨bC, oC, ⟨x, y, nm, of, fr, til⟩, hae, c0, c1, c2, c3, c4, c5, hx⟩ := HT1.out.l.get (k := k) hlt
       have c0 := ((HB.out.cell (World.block_lt_of_cell? _ _ c0)).trans c0)
       have c1 := ((HB.out.cell (World.block_lt_of_cell? _ _ c1)).trans c1)
       have c2 := ((HB.out.cell (World.block_lt_of_cell? _ _ c2)).trans c2)
       have c3 := ((HB.out.cell (World.block_lt_of_cell? _ _ c3)).trans c3)
       have c4 := ((HB.out.cell (World.block_lt_of_cell? _ _ c4)).trans c4)
       have c5 := ((HB.out.cell (World.block_lt_of_cell? _ _ c5)).trans c5)
       have hxw := HW.out.l _ (List.mem_of_getElem? hx.out)
       have hnm : nm.size ≤ 1000 := HR.out.x _ (List.mem_of_getElem? hx.out)
       have htk := Lib.hid (flat_take plB hx.out)
       have hx2 : W64 [x, y] := w64_cons hxw.1 (w64_cons hxw.2.1 w64_nil)
       have Hx3 := Lib.hid (show W64 [of, fr, til] from w64_cons hxw.2.2.1 (w64_cons hxw.2.2.2.1 (w64_cons hxw.2.2.2.2 w64_nil)))
       have hlv := vbs_len _ hx2
       have HGB := Lib.hid ((HB.out.alloc HB.out.size (.cells #[.int .i64 x, .int .i64 y, .string nm, .int .i64 of, .int .i64 fr, .int .i64 til] 114)).alloc (Nat.le_trans HB.out.size (by simp)) (.cells (rowI [x, y]) 3))
       have HGO := Lib.hid ((HO.out.alloc (.cells #[.int .i64 x, .int .i64 y, .string nm, .int .i64 of, .int .i64 fr, .int .i64 til] 114)).alloc (.cells (rowI [x, y]) 3))
       have HGK := Lib.hid ((Bk.new wr 114 #[.int .i64 x, .int .i64 y, .string nm, .int .i64 of, .int .i64 fr, .int .i64 til]).alloc (.cells (rowI [x, y]) 3))
       have HC := Lib.hid (refIntsB_any (wr.heap.size + 1) 2 [x, y] ((wr.alloc (.cells #[.int .i64 x, .int .i64 y, .string nm, .int .i64 of, .int .i64 fr, .int .i64 til] 114)).alloc (.cells (rowI [x, y]) 3)) (Bk.new' _ _ _ (by simp)) hx2 (by simp))
       clear hx hxw hx2
       rw [hae] at cc ⊢
       go_wp2_with fail
       refine HC.out.mono ?_
       generalize ((wr.alloc (.cells #[.int .i64 x, .int .i64 y, .string nm, .int .i64 of, .int .i64 fr, .int .i64 til] 114)).alloc (.cells (rowI [x, y]) 3)) = W1 at *
       generalize wr.heap.size = g at *
       rintro e w2 ⟨v2, rfl, hown2, hb2⟩
       obtain ⟨X, hX⟩ : ∃ z, Hid (vbs [x, y] = z) := ⟨_, Lib.hid rfl⟩
       rw [hX.out] at hown2 hlv
       have hXl : X.length ≤ 20 := by simpa using hlv
       have HGKx := Lib.hid (HGK.out.below hb2 HGK.out.lt)
       obtain ⟨A2, c2_, rfl⟩ := own_slice hown2
       have hownO := own_below HGO.out hb2
       have HBx := Lib.hid (HGB.out.trans (hb2.mono HGB.out.size))
       have hbsx := HBx.out.size
       have Hsx := Lib.hid (SL.of_own hown2)
       clear hb2 hown2 HO HB c0 c1 c2 c3 c4 c5 cc HGO HGB HC HGK hlv
       go_wp2_with (at_builtin; refine wpList_appM' (w := w2) rfl _ _ rfl elt_byte hownO hbsx rfl rfl Hsx.out (by rw [byV_len]; simp) (byV_all _) (by omega) ?_; intro v3 w3 hown3 hg3; obtain ⟨A3, c3_, rfl⟩ := own_slice hown3; have f1 : w3.cell? ⟨g, 2, none⟩ = some (.string nm) := (HGKx.out.grown hg3 (HGKx.out.ne_own hownO (by decide))).cell 2; obtain ⟨W4, c4_, hcv, hb4, hz4, hcs4⟩ := bytes_of nm w3)
       have hap := app_own (w := w1) (n := 0) (v2 := .bool true) hownO HBx.out hbsx hg3 hown3 rfl rfl
       obtain ⟨e1, he1⟩ : ∃ z, Hid (d ++ X = z) := ⟨_, Lib.hid rfl⟩
       have hle1 : e1.length ≤ 910000000 := by rw [← he1.out, List.length_append]; omega
       rw [he1.out] at hap
       have HGK3 := Lib.hid ((HGKx.out.grown hg3 (HGKx.out.ne_own hownO (by decide))))
       have HO := Lib.hid (own_below hap.1 hb4)
       have HB := Lib.hid (hap.2.trans (hb4.mono hap.2.size))
       have HGK4 := Lib.hid (HGK3.out.below hb4 HGK3.out.lt)
       have HC := Lib.hid (refRaw_any (some ⟨w3.heap.size, 0, none⟩) c4_ (bl nm) W4 (sl_text hcs4) (by rw [bl_len]; omega))
       rw [bl_len] at HC
       clear hap hown3 hg3 hownO HBx hbsx Hsx hXl HGK3 HGKx hb4 hz4 hcs4 f1
       generalize w3.heap.size = g4 at *
       refine HC.out.mono ?_
       rintro e w5 ⟨v2, rfl, hown2, hb2⟩
       have hv10 := vb_ten (n := nm.size) (by omega)
       obtain ⟨X5, hX5⟩ : ∃ z, Hid (vb nm.size ++ bl nm = z) := ⟨_, Lib.hid rfl⟩
       have hXl : X5.length ≤ 1010 := by rw [← hX5.out, List.length_append, bl_len]; omega
       rw [hX5.out] at hown2
       have HGKx := Lib.hid (HGK4.out.below hb2 HGK4.out.lt)
       obtain ⟨A2, c2_, rfl⟩ := own_slice hown2
       have hownO := own_below HO.out hb2
       have HBx := Lib.hid (HB.out.trans (hb2.mono HB.out.size))
       have hbsx := HBx.out.size
       have Hsx := Lib.hid (SL.of_own hown2)
       clear hb2 hown2 HO HB HC HGK4 hcv hv10
       go_wp2_with (at_builtin; refine wpList_appM' (w := w5) rfl _ _ rfl elt_byte hownO hbsx rfl rfl Hsx.out (by rw [byV_len]; simp) (byV_all _) (by omega) ?_; intro v6 w6 hown3 hg3; obtain ⟨A3, c3_, rfl⟩ := own_slice hown3; have f3 : w6.cell? ⟨g, 3, none⟩ = some (.int .i64 of) := (HGKx.out.grown hg3 (HGKx.out.ne_own hownO (by decide))).cell 3; have f4 : w6.cell? ⟨g, 4, none⟩ = some (.int .i64 fr) := (HGKx.out.grown hg3 (HGKx.out.ne_own hownO (by decide))).cell 4; have f5 : w6.cell? ⟨g, 5, none⟩ = some (.int .i64 til) := (HGKx.out.grown hg3 (HGKx.out.ne_own hownO (by decide))).cell 5)
       have hap := app_own (w := w1) (n := 0) (v2 := .bool true) hownO HBx.out hbsx hg3 hown3 rfl rfl
       obtain ⟨e2, he2⟩ : ∃ z, Hid (e1 ++ X5 = z) := ⟨_, Lib.hid rfl⟩
       have hle2 : e2.length ≤ 920000000 := by rw [← he2.out, List.length_append]; omega
       rw [he2.out] at hap
       have HO := Lib.hid (hap.1.alloc (.cells (rowI [of, fr, til]) 3))
       have HB := Lib.hid (hap.2.alloc hap.2.size (.cells (rowI [of, fr, til]) 3))
       have HC := Lib.hid (refIntsB_any w6.heap.size 3 [of, fr, til] (w6.alloc (.cells (rowI [of, fr, til]) 3)) (Bk.new _ _ _) Hx3.out (by simp))
       have hlv := vbs_len _ Hx3.out
       clear hap hown3 hg3 hownO HBx hbsx Hsx hXl HGKx f3 f4 f5
       refine HC.out.mono ?_
       generalize w6.alloc (.cells (rowI [of, fr, til]) 3) = W6 at *
       generalize w6.heap.size = g6 at *
       rintro e w7 ⟨v2, rfl, hown2, hb2⟩
       obtain ⟨X7, hX7⟩ : ∃ z, Hid (vbs [of, fr, til] = z) := ⟨_, Lib.hid rfl⟩
       rw [hX7.out] at hown2 hlv
       have hXl : X7.length ≤ 30 := by simpa using hlv
       obtain ⟨A2, c2_, rfl⟩ := own_slice hown2
       have hownO := own_below HO.out hb2
       have HBx := Lib.hid (HB.out.trans (hb2.mono HB.out.size))
       have hbsx := HBx.out.size
       have Hsx := Lib.hid (SL.of_own hown2)
       clear hb2 hown2 HO HB HC hlv
       go_wp2_with (at_builtin; refine wpList_appM' (w := w7) rfl _ _ rfl elt_byte hownO hbsx rfl rfl Hsx.out (by rw [byV_len]; simp) (byV_all _) (by omega) ?_; intro v8 w8 hown3 hg3; obtain ⟨A3, c3_, rfl⟩ := own_slice hown3)
       have hap := app_own (w := w1) (n := 0) (v2 := .bool true) hownO HBx.out hbsx hg3 hown3 rfl rfl
       have HO3 := Lib.hid hap.1
       have HB3 := Lib.hid hap.2
       clear hap hown3 hg3
       go_roundw
       case rel => exact ⟨k + 1, by omega, by go_num, Lib.hid (by rw [htk.out, ← List.append_assoc, hd.out, show plB ⟨x, y, nm, of, fr, til⟩ = X ++ X5 ++ X7 from by rw [← hX.out, ← hX5.out, ← hX7.out]; rfl, ← List.append_assoc, ← List.append_assoc, he1.out, he2.out]; exact HO3.out), HB3⟩
       case measure => simp [intOf]; omega
      ·obtain rfl : k = p.pl.length := by omega
       rw [List.take_length] at HO hdl
       clear hfl hlt hk
       obtain ⟨d5, hd5⟩ : ∃ z, Hid (d4 ++ p.pl.flatMap plB = z) := ⟨_, Lib.hid rfl⟩
       rw [hd5.out] at HO hdl
       have hld5 := hdl
       clear hdl hll
       have cn : wr.cell? ⟨S, 5, none⟩ = some (.slice a.m p.ma.length a.cm) := HSC.out wr HB.out 5
       go_wp2_with fail
       refine (refInt_any (p.ma.length : Int) wr (by have := HR.out.m; omega)).mono ?_
       rintro e w2 ⟨v2, rfl, hown2, hb2⟩
       obtain ⟨X, hX⟩ : ∃ z, Hid (vb (zz (p.ma.length : Int)) = z) := ⟨_, Lib.hid rfl⟩
       have hXl : X.length ≤ 10 := by rw [← hX.out]; exact zz_len (by have := HR.out.m; omega)
       rw [hX.out] at hown2
       obtain ⟨A2, c2_, rfl⟩ := own_slice hown2
       have hownO := own_below HO.out hb2
       have HBx := Lib.hid (HB.out.trans (hb2.mono HB.out.size))
       have hbsx := HBx.out.size
       have Hsx := Lib.hid (SL.of_own hown2)
       clear hb2 hown2 HO HB cn
       go_wp2_with (at_builtin; refine wpList_appM' (w := w2) rfl _ _ rfl elt_byte hownO hbsx rfl rfl Hsx.out (by rw [byV_len]; simp) (byV_all _) (by omega) ?_; intro v3 w3 hown3 hg3; obtain ⟨A3, c3_, rfl⟩ := own_slice hown3)
       have hap := app_own (w := w1) (n := 0) (v2 := .bool true) hownO HBx.out hbsx hg3 hown3 rfl rfl
       obtain ⟨d6, hq⟩ : ∃ z, Hid (d5 ++ X = z) := ⟨_, Lib.hid rfl⟩
       have hld6 : d6.length ≤ 700000100 := by rw [← hq.out, List.length_append]; omega
       rw [hq.out] at hap
       have hd6 := Lib.hid (show d5 ++ vb (zz (p.ma.length : Int)) = d6 from by rw [hX.out, hq.out])
       have HO := Lib.hid hap.1
       have HB := Lib.hid hap.2
       clear hap hown3 hg3 hownO HBx hbsx Hsx hXl hq hX
       have hK := Lib.hid (show ∀ x ∈ p.ma, (mkB x).length ≤ 70 from fun x hx => mkB_len (HW.out.m x hx))
       go_loopw [3, 10] (fun v i wr => ∃ (k : Nat), k ≤ p.ma.length ∧ i = .int .i64 k ∧ Hid (wr.ownsRow w1.heap.size 5 1 v (d6 ++ (p.ma.take k).flatMap mkB).length (byV (d6 ++ (p.ma.take k).flatMap mkB))) ∧ Hid (Below w1.heap.size w1 wr)) (fun _ i _ => p.ma.length - (intOf i).toNat)
       case atStart => exact ⟨0, by omega, rfl, Lib.hid (by simpa using HO.out), HB⟩
       case round =>
        clear HO HB
        obtain ⟨k, hk, rfl, HO, HB⟩ := hrel
        have cc : wr.cell? ⟨S, 5, none⟩ = some (.slice a.m p.ma.length a.cm) := HSC.out wr HB.out 5
        have hfl : ((p.ma.take k).flatMap mkB).length ≤ p.ma.length * 70 := by
         refine Nat.le_trans (flat_len mkB 70 (p.ma.take k) (fun x hx => hK.out x (List.mem_of_mem_take hx))) ?_
         exact Nat.mul_le_mul_right 70 (by simp; omega)
        have hll := HR.out.m
        have hdl : (d6 ++ (p.ma.take k).flatMap mkB).length ≤ 710000000 := by rw [List.length_append]; omega
        by_cases hlt : k < p.ma.length
        ·obtain ⟨d, hd⟩ : ∃ z, Hid (d6 ++ (p.ma.take k).flatMap mkB = z) := ⟨_, Lib.hid rfl⟩
         rw [hd.out] at HO hdl
         obtain ⟨bC, oC, ⟨mp, mi, ⟨k1, o1, f1, u1, e1⟩⟩, hae, c0, c1, c2, c3, c4, c5, c6, hx⟩ := HT1.out.m.get (k := k) hlt
         have HM := Lib.hid (fun (W : World) (hW : Below w1.heap.size w1 W) => And.intro ((hW.cell (World.block_lt_of_cell? _ _ c2)).trans c2) (And.intro ((hW.cell (World.block_lt_of_cell? _ _ c3)).trans c3) (And.intro ((hW.cell (World.block_lt_of_cell? _ _ c4)).trans c4) (And.intro ((hW.cell (World.block_lt_of_cell? _ _ c5)).trans c5) ((hW.cell (World.block_lt_of_cell? _ _ c6)).trans c6)))))
         have c0 := ((HB.out.cell (World.block_lt_of_cell? _ _ c0)).trans c0)
         have c1 := ((HB.out.cell (World.block_lt_of_cell? _ _ c1)).trans c1)
         have hxw := HW.out.m _ (List.mem_of_getElem? hx.out)
         have htk := Lib.hid (flat_take mkB hx.out)
         have HC := Lib.hid (refNameB_any mp mi wr ⟨hxw.1, hxw.2.1⟩)
         have hXl := idB_len (t := (mp, mi)) ⟨hxw.1, hxw.2.1⟩
         have HCw := Lib.hid hxw.2.2
         clear hx hxw c2 c3 c4 c5 c6
         rw [hae] at cc
         have HSx := Lib.hid (fun (W : World) (hW : Below w1.heap.size w1 W) => hae ▸ HSC.out W hW 5)
         rw [hae]
         go_wp2_with fail
         refine HC.out.mono ?_
         rintro e w2 ⟨v2, rfl, hown2, hb2⟩
         obtain ⟨X, hX⟩ : ∃ z, Hid (idB (mp, mi) = z) := ⟨_, Lib.hid rfl⟩
         rw [hX.out] at hown2 hXl
         obtain ⟨A2, c2_, rfl⟩ := own_slice hown2
         have hownO := own_below HO.out hb2
         have HBx := Lib.hid (HB.out.trans (hb2.mono HB.out.size))
         have hbsx := HBx.out.size
         have Hsx := Lib.hid (SL.of_own hown2)
         clear hb2 hown2 HO HB c0 c1 cc HC
         go_wp2_with (at_builtin; refine wpList_appM' (w := w2) rfl _ _ rfl elt_byte hownO hbsx rfl rfl Hsx.out (by rw [byV_len]; simp) (byV_all _) (by omega) ?_; intro v3 w3 hown3 hg3; obtain ⟨A3, c3_, rfl⟩ := own_slice hown3; have hap := app_own (w := w1) (n := 0) (v2 := .bool true) hownO HBx.out hbsx hg3 hown3 rfl rfl; have f0 : w3.cell? ⟨S, 5, none⟩ = some (.slice (some ⟨bC, oC, none⟩) p.ma.length a.cm) := HSx.out w3 hap.2; have f2 := (HM.out w3 hap.2).1; have f3 := (HM.out w3 hap.2).2.1; have f4 := (HM.out w3 hap.2).2.2.1; have f5 := (HM.out w3 hap.2).2.2.2.1; have f6 := (HM.out w3 hap.2).2.2.2.2)
         obtain ⟨e1_, he1⟩ : ∃ z, Hid (d ++ X = z) := ⟨_, Lib.hid rfl⟩
         have hle1 : e1_.length ≤ 910000000 := by rw [← he1.out, List.length_append]; omega
         rw [he1.out] at hap
         have HO := Lib.hid hap.1
         have HB := Lib.hid hap.2
         have HC := Lib.hid (refClaimB_any k1 o1 f1 u1 e1 w3 HCw.out)
         have hXl2 := clB_len HCw.out
         clear hap hown3 hg3 hownO HBx hbsx Hsx hXl f0 f2 f3 f4 f5 f6
         refine HC.out.mono ?_
         rintro e w5 ⟨v2, rfl, hown2, hb2⟩
         obtain ⟨X5, hX5⟩ : ∃ z, Hid (clB ⟨k1, o1, f1, u1, e1⟩ = z) := ⟨_, Lib.hid rfl⟩
         rw [hX5.out] at hown2 hXl2
         obtain ⟨A2, c2_, rfl⟩ := own_slice hown2
         have hownO := own_below HO.out hb2
         have HBx := Lib.hid (HB.out.trans (hb2.mono HB.out.size))
         have hbsx := HBx.out.size
         have Hsx := Lib.hid (SL.of_own hown2)
         clear hb2 hown2 HO HB HC
         go_wp2_with (at_builtin; refine wpList_appM' (w := w5) rfl _ _ rfl elt_byte hownO hbsx rfl rfl Hsx.out (by rw [byV_len]; simp) (byV_all _) (by omega) ?_; intro v6 w6 hown3 hg3; obtain ⟨A3, c3_, rfl⟩ := own_slice hown3)
         have hap := app_own (w := w1) (n := 0) (v2 := .bool true) hownO HBx.out hbsx hg3 hown3 rfl rfl
         have HO3 := Lib.hid hap.1
         have HB3 := Lib.hid hap.2
         clear hap hown3 hg3
         go_roundw
         case rel => exact ⟨k + 1, by omega, by go_num, Lib.hid (by rw [htk.out, ← List.append_assoc, hd.out, show mkB ⟨mp, mi, ⟨k1, o1, f1, u1, e1⟩⟩ = X ++ X5 from by rw [← hX.out, ← hX5.out]; rfl, ← List.append_assoc, he1.out]; exact HO3.out), HB3⟩
         case measure => simp [intOf]; omega
        ·obtain rfl : k = p.ma.length := by omega
         rw [List.take_length] at HO hdl
         clear hfl hlt hk
         obtain ⟨d7, hd7⟩ : ∃ z, Hid (d6 ++ p.ma.flatMap mkB = z) := ⟨_, Lib.hid rfl⟩
         rw [hd7.out] at HO hdl
         have hld7 := hdl
         clear hdl hll
         have cn : wr.cell? ⟨S, 6, none⟩ = some (.slice a.e p.er.length a.ce) := HSC.out wr HB.out 6
         go_wp2_with fail
         refine (refNames_any a.e a.ce p.er wr (HT1.out.e.below HB.out) HW.out.e HR.out.e).mono ?_
         rintro e w2 ⟨v2, rfl, hown2, hb2⟩
         obtain ⟨X, hX⟩ : ∃ z, Hid (lsB idB p.er = z) := ⟨_, Lib.hid rfl⟩
         have hXl : X.length ≤ 300000 := by rw [← hX.out]; exact (by have h := lsB_len idB 20 p.er (fun x hx => idB_len (HW.out.e x hx)) (by have := HR.out.e; omega); have := HR.out.e; omega)
         rw [hX.out] at hown2
         obtain ⟨A2, c2_, rfl⟩ := own_slice hown2
         have hownO := own_below HO.out hb2
         have HBx := Lib.hid (HB.out.trans (hb2.mono HB.out.size))
         have hbsx := HBx.out.size
         have Hsx := Lib.hid (SL.of_own hown2)
         clear hb2 hown2 HO HB cn
         go_wp2_with (at_builtin; refine wpList_appM' (w := w2) rfl _ _ rfl elt_byte hownO hbsx rfl rfl Hsx.out (by rw [byV_len]; simp) (byV_all _) (by omega) ?_; intro v3 w3 hown3 hg3; obtain ⟨A3, c3_, rfl⟩ := own_slice hown3; have hap := app_own (w := w1) (n := 0) (v2 := .bool true) hownO HBx.out hbsx hg3 hown3 rfl rfl; have cn : w3.cell? ⟨S, 7, none⟩ = some (.slice a.d p.dr.length a.cd) := HSC.out w3 hap.2 7)
         obtain ⟨d8, hq⟩ : ∃ z, Hid (d7 ++ X = z) := ⟨_, Lib.hid rfl⟩
         have hld8 : d8.length ≤ 711000000 := by rw [← hq.out, List.length_append]; omega
         rw [hq.out] at hap
         have hd8 := Lib.hid (show d7 ++ lsB idB p.er = d8 from by rw [hX.out, hq.out])
         have HO := Lib.hid hap.1
         have HB := Lib.hid hap.2
         clear hap hown3 hg3 hownO HBx hbsx Hsx hXl hq hX
         refine (refNames_any a.d a.cd p.dr w3 (HT1.out.d.below HB.out) HW.out.d HR.out.d).mono ?_
         rintro e w4 ⟨v2, rfl, hown2, hb2⟩
         obtain ⟨X, hX⟩ : ∃ z, Hid (lsB idB p.dr = z) := ⟨_, Lib.hid rfl⟩
         have hXl : X.length ≤ 300000 := by rw [← hX.out]; exact (by have h := lsB_len idB 20 p.dr (fun x hx => idB_len (HW.out.d x hx)) (by have := HR.out.d; omega); have := HR.out.d; omega)
         rw [hX.out] at hown2
         obtain ⟨A2, c2_, rfl⟩ := own_slice hown2
         have hownO := own_below HO.out hb2
         have HBx := Lib.hid (HB.out.trans (hb2.mono HB.out.size))
         have hbsx := HBx.out.size
         have Hsx := Lib.hid (SL.of_own hown2)
         clear hb2 hown2 HO HB cn
         go_wp2_with (at_builtin; refine wpList_appM' (w := w4) rfl _ _ rfl elt_byte hownO hbsx rfl rfl Hsx.out (by rw [byV_len]; simp) (byV_all _) (by omega) ?_; intro v3 w5 hown3 hg3; obtain ⟨A3, c3_, rfl⟩ := own_slice hown3; have hap := app_own (w := w1) (n := 0) (v2 := .bool true) hownO HBx.out hbsx hg3 hown3 rfl rfl; have cn : w5.cell? ⟨S, 8, none⟩ = some (.slice a.r p.rt.length a.cr) := HSC.out w5 hap.2 8)
         obtain ⟨d9, hq⟩ : ∃ z, Hid (d8 ++ X = z) := ⟨_, Lib.hid rfl⟩
         have hld9 : d9.length ≤ 712000000 := by rw [← hq.out, List.length_append]; omega
         rw [hq.out] at hap
         have hd9 := Lib.hid (show d8 ++ lsB idB p.dr = d9 from by rw [hX.out, hq.out])
         have HO := Lib.hid hap.1
         have HB := Lib.hid hap.2
         clear hap hown3 hg3 hownO HBx hbsx Hsx hXl hq hX
         refine (refInt_any (p.rt.length : Int) w5 (by have := HR.out.r; omega)).mono ?_
         rintro e w6 ⟨v2, rfl, hown2, hb2⟩
         obtain ⟨X, hX⟩ : ∃ z, Hid (vb (zz (p.rt.length : Int)) = z) := ⟨_, Lib.hid rfl⟩
         have hXl : X.length ≤ 10 := by rw [← hX.out]; exact zz_len (by have := HR.out.r; omega)
         rw [hX.out] at hown2
         obtain ⟨A2, c2_, rfl⟩ := own_slice hown2
         have hownO := own_below HO.out hb2
         have HBx := Lib.hid (HB.out.trans (hb2.mono HB.out.size))
         have hbsx := HBx.out.size
         have Hsx := Lib.hid (SL.of_own hown2)
         clear hb2 hown2 HO HB cn
         go_wp2_with (at_builtin; refine wpList_appM' (w := w6) rfl _ _ rfl elt_byte hownO hbsx rfl rfl Hsx.out (by rw [byV_len]; simp) (byV_all _) (by omega) ?_; intro v3 w7 hown3 hg3; obtain ⟨A3, c3_, rfl⟩ := own_slice hown3)
         have hap := app_own (w := w1) (n := 0) (v2 := .bool true) hownO HBx.out hbsx hg3 hown3 rfl rfl
         obtain ⟨d10, hq⟩ : ∃ z, Hid (d9 ++ X = z) := ⟨_, Lib.hid rfl⟩
         have hld10 : d10.length ≤ 712000100 := by rw [← hq.out, List.length_append]; omega
         rw [hq.out] at hap
         have hd10 := Lib.hid (show d9 ++ vb (zz (p.rt.length : Int)) = d10 from by rw [hX.out, hq.out])
         have HO := Lib.hid hap.1
         have HB := Lib.hid hap.2
         clear hap hown3 hg3 hownO HBx hbsx Hsx hXl hq hX
         have hK := Lib.hid (show ∀ x ∈ p.rt, (rtB x).length ≤ 20 from fun x hx => rtB_len (HW.out.r x hx))
         go_loopw [3, 11] (fun v i wr => ∃ (k : Nat), k ≤ p.rt.length ∧ i = .int .i64 k ∧ Hid (wr.ownsRow w1.heap.size 5 1 v (d10 ++ (p.rt.take k).flatMap rtB).length (byV (d10 ++ (p.rt.take k).flatMap rtB))) ∧ Hid (Below w1.heap.size w1 wr)) (fun _ i _ => p.rt.length - (intOf i).toNat)
         case atStart => exact ⟨0, by omega, rfl, Lib.hid (by simpa using HO.out), HB⟩
         case round =>
          clear HO HB
          obtain ⟨k, hk, rfl, HO, HB⟩ := hrel
          have cc : wr.cell? ⟨S, 8, none⟩ = some (.slice a.r p.rt.length a.cr) := HSC.out wr HB.out 8
          have hfl : ((p.rt.take k).flatMap rtB).length ≤ p.rt.length * 20 := by
           refine Nat.le_trans (flat_len rtB 20 (p.rt.take k) (fun x hx => hK.out x (List.mem_of_mem_take hx))) ?_
           exact Nat.mul_le_mul_right 20 (by simp; omega)
          have hll := HR.out.r
          have hdl : (d10 ++ (p.rt.take k).flatMap rtB).length ≤ 713000000 := by rw [List.length_append]; omega
          by_cases hlt : k < p.rt.length
          ·obtain ⟨d, hd⟩ : ∃ z, Hid (d10 ++ (p.rt.take k).flatMap rtB = z) := ⟨_, Lib.hid rfl⟩
           rw [hd.out] at HO hdl
           obtain ⟨bC, oC, x, y, hae, c0, c1, hx⟩ := HT1.out.r.get (k := k) hlt
           have HM := Lib.hid (fun (W : World) (hW : Below w1.heap.size w1 W) => show W.cell? ⟨S, 8, none⟩ = some (.slice (some ⟨bC, oC, none⟩) p.rt.length a.cr) ∧ W.cell? ⟨bC, oC + k * 2, none⟩ = some (.int .i64 x) ∧ W.cell? ⟨bC, oC + k * 2 + 1, none⟩ = some (.int .i64 y) from ⟨hae ▸ HSC.out W hW 8, (hW.cell (World.block_lt_of_cell? _ _ c0)).trans c0, (hW.cell (World.block_lt_of_cell? _ _ c1)).trans c1⟩)
           have hxw := HW.out.r _ (List.mem_of_getElem? hx.out)
           have htk := Lib.hid (flat_take rtB hx.out)
           have hx64 : W64 [x, y] := w64_cons hxw.1 (w64_cons hxw.2 w64_nil)
           have hlv := vbs_len _ hx64
           have hXl : (vbs [x, y]).length ≤ 20 := by simpa using hlv
           have Hx64 := Lib.hid hx64
           obtain ⟨A0, q0, rfl⟩ := own_slice HO.out
           have hnj : ¬ ((p.rt.length : Int) ≤ (k : Int)) := by omega
           have HO1 := Lib.hid (show wr.drew.ownsRow w1.heap.size 5 1 _ d.length (byV d) from HO.out)
           have HB1 := Lib.hid HB.out.drew
           clear hx hxw hx64 hlv c0 c1 HO HB
           rw [hae] at cc
           rw [hae]
           go_upto_region 36 with fail
           refine wp_region_noPanic ?_
           refine region_H (S := fun W => W.cell? ⟨S, 8, none⟩ = some (.slice (some ⟨bC, oC, none⟩) p.rt.length a.cr) ∧ W.cell? ⟨bC, oC + k * 2, none⟩ = some (.int .i64 x) ∧ W.cell? ⟨bC, oC + k * 2 + 1, none⟩ = some (.int .i64 y)) (by kernel_rfl) ?_
           change wpH _ _ _ _ 17 _ _ wr.drew
           generalize wr.drew = X0 at *
           refine H_takeD (k := 0) (v := .slice A0 d.length q0) (d := some 190) rfl rfl (by decide +kernel) (fun _ _ _ h => h) (Or.inl ⟨by rfl, fun W hW => by obtain ⟨s0, s1, s2⟩ := hW; go_simp⟩) (HM.out _ HB1.out) ?_
           try simp only [Act.put, qz0, qz1, qz2]
           refine H_takeD (k := 1) (v := .pointer (some ⟨S, 8, none⟩)) (d := some 191) rfl rfl (by decide +kernel) (fun _ _ _ h => h) (Or.inl ⟨by rfl, fun W hW => by obtain ⟨s0, s1, s2⟩ := hW; go_simp⟩) (HM.out _ HB1.out) ?_
           try simp only [Act.put, qz0, qz1, qz2]
           refine H_takeD (k := 2) (v := .slice (some ⟨bC, oC, none⟩) p.rt.length a.cr) (d := some 192) rfl rfl (by decide +kernel) (fun _ _ _ h => h) (Or.inl ⟨by rfl, fun W hW => by obtain ⟨s0, s1, s2⟩ := hW; go_simp⟩) (HM.out _ HB1.out) ?_
           try simp only [Act.put, qz0, qz1, qz2]
           refine H_takeD (k := 3) (v := .int .i64 (k : Int)) (d := some 193) rfl rfl (by decide +kernel) (fun _ _ _ h => h) (Or.inl ⟨by rfl, fun W hW => by obtain ⟨s0, s1, s2⟩ := hW; go_simp⟩) (HM.out _ HB1.out) ?_
           try simp only [Act.put, qz0, qz1, qz2]
           refine H_takeD (k := 4) (v := .pointer (some ⟨bC, oC + k * 2, none⟩)) (d := some 194) rfl rfl (by decide +kernel) (fun _ _ _ h => h) (Or.inl ⟨by rfl, fun W hW => by obtain ⟨s0, s1, s2⟩ := hW; go_simp⟩) (HM.out _ HB1.out) ?_
           try simp only [Act.put, qz0, qz1, qz2]
           refine H_takeD (k := 5) (v := .pointer (some ⟨bC, oC + k * 2, none⟩)) (d := some 195) rfl rfl (by decide +kernel) (fun _ _ _ h => h) (Or.inl ⟨by rfl, fun W hW => by obtain ⟨s0, s1, s2⟩ := hW; go_simp⟩) (HM.out _ HB1.out) ?_
           try simp only [Act.put, qz0, qz1, qz2]
           refine H_takeD (k := 6) (v := .int .i64 x) (d := some 196) rfl rfl (by decide +kernel) (fun _ _ _ h => h) (Or.inl ⟨by rfl, fun W hW => by obtain ⟨s0, s1, s2⟩ := hW; go_simp⟩) (HM.out _ HB1.out) ?_
           try simp only [Act.put, qz0, qz1, qz2]
           refine H_takeD (k := 7) (v := .pointer (some ⟨S, 8, none⟩)) (d := some 197) rfl rfl (by decide +kernel) (fun _ _ _ h => h) (Or.inl ⟨by rfl, fun W hW => by obtain ⟨s0, s1, s2⟩ := hW; go_simp⟩) (HM.out _ HB1.out) ?_
           try simp only [Act.put, qz0, qz1, qz2]
           refine H_takeD (k := 8) (v := .slice (some ⟨bC, oC, none⟩) p.rt.length a.cr) (d := some 198) rfl rfl (by decide +kernel) (fun _ _ _ h => h) (Or.inl ⟨by rfl, fun W hW => by obtain ⟨s0, s1, s2⟩ := hW; go_simp⟩) (HM.out _ HB1.out) ?_
           try simp only [Act.put, qz0, qz1, qz2]
           refine H_takeD (k := 9) (v := .int .i64 (k : Int)) (d := some 199) rfl rfl (by decide +kernel) (fun _ _ _ h => h) (Or.inl ⟨by rfl, fun W hW => by obtain ⟨s0, s1, s2⟩ := hW; go_simp⟩) (HM.out _ HB1.out) ?_
           try simp only [Act.put, qz0, qz1, qz2]
           refine H_takeD (k := 10) (v := .pointer (some ⟨bC, oC + k * 2, none⟩)) (d := some 200) rfl rfl (by decide +kernel) (fun _ _ _ h => h) (Or.inl ⟨by rfl, fun W hW => by obtain ⟨s0, s1, s2⟩ := hW; go_simp⟩) (HM.out _ HB1.out) ?_
           try simp only [Act.put, qz0, qz1, qz2]
           refine H_takeD (k := 11) (v := .pointer (some ⟨bC, oC + k * 2 + 1, none⟩)) (d := some 201) rfl rfl (by decide +kernel) (fun _ _ _ h => h) (Or.inl ⟨by rfl, fun W hW => by obtain ⟨s0, s1, s2⟩ := hW; go_simp⟩) (HM.out _ HB1.out) ?_
           try simp only [Act.put, qz0, qz1, qz2]
           refine H_takeD (k := 12) (v := .int .i64 y) (d := some 202) rfl rfl (by decide +kernel) (fun _ _ _ h => h) (Or.inl ⟨by rfl, fun W hW => by obtain ⟨s0, s1, s2⟩ := hW; go_simp⟩) (HM.out _ HB1.out) ?_
           try simp only [Act.put, qz0, qz1, qz2]
           refine H_one (i := 13) (by decide +kernel) (H_step rfl rfl (fun K hK13 => ?_))
           have hK13 := Lib.hid hK13
           go_simp
           have HB2 := Lib.hid (HB1.out.alloc HB1.out.size (.cells #[.int .i64 x, .int .i64 y] 3))
           have HO2 := Lib.hid (HO1.out.alloc (.cells #[.int .i64 x, .int .i64 y] 3))
           have HC := Lib.hid (refIntsB_any X0.heap.size 2 [x, y] (X0.alloc (.cells #[.int .i64 x, .int .i64 y] 3)) (Bk.new _ _ _) Hx64.out (by simp))
           refine hK13.out _ _ (HM.out _ HB2.out) ?_
           try simp only [Act.put, qz0, qz1, qz2]
           generalize X0.alloc (.cells #[.int .i64 x, .int .i64 y] 3) = X1 at *
           generalize X0.heap.size = g6 at *
           refine H_one (i := 14) (by decide +kernel) (H_step rfl rfl (fun K hK14 => ?_))
           have hK14 := Lib.hid hK14
           go_simp
           go_at_call 73
           refine HC.out.mono ?_
           rintro e w5 ⟨v2, rfl, hown2, hb2⟩
           obtain ⟨X, hX⟩ : ∃ z, Hid (vbs [x, y] = z) := ⟨_, Lib.hid rfl⟩
           rw [hX.out] at hown2 hXl
           obtain ⟨A2, c2_, rfl⟩ := own_slice hown2
           have hownO := own_below HO2.out hb2
           have HBx := Lib.hid (HB2.out.trans (hb2.mono HB2.out.size))
           have hbsx := HBx.out.size
           have Hsx := Lib.hid (SL.of_own hown2)
           clear hb2 hown2 HO1 HB1 HO2 HB2 HC
           refine hK14.out _ _ (HM.out _ HBx.out) ?_
           try simp only [Act.put, qz0, qz1, qz2]
           refine H_one (i := 15) (by decide +kernel) (H_step rfl rfl (fun K hK15 => ?_))
           have hK15 := Lib.hid hK15
           refine app_wpM (m := X.length) (c := c2_) (B := A2) (us := byV X) (v := .slice A0 d.length q0) (.tmp 190) (.tmp 204) rfl elt_byte hownO hbsx (by simp [Act.eval]) (by simp [Act.eval]) Hsx.out (by rw [byV_len]; simp) (byV_all _) (by omega) ?_
           intro v4 w4 hown3 hg3
           obtain ⟨A4, c4, rfl⟩ := own_slice hown3
           have hap := app_own (w := w1) (n := 0) (v2 := .bool true) hownO HBx.out hbsx hg3 hown3 rfl rfl
           have HO3 := Lib.hid hap.1
           have HB3 := Lib.hid hap.2
           clear hap hown3 hg3
           refine hK15.out _ _ (HM.out _ HB3.out) ?_
           try simp only [Act.put, qz0, qz1, qz2]
           simp only [List.getElem_toArray, List.getElem_cons_succ, List.getElem_cons_zero, List.set_cons_succ, List.set_cons_zero]
           refine H_takeD (k := 16) (v := .slice A4 (d.length + X.length) c4) (d := some 3) rfl rfl (by decide +kernel) (fun _ _ _ h => h) (Or.inl ⟨by rfl, fun W hW => by obtain ⟨s0, s1, s2⟩ := hW; go_simp⟩) (HM.out _ HB3.out) ?_
           try simp only [Act.put, qz0, qz1, qz2]
           refine H_end (by decide +kernel) (NoPanic.normal ?_)
           try simp only [Act.put, qz0, qz1, qz2]
           go_wp2_with fail
           go_roundw
           case rel => exact ⟨k + 1, by omega, by go_num, Lib.hid (by rw [htk.out, ← List.append_assoc, hd.out, show rtB (x, y) = X from hX.out]; exact HO3.out), HB3⟩
           case measure => simp [intOf]; omega
          ·obtain rfl : k = p.rt.length := by omega
           rw [List.take_length] at HO hdl
           clear hfl hlt hk
           obtain ⟨d11, hd11⟩ : ∃ z, Hid (d10 ++ p.rt.flatMap rtB = z) := ⟨_, Lib.hid rfl⟩
           rw [hd11.out] at HO hdl
           have hld11 := hdl
           clear hdl hll
           have Hd := Lib.hid (show R = d11 from by rw [← hR.out, ← hd11.out, ← hd10.out, ← hd9.out, ← hd8.out, ← hd7.out, ← hd6.out, ← hd5.out, ← hd4.out, ← hd3.out, ← hd2.out, ← hd1.out, ← hd0.out]; simp [paB, lsB, vbs])
           have HOz := Lib.hid (own_mono HO.out hsz)
           have HBz := Lib.hid (Hb0.out.trans (HB.out.mono hsz))
           clear HO HB
           go_wp2_with fail
           go_ret
           exact ⟨_, rfl, by rw [Hd.out, HS.out]; exact HOz.out, by rw [HS.out]; exact HBz.out⟩
end Go.Proofs.YtnapnkmehnabfaaGreat
