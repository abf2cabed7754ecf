import Derived.Test.YtnapnkmehnabfaaGreatU7
namespace Go.Proofs.YtnapnkmehnabfaaGreat
open Go.RowKit Go.Maps

theorem putI_len : ∀ (l : List (Int × Int)) (x : Int × Int), (putI l x).length ≤ l.length + 1
 | [], _ => by simp [putI]
 | t :: l, x => by
  have := putI_len l x
  unfold putI
  split
  ·simp only [List.length_cons]; omega
  ·split
   ·simp
   ·simp
/-- The names that a patch uses, as the reference puts them together. -/
def usesL (p : Pa) : List (Int × Int) := p.ma.map (fun m => (m.p, m.i)) ++ p.er ++ p.dr
def usesR (p : Pa) : List (Int × Int) := (usesL p).foldl putI []
theorem fold_next {l : List (Int × Int)} {t t0 : List (Int × Int)} {k : Nat} {x : Int × Int} (h : t = (l.take k).foldl putI t0) (hx : l[k]? = some x) : putI t x = (l.take (k + 1)).foldl putI t0 := by
 rw [List.take_add_one, hx, List.foldl_append, ← h]; rfl
/-- A list under way. -/
structure UT (w : World) (A : Option Addr) (c : Nat) (t : List (Int × Int)) : Prop where
 sd : SD w A t
 cap : t.length ≤ c
 form : (A = none ∧ c = 0) ∨ ∃ b, A = some ⟨b, 0, none⟩
set_option linter.unusedSimpArgs false in
set_option maxHeartbeats 8000000 in
set_option maxRecDepth 100000 in
theorem refUses_any (p : Pa) (a : Pw) (w : World) (h : PT w p a) (h1 : p.ma.length ≤ 100000) (h2 : p.er.length ≤ 100000) (h3 : p.dr.length ≤ 100000) :
  Calls Tryz.prog 40 #[.agg (paC p a)] w fun e w' => ∃ A c, e = .returned (.slice A (usesR p).length c) ∧ SD w' A (usesR p) ∧ Below w.heap.size w w' := by
 have hb0 := (Below.refl w.heap.size w).alloc (Nat.le_refl _) (.cells #[.int .i64 p.office, .int .i64 p.num, .slice a.n p.needs.length a.cn, .slice a.s p.st.length a.cs, .slice a.l p.pl.length a.cl, .slice a.m p.ma.length a.cm, .slice a.e p.er.length a.ce, .slice a.d p.dr.length a.cd, .slice a.r p.rt.length a.cr] 34)
 have HK := Lib.hid (Bk.new w 34 #[.int .i64 p.office, .int .i64 p.num, .slice a.n p.needs.length a.cn, .slice a.s p.st.length a.cs, .slice a.l p.pl.length a.cl, .slice a.m p.ma.length a.cm, .slice a.e p.er.length a.ce, .slice a.d p.dr.length a.cd, .slice a.r p.rt.length a.cr])
 have HB0 := Lib.hid hb0
 have HM := Lib.hid (h.m.below hb0)
 have HE := Lib.hid (h.e.below hb0)
 have HD := Lib.hid (h.d.below hb0)
 obtain ⟨x1, hx1⟩ : ∃ z, Hid (p.ma.length = z) := ⟨_, Lib.hid rfl⟩
 obtain ⟨x2, hx2⟩ : ∃ z, Hid (p.er.length = z) := ⟨_, Lib.hid rfl⟩
 obtain ⟨x3, hx3⟩ : ∃ z, Hid (p.dr.length = z) := ⟨_, Lib.hid rfl⟩
 rw [hx1.out] at h1
 rw [hx2.out] at h2
 rw [hx3.out] at h3
 show Calls Tryz.prog 40 #[.agg #[.int .i64 p.office, .int .i64 p.num, .slice a.n p.needs.length a.cn, .slice a.s p.st.length a.cs, .slice a.l p.pl.length a.cl, .slice a.m p.ma.length a.cm, .slice a.e p.er.length a.ce, .slice a.d p.dr.length a.cd, .slice a.r p.rt.length a.cr]] w _
 clear h hb0
 go_enter Tryz.func40, Tryz.ntmps40
 go_wp2_with fail
 generalize w.alloc (.cells #[.int .i64 p.office, .int .i64 p.num, .slice a.n p.needs.length a.cn, .slice a.s p.st.length a.cs, .slice a.l p.pl.length a.cl, .slice a.m p.ma.length a.cm, .slice a.e p.er.length a.ce, .slice a.d p.dr.length a.cd, .slice a.r p.rt.length a.cr] 34) = W0 at *
 obtain ⟨S, hS⟩ : ∃ z, Hid (w.heap.size = z) := ⟨_, Lib.hid rfl⟩
 rw [hS.out] at HK HB0
 simp only [hS.out]
 go_loopw [3, 4] (fun sv v wr => ∃ (k n : Nat) (A : Option Addr) (c : Nat) (t : List (Int × Int)), k ≤ x1 ∧ v = .int .i64 (k : Int) ∧ sv = .slice A n c ∧ n ≤ 0 + k ∧ Hid (t.length = n) ∧ Hid (t = ((p.ma.map (fun m => (m.p, m.i))).take k).foldl putI []) ∧ Hid (UT wr A c t) ∧ Hid (Below W0.heap.size W0 wr)) (fun _ v _ => x1 - (intOf v).toNat)
 case atStart => exact ⟨0, 0, none, 0, [], by omega, rfl, rfl, by omega, Lib.hid rfl, Lib.hid rfl, Lib.hid ⟨SL.nil_, Nat.le_refl _, .inl ⟨rfl, rfl⟩⟩, Lib.hid (Below.refl _ _)⟩
 case round =>
  obtain ⟨k, n, A, c, t, hk, rfl, rfl, hn, Hn, Ht, HU, HB⟩ := hrel
  have q1 : wr.cell? ⟨S, 5, none⟩ = some (.slice a.m x1 a.cm) := by rw [← hx1.out]; exact (HK.out.below HB.out HK.out.lt).cell 5
  by_cases hlt : k < x1
  ·obtain ⟨b, o, m, hAe, c0, c1, _, _, _, _, _, hi⟩ := SM.get (HM.out.below HB.out) (k := k) (by rw [hx1.out]; exact hlt)
   have Hx := Lib.hid (show (p.ma.map (fun m => (m.p, m.i)))[k]? = some (m.p, m.i) from by rw [List.getElem?_map, hi.out]; rfl)
   rw [hAe] at q1
   clear hAe
   have hki : ¬ (x1 ≤ k) := by omega
   have HP := Lib.hid (put_any A c t m.p m.i wr HU.out.sd (by rw [Hn.out]; omega) HU.out.cap HU.out.form)
   rw [Hn.out] at HP
   go_wp2_with fail
   refine HP.out.mono ?_
   rintro e w2 ⟨B, d, rfl, hsd, hcp, hfm, hb_⟩
   have HU2 := Lib.hid (show UT w2 B d (putI t (m.p, m.i)) from ⟨hsd, hcp, hfm⟩)
   have HB2 := Lib.hid (HB.out.trans (hb_.mono HB.out.size))
   have hpl := putI_len t (m.p, m.i)
   rw [Hn.out] at hpl
   have Ht2 := Lib.hid (fold_next Ht.out Hx.out)
   obtain ⟨t2, ht2⟩ : ∃ z, Hid (putI t (m.p, m.i) = z) := ⟨_, Lib.hid rfl⟩
   rw [ht2.out] at HU2 hpl Ht2 ⊢
   obtain ⟨n2, hn2⟩ : ∃ z, Hid (t2.length = z) := ⟨_, Lib.hid rfl⟩
   rw [hn2.out] at hpl ⊢
   clear hsd hcp hfm hb_ HP HB HU c0 c1 q1
   go_wp2_with fail
   clear ht2
   go_roundw
   case rel => exact ⟨k + 1, n2, B, d, t2, by omega, by go_num, rfl, by omega, hn2, Ht2, HU2, HB2⟩
   case measure => simp [intOf]; omega
  ·obtain rfl : k = x1 := by omega
   have Ht2 : t = ((p.ma.map (fun m => (m.p, m.i)))).foldl putI [] := by rw [Ht.out, ← hx1.out, List.take_of_length_le (by rw [List.length_map]; exact Nat.le_refl _)]
   have HT1 := Lib.hid Ht2
   clear Ht2
   go_wp2_with fail
   clear q1
   go_loopw [3, 5] (fun sv v wr => ∃ (k n : Nat) (A : Option Addr) (c : Nat) (t : List (Int × Int)), k ≤ x2 ∧ v = .int .i64 (k : Int) ∧ sv = .slice A n c ∧ n ≤ 100000 + k ∧ Hid (t.length = n) ∧ Hid (t = (p.er.take k).foldl putI (((p.ma.map (fun m => (m.p, m.i)))).foldl putI [])) ∧ Hid (UT wr A c t) ∧ Hid (Below W0.heap.size W0 wr)) (fun _ v _ => x2 - (intOf v).toNat)
   case atStart => exact ⟨0, n, A, c, t, by omega, rfl, rfl, by omega, Hn, HT1, HU, HB⟩
   case round =>
    obtain ⟨k, n, A, c, t, hk, rfl, rfl, hn, Hn, Ht, HU, HB⟩ := hrel
    have q2 : wr.cell? ⟨S, 6, none⟩ = some (.slice a.e x2 a.ce) := by rw [← hx2.out]; exact (HK.out.below HB.out HK.out.lt).cell 6
    by_cases hlt : k < x2
    ·obtain ⟨b, o, u, v, hAe, c0, c1, Hx⟩ := SD.get (SD.below HE.out HB.out) (k := k) (by rw [hx2.out]; exact hlt)
     rw [hAe] at q2
     clear hAe
     have hki : ¬ (x2 ≤ k) := by omega
     have HP := Lib.hid (put_any A c t u v wr HU.out.sd (by rw [Hn.out]; omega) HU.out.cap HU.out.form)
     rw [Hn.out] at HP
     go_wp2_with fail
     refine HP.out.mono ?_
     rintro e w2 ⟨B, d, rfl, hsd, hcp, hfm, hb_⟩
     have HU2 := Lib.hid (show UT w2 B d (putI t (u, v)) from ⟨hsd, hcp, hfm⟩)
     have HB2 := Lib.hid (HB.out.trans (hb_.mono HB.out.size))
     have hpl := putI_len t (u, v)
     rw [Hn.out] at hpl
     have Ht2 := Lib.hid (fold_next Ht.out Hx.out)
     obtain ⟨t2, ht2⟩ : ∃ z, Hid (putI t (u, v) = z) := ⟨_, Lib.hid rfl⟩
     rw [ht2.out] at HU2 hpl Ht2 ⊢
     obtain ⟨n2, hn2⟩ : ∃ z, Hid (t2.length = z) := ⟨_, Lib.hid rfl⟩
     rw [hn2.out] at hpl ⊢
     clear hsd hcp hfm hb_ HP HB HU c0 c1 q2
     go_wp2_with fail
     clear ht2
     go_roundw
     case rel => exact ⟨k + 1, n2, B, d, t2, by omega, by go_num, rfl, by omega, hn2, Ht2, HU2, HB2⟩
     case measure => simp [intOf]; omega
    ·obtain rfl : k = x2 := by omega
     have Ht2 : t = (p.er).foldl putI (((p.ma.map (fun m => (m.p, m.i)))).foldl putI []) := by rw [Ht.out, ← hx2.out, List.take_length]
     have HT2 := Lib.hid Ht2
     clear Ht2
     go_wp2_with fail
     clear q2
     go_loopw [3, 6] (fun sv v wr => ∃ (k n : Nat) (A : Option Addr) (c : Nat) (t : List (Int × Int)), k ≤ x3 ∧ v = .int .i64 (k : Int) ∧ sv = .slice A n c ∧ n ≤ 200000 + k ∧ Hid (t.length = n) ∧ Hid (t = (p.dr.take k).foldl putI ((p.er).foldl putI (((p.ma.map (fun m => (m.p, m.i)))).foldl putI []))) ∧ Hid (UT wr A c t) ∧ Hid (Below W0.heap.size W0 wr)) (fun _ v _ => x3 - (intOf v).toNat)
     case atStart => exact ⟨0, n, A, c, t, by omega, rfl, rfl, by omega, Hn, HT2, HU, HB⟩
     case round =>
      obtain ⟨k, n, A, c, t, hk, rfl, rfl, hn, Hn, Ht, HU, HB⟩ := hrel
      have q3 : wr.cell? ⟨S, 7, none⟩ = some (.slice a.d x3 a.cd) := by rw [← hx3.out]; exact (HK.out.below HB.out HK.out.lt).cell 7
      by_cases hlt : k < x3
      ·obtain ⟨b, o, u, v, hAe, c0, c1, Hx⟩ := SD.get (SD.below HD.out HB.out) (k := k) (by rw [hx3.out]; exact hlt)
       rw [hAe] at q3
       clear hAe
       have hki : ¬ (x3 ≤ k) := by omega
       have HP := Lib.hid (put_any A c t u v wr HU.out.sd (by rw [Hn.out]; omega) HU.out.cap HU.out.form)
       rw [Hn.out] at HP
       go_wp2_with fail
       refine HP.out.mono ?_
       rintro e w2 ⟨B, d, rfl, hsd, hcp, hfm, hb_⟩
       have HU2 := Lib.hid (show UT w2 B d (putI t (u, v)) from ⟨hsd, hcp, hfm⟩)
       have HB2 := Lib.hid (HB.out.trans (hb_.mono HB.out.size))
       have hpl := putI_len t (u, v)
       rw [Hn.out] at hpl
       have Ht2 := Lib.hid (fold_next Ht.out Hx.out)
       obtain ⟨t2, ht2⟩ : ∃ z, Hid (putI t (u, v) = z) := ⟨_, Lib.hid rfl⟩
       rw [ht2.out] at HU2 hpl Ht2 ⊢
       obtain ⟨n2, hn2⟩ : ∃ z, Hid (t2.length = z) := ⟨_, Lib.hid rfl⟩
       rw [hn2.out] at hpl ⊢
       clear hsd hcp hfm hb_ HP HB HU c0 c1 q3
       go_wp2_with fail
       clear ht2
       go_roundw
       case rel => exact ⟨k + 1, n2, B, d, t2, by omega, by go_num, rfl, by omega, hn2, Ht2, HU2, HB2⟩
       case measure => simp [intOf]; omega
      ·obtain rfl : k = x3 := by omega
       have Ht3 := Lib.hid (show t = usesR p from by
        rw [Ht.out, ← hx3.out, List.take_length, usesR, usesL, List.foldl_append, List.foldl_append])
       have hG := HB0.out.trans (HB.out.mono (hS.out ▸ HB0.out.size))
       have HG := Lib.hid hG
       clear hG
       go_wp2_with fail
       go_ret
       exact ⟨A, c, by rw [← Ht3.out, Hn.out]; rfl, by rw [← Ht3.out]; exact HU.out.sd, by rw [hS.out]; exact HG.out⟩
end Go.Proofs.YtnapnkmehnabfaaGreat
