import Derived.Test.YtnapnkmehnabfaaGreatP57
import Derived.Test.YtnapnkmehnabfaaGreatP60
namespace Go.Proofs.YtnapnkmehnabfaaGreat
open Go.RowKit Go.Maps

theorem po_pln {p : Pa} (h : PO p) : PLn p := by
  refine ⟨by have := h.nd.1; omega, by have := h.st.1; omega, by have := h.pl.1; omega, by have := h.ma.1; omega, by have := h.er.1; omega, by have := h.dr.1; omega, by have := h.rt.1; omega, fun q hq => ?_⟩
  have h1 := h.pl.2 q hq
  unfold plE at h1
  split at h1
  · cases h1
  · split at h1
    · cases h1
    · rename_i h2 h3
      have h4 : namB q.nm = true := by simpa using h3
      unfold namB at h4
      simp only [Bool.and_eq_true, decide_eq_true_eq] at h4
      omega
/-- Another number. -/
def reN (p : Pa) (m : Int) : Pa := ⟨p.office, m, p.needs, p.st, p.pl, p.ma, p.er, p.dr, p.rt⟩
theorem po_num {p : Pa} {m : Int} (h : PO p) (hm : 0 ≤ m ∧ m ≤ 1099511627776) : PO (reN p m) := ⟨h.o, hm, h.nd, h.st, h.pl, h.ma, h.er, h.dr, h.rt⟩
theorem pt_num {w : World} {p : Pa} {a : Pw} {m : Int} (h : PT w p a) : PT w (reN p m) a := ⟨h.n, h.s, h.l, h.m, h.e, h.d, h.r⟩
theorem paB_reN {p : Pa} {m : Int} (h : paB p = paB (reN p m)) : p.num = m := by
  obtain ⟨o, n, nd, st, pl, ma, er, dr, rt⟩ := p
  exact paB_num h
/-- The cells of the patches of a list, each of which is valid. -/
theorem vals_at {w : World} {X : Option Addr} {ps : List (Pa × Pw)} {k : Nat} (h : SL w X (ps.flatMap paV)) (hv : AVs w ps) (hk : k < ps.length) :
    ∃ (b o : Nat) (p : Pa) (a : Pw), X = some ⟨b, o, none⟩ ∧ Hid (∀ i v, (paV (p, a))[i]? = some v → w.cell? ⟨b, o + k * 9 + i, none⟩ = some v) ∧ b < w.heap.size ∧ Hid (PB w p a) ∧ Hid (PO p) ∧ Hid ((p, a) ∈ ps) := by
  obtain ⟨b, o, q, e, hq, hc⟩ := pa_get h hk
  have hm := List.mem_of_getElem? hq.out
  obtain ⟨h1, h2⟩ := hv q hm
  exact ⟨b, o, q.1, q.2, e, Lib.hid hc, World.block_lt_of_cell? _ _ (hc 0 _ rfl), Lib.hid h1, Lib.hid h2, Lib.hid hm⟩
set_option linter.unusedSimpArgs false in
set_option maxHeartbeats 8000000 in
set_option maxRecDepth 100000 in
theorem patchHash_walk (A : Option Addr) (cA : Nat) (l : List Int) (at_ : Int) (w : World) (hA : SI w A l) (hl : W64 l) (hat : i64 at_) :
    Calls Tryz.prog 5 #[.slice A l.length cA, .int .i64 at_] w fun e w' => e = .returned (.bool true) ∧ Below w.heap.size w w' := by
  have HSc := Lib.hid (script_any A cA l 5 w hA hl (by decide))
  have HAr := Lib.hid (fun W => around_any at_ 20 W hat.1 hat.2 (by decide) (by decide))
  have hr0 := around_bd at_ 20 (by decide)
  obtain ⟨r, hr⟩ : ∃ z, Hid (around at_ 20 = z) := ⟨_, Lib.hid rfl⟩
  rw [hr.out] at HAr hr0
  clear hA hl hat
  go_enter Tryz.func5, Tryz.ntmps5
  go_wp2_with fail
  refine HSc.out.mono ?_
  rintro e w1 ⟨ps, X, cX, rfl, hp8, _, hown, hav, hnm, _, hb1⟩
  have HB1 := Lib.hid hb1
  have HX := Lib.hid (SB.own hown).sl
  have HAv := Lib.hid hav
  have HNm := Lib.hid hnm
  clear hown hav hnm hb1 HSc
  obtain ⟨n, hn⟩ : ∃ z, Hid (ps.length = z) := ⟨_, Lib.hid rfl⟩
  rw [hn.out] at hp8 ⊢
  go_wp2_with fail
  go_loopw [6] (fun v wr => ∃ k : Nat, k ≤ n ∧ v = .int .i64 (k : Int) ∧ Hid (Below w1.heap.size w1 wr)) (fun v _ => n - (intOf v).toNat)
  case atStart => exact ⟨0, by omega, rfl, Lib.hid (Below.refl _ _)⟩
  case round =>
    obtain ⟨k, hk, rfl, HB⟩ := hrel
    by_cases hlt : k < n
    · obtain ⟨bX, oX, p, a, hXe, Hq, hbl, HPB, HPO, Hm⟩ := vals_at HX.out HAv.out (k := k) (by rw [hn.out]; exact hlt)
      subst hXe
      have hnum : 0 ≤ p.num ∧ p.num ≤ 8 := HNm.out _ Hm.out
      have w1_ : IntKind.i64.wrap (p.num + 1) = p.num + 1 := IntWalk.i64_in _ ⟨by omega, by omega⟩
      obtain ⟨m, hm⟩ : ∃ z, Hid (p.num + 1 + r = z) := ⟨_, Lib.hid rfl⟩
      have w2_ : IntKind.i64.wrap (p.num + 1 + r) = m := by rw [hm.out]; exact IntWalk.i64_in _ ⟨by have := hm.out; omega, by have := hm.out; omega⟩
      have hmb : 0 ≤ m ∧ m ≤ 1000 := by have := hm.out; omega
      have hE := paE_ok HPO.out.nd.2 HPO.out.ok
      have HPN := Lib.hid (po_num HPO.out (m := m) ⟨by omega, by omega⟩)
      have hEn := paE_ok HPN.out.nd.2 HPN.out.ok
      have HE := Lib.hid (fun (W : World) (h : Below w1.heap.size w1 W) => encode_any p a W (HPB.out.below h).pt (po_pln HPO.out) HPO.out.nd.2)
      have HEn := Lib.hid (fun (W : World) (h : Below w1.heap.size w1 W) => encode_any (reN p m) a W (pt_num (HPB.out.below h).pt) (po_pln HPN.out) HPN.out.nd.2)
      have e0 : paE p = 0 := HPO.out.ok
      have e1 : paE (reN p m) = 0 := HPN.out.ok
      obtain ⟨x, hx⟩ : ∃ z, Hid (idH p = z) := ⟨_, Lib.hid rfl⟩
      obtain ⟨y, hy⟩ : ∃ z, Hid (idH (reN p m) = z) := ⟨_, Lib.hid rfl⟩
      have HI := Lib.hid (fun (W : World) (h : Below w1.heap.size w1 W) => (show Calls Tryz.prog 23 #[.agg (paC p a)] W fun e w' => e = .returned (.tuple #[.int .u64 x, .int .i64 0]) ∧ Below W.heap.size W w' from by
        have h := id_any p a W (HPB.out.below h).pt (po_pln HPO.out) HPO.out.nd.2
        rw [idV, if_pos e0, e0, hx.out] at h
        exact h))
      have HIn := Lib.hid (fun (W : World) (h : Below w1.heap.size w1 W) => (show Calls Tryz.prog 23 #[.agg (paC (reN p m) a)] W fun e w' => e = .returned (.tuple #[.int .u64 y, .int .i64 0]) ∧ Below W.heap.size W w' from by
        have h := id_any (reN p m) a W (pt_num (HPB.out.below h).pt) (po_pln HPN.out) HPN.out.nd.2
        rw [idV, if_pos e1, e1, hy.out] at h
        exact h))
      have l1 := paB_len hE
      have l2 := paB_len hEn
      have hne : paB p ≠ paB (reN p m) := fun e => by have h1 := paB_reN e; have h2 := hm.out; omega
      have h1e := fun (i : Nat) (hl : (paB p).length = (paB (reN p m)).length) (hi : i < (paB p).length) (hne : (paB p)[i]? ≠ (paB (reN p m))[i]?) (he : ∀ j, j ≠ i → (paB p)[j]? = (paB (reN p m))[j]?) => bytesH_one (lab := bl ⟨#[112, 97, 116, 99, 104]⟩) (by decide) (paB_lt p) (paB_lt (reN p m)) hl (by omega) hi hne he
      have hxy : ∀ (xs ys : List Nat), xs = paB p → ys = paB (reN p m) → xs.length = ys.length → dif xs ys xs.length ≠ 0 ∧ (dif xs ys xs.length = 1 → x ≠ y) := by
        rintro xs ys rfl rfl hll
        refine ⟨fun h => hne (dif_none hll h), fun h e => ?_⟩
        obtain ⟨i, hi, hd, he⟩ := dif_one hll h
        refine h1e i hll hi hd he ?_
        rw [← hx.out, ← hy.out] at e
        unfold idH at e
        omega
      have bl1 := paB_lt p
      have bl2 := paB_lt (reN p m)
      obtain ⟨xs, hxs⟩ : ∃ z, Hid (paB p = z) := ⟨_, Lib.hid rfl⟩
      obtain ⟨ys, hys⟩ : ∃ z, Hid (paB (reN p m) = z) := ⟨_, Lib.hid rfl⟩
      have Hxy := Lib.hid (hxy xs ys hxs.out.symm hys.out.symm)
      have He0 := Lib.hid e0
      have He1 := Lib.hid e1
      have Hb1 := Lib.hid (hxs.out ▸ bl1)
      have Hb2 := Lib.hid (hys.out ▸ bl2)
      rw [hxs.out] at l1
      rw [hys.out] at l2
      clear hxy h1e hne hE hEn e0 e1 hnum bl1 bl2
      have c0 : wr.cell? ⟨bX, oX + k * 9, none⟩ = some (.int .i64 p.office) := (HB.out.cell (p := ⟨bX, oX + k * 9, none⟩) hbl).trans (Hq.out 0 _ rfl)
      have c1 : wr.cell? ⟨bX, oX + k * 9 + 1, none⟩ = some (.int .i64 p.num) := (HB.out.cell (p := ⟨bX, oX + k * 9 + 1, none⟩) hbl).trans (Hq.out 1 _ rfl)
      have c2 : wr.cell? ⟨bX, oX + k * 9 + 2, none⟩ = some (.slice a.n p.needs.length a.cn) := (HB.out.cell (p := ⟨bX, oX + k * 9 + 2, none⟩) hbl).trans (Hq.out 2 _ rfl)
      have c3 : wr.cell? ⟨bX, oX + k * 9 + 3, none⟩ = some (.slice a.s p.st.length a.cs) := (HB.out.cell (p := ⟨bX, oX + k * 9 + 3, none⟩) hbl).trans (Hq.out 3 _ rfl)
      have c4 : wr.cell? ⟨bX, oX + k * 9 + 4, none⟩ = some (.slice a.l p.pl.length a.cl) := (HB.out.cell (p := ⟨bX, oX + k * 9 + 4, none⟩) hbl).trans (Hq.out 4 _ rfl)
      have c5 : wr.cell? ⟨bX, oX + k * 9 + 5, none⟩ = some (.slice a.m p.ma.length a.cm) := (HB.out.cell (p := ⟨bX, oX + k * 9 + 5, none⟩) hbl).trans (Hq.out 5 _ rfl)
      have c6 : wr.cell? ⟨bX, oX + k * 9 + 6, none⟩ = some (.slice a.e p.er.length a.ce) := (HB.out.cell (p := ⟨bX, oX + k * 9 + 6, none⟩) hbl).trans (Hq.out 6 _ rfl)
      have c7 : wr.cell? ⟨bX, oX + k * 9 + 7, none⟩ = some (.slice a.d p.dr.length a.cd) := (HB.out.cell (p := ⟨bX, oX + k * 9 + 7, none⟩) hbl).trans (Hq.out 7 _ rfl)
      have c8 : wr.cell? ⟨bX, oX + k * 9 + 8, none⟩ = some (.slice a.r p.rt.length a.cr) := (HB.out.cell (p := ⟨bX, oX + k * 9 + 8, none⟩) hbl).trans (Hq.out 8 _ rfl)
      go_upto_region 6 with fail
      clear c0 c1 c2 c3 c4 c5 c6 c7 c8
      have HP := Lib.hid (Bk.new wr 34 #[.int .i64 p.office, .int .i64 p.num, .slice a.n p.needs.length a.cn, .slice a.s p.st.length a.cs, .slice a.l p.pl.length a.cl, .slice a.m p.ma.length a.cm, .slice a.e p.er.length a.ce, .slice a.d p.dr.length a.cd, .slice a.r p.rt.length a.cr])
      have HB5 := Lib.hid (HB.out.alloc HB.out.size (.cells #[.int .i64 p.office, .int .i64 p.num, .slice a.n p.needs.length a.cn, .slice a.s p.st.length a.cs, .slice a.l p.pl.length a.cl, .slice a.m p.ma.length a.cm, .slice a.e p.er.length a.ce, .slice a.d p.dr.length a.cd, .slice a.r p.rt.length a.cr] 34))
      have hPz : w1.heap.size ≤ wr.heap.size := HB.out.size
      clear HB
      generalize wr.alloc (.cells #[.int .i64 p.office, .int .i64 p.num, .slice a.n p.needs.length a.cn, .slice a.s p.st.length a.cs, .slice a.l p.pl.length a.cl, .slice a.m p.ma.length a.cm, .slice a.e p.er.length a.ce, .slice a.d p.dr.length a.cd, .slice a.r p.rt.length a.cr] 34) = W5 at *
      generalize wr.heap.size = P at *
      have HB := Lib.hid HB5.out.drew
      have HPd := Lib.hid (HP.out.below (Below.refl _ _).drew HP.out.lt)
      clear HP HB5
      refine wp_region_noPanic ?_
      refine region_T (s := 7) (S := fun W => W.cell? ⟨P, 1, none⟩ = some (.int .i64 p.num)) (by kernel_rfl) ?_
      change wpT _ _ _ _ _ 8 _ _ W5.drew
      generalize W5.drew = X0 at *
      refine T_takeD (k := 0) (v := .pointer (some ⟨P, 1, none⟩)) (d := some 32) rfl rfl (by decide +kernel) (fun _ _ _ h => h) (Or.inl ⟨by rfl, fun W hW => by go_simp⟩) (HPd.out.cell 1) ?_
      try simp only [Act.put, List.setIfInBounds_toArray, List.set_cons_zero, List.set_cons_succ]
      refine T_takeD (k := 1) (v := .int .i64 p.num) (d := some 33) rfl rfl (by decide +kernel) (fun _ _ _ h => h) (Or.inl ⟨by rfl, fun W hW => by go_simp⟩) (HPd.out.cell 1) ?_
      try simp only [Act.put, List.setIfInBounds_toArray, List.set_cons_zero, List.set_cons_succ]
      refine T_takeD (k := 2) (v := .int .i64 (p.num + 1)) (d := some 34) rfl rfl (by decide +kernel) (fun _ _ _ h => h) (Or.inl ⟨by rfl, fun W hW => by go_simp⟩) (HPd.out.cell 1) ?_
      try simp only [Act.put, List.setIfInBounds_toArray, List.set_cons_zero, List.set_cons_succ]
      refine T_takeD (k := 3) (v := .int .i64 at_) (d := some 35) rfl rfl (by decide +kernel) (fun _ _ _ h => h) (Or.inl ⟨by rfl, fun W hW => by go_simp⟩) (HPd.out.cell 1) ?_
      try simp only [Act.put, List.setIfInBounds_toArray, List.set_cons_zero, List.set_cons_succ]
      refine T_oneS (i := 4) (by decide +kernel) (T_step rfl rfl (fun K hK4 => ?_))
      have hK4 := Lib.hid hK4
      go_simp
      go_at_call 15
      refine (HAr.out _).mono ?_
      rintro e wz ⟨rfl, rfl⟩
      refine hK4.out _ _ (HPd.out.cell 1) ?_
      try simp only [Act.put, List.setIfInBounds_toArray, List.set_cons_zero, List.set_cons_succ]
      refine T_takeD (k := 5) (v := .int .i64 m) (d := some 37) rfl rfl (by decide +kernel) (fun _ _ _ h => h) (Or.inl ⟨by rfl, fun W hW => by go_simp⟩) (HPd.out.cell 1) ?_
      try simp only [Act.put, List.setIfInBounds_toArray, List.set_cons_zero, List.set_cons_succ]
      refine T_takeD (k := 6) (v := .pointer (some ⟨P, 1, none⟩)) (d := some 38) rfl rfl (by decide +kernel) (fun _ _ _ h => h) (Or.inl ⟨by rfl, fun W hW => by go_simp⟩) (HPd.out.cell 1) ?_
      try simp only [Act.put, List.setIfInBounds_toArray, List.set_cons_zero, List.set_cons_succ]
      refine T_last (by decide +kernel) (by decide +kernel) (by decide +kernel) rfl rfl (fun K hKl => ?_)
      have hKl := Lib.hid hKl
      have d3 : X0.cell? ⟨P, 1, none⟩ = some (.int .i64 p.num) := HPd.out.cell 1
      have d4 := HPd.out.frozen 1
      go_simp
      refine hKl.out _ _ (NoPanic.normal ?_)
      try simp only [Act.put, List.setIfInBounds_toArray, List.set_cons_zero, List.set_cons_succ]
      have HP := Lib.hid (show Bk (X0.setCell ⟨P, 1, none⟩ (.int .i64 m)) P 34 #[.int .i64 p.office, .int .i64 m, .slice a.n p.needs.length a.cn, .slice a.s p.st.length a.cs, .slice a.l p.pl.length a.cl, .slice a.m p.ma.length a.cm, .slice a.e p.er.length a.ce, .slice a.d p.dr.length a.cd, .slice a.r p.rt.length a.cr] from HPd.out.set_ 1 _)
      have HB2 := Lib.hid (HB.out.setCell (p := ⟨P, 1, none⟩) hPz (.int .i64 m))
      clear hKl d3 d4 HPd HB
      have HB := HB2
      clear HB2
      generalize X0.setCell ⟨P, 1, none⟩ (.int .i64 m) = W6 at *
      have c0 : W6.cell? ⟨bX, oX + k * 9, none⟩ = some (.int .i64 p.office) := (HB.out.cell (p := ⟨bX, oX + k * 9, none⟩) hbl).trans (Hq.out 0 _ rfl)
      have c1 : W6.cell? ⟨bX, oX + k * 9 + 1, none⟩ = some (.int .i64 p.num) := (HB.out.cell (p := ⟨bX, oX + k * 9 + 1, none⟩) hbl).trans (Hq.out 1 _ rfl)
      have c2 : W6.cell? ⟨bX, oX + k * 9 + 2, none⟩ = some (.slice a.n p.needs.length a.cn) := (HB.out.cell (p := ⟨bX, oX + k * 9 + 2, none⟩) hbl).trans (Hq.out 2 _ rfl)
      have c3 : W6.cell? ⟨bX, oX + k * 9 + 3, none⟩ = some (.slice a.s p.st.length a.cs) := (HB.out.cell (p := ⟨bX, oX + k * 9 + 3, none⟩) hbl).trans (Hq.out 3 _ rfl)
      have c4 : W6.cell? ⟨bX, oX + k * 9 + 4, none⟩ = some (.slice a.l p.pl.length a.cl) := (HB.out.cell (p := ⟨bX, oX + k * 9 + 4, none⟩) hbl).trans (Hq.out 4 _ rfl)
      have c5 : W6.cell? ⟨bX, oX + k * 9 + 5, none⟩ = some (.slice a.m p.ma.length a.cm) := (HB.out.cell (p := ⟨bX, oX + k * 9 + 5, none⟩) hbl).trans (Hq.out 5 _ rfl)
      have c6 : W6.cell? ⟨bX, oX + k * 9 + 6, none⟩ = some (.slice a.e p.er.length a.ce) := (HB.out.cell (p := ⟨bX, oX + k * 9 + 6, none⟩) hbl).trans (Hq.out 6 _ rfl)
      have c7 : W6.cell? ⟨bX, oX + k * 9 + 7, none⟩ = some (.slice a.d p.dr.length a.cd) := (HB.out.cell (p := ⟨bX, oX + k * 9 + 7, none⟩) hbl).trans (Hq.out 7 _ rfl)
      have c8 : W6.cell? ⟨bX, oX + k * 9 + 8, none⟩ = some (.slice a.r p.rt.length a.cr) := (HB.out.cell (p := ⟨bX, oX + k * 9 + 8, none⟩) hbl).trans (Hq.out 8 _ rfl)
      go_wp2_with fail
      clear c0 c1 c2 c3 c4 c5 c6 c7 c8
      refine (HE.out _ HB.out).mono ?_
      rintro e w7 ⟨hb_, ⟨hz, _⟩ | ⟨_, A1, c1, rfl, hown_⟩⟩
      · exact absurd He0.out hz
      rw [hxs.out] at hown_ ⊢
      have HS1 := Lib.hid (SB.own hown_).sl
      have HB7 := Lib.hid (HB.out.trans (hb_.mono HB.out.size))
      have HP7 := Lib.hid (HP.out.below hb_ HP.out.lt)
      clear hb_ hown_ HB HP HE
      have c0 : w7.cell? ⟨P, 0, none⟩ = some (.int .i64 p.office) := HP7.out.cell 0
      have c1 : w7.cell? ⟨P, 1, none⟩ = some (.int .i64 m) := HP7.out.cell 1
      have c2 : w7.cell? ⟨P, 2, none⟩ = some (.slice a.n p.needs.length a.cn) := HP7.out.cell 2
      have c3 : w7.cell? ⟨P, 3, none⟩ = some (.slice a.s p.st.length a.cs) := HP7.out.cell 3
      have c4 : w7.cell? ⟨P, 4, none⟩ = some (.slice a.l p.pl.length a.cl) := HP7.out.cell 4
      have c5 : w7.cell? ⟨P, 5, none⟩ = some (.slice a.m p.ma.length a.cm) := HP7.out.cell 5
      have c6 : w7.cell? ⟨P, 6, none⟩ = some (.slice a.e p.er.length a.ce) := HP7.out.cell 6
      have c7 : w7.cell? ⟨P, 7, none⟩ = some (.slice a.d p.dr.length a.cd) := HP7.out.cell 7
      have c8 : w7.cell? ⟨P, 8, none⟩ = some (.slice a.r p.rt.length a.cr) := HP7.out.cell 8
      go_wp2_with fail
      clear c0 c1 c2 c3 c4 c5 c6 c7 c8
      refine (HEn.out _ HB7.out).mono ?_
      rintro e w8 ⟨hb_, ⟨hz, _⟩ | ⟨_, A2, c2, rfl, hown_⟩⟩
      · exact absurd He1.out hz
      rw [hys.out] at hown_ ⊢
      have HS2 := Lib.hid (SB.own hown_).sl
      have HS1b := Lib.hid (HS1.out.below hb_)
      have HB8 := Lib.hid (HB7.out.trans (hb_.mono HB7.out.size))
      have HP8 := Lib.hid (HP7.out.below hb_ HP7.out.lt)
      clear hb_ hown_ HB7 HP7 HEn HS1
      have c0 : w8.cell? ⟨bX, oX + k * 9, none⟩ = some (.int .i64 p.office) := (HB8.out.cell (p := ⟨bX, oX + k * 9, none⟩) hbl).trans (Hq.out 0 _ rfl)
      have c1 : w8.cell? ⟨bX, oX + k * 9 + 1, none⟩ = some (.int .i64 p.num) := (HB8.out.cell (p := ⟨bX, oX + k * 9 + 1, none⟩) hbl).trans (Hq.out 1 _ rfl)
      have c2 : w8.cell? ⟨bX, oX + k * 9 + 2, none⟩ = some (.slice a.n p.needs.length a.cn) := (HB8.out.cell (p := ⟨bX, oX + k * 9 + 2, none⟩) hbl).trans (Hq.out 2 _ rfl)
      have c3 : w8.cell? ⟨bX, oX + k * 9 + 3, none⟩ = some (.slice a.s p.st.length a.cs) := (HB8.out.cell (p := ⟨bX, oX + k * 9 + 3, none⟩) hbl).trans (Hq.out 3 _ rfl)
      have c4 : w8.cell? ⟨bX, oX + k * 9 + 4, none⟩ = some (.slice a.l p.pl.length a.cl) := (HB8.out.cell (p := ⟨bX, oX + k * 9 + 4, none⟩) hbl).trans (Hq.out 4 _ rfl)
      have c5 : w8.cell? ⟨bX, oX + k * 9 + 5, none⟩ = some (.slice a.m p.ma.length a.cm) := (HB8.out.cell (p := ⟨bX, oX + k * 9 + 5, none⟩) hbl).trans (Hq.out 5 _ rfl)
      have c6 : w8.cell? ⟨bX, oX + k * 9 + 6, none⟩ = some (.slice a.e p.er.length a.ce) := (HB8.out.cell (p := ⟨bX, oX + k * 9 + 6, none⟩) hbl).trans (Hq.out 6 _ rfl)
      have c7 : w8.cell? ⟨bX, oX + k * 9 + 7, none⟩ = some (.slice a.d p.dr.length a.cd) := (HB8.out.cell (p := ⟨bX, oX + k * 9 + 7, none⟩) hbl).trans (Hq.out 7 _ rfl)
      have c8 : w8.cell? ⟨bX, oX + k * 9 + 8, none⟩ = some (.slice a.r p.rt.length a.cr) := (HB8.out.cell (p := ⟨bX, oX + k * 9 + 8, none⟩) hbl).trans (Hq.out 8 _ rfl)
      go_wp2_with fail
      clear c0 c1 c2 c3 c4 c5 c6 c7 c8
      refine (HI.out _ HB8.out).mono ?_
      rintro e w9 ⟨rfl, hb_⟩
      have HB9 := Lib.hid (HB8.out.trans (hb_.mono HB8.out.size))
      have HP9 := Lib.hid (HP8.out.below hb_ HP8.out.lt)
      have HT1 := Lib.hid (HS1b.out.below hb_)
      have HT2 := Lib.hid (HS2.out.below hb_)
      clear hb_ HB8 HP8 HS1b HS2
      have c0 : w9.cell? ⟨P, 0, none⟩ = some (.int .i64 p.office) := HP9.out.cell 0
      have c1 : w9.cell? ⟨P, 1, none⟩ = some (.int .i64 m) := HP9.out.cell 1
      have c2 : w9.cell? ⟨P, 2, none⟩ = some (.slice a.n p.needs.length a.cn) := HP9.out.cell 2
      have c3 : w9.cell? ⟨P, 3, none⟩ = some (.slice a.s p.st.length a.cs) := HP9.out.cell 3
      have c4 : w9.cell? ⟨P, 4, none⟩ = some (.slice a.l p.pl.length a.cl) := HP9.out.cell 4
      have c5 : w9.cell? ⟨P, 5, none⟩ = some (.slice a.m p.ma.length a.cm) := HP9.out.cell 5
      have c6 : w9.cell? ⟨P, 6, none⟩ = some (.slice a.e p.er.length a.ce) := HP9.out.cell 6
      have c7 : w9.cell? ⟨P, 7, none⟩ = some (.slice a.d p.dr.length a.cd) := HP9.out.cell 7
      have c8 : w9.cell? ⟨P, 8, none⟩ = some (.slice a.r p.rt.length a.cr) := HP9.out.cell 8
      go_wp2_with fail
      clear c0 c1 c2 c3 c4 c5 c6 c7 c8
      refine (HIn.out _ HB9.out).mono ?_
      rintro e wA ⟨rfl, hb_⟩
      have HBA := Lib.hid (HB9.out.trans (hb_.mono HB9.out.size))
      have HU1 := Lib.hid (HT1.out.below hb_)
      have HU2 := Lib.hid (HT2.out.below hb_)
      clear hb_ HB9 HP9 HT1 HT2
      have c0 : wA.cell? ⟨bX, oX + k * 9, none⟩ = some (.int .i64 p.office) := (HBA.out.cell (p := ⟨bX, oX + k * 9, none⟩) hbl).trans (Hq.out 0 _ rfl)
      have c1 : wA.cell? ⟨bX, oX + k * 9 + 1, none⟩ = some (.int .i64 p.num) := (HBA.out.cell (p := ⟨bX, oX + k * 9 + 1, none⟩) hbl).trans (Hq.out 1 _ rfl)
      have c2 : wA.cell? ⟨bX, oX + k * 9 + 2, none⟩ = some (.slice a.n p.needs.length a.cn) := (HBA.out.cell (p := ⟨bX, oX + k * 9 + 2, none⟩) hbl).trans (Hq.out 2 _ rfl)
      have c3 : wA.cell? ⟨bX, oX + k * 9 + 3, none⟩ = some (.slice a.s p.st.length a.cs) := (HBA.out.cell (p := ⟨bX, oX + k * 9 + 3, none⟩) hbl).trans (Hq.out 3 _ rfl)
      have c4 : wA.cell? ⟨bX, oX + k * 9 + 4, none⟩ = some (.slice a.l p.pl.length a.cl) := (HBA.out.cell (p := ⟨bX, oX + k * 9 + 4, none⟩) hbl).trans (Hq.out 4 _ rfl)
      have c5 : wA.cell? ⟨bX, oX + k * 9 + 5, none⟩ = some (.slice a.m p.ma.length a.cm) := (HBA.out.cell (p := ⟨bX, oX + k * 9 + 5, none⟩) hbl).trans (Hq.out 5 _ rfl)
      have c6 : wA.cell? ⟨bX, oX + k * 9 + 6, none⟩ = some (.slice a.e p.er.length a.ce) := (HBA.out.cell (p := ⟨bX, oX + k * 9 + 6, none⟩) hbl).trans (Hq.out 6 _ rfl)
      have c7 : wA.cell? ⟨bX, oX + k * 9 + 7, none⟩ = some (.slice a.d p.dr.length a.cd) := (HBA.out.cell (p := ⟨bX, oX + k * 9 + 7, none⟩) hbl).trans (Hq.out 7 _ rfl)
      have c8 : wA.cell? ⟨bX, oX + k * 9 + 8, none⟩ = some (.slice a.r p.rt.length a.cr) := (HBA.out.cell (p := ⟨bX, oX + k * 9 + 8, none⟩) hbl).trans (Hq.out 8 _ rfl)
      go_wp2_with fail
      clear c0 c1 c2 c3 c4 c5 c6 c7 c8
      refine (HI.out _ HBA.out).mono ?_
      rintro e wB ⟨rfl, hb_⟩
      have HBB := Lib.hid (HBA.out.trans (hb_.mono HBA.out.size))
      have HV1 := Lib.hid (HU1.out.below hb_)
      have HV2 := Lib.hid (HU2.out.below hb_)
      clear hb_ HBA HU1 HU2 HI HIn
      obtain ⟨n1, hn1⟩ : ∃ z, Hid (xs.length = z) := ⟨_, Lib.hid rfl⟩
      obtain ⟨n2, hn2⟩ : ∃ z, Hid (ys.length = z) := ⟨_, Lib.hid rfl⟩
      rw [hn1.out] at l1 ⊢
      rw [hn2.out] at l2 ⊢
      go_wp2_with fail
      go_loopw [18, 19] (fun dv v wr2 => ∃ j d : Nat, j ≤ n1 ∧ j ≤ n2 ∧ v = .int .i64 (j : Int) ∧ dv = .int .i64 (d : Int) ∧ Hid (d = dif xs ys j) ∧ Hid (Below wB.heap.size wB wr2)) (fun _ v _ => n1 - (intOf v).toNat)
      case atStart => exact ⟨0, 0, by omega, by omega, rfl, rfl, Lib.hid rfl, Lib.hid (Below.refl _ _)⟩
      case round =>
        obtain ⟨j, d, hj1, hj2, rfl, rfl, Hd, HBr⟩ := hrel
        have hdj : d ≤ j := by rw [Hd.out]; exact dif_le _ _ _
        by_cases hjj : j < n1 ∧ j < n2
        · obtain ⟨hja, hjb⟩ := hjj
          obtain ⟨ba, oa, u, hAe, hua, hu⟩ := byte_at (HV1.out.below HBr.out) (j := j) (by rw [hn1.out]; exact hja)
          obtain ⟨bb, ob, v, hBe, hvb, hv⟩ := byte_at (HV2.out.below HBr.out) (j := j) (by rw [hn2.out]; exact hjb)
          subst hAe
          subst hBe
          have q1 : xs.getD j 0 = u := by rw [List.getD_eq_getElem?_getD, hu.out]; rfl
          have q2 : ys.getD j 0 = v := by rw [List.getD_eq_getElem?_getD, hv.out]; rfl
          have Hq1 := Lib.hid q1
          have Hq2 := Lib.hid q2
          clear q1 q2
          go_upto_region 18 with fail
          have hua2 : wr.drew.cell? ⟨ba, oa + j, none⟩ = some (.int .u8 (u : Int)) := hua
          have hvb2 : wr.drew.cell? ⟨bb, ob + j, none⟩ = some (.int .u8 (v : Int)) := hvb
          have HBd := Lib.hid HBr.out.drew
          clear hua hvb HBr
          refine wp_region_noPanic ?_
          refine region_H (S := fun W => W.cell? ⟨ba, oa + j, none⟩ = some (.int .u8 (u : Int)) ∧ W.cell? ⟨bb, ob + j, none⟩ = some (.int .u8 (v : Int))) (by kernel_rfl) ?_
          change wpH _ _ _ _ 9 _ _ wr.drew
          refine H_takeD (k := 0) (v := .slice (some ⟨ba, oa, none⟩) n1 c1) (d := some 108) rfl rfl (by decide +kernel) (fun _ _ _ h => h) (Or.inl ⟨by rfl, fun W hW => by obtain ⟨s0, s1⟩ := hW; go_simp⟩) ⟨hua2, hvb2⟩ ?_
          try simp only [Act.put, List.setIfInBounds_toArray, List.set_cons_zero, List.set_cons_succ]
          refine H_takeD (k := 1) (v := .int .i64 (j : Int)) (d := some 109) rfl rfl (by decide +kernel) (fun _ _ _ h => h) (Or.inl ⟨by rfl, fun W hW => by obtain ⟨s0, s1⟩ := hW; go_simp⟩) ⟨hua2, hvb2⟩ ?_
          try simp only [Act.put, List.setIfInBounds_toArray, List.set_cons_zero, List.set_cons_succ]
          refine H_takeD (k := 2) (v := .pointer (some ⟨ba, oa + j, none⟩)) (d := some 110) rfl rfl (by decide +kernel) (fun _ _ _ h => h) (Or.inl ⟨by rfl, fun W hW => by obtain ⟨s0, s1⟩ := hW; go_simp⟩) ⟨hua2, hvb2⟩ ?_
          try simp only [Act.put, List.setIfInBounds_toArray, List.set_cons_zero, List.set_cons_succ]
          refine H_takeD (k := 3) (v := .int .u8 (u : Int)) (d := some 111) rfl rfl (by decide +kernel) (fun _ _ _ h => h) (Or.inl ⟨by rfl, fun W hW => by obtain ⟨s0, s1⟩ := hW; go_simp⟩) ⟨hua2, hvb2⟩ ?_
          try simp only [Act.put, List.setIfInBounds_toArray, List.set_cons_zero, List.set_cons_succ]
          refine H_takeD (k := 4) (v := .slice (some ⟨bb, ob, none⟩) n2 c2) (d := some 112) rfl rfl (by decide +kernel) (fun _ _ _ h => h) (Or.inl ⟨by rfl, fun W hW => by obtain ⟨s0, s1⟩ := hW; go_simp⟩) ⟨hua2, hvb2⟩ ?_
          try simp only [Act.put, List.setIfInBounds_toArray, List.set_cons_zero, List.set_cons_succ]
          refine H_takeD (k := 5) (v := .int .i64 (j : Int)) (d := some 113) rfl rfl (by decide +kernel) (fun _ _ _ h => h) (Or.inl ⟨by rfl, fun W hW => by obtain ⟨s0, s1⟩ := hW; go_simp⟩) ⟨hua2, hvb2⟩ ?_
          try simp only [Act.put, List.setIfInBounds_toArray, List.set_cons_zero, List.set_cons_succ]
          refine H_takeD (k := 6) (v := .pointer (some ⟨bb, ob + j, none⟩)) (d := some 114) rfl rfl (by decide +kernel) (fun _ _ _ h => h) (Or.inl ⟨by rfl, fun W hW => by obtain ⟨s0, s1⟩ := hW; go_simp⟩) ⟨hua2, hvb2⟩ ?_
          try simp only [Act.put, List.setIfInBounds_toArray, List.set_cons_zero, List.set_cons_succ]
          refine H_takeD (k := 7) (v := .int .u8 (v : Int)) (d := some 115) rfl rfl (by decide +kernel) (fun _ _ _ h => h) (Or.inl ⟨by rfl, fun W hW => by obtain ⟨s0, s1⟩ := hW; go_simp⟩) ⟨hua2, hvb2⟩ ?_
          try simp only [Act.put, List.setIfInBounds_toArray, List.set_cons_zero, List.set_cons_succ]
          refine H_takeD (k := 8) (v := .bool (((u : Nat) : Int) != ((v : Nat) : Int))) (d := some 116) rfl rfl (by decide +kernel) (fun _ _ _ h => h) (Or.inl ⟨by rfl, fun W hW => by obtain ⟨s0, s1⟩ := hW; go_simp⟩) ⟨hua2, hvb2⟩ ?_
          try simp only [Act.put, List.setIfInBounds_toArray, List.set_cons_zero, List.set_cons_succ]
          refine H_end (by decide +kernel) (NoPanic.normal ?_)
          try simp only [Act.put, List.setIfInBounds_toArray, List.set_cons_zero, List.set_cons_succ]
          by_cases huv : u = v
          · have hb_ : (((u : Nat) : Int) != ((v : Nat) : Int)) = false := by simp [huv]
            have Hd2 := Lib.hid (show d = dif xs ys (j + 1) from by rw [dif_eq (by rw [Hq1.out, Hq2.out, huv]), ← Hd.out])
            clear huv
            go_wp2_with fail
            go_roundw
            case rel => exact ⟨j + 1, d, by omega, by omega, by go_num, rfl, Hd2, HBd⟩
            case measure => simp [intOf]; omega
          · have hb_ : (((u : Nat) : Int) != ((v : Nat) : Int)) = true := by simp; omega
            have Hd2 := Lib.hid (show d + 1 = dif xs ys (j + 1) from by rw [dif_ne (by rw [Hq1.out, Hq2.out]; exact huv), ← Hd.out])
            clear huv
            go_wp2_with fail
            go_roundw
            case rel => exact ⟨j + 1, d + 1, by omega, by omega, by go_num, by go_num, Hd2, HBd⟩
            case measure => simp [intOf]; omega
        · have hend : j = n1 ∨ j = n2 := by omega
          have HBf := Lib.hid (HBB.out.trans (HBr.out.mono HBB.out.size))
          clear HBr HBB
          by_cases hja : j < n1
          · have hjb : ¬ j < n2 := fun h => hjj ⟨hja, h⟩
            have h12 : ((n1 : Int) == (n2 : Int)) = false := by simp; omega
            go_wp2_with fail
            go_roundw
            case rel => exact ⟨k + 1, by omega, by go_num, HBf⟩
            case measure => simp [intOf]; omega
          · by_cases h12e : n1 = n2
            · have h12 : ((n1 : Int) == (n2 : Int)) = true := by simp [h12e]
              obtain ⟨hd0, hd1⟩ := Hxy.out (by rw [hn1.out, hn2.out]; exact h12e)
              have hjn : j = xs.length := by rw [hn1.out]; omega
              rw [← hjn, ← Hd.out] at hd0 hd1
              have b0 : ((d : Int) == 0) = false := by simp; omega
              clear h12e hjn
              by_cases hd1e : d = 1
              · have b1 : ((d : Int) == 1) = true := by simp [hd1e]
                have b2 : (x == y) = false := by simp [hd1 hd1e]
                clear hd1e hd1 hd0
                go_wp2_with fail
                go_roundw
                case rel => exact ⟨k + 1, by omega, by go_num, HBf⟩
                case measure => simp [intOf]; omega
              · have b1 : ((d : Int) == 1) = false := by simp; omega
                clear hd1e hd1 hd0
                go_wp2_with fail
                go_roundw
                case rel => exact ⟨k + 1, by omega, by go_num, HBf⟩
                case measure => simp [intOf]; omega
            · have h12 : ((n1 : Int) == (n2 : Int)) = false := by simp; omega
              clear h12e
              go_wp2_with fail
              go_roundw
              case rel => exact ⟨k + 1, by omega, by go_num, HBf⟩
              case measure => simp [intOf]; omega
    · have HBf := Lib.hid (HB1.out.trans (HB.out.mono HB1.out.size))
      clear HB
      go_wp2_with fail
      refine (lives_any wr).mono ?_
      rintro e wl ⟨rfl, hb_⟩
      have HBl := Lib.hid (HBf.out.trans (hb_.mono HBf.out.size))
      clear hb_
      go_wp2_with fail
      go_ret
      exact ⟨rfl, HBl.out⟩
end Go.Proofs.YtnapnkmehnabfaaGreat
