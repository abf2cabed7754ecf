import Derived.Test.YtnapnkmehnabfaaGreatU11
import Derived.Test.YtnapnkmehnabfaaGreatP61
namespace Go.Proofs.YtnapnkmehnabfaaGreat
open Go.RowKit Go.Maps

/-- A list that is strictly in order, and of elements of another one, is not longer. -/
theorem so_len : ∀ {U L : List (Int × Int)}, SO U → (∀ x ∈ U, x ∈ L) → U.length ≤ L.length
  | [], L, _, _ => Nat.zero_le _
  | u :: U, L, h, hm => by
    have h' := List.pairwise_cons.1 h
    have hu := hm u (by simp)
    have h1 := so_len (L := L.erase u) h'.2 (fun x hx => by
      have hne : x ≠ u := fun e => by
        subst e
        have := h'.1 x hx
        rw [lessI_irr] at this
        cases this
      exact (List.mem_erase_of_ne hne).2 (hm x (by simp [hx])))
    have h2 := List.length_erase_of_mem hu
    have h3 := List.length_pos_of_mem hu
    simp only [List.length_cons]
    omega
theorem uses_len {p : Pa} (h : PO p) {U : List (Int × Int)} (hs : SO U) (hm : ∀ x, x ∈ U ↔ x ∈ usesL p) : U.length ≤ 5000 := by
  have h1 := so_len hs (fun x hx => (hm x).1 hx)
  have h2 := h.ma.1; have h3 := h.er.1; have h4 := h.dr.1
  unfold usesL at h1
  simp only [List.length_append, List.length_map] at h1
  omega
theorem noN_pt {w : World} {p : Pa} {a : Pw} (h : PT w p a) : PT w (noN p) ⟨none, a.s, a.l, a.m, a.e, a.d, a.r, 0, a.cs, a.cl, a.cm, a.ce, a.cd, a.cr⟩ := ⟨SL.nil_, h.s, h.l, h.m, h.e, h.d, h.r⟩
theorem noN_pln {p : Pa} (h : PLn p) : PLn (noN p) := ⟨Nat.zero_le _, h.2, h.3, h.4, h.5, h.6, h.7, h.8⟩
set_option linter.unusedSimpArgs false in
set_option maxHeartbeats 8000000 in
set_option maxRecDepth 100000 in
theorem patchUsed_walk (A : Option Addr) (cA : Nat) (l : List Int) (w : World) (hA : SI w A l) (hl : W64 l) :
    Calls Tryz.prog 8 #[.slice A l.length cA] w fun e w' => e = .returned (.bool true) ∧ Below w.heap.size w w' := by
  have HSc := Lib.hid (script_any A cA l 8 w hA hl (by decide))
  clear hA hl
  go_enter Tryz.func8, Tryz.ntmps8
  go_wp2_with fail
  refine HSc.out.mono ?_
  rintro e w1 ⟨ps, X, cX, rfl, hp8, _, hown, hav, hnm, _, hb1⟩
  have HB1 := Lib.hid hb1
  have HX := Lib.hid (SB.own hown).sl
  have HAv := Lib.hid hav
  clear hown hav hnm hb1 HSc
  obtain ⟨n, hn⟩ : ∃ z, Hid (ps.length = z) := ⟨_, Lib.hid rfl⟩
  rw [hn.out] at hp8 ⊢
  go_wp2_with fail
  go_loopw [4] (fun v wr => ∃ k : Nat, k ≤ n ∧ v = .int .i64 (k : Int) ∧ Hid (Below w1.heap.size w1 wr)) (fun v _ => n - (intOf v).toNat)
  case atStart => exact ⟨0, by omega, rfl, Lib.hid (Below.refl _ _)⟩
  case round =>
    obtain ⟨k, hk, rfl, HB⟩ := hrel
    by_cases hlt : k < n
    · obtain ⟨bX, oX, p, a, hXe, Hq, hbl, HPB, HPO, Hm⟩ := vals_at HX.out HAv.out (k := k) (by rw [hn.out]; exact hlt)
      subst hXe
      have hki : ¬ (n ≤ k) := by omega
      have hpl := po_pln HPO.out
      have HU := Lib.hid (fun (W : World) (h : Below w1.heap.size w1 W) => uses_any p a W (HPB.out.below h).pt hpl (by have := HPO.out.ma.1; omega) (by have := HPO.out.er.1; omega) (by have := HPO.out.dr.1; omega))
      have He0 := Lib.hid (show paE p = 0 from HPO.out.ok)
      have HNp := Lib.hid (fun (W : World) (h : Below w1.heap.size w1 W) => patchValid_any (noN p) ⟨none, a.s, a.l, a.m, a.e, a.d, a.r, 0, a.cs, a.cl, a.cm, a.ce, a.cd, a.cr⟩ W (noN_pt (HPB.out.below h).pt) (noN_pln hpl))
      clear hpl
      have c0 : wr.cell? ⟨bX, oX + k * 9, none⟩ = some (.int .i64 p.office) := (HB.out.cell (p := ⟨bX, oX + k * 9, none⟩) hbl).trans (Hq.out 0 _ rfl)
      have c1 : wr.cell? ⟨bX, oX + k * 9 + 1, none⟩ = some (.int .i64 p.num) := (HB.out.cell (p := ⟨bX, oX + k * 9 + 1, none⟩) hbl).trans (Hq.out 1 _ rfl)
      have c2 : wr.cell? ⟨bX, oX + k * 9 + 2, none⟩ = some (.slice a.n p.needs.length a.cn) := (HB.out.cell (p := ⟨bX, oX + k * 9 + 2, none⟩) hbl).trans (Hq.out 2 _ rfl)
      have c3 : wr.cell? ⟨bX, oX + k * 9 + 3, none⟩ = some (.slice a.s p.st.length a.cs) := (HB.out.cell (p := ⟨bX, oX + k * 9 + 3, none⟩) hbl).trans (Hq.out 3 _ rfl)
      have c4 : wr.cell? ⟨bX, oX + k * 9 + 4, none⟩ = some (.slice a.l p.pl.length a.cl) := (HB.out.cell (p := ⟨bX, oX + k * 9 + 4, none⟩) hbl).trans (Hq.out 4 _ rfl)
      have c5 : wr.cell? ⟨bX, oX + k * 9 + 5, none⟩ = some (.slice a.m p.ma.length a.cm) := (HB.out.cell (p := ⟨bX, oX + k * 9 + 5, none⟩) hbl).trans (Hq.out 5 _ rfl)
      have c6 : wr.cell? ⟨bX, oX + k * 9 + 6, none⟩ = some (.slice a.e p.er.length a.ce) := (HB.out.cell (p := ⟨bX, oX + k * 9 + 6, none⟩) hbl).trans (Hq.out 6 _ rfl)
      have c7 : wr.cell? ⟨bX, oX + k * 9 + 7, none⟩ = some (.slice a.d p.dr.length a.cd) := (HB.out.cell (p := ⟨bX, oX + k * 9 + 7, none⟩) hbl).trans (Hq.out 7 _ rfl)
      have c8 : wr.cell? ⟨bX, oX + k * 9 + 8, none⟩ = some (.slice a.r p.rt.length a.cr) := (HB.out.cell (p := ⟨bX, oX + k * 9 + 8, none⟩) hbl).trans (Hq.out 8 _ rfl)
      go_wp2_with fail
      clear c0 c1 c2 c3 c4 c5 c6 c7 c8
      refine (HU.out _ HB.out).mono ?_
      rintro e w7 ⟨hb_, ⟨hz, _⟩ | ⟨_, U, A1, c1, rfl, hU, hso, hmem⟩⟩
      · exact absurd He0.out hz
      have HB7 := Lib.hid (HB.out.trans (hb_.mono HB.out.size))
      have HUs := Lib.hid hU
      have HSo := Lib.hid hso
      have HMem := Lib.hid hmem
      have hml := uses_len HPO.out hso hmem
      clear hb_ hU hso hmem HB HU
      obtain ⟨m, hm⟩ : ∃ z, Hid (U.length = z) := ⟨_, Lib.hid rfl⟩
      rw [hm.out] at hml ⊢
      go_wp2_with fail
      go_loopw [7] (fun v wr => ∃ j : Nat, j ≤ m ∧ v = .int .i64 (j : Int) ∧ Hid (Below w7.heap.size w7 wr)) (fun v _ => m - (intOf v).toNat)
      case atStart => exact ⟨0, by omega, rfl, Lib.hid (Below.refl _ _)⟩
      case round =>
        obtain ⟨j, hj, rfl, HBj⟩ := hrel
        by_cases hjm : j < m
        · obtain ⟨bU, oU, x, y, hUe, u0, u1, hui⟩ := SD.get (HUs.out.below HBj.out) (k := j) (by rw [hm.out]; exact hjm)
          obtain ⟨hnd, h12⟩ := used_law HPO.out ((HMem.out _).1 (List.mem_of_getElem? hui.out))
          subst hUe
          have HV := Lib.hid (fun (W : World) (h : Below w1.heap.size w1 W) => (show Calls Tryz.prog 11 #[.agg #[.int .i64 p.office, .int .i64 p.num, .slice none 0 0, .slice a.s p.st.length a.cs, .slice a.l p.pl.length a.cl, .slice a.m p.ma.length a.cm, .slice a.e p.er.length a.ce, .slice a.d p.dr.length a.cd, .slice a.r p.rt.length a.cr]] W fun e w' => e = .returned (.int .i64 12) ∧ Below W.heap.size W w' from by
            have h := HNp.out W h
            rw [h12] at h
            exact h))
          have HBr := Lib.hid (HB7.out.trans (HBj.out.mono HB7.out.size))
          obtain ⟨bN, oN, x2, hNe, n0, hx2⟩ := SU.get ((HPB.out.below HBr.out).pt.n) (k := 0) (by rw [hnd]; exact Nat.zero_lt_one)
          obtain rfl : x = x2 := by have h := hx2.out; rw [hnd] at h; exact Option.some.inj h
          have hnl : p.needs.length = 1 := by rw [hnd]; rfl
          have Hnl := Lib.hid hnl
          have HNe := Lib.hid hNe
          have hbN := World.block_lt_of_cell? _ _ n0
          have hbU := World.block_lt_of_cell? _ _ u0
          have Hn0 := Lib.hid n0
          have Hu0 := Lib.hid u0
          have Hu1 := Lib.hid u1
          clear hnd h12 n0 hx2 hnl hNe u0 u1
          have c0 : wr.cell? ⟨bX, oX + k * 9, none⟩ = some (.int .i64 p.office) := (HBr.out.cell (p := ⟨bX, oX + k * 9, none⟩) hbl).trans (Hq.out 0 _ rfl)
          have c1 : wr.cell? ⟨bX, oX + k * 9 + 1, none⟩ = some (.int .i64 p.num) := (HBr.out.cell (p := ⟨bX, oX + k * 9 + 1, none⟩) hbl).trans (Hq.out 1 _ rfl)
          have c2 : wr.cell? ⟨bX, oX + k * 9 + 2, none⟩ = some (.slice a.n p.needs.length a.cn) := (HBr.out.cell (p := ⟨bX, oX + k * 9 + 2, none⟩) hbl).trans (Hq.out 2 _ rfl)
          have c3 : wr.cell? ⟨bX, oX + k * 9 + 3, none⟩ = some (.slice a.s p.st.length a.cs) := (HBr.out.cell (p := ⟨bX, oX + k * 9 + 3, none⟩) hbl).trans (Hq.out 3 _ rfl)
          have c4 : wr.cell? ⟨bX, oX + k * 9 + 4, none⟩ = some (.slice a.l p.pl.length a.cl) := (HBr.out.cell (p := ⟨bX, oX + k * 9 + 4, none⟩) hbl).trans (Hq.out 4 _ rfl)
          have c5 : wr.cell? ⟨bX, oX + k * 9 + 5, none⟩ = some (.slice a.m p.ma.length a.cm) := (HBr.out.cell (p := ⟨bX, oX + k * 9 + 5, none⟩) hbl).trans (Hq.out 5 _ rfl)
          have c6 : wr.cell? ⟨bX, oX + k * 9 + 6, none⟩ = some (.slice a.e p.er.length a.ce) := (HBr.out.cell (p := ⟨bX, oX + k * 9 + 6, none⟩) hbl).trans (Hq.out 6 _ rfl)
          have c7 : wr.cell? ⟨bX, oX + k * 9 + 7, none⟩ = some (.slice a.d p.dr.length a.cd) := (HBr.out.cell (p := ⟨bX, oX + k * 9 + 7, none⟩) hbl).trans (Hq.out 7 _ rfl)
          have c8 : wr.cell? ⟨bX, oX + k * 9 + 8, none⟩ = some (.slice a.r p.rt.length a.cr) := (HBr.out.cell (p := ⟨bX, oX + k * 9 + 8, none⟩) hbl).trans (Hq.out 8 _ rfl)
          go_upto_region 12 with fail
          clear c0 c1 c2 c3 c4 c5 c6 c7 c8
          have HP := Lib.hid (Bk.new wr 34 #[.int .i64 p.office, .int .i64 p.num, .slice a.n p.needs.length a.cn, .slice a.s p.st.length a.cs, .slice a.l p.pl.length a.cl, .slice a.m p.ma.length a.cm, .slice a.e p.er.length a.ce, .slice a.d p.dr.length a.cd, .slice a.r p.rt.length a.cr])
          have HBA := Lib.hid (HBj.out.alloc HBj.out.size (.cells #[.int .i64 p.office, .int .i64 p.num, .slice a.n p.needs.length a.cn, .slice a.s p.st.length a.cs, .slice a.l p.pl.length a.cl, .slice a.m p.ma.length a.cm, .slice a.e p.er.length a.ce, .slice a.d p.dr.length a.cd, .slice a.r p.rt.length a.cr] 34))
          have HZ := Lib.hid ((Below.refl wr.heap.size wr).alloc (Nat.le_refl _) (.cells #[.int .i64 p.office, .int .i64 p.num, .slice a.n p.needs.length a.cn, .slice a.s p.st.length a.cs, .slice a.l p.pl.length a.cl, .slice a.m p.ma.length a.cm, .slice a.e p.er.length a.ce, .slice a.d p.dr.length a.cd, .slice a.r p.rt.length a.cr] 34))
          have hPz : w7.heap.size ≤ wr.heap.size := HBj.out.size
          have HPw := Lib.hid (Nat.le_refl wr.heap.size)
          generalize wr.alloc (.cells #[.int .i64 p.office, .int .i64 p.num, .slice a.n p.needs.length a.cn, .slice a.s p.st.length a.cs, .slice a.l p.pl.length a.cl, .slice a.m p.ma.length a.cm, .slice a.e p.er.length a.ce, .slice a.d p.dr.length a.cd, .slice a.r p.rt.length a.cr] 34) = W5 at *
          obtain ⟨P, hP⟩ : ∃ z, Hid (wr.heap.size = z) := ⟨_, Lib.hid rfl⟩
          rw [hP.out] at HP HZ HPw hPz
          simp only [hP.out]
          have d2 : W5.cell? ⟨P, 2, none⟩ = some (.slice a.n p.needs.length a.cn) := HP.out.cell 2
          have d2f := HP.out.frozen 2
          have HP2 := Lib.hid (show Bk (W5.setCell ⟨P, 2, none⟩ (.slice none 0 0)) P 34 #[.int .i64 p.office, .int .i64 p.num, .slice none 0 0, .slice a.s p.st.length a.cs, .slice a.l p.pl.length a.cl, .slice a.m p.ma.length a.cm, .slice a.e p.er.length a.ce, .slice a.d p.dr.length a.cd, .slice a.r p.rt.length a.cr] from HP.out.set_ 2 _)
          have HB2 := Lib.hid (HBA.out.setCell (p := ⟨P, 2, none⟩) hPz (.slice none 0 0))
          have HZ2 := Lib.hid (HZ.out.setCell (p := ⟨P, 2, none⟩) HPw.out (.slice none 0 0))
          clear HP HBA HZ HPw HBr
          go_upto_region 13 with fail
          generalize W5.setCell ⟨P, 2, none⟩ (.slice none 0 0) = W6 at *
          clear d2 d2f
          have HBf := HBj
          have hkz : ((k : Int)) = (k : Int) := rfl
          clear HBj hkz
          obtain ⟨wq, hwq⟩ : ∃ z, Hid (wr = z) := ⟨_, Lib.hid rfl⟩
          rw [hwq.out] at HBf HZ2 hP Hn0 Hu0 Hu1 hbN hbU
          clear hwq
          clear wr
          go_wp2_with fail
          go_loopw [9, 10] (fun bv v wr => ((bv = .bool false ∧ v = .int .i64 0) ∨ (bv = .bool true ∧ v = .int .i64 1)) ∧ Hid (Below wq.heap.size wq wr) ∧ Hid (Bk wr P 34 #[.int .i64 p.office, .int .i64 p.num, .slice none 0 0, .slice a.s p.st.length a.cs, .slice a.l p.pl.length a.cl, .slice a.m p.ma.length a.cm, .slice a.e p.er.length a.ce, .slice a.d p.dr.length a.cd, .slice a.r p.rt.length a.cr])) (fun _ v _ => 1 - (intOf v).toNat)
          case atStart => exact ⟨.inl ⟨rfl, rfl⟩, Lib.hid (hP.out.symm ▸ HZ2.out), HP2⟩
          case round =>
            clear HP2 HB2 HZ2
            obtain ⟨hbv, HBt, HPt⟩ := hrel
            have HBw := Lib.hid (HBf.out.trans (HBt.out.mono HBf.out.size))
            have HBr := Lib.hid (HB7.out.trans (HBw.out.mono HB7.out.size))
            have c2 : wr.cell? ⟨bX, oX + k * 9 + 2, none⟩ = some (.slice (some ⟨bN, oN, none⟩) 1 a.cn) := by rw [← HNe.out, ← Hnl.out]; exact (HBr.out.cell (p := ⟨bX, oX + k * 9 + 2, none⟩) hbl).trans (Hq.out 2 _ rfl)
            rcases hbv with ⟨rfl, rfl⟩ | ⟨rfl, rfl⟩
            · have n0 : wr.cell? ⟨bN, oN, none⟩ = some (.int .u64 x) := (HBt.out.cell (p := ⟨bN, oN, none⟩) hbN).trans Hn0.out
              have u0 : wr.cell? ⟨bU, oU + j * 2, none⟩ = some (.int .u64 x) := (HBt.out.cell (p := ⟨bU, oU + j * 2, none⟩) hbU).trans Hu0.out
              have hmj : ¬ (m ≤ j) := by omega
              go_upto_region 17 with fail
              have k2 : wr.drew.cell? ⟨bX, oX + k * 9 + 2, none⟩ = some (.slice (some ⟨bN, oN, none⟩) 1 a.cn) := c2
              have m0 : wr.drew.cell? ⟨bN, oN, none⟩ = some (.int .u64 x) := n0
              have v0 : wr.drew.cell? ⟨bU, oU + j * 2, none⟩ = some (.int .u64 x) := u0
              have HBd := Lib.hid HBt.out.drew
              have HPd := Lib.hid (HPt.out.below (Below.refl _ _).drew HPt.out.lt)
              clear c2 n0 u0 HBt HPt HBw HBr
              refine wp_region_noPanic ?_
              refine region_H (S := fun W => W.cell? ⟨bX, oX + k * 9 + 2, none⟩ = some (.slice (some ⟨bN, oN, none⟩) 1 a.cn) ∧ W.cell? ⟨bN, oN, none⟩ = some (.int .u64 x) ∧ W.cell? ⟨bU, oU + j * 2, none⟩ = some (.int .u64 x)) (by kernel_rfl) ?_
              change wpH _ _ _ _ 14 _ _ wr.drew
              refine H_takeD (k := 0) (v := .slice (some ⟨bX, oX, none⟩) n cX) (d := some 50) rfl rfl (by decide +kernel) (fun _ _ _ h => h) (Or.inl ⟨by rfl, fun W hW => by obtain ⟨s0, s1, s2⟩ := hW; go_simp⟩) ⟨k2, m0, v0⟩ ?_
              try simp only [Act.put, List.setIfInBounds_toArray, List.set_cons_zero, List.set_cons_succ]
              refine H_takeD (k := 1) (v := .int .i64 (k : Int)) (d := some 51) rfl rfl (by decide +kernel) (fun _ _ _ h => h) (Or.inl ⟨by rfl, fun W hW => by obtain ⟨s0, s1, s2⟩ := hW; go_simp⟩) ⟨k2, m0, v0⟩ ?_
              try simp only [Act.put, List.setIfInBounds_toArray, List.set_cons_zero, List.set_cons_succ]
              refine H_takeD (k := 2) (v := .pointer (some ⟨bX, oX + k * 9, none⟩)) (d := some 52) rfl rfl (by decide +kernel) (fun _ _ _ h => h) (Or.inl ⟨by rfl, fun W hW => by obtain ⟨s0, s1, s2⟩ := hW; go_simp⟩) ⟨k2, m0, v0⟩ ?_
              try simp only [Act.put, List.setIfInBounds_toArray, List.set_cons_zero, List.set_cons_succ]
              refine H_takeD (k := 3) (v := .pointer (some ⟨bX, oX + k * 9 + 2, none⟩)) (d := some 53) rfl rfl (by decide +kernel) (fun _ _ _ h => h) (Or.inl ⟨by rfl, fun W hW => by obtain ⟨s0, s1, s2⟩ := hW; go_simp⟩) ⟨k2, m0, v0⟩ ?_
              try simp only [Act.put, List.setIfInBounds_toArray, List.set_cons_zero, List.set_cons_succ]
              refine H_takeD (k := 4) (v := .slice (some ⟨bN, oN, none⟩) 1 a.cn) (d := some 54) rfl rfl (by decide +kernel) (fun _ _ _ h => h) (Or.inl ⟨by rfl, fun W hW => by obtain ⟨s0, s1, s2⟩ := hW; go_simp⟩) ⟨k2, m0, v0⟩ ?_
              try simp only [Act.put, List.setIfInBounds_toArray, List.set_cons_zero, List.set_cons_succ]
              refine H_takeD (k := 5) (v := .int .i64 0) (d := some 55) rfl rfl (by decide +kernel) (fun _ _ _ h => h) (Or.inl ⟨by rfl, fun W hW => by obtain ⟨s0, s1, s2⟩ := hW; go_simp⟩) ⟨k2, m0, v0⟩ ?_
              try simp only [Act.put, List.setIfInBounds_toArray, List.set_cons_zero, List.set_cons_succ]
              refine H_takeD (k := 6) (v := .pointer (some ⟨bN, oN, none⟩)) (d := some 56) rfl rfl (by decide +kernel) (fun _ _ _ h => h) (Or.inl ⟨by rfl, fun W hW => by obtain ⟨s0, s1, s2⟩ := hW; go_simp⟩) ⟨k2, m0, v0⟩ ?_
              try simp only [Act.put, List.setIfInBounds_toArray, List.set_cons_zero, List.set_cons_succ]
              refine H_takeD (k := 7) (v := .int .u64 x) (d := some 57) rfl rfl (by decide +kernel) (fun _ _ _ h => h) (Or.inl ⟨by rfl, fun W hW => by obtain ⟨s0, s1, s2⟩ := hW; go_simp⟩) ⟨k2, m0, v0⟩ ?_
              try simp only [Act.put, List.setIfInBounds_toArray, List.set_cons_zero, List.set_cons_succ]
              refine H_takeD (k := 8) (v := .slice (some ⟨bU, oU, none⟩) m c1) (d := some 58) rfl rfl (by decide +kernel) (fun _ _ _ h => h) (Or.inl ⟨by rfl, fun W hW => by obtain ⟨s0, s1, s2⟩ := hW; go_simp⟩) ⟨k2, m0, v0⟩ ?_
              try simp only [Act.put, List.setIfInBounds_toArray, List.set_cons_zero, List.set_cons_succ]
              refine H_takeD (k := 9) (v := .int .i64 (j : Int)) (d := some 59) rfl rfl (by decide +kernel) (fun _ _ _ h => h) (Or.inl ⟨by rfl, fun W hW => by obtain ⟨s0, s1, s2⟩ := hW; go_simp⟩) ⟨k2, m0, v0⟩ ?_
              try simp only [Act.put, List.setIfInBounds_toArray, List.set_cons_zero, List.set_cons_succ]
              refine H_takeD (k := 10) (v := .pointer (some ⟨bU, oU + j * 2, none⟩)) (d := some 60) rfl rfl (by decide +kernel) (fun _ _ _ h => h) (Or.inl ⟨by rfl, fun W hW => by obtain ⟨s0, s1, s2⟩ := hW; go_simp⟩) ⟨k2, m0, v0⟩ ?_
              try simp only [Act.put, List.setIfInBounds_toArray, List.set_cons_zero, List.set_cons_succ]
              refine H_takeD (k := 11) (v := .pointer (some ⟨bU, oU + j * 2, none⟩)) (d := some 61) rfl rfl (by decide +kernel) (fun _ _ _ h => h) (Or.inl ⟨by rfl, fun W hW => by obtain ⟨s0, s1, s2⟩ := hW; go_simp⟩) ⟨k2, m0, v0⟩ ?_
              try simp only [Act.put, List.setIfInBounds_toArray, List.set_cons_zero, List.set_cons_succ]
              refine H_takeD (k := 12) (v := .int .u64 x) (d := some 62) rfl rfl (by decide +kernel) (fun _ _ _ h => h) (Or.inl ⟨by rfl, fun W hW => by obtain ⟨s0, s1, s2⟩ := hW; go_simp⟩) ⟨k2, m0, v0⟩ ?_
              try simp only [Act.put, List.setIfInBounds_toArray, List.set_cons_zero, List.set_cons_succ]
              refine H_takeD (k := 13) (v := .bool true) (d := some 63) rfl rfl (by decide +kernel) (fun _ _ _ h => h) (Or.inl ⟨by rfl, fun W hW => by obtain ⟨s0, s1, s2⟩ := hW; go_simp⟩) ⟨k2, m0, v0⟩ ?_
              try simp only [Act.put, List.setIfInBounds_toArray, List.set_cons_zero, List.set_cons_succ]
              refine H_end (by decide +kernel) (NoPanic.normal ?_)
              try simp only [Act.put, List.setIfInBounds_toArray, List.set_cons_zero, List.set_cons_succ]
              go_wp2_with fail
              go_roundw
              case rel => exact ⟨.inr ⟨rfl, rfl⟩, HBd, HPd⟩
              case measure => simp [intOf]
            · go_upto_region 20 with fail
              have HBd := Lib.hid HBr.out.drew
              have HPd := Lib.hid (HPt.out.below (Below.refl _ _).drew HPt.out.lt)
              have HBe := Lib.hid HBw.out.drew
              have hbtd := Lib.hid HBt.out.drew
              clear c2 HBt HPt HBw HBr
              by_cases hj0 : j = 0
              · subst hj0
                refine wp_region_noPanic ?_
                refine region_H (S := fun W => W.cell? ⟨P, 0, none⟩ = some (.int .i64 p.office) ∧ W.cell? ⟨P, 1, none⟩ = some (.int .i64 p.num) ∧ W.cell? ⟨P, 2, none⟩ = some (.slice none 0 0) ∧ W.cell? ⟨P, 3, none⟩ = some (.slice a.s p.st.length a.cs) ∧ W.cell? ⟨P, 4, none⟩ = some (.slice a.l p.pl.length a.cl) ∧ W.cell? ⟨P, 5, none⟩ = some (.slice a.m p.ma.length a.cm) ∧ W.cell? ⟨P, 6, none⟩ = some (.slice a.e p.er.length a.ce) ∧ W.cell? ⟨P, 7, none⟩ = some (.slice a.d p.dr.length a.cd) ∧ W.cell? ⟨P, 8, none⟩ = some (.slice a.r p.rt.length a.cr)) (by kernel_rfl) ?_
                change wpH _ _ _ _ 24 _ _ wr.drew
                refine H_takeD (k := 0) (v := .bool true) (d := some 77) rfl rfl (by decide +kernel) (fun _ _ _ h => h) (Or.inl ⟨by rfl, fun W hW => by obtain ⟨s0, s1, s2, s3, s4, s5, s6, s7, s8⟩ := hW; go_simp⟩) ⟨HPd.out.cell 0, HPd.out.cell 1, HPd.out.cell 2, HPd.out.cell 3, HPd.out.cell 4, HPd.out.cell 5, HPd.out.cell 6, HPd.out.cell 7, HPd.out.cell 8⟩ ?_
                try simp only [Act.put, List.setIfInBounds_toArray, List.set_cons_zero, List.set_cons_succ]
                refine H_takeD (k := 1) (v := .bool false) (d := some 78) rfl rfl (by decide +kernel) (fun _ _ _ h => h) (Or.inl ⟨by rfl, fun W hW => by obtain ⟨s0, s1, s2, s3, s4, s5, s6, s7, s8⟩ := hW; go_simp⟩) ⟨HPd.out.cell 0, HPd.out.cell 1, HPd.out.cell 2, HPd.out.cell 3, HPd.out.cell 4, HPd.out.cell 5, HPd.out.cell 6, HPd.out.cell 7, HPd.out.cell 8⟩ ?_
                try simp only [Act.put, List.setIfInBounds_toArray, List.set_cons_zero, List.set_cons_succ]
                refine H_takeD (k := 2) (v := .bool false) (d := some 79) rfl rfl (by decide +kernel) (fun _ _ _ h => h) (Or.inl ⟨by rfl, fun W hW => by obtain ⟨s0, s1, s2, s3, s4, s5, s6, s7, s8⟩ := hW; go_simp⟩) ⟨HPd.out.cell 0, HPd.out.cell 1, HPd.out.cell 2, HPd.out.cell 3, HPd.out.cell 4, HPd.out.cell 5, HPd.out.cell 6, HPd.out.cell 7, HPd.out.cell 8⟩ ?_
                try simp only [Act.put, List.setIfInBounds_toArray, List.set_cons_zero, List.set_cons_succ]
                refine H_takeD (k := 3) (v := .agg #[.int .i64 p.office, .int .i64 p.num, .slice none 0 0, .slice a.s p.st.length a.cs, .slice a.l p.pl.length a.cl, .slice a.m p.ma.length a.cm, .slice a.e p.er.length a.ce, .slice a.d p.dr.length a.cd, .slice a.r p.rt.length a.cr]) (d := some 80) rfl rfl (by decide +kernel) (fun _ _ _ h => h) (Or.inl ⟨by simp [Region.wanted, yielded], fun W hW => by obtain ⟨s0, s1, s2, s3, s4, s5, s6, s7, s8⟩ := hW; go_simp⟩) ⟨HPd.out.cell 0, HPd.out.cell 1, HPd.out.cell 2, HPd.out.cell 3, HPd.out.cell 4, HPd.out.cell 5, HPd.out.cell 6, HPd.out.cell 7, HPd.out.cell 8⟩ ?_
                try simp only [Act.put, List.setIfInBounds_toArray, List.set_cons_zero, List.set_cons_succ]
                refine H_one (i := 4) (by decide +kernel) (H_stepg rfl (by simp [Region.wanted, yielded]) (fun K hK4 => ?_))
                have hK4 := Lib.hid hK4
                go_simp
                go_at_call 11
                refine (HV.out _ HBd.out).mono ?_
                rintro e wv ⟨rfl, hv_⟩
                have HPv := Lib.hid (HPd.out.below hv_ HPd.out.lt)
                have HBv := Lib.hid (HBe.out.trans (hv_.mono HBe.out.size))
                clear hv_ HPd HBd HBe
                refine hK4.out _ _ ⟨HPv.out.cell 0, HPv.out.cell 1, HPv.out.cell 2, HPv.out.cell 3, HPv.out.cell 4, HPv.out.cell 5, HPv.out.cell 6, HPv.out.cell 7, HPv.out.cell 8⟩ ?_
                try simp only [Act.put, List.setIfInBounds_toArray, List.set_cons_zero, List.set_cons_succ]
                refine H_takeD (k := 5) (v := .bool false) (d := some 82) rfl rfl (by decide +kernel) (fun _ _ _ h => h) (Or.inl ⟨by simp [Region.wanted, yielded], fun W hW => by obtain ⟨s0, s1, s2, s3, s4, s5, s6, s7, s8⟩ := hW; go_simp⟩) ⟨HPv.out.cell 0, HPv.out.cell 1, HPv.out.cell 2, HPv.out.cell 3, HPv.out.cell 4, HPv.out.cell 5, HPv.out.cell 6, HPv.out.cell 7, HPv.out.cell 8⟩ ?_
                try simp only [Act.put, List.setIfInBounds_toArray, List.set_cons_zero, List.set_cons_succ]
                refine H_takeD (k := 6) (v := .bool false) (d := some 83) rfl rfl (by decide +kernel) (fun _ _ _ h => h) (Or.inl ⟨by rfl, fun W hW => by obtain ⟨s0, s1, s2, s3, s4, s5, s6, s7, s8⟩ := hW; go_simp⟩) ⟨HPv.out.cell 0, HPv.out.cell 1, HPv.out.cell 2, HPv.out.cell 3, HPv.out.cell 4, HPv.out.cell 5, HPv.out.cell 6, HPv.out.cell 7, HPv.out.cell 8⟩ ?_
                try simp only [Act.put, List.setIfInBounds_toArray, List.set_cons_zero, List.set_cons_succ]
                refine H_takeD (k := 7) (v := .bool false) (d := some 84) rfl rfl (by decide +kernel) (fun _ _ _ h => h) (Or.inl ⟨by rfl, fun W hW => by obtain ⟨s0, s1, s2, s3, s4, s5, s6, s7, s8⟩ := hW; go_simp⟩) ⟨HPv.out.cell 0, HPv.out.cell 1, HPv.out.cell 2, HPv.out.cell 3, HPv.out.cell 4, HPv.out.cell 5, HPv.out.cell 6, HPv.out.cell 7, HPv.out.cell 8⟩ ?_
                try simp only [Act.put, List.setIfInBounds_toArray, List.set_cons_zero, List.set_cons_succ]
                refine H_takeD (k := 8) (v := .int .i64 0) (d := some 85) rfl rfl (by decide +kernel) (fun _ _ _ h => h) (Or.inl ⟨by simp [Region.wanted, yielded], fun W hW => by obtain ⟨s0, s1, s2, s3, s4, s5, s6, s7, s8⟩ := hW; go_simp⟩) ⟨HPv.out.cell 0, HPv.out.cell 1, HPv.out.cell 2, HPv.out.cell 3, HPv.out.cell 4, HPv.out.cell 5, HPv.out.cell 6, HPv.out.cell 7, HPv.out.cell 8⟩ ?_
                try simp only [Act.put, List.setIfInBounds_toArray, List.set_cons_zero, List.set_cons_succ]
                refine H_takeD (k := 9) (v := .bool false) (d := some 86) rfl rfl (by decide +kernel) (fun _ _ _ h => h) (Or.inl ⟨by simp [Region.wanted, yielded], fun W hW => by obtain ⟨s0, s1, s2, s3, s4, s5, s6, s7, s8⟩ := hW; go_simp⟩) ⟨HPv.out.cell 0, HPv.out.cell 1, HPv.out.cell 2, HPv.out.cell 3, HPv.out.cell 4, HPv.out.cell 5, HPv.out.cell 6, HPv.out.cell 7, HPv.out.cell 8⟩ ?_
                try simp only [Act.put, List.setIfInBounds_toArray, List.set_cons_zero, List.set_cons_succ]
                refine H_takeD (k := 10) (v := .bool false) (d := some 87) rfl rfl (by decide +kernel) (fun _ _ _ h => h) (Or.inl ⟨by simp [Region.wanted, yielded], fun W hW => by obtain ⟨s0, s1, s2, s3, s4, s5, s6, s7, s8⟩ := hW; go_simp⟩) ⟨HPv.out.cell 0, HPv.out.cell 1, HPv.out.cell 2, HPv.out.cell 3, HPv.out.cell 4, HPv.out.cell 5, HPv.out.cell 6, HPv.out.cell 7, HPv.out.cell 8⟩ ?_
                try simp only [Act.put, List.setIfInBounds_toArray, List.set_cons_zero, List.set_cons_succ]
                refine H_takeD (k := 11) (v := undef) (d := some 88) rfl rfl (by decide +kernel) (fun _ _ _ h => h) (Or.inr ⟨by simp [Region.wanted, yielded, undef], rfl⟩) ⟨HPv.out.cell 0, HPv.out.cell 1, HPv.out.cell 2, HPv.out.cell 3, HPv.out.cell 4, HPv.out.cell 5, HPv.out.cell 6, HPv.out.cell 7, HPv.out.cell 8⟩ ?_
                try simp only [Act.put, List.setIfInBounds_toArray, List.set_cons_zero, List.set_cons_succ]
                refine H_takeD (k := 12) (v := undef) (d := some 89) rfl rfl (by decide +kernel) (fun _ _ _ h => h) (Or.inr ⟨by simp [Region.wanted, yielded, undef], rfl⟩) ⟨HPv.out.cell 0, HPv.out.cell 1, HPv.out.cell 2, HPv.out.cell 3, HPv.out.cell 4, HPv.out.cell 5, HPv.out.cell 6, HPv.out.cell 7, HPv.out.cell 8⟩ ?_
                try simp only [Act.put, List.setIfInBounds_toArray, List.set_cons_zero, List.set_cons_succ]
                refine H_takeD (k := 13) (v := undef) (d := some 90) rfl rfl (by decide +kernel) (fun _ _ _ h => h) (Or.inr ⟨by simp [Region.wanted, yielded, undef], rfl⟩) ⟨HPv.out.cell 0, HPv.out.cell 1, HPv.out.cell 2, HPv.out.cell 3, HPv.out.cell 4, HPv.out.cell 5, HPv.out.cell 6, HPv.out.cell 7, HPv.out.cell 8⟩ ?_
                try simp only [Act.put, List.setIfInBounds_toArray, List.set_cons_zero, List.set_cons_succ]
                refine H_takeD (k := 14) (v := undef) (d := some 91) rfl rfl (by decide +kernel) (fun _ _ _ h => h) (Or.inr ⟨by simp [Region.wanted, yielded, undef], rfl⟩) ⟨HPv.out.cell 0, HPv.out.cell 1, HPv.out.cell 2, HPv.out.cell 3, HPv.out.cell 4, HPv.out.cell 5, HPv.out.cell 6, HPv.out.cell 7, HPv.out.cell 8⟩ ?_
                try simp only [Act.put, List.setIfInBounds_toArray, List.set_cons_zero, List.set_cons_succ]
                refine H_takeD (k := 15) (v := undef) (d := some 92) rfl rfl (by decide +kernel) (fun _ _ _ h => h) (Or.inr ⟨by simp [Region.wanted, yielded, undef], rfl⟩) ⟨HPv.out.cell 0, HPv.out.cell 1, HPv.out.cell 2, HPv.out.cell 3, HPv.out.cell 4, HPv.out.cell 5, HPv.out.cell 6, HPv.out.cell 7, HPv.out.cell 8⟩ ?_
                try simp only [Act.put, List.setIfInBounds_toArray, List.set_cons_zero, List.set_cons_succ]
                refine H_takeD (k := 16) (v := undef) (d := some 93) rfl rfl (by decide +kernel) (fun _ _ _ h => h) (Or.inr ⟨by simp [Region.wanted, yielded, undef], rfl⟩) ⟨HPv.out.cell 0, HPv.out.cell 1, HPv.out.cell 2, HPv.out.cell 3, HPv.out.cell 4, HPv.out.cell 5, HPv.out.cell 6, HPv.out.cell 7, HPv.out.cell 8⟩ ?_
                try simp only [Act.put, List.setIfInBounds_toArray, List.set_cons_zero, List.set_cons_succ]
                refine H_takeD (k := 17) (v := undef) (d := some 94) rfl rfl (by decide +kernel) (fun _ _ _ h => h) (Or.inr ⟨by simp [Region.wanted, yielded, undef], rfl⟩) ⟨HPv.out.cell 0, HPv.out.cell 1, HPv.out.cell 2, HPv.out.cell 3, HPv.out.cell 4, HPv.out.cell 5, HPv.out.cell 6, HPv.out.cell 7, HPv.out.cell 8⟩ ?_
                try simp only [Act.put, List.setIfInBounds_toArray, List.set_cons_zero, List.set_cons_succ]
                refine H_takeD (k := 18) (v := undef) (d := some 95) rfl rfl (by decide +kernel) (fun _ _ _ h => h) (Or.inr ⟨by simp [Region.wanted, yielded, undef], rfl⟩) ⟨HPv.out.cell 0, HPv.out.cell 1, HPv.out.cell 2, HPv.out.cell 3, HPv.out.cell 4, HPv.out.cell 5, HPv.out.cell 6, HPv.out.cell 7, HPv.out.cell 8⟩ ?_
                try simp only [Act.put, List.setIfInBounds_toArray, List.set_cons_zero, List.set_cons_succ]
                refine H_takeD (k := 19) (v := undef) (d := some 96) rfl rfl (by decide +kernel) (fun _ _ _ h => h) (Or.inr ⟨by simp [Region.wanted, yielded, undef], rfl⟩) ⟨HPv.out.cell 0, HPv.out.cell 1, HPv.out.cell 2, HPv.out.cell 3, HPv.out.cell 4, HPv.out.cell 5, HPv.out.cell 6, HPv.out.cell 7, HPv.out.cell 8⟩ ?_
                try simp only [Act.put, List.setIfInBounds_toArray, List.set_cons_zero, List.set_cons_succ]
                refine H_takeD (k := 20) (v := undef) (d := some 97) rfl rfl (by decide +kernel) (fun _ _ _ h => h) (Or.inr ⟨by simp [Region.wanted, yielded, undef], rfl⟩) ⟨HPv.out.cell 0, HPv.out.cell 1, HPv.out.cell 2, HPv.out.cell 3, HPv.out.cell 4, HPv.out.cell 5, HPv.out.cell 6, HPv.out.cell 7, HPv.out.cell 8⟩ ?_
                try simp only [Act.put, List.setIfInBounds_toArray, List.set_cons_zero, List.set_cons_succ]
                refine H_takeD (k := 21) (v := undef) (d := some 98) rfl rfl (by decide +kernel) (fun _ _ _ h => h) (Or.inr ⟨by simp [Region.wanted, yielded, undef], rfl⟩) ⟨HPv.out.cell 0, HPv.out.cell 1, HPv.out.cell 2, HPv.out.cell 3, HPv.out.cell 4, HPv.out.cell 5, HPv.out.cell 6, HPv.out.cell 7, HPv.out.cell 8⟩ ?_
                try simp only [Act.put, List.setIfInBounds_toArray, List.set_cons_zero, List.set_cons_succ]
                refine H_takeD (k := 22) (v := .bool false) (d := some 99) rfl rfl (by decide +kernel) (fun _ _ _ h => h) (Or.inl ⟨by simp [Region.wanted, yielded], fun W hW => by obtain ⟨s0, s1, s2, s3, s4, s5, s6, s7, s8⟩ := hW; go_simp⟩) ⟨HPv.out.cell 0, HPv.out.cell 1, HPv.out.cell 2, HPv.out.cell 3, HPv.out.cell 4, HPv.out.cell 5, HPv.out.cell 6, HPv.out.cell 7, HPv.out.cell 8⟩ ?_
                try simp only [Act.put, List.setIfInBounds_toArray, List.set_cons_zero, List.set_cons_succ]
                refine H_takeD (k := 23) (v := .bool false) (d := some 100) rfl rfl (by decide +kernel) (fun _ _ _ h => h) (Or.inl ⟨by rfl, fun W hW => by obtain ⟨s0, s1, s2, s3, s4, s5, s6, s7, s8⟩ := hW; go_simp⟩) ⟨HPv.out.cell 0, HPv.out.cell 1, HPv.out.cell 2, HPv.out.cell 3, HPv.out.cell 4, HPv.out.cell 5, HPv.out.cell 6, HPv.out.cell 7, HPv.out.cell 8⟩ ?_
                try simp only [Act.put, List.setIfInBounds_toArray, List.set_cons_zero, List.set_cons_succ]
                refine H_end (by decide +kernel) (NoPanic.normal ?_)
                try simp only [Act.put, List.setIfInBounds_toArray, List.set_cons_zero, List.set_cons_succ]
                go_wp2_with fail
                go_roundw
                case rel => exact ⟨1, by omega, by go_num, HBv⟩
                case measure => simp [intOf]; omega
              · obtain ⟨jm, hjm_⟩ : ∃ z, Hid (j = z + 1) := ⟨j - 1, Lib.hid (by omega)⟩
                have hj0b : decide ((0 : Int) < (j : Int)) = true := decide_eq_true (by omega)
                have hjl : jm < m := by have := hjm_.out; omega
                have hmj : ¬ (m ≤ j) := by omega
                have hmj2 : ¬ (m ≤ jm) := by omega
                have jm0 : (0 : Int) ≤ (jm : Int) := by omega
                have hw : IntKind.i64.wrap ((j : Int) - 1) = (jm : Int) := by have := hjm_.out; rw [IntWalk.i64_in _ (by omega)]; omega
                obtain ⟨b2, o2, px, py, he, e0, e1, hpx⟩ := SD.get (HUs.out.below HBf.out) (k := jm) (by rw [hm.out]; exact hjl)
                injection he with he
                injection he with he1 he2
                subst he1 he2
                have hls : lessI (px, py) (x, y) = true := by
                  have h := List.pairwise_iff_getElem.1 HSo.out jm j (by rw [hm.out]; exact hjl) (by rw [hm.out]; exact hjm) (by have := hjm_.out; omega)
                  obtain ⟨_, g1⟩ := List.getElem?_eq_some_iff.1 hpx.out
                  obtain ⟨_, g2⟩ := List.getElem?_eq_some_iff.1 hui.out
                  rw [g1, g2] at h
                  exact h
                have HLs := Lib.hid (fun W => hls ▸ refLess_any px py x y W)
                have HE0 := Lib.hid (show ∀ W, Below wq.heap.size wq W → W.cell? ⟨bU, oU + jm * 2, none⟩ = some (.int .u64 px) ∧ W.cell? ⟨bU, oU + jm * 2 + 1, none⟩ = some (.int .i64 py) ∧ W.cell? ⟨bU, oU + j * 2, none⟩ = some (.int .u64 x) ∧ W.cell? ⟨bU, oU + j * 2 + 1, none⟩ = some (.int .i64 y) from fun W h => ⟨(h.cell (p := ⟨bU, oU + jm * 2, none⟩) hbU).trans e0, (h.cell (p := ⟨bU, oU + jm * 2 + 1, none⟩) hbU).trans e1, (h.cell (p := ⟨bU, oU + j * 2, none⟩) hbU).trans Hu0.out, (h.cell (p := ⟨bU, oU + j * 2 + 1, none⟩) hbU).trans Hu1.out⟩)
                clear e0 e1 hpx hls hj0
                have hjp2 : 0 < j := by have := hjm_.out; omega
                clear hjm_
                refine wp_region_noPanic ?_
                refine region_H (S := fun W => W.cell? ⟨P, 0, none⟩ = some (.int .i64 p.office) ∧ W.cell? ⟨P, 1, none⟩ = some (.int .i64 p.num) ∧ W.cell? ⟨P, 2, none⟩ = some (.slice none 0 0) ∧ W.cell? ⟨P, 3, none⟩ = some (.slice a.s p.st.length a.cs) ∧ W.cell? ⟨P, 4, none⟩ = some (.slice a.l p.pl.length a.cl) ∧ W.cell? ⟨P, 5, none⟩ = some (.slice a.m p.ma.length a.cm) ∧ W.cell? ⟨P, 6, none⟩ = some (.slice a.e p.er.length a.ce) ∧ W.cell? ⟨P, 7, none⟩ = some (.slice a.d p.dr.length a.cd) ∧ W.cell? ⟨P, 8, none⟩ = some (.slice a.r p.rt.length a.cr) ∧ W.cell? ⟨bU, oU + jm * 2, none⟩ = some (.int .u64 px) ∧ W.cell? ⟨bU, oU + jm * 2 + 1, none⟩ = some (.int .i64 py) ∧ W.cell? ⟨bU, oU + j * 2, none⟩ = some (.int .u64 x) ∧ W.cell? ⟨bU, oU + j * 2 + 1, none⟩ = some (.int .i64 y)) (by kernel_rfl) ?_
                change wpH _ _ _ _ 24 _ _ wr.drew
                refine H_takeD (k := 0) (v := .bool true) (d := some 77) rfl rfl (by decide +kernel) (fun _ _ _ h => h) (Or.inl ⟨by rfl, fun W hW => by obtain ⟨s0, s1, s2, s3, s4, s5, s6, s7, s8, s9, s10, s11, s12⟩ := hW; go_simp⟩) ⟨HPd.out.cell 0, HPd.out.cell 1, HPd.out.cell 2, HPd.out.cell 3, HPd.out.cell 4, HPd.out.cell 5, HPd.out.cell 6, HPd.out.cell 7, HPd.out.cell 8, HE0.out _ hbtd.out⟩ ?_
                try simp only [Act.put, List.setIfInBounds_toArray, List.set_cons_zero, List.set_cons_succ]
                refine H_takeD (k := 1) (v := .bool false) (d := some 78) rfl rfl (by decide +kernel) (fun _ _ _ h => h) (Or.inl ⟨by rfl, fun W hW => by obtain ⟨s0, s1, s2, s3, s4, s5, s6, s7, s8, s9, s10, s11, s12⟩ := hW; go_simp⟩) ⟨HPd.out.cell 0, HPd.out.cell 1, HPd.out.cell 2, HPd.out.cell 3, HPd.out.cell 4, HPd.out.cell 5, HPd.out.cell 6, HPd.out.cell 7, HPd.out.cell 8, HE0.out _ hbtd.out⟩ ?_
                try simp only [Act.put, List.setIfInBounds_toArray, List.set_cons_zero, List.set_cons_succ]
                refine H_takeD (k := 2) (v := .bool false) (d := some 79) rfl rfl (by decide +kernel) (fun _ _ _ h => h) (Or.inl ⟨by rfl, fun W hW => by obtain ⟨s0, s1, s2, s3, s4, s5, s6, s7, s8, s9, s10, s11, s12⟩ := hW; go_simp⟩) ⟨HPd.out.cell 0, HPd.out.cell 1, HPd.out.cell 2, HPd.out.cell 3, HPd.out.cell 4, HPd.out.cell 5, HPd.out.cell 6, HPd.out.cell 7, HPd.out.cell 8, HE0.out _ hbtd.out⟩ ?_
                try simp only [Act.put, List.setIfInBounds_toArray, List.set_cons_zero, List.set_cons_succ]
                refine H_takeD (k := 3) (v := .agg #[.int .i64 p.office, .int .i64 p.num, .slice none 0 0, .slice a.s p.st.length a.cs, .slice a.l p.pl.length a.cl, .slice a.m p.ma.length a.cm, .slice a.e p.er.length a.ce, .slice a.d p.dr.length a.cd, .slice a.r p.rt.length a.cr]) (d := some 80) rfl rfl (by decide +kernel) (fun _ _ _ h => h) (Or.inl ⟨by simp [Region.wanted, yielded], fun W hW => by obtain ⟨s0, s1, s2, s3, s4, s5, s6, s7, s8, s9, s10, s11, s12⟩ := hW; go_simp⟩) ⟨HPd.out.cell 0, HPd.out.cell 1, HPd.out.cell 2, HPd.out.cell 3, HPd.out.cell 4, HPd.out.cell 5, HPd.out.cell 6, HPd.out.cell 7, HPd.out.cell 8, HE0.out _ hbtd.out⟩ ?_
                try simp only [Act.put, List.setIfInBounds_toArray, List.set_cons_zero, List.set_cons_succ]
                refine H_one (i := 4) (by decide +kernel) (H_stepg rfl (by simp [Region.wanted, yielded]) (fun K hK4 => ?_))
                have hK4 := Lib.hid hK4
                go_simp
                go_at_call 11
                refine (HV.out _ HBd.out).mono ?_
                rintro e wv ⟨rfl, hv_⟩
                have HPv := Lib.hid (HPd.out.below hv_ HPd.out.lt)
                have HBv := Lib.hid (HBe.out.trans (hv_.mono HBe.out.size))
                have hbtv := Lib.hid (hbtd.out.trans (hv_.mono hbtd.out.size))
                clear hv_ HPd HBd HBe
                refine hK4.out _ _ ⟨HPv.out.cell 0, HPv.out.cell 1, HPv.out.cell 2, HPv.out.cell 3, HPv.out.cell 4, HPv.out.cell 5, HPv.out.cell 6, HPv.out.cell 7, HPv.out.cell 8, HE0.out _ hbtv.out⟩ ?_
                try simp only [Act.put, List.setIfInBounds_toArray, List.set_cons_zero, List.set_cons_succ]
                refine H_takeD (k := 5) (v := .bool false) (d := some 82) rfl rfl (by decide +kernel) (fun _ _ _ h => h) (Or.inl ⟨by simp [Region.wanted, yielded], fun W hW => by obtain ⟨s0, s1, s2, s3, s4, s5, s6, s7, s8, s9, s10, s11, s12⟩ := hW; go_simp⟩) ⟨HPv.out.cell 0, HPv.out.cell 1, HPv.out.cell 2, HPv.out.cell 3, HPv.out.cell 4, HPv.out.cell 5, HPv.out.cell 6, HPv.out.cell 7, HPv.out.cell 8, HE0.out _ hbtv.out⟩ ?_
                try simp only [Act.put, List.setIfInBounds_toArray, List.set_cons_zero, List.set_cons_succ]
                refine H_takeD (k := 6) (v := .bool false) (d := some 83) rfl rfl (by decide +kernel) (fun _ _ _ h => h) (Or.inl ⟨by rfl, fun W hW => by obtain ⟨s0, s1, s2, s3, s4, s5, s6, s7, s8, s9, s10, s11, s12⟩ := hW; go_simp⟩) ⟨HPv.out.cell 0, HPv.out.cell 1, HPv.out.cell 2, HPv.out.cell 3, HPv.out.cell 4, HPv.out.cell 5, HPv.out.cell 6, HPv.out.cell 7, HPv.out.cell 8, HE0.out _ hbtv.out⟩ ?_
                try simp only [Act.put, List.setIfInBounds_toArray, List.set_cons_zero, List.set_cons_succ]
                refine H_takeD (k := 7) (v := .bool false) (d := some 84) rfl rfl (by decide +kernel) (fun _ _ _ h => h) (Or.inl ⟨by rfl, fun W hW => by obtain ⟨s0, s1, s2, s3, s4, s5, s6, s7, s8, s9, s10, s11, s12⟩ := hW; go_simp⟩) ⟨HPv.out.cell 0, HPv.out.cell 1, HPv.out.cell 2, HPv.out.cell 3, HPv.out.cell 4, HPv.out.cell 5, HPv.out.cell 6, HPv.out.cell 7, HPv.out.cell 8, HE0.out _ hbtv.out⟩ ?_
                try simp only [Act.put, List.setIfInBounds_toArray, List.set_cons_zero, List.set_cons_succ]
                refine H_takeD (k := 8) (v := .int .i64 (j : Int)) (d := some 85) rfl rfl (by decide +kernel) (fun _ _ _ h => h) (Or.inl ⟨by simp [Region.wanted, yielded], fun W hW => by obtain ⟨s0, s1, s2, s3, s4, s5, s6, s7, s8, s9, s10, s11, s12⟩ := hW; go_simp⟩) ⟨HPv.out.cell 0, HPv.out.cell 1, HPv.out.cell 2, HPv.out.cell 3, HPv.out.cell 4, HPv.out.cell 5, HPv.out.cell 6, HPv.out.cell 7, HPv.out.cell 8, HE0.out _ hbtv.out⟩ ?_
                try simp only [Act.put, List.setIfInBounds_toArray, List.set_cons_zero, List.set_cons_succ]
                refine H_takeD (k := 9) (v := .bool true) (d := some 86) rfl rfl (by decide +kernel) (fun _ _ _ h => h) (Or.inl ⟨by simp [Region.wanted, yielded], fun W hW => by obtain ⟨s0, s1, s2, s3, s4, s5, s6, s7, s8, s9, s10, s11, s12⟩ := hW; go_simp⟩) ⟨HPv.out.cell 0, HPv.out.cell 1, HPv.out.cell 2, HPv.out.cell 3, HPv.out.cell 4, HPv.out.cell 5, HPv.out.cell 6, HPv.out.cell 7, HPv.out.cell 8, HE0.out _ hbtv.out⟩ ?_
                try simp only [Act.put, List.setIfInBounds_toArray, List.set_cons_zero, List.set_cons_succ]
                refine H_takeD (k := 10) (v := .bool true) (d := some 87) rfl rfl (by decide +kernel) (fun _ _ _ h => h) (Or.inl ⟨by simp [Region.wanted, yielded], fun W hW => by obtain ⟨s0, s1, s2, s3, s4, s5, s6, s7, s8, s9, s10, s11, s12⟩ := hW; go_simp⟩) ⟨HPv.out.cell 0, HPv.out.cell 1, HPv.out.cell 2, HPv.out.cell 3, HPv.out.cell 4, HPv.out.cell 5, HPv.out.cell 6, HPv.out.cell 7, HPv.out.cell 8, HE0.out _ hbtv.out⟩ ?_
                try simp only [Act.put, List.setIfInBounds_toArray, List.set_cons_zero, List.set_cons_succ]
                refine H_takeD (k := 11) (v := .slice (some ⟨bU, oU, none⟩) m c1) (d := some 88) rfl rfl (by decide +kernel) (fun _ _ _ h => h) (Or.inl ⟨by simp [Region.wanted, yielded], fun W hW => by obtain ⟨s0, s1, s2, s3, s4, s5, s6, s7, s8, s9, s10, s11, s12⟩ := hW; go_simp⟩) ⟨HPv.out.cell 0, HPv.out.cell 1, HPv.out.cell 2, HPv.out.cell 3, HPv.out.cell 4, HPv.out.cell 5, HPv.out.cell 6, HPv.out.cell 7, HPv.out.cell 8, HE0.out _ hbtv.out⟩ ?_
                try simp only [Act.put, List.setIfInBounds_toArray, List.set_cons_zero, List.set_cons_succ]
                refine H_takeD (k := 12) (v := .int .i64 (j : Int)) (d := some 89) rfl rfl (by decide +kernel) (fun _ _ _ h => h) (Or.inl ⟨by simp [Region.wanted, yielded], fun W hW => by obtain ⟨s0, s1, s2, s3, s4, s5, s6, s7, s8, s9, s10, s11, s12⟩ := hW; go_simp⟩) ⟨HPv.out.cell 0, HPv.out.cell 1, HPv.out.cell 2, HPv.out.cell 3, HPv.out.cell 4, HPv.out.cell 5, HPv.out.cell 6, HPv.out.cell 7, HPv.out.cell 8, HE0.out _ hbtv.out⟩ ?_
                try simp only [Act.put, List.setIfInBounds_toArray, List.set_cons_zero, List.set_cons_succ]
                refine H_takeD (k := 13) (v := .int .i64 (jm : Int)) (d := some 90) rfl rfl (by decide +kernel) (fun _ _ _ h => h) (Or.inl ⟨by simp [Region.wanted, yielded], fun W hW => by obtain ⟨s0, s1, s2, s3, s4, s5, s6, s7, s8, s9, s10, s11, s12⟩ := hW; go_simp⟩) ⟨HPv.out.cell 0, HPv.out.cell 1, HPv.out.cell 2, HPv.out.cell 3, HPv.out.cell 4, HPv.out.cell 5, HPv.out.cell 6, HPv.out.cell 7, HPv.out.cell 8, HE0.out _ hbtv.out⟩ ?_
                try simp only [Act.put, List.setIfInBounds_toArray, List.set_cons_zero, List.set_cons_succ]
                refine H_takeD (k := 14) (v := .pointer (some ⟨bU, oU + jm * 2, none⟩)) (d := some 91) rfl rfl (by decide +kernel) (fun _ _ _ h => h) (Or.inl ⟨by simp [Region.wanted, yielded], fun W hW => by obtain ⟨s0, s1, s2, s3, s4, s5, s6, s7, s8, s9, s10, s11, s12⟩ := hW; go_simp⟩) ⟨HPv.out.cell 0, HPv.out.cell 1, HPv.out.cell 2, HPv.out.cell 3, HPv.out.cell 4, HPv.out.cell 5, HPv.out.cell 6, HPv.out.cell 7, HPv.out.cell 8, HE0.out _ hbtv.out⟩ ?_
                try simp only [Act.put, List.setIfInBounds_toArray, List.set_cons_zero, List.set_cons_succ]
                refine H_takeD (k := 15) (v := .agg #[.int .u64 px, .int .i64 py]) (d := some 92) rfl rfl (by decide +kernel) (fun _ _ _ h => h) (Or.inl ⟨by simp [Region.wanted, yielded], fun W hW => by obtain ⟨s0, s1, s2, s3, s4, s5, s6, s7, s8, s9, s10, s11, s12⟩ := hW; go_simp⟩) ⟨HPv.out.cell 0, HPv.out.cell 1, HPv.out.cell 2, HPv.out.cell 3, HPv.out.cell 4, HPv.out.cell 5, HPv.out.cell 6, HPv.out.cell 7, HPv.out.cell 8, HE0.out _ hbtv.out⟩ ?_
                try simp only [Act.put, List.setIfInBounds_toArray, List.set_cons_zero, List.set_cons_succ]
                refine H_takeD (k := 16) (v := .slice (some ⟨bU, oU, none⟩) m c1) (d := some 93) rfl rfl (by decide +kernel) (fun _ _ _ h => h) (Or.inl ⟨by simp [Region.wanted, yielded], fun W hW => by obtain ⟨s0, s1, s2, s3, s4, s5, s6, s7, s8, s9, s10, s11, s12⟩ := hW; go_simp⟩) ⟨HPv.out.cell 0, HPv.out.cell 1, HPv.out.cell 2, HPv.out.cell 3, HPv.out.cell 4, HPv.out.cell 5, HPv.out.cell 6, HPv.out.cell 7, HPv.out.cell 8, HE0.out _ hbtv.out⟩ ?_
                try simp only [Act.put, List.setIfInBounds_toArray, List.set_cons_zero, List.set_cons_succ]
                refine H_takeD (k := 17) (v := .int .i64 (j : Int)) (d := some 94) rfl rfl (by decide +kernel) (fun _ _ _ h => h) (Or.inl ⟨by simp [Region.wanted, yielded], fun W hW => by obtain ⟨s0, s1, s2, s3, s4, s5, s6, s7, s8, s9, s10, s11, s12⟩ := hW; go_simp⟩) ⟨HPv.out.cell 0, HPv.out.cell 1, HPv.out.cell 2, HPv.out.cell 3, HPv.out.cell 4, HPv.out.cell 5, HPv.out.cell 6, HPv.out.cell 7, HPv.out.cell 8, HE0.out _ hbtv.out⟩ ?_
                try simp only [Act.put, List.setIfInBounds_toArray, List.set_cons_zero, List.set_cons_succ]
                refine H_takeD (k := 18) (v := .pointer (some ⟨bU, oU + j * 2, none⟩)) (d := some 95) rfl rfl (by decide +kernel) (fun _ _ _ h => h) (Or.inl ⟨by simp [Region.wanted, yielded], fun W hW => by obtain ⟨s0, s1, s2, s3, s4, s5, s6, s7, s8, s9, s10, s11, s12⟩ := hW; go_simp⟩) ⟨HPv.out.cell 0, HPv.out.cell 1, HPv.out.cell 2, HPv.out.cell 3, HPv.out.cell 4, HPv.out.cell 5, HPv.out.cell 6, HPv.out.cell 7, HPv.out.cell 8, HE0.out _ hbtv.out⟩ ?_
                try simp only [Act.put, List.setIfInBounds_toArray, List.set_cons_zero, List.set_cons_succ]
                refine H_takeD (k := 19) (v := .agg #[.int .u64 x, .int .i64 y]) (d := some 96) rfl rfl (by decide +kernel) (fun _ _ _ h => h) (Or.inl ⟨by simp [Region.wanted, yielded], fun W hW => by obtain ⟨s0, s1, s2, s3, s4, s5, s6, s7, s8, s9, s10, s11, s12⟩ := hW; go_simp⟩) ⟨HPv.out.cell 0, HPv.out.cell 1, HPv.out.cell 2, HPv.out.cell 3, HPv.out.cell 4, HPv.out.cell 5, HPv.out.cell 6, HPv.out.cell 7, HPv.out.cell 8, HE0.out _ hbtv.out⟩ ?_
                try simp only [Act.put, List.setIfInBounds_toArray, List.set_cons_zero, List.set_cons_succ]
                refine H_one (i := 20) (by decide +kernel) (H_stepg rfl (by simp [Region.wanted, yielded]) (fun K hK20 => ?_))
                have hK20 := Lib.hid hK20
                go_simp
                go_at_call 34
                refine (HLs.out _).mono ?_
                rintro e wy ⟨rfl, hv_⟩
                have HPy := Lib.hid (HPv.out.below hv_ HPv.out.lt)
                have HBy := Lib.hid (HBv.out.trans (hv_.mono HBv.out.size))
                have hbty := Lib.hid (hbtv.out.trans (hv_.mono hbtv.out.size))
                clear hv_ HPv HBv hbtv
                have HBv := HBy
                refine hK20.out _ _ ⟨HPy.out.cell 0, HPy.out.cell 1, HPy.out.cell 2, HPy.out.cell 3, HPy.out.cell 4, HPy.out.cell 5, HPy.out.cell 6, HPy.out.cell 7, HPy.out.cell 8, HE0.out _ hbty.out⟩ ?_
                try simp only [Act.put, List.setIfInBounds_toArray, List.set_cons_zero, List.set_cons_succ]
                refine H_takeD (k := 21) (v := .bool false) (d := some 98) rfl rfl (by decide +kernel) (fun _ _ _ h => h) (Or.inl ⟨by simp [Region.wanted, yielded], fun W hW => by obtain ⟨s0, s1, s2, s3, s4, s5, s6, s7, s8, s9, s10, s11, s12⟩ := hW; go_simp⟩) ⟨HPy.out.cell 0, HPy.out.cell 1, HPy.out.cell 2, HPy.out.cell 3, HPy.out.cell 4, HPy.out.cell 5, HPy.out.cell 6, HPy.out.cell 7, HPy.out.cell 8, HE0.out _ hbty.out⟩ ?_
                try simp only [Act.put, List.setIfInBounds_toArray, List.set_cons_zero, List.set_cons_succ]
                refine H_takeD (k := 22) (v := .bool false) (d := some 99) rfl rfl (by decide +kernel) (fun _ _ _ h => h) (Or.inl ⟨by simp [Region.wanted, yielded], fun W hW => by obtain ⟨s0, s1, s2, s3, s4, s5, s6, s7, s8, s9, s10, s11, s12⟩ := hW; go_simp⟩) ⟨HPy.out.cell 0, HPy.out.cell 1, HPy.out.cell 2, HPy.out.cell 3, HPy.out.cell 4, HPy.out.cell 5, HPy.out.cell 6, HPy.out.cell 7, HPy.out.cell 8, HE0.out _ hbty.out⟩ ?_
                try simp only [Act.put, List.setIfInBounds_toArray, List.set_cons_zero, List.set_cons_succ]
                refine H_takeD (k := 23) (v := .bool false) (d := some 100) rfl rfl (by decide +kernel) (fun _ _ _ h => h) (Or.inl ⟨by rfl, fun W hW => by obtain ⟨s0, s1, s2, s3, s4, s5, s6, s7, s8, s9, s10, s11, s12⟩ := hW; go_simp⟩) ⟨HPy.out.cell 0, HPy.out.cell 1, HPy.out.cell 2, HPy.out.cell 3, HPy.out.cell 4, HPy.out.cell 5, HPy.out.cell 6, HPy.out.cell 7, HPy.out.cell 8, HE0.out _ hbty.out⟩ ?_
                try simp only [Act.put, List.setIfInBounds_toArray, List.set_cons_zero, List.set_cons_succ]
                refine H_end (by decide +kernel) (NoPanic.normal ?_)
                try simp only [Act.put, List.setIfInBounds_toArray, List.set_cons_zero, List.set_cons_succ]
                go_wp2_with fail
                go_roundw
                case rel => exact ⟨j + 1, by omega, by go_num, HBv⟩
                case measure => simp [intOf]; omega
        · have HBf := Lib.hid (HB7.out.trans (HBj.out.mono HB7.out.size))
          clear HBj
          go_wp2_with fail
          go_roundw
          case rel => exact ⟨k + 1, by omega, by go_num, HBf⟩
          case measure => simp [intOf]; omega
    · have HBf := Lib.hid (HB1.out.trans (HB.out.mono HB1.out.size))
      clear HB
      go_wp2_with fail
      refine (lives_any wr).mono ?_
      rintro e wl ⟨rfl, hb_⟩
      have HBl := Lib.hid (HBf.out.trans (hb_.mono HBf.out.size))
      clear hb_
      go_wp2_with fail
      go_ret
      exact ⟨rfl, HBl.out⟩
end Go.Proofs.YtnapnkmehnabfaaGreat
