import Derived.Test.YtnapnkmehnabfaaGreatP73
import Derived.Test.YtnapnkmehnabfaaGreatU10
namespace Go.Proofs.YtnapnkmehnabfaaGreat
open Go.RowKit Go.Maps

theorem foldP_so : ∀ (l : List (Int × Int)) {t : List (Int × Int)}, SO t → SO (l.foldl putI t)
 | [], _, h => h
 | x :: l, _, h => foldP_so l (putI_so x h)
theorem foldP_mem : ∀ (l : List (Int × Int)) (t : List (Int × Int)) (y : Int × Int), y ∈ l.foldl putI t ↔ y ∈ l ∨ y ∈ t
 | [], t, y => by simp
 | x :: l, t, y => by
  rw [List.foldl_cons, foldP_mem l _ y, putI_mem, List.mem_cons]
  constructor
  ·rintro (h | h | h)
   ·exact .inl (.inr h)
   ·exact .inl (.inl h)
   ·exact .inr h
  ·rintro ((h | h) | h)
   ·exact .inr (.inl h)
   ·exact .inl h
   ·exact .inr (.inr h)
theorem so_lenN : ∀ {U L : List (Int × Int)}, SO U → (∀ x ∈ U, x ∈ L) → U.length ≤ L.length
 | [], L, _, _ => Nat.zero_le _
 | u :: U, L, h, hm => by
  have h' := List.pairwise_cons.1 h
  have hu := hm u (by simp)
  have h1 := so_lenN (L := L.erase u) h'.2 (fun x hx => by
   have hne : x ≠ u := fun e => by
    subst e
    have := h'.1 x hx
    rw [lessI_irr] at this
    cases this
   exact (List.mem_erase_of_ne hne).2 (hm x (by simp [hx])))
  have h2 := List.length_erase_of_mem hu
  have h3 := List.length_pos_of_mem hu
  simp only [List.length_cons]
  omega
theorem usesR_eq {p : Pa} {U : List (Int × Int)} (hs : SO U) (hm : ∀ x, x ∈ U ↔ x ∈ usesL p) : U = usesR p :=
 SO.ext hs (foldP_so (usesL p) (by unfold SO; exact List.Pairwise.nil)) (fun x => by rw [hm x]; unfold usesR; rw [foldP_mem]; simp)
theorem nmU_get {x : Int} {m j : Nat} (h : j < m) : (nmU x m)[j]? = some (x, (j : Int)) := by
 unfold nmU
 rw [List.getElem?_map, List.getElem?_range h]; rfl
set_option linter.unusedSimpArgs false in
set_option maxHeartbeats 8000000 in
set_option maxRecDepth 100000 in
theorem patchNames_walk (A : Option Addr) (cA : Nat) (l : List Int) (at_ how by_ : Int) (w : World) (hA : SI w A l) (hl : W64 l) (hat : i64 at_) (hho : i64 how) (hby : i64 by_) :
  Calls Tryz.prog 9 #[.slice A l.length cA, .int .i64 at_, .int .i64 how, .int .i64 by_] w fun e w' => e = .returned (.bool true) ∧ Below w.heap.size w w' := by
 have HSo := Lib.hid (some_any A cA l at_ how by_ w hA hl hat hho hby)
 clear hA hl hat hho hby
 go_enter Tryz.func9, Tryz.ntmps9
 go_wp2_with fail
 refine HSo.out.mono ?_
 rintro e w1 ⟨ps, X, cX, rfl, hp30, hsb, hq, hb1⟩
 have HB1 := Lib.hid hb1
 have HX := Lib.hid hsb.sl
 have HQ := Lib.hid hq
 clear hsb hq hb1 HSo
 obtain ⟨n, hn⟩ : ∃ z, Hid (ps.length = z) := ⟨_, Lib.hid rfl⟩
 rw [hn.out] at hp30 ⊢
 go_wp2_with fail
 go_loopw [10] (fun v wr => ∃ k : Nat, k ≤ n ∧ v = .int .i64 (k : Int) ∧ Hid (Below w1.heap.size w1 wr)) (fun v _ => n - (intOf v).toNat)
 case atStart => exact ⟨0, by omega, rfl, Lib.hid (Below.refl _ _)⟩
 case round =>
  obtain ⟨k, hk, rfl, HB⟩ := hrel
  by_cases hlt : k < n
  ·obtain ⟨bX, oX, q, hXe, hq, hqc⟩ := pa_get HX.out (k := k) (by rw [hn.out]; exact hlt)
   subst hXe
   have hbl : bX < w1.heap.size := World.block_lt_of_cell? _ _ (hqc 0 _ rfl)
   obtain ⟨p, a⟩ := q
   obtain ⟨hpb, hpq⟩ : PB w1 p a ∧ PQ 4100 7 p := HQ.out _ (List.mem_of_getElem? hq.out)
   have hpl : PLn p := ⟨by have := hpq.n; omega, by have := hpq.s; omega, by have := hpq.l; omega, by have := hpq.m; omega, by have := hpq.e; omega, by have := hpq.d; omega, by have := hpq.r; omega, fun x hx => by have := hpq.x x hx; omega⟩
   have hx1 : p.ma.length ≤ 100000 := by have := hpq.m; omega
   have hx2 : p.er.length ≤ 100000 := by have := hpq.e; omega
   have hx3 : p.dr.length ≤ 100000 := by have := hpq.d; omega
   have HR := Lib.hid (fun (W : World) (h : Below w1.heap.size w1 W) => refPatch_any p a W (hpb.below h).pt ⟨hpl.n, hpl.s, hpl.l, hpl.m, hpl.e, hpl.d, hpl.r⟩)
   have HI := Lib.hid (fun (W : World) (h : Below w1.heap.size w1 W) => id_any p a W (hpb.below h).pt hpl hpq.w.n)
   have HSk := Lib.hid (fun (W : World) (h : Below w1.heap.size w1 W) => strokes_any p a W (hpb.below h).pt hpl hpq.w.n)
   have HPl := Lib.hid (fun (W : World) (h : Below w1.heap.size w1 W) => places_any p a W (hpb.below h).pt hpl hpq.w.n)
   have HU := Lib.hid (fun (W : World) (h : Below w1.heap.size w1 W) => uses_any p a W (hpb.below h).pt hpl hx1 hx2 hx3)
   have HEn := Lib.hid (fun (W : World) (h : Below w1.heap.size w1 W) => encode_any p a W (hpb.below h).pt hpl hpq.w.n)
   have HRi := Lib.hid (fun (W : World) (h : Below w1.heap.size w1 W) (e : paE p = 0) => refId_any p a W (hpb.below h).pt (paE_ok hpq.w.n e))
   have HRu := Lib.hid (fun (W : World) (h : Below w1.heap.size w1 W) => refUses_any p a W (hpb.below h).pt hx1 hx2 hx3)
   have HUl := Lib.hid (show ∀ U, SO U → (∀ x, x ∈ U ↔ x ∈ usesL p) → U.length ≤ 1099511627776 from fun U hs hm => by
    have h1 := so_lenN hs (fun x hx => (hm x).1 hx)
    unfold usesL at h1
    simp only [List.length_append, List.length_map] at h1
    omega)
   have Hbl := Lib.hid (fun e => paB_len (paE_ok hpq.w.n e))
   have hx4 : p.st.length ≤ 100000 := by have := hpq.s; omega
   have hx5 : p.pl.length ≤ 100000 := by have := hpq.l; omega
   have hki : ¬ (n ≤ k) := by omega
   have HC := Lib.hid (show ∀ W, Below w1.heap.size w1 W → W.cell? ⟨bX, oX + k * 9, none⟩ = some (.int .i64 p.office) ∧ W.cell? ⟨bX, oX + k * 9 + 1, none⟩ = some (.int .i64 p.num) ∧ W.cell? ⟨bX, oX + k * 9 + 2, none⟩ = some (.slice a.n p.needs.length a.cn) ∧ W.cell? ⟨bX, oX + k * 9 + 3, none⟩ = some (.slice a.s p.st.length a.cs) ∧ W.cell? ⟨bX, oX + k * 9 + 4, none⟩ = some (.slice a.l p.pl.length a.cl) ∧ W.cell? ⟨bX, oX + k * 9 + 5, none⟩ = some (.slice a.m p.ma.length a.cm) ∧ W.cell? ⟨bX, oX + k * 9 + 6, none⟩ = some (.slice a.e p.er.length a.ce) ∧ W.cell? ⟨bX, oX + k * 9 + 7, none⟩ = some (.slice a.d p.dr.length a.cd) ∧ W.cell? ⟨bX, oX + k * 9 + 8, none⟩ = some (.slice a.r p.rt.length a.cr) from fun W h => ⟨(h.cell (p := ⟨bX, oX + k * 9, none⟩) hbl).trans (hqc 0 _ rfl), (h.cell (p := ⟨bX, oX + k * 9 + 1, none⟩) hbl).trans (hqc 1 _ rfl), (h.cell (p := ⟨bX, oX + k * 9 + 2, none⟩) hbl).trans (hqc 2 _ rfl), (h.cell (p := ⟨bX, oX + k * 9 + 3, none⟩) hbl).trans (hqc 3 _ rfl), (h.cell (p := ⟨bX, oX + k * 9 + 4, none⟩) hbl).trans (hqc 4 _ rfl), (h.cell (p := ⟨bX, oX + k * 9 + 5, none⟩) hbl).trans (hqc 5 _ rfl), (h.cell (p := ⟨bX, oX + k * 9 + 6, none⟩) hbl).trans (hqc 6 _ rfl), (h.cell (p := ⟨bX, oX + k * 9 + 7, none⟩) hbl).trans (hqc 7 _ rfl), (h.cell (p := ⟨bX, oX + k * 9 + 8, none⟩) hbl).trans (hqc 8 _ rfl)⟩)
   clear hpb hpq hpl hq hqc hx1 hx2 hx3
   obtain ⟨s1, hs1⟩ : ∃ z, Hid (p.st.length = z) := ⟨_, Lib.hid rfl⟩
   obtain ⟨s2, hs2⟩ : ∃ z, Hid (p.pl.length = z) := ⟨_, Lib.hid rfl⟩
   rw [hs1.out] at hx4
   rw [hs2.out] at hx5
   by_cases hE0 : paE p = 0
   ·have hI : idV p = idH p := by rw [idV, if_pos hE0]
    have hL1 : nmL p p.st.length = nmU (idH p) s1 := by rw [nmL, if_pos hE0, hs1.out]
    have hL2 : nmL p p.pl.length = nmU (idH p) s2 := by rw [nmL, if_pos hE0, hs2.out]
    rw [hE0] at HR HI HSk HPl
    rw [hI] at HI
    rw [hL1, nmU_len] at HSk
    rw [hL2, nmU_len] at HPl
    have HRi2 := Lib.hid (fun W h => HRi.out W h hE0)
    have HE := Lib.hid hE0
    obtain ⟨J, hJ⟩ : ∃ z, Hid (idH p = z) := ⟨_, Lib.hid rfl⟩
    rw [hJ.out] at HI HSk HPl HRi2
    have hbl_ := Hbl.out hE0
    have HHb := Lib.hid (show ∀ (W : World) (Q : Option Addr) (c : Nat), SL W Q (byV (paB p)) → Calls Tryz.prog 37 #[.string ⟨#[112, 97, 116, 99, 104]⟩, .slice Q (paB p).length c] W fun e w' => e = .returned (.int .u64 J) ∧ Below W.heap.size W w' from fun W Q c h => hJ.out ▸ bytes_any ⟨#[112, 97, 116, 99, 104]⟩ Q c (paB p) W (by decide) h (by omega) (paB_lt p))
    obtain ⟨nb, hnb⟩ : ∃ z, Hid ((paB p).length = z) := ⟨_, Lib.hid rfl⟩
    rw [hnb.out] at HHb HEn
    clear hE0 hI hL1 hL2 HRi hbl_ Hbl
    obtain ⟨c0, c1, c2, c3, c4, c5, c6, c7, c8⟩ := HC.out _ HB.out
    go_wp2_with fail
    refine (HR.out _ HB.out).mono ?_
    rintro e w2 ⟨rfl, hb_⟩
    have HB2 := Lib.hid (HB.out.trans (hb_.mono HB.out.size))
    clear c0 c1 c2 c3 c4 c5 c6 c7 c8
    obtain ⟨c0, c1, c2, c3, c4, c5, c6, c7, c8⟩ := HC.out _ HB2.out
    clear hb_ HR
    go_wp2_with fail
    refine (HI.out _ HB2.out).mono ?_
    rintro e w3 ⟨rfl, hb_⟩
    have HB3 := Lib.hid (HB2.out.trans (hb_.mono HB2.out.size))
    clear c0 c1 c2 c3 c4 c5 c6 c7 c8
    obtain ⟨c0, c1, c2, c3, c4, c5, c6, c7, c8⟩ := HC.out _ HB3.out
    clear hb_ HI HB2
    go_wp2_with fail
    refine (HSk.out _ HB3.out).mono ?_
    rintro e w4 ⟨hb_, A1, d1, rfl, hown⟩
    have HD1 := Lib.hid (show SD w4 A1 (nmU J s1) from SL.of_own hown)
    have HB4 := Lib.hid (HB3.out.trans (hb_.mono HB3.out.size))
    clear c0 c1 c2 c3 c4 c5 c6 c7 c8
    obtain ⟨c0, c1, c2, c3, c4, c5, c6, c7, c8⟩ := HC.out _ HB4.out
    clear hb_ hown HSk HB3
    go_wp2_with fail
    refine (HPl.out _ HB4.out).mono ?_
    rintro e w5 ⟨hb_, A2, d2, rfl, hown⟩
    have HD2 := Lib.hid (show SD w5 A2 (nmU J s2) from SL.of_own hown)
    have HD1 := Lib.hid (HD1.out.below hb_)
    have HB5 := Lib.hid (HB4.out.trans (hb_.mono HB4.out.size))
    clear c0 c1 c2 c3 c4 c5 c6 c7 c8
    obtain ⟨c0, c1, c2, c3, c4, c5, c6, c7, c8⟩ := HC.out _ HB5.out
    clear hb_ hown HPl HB4
    go_wp2_with fail
    refine (HU.out _ HB5.out).mono ?_
    rintro e w6 ⟨hb_, ⟨hz, _⟩ | ⟨_, U, A3, d3, rfl, hU, hso, hmem⟩⟩
    ·exact absurd HE.out hz
    have hul := HUl.out U hso hmem
    obtain rfl := usesR_eq hso hmem
    have HD3 := Lib.hid hU
    have HD2 := Lib.hid (HD2.out.below hb_)
    have HD1 := Lib.hid (HD1.out.below hb_)
    have HB6 := Lib.hid (HB5.out.trans (hb_.mono HB5.out.size))
    clear c0 c1 c2 c3 c4 c5 c6 c7 c8
    obtain ⟨c0, c1, c2, c3, c4, c5, c6, c7, c8⟩ := HC.out _ HB6.out
    clear hb_ hU hso hmem HU HB5
    obtain ⟨L3, hL3⟩ : ∃ z, Hid (usesR p = z) := ⟨_, Lib.hid rfl⟩
    rw [hL3.out] at HD3 HRu hul ⊢
    go_wp2_with fail
    refine (HEn.out _ HB6.out).mono ?_
    rintro e w7 ⟨hb_, ⟨hz, _⟩ | ⟨_, A4, d4, rfl, hown⟩⟩
    ·exact absurd HE.out hz
    have HHb7 := Lib.hid (HHb.out w7 A4 d4 (SL.of_own (hnb.out ▸ hown)))
    have HD3 := Lib.hid (HD3.out.below hb_)
    have HD2 := Lib.hid (HD2.out.below hb_)
    have HD1 := Lib.hid (HD1.out.below hb_)
    have HB7 := Lib.hid (HB6.out.trans (hb_.mono HB6.out.size))
    clear c0 c1 c2 c3 c4 c5 c6 c7 c8
    obtain ⟨c0, c1, c2, c3, c4, c5, c6, c7, c8⟩ := HC.out _ HB7.out
    clear hb_ hown HEn HHb HB6
    go_wp2_with fail
    refine HHb7.out.mono ?_
    rintro e w8 ⟨rfl, hb_⟩
    have HD3 := Lib.hid (HD3.out.below hb_)
    have HD2 := Lib.hid (HD2.out.below hb_)
    have HD1 := Lib.hid (HD1.out.below hb_)
    have HB8 := Lib.hid (HB7.out.trans (hb_.mono HB7.out.size))
    clear c0 c1 c2 c3 c4 c5 c6 c7 c8
    obtain ⟨c0, c1, c2, c3, c4, c5, c6, c7, c8⟩ := HC.out _ HB8.out
    clear hb_ HHb7 HB7
    go_wp2_with fail
    refine (HRi2.out _ HB8.out).mono ?_
    rintro e w9 ⟨rfl, hb_⟩
    have HD3 := Lib.hid (HD3.out.below hb_)
    have HD2 := Lib.hid (HD2.out.below hb_)
    have HD1 := Lib.hid (HD1.out.below hb_)
    have HB9 := Lib.hid (HB8.out.trans (hb_.mono HB8.out.size))
    clear c0 c1 c2 c3 c4 c5 c6 c7 c8
    obtain ⟨c0, c1, c2, c3, c4, c5, c6, c7, c8⟩ := HC.out _ HB9.out
    clear hb_ HRi2 HB8
    rw [hs1.out] at c3
    rw [hs2.out] at c4
    go_wp2_with fail
    simp only [← hs1.out, ← hs2.out]
    refine (HRu.out _ HB9.out).mono ?_
    simp only [hs1.out, hs2.out]
    rintro e w10 ⟨A5, d5, rfl, hR5, hb_⟩
    have HSm := Lib.hid (sameIds_any A3 A5 d3 d5 L3 L3 w10 (HD3.out.below hb_) hR5 (by omega))
    have HD2 := Lib.hid (HD2.out.below hb_)
    have HD1 := Lib.hid (HD1.out.below hb_)
    have HB10 := Lib.hid (HB9.out.trans (hb_.mono HB9.out.size))
    clear c0 c1 c2 c3 c4 c5 c6 c7 c8
    clear hb_ HB9 HRu HD3 hR5
    go_wp2_with fail
    refine HSm.out.mono ?_
    simp only [decide_true]
    rintro e w11 ⟨rfl, hb_⟩
    have HD2 := Lib.hid (HD2.out.below hb_)
    have HD1 := Lib.hid (HD1.out.below hb_)
    have HB11 := Lib.hid (HB10.out.trans (hb_.mono HB10.out.size))
    clear hb_ HB10 HSm hul hL3 HC HE hJ hnb hs1 hs2 HB
    go_wp2_with fail
    go_loopw [22] (fun v wr => ∃ j : Nat, j ≤ s1 ∧ v = .int .i64 (j : Int) ∧ Hid (Below w11.heap.size w11 wr)) (fun v _ => s1 - (intOf v).toNat)
    case atStart => exact ⟨0, by omega, rfl, Lib.hid (Below.refl _ _)⟩
    case round =>
     obtain ⟨j, hj, rfl, HBj⟩ := hrel
     by_cases hjm : j < s1
     ·obtain ⟨bU, oU, x, y, hUe, u0, u1, hui⟩ := SD.get (HD1.out.below HBj.out) (k := j) (by rw [nmU_len]; exact hjm)
      obtain ⟨rfl, rfl⟩ : x = J ∧ y = (j : Int) := by have h := hui.out; rw [nmU_get hjm] at h; injection h with h; injection h with h1 h2; exact ⟨h1.symm, h2.symm⟩
      subst hUe
      have hne := fun W => neq_id x (j : Int) x (j : Int) W
      simp only [beq_self_eq_true, Bool.and_self, Bool.not_true] at hne
      have hmj : ¬ (s1 ≤ j) := by omega
      clear hui
      go_wp2_with fail
      go_roundw
      case rel => exact ⟨j + 1, by omega, by go_num, HBj⟩
      case measure => simp [intOf]; omega
     ·have HB12 := Lib.hid (HB11.out.trans (HBj.out.mono HB11.out.size))
      have HD2 := Lib.hid (HD2.out.below HBj.out)
      clear HBj HD1
      go_wp2_with fail
      go_loopw [23] (fun v w' => ∃ j : Nat, j ≤ s2 ∧ v = .int .i64 (j : Int) ∧ Hid (Below wr.heap.size wr w')) (fun v _ => s2 - (intOf v).toNat)
      case atStart => exact ⟨0, by omega, rfl, Lib.hid (Below.refl _ _)⟩
      case round =>
       rename_i wq
       obtain ⟨j2, hj2, rfl, HBj⟩ := hrel
       by_cases hjm2 : j2 < s2
       ·obtain ⟨bU, oU, x, y, hUe, u0, u1, hui⟩ := SD.get (HD2.out.below HBj.out) (k := j2) (by rw [nmU_len]; exact hjm2)
        obtain ⟨rfl, rfl⟩ : x = J ∧ y = (j2 : Int) := by have h := hui.out; rw [nmU_get hjm2] at h; injection h with h; injection h with h1 h2; exact ⟨h1.symm, h2.symm⟩
        subst hUe
        have hne := fun W => neq_id x (j2 : Int) x (j2 : Int) W
        simp only [beq_self_eq_true, Bool.and_self, Bool.not_true] at hne
        have hmj : ¬ (s2 ≤ j2) := by omega
        clear hui
        go_wp2_with fail
        go_roundw
        case rel => exact ⟨j2 + 1, by omega, by go_num, HBj⟩
        case measure => simp [intOf]; omega
       ·have HB13 := Lib.hid (HB12.out.trans (HBj.out.mono HB12.out.size))
        clear HBj HD2
        go_wp2_with fail
        go_roundw
        case rel => exact ⟨k + 1, by omega, by go_num, HB13⟩
        case measure => simp [intOf]; omega
   ·have hI : idV p = 0 := by rw [idV, if_neg hE0]
    have hL1 : nmL p p.st.length = [] := by rw [nmL, if_neg hE0]
    have hL2 : nmL p p.pl.length = [] := by rw [nmL, if_neg hE0]
    rw [hI] at HI
    rw [hL1, List.length_nil] at HSk
    rw [hL2, List.length_nil] at HPl
    obtain ⟨E, hE⟩ : ∃ z, Hid (paE p = z) := ⟨_, Lib.hid rfl⟩
    have HE := Lib.hid hE0
    rw [hE.out] at HR HI HSk HPl HU HE hE0
    have bE : (E != 0) = true := by simp [hE0]
    clear hE0 hI hL1 hL2 HRi Hbl HEn HRu
    obtain ⟨c0, c1, c2, c3, c4, c5, c6, c7, c8⟩ := HC.out _ HB.out
    go_wp2_with fail
    refine (HR.out _ HB.out).mono ?_
    rintro e w2 ⟨rfl, hb_⟩
    have HB2 := Lib.hid (HB.out.trans (hb_.mono HB.out.size))
    clear c0 c1 c2 c3 c4 c5 c6 c7 c8
    obtain ⟨c0, c1, c2, c3, c4, c5, c6, c7, c8⟩ := HC.out _ HB2.out
    clear hb_ HR
    go_wp2_with fail
    refine (HI.out _ HB2.out).mono ?_
    rintro e w3 ⟨rfl, hb_⟩
    have HB3 := Lib.hid (HB2.out.trans (hb_.mono HB2.out.size))
    clear c0 c1 c2 c3 c4 c5 c6 c7 c8
    obtain ⟨c0, c1, c2, c3, c4, c5, c6, c7, c8⟩ := HC.out _ HB3.out
    clear hb_ HI HB2
    go_wp2_with fail
    refine (HSk.out _ HB3.out).mono ?_
    rintro e w4 ⟨hb_, A1, d1, rfl, _⟩
    have HB4 := Lib.hid (HB3.out.trans (hb_.mono HB3.out.size))
    clear c0 c1 c2 c3 c4 c5 c6 c7 c8
    obtain ⟨c0, c1, c2, c3, c4, c5, c6, c7, c8⟩ := HC.out _ HB4.out
    clear hb_ HSk HB3
    go_wp2_with fail
    refine (HPl.out _ HB4.out).mono ?_
    rintro e w5 ⟨hb_, A2, d2, rfl, _⟩
    have HB5 := Lib.hid (HB4.out.trans (hb_.mono HB4.out.size))
    clear c0 c1 c2 c3 c4 c5 c6 c7 c8
    obtain ⟨c0, c1, c2, c3, c4, c5, c6, c7, c8⟩ := HC.out _ HB5.out
    clear hb_ HPl HB4
    go_wp2_with fail
    refine (HU.out _ HB5.out).mono ?_
    rintro e w6 ⟨hb_, ⟨_, rfl⟩ | ⟨hz, _⟩⟩
    rotate_left
    ·exact absurd hz HE.out
    have HB6 := Lib.hid (HB5.out.trans (hb_.mono HB5.out.size))
    clear c0 c1 c2 c3 c4 c5 c6 c7 c8
    obtain ⟨c0, c1, c2, c3, c4, c5, c6, c7, c8⟩ := HC.out _ HB6.out
    clear hb_ HU HB5 HE hE
    go_wp2_with fail
    go_roundw
    case rel => exact ⟨k + 1, by omega, by go_num, HB6⟩
    case measure => simp [intOf]; omega
  ·have HBf := Lib.hid (HB1.out.trans (HB.out.mono HB1.out.size))
   clear HB
   go_wp2_with fail
   refine (lives_any wr).mono ?_
   rintro e wl ⟨rfl, hb_⟩
   have HBl := Lib.hid (HBf.out.trans (hb_.mono HBf.out.size))
   clear hb_
   go_wp2_with fail
   go_ret
   exact ⟨rfl, HBl.out⟩
end Go.Proofs.YtnapnkmehnabfaaGreat
