import Derived.Test.YtnapnkmehnabfaaGreatU3
import Derived.Test.YtnapnkmehnabfaaGreatP46
namespace Go.Proofs.YtnapnkmehnabfaaGreat
open Go.RowKit Go.Maps

/-- Is element j another one than the one before? -/
def keepB (L : List (Int × Int)) (j : Nat) : Bool := decide (j = 0) || decide (L.getD j (0, 0) ≠ L.getD (j - 1) (0, 0))
/-- The first i elements without those that repeat the one before. -/
def cmpF (L : List (Int × Int)) (i : Nat) : List (Int × Int) := ((List.range i).filter (keepB L)).map fun j => L.getD j (0, 0)
theorem cmpF_keep {L : List (Int × Int)} {i : Nat} (h : keepB L i = true) : cmpF L (i + 1) = cmpF L i ++ [L.getD i (0, 0)] := by
 rw [cmpF, List.range_succ, List.filter_append, List.map_append, List.filter_cons_of_pos h]; rfl
theorem cmpF_skip {L : List (Int × Int)} {i : Nat} (h : keepB L i = false) : cmpF L (i + 1) = cmpF L i := by
 rw [cmpF, List.range_succ, List.filter_append, List.map_append, List.filter_cons_of_neg (by simp [h]), List.filter_nil, List.map_nil, List.append_nil]; rfl
theorem cmpF_len (L : List (Int × Int)) (i : Nat) : (cmpF L i).length ≤ i := by
 have := List.length_filter_le (keepB L) (List.range i)
 rw [List.length_range] at this
 simpa [cmpF] using this
theorem take_snoc {L : List (Int × Int)} {i : Nat} (h : i < L.length) : L.take i ++ [L.getD i (0, 0)] = L.take (i + 1) := by
 rw [List.take_add_one, List.getElem?_eq_getElem h, List.getD_eq_getElem?_getD, List.getElem?_eq_getElem h]; rfl
theorem keepB_ne {L : List (Int × Int)} {j : Nat} {s t : Int × Int} (hs : L[j + 1]? = some s) (ht : L[j]? = some t) : keepB L (j + 1) = !(s.1 == t.1 && s.2 == t.2) := by
 have e1 : L.getD (j + 1) (0, 0) = s := by rw [List.getD_eq_getElem?_getD, hs]; rfl
 have e2 : L.getD j (0, 0) = t := by rw [List.getD_eq_getElem?_getD, ht]; rfl
 unfold keepB
 rw [Nat.add_sub_cancel, e1, e2]
 obtain ⟨a, b⟩ := s
 obtain ⟨c, d⟩ := t
 by_cases h1 : a = c
 ·by_cases h2 : b = d
  ·simp [h1, h2]
  ·simp [h1, h2]
 ·simp [h1]
theorem put_next {A L : List (Int × Int)} {x : Int × Int} (h : A.length < L.length) : (A ++ L.drop A.length).set A.length x = (A ++ [x]) ++ L.drop (A ++ [x]).length := by
 rw [List.set_append_right _ _ (Nat.le_refl _), Nat.sub_self, List.drop_eq_getElem_cons h, List.set_cons_zero, List.length_append, List.append_assoc]
 rfl
theorem rest_get {A L : List (Int × Int)} {j : Nat} (h : A.length ≤ j) : (A ++ L.drop A.length)[j]? = L[j]? := by
 rw [List.getElem?_append_right h, List.getElem?_drop, Nat.add_sub_cancel' h]
theorem own_cells {w : World} {base g n c j : Nat} {l : List (Int × Int)} {t : Int × Int} (h : w.ownsRow base 77 2 (.slice (some ⟨g, 0, none⟩) n c) n (idC l)) (hj : l[j]? = some t) :
  w.cell? ⟨g, j * 2, none⟩ = some (.int .u64 t.1) ∧ w.cell? ⟨g, j * 2 + 1, none⟩ = some (.int .i64 t.2) ∧ w.frozen? ⟨g, j * 2, none⟩ = false ∧ w.frozen? ⟨g, j * 2 + 1, none⟩ = false := by
 obtain ⟨cur, hb, hc⟩ := own_bk2 h
 obtain ⟨h1, h2⟩ := idC_at l j t hj
 have hl : l.length = n := by have := h.1; rw [idC_len] at this; omega
 have hjn : j < n := by have := (List.getElem?_eq_some_iff.1 hj).1; omega
 rw [← hc, List.getElem?_take_of_lt (by omega)] at h1 h2
 exact ⟨by rw [hb.cell]; simpa using h1, by rw [hb.cell]; simpa using h2, hb.frozen _, hb.frozen _⟩
set_option linter.unusedSimpArgs false in
set_option maxHeartbeats 8000000 in
set_option maxRecDepth 100000 in
theorem compact_any (A : Option Addr) (c : Nat) (L : List (Int × Int)) (base : Nat) (w : World) (h : w.ownsRow base 77 2 (.slice A L.length c) L.length (idC L)) (hL : L.length ≤ 1000000) :
  Calls Tryz.prog 103 #[.slice A L.length c] w fun e w' => ∃ c', e = .returned (.slice A (cmpF L L.length).length c') ∧ w'.ownsRow base 77 2 (.slice A (cmpF L L.length).length c') (cmpF L L.length).length (idC (cmpF L L.length)) ∧ w.grownBy w' (Value.slice A L.length c).ownBlock := by
 obtain ⟨n, hn⟩ : ∃ z, Hid (L.length = z) := ⟨_, Lib.hid rfl⟩
 rw [hn.out] at h hL ⊢
 have hcap := own_cap h
 have HO := Lib.hid h
 have hcm : c ≤ 9223372036854775807 := by
  rcases h.2 with ⟨he, _⟩ | ⟨_, _, _, he, _, _, _, h3, _⟩
  ·injection he with _ _ e3; omega
  ·injection he with _ _ e3; unfold maxLen at h3; omega
 by_cases h2 : n < 2
 ·have e : cmpF L n = L := by
   have h01 : n = 0 ∨ n = 1 := by omega
   rcases h01 with rfl | rfl
   ·rw [List.eq_nil_of_length_eq_zero hn.out]; rfl
   ·obtain ⟨t, ht⟩ := List.length_eq_one_iff.1 hn.out
    rw [ht]; rfl
  rw [e, hn.out]
  clear h e
  go_enter Tryz.func103, Tryz.ntmps103
  go_wp2_with fail
  go_ret
  exact ⟨c, rfl, HO.out, (grown_below (Below.refl _ _) _)⟩
 ·obtain ⟨g, hg⟩ : ∃ g, A = some ⟨g, 0, none⟩ := by
   rcases h.2 with ⟨_, h0⟩ | ⟨g, _, _, he, _⟩
   ·omega
   ·injection he with e1 _ _; exact ⟨g, e1⟩
  subst hg
  clear h
  have h2i : ¬ (n : Int) < 2 := by omega
  go_enter Tryz.func103, Tryz.ntmps103
  go_wp2_with fail
  go_loopw [3] (fun v wr => ∃ m : Nat, m + 1 ≤ n ∧ v = .int .i64 ((m : Int) + 1) ∧ Hid (cmpF L (m + 1) = L.take (m + 1)) ∧ Hid (wr.ownsRow base 77 2 (.slice (some ⟨g, 0, none⟩) n c) n (idC L)) ∧ Hid (w.grownBy wr (some g))) (fun v _ => n - (intOf v).toNat)
  case atStart => exact ⟨0, by omega, rfl, Lib.hid (by rw [cmpF_keep (i := 0) rfl]; exact take_snoc (i := 0) (by rw [hn.out]; omega)), HO, Lib.hid (grown_below (Below.refl _ _) _)⟩
  case round =>
   clear HO
   obtain ⟨m, hm, rfl, Hc, HO, HG⟩ := hrel
   by_cases hlt : m + 1 < n
   ·obtain ⟨⟨x, y⟩, hs⟩ : ∃ t, Hid (L[m + 1]? = some t) := ⟨_, Lib.hid (List.getElem?_eq_getElem (by rw [hn.out]; exact hlt))⟩
    obtain ⟨⟨x', y'⟩, ht⟩ : ∃ t, Hid (L[m]? = some t) := ⟨_, Lib.hid (List.getElem?_eq_getElem (by rw [hn.out]; omega))⟩
    have hkb := keepB_ne hs.out ht.out
    have heq := fun W => eql_id x y x' y' W
    have w1 : IntKind.i64.wrap ((m : Int) + 1 - 1) = (m : Int) := by rw [show (m : Int) + 1 - 1 = (m : Int) by omega]; exact IntWalk.i64_in _ ⟨by omega, by omega⟩
    have hli : (m : Int) + 1 < (n : Int) := by omega
    have hlo : ¬ ((m : Int) + 1 < 0) := by omega
    have wm : IntKind.i64.wrap (m : Int) = (m : Int) := IntWalk.i64_in _ ⟨by omega, by omega⟩
    have hnm : ¬ (n ≤ m) := by omega
    have hnm1 : ¬ ((n : Int) ≤ (m : Int) + 1) := by omega
    go_upto_region 6 with fail
    have HOd := Lib.hid (own_below HO.out (Below.refl _ _).drew)
    have HGd := Lib.hid (grown_trans HG.out (grown_below (Below.refl _ _).drew (some g)))
    obtain ⟨c0, c1, _, _⟩ := own_cells HOd.out hs.out
    obtain ⟨c2, c3, _, _⟩ := own_cells HOd.out ht.out
    clear HO HG
    refine wp_region_noPanic ?_
    refine region_H (S := fun W => W.cell? ⟨g, (m + 1) * 2, none⟩ = some (.int .u64 x) ∧ W.cell? ⟨g, (m + 1) * 2 + 1, none⟩ = some (.int .i64 y) ∧ W.cell? ⟨g, m * 2, none⟩ = some (.int .u64 x') ∧ W.cell? ⟨g, m * 2 + 1, none⟩ = some (.int .i64 y')) (by kernel_rfl) ?_
    change wpH _ _ _ _ 10 _ _ wr.drew
    generalize wr.drew = X0 at *
    refine H_takeD (k := 0) (v := .slice (some ⟨g, 0, none⟩) n c) (d := some 16) rfl rfl (by decide +kernel) (fun _ _ _ h => h) (Or.inl ⟨by rfl, fun W hW => by obtain ⟨s0, s1, s2, s3⟩ := hW; go_simp⟩) ⟨c0, c1, c2, c3⟩ ?_
    try simp only [Act.put, qz0, qz1, qz2]
    refine H_takeD (k := 1) (v := .int .i64 ((m : Int) + 1)) (d := some 17) rfl rfl (by decide +kernel) (fun _ _ _ h => h) (Or.inl ⟨by rfl, fun W hW => by obtain ⟨s0, s1, s2, s3⟩ := hW; go_simp⟩) ⟨c0, c1, c2, c3⟩ ?_
    try simp only [Act.put, qz0, qz1, qz2]
    refine H_takeD (k := 2) (v := .pointer (some ⟨g, (m + 1) * 2, none⟩)) (d := some 18) rfl rfl (by decide +kernel) (fun _ _ _ h => h) (Or.inl ⟨by rfl, fun W hW => by obtain ⟨s0, s1, s2, s3⟩ := hW; go_simp⟩) ⟨c0, c1, c2, c3⟩ ?_
    try simp only [Act.put, qz0, qz1, qz2]
    refine H_takeD (k := 3) (v := .agg #[.int .u64 x, .int .i64 y]) (d := some 19) rfl rfl (by decide +kernel) (fun _ _ _ h => h) (Or.inl ⟨by rfl, fun W hW => by obtain ⟨s0, s1, s2, s3⟩ := hW; go_simp⟩) ⟨c0, c1, c2, c3⟩ ?_
    try simp only [Act.put, qz0, qz1, qz2]
    refine H_takeD (k := 4) (v := .slice (some ⟨g, 0, none⟩) n c) (d := some 20) rfl rfl (by decide +kernel) (fun _ _ _ h => h) (Or.inl ⟨by rfl, fun W hW => by obtain ⟨s0, s1, s2, s3⟩ := hW; go_simp⟩) ⟨c0, c1, c2, c3⟩ ?_
    try simp only [Act.put, qz0, qz1, qz2]
    refine H_takeD (k := 5) (v := .int .i64 ((m : Int) + 1)) (d := some 21) rfl rfl (by decide +kernel) (fun _ _ _ h => h) (Or.inl ⟨by rfl, fun W hW => by obtain ⟨s0, s1, s2, s3⟩ := hW; go_simp⟩) ⟨c0, c1, c2, c3⟩ ?_
    try simp only [Act.put, qz0, qz1, qz2]
    refine H_takeD (k := 6) (v := .int .i64 (m : Int)) (d := some 22) rfl rfl (by decide +kernel) (fun _ _ _ h => h) (Or.inl ⟨by rfl, fun W hW => by obtain ⟨s0, s1, s2, s3⟩ := hW; go_simp⟩) ⟨c0, c1, c2, c3⟩ ?_
    try simp only [Act.put, qz0, qz1, qz2]
    refine H_takeD (k := 7) (v := .pointer (some ⟨g, m * 2, none⟩)) (d := some 23) rfl rfl (by decide +kernel) (fun _ _ _ h => h) (Or.inl ⟨by rfl, fun W hW => by obtain ⟨s0, s1, s2, s3⟩ := hW; go_simp⟩) ⟨c0, c1, c2, c3⟩ ?_
    try simp only [Act.put, qz0, qz1, qz2]
    refine H_takeD (k := 8) (v := .agg #[.int .u64 x', .int .i64 y']) (d := some 24) rfl rfl (by decide +kernel) (fun _ _ _ h => h) (Or.inl ⟨by rfl, fun W hW => by obtain ⟨s0, s1, s2, s3⟩ := hW; go_simp⟩) ⟨c0, c1, c2, c3⟩ ?_
    try simp only [Act.put, qz0, qz1, qz2]
    refine H_takeD (k := 9) (v := .bool (x == x' && y == y')) (d := some 25) rfl rfl (by decide +kernel) (fun _ _ _ h => h) (Or.inl ⟨by rfl, fun W hW => by obtain ⟨s0, s1, s2, s3⟩ := hW; go_simp⟩) ⟨c0, c1, c2, c3⟩ ?_
    try simp only [Act.put, qz0, qz1, qz2]
    refine H_end (by decide +kernel) (NoPanic.normal ?_)
    try simp only [Act.put, qz0, qz1, qz2]
    cases hq : (x == x' && y == y')
    ·rw [hq] at hkb
     have Hc2 := Lib.hid (show cmpF L (m + 1 + 1) = L.take (m + 1 + 1) from by rw [cmpF_keep hkb, Hc.out]; exact take_snoc (by rw [hn.out]; exact hlt))
     clear heq hkb c0 c1 c2 c3 Hc
     go_wp2_with fail
     go_roundw
     case rel => exact ⟨m + 1, by omega, by go_num, Hc2, HOd, HGd⟩
     case measure => simp [intOf]; omega
    ·rw [hq] at hkb
     have Hc2 := Lib.hid (show cmpF L (m + 1 + 1) = L.take (m + 1) from by rw [cmpF_skip hkb, Hc.out])
     have hci : ¬ ((n : Int) < (m : Int) + 1) := by omega
     have hcj : ¬ (c = m + 1) := by omega
     have w4 : IntKind.i64.wrap ((n : Int) - ((m : Int) + 1)) = (n : Int) - ((m : Int) + 1) := IntWalk.i64_in _ ⟨by omega, by omega⟩
     clear heq hkb c0 c1 c2 c3 Hc
     go_upto_region 8 with fail
     obtain ⟨R, hR⟩ : ∃ z, Hid (n - (m + 1) = z) := ⟨_, Lib.hid rfl⟩
     obtain ⟨D, hD⟩ : ∃ z, Hid (c - (m + 1) = z) := ⟨_, Lib.hid rfl⟩
     rw [hR.out, hD.out]
     have hRn : m + 1 + R = n := by have := hR.out; omega
     have hOs := Lib.hid (show X0.ownsRow base 77 2 (.slice (some ⟨g, 0, none⟩) n c) n (idC (cmpF L (m + 1 + 0 + 1) ++ L.drop (m + 1))) from by
      rw [show m + 1 + 0 + 1 = m + 1 + 1 from rfl, Hc2.out, List.take_append_drop]; exact HOd.out)
     have hLs := Lib.hid (show (cmpF L (m + 1 + 0 + 1)).length = m + 1 from by rw [show m + 1 + 0 + 1 = m + 1 + 1 from rfl, Hc2.out, List.length_take, hn.out]; omega)
     clear HOd Hc2
     go_wp2_with fail
     go_loopw [3, 5] (fun kv iv wr2 => ∃ kk i2 : Nat, kv = .int .i64 (kk : Int) ∧ iv = .int .i64 ((i2 : Int) + 1) ∧ i2 + 1 ≤ R ∧ kk ≤ m + 1 + i2 ∧ Hid ((cmpF L (m + 1 + i2 + 1)).length = kk) ∧ Hid (wr2.ownsRow base 77 2 (.slice (some ⟨g, 0, none⟩) n c) n (idC (cmpF L (m + 1 + i2 + 1) ++ L.drop kk))) ∧ Hid (w.grownBy wr2 (some g))) (fun _ iv _ => R - (intOf iv).toNat)
     case atStart => exact ⟨m + 1, 0, by go_num, by go_num, by omega, by omega, hLs, hOs, HGd⟩
     case round =>
      clear hLs hOs HGd
      obtain ⟨kk, i2, rfl, rfl, hi2, hkk, Hlen, HO2, HG2⟩ := hrel
      by_cases hlt2 : i2 + 1 < R
      ·obtain ⟨⟨x, y⟩, hs2⟩ : ∃ t, Hid (L[m + 1 + i2 + 1]? = some t) := ⟨_, Lib.hid (List.getElem?_eq_getElem (by rw [hn.out]; omega))⟩
       obtain ⟨⟨x', y'⟩, ht2⟩ : ∃ t, Hid (L[m + 1 + i2]? = some t) := ⟨_, Lib.hid (List.getElem?_eq_getElem (by rw [hn.out]; omega))⟩
       have hkb := keepB_ne hs2.out ht2.out
       have hC1 := (rest_get (A := cmpF L (m + 1 + i2 + 1)) (L := L) (j := m + 1 + i2 + 1) (by rw [Hlen.out]; omega)).trans hs2.out
       have hC2 := (rest_get (A := cmpF L (m + 1 + i2 + 1)) (L := L) (j := m + 1 + i2) (by rw [Hlen.out]; omega)).trans ht2.out
       rw [Hlen.out] at hC1 hC2
       have heq := fun W => neq_id x y x' y' W
       have w5 : IntKind.i64.wrap (i2 : Int) = (i2 : Int) := IntWalk.i64_in _ ⟨by omega, by omega⟩
       have hlj : (i2 : Int) + 1 < (R : Int) := by omega
       have hlk : ¬ ((i2 : Int) + 1 < 0) := by omega
       have hlm : ¬ (R ≤ i2) := by omega
       have hln : ¬ ((R : Int) ≤ (i2 : Int) + 1) := by omega
       go_upto_region 11 with fail
       have HO3 := Lib.hid (own_below HO2.out (Below.refl _ _).drew)
       have HG3 := Lib.hid (grown_trans HG2.out (grown_below (Below.refl _ _).drew (some g)))
       obtain ⟨d0, d1, _, _⟩ := own_cells HO3.out hC1
       obtain ⟨d2, d3, _, _⟩ := own_cells HO3.out hC2
       rw [show (m + 1 + i2 + 1) * 2 = (m + 1) * 2 + (i2 + 1) * 2 by omega] at d0 d1
       rw [show (m + 1 + i2) * 2 = (m + 1) * 2 + i2 * 2 by omega] at d2 d3
       have HC1 := Lib.hid hC1
       clear HO2 HG2 hC1 hC2
       refine wp_region_noPanic ?_
       refine region_H (S := fun W => W.cell? ⟨g, (m + 1) * 2 + (i2 + 1) * 2, none⟩ = some (.int .u64 x) ∧ W.cell? ⟨g, (m + 1) * 2 + (i2 + 1) * 2 + 1, none⟩ = some (.int .i64 y) ∧ W.cell? ⟨g, (m + 1) * 2 + i2 * 2, none⟩ = some (.int .u64 x') ∧ W.cell? ⟨g, (m + 1) * 2 + i2 * 2 + 1, none⟩ = some (.int .i64 y')) (by kernel_rfl) ?_
       change wpH _ _ _ _ 10 _ _ wr.drew
       generalize wr.drew = Y0 at *
       refine H_takeD (k := 0) (v := .slice (some ⟨g, (m + 1) * 2, none⟩) R D) (d := some 35) rfl rfl (by decide +kernel) (fun _ _ _ h => h) (Or.inl ⟨by rfl, fun W hW => by obtain ⟨s0, s1, s2, s3⟩ := hW; go_simp⟩) ⟨d0, d1, d2, d3⟩ ?_
       try simp only [Act.put, qz0, qz1, qz2]
       refine H_takeD (k := 1) (v := .int .i64 ((i2 : Int) + 1)) (d := some 36) rfl rfl (by decide +kernel) (fun _ _ _ h => h) (Or.inl ⟨by rfl, fun W hW => by obtain ⟨s0, s1, s2, s3⟩ := hW; go_simp⟩) ⟨d0, d1, d2, d3⟩ ?_
       try simp only [Act.put, qz0, qz1, qz2]
       refine H_takeD (k := 2) (v := .pointer (some ⟨g, (m + 1) * 2 + (i2 + 1) * 2, none⟩)) (d := some 37) rfl rfl (by decide +kernel) (fun _ _ _ h => h) (Or.inl ⟨by rfl, fun W hW => by obtain ⟨s0, s1, s2, s3⟩ := hW; go_simp⟩) ⟨d0, d1, d2, d3⟩ ?_
       try simp only [Act.put, qz0, qz1, qz2]
       refine H_takeD (k := 3) (v := .agg #[.int .u64 x, .int .i64 y]) (d := some 38) rfl rfl (by decide +kernel) (fun _ _ _ h => h) (Or.inl ⟨by rfl, fun W hW => by obtain ⟨s0, s1, s2, s3⟩ := hW; go_simp⟩) ⟨d0, d1, d2, d3⟩ ?_
       try simp only [Act.put, qz0, qz1, qz2]
       refine H_takeD (k := 4) (v := .slice (some ⟨g, (m + 1) * 2, none⟩) R D) (d := some 39) rfl rfl (by decide +kernel) (fun _ _ _ h => h) (Or.inl ⟨by rfl, fun W hW => by obtain ⟨s0, s1, s2, s3⟩ := hW; go_simp⟩) ⟨d0, d1, d2, d3⟩ ?_
       try simp only [Act.put, qz0, qz1, qz2]
       refine H_takeD (k := 5) (v := .int .i64 ((i2 : Int) + 1)) (d := some 40) rfl rfl (by decide +kernel) (fun _ _ _ h => h) (Or.inl ⟨by rfl, fun W hW => by obtain ⟨s0, s1, s2, s3⟩ := hW; go_simp⟩) ⟨d0, d1, d2, d3⟩ ?_
       try simp only [Act.put, qz0, qz1, qz2]
       refine H_takeD (k := 6) (v := .int .i64 (i2 : Int)) (d := some 41) rfl rfl (by decide +kernel) (fun _ _ _ h => h) (Or.inl ⟨by rfl, fun W hW => by obtain ⟨s0, s1, s2, s3⟩ := hW; go_simp⟩) ⟨d0, d1, d2, d3⟩ ?_
       try simp only [Act.put, qz0, qz1, qz2]
       refine H_takeD (k := 7) (v := .pointer (some ⟨g, (m + 1) * 2 + i2 * 2, none⟩)) (d := some 42) rfl rfl (by decide +kernel) (fun _ _ _ h => h) (Or.inl ⟨by rfl, fun W hW => by obtain ⟨s0, s1, s2, s3⟩ := hW; go_simp⟩) ⟨d0, d1, d2, d3⟩ ?_
       try simp only [Act.put, qz0, qz1, qz2]
       refine H_takeD (k := 8) (v := .agg #[.int .u64 x', .int .i64 y']) (d := some 43) rfl rfl (by decide +kernel) (fun _ _ _ h => h) (Or.inl ⟨by rfl, fun W hW => by obtain ⟨s0, s1, s2, s3⟩ := hW; go_simp⟩) ⟨d0, d1, d2, d3⟩ ?_
       try simp only [Act.put, qz0, qz1, qz2]
       refine H_takeD (k := 9) (v := .bool (!(x == x' && y == y'))) (d := some 44) rfl rfl (by decide +kernel) (fun _ _ _ h => h) (Or.inl ⟨by rfl, fun W hW => by obtain ⟨s0, s1, s2, s3⟩ := hW; go_simp⟩) ⟨d0, d1, d2, d3⟩ ?_
       try simp only [Act.put, qz0, qz1, qz2]
       refine H_end (by decide +kernel) (NoPanic.normal ?_)
       try simp only [Act.put, qz0, qz1, qz2]
       cases hq2 : (!(x == x' && y == y'))
       ·rw [hq2] at hkb
        have hF := cmpF_skip hkb
        rw [← hF] at Hlen HO3
        clear heq hkb d0 d1 d2 d3 hF
        go_wp2_with fail
        go_roundw
        case rel => exact ⟨kk, i2 + 1, rfl, by go_num, by omega, by omega, Hlen, HO3, HG3⟩
        case measure => simp [intOf]; omega
       ·rw [hq2] at hkb
        have hF := cmpF_keep hkb
        have hkn : kk < n := by omega
        have hgd : L.getD (m + 1 + i2 + 1) (0, 0) = (x, y) := by rw [List.getD_eq_getElem?_getD, hs2.out]; rfl
        rw [hgd] at hF
        obtain ⟨⟨u, v⟩, hu⟩ : ∃ t, (cmpF L (m + 1 + i2 + 1) ++ L.drop kk)[kk]? = some t := ⟨_, List.getElem?_eq_getElem (by rw [List.length_append, Hlen.out, List.length_drop, hn.out]; omega)⟩
        obtain ⟨p0, p1, f0, f1⟩ := own_cells HO3.out hu
        have hpn := put_next (A := cmpF L (m + 1 + i2 + 1)) (L := L) (x := (x, y)) (by rw [Hlen.out, hn.out]; exact hkn)
        rw [← hF, Hlen.out] at hpn
        have hl2 : (cmpF L (m + 1 + i2 + 1 + 1)).length = kk + 1 := by rw [hF, List.length_append, Hlen.out]; rfl
        rw [hl2] at hpn
        have hO4 := own_put2 HO3.out hkn (x, y)
        rw [hpn] at hO4
        have HO4 := Lib.hid hO4
        have HG4 := Lib.hid (grown_trans (grown_trans HG3.out (grown_set _ g (kk * 2) (.int .u64 x))) (grown_set _ g (kk * 2 + 1) (.int .i64 y)))
        have Hl2 := Lib.hid hl2
        have hk1 : ¬ (n ≤ kk) := by omega
        have w6 : IntKind.i64.wrap ((kk : Int) + 1) = (kk : Int) + 1 := IntWalk.i64_in _ ⟨by omega, by omega⟩
        clear heq hkb hF hgd hu hpn hl2 hO4 HO3 HG3 Hlen HC1
        go_wp2_with fail
        go_roundw
        case rel => exact ⟨kk + 1, i2 + 1, by go_num, by go_num, by omega, by omega, Hl2, HO4, HG4⟩
        case measure => simp [intOf]; omega
      ·have hRe : m + 1 + i2 + 1 = n := by omega
       rw [hRe] at Hlen HO2
       have hkn : kk < n := by omega
       obtain ⟨wz, hrun, hown, hgr⟩ := run_clear_id HO2.out hkn
       have e1 : (cmpF L n ++ L.drop kk).take kk = cmpF L n := by rw [← Hlen.out]; exact List.take_left
       rw [e1] at hown
       have HOz := Lib.hid hown
       have HGz := Lib.hid (grown_trans HG2.out hgr)
       have hlj : ¬ ((i2 : Int) + 1 < (R : Int)) := by omega
       have hk0 : ¬ ((kk : Int) < 0) := by omega
       have hk1 : ¬ ((n : Int) < (kk : Int)) := by omega
       have hk2 : ¬ (n < kk) := by omega
       have hk3 : ¬ (c = kk) := by omega
       have hk4 : ¬ ((c : Int) < (kk : Int)) := by omega
       have hk5 : ¬ (c < kk) := by omega
       clear hown hgr e1 HO2 HG2
       go_wp2_with fail
       go_ret
       exact ⟨c, by rw [Hlen.out]; rfl, by rw [Hlen.out]; exact HOz.out, HGz.out⟩
   ·obtain rfl : n = m + 1 := by omega
    have hli : ¬ (m : Int) + 1 < (m : Int) + 1 := by omega
    have e1 : cmpF L (m + 1) = L := by rw [Hc.out, List.take_of_length_le (by rw [hn.out]; exact Nat.le_refl _)]
    have E1 := Lib.hid e1
    have HG2 := HG
    clear HG e1
    go_wp2_with fail
    go_ret
    exact ⟨c, by rw [E1.out, hn.out]; rfl, by rw [E1.out, hn.out]; exact HO.out, HG2.out⟩
end Go.Proofs.YtnapnkmehnabfaaGreat
