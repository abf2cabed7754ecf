import Derived.Test.YtaegfljpodhnhaaHB
import Derived.Test.YtaegfljpodhnhaaT3
import Derived.Deep.DeepCutAuto
namespace Go.Proofs.Ytaegfljpodhnhaa
open Go.RowKit Go.Maps

theorem enc_split (x y : List Int) : encB [x, y] = vb (zz 2) ++ (vb x.length ++ (vbs x ++ (vb y.length ++ (vbs y ++ [])))) := by
  show vb (zz 2) ++ ((vb x.length ++ vbs x) ++ ((vb y.length ++ vbs y) ++ [])) = _
  simp only [List.append_assoc]

theorem sll_one {w : World} {A : Option Addr} {l : List Int} (h : SI w A l) (n c : Nat) (hn : l.length = n) : SLL (w.alloc (.cells #[.slice A n c] 22)) (some ⟨w.heap.size, 0, none⟩) [l] := by
  have hk := Bk.new w 22 #[.slice A n c]
  refine ⟨[.slice A n c], fun j u hu => ⟨_, 0, rfl, hk.lt, ?_⟩, rfl, fun j v q hv hq => ?_⟩
  · rw [hk.cell, Nat.zero_add]
    simpa using hu
  · match j with
    | 0 =>
      simp at hv hq
      subst hv hq hn
      exact ⟨_, _, rfl, h.alloc _⟩
    | j + 1 => simp at hv
theorem enc_nil : encB [] = [0] := by
  show vb (zz 0) ++ [] = [0]
  rw [List.append_nil, vb_small (show zz 0 < 128 by decide)]
  rfl
theorem sll_nil (w : World) : SLL w none [] := ⟨[], SL.nil_, rfl, fun j v l h => by simp at h⟩
theorem few_one {l : List Int} (h : Sm l) : Few [l] := fun q hq => by
  simp at hq
  subst hq
  exact ⟨fun z hz => by have := h.2 z hz; omega, by have := h.1; omega⟩
theorem fc_law (P Q : Nat) (v : Int) (h : ((P : Nat) : Int) = (Q : Nat) ↔ v = 0) : ((P : Int) == (Q : Int)) = (v == 0) := by
  by_cases hv : v = 0
  · rw [beq_iff_eq.2 hv, beq_iff_eq.2 (h.2 hv)]
  · rw [beq_eq_false_iff_ne.2 hv, beq_eq_false_iff_ne.2 (fun e => hv (h.1 e))]

set_option linter.unusedSimpArgs false in
set_option maxHeartbeats 16000000 in
set_option maxRecDepth 100000 in
theorem bytes_walk (A B : Option Addr) (ca cb : Nat) (l m : List Int) (at_ by_ : Int) (w : World) (hA : SI w A l) (hB : SI w B m) (hwl : W64 l) (hwm : W64 m) (hca : l.length ≤ ca) (hcb : m.length ≤ cb)
    (h1 : -9223372036854775808 ≤ at_ ∧ at_ ≤ 9223372036854775807) (h2 : -9223372036854775808 ≤ by_ ∧ by_ ≤ 9223372036854775807) :
    Calls Try.prog 6 #[.slice A l.length ca, .slice B m.length cb, .int .i64 at_, .int .i64 by_] w fun e w' => e = .returned (.bool true) ∧ Below w.heap.size w w' := by
  go_enter Try.func6, Try.ntmps6
  go_wp2_with fail
  refine (refTake_any A ca 20 l w hA hca (by omega)).mono ?_
  rintro e w1 ⟨v1, rfl, hown1, hb1⟩
  have hxl : (l.take 20).length ≤ 20 := by simp; omega
  have hxw : W64 (l.take 20) := fun z hz => hwl z (List.mem_of_mem_take hz)
  generalize l.take 20 = x at *
  obtain ⟨A1, c1, rfl⟩ := own_slice hown1
  have Hown1 := Lib.hid hown1
  have Hb1 := Lib.hid hb1
  clear hown1 hb1
  go_wp2_with fail
  refine (refTake_any B cb 20 m w1 (hB.below Hb1.out) hcb (by omega)).mono ?_
  rintro e w2 ⟨v2, rfl, hown2, hb2⟩
  have hyl : (m.take 20).length ≤ 20 := by simp; omega
  have hyw : W64 (m.take 20) := fun z hz => hwm z (List.mem_of_mem_take hz)
  generalize m.take 20 = y at *
  obtain ⟨B1, d1, rfl⟩ := own_slice hown2
  have hX2 : SI w2 A1 x := SI.below (SL.of_own Hown1.out) hb2
  have hY2 : SI w2 B1 y := SL.of_own hown2
  have Hb2 := Lib.hid (Hb1.out.trans (hb2.mono Hb1.out.size))
  have hk1 := (Bk.new w2 22 #[.slice A1 x.length c1, .slice B1 y.length d1]).alloc (.cells #[.slice (some ⟨w2.heap.size, 0, none⟩) 2 2] 36)
  have hk2 := Bk.new' (w2.alloc (.cells #[.slice A1 x.length c1, .slice B1 y.length d1] 22)) 36 #[.slice (some ⟨w2.heap.size, 0, none⟩) 2 2] (g := w2.heap.size + 1) (by simp)
  have hb23 : Below w2.heap.size w2 ((w2.alloc (.cells #[.slice A1 x.length c1, .slice B1 y.length d1] 22)).alloc (.cells #[.slice (some ⟨w2.heap.size, 0, none⟩) 2 2] 36)) := ((Below.refl _ _).alloc (Nat.le_refl _) _).alloc (by simp) _
  have HX := Lib.hid (hX2.below hb23)
  have HY := Lib.hid (hY2.below hb23)
  have Hbz := Lib.hid (Hb2.out.trans (hb23.mono Hb2.out.size))
  have hkw := Hb2.out.size
  have Hk1 := Lib.hid hk1
  have Hk2 := Lib.hid hk2
  clear hown2 hb2 Hown1 Hb1 hX2 hY2 hb23 hk1 hk2
  clear hA hB hwl hwm hca hcb
  go_wp2_with fail
  generalize (w2.alloc (.cells #[.slice A1 x.length c1, .slice B1 y.length d1] 22)).alloc (.cells #[.slice (some ⟨w2.heap.size, 0, none⟩) 2 2] 36) = wz at *
  generalize w2.heap.size = kg at *
  have hLLz : SLL wz (some ⟨kg, 0, none⟩) [x, y] := by
    refine ⟨[.slice A1 x.length c1, .slice B1 y.length d1], fun j u hu => ⟨kg, 0, rfl, Hk1.out.lt, ?_⟩, rfl, fun j v l hv hl => ?_⟩
    · rw [Hk1.out.cell, Nat.zero_add]
      simpa using hu
    · match j with
      | 0 => simp at hv hl; subst hv hl; exact ⟨_, _, rfl, HX.out⟩
      | 1 => simp at hv hl; subst hv hl; exact ⟨_, _, rfl, HY.out⟩
      | j + 2 => simp at hv
  have hFew : Few [x, y] := fun l hl => by
    simp at hl
    rcases hl with rfl | rfl
    · exact ⟨hxw, by omega⟩
    · exact ⟨hyw, by omega⟩
  have HLLz := Lib.hid hLLz
  clear hLLz
  refine (encode_any (some ⟨kg, 0, none⟩) 2 [x, y] wz HLLz.out hFew (by simp)).mono ?_
  rintro e w3 ⟨v3, rfl, hown3, hb3⟩
  have hlen := encTo_len [x, y] hFew
  have hlen1 := vb_ten (zz_lt (n := 2) (by omega))
  have hebl : (encB [x, y]).length ≤ 100000 := by rw [show encB [x, y] = vb (zz 2) ++ encTo [x, y] from rfl, List.length_append]; simp only [List.length_cons, List.length_nil] at hlen; omega
  have hsplit := enc_split x y
  generalize heb : encB [x, y] = eb at *
  have Heb := Lib.hid heb
  have Hsplit := Lib.hid hsplit
  clear heb hsplit hlen hlen1
  obtain ⟨Ab, cb2, rfl⟩ := own_slice hown3
  have HSb := Lib.hid (SL.of_own hown3)
  have HLL := Lib.hid (HLLz.out.below hb3)
  have HX := Lib.hid (HX.out.below hb3)
  have HY := Lib.hid (HY.out.below hb3)
  have Hk1 := Lib.hid (Hk1.out.below hb3 Hk1.out.lt)
  have Hk2 := Lib.hid (Hk2.out.below hb3 Hk2.out.lt)
  have Hb3 := Lib.hid (Hbz.out.trans (hb3.mono Hbz.out.size))
  clear hown3 hb3 HLLz Hbz Hb2
  go_wp2_with fail
  refine (read_any Ab cb2 eb w3 HSb.out (by omega)).mono ?_
  rintro e w4 ⟨r, rfl, hr3, hR4, hb4⟩
  have HR4 := Lib.hid hR4
  have Hb4 := Lib.hid hb4
  clear hR4 hb4
  go_upto_region 4 with fail
  have HB := Lib.hid (fun W (hW : Fr r r r w4 W) => Hb4.out.trans (hW.below (base := w3.heap.size) Hb4.out.size hr3 hr3 hr3))
  go_cut [65] (fun v wx => v = .bool false ∧ Below w3.heap.size w3 wx)
  case first => as_aux_lemma =>
    have HSg := Lib.hid (fun W (hW : Fr r r r w4 W) => And.intro ((Hk2.out.below (HB.out W hW) Hk2.out.lt).cell 0) (And.intro ((Hk1.out.below (HB.out W hW) Hk1.out.lt).cell 0) ((Hk1.out.below (HB.out W hW) Hk1.out.lt).cell 1)))
    have HFd := Lib.hid (Fr.refl r r r w4).drew
    have HRd := Lib.hid (HR4.out.below (Below.refl _ _).drew)
    have HS0 := Lib.hid (HSg.out _ HFd.out)
    refine wp_region_noPanic ?_
    refine region_H (S := fun W => W.cell? ⟨kg + 1, 0, none⟩ = some (.slice (some ⟨kg, 0, none⟩) 2 2) ∧ W.cell? ⟨kg, 0, none⟩ = some (.slice A1 x.length c1) ∧ W.cell? ⟨kg, 1, none⟩ = some (.slice B1 y.length d1)) (by kernel_rfl) ?_
    change wpH _ _ _ _ 40 _ _ w4.drew
    refine H_takeD (k := 0) (v := .slice Ab eb.length cb2) (d := some 26) rfl rfl (by decide +kernel) (fun _ _ _ h => h) (Or.inl ⟨by rfl, fun W hW => by obtain ⟨s0, s1, s2⟩ := hW; go_simp⟩) HS0.out ?_
    try simp only [Act.put, List.setIfInBounds_toArray, List.set_cons_zero, List.set_cons_succ]
    refine H_takeD (k := 1) (v := .pointer (some ⟨kg + 1, 0, none⟩)) (d := some 27) rfl rfl (by decide +kernel) (fun _ _ _ h => h) (Or.inl ⟨by rfl, fun W hW => by obtain ⟨s0, s1, s2⟩ := hW; go_simp⟩) HS0.out ?_
    try simp only [Act.put, List.setIfInBounds_toArray, List.set_cons_zero, List.set_cons_succ]
    refine H_takeD (k := 2) (v := .slice (some ⟨kg, 0, none⟩) 2 2) (d := some 28) rfl rfl (by decide +kernel) (fun _ _ _ h => h) (Or.inl ⟨by rfl, fun W hW => by obtain ⟨s0, s1, s2⟩ := hW; go_simp⟩) HS0.out ?_
    try simp only [Act.put, List.setIfInBounds_toArray, List.set_cons_zero, List.set_cons_succ]
    refine H_one (i := 3) (by decide +kernel) (H_step rfl rfl (fun K hK3 => ?_))
    have hK3 := Lib.hid hK3
    go_simp
    go_at_call 30
    refine (refEncode_any (some ⟨kg, 0, none⟩) 2 [x, y] _ (HLL.out.below (HB.out _ HFd.out)) hFew (by simp)).mono ?_
    rintro e w5 ⟨v5, rfl, hown5, hb5⟩
    rw [Heb.out] at hown5
    obtain ⟨E1, e1, rfl⟩ := own_slice hown5
    have HE5 := Lib.hid (SL.of_own hown5)
    have HR5 := Lib.hid (HRd.out.below hb5)
    have HF5 := Lib.hid (HFd.out.bl hb5)
    have HS5 := Lib.hid (HSg.out _ HF5.out)
    refine hK3.out _ _ HS5.out ?_
    try simp only [Act.put, List.setIfInBounds_toArray, List.set_cons_zero, List.set_cons_succ]
    refine H_one (i := 4) (by decide +kernel) (H_step rfl rfl (fun K hK4 => ?_))
    have hK4 := Lib.hid hK4
    go_simp
    go_at_call 29
    refine (sameBytes_any Ab E1 cb2 e1 eb _ (HSb.out.below (HB.out _ HF5.out)) HE5.out (by omega)).mono ?_
    rintro e w6 ⟨rfl, hq6⟩
    have HR6 := Lib.hid (HR5.out.below (hq6.below _))
    have HF6 := Lib.hid (HF5.out.qt hq6)
    have HS6 := Lib.hid (HSg.out _ HF6.out)
    refine hK4.out _ _ HS6.out ?_
    try simp only [Act.put, List.setIfInBounds_toArray, List.set_cons_zero, List.set_cons_succ]
    refine H_takeD (k := 5) (v := .bool false) (d := some 31) rfl rfl (by decide +kernel) (fun _ _ _ h => h) (Or.inl ⟨by rfl, fun W hW => by obtain ⟨s0, s1, s2⟩ := hW; go_simp⟩) HS6.out ?_
    try simp only [Act.put, List.setIfInBounds_toArray, List.set_cons_zero, List.set_cons_succ]
    refine H_takeD (k := 6) (v := .bool false) (d := some 32) rfl rfl (by decide +kernel) (fun _ _ _ h => h) (Or.inl ⟨by rfl, fun W hW => by obtain ⟨s0, s1, s2⟩ := hW; go_simp⟩) HS6.out ?_
    try simp only [Act.put, List.setIfInBounds_toArray, List.set_cons_zero, List.set_cons_succ]
    refine H_takeD (k := 7) (v := .pointer (some ⟨r, 0, none⟩)) (d := some 33) rfl rfl (by decide +kernel) (fun _ _ _ h => h) (Or.inl ⟨by simp [Region.wanted, yielded], fun W hW => by obtain ⟨s0, s1, s2⟩ := hW; go_simp⟩) HS6.out ?_
    try simp only [Act.put, List.setIfInBounds_toArray, List.set_cons_zero, List.set_cons_succ]
    refine H_takeD (k := 8) (v := .bool false) (d := some 34) rfl rfl (by decide +kernel) (fun _ _ _ h => h) (Or.inl ⟨by simp [Region.wanted, yielded], fun W hW => by obtain ⟨s0, s1, s2⟩ := hW; go_simp⟩) HS6.out ?_
    try simp only [Act.put, List.setIfInBounds_toArray, List.set_cons_zero, List.set_cons_succ]
    refine H_takeD (k := 9) (v := .bool false) (d := some 35) rfl rfl (by decide +kernel) (fun _ _ _ h => h) (Or.inl ⟨by rfl, fun W hW => by obtain ⟨s0, s1, s2⟩ := hW; go_simp⟩) HS6.out ?_
    try simp only [Act.put, List.setIfInBounds_toArray, List.set_cons_zero, List.set_cons_succ]
    refine H_takeD (k := 10) (v := .bool false) (d := some 36) rfl rfl (by decide +kernel) (fun _ _ _ h => h) (Or.inl ⟨by rfl, fun W hW => by obtain ⟨s0, s1, s2⟩ := hW; go_simp⟩) HS6.out ?_
    try simp only [Act.put, List.setIfInBounds_toArray, List.set_cons_zero, List.set_cons_succ]
    refine H_takeD (k := 11) (v := .pointer (some ⟨r, 0, none⟩)) (d := some 37) rfl rfl (by decide +kernel) (fun _ _ _ h => h) (Or.inl ⟨by simp [Region.wanted, yielded], fun W hW => by obtain ⟨s0, s1, s2⟩ := hW; go_simp⟩) HS6.out ?_
    try simp only [Act.put, List.setIfInBounds_toArray, List.set_cons_zero, List.set_cons_succ]
    refine H_one (i := 12) (by decide +kernel) (H_stepg rfl (by simp [Region.wanted, yielded]) (fun K hK12 => ?_))
    have hK12 := Lib.hid hK12
    go_simp
    go_at_call 31
    refine (rInt_any r _ 2 _ _ (by rw [← Hsplit.out]; exact HR6.out) (by omega)).mono ?_
    rintro e w7 ⟨rfl, hR7, hF7⟩
    have HR7 := Lib.hid hR7
    have HF7 := Lib.hid (HF6.out.trans_ hF7)
    have HS7 := Lib.hid (HSg.out _ HF7.out)
    refine hK12.out _ _ HS7.out ?_
    try simp only [Act.put, List.setIfInBounds_toArray, List.set_cons_zero, List.set_cons_succ]
    refine H_takeD (k := 13) (v := .bool false) (d := some 39) rfl rfl (by decide +kernel) (fun _ _ _ h => h) (Or.inl ⟨by simp [Region.wanted, yielded], fun W hW => by obtain ⟨s0, s1, s2⟩ := hW; go_simp⟩) HS7.out ?_
    try simp only [Act.put, List.setIfInBounds_toArray, List.set_cons_zero, List.set_cons_succ]
    refine H_takeD (k := 14) (v := .bool false) (d := some 40) rfl rfl (by decide +kernel) (fun _ _ _ h => h) (Or.inl ⟨by rfl, fun W hW => by obtain ⟨s0, s1, s2⟩ := hW; go_simp⟩) HS7.out ?_
    try simp only [Act.put, List.setIfInBounds_toArray, List.set_cons_zero, List.set_cons_succ]
    refine H_takeD (k := 15) (v := .bool false) (d := some 41) rfl rfl (by decide +kernel) (fun _ _ _ h => h) (Or.inl ⟨by rfl, fun W hW => by obtain ⟨s0, s1, s2⟩ := hW; go_simp⟩) HS7.out ?_
    try simp only [Act.put, List.setIfInBounds_toArray, List.set_cons_zero, List.set_cons_succ]
    refine H_takeD (k := 16) (v := .pointer (some ⟨r, 0, none⟩)) (d := some 42) rfl rfl (by decide +kernel) (fun _ _ _ h => h) (Or.inl ⟨by simp [Region.wanted, yielded], fun W hW => by obtain ⟨s0, s1, s2⟩ := hW; go_simp⟩) HS7.out ?_
    try simp only [Act.put, List.setIfInBounds_toArray, List.set_cons_zero, List.set_cons_succ]
    refine H_takeD (k := 18) (v := .pointer (some ⟨kg + 1, 0, none⟩)) (d := some 44) rfl rfl (by decide +kernel) (fun _ _ _ h => h) (Or.inl ⟨by simp [Region.wanted, yielded], fun W hW => by obtain ⟨s0, s1, s2⟩ := hW; go_simp⟩) HS7.out ?_
    try simp only [Act.put, List.setIfInBounds_toArray, List.set_cons_zero, List.set_cons_succ]
    refine H_takeD (k := 19) (v := .slice (some ⟨kg, 0, none⟩) 2 2) (d := some 45) rfl rfl (by decide +kernel) (fun _ _ _ h => h) (Or.inl ⟨by simp [Region.wanted, yielded], fun W hW => by obtain ⟨s0, s1, s2⟩ := hW; go_simp⟩) HS7.out ?_
    try simp only [Act.put, List.setIfInBounds_toArray, List.set_cons_zero, List.set_cons_succ]
    refine H_takeD (k := 20) (v := .pointer (some ⟨kg, 0, none⟩)) (d := some 46) rfl rfl (by decide +kernel) (fun _ _ _ h => h) (Or.inl ⟨by simp [Region.wanted, yielded], fun W hW => by obtain ⟨s0, s1, s2⟩ := hW; go_simp⟩) HS7.out ?_
    try simp only [Act.put, List.setIfInBounds_toArray, List.set_cons_zero, List.set_cons_succ]
    refine H_takeD (k := 21) (v := .slice A1 x.length c1) (d := some 47) rfl rfl (by decide +kernel) (fun _ _ _ h => h) (Or.inl ⟨by simp [Region.wanted, yielded], fun W hW => by obtain ⟨s0, s1, s2⟩ := hW; go_simp⟩) HS7.out ?_
    try simp only [Act.put, List.setIfInBounds_toArray, List.set_cons_zero, List.set_cons_succ]
    refine H_one (i := 17) (by decide +kernel) (H_stepg rfl (by simp [Region.wanted, yielded]) (fun K hK21 => ?_))
    have hK21 := Lib.hid hK21
    go_simp
    go_at_call 33
    refine (rInts_any r _ x _ _ HR7.out HF7.out.size hxw (by omega)).mono ?_
    rintro e w8 ⟨v8, rfl, hown8, hR8, hF8⟩
    obtain ⟨X8, x8, rfl⟩ := own_slice hown8
    have HX8 := Lib.hid (SL.of_own hown8)
    have HR8 := Lib.hid hR8
    have HF8 := Lib.hid (HF7.out.trans_ hF8)
    have HS8 := Lib.hid (HSg.out _ HF8.out)
    refine hK21.out _ _ HS8.out ?_
    try simp only [Act.put, List.setIfInBounds_toArray, List.set_cons_zero, List.set_cons_succ]
    refine H_one (i := 22) (by decide +kernel) (H_stepg rfl (by simp [Region.wanted, yielded]) (fun K hK22 => ?_))
    have hK22 := Lib.hid hK22
    go_simp
    go_at_call 32
    refine (sameInts_any X8 A1 x8 c1 x x _ HX8.out (HX.out.below (HB.out _ HF8.out)) (by omega) (by omega)).mono ?_
    rintro e w9 ⟨he, hq9⟩
    obtain rfl : e = .returned (.bool true) := by rw [he]; simp
    have HR9 := Lib.hid (HR8.out.below (hq9.below _))
    have HF9 := Lib.hid (HF8.out.qt hq9)
    have HS9 := Lib.hid (HSg.out _ HF9.out)
    refine hK22.out _ _ HS9.out ?_
    try simp only [Act.put, List.setIfInBounds_toArray, List.set_cons_zero, List.set_cons_succ]
    refine H_takeD (k := 23) (v := .bool false) (d := some 49) rfl rfl (by decide +kernel) (fun _ _ _ h => h) (Or.inl ⟨by simp [Region.wanted, yielded], fun W hW => by obtain ⟨s0, s1, s2⟩ := hW; go_simp⟩) HS9.out ?_
    try simp only [Act.put, List.setIfInBounds_toArray, List.set_cons_zero, List.set_cons_succ]
    refine H_takeD (k := 24) (v := .bool false) (d := some 50) rfl rfl (by decide +kernel) (fun _ _ _ h => h) (Or.inl ⟨by rfl, fun W hW => by obtain ⟨s0, s1, s2⟩ := hW; go_simp⟩) HS9.out ?_
    try simp only [Act.put, List.setIfInBounds_toArray, List.set_cons_zero, List.set_cons_succ]
    refine H_takeD (k := 25) (v := .bool false) (d := some 51) rfl rfl (by decide +kernel) (fun _ _ _ h => h) (Or.inl ⟨by rfl, fun W hW => by obtain ⟨s0, s1, s2⟩ := hW; go_simp⟩) HS9.out ?_
    try simp only [Act.put, List.setIfInBounds_toArray, List.set_cons_zero, List.set_cons_succ]
    refine H_takeD (k := 26) (v := .pointer (some ⟨r, 0, none⟩)) (d := some 52) rfl rfl (by decide +kernel) (fun _ _ _ h => h) (Or.inl ⟨by simp [Region.wanted, yielded], fun W hW => by obtain ⟨s0, s1, s2⟩ := hW; go_simp⟩) HS9.out ?_
    try simp only [Act.put, List.setIfInBounds_toArray, List.set_cons_zero, List.set_cons_succ]
    refine H_takeD (k := 28) (v := .pointer (some ⟨kg + 1, 0, none⟩)) (d := some 54) rfl rfl (by decide +kernel) (fun _ _ _ h => h) (Or.inl ⟨by simp [Region.wanted, yielded], fun W hW => by obtain ⟨s0, s1, s2⟩ := hW; go_simp⟩) HS9.out ?_
    try simp only [Act.put, List.setIfInBounds_toArray, List.set_cons_zero, List.set_cons_succ]
    refine H_takeD (k := 29) (v := .slice (some ⟨kg, 0, none⟩) 2 2) (d := some 55) rfl rfl (by decide +kernel) (fun _ _ _ h => h) (Or.inl ⟨by simp [Region.wanted, yielded], fun W hW => by obtain ⟨s0, s1, s2⟩ := hW; go_simp⟩) HS9.out ?_
    try simp only [Act.put, List.setIfInBounds_toArray, List.set_cons_zero, List.set_cons_succ]
    refine H_takeD (k := 30) (v := .pointer (some ⟨kg, 1, none⟩)) (d := some 56) rfl rfl (by decide +kernel) (fun _ _ _ h => h) (Or.inl ⟨by simp [Region.wanted, yielded], fun W hW => by obtain ⟨s0, s1, s2⟩ := hW; go_simp⟩) HS9.out ?_
    try simp only [Act.put, List.setIfInBounds_toArray, List.set_cons_zero, List.set_cons_succ]
    refine H_takeD (k := 31) (v := .slice B1 y.length d1) (d := some 57) rfl rfl (by decide +kernel) (fun _ _ _ h => h) (Or.inl ⟨by simp [Region.wanted, yielded], fun W hW => by obtain ⟨s0, s1, s2⟩ := hW; go_simp⟩) HS9.out ?_
    try simp only [Act.put, List.setIfInBounds_toArray, List.set_cons_zero, List.set_cons_succ]
    refine H_one (i := 27) (by decide +kernel) (H_stepg rfl (by simp [Region.wanted, yielded]) (fun K hK31 => ?_))
    have hK31 := Lib.hid hK31
    go_simp
    go_at_call 33
    refine (rInts_any r _ y _ _ HR9.out HF9.out.size hyw (by omega)).mono ?_
    rintro e w10 ⟨v10, rfl, hown10, hR10, hF10⟩
    obtain ⟨X10, x10, rfl⟩ := own_slice hown10
    have HX10 := Lib.hid (SL.of_own hown10)
    have HR10 := Lib.hid hR10
    have HF10 := Lib.hid (HF9.out.trans_ hF10)
    have HS10 := Lib.hid (HSg.out _ HF10.out)
    refine hK31.out _ _ HS10.out ?_
    try simp only [Act.put, List.setIfInBounds_toArray, List.set_cons_zero, List.set_cons_succ]
    refine H_one (i := 32) (by decide +kernel) (H_stepg rfl (by simp [Region.wanted, yielded]) (fun K hK32 => ?_))
    have hK32 := Lib.hid hK32
    go_simp
    go_at_call 32
    refine (sameInts_any X10 B1 x10 d1 y y _ HX10.out (HY.out.below (HB.out _ HF10.out)) (by omega) (by omega)).mono ?_
    rintro e w11 ⟨he, hq11⟩
    obtain rfl : e = .returned (.bool true) := by rw [he]; simp
    have HR11 := Lib.hid (HR10.out.below (hq11.below _))
    have HF11 := Lib.hid (HF10.out.qt hq11)
    have HS11 := Lib.hid (HSg.out _ HF11.out)
    refine hK32.out _ _ HS11.out ?_
    try simp only [Act.put, List.setIfInBounds_toArray, List.set_cons_zero, List.set_cons_succ]
    refine H_takeD (k := 33) (v := .bool false) (d := some 59) rfl rfl (by decide +kernel) (fun _ _ _ h => h) (Or.inl ⟨by simp [Region.wanted, yielded], fun W hW => by obtain ⟨s0, s1, s2⟩ := hW; go_simp⟩) HS11.out ?_
    try simp only [Act.put, List.setIfInBounds_toArray, List.set_cons_zero, List.set_cons_succ]
    refine H_takeD (k := 34) (v := .bool false) (d := some 60) rfl rfl (by decide +kernel) (fun _ _ _ h => h) (Or.inl ⟨by rfl, fun W hW => by obtain ⟨s0, s1, s2⟩ := hW; go_simp⟩) HS11.out ?_
    try simp only [Act.put, List.setIfInBounds_toArray, List.set_cons_zero, List.set_cons_succ]
    refine H_takeD (k := 35) (v := .bool false) (d := some 61) rfl rfl (by decide +kernel) (fun _ _ _ h => h) (Or.inl ⟨by rfl, fun W hW => by obtain ⟨s0, s1, s2⟩ := hW; go_simp⟩) HS11.out ?_
    try simp only [Act.put, List.setIfInBounds_toArray, List.set_cons_zero, List.set_cons_succ]
    refine H_takeD (k := 36) (v := .pointer (some ⟨r, 0, none⟩)) (d := some 62) rfl rfl (by decide +kernel) (fun _ _ _ h => h) (Or.inl ⟨by simp [Region.wanted, yielded], fun W hW => by obtain ⟨s0, s1, s2⟩ := hW; go_simp⟩) HS11.out ?_
    try simp only [Act.put, List.setIfInBounds_toArray, List.set_cons_zero, List.set_cons_succ]
    refine H_one (i := 37) (by decide +kernel) (H_stepg rfl (by simp [Region.wanted, yielded]) (fun K hK37 => ?_))
    have hK37 := Lib.hid hK37
    go_simp
    go_at_call 34
    refine (rEnd_any r _ _ HR11.out).mono ?_
    rintro e w12 ⟨rfl, hq12⟩
    have HF12 := Lib.hid (HF11.out.qt hq12)
    have HS12 := Lib.hid (HSg.out _ HF12.out)
    refine hK37.out _ _ HS12.out ?_
    try simp only [Act.put, List.setIfInBounds_toArray, List.set_cons_zero, List.set_cons_succ]
    refine H_takeD (k := 38) (v := .bool false) (d := some 64) rfl rfl (by decide +kernel) (fun _ _ _ h => h) (Or.inl ⟨by simp [Region.wanted, yielded], fun W hW => by obtain ⟨s0, s1, s2⟩ := hW; go_simp⟩) HS12.out ?_
    try simp only [Act.put, List.setIfInBounds_toArray, List.set_cons_zero, List.set_cons_succ]
    refine H_takeD (k := 39) (v := .bool false) (d := some 65) rfl rfl (by decide +kernel) (fun _ _ _ h => h) (Or.inl ⟨by rfl, fun W hW => by obtain ⟨s0, s1, s2⟩ := hW; go_simp⟩) HS12.out ?_
    try simp only [Act.put, List.setIfInBounds_toArray, List.set_cons_zero, List.set_cons_succ]
    refine H_end (by decide +kernel) (NoPanic.normal ?_)
    try simp only [Act.put, List.setIfInBounds_toArray, List.set_cons_zero, List.set_cons_succ]
    go_wp2_with fail
    go_meet
    exact ⟨rfl, HB.out _ HF12.out⟩
  case rest =>
  obtain ⟨rfl, hbc⟩ := hcut
  obtain ⟨wK, rfl⟩ : ∃ x, x = wc := ⟨wc, rfl⟩
  have HbK := Lib.hid (Hb3.out.trans (hbc.mono Hb3.out.size))
  clear hbc HB HR4 Hb4 Hk1 Hk2 HX HY HLL HSb Heb Hsplit
  have hmk : ∀ W : World, (Instr.makeSlice 22 (.int .i64 6) (.int .i64 6)).run Try.prog W = .ok (.slice (some ⟨W.heap.size, 0, none⟩) 6 6) (W.alloc (.cells (rowI (List.replicate 6 0)) 3)) := fun W => make_int 6 (by omega) W
  obtain ⟨hi0, hi1⟩ := around_bd at_ 6 (by omega)
  obtain ⟨hv0, hv1⟩ := around_bd by_ 60 (by omega)
  have h6 := fun W => around_any at_ 6 W h1.1 h1.2 (by omega) (by omega)
  have h60 := fun W => around_any by_ 60 W h2.1 h2.2 (by omega) (by omega)
  obtain ⟨i, hi⟩ : ∃ i : Nat, around at_ 6 = i := ⟨(around at_ 6).toNat, by omega⟩
  rw [hi] at h6 hi1
  clear hi hi0
  generalize around by_ 60 = v at *
  have hi6 : i < 6 := by omega
  have H6 := Lib.hid h6
  have H60 := Lib.hid h60
  clear h6 h60 hi1
  obtain ⟨z6, hz6⟩ : ∃ z, Hid (z = List.replicate 6 (0 : Int)) := ⟨_, Lib.hid rfl⟩
  rw [← hz6.out] at hmk
  have hzl : z6.length = 6 := by rw [hz6.out]; simp
  have hzi : z6[i]? = some 0 := by rw [hz6.out, List.getElem?_replicate, if_pos hi6]
  go_upto_region 8 with fail
  have hbx := (Bk.new wK 3 (rowI z6)).alloc (.cells (rowI z6) 3)
  have hby := Bk.new' (wK.alloc (.cells (rowI z6) 3)) 3 (rowI z6) (g := wK.heap.size + 1) (by simp)
  have hbM : Below wK.heap.size wK ((wK.alloc (.cells (rowI z6) 3)).alloc (.cells (rowI z6) 3)) := ((Below.refl _ _).alloc (Nat.le_refl _) _).alloc (by simp) _
  clear hmk
  generalize (wK.alloc (.cells (rowI z6) 3)).alloc (.cells (rowI z6) 3) = wM at *
  have hcy : wM.cell? ⟨wK.heap.size + 1, i, none⟩ = some (.int .i64 0) := (hby.cell i).trans (rowI_get hzi)
  have hfy : wM.frozen? ⟨wK.heap.size + 1, i, none⟩ = false := hby.frozen i
  have Hbx := Lib.hid hbx
  have Hby := Lib.hid hby
  have HbM := Lib.hid (HbK.out.trans (hbM.mono HbK.out.size))
  have hkw2 := HbK.out.size
  clear hbx hby hbM hzi
  generalize wK.heap.size = gx at *
  clear HbK
  go_wp2_with fail
  refine (H6.out _).mono ?_
  rintro e w5 ⟨rfl, rfl⟩
  go_wp2_with fail
  refine (H60.out _).mono ?_
  rintro e w5 ⟨rfl, rfl⟩
  go_upto_region 9 with fail
  have hbx2 := Hbx.out.far (p := ⟨gx + 1, i, none⟩) (by simp) (.int .i64 v)
  have hby2 := Hby.out.set_ i (.int .i64 v)
  rw [rowI_put] at hby2
  have hbN := HbM.out.setCell (p := ⟨gx + 1, i, none⟩) (show w.heap.size ≤ gx + 1 by omega) (.int .i64 v)
  clear Hbx Hby HbM hcy hfy
  generalize wM.setCell ⟨gx + 1, i, none⟩ (.int .i64 v) = wN at *
  obtain ⟨y6, hy6⟩ : ∃ y6, Hid (y6 = z6.set i v) := ⟨_, Lib.hid rfl⟩
  rw [← hy6.out] at hby2
  have hyl6 : y6.length = 6 := by rw [hy6.out, List.length_set, hzl]
  have hsz : Sm z6 := by rw [hz6.out]; exact sm_zero
  have hsy : Sm y6 := by rw [hy6.out, hz6.out]; exact sm_set i v ⟨hv0, hv1⟩
  have HXN := Lib.hid (si_row hbx2 (by omega))
  have HYN := Lib.hid (si_row hby2 (by omega))
  have HbN := Lib.hid hbN
  clear hbx2 hby2 hbN
  go_wp2_with fail
  refine (encode_any (some ⟨wN.heap.size, 0, none⟩) 1 [z6] _ (sll_one HXN.out 6 6 hzl) (few_one hsz) (by simp)).mono ?_
  rintro e w7 ⟨v7, rfl, hown7, hb7⟩
  obtain ⟨P7, p7, rfl⟩ := own_slice hown7
  have HP7 := Lib.hid (SL.of_own hown7)
  have hbN1 := (Below.refl wN.heap.size wN).alloc (Nat.le_refl _) (.cells #[.slice (some ⟨gx, 0, none⟩) 6 6] 22)
  have hb7N := hbN1.trans (hb7.mono (by simp))
  have HY7 := Lib.hid (HYN.out.below hb7N)
  have Hb7 := Lib.hid (HbN.out.trans (hb7N.mono HbN.out.size))
  clear hown7 hb7 hbN1 hb7N HXN HYN HbN
  go_wp2_with fail
  refine (encode_any (some ⟨w7.heap.size, 0, none⟩) 1 [y6] _ (sll_one HY7.out 6 6 hyl6) (few_one hsy) (by simp)).mono ?_
  rintro e w8 ⟨v8, rfl, hown8, hb8⟩
  obtain ⟨P8, p8, rfl⟩ := own_slice hown8
  have HP8 := Lib.hid (SL.of_own hown8)
  have hbN1 := (Below.refl w7.heap.size w7).alloc (Nat.le_refl _) (.cells #[.slice (some ⟨gx + 1, 0, none⟩) 6 6] 22)
  have hb8N := hbN1.trans (hb8.mono (by simp))
  have HP7 := Lib.hid (HP7.out.below hb8N)
  have Hb8 := Lib.hid (Hb7.out.trans (hb8N.mono Hb7.out.size))
  clear hown8 hb8 hbN1 hb8N HY7 Hb7
  have hl7 := enc_len hsz
  have hl8 := enc_len hsy
  have hx7 := enc_bytes hsz
  have hx8 := enc_bytes hsy
  have hlaw := hash_law (bl ⟨#[99]⟩) (by decide) i hi6 v ⟨hv0, hv1⟩
  rw [← hz6.out, ← hy6.out] at hlaw
  clear hsz hsy hz6 hy6 hzl hyl6
  generalize encB [z6] = e7 at *
  generalize encB [y6] = e8 at *
  have hB7 := fun W h => bytes_any ⟨#[99]⟩ P7 p7 e7 W (by decide) h (by omega) hx7
  have hB8 := fun W h => bytes_any ⟨#[99]⟩ P8 p8 e8 W (by decide) h (by omega) hx8
  have hlw := fc_law _ _ _ hlaw
  clear hlaw hx7 hx8
  generalize bytesH (bl ⟨#[99]⟩) e7 = H7 at *
  generalize bytesH (bl ⟨#[99]⟩) e8 = H8 at *
  rw [hl7] at hB7
  rw [hl8] at hB8
  rw [hl7, hl8]
  have HB7 := Lib.hid hB7
  have HB8 := Lib.hid hB8
  clear hB7 hB8 hl7 hl8
  go_wp2_with fail
  refine (HB7.out w8 HP7.out).mono ?_
  rintro e w9 ⟨rfl, hb9⟩
  have HP9 := Lib.hid (HP8.out.below hb9)
  have Hb9 := Lib.hid (Hb8.out.trans (hb9.mono Hb8.out.size))
  clear hb9 HB7 HP7 HP8 Hb8
  go_wp2_with fail
  refine (HB8.out w9 HP9.out).mono ?_
  rintro e w10 ⟨rfl, hb10⟩
  have Hb10 := Lib.hid (Hb9.out.trans (hb10.mono Hb9.out.size))
  clear hb10 HB8 HP9 Hb9
  go_wp2_with fail
  refine (H60.out w10).mono ?_
  rintro e w11 ⟨rfl, rfl⟩
  clear hlw H60
  go_wp2_with fail
  have hen := encode_any none 0 [] w10 (sll_nil w10) (fun l hl => by simp at hl) (by simp)
  rw [enc_nil] at hen
  refine hen.mono ?_
  rintro e w12 ⟨v12, rfl, hown12, hb12⟩
  obtain ⟨P12, p12, rfl⟩ := own_slice hown12
  have Hb12 := Lib.hid (Hb10.out.trans (hb12.mono Hb10.out.size))
  clear hb12 hown12 Hb10
  go_wp2_with fail
  refine (lives_any w12).mono ?_
  rintro e w13 ⟨rfl, hb13⟩
  have Hb13 := Lib.hid (Hb12.out.trans (hb13.mono Hb12.out.size))
  clear hb13 Hb12
  go_wp2_with fail
  go_ret
  exact ⟨rfl, Hb13.out⟩
end Go.Proofs.Ytaegfljpodhnhaa
