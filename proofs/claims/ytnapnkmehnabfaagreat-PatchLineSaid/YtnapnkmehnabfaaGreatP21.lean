import Derived.Test.YtnapnkmehnabfaaGreatP20
namespace Go.Proofs.YtnapnkmehnabfaaGreat
open Go.RowKit Go.Maps

theorem ptE_or (x y : Int) : ptE x y = 0 ∨ ptE x y = 5 := by
  unfold ptE
  split
  · exact .inl rfl
  · exact .inr rfl
theorem skE_or (o ax ay bx by_ : Int) (cl : List Cl) : orE [ptE ax ay, ptE bx by_, if (ax == bx && ay == by_) = true then 1 else 0, if decide ((64 : Int) < (cl.length : Int)) = true then 4 else 0, eachE (clW o cl) cl.length] = skE o ⟨ax, ay, bx, by_, cl⟩ := by
  unfold skE
  by_cases e1 : ptE ax ay = 0
  · rw [orE_zero e1]
    by_cases e2 : ptE bx by_ = 0
    · rw [orE_zero e2, if_neg (show ¬ (ptE ax ay ≠ 0 ∨ ptE bx by_ ≠ 0) from fun h => h.elim (fun h => h e1) (fun h => h e2))]
      by_cases e3 : ax = bx ∧ ay = by_
      · rw [if_pos (by simp [e3.1, e3.2]), orE_ne (by decide), if_pos e3]
      · have b3 : ¬ (ax == bx && ay == by_) = true := fun h => e3 (by simpa using h)
        rw [if_neg b3, orE_zero rfl, if_neg e3]
        by_cases e4 : 64 < cl.length
        · rw [if_pos (decide_eq_true (by omega)), orE_ne (by decide), if_pos e4]
        · rw [if_neg (by simp; omega), orE_zero rfl, if_neg e4, orE]
          by_cases e5 : eachE (clW o cl) cl.length = 0
          · rw [if_neg (by simp [e5]), e5]; rfl
          · rw [if_pos e5]
    · rw [orE_ne e2, if_pos (.inr e2)]
      exact (ptE_or _ _).resolve_left e2
  · rw [orE_ne e1, if_pos (.inl e1)]
    exact (ptE_or _ _).resolve_left e1

set_option linter.unusedSimpArgs false in
set_option maxHeartbeats 4000000 in
set_option maxRecDepth 100000 in
theorem rule7c_any (S T I N : Nat) (p : Pa) (a : Pw) (i ax ay bx by_ : Int) (C : Option Addr) (c : Nat) (cl : List Cl) (w : World) (h : RC w S T I N p a) (hC : SC w C cl) (hl : cl.length ≤ 1099511627776) :
    Calls Tryz.prog 123 #[.int .i64 i, .agg #[.int .i64 ax, .int .i64 ay, .int .i64 bx, .int .i64 by_, .slice C cl.length c], .pointer (some ⟨T, 0, none⟩)] w fun e w' => e = .returned (.int .i64 (skE p.office ⟨ax, ay, bx, by_, cl⟩)) ∧ Below w.heap.size w w' := by
  have hb := (Below.refl w.heap.size w).alloc (Nat.le_refl _) (.cells #[.int .i64 ax, .int .i64 ay, .int .i64 bx, .int .i64 by_, .slice C cl.length c] 62)
  have hk1 := Bk.new w 62 #[.int .i64 ax, .int .i64 ay, .int .i64 bx, .int .i64 by_, .slice C cl.length c]
  have hk2 := h.below hb
  have hk3 := hC.below hb
  obtain ⟨R, hR⟩ : ∃ z, Hid (skE p.office ⟨ax, ay, bx, by_, cl⟩ = z) := ⟨_, Lib.hid rfl⟩
  rw [hR.out]
  obtain ⟨r1, hr1⟩ : ∃ z, Hid (ptE ax ay = z) := ⟨_, Lib.hid rfl⟩
  obtain ⟨r2, hr2⟩ : ∃ z, Hid (ptE bx by_ = z) := ⟨_, Lib.hid rfl⟩
  obtain ⟨b3, hb3⟩ : ∃ z, Hid ((ax == bx && ay == by_) = z) := ⟨_, Lib.hid rfl⟩
  obtain ⟨b4, hb4⟩ : ∃ z, Hid (decide ((64 : Int) < (cl.length : Int)) = z) := ⟨_, Lib.hid rfl⟩
  obtain ⟨r3, hr3⟩ : ∃ z, Hid ((if b3 = true then (1 : Int) else 0) = z) := ⟨_, Lib.hid rfl⟩
  obtain ⟨r4, hr4⟩ : ∃ z, Hid ((if b4 = true then (4 : Int) else 0) = z) := ⟨_, Lib.hid rfl⟩
  obtain ⟨r5, hr5⟩ : ∃ z, Hid (eachE (clW p.office cl) cl.length = z) := ⟨_, Lib.hid rfl⟩
  have hRe := Lib.hid (show orE [r1, r2, r3, r4, r5] = R from by rw [← hR.out, ← skE_or, hr1.out, hr2.out, hb3.out, hb4.out, hr3.out, hr4.out, hr5.out])
  have K1 := Lib.hid (fun W => hr1.out ▸ point_any ax ay W)
  have K2 := Lib.hid (fun W => hr2.out ▸ point_any bx by_ W)
  have heq := fun W => hb3.out ▸ eql_point ax ay bx by_ W
  have K3 := Lib.hid (fun W => hr3.out ▸ when_any b3 1 W)
  have K4 := Lib.hid (fun W => hr4.out ▸ when_any b4 4 W)
  have K5 := Lib.hid (fun W (h1 : Bk W S 34 (paC p a)) (h2 : SC W C cl) => hr5.out ▸ eachC_any S p a C c cl W h1 h2 hl)
  have t4 := hb4.out
  clear h hC
  go_enter Tryz.func123, Tryz.ntmps123
  go_upto_region 1 with fail
  generalize w.alloc (.cells #[.int .i64 ax, .int .i64 ay, .int .i64 bx, .int .i64 by_, .slice C cl.length c] 62) = W0 at *
  generalize hs : w.heap.size = s at *
  have Hs := Lib.hid hs
  clear hs
  have Hb := Lib.hid hb
  have HQ := Lib.hid (fun (W : World) (hW : Below W0.heap.size W0 W) => hk2.below hW)
  have HQ2 := Lib.hid (fun (W : World) (hW : Below W0.heap.size W0 W) => (show SC W C cl from hk3.below hW))
  have HSf := Lib.hid (fun (W : World) (hW : Below W0.heap.size W0 W) => show W.cell? ⟨s, 0, none⟩ = some (.int .i64 ax) ∧ W.cell? ⟨s, 1, none⟩ = some (.int .i64 ay) ∧ W.cell? ⟨s, 2, none⟩ = some (.int .i64 bx) ∧ W.cell? ⟨s, 3, none⟩ = some (.int .i64 by_) ∧ W.cell? ⟨s, 4, none⟩ = some (.slice C cl.length c) ∧ W.cell? ⟨T, 0, none⟩ = some (.func (.func 109) #[] #[.pointer (some ⟨S, 0, none⟩)]) from ⟨(hk1.below hW hk1.lt).cell 0, (hk1.below hW hk1.lt).cell 1, (hk1.below hW hk1.lt).cell 2, (hk1.below hW hk1.lt).cell 3, (hk1.below hW hk1.lt).cell 4, (hk2.below hW).c.cell 0⟩)
  have HB0 := Lib.hid ((Below.refl W0.heap.size W0).drew)
  have hz0 : s ≤ W0.heap.size := by have := hk1.lt; omega
  clear hb hk1 hk2 hk3
  refine wp_region_noPanic ?_
  refine region_H (S := fun W => W.cell? ⟨s, 0, none⟩ = some (.int .i64 ax) ∧ W.cell? ⟨s, 1, none⟩ = some (.int .i64 ay) ∧ W.cell? ⟨s, 2, none⟩ = some (.int .i64 bx) ∧ W.cell? ⟨s, 3, none⟩ = some (.int .i64 by_) ∧ W.cell? ⟨s, 4, none⟩ = some (.slice C cl.length c) ∧ W.cell? ⟨T, 0, none⟩ = some (.func (.func 109) #[] #[.pointer (some ⟨S, 0, none⟩)])) (by kernel_rfl) ?_
  change wpH _ _ _ _ 28 _ _ W0.drew
  generalize W0.drew = X0 at *
  refine H_takeD (k := 0) (v := .pointer (some ⟨s, 0, none⟩)) (d := some 6) rfl rfl (by decide +kernel) (fun _ _ _ h => h) (Or.inl ⟨by rfl, fun W hW => by obtain ⟨s0, s1, s2, s3, s4, s5⟩ := hW; go_simp⟩) (HSf.out _ HB0.out) ?_
  try simp only [Act.put, List.setIfInBounds_toArray, List.set_cons_zero, List.set_cons_succ]
  refine H_takeD (k := 1) (v := .pointer (some ⟨s, 0, none⟩)) (d := some 7) rfl rfl (by decide +kernel) (fun _ _ _ h => h) (Or.inl ⟨by rfl, fun W hW => by obtain ⟨s0, s1, s2, s3, s4, s5⟩ := hW; go_simp⟩) (HSf.out _ HB0.out) ?_
  try simp only [Act.put, List.setIfInBounds_toArray, List.set_cons_zero, List.set_cons_succ]
  refine H_takeD (k := 2) (v := .agg #[.int .i64 ax, .int .i64 ay]) (d := some 8) rfl rfl (by decide +kernel) (fun _ _ _ h => h) (Or.inl ⟨by rfl, fun W hW => by obtain ⟨s0, s1, s2, s3, s4, s5⟩ := hW; go_simp⟩) (HSf.out _ HB0.out) ?_
  try simp only [Act.put, List.setIfInBounds_toArray, List.set_cons_zero, List.set_cons_succ]
  refine H_takeD (k := 4) (v := .pointer (some ⟨s, 0, none⟩)) (d := some 10) rfl rfl (by decide +kernel) (fun _ _ _ h => h) (Or.inl ⟨by rfl, fun W hW => by obtain ⟨s0, s1, s2, s3, s4, s5⟩ := hW; go_simp⟩) (HSf.out _ HB0.out) ?_
  try simp only [Act.put, List.setIfInBounds_toArray, List.set_cons_zero, List.set_cons_succ]
  refine H_takeD (k := 5) (v := .pointer (some ⟨s, 2, none⟩)) (d := some 11) rfl rfl (by decide +kernel) (fun _ _ _ h => h) (Or.inl ⟨by rfl, fun W hW => by obtain ⟨s0, s1, s2, s3, s4, s5⟩ := hW; go_simp⟩) (HSf.out _ HB0.out) ?_
  try simp only [Act.put, List.setIfInBounds_toArray, List.set_cons_zero, List.set_cons_succ]
  refine H_takeD (k := 6) (v := .agg #[.int .i64 bx, .int .i64 by_]) (d := some 12) rfl rfl (by decide +kernel) (fun _ _ _ h => h) (Or.inl ⟨by rfl, fun W hW => by obtain ⟨s0, s1, s2, s3, s4, s5⟩ := hW; go_simp⟩) (HSf.out _ HB0.out) ?_
  try simp only [Act.put, List.setIfInBounds_toArray, List.set_cons_zero, List.set_cons_succ]
  refine H_takeD (k := 8) (v := .pointer (some ⟨s, 0, none⟩)) (d := some 14) rfl rfl (by decide +kernel) (fun _ _ _ h => h) (Or.inl ⟨by rfl, fun W hW => by obtain ⟨s0, s1, s2, s3, s4, s5⟩ := hW; go_simp⟩) (HSf.out _ HB0.out) ?_
  try simp only [Act.put, List.setIfInBounds_toArray, List.set_cons_zero, List.set_cons_succ]
  refine H_takeD (k := 9) (v := .pointer (some ⟨s, 0, none⟩)) (d := some 15) rfl rfl (by decide +kernel) (fun _ _ _ h => h) (Or.inl ⟨by rfl, fun W hW => by obtain ⟨s0, s1, s2, s3, s4, s5⟩ := hW; go_simp⟩) (HSf.out _ HB0.out) ?_
  try simp only [Act.put, List.setIfInBounds_toArray, List.set_cons_zero, List.set_cons_succ]
  refine H_takeD (k := 10) (v := .agg #[.int .i64 ax, .int .i64 ay]) (d := some 16) rfl rfl (by decide +kernel) (fun _ _ _ h => h) (Or.inl ⟨by rfl, fun W hW => by obtain ⟨s0, s1, s2, s3, s4, s5⟩ := hW; go_simp⟩) (HSf.out _ HB0.out) ?_
  try simp only [Act.put, List.setIfInBounds_toArray, List.set_cons_zero, List.set_cons_succ]
  refine H_takeD (k := 11) (v := .pointer (some ⟨s, 0, none⟩)) (d := some 17) rfl rfl (by decide +kernel) (fun _ _ _ h => h) (Or.inl ⟨by rfl, fun W hW => by obtain ⟨s0, s1, s2, s3, s4, s5⟩ := hW; go_simp⟩) (HSf.out _ HB0.out) ?_
  try simp only [Act.put, List.setIfInBounds_toArray, List.set_cons_zero, List.set_cons_succ]
  refine H_takeD (k := 12) (v := .pointer (some ⟨s, 2, none⟩)) (d := some 18) rfl rfl (by decide +kernel) (fun _ _ _ h => h) (Or.inl ⟨by rfl, fun W hW => by obtain ⟨s0, s1, s2, s3, s4, s5⟩ := hW; go_simp⟩) (HSf.out _ HB0.out) ?_
  try simp only [Act.put, List.setIfInBounds_toArray, List.set_cons_zero, List.set_cons_succ]
  refine H_takeD (k := 13) (v := .agg #[.int .i64 bx, .int .i64 by_]) (d := some 19) rfl rfl (by decide +kernel) (fun _ _ _ h => h) (Or.inl ⟨by rfl, fun W hW => by obtain ⟨s0, s1, s2, s3, s4, s5⟩ := hW; go_simp⟩) (HSf.out _ HB0.out) ?_
  try simp only [Act.put, List.setIfInBounds_toArray, List.set_cons_zero, List.set_cons_succ]
  refine H_takeD (k := 14) (v := .bool b3) (d := some 20) rfl rfl (by decide +kernel) (fun _ _ _ h => h) (Or.inl ⟨by rfl, fun W hW => by obtain ⟨s0, s1, s2, s3, s4, s5⟩ := hW; go_simp⟩) (HSf.out _ HB0.out) ?_
  try simp only [Act.put, List.setIfInBounds_toArray, List.set_cons_zero, List.set_cons_succ]
  refine H_takeD (k := 16) (v := .pointer (some ⟨s, 4, none⟩)) (d := some 22) rfl rfl (by decide +kernel) (fun _ _ _ h => h) (Or.inl ⟨by rfl, fun W hW => by obtain ⟨s0, s1, s2, s3, s4, s5⟩ := hW; go_simp⟩) (HSf.out _ HB0.out) ?_
  try simp only [Act.put, List.setIfInBounds_toArray, List.set_cons_zero, List.set_cons_succ]
  refine H_takeD (k := 17) (v := .slice C cl.length c) (d := some 23) rfl rfl (by decide +kernel) (fun _ _ _ h => h) (Or.inl ⟨by rfl, fun W hW => by obtain ⟨s0, s1, s2, s3, s4, s5⟩ := hW; go_simp⟩) (HSf.out _ HB0.out) ?_
  try simp only [Act.put, List.setIfInBounds_toArray, List.set_cons_zero, List.set_cons_succ]
  refine H_takeD (k := 18) (v := .int .i64 (cl.length : Int)) (d := some 24) rfl rfl (by decide +kernel) (fun _ _ _ h => h) (Or.inl ⟨by rfl, fun W hW => by obtain ⟨s0, s1, s2, s3, s4, s5⟩ := hW; go_simp⟩) (HSf.out _ HB0.out) ?_
  try simp only [Act.put, List.setIfInBounds_toArray, List.set_cons_zero, List.set_cons_succ]
  refine H_takeD (k := 19) (v := .bool b4) (d := some 25) rfl rfl (by decide +kernel) (fun _ _ _ h => h) (Or.inl ⟨by rfl, fun W hW => by obtain ⟨s0, s1, s2, s3, s4, s5⟩ := hW; go_simp⟩) (HSf.out _ HB0.out) ?_
  try simp only [Act.put, List.setIfInBounds_toArray, List.set_cons_zero, List.set_cons_succ]
  refine H_takeD (k := 21) (v := .pointer (some ⟨s, 4, none⟩)) (d := some 27) rfl rfl (by decide +kernel) (fun _ _ _ h => h) (Or.inl ⟨by rfl, fun W hW => by obtain ⟨s0, s1, s2, s3, s4, s5⟩ := hW; go_simp⟩) (HSf.out _ HB0.out) ?_
  try simp only [Act.put, List.setIfInBounds_toArray, List.set_cons_zero, List.set_cons_succ]
  refine H_takeD (k := 22) (v := .slice C cl.length c) (d := some 28) rfl rfl (by decide +kernel) (fun _ _ _ h => h) (Or.inl ⟨by rfl, fun W hW => by obtain ⟨s0, s1, s2, s3, s4, s5⟩ := hW; go_simp⟩) (HSf.out _ HB0.out) ?_
  try simp only [Act.put, List.setIfInBounds_toArray, List.set_cons_zero, List.set_cons_succ]
  refine H_takeD (k := 23) (v := .func (.func 109) #[] #[.pointer (some ⟨S, 0, none⟩)]) (d := some 29) rfl rfl (by decide +kernel) (fun _ _ _ h => h) (Or.inl ⟨by rfl, fun W hW => by obtain ⟨s0, s1, s2, s3, s4, s5⟩ := hW; go_simp⟩) (HSf.out _ HB0.out) ?_
  try simp only [Act.put, List.setIfInBounds_toArray, List.set_cons_zero, List.set_cons_succ]
  refine H_one (i := 3) (by decide +kernel) (H_step rfl rfl (fun K hK20 => ?_))
  have hK20 := Lib.hid hK20
  go_simp
  go_at_call 24
  refine (K1.out _).mono ?_
  rintro e wv1 ⟨rfl, hv1⟩
  have HB1 := Lib.hid (HB0.out.trans (hv1.mono HB0.out.size))
  clear hv1
  refine hK20.out _ _ (HSf.out _ HB1.out) ?_
  try simp only [Act.put, List.setIfInBounds_toArray, List.set_cons_zero, List.set_cons_succ]
  refine H_one (i := 7) (by decide +kernel) (H_step rfl rfl (fun K hK21 => ?_))
  have hK21 := Lib.hid hK21
  go_simp
  go_at_call 24
  refine (K2.out _).mono ?_
  rintro e wv2 ⟨rfl, hv2⟩
  have HB2 := Lib.hid (HB1.out.trans (hv2.mono HB1.out.size))
  clear hv2
  refine hK21.out _ _ (HSf.out _ HB2.out) ?_
  try simp only [Act.put, List.setIfInBounds_toArray, List.set_cons_zero, List.set_cons_succ]
  refine H_one (i := 15) (by decide +kernel) (H_step rfl rfl (fun K hK22 => ?_))
  have hK22 := Lib.hid hK22
  go_simp
  go_at_call 110
  refine (K3.out _).mono ?_
  rintro e wv ⟨rfl, rfl⟩
  refine hK22.out _ _ (HSf.out _ HB2.out) ?_
  try simp only [Act.put, List.setIfInBounds_toArray, List.set_cons_zero, List.set_cons_succ]
  refine H_one (i := 20) (by decide +kernel) (H_step rfl rfl (fun K hK23 => ?_))
  have hK23 := Lib.hid hK23
  go_simp
  go_at_call 110
  refine (K4.out _).mono ?_
  rintro e wv ⟨rfl, rfl⟩
  refine hK23.out _ _ (HSf.out _ HB2.out) ?_
  try simp only [Act.put, List.setIfInBounds_toArray, List.set_cons_zero, List.set_cons_succ]
  refine H_one (i := 24) (by decide +kernel) (H_step rfl rfl (fun K hK24 => ?_))
  have hK24 := Lib.hid hK24
  go_simp
  go_at_call 124
  refine (K5.out _ (HQ.out _ HB2.out).s (HQ2.out _ HB2.out)).mono ?_
  rintro e wv3 ⟨rfl, hv3⟩
  have HB3 := Lib.hid (HB2.out.trans (hv3.mono HB2.out.size))
  clear hv3
  refine hK24.out _ _ (HSf.out _ HB3.out) ?_
  try simp only [Act.put, List.setIfInBounds_toArray, List.set_cons_zero, List.set_cons_succ]
  refine H_one (i := 25) (by decide +kernel) (H_step rfl rfl (fun K hK25 => ?_))
  have hK25 := Lib.hid hK25
  go_simp
  have HB4 := Lib.hid (HB3.out.alloc HB3.out.size (.cells #[.int .i64 r1, .int .i64 r2, .int .i64 r3, .int .i64 r4, .int .i64 r5] 25))
  have hsi := Lib.hid (show SI (wv3.alloc (.cells #[.int .i64 r1, .int .i64 r2, .int .i64 r3, .int .i64 r4, .int .i64 r5] 25)) (some ⟨wv3.heap.size, 0, none⟩) [r1, r2, r3, r4, r5] from sl_bk (Bk.new wv3 25 #[.int .i64 r1, .int .i64 r2, .int .i64 r3, .int .i64 r4, .int .i64 r5]))
  refine hK25.out _ _ (HSf.out _ HB4.out) ?_
  try simp only [Act.put, List.setIfInBounds_toArray, List.set_cons_zero, List.set_cons_succ]
  generalize wv3.alloc (.cells #[.int .i64 r1, .int .i64 r2, .int .i64 r3, .int .i64 r4, .int .i64 r5] 25) = X9 at *
  generalize wv3.heap.size = h9 at *
  refine H_one (i := 26) (by decide +kernel) (H_step rfl rfl (fun K hK26 => ?_))
  have hK26 := Lib.hid hK26
  go_simp
  go_at_call 114
  refine (or_any (some ⟨h9, 0, none⟩) 5 [r1, r2, r3, r4, r5] X9 hsi.out (by simp)).mono ?_
  rintro e wv ⟨he, rfl⟩
  rw [hRe.out] at he
  subst he
  refine hK26.out _ _ (HSf.out _ HB4.out) ?_
  try simp only [Act.put, List.setIfInBounds_toArray, List.set_cons_zero, List.set_cons_succ]
  refine H_takeD (k := 27) (v := .int .i64 R) (d := some 5) rfl rfl (by decide +kernel) (fun _ _ _ h => h) (Or.inl ⟨by rfl, fun W hW => by obtain ⟨s0, s1, s2, s3, s4, s5⟩ := hW; go_simp⟩) (HSf.out _ HB4.out) ?_
  try simp only [Act.put, List.setIfInBounds_toArray, List.set_cons_zero, List.set_cons_succ]
  refine H_end (by decide +kernel) (NoPanic.normal ?_)
  try simp only [Act.put, List.setIfInBounds_toArray, List.set_cons_zero, List.set_cons_succ]
  have Hb2 := Lib.hid (Hb.out.trans (HB4.out.mono hz0))
  clear HB0 HB1 HB2 HB3 HB4 HSf HQ HQ2 K1 K2 K3 K4 K5 hsi heq t4
  go_wp2_with fail
  go_ret
  exact ⟨rfl, by rw [Hs.out]; exact Hb2.out⟩
end Go.Proofs.YtnapnkmehnabfaaGreat
