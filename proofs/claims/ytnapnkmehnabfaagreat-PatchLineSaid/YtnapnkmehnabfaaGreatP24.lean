import Derived.Test.YtnapnkmehnabfaaGreatP23
namespace Go.Proofs.YtnapnkmehnabfaaGreat
open Go.RowKit Go.Maps

def mkE (o : Int) (needs : List Int) (m : Mk) : Int := if m.p ∉ needs then 12 else if ¬ (0 ≤ m.i ∧ m.i ≤ 4095) ∨ clE m.c ≠ 0 ∨ m.c.office ≠ o then 1 else 0
theorem or3 (P Q C : Prop) [Decidable P] [Decidable Q] [Decidable C] : orE [if (!decide P) = true then 12 else 0, if decide (¬ Q) = true then 1 else 0, if C then 1 else 0] = if ¬ P then 12 else if ¬ Q ∨ C then 1 else 0 := by
  by_cases hp : P <;> by_cases hq : Q <;> by_cases hc : C <;> simp [orE, hp, hq, hc]
theorem or3' (P Q C : Prop) [Decidable P] [Decidable Q] [Decidable C] : orE [if (!decide P) = true then 12 else 0, if decide (¬ Q) = true then 1 else 0, if C then 16 else 0] = if ¬ P then 12 else if ¬ Q then 1 else if C then 16 else 0 := by
  by_cases hp : P <;> by_cases hq : Q <;> by_cases hc : C <;> simp [orE, hp, hq, hc]
theorem mkE_or (o : Int) (needs : List Int) (m : Mk) : orE [if (!decide (m.p ∈ needs)) = true then 12 else 0, if decide (¬ (0 ≤ m.i ∧ m.i ≤ 4095)) = true then 1 else 0, if clE m.c ≠ 0 ∨ m.c.office ≠ o then 1 else 0] = mkE o needs m := by
  exact or3 _ _ _

set_option linter.unusedSimpArgs false in
set_option maxHeartbeats 4000000 in
set_option maxRecDepth 100000 in
theorem rule9c_any (S T I N : Nat) (p : Pa) (a : Pw) (i mp mi kd of fr til de : Int) (w : World) (h : RC w S T I N p a) (hl : p.needs.length ≤ 1099511627776) :
    Calls Tryz.prog 132 #[.int .i64 i, .agg #[.int .u64 mp, .int .i64 mi, .int .i64 kd, .int .i64 of, .int .i64 fr, .int .i64 til, .int .i64 de], .pointer (some ⟨S, 0, none⟩), .pointer (some ⟨I, 0, none⟩), .pointer (some ⟨T, 0, none⟩)] w fun e w' => e = .returned (.int .i64 (mkE p.office p.needs ⟨mp, mi, ⟨kd, of, fr, til, de⟩⟩)) ∧ Below w.heap.size w w' := by
  have hb := (Below.refl w.heap.size w).alloc (Nat.le_refl _) (.cells #[.int .u64 mp, .int .i64 mi, .int .i64 kd, .int .i64 of, .int .i64 fr, .int .i64 til, .int .i64 de] 88)
  have hk1 := Bk.new w 88 #[.int .u64 mp, .int .i64 mi, .int .i64 kd, .int .i64 of, .int .i64 fr, .int .i64 til, .int .i64 de]
  have hk2 := h.below hb
  obtain ⟨R, hR⟩ : ∃ z, Hid (mkE p.office p.needs ⟨mp, mi, ⟨kd, of, fr, til, de⟩⟩ = z) := ⟨_, Lib.hid rfl⟩
  rw [hR.out]
  obtain ⟨b1, hb1⟩ : ∃ z, Hid (decide (mp ∈ p.needs) = z) := ⟨_, Lib.hid rfl⟩
  obtain ⟨b2, hb2⟩ : ∃ z, Hid (decide (¬ (0 ≤ mi ∧ mi ≤ 4095)) = z) := ⟨_, Lib.hid rfl⟩
  obtain ⟨r1, hr1⟩ : ∃ z, Hid ((if (!b1) = true then (12 : Int) else 0) = z) := ⟨_, Lib.hid rfl⟩
  obtain ⟨r2, hr2⟩ : ∃ z, Hid ((if b2 = true then (1 : Int) else 0) = z) := ⟨_, Lib.hid rfl⟩
  obtain ⟨r3, hr3⟩ : ∃ z, Hid ((if clE ⟨kd, of, fr, til, de⟩ ≠ 0 ∨ (⟨kd, of, fr, til, de⟩ : Cl).office ≠ p.office then (1 : Int) else 0) = z) := ⟨_, Lib.hid rfl⟩
  have hRe := Lib.hid (show orE [r1, r2, r3] = R from by rw [← hR.out, ← mkE_or, ← hr1.out, ← hr2.out, ← hr3.out, ← hb1.out, ← hb2.out])
  have K1 := Lib.hid (fun W (h1 : SU W a.n p.needs) => hb1.out ▸ containsU_any a.n a.cn p.needs mp W h1 hl)
  have K2 := Lib.hid (fun W => hb2.out ▸ rule2_any mi W)
  have K3 := Lib.hid (fun W => hr1.out ▸ when_any (!b1) 12 W)
  have K4 := Lib.hid (fun W => hr2.out ▸ when_any b2 1 W)
  have K5 := Lib.hid (fun W (h1 : Bk W S 34 (paC p a)) => hr3.out ▸ rule1_any S p a i ⟨kd, of, fr, til, de⟩ W h1)
  clear h hR hb1 hb2 hr1 hr2 hr3
  go_enter Tryz.func132, Tryz.ntmps132
  go_upto_region 1 with fail
  generalize w.alloc (.cells #[.int .u64 mp, .int .i64 mi, .int .i64 kd, .int .i64 of, .int .i64 fr, .int .i64 til, .int .i64 de] 88) = W0 at *
  generalize hs : w.heap.size = s at *
  have Hs := Lib.hid hs
  clear hs
  have Hb := Lib.hid hb
  have HQ := Lib.hid (fun (W : World) (hW : Below W0.heap.size W0 W) => hk2.below hW)
  have HSf := Lib.hid (fun (W : World) (hW : Below W0.heap.size W0 W) => show W.cell? ⟨S, 2, none⟩ = some (.slice a.n p.needs.length a.cn) ∧ W.cell? ⟨s, 0, none⟩ = some (.int .u64 mp) ∧ W.cell? ⟨s, 1, none⟩ = some (.int .i64 mi) ∧ W.cell? ⟨s, 2, none⟩ = some (.int .i64 kd) ∧ W.cell? ⟨s, 3, none⟩ = some (.int .i64 of) ∧ W.cell? ⟨s, 4, none⟩ = some (.int .i64 fr) ∧ W.cell? ⟨s, 5, none⟩ = some (.int .i64 til) ∧ W.cell? ⟨s, 6, none⟩ = some (.int .i64 de) ∧ W.cell? ⟨I, 0, none⟩ = some (.func (.func 111) #[] #[]) ∧ W.cell? ⟨T, 0, none⟩ = some (.func (.func 109) #[] #[.pointer (some ⟨S, 0, none⟩)]) from ⟨(hk2.below hW).s.cell 2, (hk1.below hW hk1.lt).cell 0, (hk1.below hW hk1.lt).cell 1, (hk1.below hW hk1.lt).cell 2, (hk1.below hW hk1.lt).cell 3, (hk1.below hW hk1.lt).cell 4, (hk1.below hW hk1.lt).cell 5, (hk1.below hW hk1.lt).cell 6, (hk2.below hW).i.cell 0, (hk2.below hW).c.cell 0⟩)
  have HB0 := Lib.hid ((Below.refl W0.heap.size W0).drew)
  have hz0 : s ≤ W0.heap.size := by have := hk1.lt; omega
  clear hb hk1 hk2
  refine wp_region_noPanic ?_
  refine region_H (S := fun W => W.cell? ⟨S, 2, none⟩ = some (.slice a.n p.needs.length a.cn) ∧ W.cell? ⟨s, 0, none⟩ = some (.int .u64 mp) ∧ W.cell? ⟨s, 1, none⟩ = some (.int .i64 mi) ∧ W.cell? ⟨s, 2, none⟩ = some (.int .i64 kd) ∧ W.cell? ⟨s, 3, none⟩ = some (.int .i64 of) ∧ W.cell? ⟨s, 4, none⟩ = some (.int .i64 fr) ∧ W.cell? ⟨s, 5, none⟩ = some (.int .i64 til) ∧ W.cell? ⟨s, 6, none⟩ = some (.int .i64 de) ∧ W.cell? ⟨I, 0, none⟩ = some (.func (.func 111) #[] #[]) ∧ W.cell? ⟨T, 0, none⟩ = some (.func (.func 109) #[] #[.pointer (some ⟨S, 0, none⟩)])) (by kernel_rfl) ?_
  change wpH _ _ _ _ 22 _ _ W0.drew
  generalize W0.drew = X0 at *
  refine H_takeD (k := 0) (v := .pointer (some ⟨S, 2, none⟩)) (d := some 8) rfl rfl (by decide +kernel) (fun _ _ _ h => h) (Or.inl ⟨by rfl, fun W hW => by obtain ⟨s0, s1, s2, s3, s4, s5, s6, s7, s8, s9⟩ := hW; go_simp⟩) (HSf.out _ HB0.out) ?_
  try simp only [Act.put, List.setIfInBounds_toArray, List.set_cons_zero, List.set_cons_succ]
  refine H_takeD (k := 1) (v := .slice a.n p.needs.length a.cn) (d := some 9) rfl rfl (by decide +kernel) (fun _ _ _ h => h) (Or.inl ⟨by rfl, fun W hW => by obtain ⟨s0, s1, s2, s3, s4, s5, s6, s7, s8, s9⟩ := hW; go_simp⟩) (HSf.out _ HB0.out) ?_
  try simp only [Act.put, List.setIfInBounds_toArray, List.set_cons_zero, List.set_cons_succ]
  refine H_takeD (k := 2) (v := .pointer (some ⟨s, 0, none⟩)) (d := some 10) rfl rfl (by decide +kernel) (fun _ _ _ h => h) (Or.inl ⟨by rfl, fun W hW => by obtain ⟨s0, s1, s2, s3, s4, s5, s6, s7, s8, s9⟩ := hW; go_simp⟩) (HSf.out _ HB0.out) ?_
  try simp only [Act.put, List.setIfInBounds_toArray, List.set_cons_zero, List.set_cons_succ]
  refine H_takeD (k := 3) (v := .pointer (some ⟨s, 0, none⟩)) (d := some 11) rfl rfl (by decide +kernel) (fun _ _ _ h => h) (Or.inl ⟨by rfl, fun W hW => by obtain ⟨s0, s1, s2, s3, s4, s5, s6, s7, s8, s9⟩ := hW; go_simp⟩) (HSf.out _ HB0.out) ?_
  try simp only [Act.put, List.setIfInBounds_toArray, List.set_cons_zero, List.set_cons_succ]
  refine H_takeD (k := 4) (v := .int .u64 mp) (d := some 12) rfl rfl (by decide +kernel) (fun _ _ _ h => h) (Or.inl ⟨by rfl, fun W hW => by obtain ⟨s0, s1, s2, s3, s4, s5, s6, s7, s8, s9⟩ := hW; go_simp⟩) (HSf.out _ HB0.out) ?_
  try simp only [Act.put, List.setIfInBounds_toArray, List.set_cons_zero, List.set_cons_succ]
  refine H_takeD (k := 8) (v := .func (.func 111) #[] #[]) (d := some 16) rfl rfl (by decide +kernel) (fun _ _ _ h => h) (Or.inl ⟨by rfl, fun W hW => by obtain ⟨s0, s1, s2, s3, s4, s5, s6, s7, s8, s9⟩ := hW; go_simp⟩) (HSf.out _ HB0.out) ?_
  try simp only [Act.put, List.setIfInBounds_toArray, List.set_cons_zero, List.set_cons_succ]
  refine H_takeD (k := 9) (v := .pointer (some ⟨s, 0, none⟩)) (d := some 17) rfl rfl (by decide +kernel) (fun _ _ _ h => h) (Or.inl ⟨by rfl, fun W hW => by obtain ⟨s0, s1, s2, s3, s4, s5, s6, s7, s8, s9⟩ := hW; go_simp⟩) (HSf.out _ HB0.out) ?_
  try simp only [Act.put, List.setIfInBounds_toArray, List.set_cons_zero, List.set_cons_succ]
  refine H_takeD (k := 10) (v := .pointer (some ⟨s, 1, none⟩)) (d := some 18) rfl rfl (by decide +kernel) (fun _ _ _ h => h) (Or.inl ⟨by rfl, fun W hW => by obtain ⟨s0, s1, s2, s3, s4, s5, s6, s7, s8, s9⟩ := hW; go_simp⟩) (HSf.out _ HB0.out) ?_
  try simp only [Act.put, List.setIfInBounds_toArray, List.set_cons_zero, List.set_cons_succ]
  refine H_takeD (k := 11) (v := .int .i64 mi) (d := some 19) rfl rfl (by decide +kernel) (fun _ _ _ h => h) (Or.inl ⟨by rfl, fun W hW => by obtain ⟨s0, s1, s2, s3, s4, s5, s6, s7, s8, s9⟩ := hW; go_simp⟩) (HSf.out _ HB0.out) ?_
  try simp only [Act.put, List.setIfInBounds_toArray, List.set_cons_zero, List.set_cons_succ]
  refine H_takeD (k := 14) (v := .func (.func 109) #[] #[.pointer (some ⟨S, 0, none⟩)]) (d := some 22) rfl rfl (by decide +kernel) (fun _ _ _ h => h) (Or.inl ⟨by rfl, fun W hW => by obtain ⟨s0, s1, s2, s3, s4, s5, s6, s7, s8, s9⟩ := hW; go_simp⟩) (HSf.out _ HB0.out) ?_
  try simp only [Act.put, List.setIfInBounds_toArray, List.set_cons_zero, List.set_cons_succ]
  refine H_takeD (k := 15) (v := .int .i64 i) (d := some 23) rfl rfl (by decide +kernel) (fun _ _ _ h => h) (Or.inl ⟨by rfl, fun W hW => by obtain ⟨s0, s1, s2, s3, s4, s5, s6, s7, s8, s9⟩ := hW; go_simp⟩) (HSf.out _ HB0.out) ?_
  try simp only [Act.put, List.setIfInBounds_toArray, List.set_cons_zero, List.set_cons_succ]
  refine H_takeD (k := 16) (v := .pointer (some ⟨s, 2, none⟩)) (d := some 24) rfl rfl (by decide +kernel) (fun _ _ _ h => h) (Or.inl ⟨by rfl, fun W hW => by obtain ⟨s0, s1, s2, s3, s4, s5, s6, s7, s8, s9⟩ := hW; go_simp⟩) (HSf.out _ HB0.out) ?_
  try simp only [Act.put, List.setIfInBounds_toArray, List.set_cons_zero, List.set_cons_succ]
  refine H_takeD (k := 17) (v := .agg #[.int .i64 kd, .int .i64 of, .int .i64 fr, .int .i64 til, .int .i64 de]) (d := some 25) rfl rfl (by decide +kernel) (fun _ _ _ h => h) (Or.inl ⟨by rfl, fun W hW => by obtain ⟨s0, s1, s2, s3, s4, s5, s6, s7, s8, s9⟩ := hW; go_simp⟩) (HSf.out _ HB0.out) ?_
  try simp only [Act.put, List.setIfInBounds_toArray, List.set_cons_zero, List.set_cons_succ]
  refine H_one (i := 5) (by decide +kernel) (H_step rfl rfl (fun K hK13 => ?_))
  have hK13 := Lib.hid hK13
  go_simp
  go_at_call 115
  refine (K1.out _ (HQ.out _ HB0.out).t.n).mono ?_
  rintro e wv ⟨rfl, rfl⟩
  refine hK13.out _ _ (HSf.out _ HB0.out) ?_
  try simp only [Act.put, List.setIfInBounds_toArray, List.set_cons_zero, List.set_cons_succ]
  refine H_takeD (k := 6) (v := .bool (!b1)) (d := some 14) rfl rfl (by decide +kernel) (fun _ _ _ h => h) (Or.inl ⟨by rfl, fun W hW => by obtain ⟨s0, s1, s2, s3, s4, s5, s6, s7, s8, s9⟩ := hW; go_simp⟩) (HSf.out _ HB0.out) ?_
  try simp only [Act.put, List.setIfInBounds_toArray, List.set_cons_zero, List.set_cons_succ]
  refine H_one (i := 7) (by decide +kernel) (H_step rfl rfl (fun K hK15 => ?_))
  have hK15 := Lib.hid hK15
  go_simp
  go_at_call 110
  refine (K3.out _).mono ?_
  rintro e wv ⟨rfl, rfl⟩
  refine hK15.out _ _ (HSf.out _ HB0.out) ?_
  try simp only [Act.put, List.setIfInBounds_toArray, List.set_cons_zero, List.set_cons_succ]
  refine H_one (i := 12) (by decide +kernel) (H_step rfl rfl (fun K hK16 => ?_))
  have hK16 := Lib.hid hK16
  go_simp
  go_at_call 111
  refine (K2.out _).mono ?_
  rintro e wv ⟨rfl, rfl⟩
  refine hK16.out _ _ (HSf.out _ HB0.out) ?_
  try simp only [Act.put, List.setIfInBounds_toArray, List.set_cons_zero, List.set_cons_succ]
  refine H_one (i := 13) (by decide +kernel) (H_step rfl rfl (fun K hK17 => ?_))
  have hK17 := Lib.hid hK17
  go_simp
  go_at_call 110
  refine (K4.out _).mono ?_
  rintro e wv ⟨rfl, rfl⟩
  refine hK17.out _ _ (HSf.out _ HB0.out) ?_
  try simp only [Act.put, List.setIfInBounds_toArray, List.set_cons_zero, List.set_cons_succ]
  refine H_one (i := 18) (by decide +kernel) (H_step rfl rfl (fun K hK18 => ?_))
  have hK18 := Lib.hid hK18
  go_simp
  go_at_call 109
  refine (K5.out _ (HQ.out _ HB0.out).s).mono ?_
  rintro e wv1 ⟨rfl, hv1⟩
  have HB1 := Lib.hid (HB0.out.trans (hv1.mono HB0.out.size))
  clear hv1
  refine hK18.out _ _ (HSf.out _ HB1.out) ?_
  try simp only [Act.put, List.setIfInBounds_toArray, List.set_cons_zero, List.set_cons_succ]
  refine H_one (i := 19) (by decide +kernel) (H_step rfl rfl (fun K hK19 => ?_))
  have hK19 := Lib.hid hK19
  go_simp
  have HB2 := Lib.hid (HB1.out.alloc HB1.out.size (.cells #[.int .i64 r1, .int .i64 r2, .int .i64 r3] 25))
  have hsi := Lib.hid (show SI (wv1.alloc (.cells #[.int .i64 r1, .int .i64 r2, .int .i64 r3] 25)) (some ⟨wv1.heap.size, 0, none⟩) [r1, r2, r3] from sl_bk (Bk.new wv1 25 #[.int .i64 r1, .int .i64 r2, .int .i64 r3]))
  refine hK19.out _ _ (HSf.out _ HB2.out) ?_
  try simp only [Act.put, List.setIfInBounds_toArray, List.set_cons_zero, List.set_cons_succ]
  generalize wv1.alloc (.cells #[.int .i64 r1, .int .i64 r2, .int .i64 r3] 25) = X9 at *
  generalize wv1.heap.size = h9 at *
  refine H_one (i := 20) (by decide +kernel) (H_step rfl rfl (fun K hK20 => ?_))
  have hK20 := Lib.hid hK20
  go_simp
  go_at_call 114
  refine (or_any (some ⟨h9, 0, none⟩) 3 [r1, r2, r3] X9 hsi.out (by simp)).mono ?_
  rintro e wv ⟨he, rfl⟩
  rw [hRe.out] at he
  subst he
  refine hK20.out _ _ (HSf.out _ HB2.out) ?_
  try simp only [Act.put, List.setIfInBounds_toArray, List.set_cons_zero, List.set_cons_succ]
  refine H_takeD (k := 21) (v := .int .i64 R) (d := some 7) rfl rfl (by decide +kernel) (fun _ _ _ h => h) (Or.inl ⟨by rfl, fun W hW => by obtain ⟨s0, s1, s2, s3, s4, s5, s6, s7, s8, s9⟩ := hW; go_simp⟩) (HSf.out _ HB2.out) ?_
  try simp only [Act.put, List.setIfInBounds_toArray, List.set_cons_zero, List.set_cons_succ]
  refine H_end (by decide +kernel) (NoPanic.normal ?_)
  try simp only [Act.put, List.setIfInBounds_toArray, List.set_cons_zero, List.set_cons_succ]
  have Hb2 := Lib.hid (Hb.out.trans (HB2.out.mono hz0))
  clear HB0 HB1 HB2 HSf HQ K1 K2 K3 K4 K5 hsi
  go_wp2_with fail
  go_ret
  exact ⟨rfl, by rw [Hs.out]; exact Hb2.out⟩
set_option linter.unusedSimpArgs false in
set_option maxHeartbeats 4000000 in
set_option maxRecDepth 100000 in
theorem eachM_any (S T I N : Nat) (p : Pa) (a : Pw) (C : Option Addr) (c : Nat) (cl : List Mk) (w : World) (h : RC w S T I N p a) (hC : SM w C cl) (hl2 : p.needs.length ≤ 1099511627776) (hl : cl.length ≤ 1099511627776) :
    Calls Tryz.prog 131 #[.slice C cl.length c, .func (.func 132) #[] #[.pointer (some ⟨S, 0, none⟩), .pointer (some ⟨I, 0, none⟩), .pointer (some ⟨T, 0, none⟩)]] w fun e w' => e = .returned (.int .i64 (eachE (mkW p.office p.needs cl) cl.length)) ∧ Below w.heap.size w w' := by
  obtain ⟨R, hR⟩ : ∃ z, Hid (eachE (mkW p.office p.needs cl) cl.length = z) := ⟨_, Lib.hid rfl⟩
  rw [hR.out]
  have HC := Lib.hid (fun (W : World) (hW : Below w.heap.size w W) => (show SM W C cl from hC.below hW))
  have HSf := Lib.hid (fun (W : World) (hW : Below w.heap.size w W) => h.below hW)
  clear h hC
  go_enter Tryz.func131, Tryz.ntmps131
  go_wp2_with fail
  go_loopw [10] (fun v wr => ∃ k : Nat, k ≤ cl.length ∧ v = .int .i64 k ∧ Hid (orE (((List.range cl.length).map (mkW p.office p.needs cl)).drop k) = R) ∧ Below w.heap.size w wr) (fun v _ => cl.length - (intOf v).toNat)
  case atStart => exact ⟨0, by omega, rfl, Lib.hid (by rw [List.drop_zero]; exact hR.out), Below.refl _ _⟩
  case round =>
    clear hR
    obtain ⟨k, hk, rfl, hd, hb⟩ := hrel
    have k0 : (0 : Int) ≤ (k : Int) := by omega
    by_cases hlt : k < cl.length
    · obtain ⟨bC, oC, ⟨mp, mi, ⟨kd, of, fr, til, de⟩⟩, hae, c0, c1, c2, c3, c4, c5, c6, hx⟩ := (HC.out _ hb).get (k := k) hlt
      obtain ⟨z, hz⟩ : ∃ z, Hid ((mkE p.office p.needs ⟨mp, mi, ⟨kd, of, fr, til, de⟩⟩) = z) := ⟨_, Lib.hid rfl⟩
      have hEk : (mkW p.office p.needs cl) k = z := by rw [← hz.out, mkW, hx.out]; rfl
      have hB1 := hb.alloc hb.size (.cells #[.int .u64 mp, .int .i64 mi, .int .i64 kd, .int .i64 of, .int .i64 fr, .int .i64 til, .int .i64 de] 88)
      have hC1 := rule9c_any S T I N p a (k : Int) mp mi kd of fr til de (wr.alloc (.cells #[.int .u64 mp, .int .i64 mi, .int .i64 kd, .int .i64 of, .int .i64 fr, .int .i64 til, .int .i64 de] 88)) (HSf.out _ hB1) hl2
      rw [hz.out] at hC1
      have hd2 := hd.out
      rw [eachE_drop hlt, hEk] at hd2
      have Hd2 := Lib.hid hd2
      have HB1 := Lib.hid hB1
      have hz1 : w.heap.size ≤ (wr.alloc (.cells #[.int .u64 mp, .int .i64 mi, .int .i64 kd, .int .i64 of, .int .i64 fr, .int .i64 til, .int .i64 de] 88)).heap.size := hB1.size
      clear hd hd2 hx hz hb hB1 hEk
      rw [hae]
      go_wp2_with fail
      refine hC1.mono ?_
      rintro e w1 ⟨rfl, hb1⟩
      have HB2 := Lib.hid (HB1.out.trans (hb1.mono hz1))
      clear hb1 HB1 hz1
      by_cases f1 : z = 0
      · have b1 : (z != 0) = false := by simp [f1]
        have Hd3 := Lib.hid (show orE (((List.range cl.length).map (mkW p.office p.needs cl)).drop (k + 1)) = R from by have h := Hd2.out; rw [if_neg (by simp [f1])] at h; exact h)
        clear Hd2 f1
        go_wp2_with fail
        go_roundw
        case rel => exact ⟨k + 1, by omega, by go_num, Hd3, HB2.out⟩
        case measure => simp [intOf]; omega
      · have b1 : (z != 0) = true := by simp [f1]
        have hr := Lib.hid (show R = z from by have h := Hd2.out; rw [if_pos f1] at h; exact h.symm)
        clear Hd2 f1
        go_wp2_with fail
        go_ret
        exact ⟨by rw [hr.out]; rfl, HB2.out⟩
    · have hr := Lib.hid (show R = 0 from by rw [← hd.out, List.drop_eq_nil_of_le (by simp; omega)]; rfl)
      have Hb := Lib.hid hb
      clear hd hb
      go_wp2_with fail
      go_ret
      exact ⟨by rw [hr.out]; rfl, Hb.out⟩
set_option linter.unusedSimpArgs false in
set_option maxHeartbeats 4000000 in
set_option maxRecDepth 100000 in
theorem rule9_any (S T I N : Nat) (p : Pa) (a : Pw) (w : World) (h : RC w S T I N p a) (hl : p.ma.length ≤ 1099511627776) (hl2 : p.needs.length ≤ 1099511627776) :
    Calls Tryz.prog 130 #[.pointer (some ⟨S, 0, none⟩), .pointer (some ⟨I, 0, none⟩), .pointer (some ⟨T, 0, none⟩)] w fun e w' => e = .returned (.int .i64 (eachE (mkW p.office p.needs p.ma) p.ma.length)) ∧ Below w.heap.size w w' := by
  have g2 : w.cell? ⟨S, 5, none⟩ = some (.slice a.m p.ma.length a.cm) := h.s.cell 5
  have hC := eachM_any S T I N p a a.m a.cm p.ma w h h.t.m hl2 hl
  obtain ⟨R, hR⟩ : ∃ z, Hid (eachE (mkW p.office p.needs p.ma) p.ma.length = z) := ⟨_, Lib.hid rfl⟩
  rw [hR.out] at hC ⊢
  clear h hR hl
  go_enter Tryz.func130, Tryz.ntmps130
  go_wp2_with fail
  refine hC.mono ?_
  rintro e w1 ⟨rfl, hb⟩
  have Hb := Lib.hid hb
  clear hb
  go_wp2_with fail
  go_ret
  exact ⟨rfl, Hb.out⟩
end Go.Proofs.YtnapnkmehnabfaaGreat
