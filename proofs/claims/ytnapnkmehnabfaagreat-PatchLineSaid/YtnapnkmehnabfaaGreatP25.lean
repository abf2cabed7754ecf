import Derived.Test.YtnapnkmehnabfaaGreatP24
namespace Go.Proofs.YtnapnkmehnabfaaGreat
open Go.RowKit Go.Maps

theorem idE_or {needs : List Int} {l : List (Int × Int)} {k : Nat} {x y : Int} (b : Bool) (hx : l[k]? = some (x, y)) (hb : b = true ↔ 0 < k ∧ lessI (l.getD (k - 1) (0, 0)) (x, y) = false) :
    orE [if (!decide (x ∈ needs)) = true then 12 else 0, if decide (¬ (0 ≤ y ∧ y ≤ 4095)) = true then 1 else 0, if b = true then 16 else 0] = idE needs l k := by
  have hd : l.getD k (0, 0) = (x, y) := by rw [List.getD_eq_getElem?_getD, hx]; rfl
  unfold idE
  rw [hd]
  refine (or3' _ _ _).trans ?_
  congr 2
  exact ite_congr (propext hb) (fun _ => rfl) (fun _ => rfl)

set_option linter.unusedSimpArgs false in
set_option maxHeartbeats 4000000 in
set_option maxRecDepth 100000 in
theorem rule3c0_any (S T I N L : Nat) (p : Pa) (a : Pw) (A : Option Addr) (c : Nat) (l : List (Int × Int)) (x y : Int) (w : World) (h : RC w S T I N p a) (hL : Bk w L 31 #[.slice A l.length c]) (hx : l[0]? = some (x, y)) (hl : p.needs.length ≤ 1099511627776) :
    Calls Tryz.prog 113 #[.int .i64 0, .agg #[.int .u64 x, .int .i64 y], .pointer (some ⟨S, 0, none⟩), .pointer (some ⟨I, 0, none⟩), .pointer (some ⟨L, 0, none⟩)] w fun e w' => e = .returned (.int .i64 (idE p.needs l 0)) ∧ Below w.heap.size w w' := by
  have hb := (Below.refl w.heap.size w).alloc (Nat.le_refl _) (.cells #[.int .u64 x, .int .i64 y] 77)
  have hk1 := Bk.new w 77 #[.int .u64 x, .int .i64 y]
  have hk2 := h.below hb
  have hk3 := hL.below hb hL.lt
  obtain ⟨R, hR⟩ : ∃ z, Hid (idE p.needs l 0 = z) := ⟨_, Lib.hid rfl⟩
  rw [hR.out]
  obtain ⟨b1, hb1⟩ : ∃ z, Hid (decide (x ∈ p.needs) = z) := ⟨_, Lib.hid rfl⟩
  obtain ⟨b2, hb2⟩ : ∃ z, Hid (decide (¬ (0 ≤ y ∧ y ≤ 4095)) = z) := ⟨_, Lib.hid rfl⟩
  obtain ⟨r1, hr1⟩ : ∃ z, Hid ((if (!b1) = true then (12 : Int) else 0) = z) := ⟨_, Lib.hid rfl⟩
  obtain ⟨r2, hr2⟩ : ∃ z, Hid ((if b2 = true then (1 : Int) else 0) = z) := ⟨_, Lib.hid rfl⟩
  have hRe := Lib.hid (show orE [r1, r2, 0] = R from by rw [← hR.out, ← idE_or false hx (by simp), ← hr1.out, ← hr2.out, ← hb1.out, ← hb2.out]; rfl)
  have K1 := Lib.hid (fun W (h1 : SU W a.n p.needs) => hb1.out ▸ containsU_any a.n a.cn p.needs x W h1 hl)
  have K2 := Lib.hid (fun W => hb2.out ▸ rule2_any y W)
  have K3 := Lib.hid (fun W => hr1.out ▸ when_any (!b1) 12 W)
  have K4 := Lib.hid (fun W => hr2.out ▸ when_any b2 1 W)
  clear h hL hR hb1 hb2 hr1 hr2 hx
  go_enter Tryz.func113, Tryz.ntmps113
  go_upto_region 1 with fail
  generalize w.alloc (.cells #[.int .u64 x, .int .i64 y] 77) = W0 at *
  generalize hs : w.heap.size = s at *
  have Hs := Lib.hid hs
  clear hs
  have Hb := Lib.hid hb
  have HQ := Lib.hid (fun (W : World) (hW : Below W0.heap.size W0 W) => hk2.below hW)
  have HSf := Lib.hid (fun (W : World) (hW : Below W0.heap.size W0 W) => show W.cell? ⟨S, 2, none⟩ = some (.slice a.n p.needs.length a.cn) ∧ W.cell? ⟨s, 0, none⟩ = some (.int .u64 x) ∧ W.cell? ⟨s, 1, none⟩ = some (.int .i64 y) ∧ W.cell? ⟨I, 0, none⟩ = some (.func (.func 111) #[] #[]) from ⟨(hk2.below hW).s.cell 2, (hk1.below hW hk1.lt).cell 0, (hk1.below hW hk1.lt).cell 1, (hk2.below hW).i.cell 0⟩)
  have HB0 := Lib.hid ((Below.refl W0.heap.size W0).drew)
  have hz0 : s ≤ W0.heap.size := by have := hk1.lt; omega
  clear hb hk1 hk2 hk3
  refine wp_region_noPanic ?_
  refine region_H (S := fun W => W.cell? ⟨S, 2, none⟩ = some (.slice a.n p.needs.length a.cn) ∧ W.cell? ⟨s, 0, none⟩ = some (.int .u64 x) ∧ W.cell? ⟨s, 1, none⟩ = some (.int .i64 y) ∧ W.cell? ⟨I, 0, none⟩ = some (.func (.func 111) #[] #[])) (by kernel_rfl) ?_
  change wpH _ _ _ _ 29 _ _ W0.drew
  generalize W0.drew = X0 at *
  refine H_takeD (k := 0) (v := .pointer (some ⟨S, 2, none⟩)) (d := some 8) rfl rfl (by decide +kernel) (fun _ _ _ h => h) (Or.inl ⟨by rfl, fun W hW => by obtain ⟨s0, s1, s2, s3⟩ := hW; go_simp⟩) (HSf.out _ HB0.out) ?_
  try simp only [Act.put, List.setIfInBounds_toArray, List.set_cons_zero, List.set_cons_succ]
  refine H_takeD (k := 1) (v := .slice a.n p.needs.length a.cn) (d := some 9) rfl rfl (by decide +kernel) (fun _ _ _ h => h) (Or.inl ⟨by rfl, fun W hW => by obtain ⟨s0, s1, s2, s3⟩ := hW; go_simp⟩) (HSf.out _ HB0.out) ?_
  try simp only [Act.put, List.setIfInBounds_toArray, List.set_cons_zero, List.set_cons_succ]
  refine H_takeD (k := 2) (v := .pointer (some ⟨s, 0, none⟩)) (d := some 10) rfl rfl (by decide +kernel) (fun _ _ _ h => h) (Or.inl ⟨by rfl, fun W hW => by obtain ⟨s0, s1, s2, s3⟩ := hW; go_simp⟩) (HSf.out _ HB0.out) ?_
  try simp only [Act.put, List.setIfInBounds_toArray, List.set_cons_zero, List.set_cons_succ]
  refine H_takeD (k := 3) (v := .int .u64 x) (d := some 11) rfl rfl (by decide +kernel) (fun _ _ _ h => h) (Or.inl ⟨by rfl, fun W hW => by obtain ⟨s0, s1, s2, s3⟩ := hW; go_simp⟩) (HSf.out _ HB0.out) ?_
  try simp only [Act.put, List.setIfInBounds_toArray, List.set_cons_zero, List.set_cons_succ]
  refine H_takeD (k := 7) (v := .func (.func 111) #[] #[]) (d := some 15) rfl rfl (by decide +kernel) (fun _ _ _ h => h) (Or.inl ⟨by rfl, fun W hW => by obtain ⟨s0, s1, s2, s3⟩ := hW; go_simp⟩) (HSf.out _ HB0.out) ?_
  try simp only [Act.put, List.setIfInBounds_toArray, List.set_cons_zero, List.set_cons_succ]
  refine H_takeD (k := 8) (v := .pointer (some ⟨s, 1, none⟩)) (d := some 16) rfl rfl (by decide +kernel) (fun _ _ _ h => h) (Or.inl ⟨by rfl, fun W hW => by obtain ⟨s0, s1, s2, s3⟩ := hW; go_simp⟩) (HSf.out _ HB0.out) ?_
  try simp only [Act.put, List.setIfInBounds_toArray, List.set_cons_zero, List.set_cons_succ]
  refine H_takeD (k := 9) (v := .int .i64 y) (d := some 17) rfl rfl (by decide +kernel) (fun _ _ _ h => h) (Or.inl ⟨by rfl, fun W hW => by obtain ⟨s0, s1, s2, s3⟩ := hW; go_simp⟩) (HSf.out _ HB0.out) ?_
  try simp only [Act.put, List.setIfInBounds_toArray, List.set_cons_zero, List.set_cons_succ]
  refine H_takeD (k := 12) (v := .int .i64 0) (d := some 20) rfl rfl (by decide +kernel) (fun _ _ _ h => h) (Or.inl ⟨by rfl, fun W hW => by obtain ⟨s0, s1, s2, s3⟩ := hW; go_simp⟩) (HSf.out _ HB0.out) ?_
  try simp only [Act.put, List.setIfInBounds_toArray, List.set_cons_zero, List.set_cons_succ]
  refine H_takeD (k := 13) (v := .bool false) (d := some 21) rfl rfl (by decide +kernel) (fun _ _ _ h => h) (Or.inl ⟨by rfl, fun W hW => by obtain ⟨s0, s1, s2, s3⟩ := hW; go_simp⟩) (HSf.out _ HB0.out) ?_
  try simp only [Act.put, List.setIfInBounds_toArray, List.set_cons_zero, List.set_cons_succ]
  refine H_one (i := 4) (by decide +kernel) (H_step rfl rfl (fun K hK9 => ?_))
  have hK9 := Lib.hid hK9
  go_simp
  go_at_call 115
  refine (K1.out _ (HQ.out _ HB0.out).t.n).mono ?_
  rintro e wv ⟨rfl, rfl⟩
  refine hK9.out _ _ (HSf.out _ HB0.out) ?_
  try simp only [Act.put, List.setIfInBounds_toArray, List.set_cons_zero, List.set_cons_succ]
  refine H_takeD (k := 5) (v := .bool (!b1)) (d := some 13) rfl rfl (by decide +kernel) (fun _ _ _ h => h) (Or.inl ⟨by rfl, fun W hW => by obtain ⟨s0, s1, s2, s3⟩ := hW; go_simp⟩) (HSf.out _ HB0.out) ?_
  try simp only [Act.put, List.setIfInBounds_toArray, List.set_cons_zero, List.set_cons_succ]
  refine H_one (i := 6) (by decide +kernel) (H_step rfl rfl (fun K hK11 => ?_))
  have hK11 := Lib.hid hK11
  go_simp
  go_at_call 110
  refine (K3.out _).mono ?_
  rintro e wv ⟨rfl, rfl⟩
  refine hK11.out _ _ (HSf.out _ HB0.out) ?_
  try simp only [Act.put, List.setIfInBounds_toArray, List.set_cons_zero, List.set_cons_succ]
  refine H_one (i := 10) (by decide +kernel) (H_step rfl rfl (fun K hK12 => ?_))
  have hK12 := Lib.hid hK12
  go_simp
  go_at_call 111
  refine (K2.out _).mono ?_
  rintro e wv ⟨rfl, rfl⟩
  refine hK12.out _ _ (HSf.out _ HB0.out) ?_
  try simp only [Act.put, List.setIfInBounds_toArray, List.set_cons_zero, List.set_cons_succ]
  refine H_one (i := 11) (by decide +kernel) (H_step rfl rfl (fun K hK13 => ?_))
  have hK13 := Lib.hid hK13
  go_simp
  go_at_call 110
  refine (K4.out _).mono ?_
  rintro e wv ⟨rfl, rfl⟩
  refine hK13.out _ _ (HSf.out _ HB0.out) ?_
  try simp only [Act.put, List.setIfInBounds_toArray, List.set_cons_zero, List.set_cons_succ]
  refine H_takeD (k := 14) (v := .bool false) (d := some 22) rfl rfl (by decide +kernel) (fun _ _ _ h => h) (Or.inl ⟨by rfl, fun W hW => by obtain ⟨s0, s1, s2, s3⟩ := hW; go_simp⟩) (HSf.out _ HB0.out) ?_
  try simp only [Act.put, List.setIfInBounds_toArray, List.set_cons_zero, List.set_cons_succ]
  refine H_takeD (k := 15) (v := undef) (d := some 23) rfl rfl (by decide +kernel) (fun _ _ _ h => h) (Or.inr ⟨by simp [Region.wanted, yielded, undef], rfl⟩) (HSf.out _ HB0.out) ?_
  try simp only [Act.put, List.setIfInBounds_toArray, List.set_cons_zero, List.set_cons_succ]
  refine H_takeD (k := 16) (v := undef) (d := some 24) rfl rfl (by decide +kernel) (fun _ _ _ h => h) (Or.inr ⟨by simp [Region.wanted, yielded, undef], rfl⟩) (HSf.out _ HB0.out) ?_
  try simp only [Act.put, List.setIfInBounds_toArray, List.set_cons_zero, List.set_cons_succ]
  refine H_takeD (k := 17) (v := undef) (d := some 25) rfl rfl (by decide +kernel) (fun _ _ _ h => h) (Or.inr ⟨by simp [Region.wanted, yielded, undef], rfl⟩) (HSf.out _ HB0.out) ?_
  try simp only [Act.put, List.setIfInBounds_toArray, List.set_cons_zero, List.set_cons_succ]
  refine H_takeD (k := 18) (v := undef) (d := some 26) rfl rfl (by decide +kernel) (fun _ _ _ h => h) (Or.inr ⟨by simp [Region.wanted, yielded, undef], rfl⟩) (HSf.out _ HB0.out) ?_
  try simp only [Act.put, List.setIfInBounds_toArray, List.set_cons_zero, List.set_cons_succ]
  refine H_takeD (k := 19) (v := undef) (d := some 27) rfl rfl (by decide +kernel) (fun _ _ _ h => h) (Or.inr ⟨by simp [Region.wanted, yielded, undef], rfl⟩) (HSf.out _ HB0.out) ?_
  try simp only [Act.put, List.setIfInBounds_toArray, List.set_cons_zero, List.set_cons_succ]
  refine H_takeD (k := 20) (v := undef) (d := some 28) rfl rfl (by decide +kernel) (fun _ _ _ h => h) (Or.inr ⟨by simp [Region.wanted, yielded, undef], rfl⟩) (HSf.out _ HB0.out) ?_
  try simp only [Act.put, List.setIfInBounds_toArray, List.set_cons_zero, List.set_cons_succ]
  refine H_takeD (k := 21) (v := undef) (d := some 29) rfl rfl (by decide +kernel) (fun _ _ _ h => h) (Or.inr ⟨by simp [Region.wanted, yielded, undef], rfl⟩) (HSf.out _ HB0.out) ?_
  try simp only [Act.put, List.setIfInBounds_toArray, List.set_cons_zero, List.set_cons_succ]
  refine H_takeD (k := 22) (v := undef) (d := some 30) rfl rfl (by decide +kernel) (fun _ _ _ h => h) (Or.inr ⟨by simp [Region.wanted, yielded, undef], rfl⟩) (HSf.out _ HB0.out) ?_
  try simp only [Act.put, List.setIfInBounds_toArray, List.set_cons_zero, List.set_cons_succ]
  refine H_takeD (k := 23) (v := undef) (d := some 31) rfl rfl (by decide +kernel) (fun _ _ _ h => h) (Or.inr ⟨by simp [Region.wanted, yielded, undef], rfl⟩) (HSf.out _ HB0.out) ?_
  try simp only [Act.put, List.setIfInBounds_toArray, List.set_cons_zero, List.set_cons_succ]
  refine H_takeD (k := 24) (v := .bool false) (d := some 32) rfl rfl (by decide +kernel) (fun _ _ _ h => h) (Or.inl ⟨by rfl, fun W hW => by obtain ⟨s0, s1, s2, s3⟩ := hW; go_simp⟩) (HSf.out _ HB0.out) ?_
  try simp only [Act.put, List.setIfInBounds_toArray, List.set_cons_zero, List.set_cons_succ]
  refine H_one (i := 25) (by decide +kernel) (H_step rfl rfl (fun K hK25 => ?_))
  have hK25 := Lib.hid hK25
  go_simp
  go_at_call 110
  refine (when_any false 16 _).mono ?_
  rintro e wv ⟨rfl, rfl⟩
  refine hK25.out _ _ (HSf.out _ HB0.out) ?_
  try simp only [Act.put, List.setIfInBounds_toArray, List.set_cons_zero, List.set_cons_succ]
  refine H_one (i := 26) (by decide +kernel) (H_step rfl rfl (fun K hK26 => ?_))
  have hK26 := Lib.hid hK26
  go_simp
  have HB1 := Lib.hid (HB0.out.alloc HB0.out.size (.cells #[.int .i64 r1, .int .i64 r2, .int .i64 0] 25))
  have hsi := Lib.hid (show SI (X0.alloc (.cells #[.int .i64 r1, .int .i64 r2, .int .i64 0] 25)) (some ⟨X0.heap.size, 0, none⟩) [r1, r2, 0] from sl_bk (Bk.new X0 25 #[.int .i64 r1, .int .i64 r2, .int .i64 0]))
  refine hK26.out _ _ (HSf.out _ HB1.out) ?_
  try simp only [Act.put, List.setIfInBounds_toArray, List.set_cons_zero, List.set_cons_succ]
  generalize X0.alloc (.cells #[.int .i64 r1, .int .i64 r2, .int .i64 0] 25) = X9 at *
  generalize X0.heap.size = h9 at *
  refine H_one (i := 27) (by decide +kernel) (H_step rfl rfl (fun K hK27 => ?_))
  have hK27 := Lib.hid hK27
  go_simp
  go_at_call 114
  refine (or_any (some ⟨h9, 0, none⟩) 3 [r1, r2, 0] X9 hsi.out (by simp)).mono ?_
  rintro e wv ⟨he, rfl⟩
  rw [hRe.out] at he
  subst he
  refine hK27.out _ _ (HSf.out _ HB1.out) ?_
  try simp only [Act.put, List.setIfInBounds_toArray, List.set_cons_zero, List.set_cons_succ]
  refine H_takeD (k := 28) (v := .int .i64 R) (d := some 7) rfl rfl (by decide +kernel) (fun _ _ _ h => h) (Or.inl ⟨by rfl, fun W hW => by obtain ⟨s0, s1, s2, s3⟩ := hW; go_simp⟩) (HSf.out _ HB1.out) ?_
  try simp only [Act.put, List.setIfInBounds_toArray, List.set_cons_zero, List.set_cons_succ]
  refine H_end (by decide +kernel) (NoPanic.normal ?_)
  try simp only [Act.put, List.setIfInBounds_toArray, List.set_cons_zero, List.set_cons_succ]
  have Hb2 := Lib.hid (Hb.out.trans (HB1.out.mono hz0))
  clear HB0 HB1 HSf HQ K1 K2 K3 K4 hsi
  go_wp2_with fail
  go_ret
  exact ⟨rfl, by rw [Hs.out]; exact Hb2.out⟩
set_option linter.unusedSimpArgs false in
set_option maxHeartbeats 4000000 in
set_option maxRecDepth 100000 in
theorem rule3cS_any (S T I N L : Nat) (p : Pa) (a : Pw) (k : Nat) (A : Option Addr) (c : Nat) (l : List (Int × Int)) (x y : Int) (w : World) (h : RC w S T I N p a) (hL : Bk w L 31 #[.slice A l.length c]) (hA : SD w A l) (hx : l[(k + 1)]? = some (x, y)) (hl : p.needs.length ≤ 1099511627776) (hl2 : l.length ≤ 1099511627776) :
    Calls Tryz.prog 113 #[.int .i64 ((k + 1 : Nat) : Int), .agg #[.int .u64 x, .int .i64 y], .pointer (some ⟨S, 0, none⟩), .pointer (some ⟨I, 0, none⟩), .pointer (some ⟨L, 0, none⟩)] w fun e w' => e = .returned (.int .i64 (idE p.needs l (k + 1))) ∧ Below w.heap.size w w' := by
  have hb := (Below.refl w.heap.size w).alloc (Nat.le_refl _) (.cells #[.int .u64 x, .int .i64 y] 77)
  have hk1 := Bk.new w 77 #[.int .u64 x, .int .i64 y]
  have hk2 := h.below hb
  have hk3 := hL.below hb hL.lt
  obtain ⟨R, hR⟩ : ∃ z, Hid (idE p.needs l (k + 1) = z) := ⟨_, Lib.hid rfl⟩
  rw [hR.out]
  obtain ⟨b1, hb1⟩ : ∃ z, Hid (decide (x ∈ p.needs) = z) := ⟨_, Lib.hid rfl⟩
  obtain ⟨b2, hb2⟩ : ∃ z, Hid (decide (¬ (0 ≤ y ∧ y ≤ 4095)) = z) := ⟨_, Lib.hid rfl⟩
  obtain ⟨r1, hr1⟩ : ∃ z, Hid ((if (!b1) = true then (12 : Int) else 0) = z) := ⟨_, Lib.hid rfl⟩
  obtain ⟨r2, hr2⟩ : ∃ z, Hid ((if b2 = true then (1 : Int) else 0) = z) := ⟨_, Lib.hid rfl⟩
  have hk2l := (List.getElem?_eq_some_iff.1 hx).1
  obtain ⟨b, o, x2, y2, hae, c0, c1, hy⟩ := hA.get (k := k) (by omega)
  rw [hae] at hk3
  obtain ⟨n1, hn1⟩ : ∃ z, Hid (byN (x2, y2) (x, y) = z) := ⟨_, Lib.hid rfl⟩
  obtain ⟨b3, hb3⟩ : ∃ z, Hid (decide (0 ≤ n1) = z) := ⟨_, Lib.hid rfl⟩
  obtain ⟨r3, hr3⟩ : ∃ z, Hid ((if b3 = true then (16 : Int) else 0) = z) := ⟨_, Lib.hid rfl⟩
  have hRe := Lib.hid (show orE [r1, r2, r3] = R from by
    rw [← hR.out, ← idE_or b3 hx (by rw [← hb3.out, ← hn1.out, byN_ge, show k + 1 - 1 = k from rfl, List.getD_eq_getElem?_getD, hy.out]; simp), ← hr1.out, ← hr2.out, ← hr3.out, ← hb1.out, ← hb2.out])
  have t5 := hb3.out
  have hkl : k < l.length := by omega
  have k0 : (0 : Int) ≤ (k : Int) := by omega
  have hw : IntKind.i64.wrap (k : Int) = (k : Int) := IntWalk.i64_in _ ⟨by omega, by omega⟩
  have hmx : ∀ (ts : Array TypeId) (t : TypeId) (W : World), (Builtin.max_ ts t #[.int .i64 0, .int .i64 (k : Int)]).run Tryz.prog W = .ok (.int .i64 (k : Int)) W := fun ts t W => by
    rw [Lib.run_max_ints W ts t .i64 .i64 0 (k : Int), Int.max_eq_right k0]
  have hgt : decide ((k : Int) + 1 > 0) = true := decide_eq_true (by omega)
  have K6 := Lib.hid (fun W => hn1.out ▸ byName_any x2 y2 x y W)
  have K7 := Lib.hid (fun W => hr3.out ▸ when_any b3 16 W)
  have hbl : b < w.heap.size := World.block_lt_of_cell? _ _ c0
  have hc0 := (hb.cell (p := ⟨b, o + k * 2, none⟩) hbl).trans c0
  have hc1 := (hb.cell (p := ⟨b, o + k * 2 + 1, none⟩) hbl).trans c1
  have K1 := Lib.hid (fun W (h1 : SU W a.n p.needs) => hb1.out ▸ containsU_any a.n a.cn p.needs x W h1 hl)
  have K2 := Lib.hid (fun W => hb2.out ▸ rule2_any y W)
  have K3 := Lib.hid (fun W => hr1.out ▸ when_any (!b1) 12 W)
  have K4 := Lib.hid (fun W => hr2.out ▸ when_any b2 1 W)
  clear h hL hR hb1 hb2 hr1 hr2 hx hA hae c0 c1 hy hn1 hb3 hr3
  go_enter Tryz.func113, Tryz.ntmps113
  go_upto_region 1 with fail
  have hbl2 : b < (w.alloc (.cells #[.int .u64 x, .int .i64 y] 77)).heap.size := by simp; omega
  generalize w.alloc (.cells #[.int .u64 x, .int .i64 y] 77) = W0 at *
  generalize hs : w.heap.size = s at *
  have Hs := Lib.hid hs
  clear hs
  have Hb := Lib.hid hb
  have HQ := Lib.hid (fun (W : World) (hW : Below W0.heap.size W0 W) => hk2.below hW)
  have HSf := Lib.hid (fun (W : World) (hW : Below W0.heap.size W0 W) => show W.cell? ⟨S, 2, none⟩ = some (.slice a.n p.needs.length a.cn) ∧ W.cell? ⟨s, 0, none⟩ = some (.int .u64 x) ∧ W.cell? ⟨s, 1, none⟩ = some (.int .i64 y) ∧ W.cell? ⟨I, 0, none⟩ = some (.func (.func 111) #[] #[]) ∧ W.cell? ⟨L, 0, none⟩ = some (.slice (some ⟨b, o, none⟩) l.length c) ∧ W.cell? ⟨b, o + k * 2, none⟩ = some (.int .u64 x2) ∧ W.cell? ⟨b, o + k * 2 + 1, none⟩ = some (.int .i64 y2) from ⟨(hk2.below hW).s.cell 2, (hk1.below hW hk1.lt).cell 0, (hk1.below hW hk1.lt).cell 1, (hk2.below hW).i.cell 0, (hk3.below hW hk3.lt).cell 0, (hW.cell (p := ⟨b, o + k * 2, none⟩) hbl2).trans hc0, (hW.cell (p := ⟨b, o + k * 2 + 1, none⟩) hbl2).trans hc1⟩)
  have HB0 := Lib.hid ((Below.refl W0.heap.size W0).drew)
  have hz0 : s ≤ W0.heap.size := by have := hk1.lt; omega
  clear hb hk1 hk2 hk3 hc0 hc1 hbl hbl2 hk2l
  refine wp_region_noPanic ?_
  refine region_H (S := fun W => W.cell? ⟨S, 2, none⟩ = some (.slice a.n p.needs.length a.cn) ∧ W.cell? ⟨s, 0, none⟩ = some (.int .u64 x) ∧ W.cell? ⟨s, 1, none⟩ = some (.int .i64 y) ∧ W.cell? ⟨I, 0, none⟩ = some (.func (.func 111) #[] #[]) ∧ W.cell? ⟨L, 0, none⟩ = some (.slice (some ⟨b, o, none⟩) l.length c) ∧ W.cell? ⟨b, o + k * 2, none⟩ = some (.int .u64 x2) ∧ W.cell? ⟨b, o + k * 2 + 1, none⟩ = some (.int .i64 y2)) (by kernel_rfl) ?_
  change wpH _ _ _ _ 29 _ _ W0.drew
  generalize W0.drew = X0 at *
  refine H_takeD (k := 0) (v := .pointer (some ⟨S, 2, none⟩)) (d := some 8) rfl rfl (by decide +kernel) (fun _ _ _ h => h) (Or.inl ⟨by rfl, fun W hW => by obtain ⟨s0, s1, s2, s3, s4, s5, s6⟩ := hW; go_simp⟩) (HSf.out _ HB0.out) ?_
  try simp only [Act.put, List.setIfInBounds_toArray, List.set_cons_zero, List.set_cons_succ]
  refine H_takeD (k := 1) (v := .slice a.n p.needs.length a.cn) (d := some 9) rfl rfl (by decide +kernel) (fun _ _ _ h => h) (Or.inl ⟨by rfl, fun W hW => by obtain ⟨s0, s1, s2, s3, s4, s5, s6⟩ := hW; go_simp⟩) (HSf.out _ HB0.out) ?_
  try simp only [Act.put, List.setIfInBounds_toArray, List.set_cons_zero, List.set_cons_succ]
  refine H_takeD (k := 2) (v := .pointer (some ⟨s, 0, none⟩)) (d := some 10) rfl rfl (by decide +kernel) (fun _ _ _ h => h) (Or.inl ⟨by rfl, fun W hW => by obtain ⟨s0, s1, s2, s3, s4, s5, s6⟩ := hW; go_simp⟩) (HSf.out _ HB0.out) ?_
  try simp only [Act.put, List.setIfInBounds_toArray, List.set_cons_zero, List.set_cons_succ]
  refine H_takeD (k := 3) (v := .int .u64 x) (d := some 11) rfl rfl (by decide +kernel) (fun _ _ _ h => h) (Or.inl ⟨by rfl, fun W hW => by obtain ⟨s0, s1, s2, s3, s4, s5, s6⟩ := hW; go_simp⟩) (HSf.out _ HB0.out) ?_
  try simp only [Act.put, List.setIfInBounds_toArray, List.set_cons_zero, List.set_cons_succ]
  refine H_takeD (k := 7) (v := .func (.func 111) #[] #[]) (d := some 15) rfl rfl (by decide +kernel) (fun _ _ _ h => h) (Or.inl ⟨by rfl, fun W hW => by obtain ⟨s0, s1, s2, s3, s4, s5, s6⟩ := hW; go_simp⟩) (HSf.out _ HB0.out) ?_
  try simp only [Act.put, List.setIfInBounds_toArray, List.set_cons_zero, List.set_cons_succ]
  refine H_takeD (k := 8) (v := .pointer (some ⟨s, 1, none⟩)) (d := some 16) rfl rfl (by decide +kernel) (fun _ _ _ h => h) (Or.inl ⟨by rfl, fun W hW => by obtain ⟨s0, s1, s2, s3, s4, s5, s6⟩ := hW; go_simp⟩) (HSf.out _ HB0.out) ?_
  try simp only [Act.put, List.setIfInBounds_toArray, List.set_cons_zero, List.set_cons_succ]
  refine H_takeD (k := 9) (v := .int .i64 y) (d := some 17) rfl rfl (by decide +kernel) (fun _ _ _ h => h) (Or.inl ⟨by rfl, fun W hW => by obtain ⟨s0, s1, s2, s3, s4, s5, s6⟩ := hW; go_simp⟩) (HSf.out _ HB0.out) ?_
  try simp only [Act.put, List.setIfInBounds_toArray, List.set_cons_zero, List.set_cons_succ]
  refine H_takeD (k := 12) (v := .int .i64 ((k : Int) + 1)) (d := some 20) rfl rfl (by decide +kernel) (fun _ _ _ h => h) (Or.inl ⟨by rfl, fun W hW => by obtain ⟨s0, s1, s2, s3, s4, s5, s6⟩ := hW; go_simp⟩) (HSf.out _ HB0.out) ?_
  try simp only [Act.put, List.setIfInBounds_toArray, List.set_cons_zero, List.set_cons_succ]
  refine H_takeD (k := 13) (v := .bool true) (d := some 21) rfl rfl (by decide +kernel) (fun _ _ _ h => h) (Or.inl ⟨by rfl, fun W hW => by obtain ⟨s0, s1, s2, s3, s4, s5, s6⟩ := hW; go_simp⟩) (HSf.out _ HB0.out) ?_
  try simp only [Act.put, List.setIfInBounds_toArray, List.set_cons_zero, List.set_cons_succ]
  refine H_one (i := 4) (by decide +kernel) (H_step rfl rfl (fun K hK9 => ?_))
  have hK9 := Lib.hid hK9
  go_simp
  go_at_call 115
  refine (K1.out _ (HQ.out _ HB0.out).t.n).mono ?_
  rintro e wv ⟨rfl, rfl⟩
  refine hK9.out _ _ (HSf.out _ HB0.out) ?_
  try simp only [Act.put, List.setIfInBounds_toArray, List.set_cons_zero, List.set_cons_succ]
  refine H_takeD (k := 5) (v := .bool (!b1)) (d := some 13) rfl rfl (by decide +kernel) (fun _ _ _ h => h) (Or.inl ⟨by rfl, fun W hW => by obtain ⟨s0, s1, s2, s3, s4, s5, s6⟩ := hW; go_simp⟩) (HSf.out _ HB0.out) ?_
  try simp only [Act.put, List.setIfInBounds_toArray, List.set_cons_zero, List.set_cons_succ]
  refine H_one (i := 6) (by decide +kernel) (H_step rfl rfl (fun K hK11 => ?_))
  have hK11 := Lib.hid hK11
  go_simp
  go_at_call 110
  refine (K3.out _).mono ?_
  rintro e wv ⟨rfl, rfl⟩
  refine hK11.out _ _ (HSf.out _ HB0.out) ?_
  try simp only [Act.put, List.setIfInBounds_toArray, List.set_cons_zero, List.set_cons_succ]
  refine H_one (i := 10) (by decide +kernel) (H_step rfl rfl (fun K hK12 => ?_))
  have hK12 := Lib.hid hK12
  go_simp
  go_at_call 111
  refine (K2.out _).mono ?_
  rintro e wv ⟨rfl, rfl⟩
  refine hK12.out _ _ (HSf.out _ HB0.out) ?_
  try simp only [Act.put, List.setIfInBounds_toArray, List.set_cons_zero, List.set_cons_succ]
  refine H_one (i := 11) (by decide +kernel) (H_step rfl rfl (fun K hK13 => ?_))
  have hK13 := Lib.hid hK13
  go_simp
  go_at_call 110
  refine (K4.out _).mono ?_
  rintro e wv ⟨rfl, rfl⟩
  refine hK13.out _ _ (HSf.out _ HB0.out) ?_
  try simp only [Act.put, List.setIfInBounds_toArray, List.set_cons_zero, List.set_cons_succ]
  refine H_takeD (k := 14) (v := .bool true) (d := some 22) rfl rfl (by decide +kernel) (fun _ _ _ h => h) (Or.inl ⟨by rfl, fun W hW => by obtain ⟨s0, s1, s2, s3, s4, s5, s6⟩ := hW; go_simp⟩) (HSf.out _ HB0.out) ?_
  try simp only [Act.put, List.setIfInBounds_toArray, List.set_cons_zero, List.set_cons_succ]
  refine H_takeD (k := 15) (v := .slice (some ⟨b, o, none⟩) l.length c) (d := some 23) rfl rfl (by decide +kernel) (fun _ _ _ h => h) (Or.inl ⟨by simp [Region.wanted, yielded], fun W hW => by obtain ⟨s0, s1, s2, s3, s4, s5, s6⟩ := hW; go_simp⟩) (HSf.out _ HB0.out) ?_
  try simp only [Act.put, List.setIfInBounds_toArray, List.set_cons_zero, List.set_cons_succ]
  refine H_takeD (k := 16) (v := .int .i64 ((k : Int) + 1)) (d := some 24) rfl rfl (by decide +kernel) (fun _ _ _ h => h) (Or.inl ⟨by simp [Region.wanted, yielded], fun W hW => by obtain ⟨s0, s1, s2, s3, s4, s5, s6⟩ := hW; go_simp⟩) (HSf.out _ HB0.out) ?_
  try simp only [Act.put, List.setIfInBounds_toArray, List.set_cons_zero, List.set_cons_succ]
  refine H_takeD (k := 17) (v := .int .i64 (k : Int)) (d := some 25) rfl rfl (by decide +kernel) (fun _ _ _ h => h) (Or.inl ⟨by simp [Region.wanted, yielded], fun W hW => by obtain ⟨s0, s1, s2, s3, s4, s5, s6⟩ := hW; go_simp⟩) (HSf.out _ HB0.out) ?_
  try simp only [Act.put, List.setIfInBounds_toArray, List.set_cons_zero, List.set_cons_succ]
  refine H_takeD (k := 18) (v := .int .i64 (k : Int)) (d := some 26) rfl rfl (by decide +kernel) (fun _ _ _ h => h) (Or.inl ⟨by simp [Region.wanted, yielded], fun W hW => by obtain ⟨s0, s1, s2, s3, s4, s5, s6⟩ := hW; go_simp⟩) (HSf.out _ HB0.out) ?_
  try simp only [Act.put, List.setIfInBounds_toArray, List.set_cons_zero, List.set_cons_succ]
  refine H_takeD (k := 19) (v := .pointer (some ⟨b, o + k * 2, none⟩)) (d := some 27) rfl rfl (by decide +kernel) (fun _ _ _ h => h) (Or.inl ⟨by simp [Region.wanted, yielded], fun W hW => by obtain ⟨s0, s1, s2, s3, s4, s5, s6⟩ := hW; go_simp⟩) (HSf.out _ HB0.out) ?_
  try simp only [Act.put, List.setIfInBounds_toArray, List.set_cons_zero, List.set_cons_succ]
  refine H_takeD (k := 20) (v := .agg #[.int .u64 x2, .int .i64 y2]) (d := some 28) rfl rfl (by decide +kernel) (fun _ _ _ h => h) (Or.inl ⟨by simp [Region.wanted, yielded], fun W hW => by obtain ⟨s0, s1, s2, s3, s4, s5, s6⟩ := hW; go_simp⟩) (HSf.out _ HB0.out) ?_
  try simp only [Act.put, List.setIfInBounds_toArray, List.set_cons_zero, List.set_cons_succ]
  refine H_takeD (k := 21) (v := .agg #[.int .u64 x, .int .i64 y]) (d := some 29) rfl rfl (by decide +kernel) (fun _ _ _ h => h) (Or.inl ⟨by simp [Region.wanted, yielded], fun W hW => by obtain ⟨s0, s1, s2, s3, s4, s5, s6⟩ := hW; go_simp⟩) (HSf.out _ HB0.out) ?_
  try simp only [Act.put, List.setIfInBounds_toArray, List.set_cons_zero, List.set_cons_succ]
  refine H_one (i := 22) (by decide +kernel) (H_stepg rfl (by simp [Region.wanted, yielded]) (fun K hK22 => ?_))
  have hK22 := Lib.hid hK22
  go_simp
  go_at_call 102
  refine (K6.out _).mono ?_
  rintro e wv1 ⟨rfl, hv1⟩
  have HB1 := Lib.hid (HB0.out.trans (hv1.mono HB0.out.size))
  clear hv1
  refine hK22.out _ _ (HSf.out _ HB1.out) ?_
  try simp only [Act.put, List.setIfInBounds_toArray, List.set_cons_zero, List.set_cons_succ]
  refine H_takeD (k := 23) (v := .bool b3) (d := some 31) rfl rfl (by decide +kernel) (fun _ _ _ h => h) (Or.inl ⟨by simp [Region.wanted, yielded], fun W hW => by obtain ⟨s0, s1, s2, s3, s4, s5, s6⟩ := hW; go_simp⟩) (HSf.out _ HB1.out) ?_
  try simp only [Act.put, List.setIfInBounds_toArray, List.set_cons_zero, List.set_cons_succ]
  refine H_takeD (k := 24) (v := .bool b3) (d := some 32) rfl rfl (by decide +kernel) (fun _ _ _ h => h) (Or.inl ⟨by rfl, fun W hW => by obtain ⟨s0, s1, s2, s3, s4, s5, s6⟩ := hW; go_simp⟩) (HSf.out _ HB1.out) ?_
  try simp only [Act.put, List.setIfInBounds_toArray, List.set_cons_zero, List.set_cons_succ]
  refine H_one (i := 25) (by decide +kernel) (H_step rfl rfl (fun K hK25 => ?_))
  have hK25 := Lib.hid hK25
  go_simp
  go_at_call 110
  refine (K7.out _).mono ?_
  rintro e wv ⟨rfl, rfl⟩
  refine hK25.out _ _ (HSf.out _ HB1.out) ?_
  try simp only [Act.put, List.setIfInBounds_toArray, List.set_cons_zero, List.set_cons_succ]
  refine H_one (i := 26) (by decide +kernel) (H_step rfl rfl (fun K hK26 => ?_))
  have hK26 := Lib.hid hK26
  go_simp
  have HB2 := Lib.hid (HB1.out.alloc HB1.out.size (.cells #[.int .i64 r1, .int .i64 r2, .int .i64 r3] 25))
  have hsi := Lib.hid (show SI (wv1.alloc (.cells #[.int .i64 r1, .int .i64 r2, .int .i64 r3] 25)) (some ⟨wv1.heap.size, 0, none⟩) [r1, r2, r3] from sl_bk (Bk.new wv1 25 #[.int .i64 r1, .int .i64 r2, .int .i64 r3]))
  refine hK26.out _ _ (HSf.out _ HB2.out) ?_
  try simp only [Act.put, List.setIfInBounds_toArray, List.set_cons_zero, List.set_cons_succ]
  generalize wv1.alloc (.cells #[.int .i64 r1, .int .i64 r2, .int .i64 r3] 25) = X9 at *
  generalize wv1.heap.size = h9 at *
  refine H_one (i := 27) (by decide +kernel) (H_step rfl rfl (fun K hK27 => ?_))
  have hK27 := Lib.hid hK27
  go_simp
  go_at_call 114
  refine (or_any (some ⟨h9, 0, none⟩) 3 [r1, r2, r3] X9 hsi.out (by simp)).mono ?_
  rintro e wv ⟨he, rfl⟩
  rw [hRe.out] at he
  subst he
  refine hK27.out _ _ (HSf.out _ HB2.out) ?_
  try simp only [Act.put, List.setIfInBounds_toArray, List.set_cons_zero, List.set_cons_succ]
  refine H_takeD (k := 28) (v := .int .i64 R) (d := some 7) rfl rfl (by decide +kernel) (fun _ _ _ h => h) (Or.inl ⟨by rfl, fun W hW => by obtain ⟨s0, s1, s2, s3, s4, s5, s6⟩ := hW; go_simp⟩) (HSf.out _ HB2.out) ?_
  try simp only [Act.put, List.setIfInBounds_toArray, List.set_cons_zero, List.set_cons_succ]
  refine H_end (by decide +kernel) (NoPanic.normal ?_)
  try simp only [Act.put, List.setIfInBounds_toArray, List.set_cons_zero, List.set_cons_succ]
  have Hb2 := Lib.hid (Hb.out.trans (HB2.out.mono hz0))
  clear HB0 HB1 HB2 HSf HQ K1 K2 K3 K4 hsi K6 K7 hmx t5 hw hgt k0
  go_wp2_with fail
  go_ret
  exact ⟨rfl, by rw [Hs.out]; exact Hb2.out⟩
theorem rule3c_any (S T I N L : Nat) (p : Pa) (a : Pw) (k : Nat) (A : Option Addr) (c : Nat) (l : List (Int × Int)) (x y : Int) (w : World) (h : RC w S T I N p a) (hL : Bk w L 31 #[.slice A l.length c]) (hA : SD w A l) (hx : l[k]? = some (x, y)) (hl : p.needs.length ≤ 1099511627776) (hl2 : l.length ≤ 1099511627776) :
    Calls Tryz.prog 113 #[.int .i64 (k : Int), .agg #[.int .u64 x, .int .i64 y], .pointer (some ⟨S, 0, none⟩), .pointer (some ⟨I, 0, none⟩), .pointer (some ⟨L, 0, none⟩)] w fun e w' => e = .returned (.int .i64 (idE p.needs l k)) ∧ Below w.heap.size w w' := by
  cases k with
  | zero => exact rule3c0_any S T I N L p a A c l x y w h hL hx hl
  | succ k => exact rule3cS_any S T I N L p a k A c l x y w h hL hA hx hl hl2
set_option linter.unusedSimpArgs false in
set_option maxHeartbeats 4000000 in
set_option maxRecDepth 100000 in
theorem eachI_any (S T I N L : Nat) (p : Pa) (a : Pw) (C : Option Addr) (c : Nat) (cl : List (Int × Int)) (w : World) (h : RC w S T I N p a) (hL : Bk w L 31 #[.slice C cl.length c]) (hC : SD w C cl) (hl2 : p.needs.length ≤ 1099511627776) (hl : cl.length ≤ 1099511627776) :
    Calls Tryz.prog 134 #[.slice C cl.length c, .func (.func 113) #[] #[.pointer (some ⟨S, 0, none⟩), .pointer (some ⟨I, 0, none⟩), .pointer (some ⟨L, 0, none⟩)]] w fun e w' => e = .returned (.int .i64 (eachE (idE p.needs cl) cl.length)) ∧ Below w.heap.size w w' := by
  obtain ⟨R, hR⟩ : ∃ z, Hid (eachE (idE p.needs cl) cl.length = z) := ⟨_, Lib.hid rfl⟩
  rw [hR.out]
  have HC := Lib.hid (fun (W : World) (hW : Below w.heap.size w W) => (show SD W C cl from hC.below hW))
  have HSf := Lib.hid (fun (W : World) (hW : Below w.heap.size w W) => h.below hW)
  have HL := Lib.hid (fun (W : World) (hW : Below w.heap.size w W) => hL.below hW hL.lt)
  clear h hC hL
  go_enter Tryz.func134, Tryz.ntmps134
  go_wp2_with fail
  go_loopw [10] (fun v wr => ∃ k : Nat, k ≤ cl.length ∧ v = .int .i64 k ∧ Hid (orE (((List.range cl.length).map (idE p.needs cl)).drop k) = R) ∧ Below w.heap.size w wr) (fun v _ => cl.length - (intOf v).toNat)
  case atStart => exact ⟨0, by omega, rfl, Lib.hid (by rw [List.drop_zero]; exact hR.out), Below.refl _ _⟩
  case round =>
    clear hR
    obtain ⟨k, hk, rfl, hd, hb⟩ := hrel
    have k0 : (0 : Int) ≤ (k : Int) := by omega
    by_cases hlt : k < cl.length
    · obtain ⟨bC, oC, x, y, hae, c0, c1, hx⟩ := (HC.out _ hb).get (k := k) hlt
      obtain ⟨z, hz⟩ : ∃ z, Hid ((idE p.needs cl k) = z) := ⟨_, Lib.hid rfl⟩
      have hEk : (idE p.needs cl) k = z := hz.out
      have hB1 := hb.alloc hb.size (.cells #[.int .u64 x, .int .i64 y] 77)
      have hC1 := rule3c_any S T I N L p a k C c cl x y (wr.alloc (.cells #[.int .u64 x, .int .i64 y] 77)) (HSf.out _ hB1) (HL.out _ hB1) (HC.out _ hB1) hx.out hl2 hl
      rw [hz.out] at hC1
      have hd2 := hd.out
      rw [eachE_drop hlt, hEk] at hd2
      have Hd2 := Lib.hid hd2
      have HB1 := Lib.hid hB1
      have hz1 : w.heap.size ≤ (wr.alloc (.cells #[.int .u64 x, .int .i64 y] 77)).heap.size := hB1.size
      clear hd hd2 hx hz hb hB1 hEk
      rw [hae]
      go_wp2_with fail
      refine hC1.mono ?_
      rintro e w1 ⟨rfl, hb1⟩
      have HB2 := Lib.hid (HB1.out.trans (hb1.mono hz1))
      clear hb1 HB1 hz1
      by_cases f1 : z = 0
      · have b1 : (z != 0) = false := by simp [f1]
        have Hd3 := Lib.hid (show orE (((List.range cl.length).map (idE p.needs cl)).drop (k + 1)) = R from by have h := Hd2.out; rw [if_neg (by simp [f1])] at h; exact h)
        clear Hd2 f1
        go_wp2_with fail
        go_roundw
        case rel => exact ⟨k + 1, by omega, by go_num, Hd3, HB2.out⟩
        case measure => simp [intOf]; omega
      · have b1 : (z != 0) = true := by simp [f1]
        have hr := Lib.hid (show R = z from by have h := Hd2.out; rw [if_pos f1] at h; exact h.symm)
        clear Hd2 f1
        go_wp2_with fail
        go_ret
        exact ⟨by rw [hr.out]; rfl, HB2.out⟩
    · have hr := Lib.hid (show R = 0 from by rw [← hd.out, List.drop_eq_nil_of_le (by simp; omega)]; rfl)
      have Hb := Lib.hid hb
      clear hd hb
      go_wp2_with fail
      go_ret
      exact ⟨by rw [hr.out]; rfl, Hb.out⟩
set_option linter.unusedSimpArgs false in
set_option maxHeartbeats 4000000 in
theorem rule3_any (S I : Nat) (A : Option Addr) (n c : Nat) (w : World) :
    Calls Tryz.prog 112 #[.slice A n c, .pointer (some ⟨S, 0, none⟩), .pointer (some ⟨I, 0, none⟩)] w fun e w' => e = .returned (.func (.func 113) #[] #[.pointer (some ⟨S, 0, none⟩), .pointer (some ⟨I, 0, none⟩), .pointer (some ⟨w.heap.size, 0, none⟩)]) ∧ w' = w.alloc (.cells #[.slice A n c] 31) := by
  go_enter Tryz.func112, Tryz.ntmps112
  go_wp2_with fail
  go_ret
  exact ⟨rfl, rfl⟩
set_option linter.unusedSimpArgs false in
set_option maxHeartbeats 4000000 in
set_option maxRecDepth 100000 in
theorem rule10_any (S T I N : Nat) (p : Pa) (a : Pw) (w : World) (h : RC w S T I N p a) (hl : p.er.length ≤ 1099511627776) (hl2 : p.needs.length ≤ 1099511627776) :
    Calls Tryz.prog 133 #[.pointer (some ⟨S, 0, none⟩), .pointer (some ⟨N, 0, none⟩)] w fun e w' => e = .returned (.int .i64 (eachE (idE p.needs p.er) p.er.length)) ∧ Below w.heap.size w w' := by
  have g2 : w.cell? ⟨S, 6, none⟩ = some (.slice a.e p.er.length a.ce) := h.s.cell 6
  have g3 : w.cell? ⟨N, 0, none⟩ = some (.func (.func 112) #[] #[.pointer (some ⟨S, 0, none⟩), .pointer (some ⟨I, 0, none⟩)]) := h.n.cell 0
  have hb0 := (Below.refl w.heap.size w).drew.drew.drew
  obtain ⟨R, hR⟩ : ∃ z, Hid (eachE (idE p.needs p.er) p.er.length = z) := ⟨_, Lib.hid rfl⟩
  have K1 := Lib.hid (fun (W : World) (hW : Below w.heap.size w W) => hR.out ▸ eachI_any S T I N W.heap.size p a a.e a.ce p.er (W.alloc (.cells #[.slice a.e p.er.length a.ce] 31)) (h.below (hW.alloc hW.size _)) (Bk.new _ _ _) (h.t.e.below (hW.alloc hW.size _)) hl2 hl)
  rw [hR.out]
  have Hr := Lib.hid (Below.refl w.heap.size w)
  have HSf := Lib.hid (fun (W : World) (hW : Below w.heap.size w W) => show W.cell? ⟨S, 6, none⟩ = some (.slice a.e p.er.length a.ce) ∧ W.cell? ⟨N, 0, none⟩ = some (.func (.func 112) #[] #[.pointer (some ⟨S, 0, none⟩), .pointer (some ⟨I, 0, none⟩)]) from ⟨(h.s.below hW h.s.lt).cell 6, (h.n.below hW h.n.lt).cell 0⟩)
  have HB0 := Lib.hid ((Below.refl w.heap.size w).drew)
  clear h hR hl hl2 hb0 g2 g3
  go_enter Tryz.func133, Tryz.ntmps133
  go_upto_region 1 with fail
  refine wp_region_noPanic ?_
  refine region_H (S := fun W => W.cell? ⟨S, 6, none⟩ = some (.slice a.e p.er.length a.ce) ∧ W.cell? ⟨N, 0, none⟩ = some (.func (.func 112) #[] #[.pointer (some ⟨S, 0, none⟩), .pointer (some ⟨I, 0, none⟩)])) (by kernel_rfl) ?_
  change wpH _ _ _ _ 8 _ _ w.drew
  generalize w.drew = X0 at *
  refine H_takeD (k := 0) (v := .pointer (some ⟨S, 6, none⟩)) (d := some 3) rfl rfl (by decide +kernel) (fun _ _ _ h => h) (Or.inl ⟨by rfl, fun W hW => by obtain ⟨s0, s1⟩ := hW; go_simp⟩) (HSf.out _ HB0.out) ?_
  try simp only [Act.put, List.setIfInBounds_toArray, List.set_cons_zero, List.set_cons_succ]
  refine H_takeD (k := 1) (v := .slice a.e p.er.length a.ce) (d := some 4) rfl rfl (by decide +kernel) (fun _ _ _ h => h) (Or.inl ⟨by rfl, fun W hW => by obtain ⟨s0, s1⟩ := hW; go_simp⟩) (HSf.out _ HB0.out) ?_
  try simp only [Act.put, List.setIfInBounds_toArray, List.set_cons_zero, List.set_cons_succ]
  refine H_takeD (k := 2) (v := .func (.func 112) #[] #[.pointer (some ⟨S, 0, none⟩), .pointer (some ⟨I, 0, none⟩)]) (d := some 5) rfl rfl (by decide +kernel) (fun _ _ _ h => h) (Or.inl ⟨by rfl, fun W hW => by obtain ⟨s0, s1⟩ := hW; go_simp⟩) (HSf.out _ HB0.out) ?_
  try simp only [Act.put, List.setIfInBounds_toArray, List.set_cons_zero, List.set_cons_succ]
  refine H_takeD (k := 3) (v := .pointer (some ⟨S, 6, none⟩)) (d := some 6) rfl rfl (by decide +kernel) (fun _ _ _ h => h) (Or.inl ⟨by rfl, fun W hW => by obtain ⟨s0, s1⟩ := hW; go_simp⟩) (HSf.out _ HB0.out) ?_
  try simp only [Act.put, List.setIfInBounds_toArray, List.set_cons_zero, List.set_cons_succ]
  refine H_takeD (k := 4) (v := .slice a.e p.er.length a.ce) (d := some 7) rfl rfl (by decide +kernel) (fun _ _ _ h => h) (Or.inl ⟨by rfl, fun W hW => by obtain ⟨s0, s1⟩ := hW; go_simp⟩) (HSf.out _ HB0.out) ?_
  try simp only [Act.put, List.setIfInBounds_toArray, List.set_cons_zero, List.set_cons_succ]
  refine H_one (i := 5) (by decide +kernel) (H_step rfl rfl (fun K hK5 => ?_))
  have hK5 := Lib.hid hK5
  go_simp
  go_at_call 112
  refine (rule3_any S I _ _ _ _).mono ?_
  rintro e wv ⟨rfl, rfl⟩
  have HB1 := Lib.hid (HB0.out.alloc HB0.out.size (.cells #[.slice a.e p.er.length a.ce] 31))
  have K2 := Lib.hid (K1.out X0 HB0.out)
  clear K1
  refine hK5.out _ _ (HSf.out _ HB1.out) ?_
  try simp only [Act.put, List.setIfInBounds_toArray, List.set_cons_zero, List.set_cons_succ]
  generalize X0.alloc (.cells #[.slice a.e p.er.length a.ce] 31) = X1 at *
  generalize X0.heap.size = h1 at *
  refine H_one (i := 6) (by decide +kernel) (H_step rfl rfl (fun K hK6 => ?_))
  have hK6 := Lib.hid hK6
  go_simp
  go_at_call 134
  refine K2.out.mono ?_
  rintro e wv2 ⟨rfl, hv2⟩
  have HB2 := Lib.hid (HB1.out.trans (hv2.mono HB1.out.size))
  clear hv2
  refine hK6.out _ _ (HSf.out _ HB2.out) ?_
  try simp only [Act.put, List.setIfInBounds_toArray, List.set_cons_zero, List.set_cons_succ]
  refine H_takeD (k := 7) (v := .int .i64 R) (d := some 2) rfl rfl (by decide +kernel) (fun _ _ _ h => h) (Or.inl ⟨by rfl, fun W hW => by obtain ⟨s0, s1⟩ := hW; go_simp⟩) (HSf.out _ HB2.out) ?_
  try simp only [Act.put, List.setIfInBounds_toArray, List.set_cons_zero, List.set_cons_succ]
  refine H_end (by decide +kernel) (NoPanic.normal ?_)
  try simp only [Act.put, List.setIfInBounds_toArray, List.set_cons_zero, List.set_cons_succ]
  have Hb2 := Lib.hid HB2.out
  clear HB0 HB1 HB2 HSf K2
  go_wp2_with fail
  go_ret
  exact ⟨rfl, Hb2.out⟩
set_option linter.unusedSimpArgs false in
set_option maxHeartbeats 4000000 in
set_option maxRecDepth 100000 in
theorem rule11_any (S T I N : Nat) (p : Pa) (a : Pw) (w : World) (h : RC w S T I N p a) (hl : p.dr.length ≤ 1099511627776) (hl2 : p.needs.length ≤ 1099511627776) :
    Calls Tryz.prog 135 #[.pointer (some ⟨S, 0, none⟩), .pointer (some ⟨N, 0, none⟩)] w fun e w' => e = .returned (.int .i64 (eachE (idE p.needs p.dr) p.dr.length)) ∧ Below w.heap.size w w' := by
  have g2 : w.cell? ⟨S, 7, none⟩ = some (.slice a.d p.dr.length a.cd) := h.s.cell 7
  have g3 : w.cell? ⟨N, 0, none⟩ = some (.func (.func 112) #[] #[.pointer (some ⟨S, 0, none⟩), .pointer (some ⟨I, 0, none⟩)]) := h.n.cell 0
  have hb0 := (Below.refl w.heap.size w).drew.drew.drew
  obtain ⟨R, hR⟩ : ∃ z, Hid (eachE (idE p.needs p.dr) p.dr.length = z) := ⟨_, Lib.hid rfl⟩
  have K1 := Lib.hid (fun (W : World) (hW : Below w.heap.size w W) => hR.out ▸ eachI_any S T I N W.heap.size p a a.d a.cd p.dr (W.alloc (.cells #[.slice a.d p.dr.length a.cd] 31)) (h.below (hW.alloc hW.size _)) (Bk.new _ _ _) (h.t.d.below (hW.alloc hW.size _)) hl2 hl)
  rw [hR.out]
  have Hr := Lib.hid (Below.refl w.heap.size w)
  have HSf := Lib.hid (fun (W : World) (hW : Below w.heap.size w W) => show W.cell? ⟨S, 7, none⟩ = some (.slice a.d p.dr.length a.cd) ∧ W.cell? ⟨N, 0, none⟩ = some (.func (.func 112) #[] #[.pointer (some ⟨S, 0, none⟩), .pointer (some ⟨I, 0, none⟩)]) from ⟨(h.s.below hW h.s.lt).cell 7, (h.n.below hW h.n.lt).cell 0⟩)
  have HB0 := Lib.hid ((Below.refl w.heap.size w).drew)
  clear h hR hl hl2 hb0 g2 g3
  go_enter Tryz.func135, Tryz.ntmps135
  go_upto_region 1 with fail
  refine wp_region_noPanic ?_
  refine region_H (S := fun W => W.cell? ⟨S, 7, none⟩ = some (.slice a.d p.dr.length a.cd) ∧ W.cell? ⟨N, 0, none⟩ = some (.func (.func 112) #[] #[.pointer (some ⟨S, 0, none⟩), .pointer (some ⟨I, 0, none⟩)])) (by kernel_rfl) ?_
  change wpH _ _ _ _ 8 _ _ w.drew
  generalize w.drew = X0 at *
  refine H_takeD (k := 0) (v := .pointer (some ⟨S, 7, none⟩)) (d := some 3) rfl rfl (by decide +kernel) (fun _ _ _ h => h) (Or.inl ⟨by rfl, fun W hW => by obtain ⟨s0, s1⟩ := hW; go_simp⟩) (HSf.out _ HB0.out) ?_
  try simp only [Act.put, List.setIfInBounds_toArray, List.set_cons_zero, List.set_cons_succ]
  refine H_takeD (k := 1) (v := .slice a.d p.dr.length a.cd) (d := some 4) rfl rfl (by decide +kernel) (fun _ _ _ h => h) (Or.inl ⟨by rfl, fun W hW => by obtain ⟨s0, s1⟩ := hW; go_simp⟩) (HSf.out _ HB0.out) ?_
  try simp only [Act.put, List.setIfInBounds_toArray, List.set_cons_zero, List.set_cons_succ]
  refine H_takeD (k := 2) (v := .func (.func 112) #[] #[.pointer (some ⟨S, 0, none⟩), .pointer (some ⟨I, 0, none⟩)]) (d := some 5) rfl rfl (by decide +kernel) (fun _ _ _ h => h) (Or.inl ⟨by rfl, fun W hW => by obtain ⟨s0, s1⟩ := hW; go_simp⟩) (HSf.out _ HB0.out) ?_
  try simp only [Act.put, List.setIfInBounds_toArray, List.set_cons_zero, List.set_cons_succ]
  refine H_takeD (k := 3) (v := .pointer (some ⟨S, 7, none⟩)) (d := some 6) rfl rfl (by decide +kernel) (fun _ _ _ h => h) (Or.inl ⟨by rfl, fun W hW => by obtain ⟨s0, s1⟩ := hW; go_simp⟩) (HSf.out _ HB0.out) ?_
  try simp only [Act.put, List.setIfInBounds_toArray, List.set_cons_zero, List.set_cons_succ]
  refine H_takeD (k := 4) (v := .slice a.d p.dr.length a.cd) (d := some 7) rfl rfl (by decide +kernel) (fun _ _ _ h => h) (Or.inl ⟨by rfl, fun W hW => by obtain ⟨s0, s1⟩ := hW; go_simp⟩) (HSf.out _ HB0.out) ?_
  try simp only [Act.put, List.setIfInBounds_toArray, List.set_cons_zero, List.set_cons_succ]
  refine H_one (i := 5) (by decide +kernel) (H_step rfl rfl (fun K hK5 => ?_))
  have hK5 := Lib.hid hK5
  go_simp
  go_at_call 112
  refine (rule3_any S I _ _ _ _).mono ?_
  rintro e wv ⟨rfl, rfl⟩
  have HB1 := Lib.hid (HB0.out.alloc HB0.out.size (.cells #[.slice a.d p.dr.length a.cd] 31))
  have K2 := Lib.hid (K1.out X0 HB0.out)
  clear K1
  refine hK5.out _ _ (HSf.out _ HB1.out) ?_
  try simp only [Act.put, List.setIfInBounds_toArray, List.set_cons_zero, List.set_cons_succ]
  generalize X0.alloc (.cells #[.slice a.d p.dr.length a.cd] 31) = X1 at *
  generalize X0.heap.size = h1 at *
  refine H_one (i := 6) (by decide +kernel) (H_step rfl rfl (fun K hK6 => ?_))
  have hK6 := Lib.hid hK6
  go_simp
  go_at_call 134
  refine K2.out.mono ?_
  rintro e wv2 ⟨rfl, hv2⟩
  have HB2 := Lib.hid (HB1.out.trans (hv2.mono HB1.out.size))
  clear hv2
  refine hK6.out _ _ (HSf.out _ HB2.out) ?_
  try simp only [Act.put, List.setIfInBounds_toArray, List.set_cons_zero, List.set_cons_succ]
  refine H_takeD (k := 7) (v := .int .i64 R) (d := some 2) rfl rfl (by decide +kernel) (fun _ _ _ h => h) (Or.inl ⟨by rfl, fun W hW => by obtain ⟨s0, s1⟩ := hW; go_simp⟩) (HSf.out _ HB2.out) ?_
  try simp only [Act.put, List.setIfInBounds_toArray, List.set_cons_zero, List.set_cons_succ]
  refine H_end (by decide +kernel) (NoPanic.normal ?_)
  try simp only [Act.put, List.setIfInBounds_toArray, List.set_cons_zero, List.set_cons_succ]
  have Hb2 := Lib.hid HB2.out
  clear HB0 HB1 HB2 HSf K2
  go_wp2_with fail
  go_ret
  exact ⟨rfl, Hb2.out⟩
end Go.Proofs.YtnapnkmehnabfaaGreat
