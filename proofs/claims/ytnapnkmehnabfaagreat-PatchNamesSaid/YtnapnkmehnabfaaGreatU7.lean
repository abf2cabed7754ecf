import Derived.Test.YtnapnkmehnabfaaGreatU6
import Derived.Deep.CutBlock
import Derived.Deep.DeepCutAuto
import Derived.Test.YtnapnkmehnabfaaGreatP36
namespace Go.Proofs.YtnapnkmehnabfaaGreat
open Go.RowKit Go.Maps

theorem putI_at : ∀ (l : List (Int × Int)) (k : Nat) (x : Int × Int), (∀ j, j < k → lessI (l.getD j (0, 0)) x = true) → k ≤ l.length → (k < l.length → lessI (l.getD k (0, 0)) x = false) →
  putI l x = if k < l.length ∧ l.getD k (0, 0) = x then l else l.take k ++ [x] ++ l.drop k
 | [], k, x, _, hk, _ => by
  obtain rfl : k = 0 := by simpa using hk
  simp [putI]
 | t :: l, 0, x, _, _, h => by
  have h0 : lessI t x = false := h (by simp)
  unfold putI
  rw [if_neg (by simp [h0])]
  by_cases e : t = x
  ·rw [if_pos e, if_pos ⟨by simp, e⟩]
  ·rw [if_neg e, if_neg (fun h => e h.2)]
   rfl
 | t :: l, k + 1, x, hl, hk, h => by
  have h0 : lessI t x = true := hl 0 (by omega)
  have := putI_at l k x (fun j hj => hl (j + 1) (by omega)) (by simpa using hk) (fun hk => h (by simpa using hk))
  unfold putI
  rw [if_pos h0, this]
  by_cases e : k < l.length ∧ l.getD k (0, 0) = x
  ·rw [if_pos e, if_pos ⟨by simpa using e.1, e.2⟩]
  ·rw [if_neg e, if_neg (fun h => e ⟨by simpa using h.1, h.2⟩)]
   rfl
theorem below_of_grownU {w w' : World} (hg : w.grownBy w' none) : Below w.heap.size w w' := ⟨hg.os, hg.tape, hg.output, hg.size, fun k hk => hg.block k hk (by simp)⟩
theorem own_form {w : World} {base n c size : Nat} {A : Option Addr} {e : TypeId} {vs : List Value} (h : w.ownsRow base e size (.slice A n c) n vs) : (A = none ∧ c = 0) ∨ ∃ b, A = some ⟨b, 0, none⟩ := by
 rcases h.2 with ⟨e1, _⟩ | ⟨g, _, _, e1, _⟩
 ·injection e1 with e2 _ e3; exact .inl ⟨e2, e3⟩
 ·injection e1 with e2 _ _; exact .inr ⟨g, e2⟩
theorem idC_take : ∀ (l : List (Int × Int)) (k : Nat), idC (l.take k) = (idC l).take (k * 2)
 | [], k => by simp [idC]
 | t :: l, 0 => rfl
 | t :: l, k + 1 => by
  show Value.int .u64 t.1 :: .int .i64 t.2 :: idC (l.take k) = (Value.int .u64 t.1 :: .int .i64 t.2 :: idC l).take ((k + 1) * 2)
  rw [idC_take l k, show (k + 1) * 2 = k * 2 + 1 + 1 by omega]
  rfl
theorem idC_drop : ∀ (l : List (Int × Int)) (k : Nat), idC (l.drop k) = (idC l).drop (k * 2)
 | [], k => by simp [idC]
 | t :: l, 0 => rfl
 | t :: l, k + 1 => by
  show idC (l.drop k) = (Value.int .u64 t.1 :: .int .i64 t.2 :: idC l).drop ((k + 1) * 2)
  rw [idC_drop l k, show (k + 1) * 2 = k * 2 + 1 + 1 by omega]
  rfl
theorem SD.takeU {w : World} {A : Option Addr} {l : List (Int × Int)} (h : SD w A l) (k : Nat) : SL w A (idC (l.take k)) := fun j u hu => h j u (by
 rw [idC_take, List.getElem?_take] at hu
 split at hu
 ·exact hu
 ·cases hu)
theorem SD.dropU {w : World} {b o : Nat} {l : List (Int × Int)} (h : SD w (some ⟨b, o, none⟩) l) (k : Nat) : SL w (some ⟨b, o + k * 2, none⟩) (idC (l.drop k)) := fun j u hu => by
 rw [idC_drop, List.getElem?_drop] at hu
 obtain ⟨b', o', e, hb, hc⟩ := h _ u hu
 injection e with e
 injection e with e1 e2
 subst e1 e2
 exact ⟨b, o + k * 2, rfl, hb, by rw [Nat.add_assoc]; exact hc⟩
set_option linter.unusedSimpArgs false in
set_option maxHeartbeats 8000000 in
set_option maxRecDepth 100000 in
theorem put_any (A : Option Addr) (c : Nat) (l : List (Int × Int)) (x y : Int) (w : World) (hA : SD w A l) (hl : l.length ≤ 1000000) (hc : l.length ≤ c) (hform : (A = none ∧ c = 0) ∨ ∃ b, A = some ⟨b, 0, none⟩) :
  Calls Tryz.prog 108 #[.slice A l.length c, .agg #[.int .u64 x, .int .i64 y]] w fun e w' => ∃ B d, e = .returned (.slice B (putI l (x, y)).length d) ∧ SD w' B (putI l (x, y)) ∧ (putI l (x, y)).length ≤ d ∧ ((B = none ∧ d = 0) ∨ ∃ b, B = some ⟨b, 0, none⟩) ∧ Below w.heap.size w w' := by
 have hb0 := (Below.refl w.heap.size w).alloc (Nat.le_refl _) (.cells #[.int .u64 x, .int .i64 y] 77)
 have HN := Lib.hid (Bk.new w 77 #[.int .u64 x, .int .i64 y])
 have HB0 := Lib.hid hb0
 have HA0 := Lib.hid (show SD (w.alloc (.cells #[.int .u64 x, .int .i64 y] 77)) A l from SD.below hA hb0)
 obtain ⟨n, hn⟩ : ∃ z, Hid (l.length = z) := ⟨_, Lib.hid rfl⟩
 rw [hn.out] at hl hc ⊢
 clear hA hb0
 go_enter Tryz.func108, Tryz.ntmps108
 go_upto_block 0 with fail
 generalize w.alloc (.cells #[.int .u64 x, .int .i64 y] 77) = W0 at *
 obtain ⟨N, hN⟩ : ∃ z, Hid (w.heap.size = z) := ⟨_, Lib.hid rfl⟩
 rw [hN.out] at HN HB0
 simp only [hN.out]
 go_cut [5] (fun v wx => ∃ k : Nat, k ≤ n ∧ v = .int .i64 (k : Int) ∧ Hid (∀ j, j < k → lessI (l.getD j (0, 0)) (x, y) = true) ∧ Hid (k < n → lessI (l.getD k (0, 0)) (x, y) = false) ∧ Hid (Below W0.heap.size W0 wx))
 case first => as_aux_lemma =>
  go_wp2_with fail
  go_loopw [5] (fun v wr => ∃ k : Nat, k ≤ n ∧ v = .int .i64 (k : Int) ∧ Hid (∀ j, j < k → lessI (l.getD j (0, 0)) (x, y) = true) ∧ Hid (Below W0.heap.size W0 wr)) (fun v _ => n - (intOf v).toNat)
  case atStart => exact ⟨0, by omega, rfl, Lib.hid (fun j hj => by omega), Lib.hid (Below.refl _ _)⟩
  case round =>
   obtain ⟨k, hk, rfl, Hall, HB⟩ := hrel
   have HX := Lib.hid HB.out.drew
   by_cases hlt : k < n
   ·obtain ⟨b, o, p, i, hAe, hc0, hc1, hi⟩ := SD.get (HA0.out.below HX.out) (k := k) (by rw [hn.out]; exact hlt)
    subst hAe
    have hgd : l.getD k (0, 0) = (p, i) := by rw [List.getD_eq_getElem?_getD, hi.out]; rfl
    have Hgd := Lib.hid hgd
    have HNx := Lib.hid (HN.out.below HX.out HN.out.lt)
    obtain ⟨lt, hlt2⟩ : ∃ z, Hid (lessI (p, i) (x, y) = z) := ⟨_, Lib.hid rfl⟩
    have HL := Lib.hid (fun W => hlt2.out ▸ refLess_any p i x y W)
    have hki : ¬ (n ≤ k) := by omega
    have HS := Lib.hid (fun W (h : Below wr.drew.heap.size wr.drew W) => show W.cell? ⟨b, o + k * 2, none⟩ = some (.int .u64 p) ∧ W.cell? ⟨b, o + k * 2 + 1, none⟩ = some (.int .i64 i) ∧ W.cell? ⟨N, 0, none⟩ = some (.int .u64 x) ∧ W.cell? ⟨N, 1, none⟩ = some (.int .i64 y) from
     ⟨(h.cell (World.block_lt_of_cell? _ _ hc0)).trans hc0, (h.cell (World.block_lt_of_cell? _ _ hc1)).trans hc1, (HNx.out.below h HNx.out.lt).cell 0, (HNx.out.below h HNx.out.lt).cell 1⟩)
    clear hgd hc0 hc1 HB
    go_upto_region 2 with fail
    refine wp_region_noPanic ?_
    refine region_H (S := fun W => W.cell? ⟨b, o + k * 2, none⟩ = some (.int .u64 p) ∧ W.cell? ⟨b, o + k * 2 + 1, none⟩ = some (.int .i64 i) ∧ W.cell? ⟨N, 0, none⟩ = some (.int .u64 x) ∧ W.cell? ⟨N, 1, none⟩ = some (.int .i64 y)) (by kernel_rfl) ?_
    change wpH _ _ _ _ 12 _ _ wr.drew
    refine H_takeD (k := 0) (v := .int .i64 (k : Int)) (d := some 7) rfl rfl (by decide +kernel) (fun _ _ _ h => h) (Or.inl ⟨by rfl, fun W hW => by obtain ⟨s0, s1, s2, s3⟩ := hW; go_simp⟩) (HS.out _ (Below.refl _ _)) ?_
    try simp only [Act.put, qz0, qz1, qz2]
    refine H_takeD (k := 1) (v := .slice (some ⟨b, o, none⟩) n c) (d := some 8) rfl rfl (by decide +kernel) (fun _ _ _ h => h) (Or.inl ⟨by rfl, fun W hW => by obtain ⟨s0, s1, s2, s3⟩ := hW; go_simp⟩) (HS.out _ (Below.refl _ _)) ?_
    try simp only [Act.put, qz0, qz1, qz2]
    refine H_takeD (k := 2) (v := .int .i64 (n : Int)) (d := some 9) rfl rfl (by decide +kernel) (fun _ _ _ h => h) (Or.inl ⟨by rfl, fun W hW => by obtain ⟨s0, s1, s2, s3⟩ := hW; go_simp⟩) (HS.out _ (Below.refl _ _)) ?_
    try simp only [Act.put, qz0, qz1, qz2]
    refine H_takeD (k := 3) (v := .bool true) (d := some 10) rfl rfl (by decide +kernel) (fun _ _ _ h => h) (Or.inl ⟨by rfl, fun W hW => by obtain ⟨s0, s1, s2, s3⟩ := hW; go_simp⟩) (HS.out _ (Below.refl _ _)) ?_
    try simp only [Act.put, qz0, qz1, qz2]
    refine H_takeD (k := 4) (v := .bool true) (d := some 11) rfl rfl (by decide +kernel) (fun _ _ _ h => h) (Or.inl ⟨by rfl, fun W hW => by obtain ⟨s0, s1, s2, s3⟩ := hW; go_simp⟩) (HS.out _ (Below.refl _ _)) ?_
    try simp only [Act.put, qz0, qz1, qz2]
    refine H_takeD (k := 5) (v := .slice (some ⟨b, o, none⟩) n c) (d := some 12) rfl rfl (by decide +kernel) (fun _ _ _ h => h) (Or.inl ⟨by simp [Region.wanted, yielded], fun W hW => by obtain ⟨s0, s1, s2, s3⟩ := hW; go_simp⟩) (HS.out _ (Below.refl _ _)) ?_
    try simp only [Act.put, qz0, qz1, qz2]
    refine H_takeD (k := 6) (v := .int .i64 (k : Int)) (d := some 13) rfl rfl (by decide +kernel) (fun _ _ _ h => h) (Or.inl ⟨by simp [Region.wanted, yielded], fun W hW => by obtain ⟨s0, s1, s2, s3⟩ := hW; go_simp⟩) (HS.out _ (Below.refl _ _)) ?_
    try simp only [Act.put, qz0, qz1, qz2]
    refine H_takeD (k := 7) (v := .pointer (some ⟨b, o + k * 2, none⟩)) (d := some 14) rfl rfl (by decide +kernel) (fun _ _ _ h => h) (Or.inl ⟨by simp [Region.wanted, yielded], fun W hW => by obtain ⟨s0, s1, s2, s3⟩ := hW; go_simp⟩) (HS.out _ (Below.refl _ _)) ?_
    try simp only [Act.put, qz0, qz1, qz2]
    refine H_takeD (k := 8) (v := .agg #[.int .u64 p, .int .i64 i]) (d := some 15) rfl rfl (by decide +kernel) (fun _ _ _ h => h) (Or.inl ⟨by simp [Region.wanted, yielded], fun W hW => by obtain ⟨s0, s1, s2, s3⟩ := hW; go_simp⟩) (HS.out _ (Below.refl _ _)) ?_
    try simp only [Act.put, qz0, qz1, qz2]
    refine H_takeD (k := 9) (v := .agg #[.int .u64 x, .int .i64 y]) (d := some 16) rfl rfl (by decide +kernel) (fun _ _ _ h => h) (Or.inl ⟨by simp [Region.wanted, yielded], fun W hW => by obtain ⟨s0, s1, s2, s3⟩ := hW; go_simp⟩) (HS.out _ (Below.refl _ _)) ?_
    try simp only [Act.put, qz0, qz1, qz2]
    refine H_one (i := 10) (by decide +kernel) (H_stepg rfl (by simp [Region.wanted, yielded]) (fun K hK10 => ?_))
    have hK10 := Lib.hid hK10
    go_simp
    go_at_call 34
    refine (HL.out _).mono ?_
    rintro e wz ⟨rfl, hb_⟩
    have HX2 := Lib.hid (HX.out.trans (hb_.mono HX.out.size))
    have hb2 := HS.out _ hb_
    clear hb_ HX HS
    refine hK10.out _ _ hb2 ?_
    try simp only [Act.put, qz0, qz1, qz2]
    refine H_takeD (k := 11) (v := .bool lt) (d := some 18) rfl rfl (by decide +kernel) (fun _ _ _ h => h) (Or.inl ⟨by rfl, fun W hW => by obtain ⟨s0, s1, s2, s3⟩ := hW; go_simp⟩) hb2 ?_
    try simp only [Act.put, qz0, qz1, qz2]
    refine H_end (by decide +kernel) (NoPanic.normal ?_)
    try simp only [Act.put, qz0, qz1, qz2]
    cases lt
    ·have Hf := Lib.hid (show k < n → lessI (l.getD k (0, 0)) (x, y) = false from fun _ => by rw [Hgd.out, hlt2.out])
     go_wp2_with fail
     go_meet
     exact ⟨k, hk, rfl, Hall, Hf, HX2⟩
    ·have Hall2 := Lib.hid (show ∀ j, j < k + 1 → lessI (l.getD j (0, 0)) (x, y) = true from fun j hj => by
      by_cases e : j = k
      ·rw [e, Hgd.out, hlt2.out]
      ·exact Hall.out j (by omega))
     go_wp2_with fail
     go_roundw
     case rel => exact ⟨k + 1, by omega, by go_num, Hall2, HX2⟩
     case measure => simp [intOf]; omega
   ·clear HB
    have HNx := Lib.hid (HN.out.below HX.out HN.out.lt)
    go_upto_region 2 with fail
    refine wp_region_noPanic ?_
    refine region_H (S := fun W => W.cell? ⟨N, 0, none⟩ = some (.int .u64 x) ∧ W.cell? ⟨N, 1, none⟩ = some (.int .i64 y)) (by kernel_rfl) ?_
    change wpH _ _ _ _ 12 _ _ wr.drew
    refine H_takeD (k := 0) (v := .int .i64 (k : Int)) (d := some 7) rfl rfl (by decide +kernel) (fun _ _ _ h => h) (Or.inl ⟨by rfl, fun W hW => by obtain ⟨s0, s1⟩ := hW; go_simp⟩) ⟨HNx.out.cell 0, HNx.out.cell 1⟩ ?_
    try simp only [Act.put, qz0, qz1, qz2]
    refine H_takeD (k := 1) (v := .slice A n c) (d := some 8) rfl rfl (by decide +kernel) (fun _ _ _ h => h) (Or.inl ⟨by rfl, fun W hW => by obtain ⟨s0, s1⟩ := hW; go_simp⟩) ⟨HNx.out.cell 0, HNx.out.cell 1⟩ ?_
    try simp only [Act.put, qz0, qz1, qz2]
    refine H_takeD (k := 2) (v := .int .i64 (n : Int)) (d := some 9) rfl rfl (by decide +kernel) (fun _ _ _ h => h) (Or.inl ⟨by rfl, fun W hW => by obtain ⟨s0, s1⟩ := hW; go_simp⟩) ⟨HNx.out.cell 0, HNx.out.cell 1⟩ ?_
    try simp only [Act.put, qz0, qz1, qz2]
    refine H_takeD (k := 3) (v := .bool false) (d := some 10) rfl rfl (by decide +kernel) (fun _ _ _ h => h) (Or.inl ⟨by rfl, fun W hW => by obtain ⟨s0, s1⟩ := hW; go_simp⟩) ⟨HNx.out.cell 0, HNx.out.cell 1⟩ ?_
    try simp only [Act.put, qz0, qz1, qz2]
    refine H_takeD (k := 4) (v := .bool false) (d := some 11) rfl rfl (by decide +kernel) (fun _ _ _ h => h) (Or.inl ⟨by rfl, fun W hW => by obtain ⟨s0, s1⟩ := hW; go_simp⟩) ⟨HNx.out.cell 0, HNx.out.cell 1⟩ ?_
    try simp only [Act.put, qz0, qz1, qz2]
    refine H_takeD (k := 5) (v := undef) (d := some 12) rfl rfl (by decide +kernel) (fun _ _ _ h => h) (Or.inr ⟨by simp [Region.wanted, yielded, undef], rfl⟩) ⟨HNx.out.cell 0, HNx.out.cell 1⟩ ?_
    try simp only [Act.put, qz0, qz1, qz2]
    refine H_takeD (k := 6) (v := undef) (d := some 13) rfl rfl (by decide +kernel) (fun _ _ _ h => h) (Or.inr ⟨by simp [Region.wanted, yielded, undef], rfl⟩) ⟨HNx.out.cell 0, HNx.out.cell 1⟩ ?_
    try simp only [Act.put, qz0, qz1, qz2]
    refine H_takeD (k := 7) (v := undef) (d := some 14) rfl rfl (by decide +kernel) (fun _ _ _ h => h) (Or.inr ⟨by simp [Region.wanted, yielded, undef], rfl⟩) ⟨HNx.out.cell 0, HNx.out.cell 1⟩ ?_
    try simp only [Act.put, qz0, qz1, qz2]
    refine H_takeD (k := 8) (v := undef) (d := some 15) rfl rfl (by decide +kernel) (fun _ _ _ h => h) (Or.inr ⟨by simp [Region.wanted, yielded, undef], rfl⟩) ⟨HNx.out.cell 0, HNx.out.cell 1⟩ ?_
    try simp only [Act.put, qz0, qz1, qz2]
    refine H_takeD (k := 9) (v := undef) (d := some 16) rfl rfl (by decide +kernel) (fun _ _ _ h => h) (Or.inr ⟨by simp [Region.wanted, yielded, undef], rfl⟩) ⟨HNx.out.cell 0, HNx.out.cell 1⟩ ?_
    try simp only [Act.put, qz0, qz1, qz2]
    refine H_takeD (k := 10) (v := undef) (d := some 17) rfl rfl (by decide +kernel) (fun _ _ _ h => h) (Or.inr ⟨by simp [Region.wanted, yielded, undef], rfl⟩) ⟨HNx.out.cell 0, HNx.out.cell 1⟩ ?_
    try simp only [Act.put, qz0, qz1, qz2]
    refine H_takeD (k := 11) (v := .bool false) (d := some 18) rfl rfl (by decide +kernel) (fun _ _ _ h => h) (Or.inl ⟨by rfl, fun W hW => by obtain ⟨s0, s1⟩ := hW; go_simp⟩) ⟨HNx.out.cell 0, HNx.out.cell 1⟩ ?_
    try simp only [Act.put, qz0, qz1, qz2]
    refine H_end (by decide +kernel) (NoPanic.normal ?_)
    try simp only [Act.put, qz0, qz1, qz2]
    go_wp2_with fail
    go_meet
    exact ⟨k, hk, rfl, Hall, Lib.hid (fun h => absurd h hlt), HX⟩
 case rest =>
  obtain ⟨k, hk, rfl, Hall, Hf, HB⟩ := hcut
  have HP := Lib.hid (show putI l (x, y) = if k < n ∧ l.getD k (0, 0) = (x, y) then l else l.take k ++ [(x, y)] ++ l.drop k from by
   have h := putI_at l k (x, y) Hall.out (by rw [hn.out]; exact hk) (by rw [hn.out]; exact Hf.out)
   rw [hn.out] at h
   exact h)
  have HX := Lib.hid HB.out.drew
  have HNx := Lib.hid (HN.out.below HX.out HN.out.lt)
  have HAx := Lib.hid (show SD wc.drew A l from SL.below HA0.out HX.out)
  have HG := Lib.hid (HB0.out.trans (HX.out.mono (hN.out ▸ HB0.out.size)))
  clear HB Hall Hf HA0 HB0 HN
  by_cases hlt : k < n
  ·obtain ⟨b, o, p, i, hAe, hc0, hc1, hi⟩ := SD.get HAx.out (k := k) (by rw [hn.out]; exact hlt)
   subst hAe
   have Hgd := Lib.hid (show l.getD k (0, 0) = (p, i) from by rw [List.getD_eq_getElem?_getD, hi.out]; rfl)
   have heq := fun W => eql_id p i x y W
   have hki : ¬ (n ≤ k) := by omega
   go_upto_region 4 with fail
   refine wp_region_noPanic ?_
   refine region_H (S := fun W => W.cell? ⟨b, o + k * 2, none⟩ = some (.int .u64 p) ∧ W.cell? ⟨b, o + k * 2 + 1, none⟩ = some (.int .i64 i) ∧ W.cell? ⟨N, 0, none⟩ = some (.int .u64 x) ∧ W.cell? ⟨N, 1, none⟩ = some (.int .i64 y)) (by kernel_rfl) ?_
   change wpH _ _ _ _ 12 _ _ wc.drew
   generalize wc.drew = X0 at *
   refine H_takeD (k := 0) (v := .int .i64 (k : Int)) (d := some 21) rfl rfl (by decide +kernel) (fun _ _ _ h => h) (Or.inl ⟨by rfl, fun W hW => by obtain ⟨s0, s1, s2, s3⟩ := hW; go_simp⟩) ⟨hc0, hc1, HNx.out.cell 0, HNx.out.cell 1⟩ ?_
   try simp only [Act.put, qz0, qz1, qz2]
   refine H_takeD (k := 1) (v := .slice (some ⟨b, o, none⟩) n c) (d := some 22) rfl rfl (by decide +kernel) (fun _ _ _ h => h) (Or.inl ⟨by rfl, fun W hW => by obtain ⟨s0, s1, s2, s3⟩ := hW; go_simp⟩) ⟨hc0, hc1, HNx.out.cell 0, HNx.out.cell 1⟩ ?_
   try simp only [Act.put, qz0, qz1, qz2]
   refine H_takeD (k := 2) (v := .int .i64 (n : Int)) (d := some 23) rfl rfl (by decide +kernel) (fun _ _ _ h => h) (Or.inl ⟨by rfl, fun W hW => by obtain ⟨s0, s1, s2, s3⟩ := hW; go_simp⟩) ⟨hc0, hc1, HNx.out.cell 0, HNx.out.cell 1⟩ ?_
   try simp only [Act.put, qz0, qz1, qz2]
   refine H_takeD (k := 3) (v := .bool true) (d := some 24) rfl rfl (by decide +kernel) (fun _ _ _ h => h) (Or.inl ⟨by rfl, fun W hW => by obtain ⟨s0, s1, s2, s3⟩ := hW; go_simp⟩) ⟨hc0, hc1, HNx.out.cell 0, HNx.out.cell 1⟩ ?_
   try simp only [Act.put, qz0, qz1, qz2]
   refine H_takeD (k := 4) (v := .bool true) (d := some 25) rfl rfl (by decide +kernel) (fun _ _ _ h => h) (Or.inl ⟨by rfl, fun W hW => by obtain ⟨s0, s1, s2, s3⟩ := hW; go_simp⟩) ⟨hc0, hc1, HNx.out.cell 0, HNx.out.cell 1⟩ ?_
   try simp only [Act.put, qz0, qz1, qz2]
   refine H_takeD (k := 5) (v := .slice (some ⟨b, o, none⟩) n c) (d := some 26) rfl rfl (by decide +kernel) (fun _ _ _ h => h) (Or.inl ⟨by simp [Region.wanted, yielded], fun W hW => by obtain ⟨s0, s1, s2, s3⟩ := hW; go_simp⟩) ⟨hc0, hc1, HNx.out.cell 0, HNx.out.cell 1⟩ ?_
   try simp only [Act.put, qz0, qz1, qz2]
   refine H_takeD (k := 6) (v := .int .i64 (k : Int)) (d := some 27) rfl rfl (by decide +kernel) (fun _ _ _ h => h) (Or.inl ⟨by simp [Region.wanted, yielded], fun W hW => by obtain ⟨s0, s1, s2, s3⟩ := hW; go_simp⟩) ⟨hc0, hc1, HNx.out.cell 0, HNx.out.cell 1⟩ ?_
   try simp only [Act.put, qz0, qz1, qz2]
   refine H_takeD (k := 7) (v := .pointer (some ⟨b, o + k * 2, none⟩)) (d := some 28) rfl rfl (by decide +kernel) (fun _ _ _ h => h) (Or.inl ⟨by simp [Region.wanted, yielded], fun W hW => by obtain ⟨s0, s1, s2, s3⟩ := hW; go_simp⟩) ⟨hc0, hc1, HNx.out.cell 0, HNx.out.cell 1⟩ ?_
   try simp only [Act.put, qz0, qz1, qz2]
   refine H_takeD (k := 8) (v := .agg #[.int .u64 p, .int .i64 i]) (d := some 29) rfl rfl (by decide +kernel) (fun _ _ _ h => h) (Or.inl ⟨by simp [Region.wanted, yielded], fun W hW => by obtain ⟨s0, s1, s2, s3⟩ := hW; go_simp⟩) ⟨hc0, hc1, HNx.out.cell 0, HNx.out.cell 1⟩ ?_
   try simp only [Act.put, qz0, qz1, qz2]
   refine H_takeD (k := 9) (v := .agg #[.int .u64 x, .int .i64 y]) (d := some 30) rfl rfl (by decide +kernel) (fun _ _ _ h => h) (Or.inl ⟨by simp [Region.wanted, yielded], fun W hW => by obtain ⟨s0, s1, s2, s3⟩ := hW; go_simp⟩) ⟨hc0, hc1, HNx.out.cell 0, HNx.out.cell 1⟩ ?_
   try simp only [Act.put, qz0, qz1, qz2]
   refine H_takeD (k := 10) (v := .bool (p == x && i == y)) (d := some 31) rfl rfl (by decide +kernel) (fun _ _ _ h => h) (Or.inl ⟨by simp [Region.wanted, yielded], fun W hW => by obtain ⟨s0, s1, s2, s3⟩ := hW; go_simp⟩) ⟨hc0, hc1, HNx.out.cell 0, HNx.out.cell 1⟩ ?_
   try simp only [Act.put, qz0, qz1, qz2]
   refine H_takeD (k := 11) (v := .bool (p == x && i == y)) (d := some 32) rfl rfl (by decide +kernel) (fun _ _ _ h => h) (Or.inl ⟨by rfl, fun W hW => by obtain ⟨s0, s1, s2, s3⟩ := hW; go_simp⟩) ⟨hc0, hc1, HNx.out.cell 0, HNx.out.cell 1⟩ ?_
   try simp only [Act.put, qz0, qz1, qz2]
   refine H_end (by decide +kernel) (NoPanic.normal ?_)
   try simp only [Act.put, qz0, qz1, qz2]
   cases hq : (p == x && i == y)
   ·have HP2 := Lib.hid (show putI l (x, y) = l.take k ++ [(x, y)] ++ l.drop k from by
     rw [HP.out, if_neg]
     rintro ⟨_, h⟩
     rw [Hgd.out] at h
     injection h with h1 h2
     subst h1 h2
     simp at hq)
    clear HP Hgd heq hc0 hc1
    have hs1 : SL X0 (some ⟨b, o, none⟩) (idC (l.take k)) := SD.takeU HAx.out k
    have hl1 : (idC (l.take k)).length = k * 2 := by rw [idC_len, List.length_take, hn.out, Nat.min_eq_left hk]
    have hcz : ¬ (c < k) := by omega
    have hcy : ¬ ((c : Int) < (k : Int)) := by omega
    have hcw : ¬ ((k : Int) < 0) := by omega
    have hcv : ¬ ((n : Int) < (k : Int)) := by omega
    have hcu : ¬ (n < k) := by omega
    have hz0 : X0.heap.size ≤ X0.heap.size := Nat.le_refl _
    go_upto_region 8 with (at_builtin; refine wpList_appM' (w := X0) (us := idC (l.take k)) (xs := []) (n := 0) (m := k) (B := (some ⟨b, o, none⟩)) (base := X0.heap.size) (v := .slice none 0 0) rfl _ _ rfl elt_id (World.ownsRow_nil _ _ _ _) hz0 rfl rfl hs1 hl1 (idC_one _) (by omega) ?_; intro v1 w1 hown1 hg1; have hown1b : w1.ownsRow X0.heap.size 77 2 v1 k (idC (l.take k)) := (by rw [Nat.zero_add] at hown1; exact hown1); clear hown1; obtain ⟨X1, c1, rfl⟩ := own_slice hown1b)
    have HN1 := HNx.out.grown hg1 (fun e => by cases e)
    have hA1 := SL.below HAx.out (below_of_grownU hg1)
    have n0 : w1.cell? ⟨N, 0, none⟩ = some (.int .u64 x) := HN1.cell 0
    have n1 : w1.cell? ⟨N, 1, none⟩ = some (.int .i64 y) := HN1.cell 1
    have hz1 : X0.heap.size ≤ w1.heap.size := hg1.size
    go_upto_region 9 with (at_builtin; refine wpList_app2 (w := w1) rfl _ _ rfl elt_id hown1b hz1 rfl rfl (by simp) rfl rfl (by omega) ?_; intro v2 w2 hown2 hg2 hz2; obtain ⟨X2, c2, rfl⟩ := own_slice hown2)
    have hb2 : Below X0.heap.size X0 w2 := (below_of_grownU hg1).grown hg2 hz1 (fun j hj => (hown1b.lt j hj).1)
    have hA2 := SL.below HAx.out hb2
    have hz3 : X0.heap.size ≤ w2.heap.size := hb2.size
    have hs3 : SL w2 (some ⟨b, o + k * 2, none⟩) (idC (l.drop k)) := SD.dropU hA2 k
    have hl3 : (idC (l.drop k)).length = (n - k) * 2 := by rw [idC_len, List.length_drop, hn.out]
    have hck : ¬ (c = k) := by omega
    go_wp2_with (at_builtin; refine wpList_appM' (w := w2) (us := idC (l.drop k)) (m := n - k) rfl _ _ rfl elt_id hown2 hz3 rfl rfl hs3 hl3 (idC_one _) (by omega) ?_; intro v3 w3 hown3 hg3; obtain ⟨X3, c3, rfl⟩ := own_slice hown3)
    have hb3 : Below X0.heap.size X0 w3 := hb2.grown hg3 hz3 (fun j hj => (hown2.lt j hj).1)
    have hlen : (putI l (x, y)).length = k + 1 + (n - k) := by rw [HP2.out, List.length_append, List.length_append, List.length_take, List.length_drop, hn.out, Nat.min_eq_left hk]; rfl
    go_ret
    refine ⟨X3, c3, by rw [hlen]; rfl, ?_, by rw [hlen]; exact own_cap hown3, own_form hown3, by rw [hN.out]; exact HG.out.trans (hb3.mono (hN.out ▸ HG.out.size))⟩
    rw [HP2.out]
    have h4 := (SB.own hown3).sl
    show SL w3 X3 _
    rw [idC_app, idC_app]
    exact h4
   ·have HP2 := Lib.hid (show putI l (x, y) = l from by
     rw [HP.out, if_pos]
     have h1 : p = x ∧ i = y := by simpa using hq
     exact ⟨hlt, by rw [Hgd.out, h1.1, h1.2]⟩)
    clear HP Hgd heq hc0 hc1
    go_wp2_with fail
    go_ret
    exact ⟨_, c, by rw [HP2.out, hn.out]; rfl, by rw [HP2.out]; exact HAx.out, by rw [HP2.out, hn.out]; exact hc, hform, by rw [hN.out]; exact HG.out⟩
  ·have HP2 := Lib.hid (show putI l (x, y) = l.take k ++ [(x, y)] ++ l.drop k from by rw [HP.out, if_neg (fun h => hlt h.1)])
   clear HP
   go_upto_region 4 with fail
   refine wp_region_noPanic ?_
   refine region_H (S := fun W => W.cell? ⟨N, 0, none⟩ = some (.int .u64 x) ∧ W.cell? ⟨N, 1, none⟩ = some (.int .i64 y)) (by kernel_rfl) ?_
   change wpH _ _ _ _ 12 _ _ wc.drew
   generalize wc.drew = X0 at *
   refine H_takeD (k := 0) (v := .int .i64 (k : Int)) (d := some 21) rfl rfl (by decide +kernel) (fun _ _ _ h => h) (Or.inl ⟨by rfl, fun W hW => by obtain ⟨s0, s1⟩ := hW; go_simp⟩) ⟨HNx.out.cell 0, HNx.out.cell 1⟩ ?_
   try simp only [Act.put, qz0, qz1, qz2]
   refine H_takeD (k := 1) (v := .slice A n c) (d := some 22) rfl rfl (by decide +kernel) (fun _ _ _ h => h) (Or.inl ⟨by rfl, fun W hW => by obtain ⟨s0, s1⟩ := hW; go_simp⟩) ⟨HNx.out.cell 0, HNx.out.cell 1⟩ ?_
   try simp only [Act.put, qz0, qz1, qz2]
   refine H_takeD (k := 2) (v := .int .i64 (n : Int)) (d := some 23) rfl rfl (by decide +kernel) (fun _ _ _ h => h) (Or.inl ⟨by rfl, fun W hW => by obtain ⟨s0, s1⟩ := hW; go_simp⟩) ⟨HNx.out.cell 0, HNx.out.cell 1⟩ ?_
   try simp only [Act.put, qz0, qz1, qz2]
   refine H_takeD (k := 3) (v := .bool false) (d := some 24) rfl rfl (by decide +kernel) (fun _ _ _ h => h) (Or.inl ⟨by rfl, fun W hW => by obtain ⟨s0, s1⟩ := hW; go_simp⟩) ⟨HNx.out.cell 0, HNx.out.cell 1⟩ ?_
   try simp only [Act.put, qz0, qz1, qz2]
   refine H_takeD (k := 4) (v := .bool false) (d := some 25) rfl rfl (by decide +kernel) (fun _ _ _ h => h) (Or.inl ⟨by rfl, fun W hW => by obtain ⟨s0, s1⟩ := hW; go_simp⟩) ⟨HNx.out.cell 0, HNx.out.cell 1⟩ ?_
   try simp only [Act.put, qz0, qz1, qz2]
   refine H_takeD (k := 5) (v := undef) (d := some 26) rfl rfl (by decide +kernel) (fun _ _ _ h => h) (Or.inr ⟨by simp [Region.wanted, yielded, undef], rfl⟩) ⟨HNx.out.cell 0, HNx.out.cell 1⟩ ?_
   try simp only [Act.put, qz0, qz1, qz2]
   refine H_takeD (k := 6) (v := undef) (d := some 27) rfl rfl (by decide +kernel) (fun _ _ _ h => h) (Or.inr ⟨by simp [Region.wanted, yielded, undef], rfl⟩) ⟨HNx.out.cell 0, HNx.out.cell 1⟩ ?_
   try simp only [Act.put, qz0, qz1, qz2]
   refine H_takeD (k := 7) (v := undef) (d := some 28) rfl rfl (by decide +kernel) (fun _ _ _ h => h) (Or.inr ⟨by simp [Region.wanted, yielded, undef], rfl⟩) ⟨HNx.out.cell 0, HNx.out.cell 1⟩ ?_
   try simp only [Act.put, qz0, qz1, qz2]
   refine H_takeD (k := 8) (v := undef) (d := some 29) rfl rfl (by decide +kernel) (fun _ _ _ h => h) (Or.inr ⟨by simp [Region.wanted, yielded, undef], rfl⟩) ⟨HNx.out.cell 0, HNx.out.cell 1⟩ ?_
   try simp only [Act.put, qz0, qz1, qz2]
   refine H_takeD (k := 9) (v := undef) (d := some 30) rfl rfl (by decide +kernel) (fun _ _ _ h => h) (Or.inr ⟨by simp [Region.wanted, yielded, undef], rfl⟩) ⟨HNx.out.cell 0, HNx.out.cell 1⟩ ?_
   try simp only [Act.put, qz0, qz1, qz2]
   refine H_takeD (k := 10) (v := undef) (d := some 31) rfl rfl (by decide +kernel) (fun _ _ _ h => h) (Or.inr ⟨by simp [Region.wanted, yielded, undef], rfl⟩) ⟨HNx.out.cell 0, HNx.out.cell 1⟩ ?_
   try simp only [Act.put, qz0, qz1, qz2]
   refine H_takeD (k := 11) (v := .bool false) (d := some 32) rfl rfl (by decide +kernel) (fun _ _ _ h => h) (Or.inl ⟨by rfl, fun W hW => by obtain ⟨s0, s1⟩ := hW; go_simp⟩) ⟨HNx.out.cell 0, HNx.out.cell 1⟩ ?_
   try simp only [Act.put, qz0, qz1, qz2]
   refine H_end (by decide +kernel) (NoPanic.normal ?_)
   try simp only [Act.put, qz0, qz1, qz2]
   have hs1 : SL X0 A (idC (l.take k)) := SD.takeU HAx.out k
   have hl1 : (idC (l.take k)).length = k * 2 := by rw [idC_len, List.length_take, hn.out, Nat.min_eq_left hk]
   have hcz : ¬ (c < k) := by omega
   have hcy : ¬ ((c : Int) < (k : Int)) := by omega
   have hcw : ¬ ((k : Int) < 0) := by omega
   have hcv : ¬ ((n : Int) < (k : Int)) := by omega
   have hcu : ¬ (n < k) := by omega
   have hz0 : X0.heap.size ≤ X0.heap.size := Nat.le_refl _
   go_upto_region 8 with (at_builtin; refine wpList_appM' (w := X0) (us := idC (l.take k)) (xs := []) (n := 0) (m := k) (B := A) (base := X0.heap.size) (v := .slice none 0 0) rfl _ _ rfl elt_id (World.ownsRow_nil _ _ _ _) hz0 rfl rfl hs1 hl1 (idC_one _) (by omega) ?_; intro v1 w1 hown1 hg1; have hown1b : w1.ownsRow X0.heap.size 77 2 v1 k (idC (l.take k)) := (by rw [Nat.zero_add] at hown1; exact hown1); clear hown1; obtain ⟨X1, c1, rfl⟩ := own_slice hown1b)
   have HN1 := HNx.out.grown hg1 (fun e => by cases e)
   have hA1 := SL.below HAx.out (below_of_grownU hg1)
   have n0 : w1.cell? ⟨N, 0, none⟩ = some (.int .u64 x) := HN1.cell 0
   have n1 : w1.cell? ⟨N, 1, none⟩ = some (.int .i64 y) := HN1.cell 1
   have hz1 : X0.heap.size ≤ w1.heap.size := hg1.size
   go_upto_region 9 with (at_builtin; refine wpList_app2 (w := w1) rfl _ _ rfl elt_id hown1b hz1 rfl rfl (by simp) rfl rfl (by omega) ?_; intro v2 w2 hown2 hg2 hz2; obtain ⟨X2, c2, rfl⟩ := own_slice hown2)
   have hb2 : Below X0.heap.size X0 w2 := (below_of_grownU hg1).grown hg2 hz1 (fun j hj => (hown1b.lt j hj).1)
   have hA2 := SL.below HAx.out hb2
   have hz3 : X0.heap.size ≤ w2.heap.size := hb2.size
   obtain rfl : k = n := by omega
   have hdz : l.drop k = [] := List.drop_eq_nil_of_le (by rw [hn.out]; exact Nat.le_refl _)
   have hl3 : (idC (l.drop k)).length = 0 * 2 := by rw [hdz]; rfl
   have hs3 : ∀ B, SL w2 B (idC (l.drop k)) := fun B j u hu => by rw [hdz] at hu; simp [idC] at hu
   by_cases hck : c = k
   ·go_wp2_with (at_builtin; refine wpList_appM' (w := w2) (us := idC (l.drop k)) (m := 0) rfl _ _ rfl elt_id hown2 hz3 rfl rfl (hs3 _) hl3 (idC_one _) (by omega) ?_; intro v3 w3 hown3 hg3; obtain ⟨X3, c3, rfl⟩ := own_slice hown3)
    have hb3 : Below X0.heap.size X0 w3 := hb2.grown hg3 hz3 (fun j hj => (hown2.lt j hj).1)
    have hlen : (putI l (x, y)).length = k + 1 + 0 := by rw [HP2.out, hdz, List.length_append, List.length_append, List.length_take, hn.out, Nat.min_eq_left hk]; rfl
    go_ret
    refine ⟨X3, c3, by rw [hlen]; rfl, ?_, by rw [hlen]; exact own_cap hown3, own_form hown3, by rw [hN.out]; exact HG.out.trans (hb3.mono (hN.out ▸ HG.out.size))⟩
    rw [HP2.out]
    have h4 := (SB.own hown3).sl
    show SL w3 X3 _
    rw [idC_app, idC_app]
    exact h4
   ·rcases hform with ⟨_, hc0⟩ | ⟨b, hA⟩
    ·exact absurd (show c = k by omega) hck
    ·subst hA
     go_wp2_with (at_builtin; refine wpList_appM' (w := w2) (us := idC (l.drop k)) (m := 0) rfl _ _ rfl elt_id hown2 hz3 rfl rfl (hs3 _) hl3 (idC_one _) (by omega) ?_; intro v3 w3 hown3 hg3; obtain ⟨X3, c3, rfl⟩ := own_slice hown3)
     have hb3 : Below X0.heap.size X0 w3 := hb2.grown hg3 hz3 (fun j hj => (hown2.lt j hj).1)
     have hlen : (putI l (x, y)).length = k + 1 + 0 := by rw [HP2.out, hdz, List.length_append, List.length_append, List.length_take, hn.out, Nat.min_eq_left hk]; rfl
     go_ret
     refine ⟨X3, c3, by rw [hlen]; rfl, ?_, by rw [hlen]; exact own_cap hown3, own_form hown3, by rw [hN.out]; exact HG.out.trans (hb3.mono (hN.out ▸ HG.out.size))⟩
     rw [HP2.out]
     have h4 := (SB.own hown3).sl
     show SL w3 X3 _
     rw [idC_app, idC_app]
     exact h4
end Go.Proofs.YtnapnkmehnabfaaGreat
