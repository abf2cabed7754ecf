import Derived.Test.YtmdgdphhedgojaaK15
import Derived.Deep.DeepCutAuto
namespace Go.Proofs.Ytmdgdphhedgojaa
open Go.RowKit Go.Maps

set_option maxHeartbeats 4000000 in
set_option maxRecDepth 100000 in
theorem new_any (C : Option Addr) (c : Nat) (ls : List Int) (w : World) (hC : SI w C ls) (hl : ls.length ≤ 100000000) :
    Calls Try.prog 10 #[.slice C ls.length c] w fun e w' => Below w.heap.size w w' ∧ (thrE ls = 0 → ∃ p F, e = .returned (.tuple #[.pointer (some ⟨p, 0, none⟩), .int .i64 0]) ∧ w.heap.size ≤ p ∧ KP w' p F ls [] [] 0 ∧ ∀ k, F k → w.heap.size ≤ k) ∧
      (thrE ls ≠ 0 → e = .returned (.tuple #[.pointer none, .int .i64 (thrE ls)])) := by
  have HC := Lib.hid hC
  clear hC
  go_enter Try.func10, Try.ntmps10
  go_wp2_with fail
  have hof := of_any none none C 0 0 c [] [] ls w SL.nil_ SL.nil_ HC.out (by simp) (by simp) (by omega)
  refine hof.mono ?_
  rintro e w1 ⟨D, m, vs, rfl, hown, hLL, hb1⟩
  have hE : ofE [] [] ls = thrE ls := by
    rw [ofE_eq]
    rfl
  rw [hE]
  have Hb1 := Lib.hid hb1
  clear hb1 hown hLL hE
  by_cases ht : thrE ls = 0
  · rw [ht]
    have Ht := Lib.hid ht
    clear ht
    go_wp2_with fail
    refine (cloneI_any C c ls _ (HC.out.below (Hb1.out.alloc Hb1.out.size _)) (by omega)).mono ?_
    rintro e w2 ⟨v, rfl, hown, hb2⟩
    obtain ⟨A2, c2, rfl⟩ := own_slice hown
    have hz1 := Hb1.out.size
    have Hs2 := Lib.hid (fun (W : World) (hW : Kf (fun k => w.heap.size ≤ k ∧ k < w2.heap.size) (w2.alloc (.cells #[.slice A2 ls.length c2, .slice none 0 0, .slice none 0 0, .slice none 0 0, .int .i64 0] 70)) W) => (SL.of_own (own_kf (hown.alloc _) (fun g hg => by
      have h1 := hown.lt g hg
      simp at h1
      omega) hW) : SI W A2 ls))
    have Hb2 := Lib.hid ((Hb1.out.alloc Hb1.out.size (.cells #[.slice D (ofL [] [] ls).length m] 40)).trans (hb2.mono (by have := Hb1.out.size; simp; omega)))
    clear hown hb2
    go_wp2_with fail
    go_ret2
    refine ⟨Hb2.out.alloc Hb2.out.size _, fun _ => ⟨w2.heap.size, fun k => w.heap.size ≤ k ∧ k < w2.heap.size, rfl, Hb2.out.size, ⟨rfl, Ht.out, fun h => by omega, fun k hk => by simp; omega, A2, c2, none, 0, none, 0, none, 0, Bk.new _ _ _, fun W hW => ⟨Hs2.out W hW, SL.nil_, SL.nil_⟩, BR.nil _ _ _⟩, fun k hk => hk.1⟩, fun h => (h Ht.out).elim⟩
  · have hne : (thrE ls != 0) = true := by simpa using ht
    have Ht := Lib.hid ht
    obtain ⟨z, hz⟩ : ∃ z, Hid (thrE ls = z) := ⟨_, Lib.hid rfl⟩
    rw [hz.out] at hne ⊢
    clear ht
    go_wp2_with fail
    go_ret2
    exact ⟨Hb1.out.alloc Hb1.out.size _, fun h => (Ht.out h).elim, fun _ => by rw [hz.out]; rfl⟩

theorem work_any (K : Nat) (F : Nat → Prop) (ls ws : List Int) (ns : List (Int × Int × Int)) (work : Int) (w : World) (h : KP w K F ls ws ns work) :
    Calls Try.prog 22 #[.pointer (some ⟨K, 0, none⟩)] w fun e w' => e = .returned (.int .i64 work) ∧ Qt w w' := by
  obtain ⟨_, _, _, _, C, c, A, a, B, b, D, d, h3, _⟩ := h
  have hc : w.cell? ⟨K, 4, none⟩ = some (.int .i64 work) := h3.cell 4
  clear h3
  go_enter Try.func22, Try.ntmps22
  go_wp2_with fail
  go_ret
  exact ⟨rfl, Qt.refl _⟩

/-- Slices of ints that lie in some worlds. -/
def JL (Φ : World → Prop) (vs : List Value) (ls : List (List Int)) : Prop := vs.length = ls.length ∧ ∀ (j : Nat) v l, vs[j]? = some v → ls[j]? = some l → ∃ B c, v = Value.slice B l.length c ∧ ∀ W, Φ W → SI W B l
theorem JL.nil (Φ : World → Prop) : JL Φ [] [] := ⟨rfl, fun j v l h => by simp at h⟩
theorem JL.snoc {Φ : World → Prop} {vs : List Value} {ls : List (List Int)} {B : Option Addr} {c : Nat} {l : List Int} (h : JL Φ vs ls) (hB : ∀ W, Φ W → SI W B l) : JL Φ (vs ++ [.slice B l.length c]) (ls ++ [l]) := ⟨by simp [h.1], fun j v k hv hk => by
  have hlen := h.1
  rcases snoc_get hv with ⟨hv, h1⟩ | ⟨h1, rfl⟩ <;> rcases snoc_get hk with ⟨hk, h2⟩ | ⟨h2, rfl⟩
  · exact h.2 j v k hv hk
  · omega
  · omega
  · exact ⟨B, c, rfl, hB⟩⟩
theorem JL.sll {Φ : World → Prop} {W : World} {vs : List Value} {ls : List (List Int)} {A : Option Addr} (h : JL Φ vs ls) (hA : SL W A vs) (hW : Φ W) : SLL W A ls := ⟨vs, hA, h.1, fun j v l hv hl => by
  obtain ⟨B, c, e, hs⟩ := h.2 j v l hv hl
  exact ⟨B, c, e, hs W hW⟩⟩
theorem Up.mono {b b' : Nat} {w W : World} (h : Up b w W) (hb : b ≤ b') : Up b' w W := ⟨h.size, fun k hk hl => h.block k (by omega) hl⟩
/-- Lists of faces. -/
def facesOf (ds : List (List Int × List Int × List (Int × Int × Int))) : List (List Int) := ds.map fun d => d.1

set_option maxHeartbeats 4000000 in
set_option maxRecDepth 100000 in
theorem partsX_any (A B : Option Addr) (c d : Nat) (ws : List Int) (ns : List (Int × Int × Int)) (w : World) (hA : SI w A ws) (hB : ST w B ns) (hl1 : ws.length ≤ 4611686018427387904) (hl2 : ns.length ≤ 4611686018427387904) :
    Calls Try.prog 19 #[.agg #[.slice A ws.length c, .slice B ns.length d]] w fun e w' => Below w.heap.size w w' ∧ (validE ws ns = 0 → ∃ D m, e = .returned (.tuple #[.slice D (facesOf (partsD ws ns)).length m, .int .i64 0]) ∧ ∀ W, Up w.heap.size w' W → SLL W D (facesOf (partsD ws ns))) ∧
      (validE ws ns ≠ 0 → e = .returned (.tuple #[.slice none 0 0, .int .i64 (validE ws ns)])) := by
  have hb0 := (Below.refl w.heap.size w).alloc (Nat.le_refl _) (.cells #[.slice A ws.length c, .slice B ns.length d] 36)
  have hbk0 := Bk.new w 36 #[.slice A ws.length c, .slice B ns.length d]
  have hq0 : (w.alloc (.cells #[.slice A ws.length c, .slice B ns.length d] 36)).cell? ⟨w.heap.size, 0, none⟩ = some (.slice A ws.length c) := hbk0.cell 0
  have hq1 : (w.alloc (.cells #[.slice A ws.length c, .slice B ns.length d] 36)).cell? ⟨w.heap.size, 1, none⟩ = some (.slice B ns.length d) := hbk0.cell 1
  have Hb0 := Lib.hid hb0
  have Hbk0 := Lib.hid hbk0
  have HA := Lib.hid hA
  have HB := Lib.hid hB
  clear hb0 hbk0 hA hB
  go_enter Try.func19, Try.ntmps19
  go_wp2_with fail
  clear hq0 hq1
  refine (valid_any A B c d ws ns _ (HA.out.below Hb0.out) (HB.out.below Hb0.out) hl1 hl2).mono ?_
  rintro e w1 ⟨rfl, hb1⟩
  have Hbk1 := Lib.hid (Hbk0.out.below hb1 Hbk0.out.lt)
  have Hb1 := Lib.hid (Hb0.out.trans (hb1.mono Hb0.out.size))
  clear hb1 Hb0 Hbk0
  by_cases hv : validE ws ns = 0
  · rw [hv]
    have Hv := Lib.hid hv
    have hG := validE_good hv
    have hq0 : w1.cell? ⟨w.heap.size, 0, none⟩ = some (.slice A ws.length c) := Hbk1.out.cell 0
    have hq1 : w1.cell? ⟨w.heap.size, 1, none⟩ = some (.slice B ns.length d) := Hbk1.out.cell 1
    clear hv
    go_wp2_with fail
    refine (parts_any A B c d ws ns w1 (HA.out.below Hb1.out) (HB.out.below Hb1.out) hG.1 hG.2.1 (validE_eok Hv.out)).mono ?_
    rintro e w2 ⟨D, m, rfl, hpr, hb2⟩
    have Hpr := Lib.hid hpr
    have hw1z' := Hb1.out.size
    have Hb2 := Lib.hid (Hb1.out.trans (hb2.mono Hb1.out.size))
    have hpl : (partsD ws ns).length ≤ 4096 := by rw [partsD, partsO, List.length_map]; have := rts_len (comp ns ws.length) ws.length; omega
    clear hpr hb2 Hb1 Hbk1 hq0 hq1 hG
    have hw1z : w.heap.size ≤ w1.heap.size := hw1z'
    obtain ⟨ds, hds⟩ : ∃ ds, Hid (partsD ws ns = ds) := ⟨_, Lib.hid rfl⟩
    rw [hds.out] at hpl Hpr ⊢
    go_wp2_with fail
    obtain ⟨wo, rfl⟩ : ∃ x, x = w2 := ⟨w2, rfl⟩
    go_loopw [5, 16] (fun v i wr => ∃ (k : Nat) (vs : List Value), k ≤ ds.length ∧ i = .int .i64 k ∧ wr.ownsRow wo.heap.size 22 1 v k vs ∧ JL (Up w.heap.size wo) vs (facesOf (ds.take k)) ∧ Below wo.heap.size wo wr) (fun _ i _ => ds.length - (intOf i).toNat)
    case atStart => exact ⟨0, [], by omega, rfl, World.ownsRow_nil _ _ _ _, JL.nil _, Below.refl _ _⟩
    case round =>
      obtain ⟨k, vs, hk, rfl, hown, hJL, hb⟩ := hrel
      by_cases hlt : k < ds.length
      · obtain ⟨b, o, F, f, U, u, N, n, Fl, Wl, Nl, rfl, k1, k2, k3, s1, hd, hbl⟩ := Hpr.out.get hlt
        have k1 := (hb.cell (p := ⟨b, o + k * 3, none⟩) hbl).trans k1
        have k2 := (hb.cell (p := ⟨b, o + k * 3 + 1, none⟩) hbl).trans k2
        have k3 := (hb.cell (p := ⟨b, o + k * 3 + 2, none⟩) hbl).trans k3
        have hz := hb.size
        have hown1 := hown.alloc (.cells #[.slice F Fl.length f, .slice U Wl.length u, .slice N Nl.length n] 74)
        have Hown := Lib.hid hown1
        have hz1 : wo.heap.size ≤ (wr.alloc (.cells #[.slice F Fl.length f, .slice U Wl.length u, .slice N Nl.length n] 74)).heap.size := by simp; omega
        have HJL := Lib.hid hJL
        have Hb := Lib.hid (hb.alloc hz (.cells #[.slice F Fl.length f, .slice U Wl.length u, .slice N Nl.length n] 74))
        have Hs1 := Lib.hid (fun (W : World) (hW : Up w.heap.size wo W) => (s1 W (hW.mono hw1z)).1)
        have htk := Lib.hid (take_snoc' hd.out)
        clear hown hown1 hJL hb s1
        have hn0 : (wr.alloc (.cells #[.slice F Fl.length f, .slice U Wl.length u, .slice N Nl.length n] 74)).cell? ⟨wr.heap.size, 0, none⟩ = some (.slice F Fl.length f) := (Bk.new wr 74 #[.slice F Fl.length f, .slice U Wl.length u, .slice N Nl.length n]).cell 0
        go_wp2_with (at_builtin; refine wpList_app2 (w := wr.alloc (.cells #[.slice F Fl.length f, .slice U Wl.length u, .slice N Nl.length n] 74)) rfl _ _ rfl elt_lists Hown.out hz1 rfl rfl (by simp) rfl rfl (by omega) ?_; intro v1 w3 hown3 hg3 hz3)
        go_roundw
        case rel =>
          refine ⟨k + 1, _, by omega, by go_num, hown3, ?_, Hb.out.grown hg3 hz1 (fun q hq => (Hown.out.lt q hq).1)⟩
          rw [htk.out, facesOf, List.map_append]
          exact HJL.out.snoc Hs1.out
        case measure => simp [intOf]; omega
      · obtain rfl : k = ds.length := by omega
        rw [List.take_length] at hJL
        obtain ⟨AO, cO, rfl⟩ := own_slice hown
        have Hown := Lib.hid hown
        have hfl : (facesOf ds).length = ds.length := by simp [facesOf]
        have Hfl := Lib.hid hfl
        clear hown hfl
        go_wp2_with fail
        go_ret2
        rw [hds.out, Hfl.out]
        exact ⟨Hb2.out.trans (hb.mono Hb2.out.size), fun _ => ⟨AO, cO, rfl, fun W hW => hJL.sll (SL.of_own (own_up Hown.out Hb2.out.size hW)) ((Up.of_below hb).trans hW)⟩, fun h => (h Hv.out).elim⟩
  · have hne : (validE ws ns != 0) = true := by simpa using hv
    have Hv := Lib.hid hv
    obtain ⟨z, hz⟩ : ∃ z, Hid (validE ws ns = z) := ⟨_, Lib.hid rfl⟩
    rw [hz.out] at hne ⊢
    clear hv
    go_wp2_with fail
    go_ret2
    exact ⟨Hb1.out, fun h => (Hv.out h).elim, fun _ => by rw [hz.out]; rfl⟩
end Go.Proofs.Ytmdgdphhedgojaa

namespace Go.Proofs.Ytmdgdphhedgojaa
open Go.RowKit Go.Maps

set_option linter.unusedSimpArgs false in
set_option maxHeartbeats 4000000 in
set_option maxRecDepth 100000 in
theorem graph_any (p : Nat) (F : Nat → Prop) (ls ws : List Int) (ns : List (Int × Int × Int)) (work : Int) (w : World) (h : KP w p F ls ws ns work) :
    Calls Try.prog 30 #[.pointer (some ⟨p, 0, none⟩)] w fun e w' => ∃ A a B b, e = .returned (.agg #[.slice A ws.length a, .slice B ns.length b]) ∧ w'.ownsRow w.heap.size 3 1 (.slice A ws.length a) ws.length (ws.map (Value.int .i64)) ∧ w'.ownsRow w.heap.size 52 3 (.slice B ns.length b) ns.length (triC ns) ∧ Below w.heap.size w w' := by
  obtain ⟨h1, _, _, _, C, c, A, a, B, b, D, d, h3, hAB, _⟩ := h
  obtain ⟨_, hA, hB⟩ := hAB w (Kf.refl _ _)
  have hG := validE_good h1
  have H3 := Lib.hid h3
  have HA := Lib.hid hA
  have HB := Lib.hid hB
  clear h3 hA hB hAB
  go_enter Try.func30, Try.ntmps30
  go_wp2_with fail
  have Hb0 := Lib.hid (((Below.refl w.heap.size w).alloc (Nat.le_refl _) (.cells #[.slice none 0 0, .slice none 0 0] 36)).drew)
  have hbT := Bk.new w 36 #[.slice none 0 0, .slice none 0 0]
  generalize hW : w.alloc (.cells #[.slice none 0 0, .slice none 0 0] 36) = W0 at *
  have HbT := Lib.hid (show Bk W0.drew w.heap.size 36 #[.slice none 0 0, .slice none 0 0] from hbT)
  clear hW hbT
  have H30 := Lib.hid (H3.out.below Hb0.out H3.out.lt)
  have HS0 := Lib.hid (And.intro (show W0.drew.cell? ⟨p, 1, none⟩ = some (.slice A ws.length a) from H30.out.cell 1) (show W0.drew.cell? ⟨p, 1 + 1, none⟩ = some (.slice B ns.length b) from H30.out.cell 2))
  refine wp_region_noPanic ?_
  refine region_H (S := fun W => W.cell? ⟨p, 1, none⟩ = some (.slice A ws.length a) ∧ W.cell? ⟨p, 1 + 1, none⟩ = some (.slice B ns.length b)) (by kernel_rfl) ?_
  change wpH _ _ _ _ 14 _ _ W0.drew
  refine H_takeD (k := 0) (v := .pointer (some ⟨p, 0, none⟩)) (d := some 3) rfl rfl (by decide +kernel) (fun _ _ _ h => h) (Or.inl ⟨by rfl, fun W hW => by obtain ⟨s0, s1⟩ := hW; go_simp⟩) HS0.out ?_
  try simp only [Act.put, List.setIfInBounds_toArray, List.set_cons_zero, List.set_cons_succ]
  refine H_takeD (k := 1) (v := .pointer (some ⟨p, 0, none⟩)) (d := some 4) rfl rfl (by decide +kernel) (fun _ _ _ h => h) (Or.inl ⟨by rfl, fun W hW => by obtain ⟨s0, s1⟩ := hW; go_simp⟩) HS0.out ?_
  try simp only [Act.put, List.setIfInBounds_toArray, List.set_cons_zero, List.set_cons_succ]
  refine H_takeD (k := 2) (v := .pointer (some ⟨p, 1, none⟩)) (d := some 5) rfl rfl (by decide +kernel) (fun _ _ _ h => h) (Or.inl ⟨by rfl, fun W hW => by obtain ⟨s0, s1⟩ := hW; go_simp⟩) HS0.out ?_
  try simp only [Act.put, List.setIfInBounds_toArray, List.set_cons_zero, List.set_cons_succ]
  refine H_takeD (k := 3) (v := .pointer (some ⟨p, 1, none⟩)) (d := some 6) rfl rfl (by decide +kernel) (fun _ _ _ h => h) (Or.inl ⟨by rfl, fun W hW => by obtain ⟨s0, s1⟩ := hW; go_simp⟩) HS0.out ?_
  try simp only [Act.put, List.setIfInBounds_toArray, List.set_cons_zero, List.set_cons_succ]
  refine H_takeD (k := 4) (v := .slice A ws.length a) (d := some 7) rfl rfl (by decide +kernel) (fun _ _ _ h => h) (Or.inl ⟨by rfl, fun W hW => by obtain ⟨s0, s1⟩ := hW; go_simp⟩) HS0.out ?_
  try simp only [Act.put, List.setIfInBounds_toArray, List.set_cons_zero, List.set_cons_succ]
  refine H_takeD (k := 6) (v := .pointer (some ⟨p, 0, none⟩)) (d := some 9) rfl rfl (by decide +kernel) (fun _ _ _ h => h) (Or.inl ⟨by rfl, fun W hW => by obtain ⟨s0, s1⟩ := hW; go_simp⟩) HS0.out ?_
  try simp only [Act.put, List.setIfInBounds_toArray, List.set_cons_zero, List.set_cons_succ]
  refine H_takeD (k := 7) (v := .pointer (some ⟨p, 0, none⟩)) (d := some 10) rfl rfl (by decide +kernel) (fun _ _ _ h => h) (Or.inl ⟨by rfl, fun W hW => by obtain ⟨s0, s1⟩ := hW; go_simp⟩) HS0.out ?_
  try simp only [Act.put, List.setIfInBounds_toArray, List.set_cons_zero, List.set_cons_succ]
  refine H_takeD (k := 8) (v := .pointer (some ⟨p, 1, none⟩)) (d := some 11) rfl rfl (by decide +kernel) (fun _ _ _ h => h) (Or.inl ⟨by rfl, fun W hW => by obtain ⟨s0, s1⟩ := hW; go_simp⟩) HS0.out ?_
  try simp only [Act.put, List.setIfInBounds_toArray, List.set_cons_zero, List.set_cons_succ]
  refine H_takeD (k := 9) (v := .pointer (some ⟨p, 1 + 1, none⟩)) (d := some 12) rfl rfl (by decide +kernel) (fun _ _ _ h => h) (Or.inl ⟨by rfl, fun W hW => by obtain ⟨s0, s1⟩ := hW; go_simp⟩) HS0.out ?_
  try simp only [Act.put, List.setIfInBounds_toArray, List.set_cons_zero, List.set_cons_succ]
  refine H_takeD (k := 10) (v := .slice B ns.length b) (d := some 13) rfl rfl (by decide +kernel) (fun _ _ _ h => h) (Or.inl ⟨by rfl, fun W hW => by obtain ⟨s0, s1⟩ := hW; go_simp⟩) HS0.out ?_
  try simp only [Act.put, List.setIfInBounds_toArray, List.set_cons_zero, List.set_cons_succ]
  refine H_one (i := 5) (by decide +kernel) (H_step rfl rfl (fun K hK10 => ?_))
  have hK10 := Lib.hid hK10
  go_simp
  go_at_call 32
  refine (cloneI_any A a ws W0.drew (HA.out.below Hb0.out) (by omega)).mono ?_
  rintro e w1 ⟨v, rfl, hown1, hb1⟩
  obtain ⟨A1, a1, rfl⟩ := own_slice hown1
  have Hown1 := Lib.hid hown1
  have Hb1 := Lib.hid (Hb0.out.trans (hb1.mono Hb0.out.size))
  have HbT1 := Lib.hid (HbT.out.below hb1 HbT.out.lt)
  have H31 := Lib.hid (H30.out.below hb1 H30.out.lt)
  have HS1 := Lib.hid (And.intro (show w1.cell? ⟨p, 1, none⟩ = some (.slice A ws.length a) from H31.out.cell 1) (show w1.cell? ⟨p, 1 + 1, none⟩ = some (.slice B ns.length b) from H31.out.cell 2))
  clear hown1 hb1
  refine hK10.out _ _ HS1.out ?_
  try simp only [Act.put, List.setIfInBounds_toArray, List.set_cons_zero, List.set_cons_succ]
  refine H_one (i := 11) (by decide +kernel) (H_step rfl rfl (fun K hK11 => ?_))
  have hK11 := Lib.hid hK11
  go_simp
  go_at_call 35
  refine (cloneT_any B b ns w1 (HB.out.below Hb1.out) (by omega)).mono ?_
  rintro e w2 ⟨v, rfl, hown2, hb2⟩
  obtain ⟨B1, b1, rfl⟩ := own_slice hown2
  have Hown2 := Lib.hid (own_mono hown2 Hb1.out.size)
  have Hown1b := Lib.hid (own_below Hown1.out hb2)
  have Hb2 := Lib.hid (Hb1.out.trans (hb2.mono Hb1.out.size))
  have HbT2 := Lib.hid (HbT1.out.below hb2 HbT1.out.lt)
  have H32 := Lib.hid (H31.out.below hb2 H31.out.lt)
  have HS2 := Lib.hid (And.intro (show w2.cell? ⟨p, 1, none⟩ = some (.slice A ws.length a) from H32.out.cell 1) (show w2.cell? ⟨p, 1 + 1, none⟩ = some (.slice B ns.length b) from H32.out.cell 2))
  have q0 : w2.cell? ⟨w.heap.size, 0, none⟩ = some (.slice none 0 0) := HbT2.out.cell 0
  have q1 : w2.cell? ⟨w.heap.size, 1, none⟩ = some (.slice none 0 0) := HbT2.out.cell 1
  have q2 := HbT2.out.frozen 0
  have q3 := HbT2.out.frozen 1
  clear hown2 hb2
  refine hK11.out _ _ HS2.out ?_
  try simp only [Act.put, List.setIfInBounds_toArray, List.set_cons_zero, List.set_cons_succ]
  refine H_takeD (k := 12) (v := .agg #[.slice A1 ws.length a1, .slice B1 ns.length b1]) (d := some 15) rfl rfl (by decide +kernel) (fun _ _ _ h => h) (Or.inl ⟨by rfl, fun W hW => by obtain ⟨s0, s1⟩ := hW; go_simp⟩) HS2.out ?_
  try simp only [Act.put, List.setIfInBounds_toArray, List.set_cons_zero, List.set_cons_succ]
  refine H_one (i := 13) (by decide +kernel) (H_step rfl rfl (fun K hK13 => ?_))
  have hK13 := Lib.hid hK13
  go_simp
  have HT3 := Lib.hid ((HbT2.out.set_ 0 (.slice A1 ws.length a1)).set_ 1 (.slice B1 ns.length b1))
  have Hb3 := Lib.hid ((Hb2.out.setCell (p := ⟨w.heap.size, 0, none⟩) (Nat.le_refl _) (.slice A1 ws.length a1)).setCell (p := ⟨w.heap.size, 1, none⟩) (Nat.le_refl _) (.slice B1 ns.length b1))
  have Ho1 := Lib.hid (own_set (i := 1) (own_set (i := 0) Hown1b.out (HbT2.out.ne_own Hown1b.out (by decide)) (.slice A1 ws.length a1)) (HbT2.out.ne_own Hown1b.out (by decide)) (.slice B1 ns.length b1))
  have Ho2 := Lib.hid (own_set (i := 1) (own_set (i := 0) Hown2.out (HbT2.out.ne_own Hown2.out (by decide)) (.slice A1 ws.length a1)) (HbT2.out.ne_own Hown2.out (by decide)) (.slice B1 ns.length b1))
  have hKT : p ≠ w.heap.size := by have := H3.out.lt; omega
  have H33 := Lib.hid ((H32.out.far (p := ⟨w.heap.size, 0, none⟩) hKT (.slice A1 ws.length a1)).far (p := ⟨w.heap.size, 1, none⟩) hKT (.slice B1 ns.length b1))
  have HS3 := Lib.hid (And.intro (show ((w2.setCell ⟨w.heap.size, 0, none⟩ (.slice A1 ws.length a1)).setCell ⟨w.heap.size, 1, none⟩ (.slice B1 ns.length b1)).cell? ⟨p, 1, none⟩ = some (.slice A ws.length a) from H33.out.cell 1) (show ((w2.setCell ⟨w.heap.size, 0, none⟩ (.slice A1 ws.length a1)).setCell ⟨w.heap.size, 1, none⟩ (.slice B1 ns.length b1)).cell? ⟨p, 1 + 1, none⟩ = some (.slice B ns.length b) from H33.out.cell 2))
  refine hK13.out _ _ HS3.out ?_
  try simp only [Act.put, List.setIfInBounds_toArray, List.set_cons_zero, List.set_cons_succ]
  refine H_end (by decide +kernel) (NoPanic.normal ?_)
  try simp only [Act.put, List.setIfInBounds_toArray, List.set_cons_zero, List.set_cons_succ]
  clear hK10 hK11 hK13 HS0 HS1 HS2 HS3
  have qT0 : ((w2.setCell ⟨w.heap.size, 0, none⟩ (.slice A1 ws.length a1)).setCell ⟨w.heap.size, 1, none⟩ (.slice B1 ns.length b1)).cell? ⟨w.heap.size, 0, none⟩ = some (.slice A1 ws.length a1) := HT3.out.cell 0
  have qT1 : ((w2.setCell ⟨w.heap.size, 0, none⟩ (.slice A1 ws.length a1)).setCell ⟨w.heap.size, 1, none⟩ (.slice B1 ns.length b1)).cell? ⟨w.heap.size, 1, none⟩ = some (.slice B1 ns.length b1) := HT3.out.cell 1
  go_wp2_with fail
  exact bodyPost_ret (v := .agg #[.slice A1 ws.length a1, .slice B1 ns.length b1]) (by simp [results, Try.results30, go_sem, qT0, qT1]) rfl ⟨A1, a1, B1, b1, rfl, own_mono Ho1.out Hb0.out.size, Ho2.out, Hb3.out⟩
end Go.Proofs.Ytmdgdphhedgojaa
