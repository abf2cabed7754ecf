import Derived.Test.YtmdgdphhedgojaaK23
namespace Go.Proofs.Ytmdgdphhedgojaa
open Go.RowKit Go.Maps

theorem idx_at' {l : List Int} {r : Nat} {x : Int} (h : l[r]? = some x) (hf : ∀ i, i < r → l[i]? ≠ some x) : l.idxOf x = r := by
  obtain ⟨hr, e⟩ := List.getElem?_eq_some_iff.1 h
  subst e
  exact idxOf_first hr (Nat.le_refl _) rfl (fun i hi he => hf i hi (by rw [List.getElem?_eq_getElem (by omega), he]))
/-- The index of a number, or -1. -/
def idxZ (l : List Int) (x : Int) : Int := if x ∈ l then (l.idxOf x : Int) else -1
set_option maxHeartbeats 1000000 in
theorem refIndex_any (A : Option Addr) (c : Nat) (l : List Int) (x : Int) (w : World) (hA : SI w A l) (hl : l.length ≤ 1099511627776) :
    Calls Try.prog 41 #[.slice A l.length c, .int .i64 x] w fun e w' => e = .returned (.int .i64 (idxZ l x)) ∧ Qt w w' := by
  go_enter Try.func41, Try.ntmps41
  go_wp2
  go_loopw [5] (fun i wr => ∃ k : Nat, k ≤ l.length ∧ i = .int .i64 k ∧ Hid (x ∉ l.take k) ∧ Qt w wr) (fun i _ => l.length - (intOf i).toNat)
  case atStart => exact ⟨0, by omega, rfl, Lib.hid (by simp), Qt.refl _⟩
  case round =>
    obtain ⟨k, hk, rfl, hno, hq⟩ := hrel
    by_cases hlt : k < l.length
    · obtain ⟨b, o, y, rfl, hc, hy⟩ := (hA.qt hq).get hlt
      have Hq := Lib.hid hq
      have k0 : (0 : Int) ≤ (k : Int) := by omega
      have htk := Lib.hid (take_snoc' hy.out)
      clear hq
      by_cases hxy : y = x
      · have hb : (y == x) = true := by simp [hxy]
        have hix : Hid (idxZ l x = (k : Int)) := by
          show _ = _
          have hmem : x ∈ l := hxy ▸ List.mem_of_getElem? hy.out
          rw [idxZ, if_pos hmem, idx_at' (hxy ▸ hy.out) (fun i hi he => hno.out (List.mem_of_getElem? (by rw [List.getElem?_take_of_lt hi]; exact he)))]
        clear hxy
        go_wp2
        go_ret
        exact ⟨ret_int hix.out.symm, Hq.out⟩
      · have hb : (y == x) = false := by simpa using hxy
        have Hxy := Lib.hid hxy
        clear hxy
        go_wp2
        go_roundw
        case rel => exact ⟨k + 1, by omega, by go_num, Lib.hid (by rw [htk.out]; simp; exact ⟨hno.out, fun e => Hxy.out e.symm⟩), Hq.out⟩
        case measure => simp [intOf]; omega
    · obtain rfl : k = l.length := by omega
      have hix : Hid (idxZ l x = -1) := by
        show _ = _
        have := hno.out
        rw [List.take_length] at this
        rw [idxZ, if_neg this]
      have Hq := Lib.hid hq
      clear hq
      go_wp2
      go_ret
      exact ⟨ret_int hix.out.symm, Hq.out⟩

/-- The faces of a part, as numbers. -/
def flI (p : Nat → Bool) (n : Nat) : List Int := (fcs p n).map fun f : Nat => (f : Int)
theorem flI_len (p : Nat → Bool) (n : Nat) : (flI p n).length ≤ n := by rw [flI, List.length_map]; exact fcs_le p n
theorem idxZ_fl {p : Nat → Bool} {n f : Nat} (hf : f < n) : idxZ (flI p n) (f : Int) = if p f = true then ((loc p f : Nat) : Int) - 1 else -1 := by
  by_cases hp : p f = true
  · rw [if_pos hp]
    obtain ⟨h1, h2⟩ := fl_of hf hp
    have hx : (flI p n)[loc p f - 1]? = some (f : Int) := by
      have h3 : (flI p n)[loc p f - 1]? = some ((flI p n)[loc p f - 1]'h1) := List.getElem?_eq_getElem h1
      have h4 : (flI p n).getD (loc p f - 1) 0 = (f : Int) := h2
      rw [List.getD, h3] at h4
      rw [h3]
      exact congrArg some h4
    rw [idxZ, if_pos (List.mem_of_getElem? hx), idx_at' hx (fun i hi he => ?_)]
    · unfold loc; omega
    · have hil : i < (flI p n).length := Nat.lt_trans hi h1
      obtain ⟨g, hg, hpg, e1, e2⟩ := fl_at (p := p) (n := n) hil
      have e3 : (flI p n).getD i 0 = (f : Int) := by simp [List.getD, he]
      have e4 : (flI p n).getD i 0 = (g : Int) := e1
      obtain rfl : g = f := by omega
      omega
  · rw [if_neg hp, idxZ, if_neg (fun hm => ?_)]
    obtain ⟨g, hg, e⟩ := List.mem_map.1 hm
    unfold fcs at hg
    obtain rfl : g = f := by omega
    exact hp (List.mem_filter.1 hg).2

/-- What the region of the weights reads. -/
def S5 (o g : Nat) (v u : Value) (bC oC bA oA : Nat) (x y : Int) (W : World) : Prop := W.cell? ⟨o, 0, none⟩ = some v ∧ W.cell? ⟨g, 0, none⟩ = some u ∧ W.cell? ⟨bC, oC, none⟩ = some (.int .i64 x) ∧ W.cell? ⟨bA, oA, none⟩ = some (.int .i64 y)
/-- What the region of the borders reads. -/
def S12 (o g : Nat) (v u : Value) (b1 o1 : Nat) (z : Int) (W : World) : Prop := W.cell? ⟨o, 1, none⟩ = some v ∧ W.cell? ⟨g, 1, none⟩ = some u ∧ W.cell? ⟨b1, o1, none⟩ = some (.int .i64 z)
set_option linter.unusedSimpArgs false in
set_option maxHeartbeats 4000000 in
set_option maxRecDepth 100000 in
theorem refInput_any (A B C : Option Addr) (a b c : Nat) (ws : List Int) (ns : List (Int × Int × Int)) (p : Nat → Bool) (w : World) (hA : SI w A ws) (hB : ST w B ns) (hC : SI w C (flI p ws.length)) (hS : Shut p ws.length ns) (hl : ws.length ≤ 4096) (hl2 : ns.length ≤ 16384) :
    Calls Try.prog 21 #[.agg #[.slice A ws.length a, .slice B ns.length b], .slice C (flI p ws.length).length c] w fun e w' => ∃ A1 a1 B1 b1, e = .returned (.agg #[.slice A1 (inW ws p ws.length).length a1, .slice B1 (inN ns p).length b1]) ∧
      w'.ownsRow w.heap.size 3 1 (.slice A1 (inW ws p ws.length).length a1) (inW ws p ws.length).length ((inW ws p ws.length).map (Value.int .i64)) ∧ w'.ownsRow w.heap.size 52 3 (.slice B1 (inN ns p).length b1) (inN ns p).length (triC (inN ns p)) ∧ Below w.heap.size w w' := by
  have hfl := flI_len p ws.length
  obtain ⟨Fl, hFl⟩ : ∃ Fl, Hid (flI p ws.length = Fl) := ⟨_, Lib.hid rfl⟩
  rw [hFl.out] at hC hfl ⊢
  obtain ⟨S, hSz⟩ : ∃ S, w.heap.size = S := ⟨_, rfl⟩
  have HA := Lib.hid (fun (W : World) (hW : Below S w W) => (hA.below (hSz.symm ▸ hW) : SI W A ws))
  have HB := Lib.hid (fun (W : World) (hW : Below S w W) => (hB.below (hSz.symm ▸ hW) : ST W B ns))
  have HC := Lib.hid (fun (W : World) (hW : Below S w W) => (hC.below (hSz.symm ▸ hW) : SI W C Fl))
  have Hbz := Lib.hid (fun (W : World) (hW : Below S w W) => (show S ≤ W.heap.size by have := hW.size; omega))
  have HS := Lib.hid hS
  clear hA hB hC hS
  go_enter Try.func21, Try.ntmps21
  go_wp2_with fail
  have hb0 : Below S w ((((w.alloc (.cells #[.slice A ws.length a, .slice B ns.length b] 30)).alloc (.cells #[.slice none 0 0, .slice none 0 0] 30)).alloc (.cells #[.int .i64 0] 3)).alloc (.cells #[.slice (some ⟨S + 1 + 1, 0, none⟩) 1 1, .slice none 0 0] 30)) := hSz ▸ ((((Below.refl _ _).alloc (Nat.le_refl _) _).alloc (by simp) _).alloc (by simp; omega) _).alloc (by simp; omega) _
  have hbG : Bk ((((w.alloc (.cells #[.slice A ws.length a, .slice B ns.length b] 30)).alloc (.cells #[.slice none 0 0, .slice none 0 0] 30)).alloc (.cells #[.int .i64 0] 3)).alloc (.cells #[.slice (some ⟨S + 1 + 1, 0, none⟩) 1 1, .slice none 0 0] 30)) S 30 #[.slice A ws.length a, .slice B ns.length b] := (((Bk.new' _ _ _ hSz).alloc _).alloc _).alloc _
  have hbR : Bk ((((w.alloc (.cells #[.slice A ws.length a, .slice B ns.length b] 30)).alloc (.cells #[.slice none 0 0, .slice none 0 0] 30)).alloc (.cells #[.int .i64 0] 3)).alloc (.cells #[.slice (some ⟨S + 1 + 1, 0, none⟩) 1 1, .slice none 0 0] 30)) (S + 1) 30 #[.slice none 0 0, .slice none 0 0] := ((Bk.new' _ _ _ (by simp [hSz])).alloc _).alloc _
  have hbI : Bk ((((w.alloc (.cells #[.slice A ws.length a, .slice B ns.length b] 30)).alloc (.cells #[.slice none 0 0, .slice none 0 0] 30)).alloc (.cells #[.int .i64 0] 3)).alloc (.cells #[.slice (some ⟨S + 1 + 1, 0, none⟩) 1 1, .slice none 0 0] 30)) (S + 1 + 1) 3 (rowI [0]) := (Bk.new' _ _ _ (by simp [hSz])).alloc _
  have hbO : Bk ((((w.alloc (.cells #[.slice A ws.length a, .slice B ns.length b] 30)).alloc (.cells #[.slice none 0 0, .slice none 0 0] 30)).alloc (.cells #[.int .i64 0] 3)).alloc (.cells #[.slice (some ⟨S + 1 + 1, 0, none⟩) 1 1, .slice none 0 0] 30)) (S + 1 + 1 + 1) 30 #[.slice (some ⟨S + 1 + 1, 0, none⟩) 1 1, .slice none 0 0] := Bk.new' _ _ _ (by simp [hSz])
  generalize (((w.alloc (.cells #[.slice A ws.length a, .slice B ns.length b] 30)).alloc (.cells #[.slice none 0 0, .slice none 0 0] 30)).alloc (.cells #[.int .i64 0] 3)).alloc (.cells #[.slice (some ⟨S + 1 + 1, 0, none⟩) 1 1, .slice none 0 0] 30) = W0 at *
  have ho0 : W0.ownsRow S 3 1 (.slice (some ⟨S + 1 + 1, 0, none⟩) 1 1) 1 ([0].map (Value.int .i64)) := own_row hbI (by omega) (by simp)
  have Hb0 := Lib.hid hb0
  have HG0 := Lib.hid hbG
  have HR0 := Lib.hid hbR
  have HO0 := Lib.hid hbO
  have Ho0 := Lib.hid ho0
  have HSz := Lib.hid hSz
  clear hb0 hbG hbR hbI hbO ho0 hSz
  go_loopw [6] (fun i wr => ∃ (k : Nat) (v : Value), k ≤ Fl.length ∧ i = .int .i64 k ∧ Bk wr (S + 1 + 1 + 1) 30 #[v, .slice none 0 0] ∧ wr.ownsRow S 3 1 v (k + 1) ((0 :: (Fl.take k).map fun x => ws.getD x.toNat 0).map (Value.int .i64)) ∧ Bk wr S 30 #[.slice A ws.length a, .slice B ns.length b] ∧ Bk wr (S + 1) 30 #[.slice none 0 0, .slice none 0 0] ∧ Below S w wr) (fun i _ => Fl.length - (intOf i).toNat)
  case atStart => exact ⟨0, _, by omega, rfl, HO0.out, Ho0.out, HG0.out, HR0.out, Hb0.out⟩
  case round =>
    clear HO0 Ho0 HG0 HR0 Hb0
    obtain ⟨k, v, hk, rfl, hO, ho, hG, hR, hb⟩ := hrel
    have HO := Lib.hid hO
    have Ho := Lib.hid ho
    have HG := Lib.hid hG
    have HR := Lib.hid hR
    have Hb := Lib.hid hb
    clear hO ho hG hR hb
    by_cases hlt : k < Fl.length
    · obtain ⟨bC, oC, x, rfl, hcx, hx⟩ := (HC.out _ Hb.out).get hlt
      obtain ⟨f, hf, hpf, hfe⟩ : ∃ f : Nat, f < ws.length ∧ p f = true ∧ x = (f : Int) := by
        have hm : x ∈ flI p ws.length := by rw [hFl.out]; exact List.mem_of_getElem? hx.out
        obtain ⟨g, hg, e⟩ := List.mem_map.1 hm
        unfold fcs at hg
        have := List.mem_filter.1 hg
        exact ⟨g, by simpa using this.1, this.2, e.symm⟩
      subst hfe
      obtain ⟨bA, oA, y, rfl, hcy, hy⟩ := (HA.out _ Hb.out).get hf
      have hyd : Hid (ws.getD f 0 = y) := by show _ = _; simp [List.getD, hy.out]
      have htk := Lib.hid (take_snoc' hx.out)
      obtain ⟨AV, cV, hvV⟩ := own_slice Ho.out
      subst hvV
      have hz := Hbz.out _ Hb.out
      have hbW : S ≤ (wr.drew.alloc (.cells #[.int .i64 y] 3)).heap.size := by simp; exact Nat.le_trans hz (Nat.le_succ _)
      have Hwn := Lib.hid (fun (W : World) (hW : Below S w W) => show W.cell? ⟨bC, oC + k, none⟩ = some (.int .i64 f) ∧ W.cell? ⟨bA, oA + f, none⟩ = some (.int .i64 y) from by
        obtain ⟨b1, o1, x1, e1, h1, h2⟩ := (HC.out W hW).get hlt
        obtain ⟨b3, o3, x3, e3, h3, h4⟩ := (HA.out W hW).get hf
        injection e1 with e1
        injection e1 with e11 e12
        injection e3 with e3
        injection e3 with e31 e32
        subst e11 e12 e31 e32
        have := h2.out.symm.trans hx.out
        have e5 := Option.some.inj this
        have := h4.out.symm.trans hy.out
        have e6 := Option.some.inj this
        rw [e5] at h1
        rw [e6] at h3
        exact ⟨h1, h3⟩)
      have HS0 := Lib.hid (show S5 (S + 1 + 1 + 1) S (.slice AV (k + 1) cV) (.slice (some ⟨bA, oA, none⟩) ws.length a) bC (oC + k) bA (oA + f) f y wr.drew from ⟨HO.out.cell 0, HG.out.cell 0, hcx, hcy⟩)
      have HOa := Lib.hid (show Bk (wr.drew.alloc (.cells #[.int .i64 y] 3)) (S + 1 + 1 + 1) _ _ from (show Bk wr.drew _ _ _ from HO.out).alloc _)
      have HGa := Lib.hid (show Bk (wr.drew.alloc (.cells #[.int .i64 y] 3)) S _ _ from (show Bk wr.drew _ _ _ from HG.out).alloc _)
      have Hba := Lib.hid (show Below S w (wr.drew.alloc (.cells #[.int .i64 y] 3)) from (Hb.out.drew).alloc hz _)
      have Hoa := Lib.hid (show (wr.drew.alloc (.cells #[.int .i64 y] 3)).ownsRow _ _ _ _ _ _ from (show wr.drew.ownsRow _ _ _ _ _ _ from Ho.out).alloc _)
      have Hnew := Lib.hid (Bk.new wr.drew 3 #[.int .i64 y])
      have HS1 := Lib.hid (show S5 (S + 1 + 1 + 1) S (.slice AV (k + 1) cV) (.slice (some ⟨bA, oA, none⟩) ws.length a) bC (oC + k) bA (oA + f) f y (wr.drew.alloc (.cells #[.int .i64 y] 3)) from ⟨HOa.out.cell 0, HGa.out.cell 0, (Hwn.out _ Hba.out).1, (Hwn.out _ Hba.out).2⟩)
      have f0 : (0 : Int) ≤ (f : Int) := by omega
      have f1 : (f : Int) < ws.length := by omega
      have k0 : (0 : Int) ≤ (k : Int) := by omega
      clear hcx hcy
      go_wp2_with fail
      refine wp_region_noPanic ?_
      refine region_T (s := 13) (S := S5 (S + 1 + 1 + 1) S (.slice AV (k + 1) cV) (.slice (some ⟨bA, oA, none⟩) ws.length a) bC (oC + k) bA (oA + f) f y) (by kernel_rfl) ?_
      change wpT _ _ _ _ _ 14 _ _ wr.drew
      refine T_take (k := 0) (v := .pointer (some ⟨S + 1 + 1 + 1, 0, none⟩)) rfl (by decide +kernel) (fun _ _ _ h => h) (Or.inl ⟨by rfl, fun W hW => by obtain ⟨s0, s1, s2, s3⟩ := hW; go_simp⟩) HS0.out ?_
      try simp only [Act.put, List.setIfInBounds_toArray, List.set_cons_zero, List.set_cons_succ]
      refine T_take (k := 1) (v := .slice AV (k + 1) cV) rfl (by decide +kernel) (fun _ _ _ h => h) (Or.inl ⟨by rfl, fun W hW => by obtain ⟨s0, s1, s2, s3⟩ := hW; go_simp⟩) HS0.out ?_
      try simp only [Act.put, List.setIfInBounds_toArray, List.set_cons_zero, List.set_cons_succ]
      refine T_take (k := 2) (v := .pointer (some ⟨S, 0, none⟩)) rfl (by decide +kernel) (fun _ _ _ h => h) (Or.inl ⟨by rfl, fun W hW => by obtain ⟨s0, s1, s2, s3⟩ := hW; go_simp⟩) HS0.out ?_
      try simp only [Act.put, List.setIfInBounds_toArray, List.set_cons_zero, List.set_cons_succ]
      refine T_take (k := 3) (v := .slice (some ⟨bA, oA, none⟩) ws.length a) rfl (by decide +kernel) (fun _ _ _ h => h) (Or.inl ⟨by rfl, fun W hW => by obtain ⟨s0, s1, s2, s3⟩ := hW; go_simp⟩) HS0.out ?_
      try simp only [Act.put, List.setIfInBounds_toArray, List.set_cons_zero, List.set_cons_succ]
      refine T_take (k := 4) (v := .slice (some ⟨bC, oC, none⟩) Fl.length c) rfl (by decide +kernel) (fun _ _ _ h => h) (Or.inl ⟨by rfl, fun W hW => by obtain ⟨s0, s1, s2, s3⟩ := hW; go_simp⟩) HS0.out ?_
      try simp only [Act.put, List.setIfInBounds_toArray, List.set_cons_zero, List.set_cons_succ]
      refine T_take (k := 5) (v := .int .i64 k) rfl (by decide +kernel) (fun _ _ _ h => h) (Or.inl ⟨by rfl, fun W hW => by obtain ⟨s0, s1, s2, s3⟩ := hW; go_simp⟩) HS0.out ?_
      try simp only [Act.put, List.setIfInBounds_toArray, List.set_cons_zero, List.set_cons_succ]
      refine T_take (k := 6) (v := .pointer (some ⟨bC, oC + k, none⟩)) rfl (by decide +kernel) (fun _ _ _ h => h) (Or.inl ⟨by rfl, fun W hW => by obtain ⟨s0, s1, s2, s3⟩ := hW; go_simp⟩) HS0.out ?_
      try simp only [Act.put, List.setIfInBounds_toArray, List.set_cons_zero, List.set_cons_succ]
      refine T_take (k := 7) (v := .int .i64 f) rfl (by decide +kernel) (fun _ _ _ h => h) (Or.inl ⟨by rfl, fun W hW => by obtain ⟨s0, s1, s2, s3⟩ := hW; go_simp⟩) HS0.out ?_
      try simp only [Act.put, List.setIfInBounds_toArray, List.set_cons_zero, List.set_cons_succ]
      refine T_take (k := 8) (v := .pointer (some ⟨bA, oA + f, none⟩)) rfl (by decide +kernel) (fun _ _ _ h => h) (Or.inl ⟨by rfl, fun W hW => by obtain ⟨s0, s1, s2, s3⟩ := hW; go_simp⟩) HS0.out ?_
      try simp only [Act.put, List.setIfInBounds_toArray, List.set_cons_zero, List.set_cons_succ]
      refine T_take (k := 9) (v := .int .i64 y) rfl (by decide +kernel) (fun _ _ _ h => h) (Or.inl ⟨by rfl, fun W hW => by obtain ⟨s0, s1, s2, s3⟩ := hW; go_simp⟩) HS0.out ?_
      try simp only [Act.put, List.setIfInBounds_toArray, List.set_cons_zero, List.set_cons_succ]
      refine T_one (i := 10) (by decide +kernel) rfl rfl (fun K hK10 => ?_)
      have hK10 := Lib.hid hK10
      go_simp
      refine hK10.out _ _ HS1.out ?_
      try simp only [Act.put, List.setIfInBounds_toArray, List.set_cons_zero, List.set_cons_succ]
      refine T_one (i := 11) (by decide +kernel) rfl rfl (fun K hK11 => ?_)
      have hK11 := Lib.hid hK11
      refine app_wp3 (us := [.int .i64 y]) (c := 1) (H := wr.heap.size) (v := .slice AV (k + 1) cV) (.tmp 19) (.tmp 28) rfl elt_int.big (by simp [Act.eval]) (by simp [Act.eval]) Hoa.out Hnew.out rfl rfl (by omega) hbW ?_
      intro v8 w8 hown8 hg8 hv8
      obtain ⟨A8, c8, rfl⟩ := own_slice hown8
      have HO8 := Lib.hid (HOa.out.grown hg8 (HOa.out.ne_own Hoa.out (by decide)))
      have HG8 := Lib.hid (HGa.out.grown hg8 (HGa.out.ne_own Hoa.out (by decide)))
      have Hb8 := Lib.hid (Hba.out.grown hg8 hbW (fun q hq => (Hoa.out.lt q hq).1))
      have d4 := HO8.out.frozen 0
      have d3 : w8.cell? ⟨S + 1 + 1 + 1, 0, none⟩ = some (.slice AV (k + 1) cV) := HO8.out.cell 0
      have HS2 := Lib.hid (show S5 (S + 1 + 1 + 1) S (.slice AV (k + 1) cV) (.slice (some ⟨bA, oA, none⟩) ws.length a) bC (oC + k) bA (oA + f) f y w8 from ⟨HO8.out.cell 0, HG8.out.cell 0, (Hwn.out _ Hb8.out).1, (Hwn.out _ Hb8.out).2⟩)
      refine hK11.out _ _ HS2.out ?_
      try simp only [Act.put, List.setIfInBounds_toArray, List.set_cons_zero, List.set_cons_succ]
      refine T_take (k := 12) (v := .pointer (some ⟨S + 1 + 1 + 1, 0, none⟩)) rfl (by decide +kernel) (fun _ _ _ h => h) (Or.inl ⟨by rfl, fun W hW => by obtain ⟨s0, s1, s2, s3⟩ := hW; go_simp⟩) HS2.out ?_
      try simp only [Act.put, List.setIfInBounds_toArray, List.set_cons_zero, List.set_cons_succ]
      refine T_last (by decide +kernel) (by decide +kernel) (by decide +kernel) rfl rfl (fun K hKl => ?_)
      have hKl := Lib.hid hKl
      go_simp
      refine hKl.out _ _ (NoPanic.normal ?_)
      try simp only [Act.put, List.setIfInBounds_toArray, List.set_cons_zero, List.set_cons_succ]
      clear hK10 hK11 hKl HS0 HS1 HS2
      have HO9 := Lib.hid (HO8.out.set_ 0 (.slice A8 (k + 1 + 1) c8))
      have HG9 := Lib.hid (HG8.out.far (p := ⟨S + 1 + 1 + 1, 0, none⟩) (by show S ≠ S + 1 + 1 + 1; omega) (.slice A8 (k + 1 + 1) c8))
      have HR9 := Lib.hid ((((show Bk (wr.drew.alloc (.cells #[.int .i64 y] 3)) _ _ _ from (show Bk wr.drew _ _ _ from HR.out).alloc _).grown hg8 (HR.out.ne_own Ho.out (by decide)))).far (p := ⟨S + 1 + 1 + 1, 0, none⟩) (by show S + 1 ≠ S + 1 + 1 + 1; omega) (.slice A8 (k + 1 + 1) c8))
      have Ho9 := Lib.hid (own_set (i := 0) hown8 (HO8.out.ne_own hown8 (by decide)) (.slice A8 (k + 1 + 1) c8))
      have Hb9 := Lib.hid (Hb8.out.setCell (p := ⟨S + 1 + 1 + 1, 0, none⟩) (by show S ≤ S + 1 + 1 + 1; omega) (.slice A8 (k + 1 + 1) c8))
      go_wp2_with fail
      go_roundw
      case rel => exact ⟨k + 1, _, by omega, by go_num, HO9.out, by
          rw [htk.out, List.map_append, ← List.cons_append, List.map_append]
          show World.ownsRow _ _ _ _ _ _ (_ ++ [Value.int .i64 (ws.getD ((f : Int)).toNat 0)])
          rw [Int.toNat_natCast, hyd.out]
          exact Ho9.out, HG9.out, HR9.out, Hb9.out⟩
      case measure => simp [intOf]; omega
    · obtain rfl : k = Fl.length := by omega
      rw [List.take_length] at Ho
      have hwe : (0 :: Fl.map fun x => ws.getD x.toNat 0) = inW ws p ws.length := by
        rw [← hFl.out, flI, List.map_map]
        rfl
      have hwl : Fl.length + 1 = (inW ws p ws.length).length := by rw [inW_len, ← hFl.out, flI, List.length_map]
      rw [hwe, hwl] at Ho
      obtain ⟨A1, a1, hvA⟩ := own_slice Ho.out
      subst hvA
      obtain ⟨IW, hIW⟩ : ∃ IW, Hid (inW ws p ws.length = IW) := ⟨_, Lib.hid rfl⟩
      rw [hIW.out] at Ho HO
      clear hwe hwl
      go_wp2_with fail
      go_loopw [7] (fun i wr => ∃ (k : Nat) (v : Value), k ≤ ns.length ∧ i = .int .i64 k ∧ Bk wr (S + 1 + 1 + 1) 30 #[.slice A1 IW.length a1, v] ∧ wr.ownsRow S 3 1 (.slice A1 IW.length a1) IW.length (IW.map (Value.int .i64)) ∧ wr.ownsRow S 52 3 v (inN (ns.take k) p).length (triC (inN (ns.take k) p)) ∧
         Bk wr S 30 #[.slice A ws.length a, .slice B ns.length b] ∧ Bk wr (S + 1) 30 #[.slice none 0 0, .slice none 0 0] ∧ Below S w wr) (fun i _ => ns.length - (intOf i).toNat)
      case atStart => exact ⟨0, _, by omega, rfl, HO.out, Ho.out, World.ownsRow_nil _ _ _ _, HG.out, HR.out, Hb.out⟩
      case round =>
        clear HO Ho HG HR Hb
        obtain ⟨k, v, hk, rfl, hO, ho, hn, hG, hR, hb⟩ := hrel
        have HO := Lib.hid hO
        have Ho := Lib.hid ho
        have Hn := Lib.hid hn
        have HG := Lib.hid hG
        have HR := Lib.hid hR
        have Hb := Lib.hid hb
        clear hO ho hn hG hR hb
        by_cases hlt : k < ns.length
        · obtain ⟨b1, o1, x, y, z, rfl, k0, k1, k2, ht⟩ := (HB.out _ Hb.out).get hlt
          have he := HS.out.e _ (List.mem_of_getElem? ht.out)
          have hcl := HS.out.c _ (List.mem_of_getElem? ht.out)
          dsimp only at he hcl
          obtain ⟨xn, rfl⟩ : ∃ xn : Nat, x = (xn : Int) := ⟨x.toNat, by omega⟩
          obtain ⟨yn, rfl⟩ : ∃ yn : Nat, y = (yn : Int) := ⟨y.toNat, by omega⟩
          rw [Int.toNat_natCast, Int.toNat_natCast] at hcl
          have hix := idxZ_fl (p := p) (n := ws.length) (f := xn) (by omega)
          have hiy := idxZ_fl (p := p) (n := ws.length) (f := yn) (by omega)
          rw [hFl.out] at hix hiy
          have hg1 : wr.cell? ⟨S, 1, none⟩ = some (.slice (some ⟨b1, o1, none⟩) ns.length b) := HG.out.cell 1
          have hk0 : (0 : Int) ≤ (k : Int) := by omega
          have Hix := Lib.hid (And.intro hix (And.intro hiy hcl))
          clear hix hiy hcl
          go_wp2_with fail
          refine (refIndex_any C c Fl xn wr (HC.out _ Hb.out) (by omega)).mono ?_
          rintro e w1 ⟨rfl, hq⟩
          obtain ⟨m1, rfl⟩ := hq
          have hg1' : (wr.drewN m1).cell? ⟨S, 1, none⟩ = some (.slice (some ⟨b1, o1, none⟩) ns.length b) := hg1
          have k1' : (wr.drewN m1).cell? ⟨b1, o1 + k * 3 + 1, none⟩ = some (.int .i64 yn) := k1
          obtain ⟨ia, hia⟩ : ∃ ia, Hid (idxZ Fl (xn : Int) = ia) := ⟨_, Lib.hid rfl⟩
          rw [hia.out]
          go_wp2_with fail
          refine (refIndex_any C c Fl yn (wr.drewN m1) ((HC.out _ Hb.out).drewN m1) (by omega)).mono ?_
          rintro e w1 ⟨rfl, hq⟩
          obtain ⟨m2, rfl⟩ := hq
          obtain ⟨ib, hib⟩ : ∃ ib, Hid (idxZ Fl (yn : Int) = ib) := ⟨_, Lib.hid rfl⟩
          rw [hib.out]
          have k2' : ((wr.drewN m1).drewN m2).cell? ⟨b1, o1 + k * 3 + 2, none⟩ = some (.int .i64 z) := k2
          have hg2 : ((wr.drewN m1).drewN m2).cell? ⟨S, 1, none⟩ = some (.slice (some ⟨b1, o1, none⟩) ns.length b) := hg1
          have HO1 := Lib.hid (show Bk ((wr.drewN m1).drewN m2) _ _ _ from HO.out)
          have Ho1 := Lib.hid (show ((wr.drewN m1).drewN m2).ownsRow _ _ _ _ _ _ from Ho.out)
          have Hn1 := Lib.hid (show ((wr.drewN m1).drewN m2).ownsRow _ _ _ _ _ _ from Hn.out)
          have HG1 := Lib.hid (show Bk ((wr.drewN m1).drewN m2) S _ _ from HG.out)
          have HR1 := Lib.hid (show Bk ((wr.drewN m1).drewN m2) (S + 1) _ _ from HR.out)
          have Hb1 := Lib.hid (below_drewN (below_drewN Hb.out m1) m2)
          clear hg1 hg1' k0 k1 k1' k2 HO Ho Hn HG HR Hb
          generalize (wr.drewN m1).drewN m2 = W1 at *
          cases hp : p xn
          · have hneg : ia < 0 := by
              rw [← hia.out, Hix.out.1, if_neg (by rw [hp]; simp)]
              omega
            have hna : (0 ≤ ia) = False := by simp; omega
            have hst : Hid (inN (ns.take (k + 1)) p = inN (ns.take k) p) := by
              show _ = _
              rw [take_snoc' ht.out, inN, List.filter_append, List.filter_cons]
              simp only [Int.toNat_natCast, hp]
              simp [inN]
            clear k2' hg2
            go_wp2_with fail
            go_roundw
            case rel => exact ⟨k + 1, v, by omega, by go_num, HO1.out, Ho1.out, by rw [hst.out]; exact Hn1.out, HG1.out, HR1.out, Hb1.out⟩
            case measure => simp [intOf]; omega
          · have hx0 : (xn : Int) ≠ 0 := fun e => by
              obtain rfl : xn = 0 := by omega
              have := HS.out.z
              rw [this] at hp
              cases hp
            have hpy : p yn = true := by rw [← Hix.out.2.2 hx0]; exact hp
            obtain ⟨la, hla⟩ : ∃ la, Hid (((loc p xn : Nat) : Int) = la) := ⟨_, Lib.hid rfl⟩
            obtain ⟨lb, hlb⟩ : ∃ lb, Hid (((loc p yn : Nat) : Int) = lb) := ⟨_, Lib.hid rfl⟩
            have hea : ia = la - 1 := by rw [← hia.out, Hix.out.1, if_pos hp, hla.out]
            have heb : ib = lb - 1 := by rw [← hib.out, Hix.out.2.1, if_pos hpy, hlb.out]
            have hla1 : 1 ≤ la ∧ la ≤ 5000 := by rw [← hla.out]; have := fcs_le p xn; unfold loc; omega
            have hlb1 : 1 ≤ lb ∧ lb ≤ 5000 := by rw [← hlb.out]; have := fcs_le p yn; unfold loc; omega
            have hwa : IntKind.i64.wrap (ia + 1) = la := by rw [IntWalk.i64_in _ (by omega)]; omega
            have hwb : IntKind.i64.wrap (ib + 1) = lb := by rw [IntWalk.i64_in _ (by omega)]; omega
            have ia0 : 0 ≤ ia := by omega
            have ib0 : 0 ≤ ib := by omega
            have hst : Hid (inN (ns.take (k + 1)) p = inN (ns.take k) p ++ [(la, lb, z)]) := by
              show _ = _
              rw [take_snoc' ht.out, inN, List.filter_append, List.filter_cons]
              simp only [Int.toNat_natCast, hp, if_true, List.filter_nil, List.map_append]
              rw [← hla.out, ← hlb.out]
              rfl
            have hnl : (inN (ns.take k) p).length ≤ 20000 := by
              rw [inN, List.length_map]
              have := List.length_filter_le (fun t => p t.1.toNat) (ns.take k)
              simp only [List.length_take] at this
              omega
            obtain ⟨IN, hIN⟩ : ∃ IN, Hid (inN (ns.take k) p = IN) := ⟨_, Lib.hid rfl⟩
            rw [hIN.out] at Hn1 hst hnl
            obtain ⟨AV, cV, hvV⟩ := own_slice Hn1.out
            subst hvV
            clear hea heb hla1 hlb1
            have hz := Hbz.out _ Hb1.out
            have hbW : S ≤ (W1.drew.alloc (.cells #[.int .i64 la, .int .i64 lb, .int .i64 z] 52)).heap.size := by simp; exact Nat.le_trans hz (Nat.le_succ _)
            have Hwn := Lib.hid (fun (W : World) (hW : Below S w W) => show W.cell? ⟨b1, o1 + k * 3 + 2, none⟩ = some (.int .i64 z) from by
              obtain ⟨b2, o2, x2, y2, z2, e1, g0, g1, g2, ht2⟩ := (HB.out W hW).get hlt
              injection e1 with e1
              injection e1 with e11 e12
              subst e11 e12
              have := ht2.out.symm.trans ht.out
              have e5 := Option.some.inj this
              injection e5 with e5 e6
              injection e6 with e6 e7
              rw [e7] at g2
              exact g2)
            have HS0 := Lib.hid (show S12 (S + 1 + 1 + 1) S (.slice AV IN.length cV) (.slice (some ⟨b1, o1, none⟩) ns.length b) b1 (o1 + k * 3 + 2) z W1.drew from ⟨HO1.out.cell 1, HG1.out.cell 1, k2'⟩)
            have HOa := Lib.hid (show Bk (W1.drew.alloc (.cells #[.int .i64 la, .int .i64 lb, .int .i64 z] 52)) (S + 1 + 1 + 1) _ _ from (show Bk W1.drew _ _ _ from HO1.out).alloc _)
            have HGa := Lib.hid (show Bk (W1.drew.alloc (.cells #[.int .i64 la, .int .i64 lb, .int .i64 z] 52)) S _ _ from (show Bk W1.drew _ _ _ from HG1.out).alloc _)
            have Hba := Lib.hid (show Below S w (W1.drew.alloc (.cells #[.int .i64 la, .int .i64 lb, .int .i64 z] 52)) from (Hb1.out.drew).alloc hz _)
            have Hna := Lib.hid (show (W1.drew.alloc (.cells #[.int .i64 la, .int .i64 lb, .int .i64 z] 52)).ownsRow _ _ _ _ _ _ from (show W1.drew.ownsRow _ _ _ _ _ _ from Hn1.out).alloc _)
            have Hoa := Lib.hid (show (W1.drew.alloc (.cells #[.int .i64 la, .int .i64 lb, .int .i64 z] 52)).ownsRow _ _ _ _ _ _ from (show W1.drew.ownsRow _ _ _ _ _ _ from Ho1.out).alloc _)
            have HRa := Lib.hid (show Bk (W1.drew.alloc (.cells #[.int .i64 la, .int .i64 lb, .int .i64 z] 52)) (S + 1) _ _ from (show Bk W1.drew _ _ _ from HR1.out).alloc _)
            have Hnew := Lib.hid (Bk.new W1.drew 52 #[.int .i64 la, .int .i64 lb, .int .i64 z])
            have HS1 := Lib.hid (show S12 (S + 1 + 1 + 1) S (.slice AV IN.length cV) (.slice (some ⟨b1, o1, none⟩) ns.length b) b1 (o1 + k * 3 + 2) z (W1.drew.alloc (.cells #[.int .i64 la, .int .i64 lb, .int .i64 z] 52)) from ⟨HOa.out.cell 1, HGa.out.cell 1, Hwn.out _ Hba.out⟩)
            clear k2' hg2 HO1 Ho1 Hn1 HG1 HR1 Hb1
            go_wp2_with fail
            refine wp_region_noPanic ?_
            refine region_T (s := 16) (S := S12 (S + 1 + 1 + 1) S (.slice AV IN.length cV) (.slice (some ⟨b1, o1, none⟩) ns.length b) b1 (o1 + k * 3 + 2) z) (by kernel_rfl) ?_
            change wpT _ _ _ _ _ 17 _ _ W1.drew
            refine T_take (k := 0) (v := .pointer (some ⟨S + 1 + 1 + 1, 1, none⟩)) rfl (by decide +kernel) (fun _ _ _ h => h) (Or.inl ⟨by rfl, fun W hW => by obtain ⟨s0, s1, s2⟩ := hW; go_simp⟩) HS0.out ?_
            try simp only [Act.put, List.setIfInBounds_toArray, List.set_cons_zero, List.set_cons_succ]
            refine T_take (k := 1) (v := .slice AV IN.length cV) rfl (by decide +kernel) (fun _ _ _ h => h) (Or.inl ⟨by rfl, fun W hW => by obtain ⟨s0, s1, s2⟩ := hW; go_simp⟩) HS0.out ?_
            try simp only [Act.put, List.setIfInBounds_toArray, List.set_cons_zero, List.set_cons_succ]
            refine T_take (k := 2) (v := .int .i64 ia) rfl (by decide +kernel) (fun _ _ _ h => h) (Or.inl ⟨by rfl, fun W hW => by obtain ⟨s0, s1, s2⟩ := hW; go_simp⟩) HS0.out ?_
            try simp only [Act.put, List.setIfInBounds_toArray, List.set_cons_zero, List.set_cons_succ]
            refine T_take (k := 3) (v := .int .i64 la) rfl (by decide +kernel) (fun _ _ _ h => h) (Or.inl ⟨by rfl, fun W hW => by obtain ⟨s0, s1, s2⟩ := hW; go_simp⟩) HS0.out ?_
            try simp only [Act.put, List.setIfInBounds_toArray, List.set_cons_zero, List.set_cons_succ]
            refine T_take (k := 4) (v := .int .i64 ib) rfl (by decide +kernel) (fun _ _ _ h => h) (Or.inl ⟨by rfl, fun W hW => by obtain ⟨s0, s1, s2⟩ := hW; go_simp⟩) HS0.out ?_
            try simp only [Act.put, List.setIfInBounds_toArray, List.set_cons_zero, List.set_cons_succ]
            refine T_take (k := 5) (v := .int .i64 lb) rfl (by decide +kernel) (fun _ _ _ h => h) (Or.inl ⟨by rfl, fun W hW => by obtain ⟨s0, s1, s2⟩ := hW; go_simp⟩) HS0.out ?_
            try simp only [Act.put, List.setIfInBounds_toArray, List.set_cons_zero, List.set_cons_succ]
            refine T_take (k := 6) (v := .pointer (some ⟨S, 1, none⟩)) rfl (by decide +kernel) (fun _ _ _ h => h) (Or.inl ⟨by rfl, fun W hW => by obtain ⟨s0, s1, s2⟩ := hW; go_simp⟩) HS0.out ?_
            try simp only [Act.put, List.setIfInBounds_toArray, List.set_cons_zero, List.set_cons_succ]
            refine T_take (k := 7) (v := .slice (some ⟨b1, o1, none⟩) ns.length b) rfl (by decide +kernel) (fun _ _ _ h => h) (Or.inl ⟨by rfl, fun W hW => by obtain ⟨s0, s1, s2⟩ := hW; go_simp⟩) HS0.out ?_
            try simp only [Act.put, List.setIfInBounds_toArray, List.set_cons_zero, List.set_cons_succ]
            refine T_take (k := 8) (v := .int .i64 k) rfl (by decide +kernel) (fun _ _ _ h => h) (Or.inl ⟨by rfl, fun W hW => by obtain ⟨s0, s1, s2⟩ := hW; go_simp⟩) HS0.out ?_
            try simp only [Act.put, List.setIfInBounds_toArray, List.set_cons_zero, List.set_cons_succ]
            refine T_take (k := 9) (v := .pointer (some ⟨b1, o1 + k * 3, none⟩)) rfl (by decide +kernel) (fun _ _ _ h => h) (Or.inl ⟨by rfl, fun W hW => by obtain ⟨s0, s1, s2⟩ := hW; go_simp⟩) HS0.out ?_
            try simp only [Act.put, List.setIfInBounds_toArray, List.set_cons_zero, List.set_cons_succ]
            refine T_take (k := 10) (v := .pointer (some ⟨b1, o1 + k * 3 + 2, none⟩)) rfl (by decide +kernel) (fun _ _ _ h => h) (Or.inl ⟨by rfl, fun W hW => by obtain ⟨s0, s1, s2⟩ := hW; go_simp⟩) HS0.out ?_
            try simp only [Act.put, List.setIfInBounds_toArray, List.set_cons_zero, List.set_cons_succ]
            refine T_take (k := 11) (v := .int .i64 z) rfl (by decide +kernel) (fun _ _ _ h => h) (Or.inl ⟨by rfl, fun W hW => by obtain ⟨s0, s1, s2⟩ := hW; go_simp⟩) HS0.out ?_
            try simp only [Act.put, List.setIfInBounds_toArray, List.set_cons_zero, List.set_cons_succ]
            refine T_take (k := 12) (v := .agg #[.int .i64 la, .int .i64 lb, .int .i64 z]) rfl (by decide +kernel) (fun _ _ _ h => h) (Or.inl ⟨by rfl, fun W hW => by obtain ⟨s0, s1, s2⟩ := hW; go_simp⟩) HS0.out ?_
            try simp only [Act.put, List.setIfInBounds_toArray, List.set_cons_zero, List.set_cons_succ]
            refine T_one (i := 13) (by decide +kernel) rfl rfl (fun K hK13 => ?_)
            have hK13 := Lib.hid hK13
            go_simp
            refine hK13.out _ _ HS1.out ?_
            try simp only [Act.put, List.setIfInBounds_toArray, List.set_cons_zero, List.set_cons_succ]
            refine T_one (i := 14) (by decide +kernel) rfl rfl (fun K hK14 => ?_)
            have hK14 := Lib.hid hK14
            refine app_wp3 (us := [.int .i64 la, .int .i64 lb, .int .i64 z]) (c := 1) (H := W1.heap.size) (v := .slice AV IN.length cV) (.tmp 61) (.tmp 73) rfl elt_tri.big (by simp [Act.eval]) (by simp [Act.eval]) Hna.out Hnew.out rfl rfl (by omega) hbW ?_
            intro v8 w8 hown8 hg8 hv8
            obtain ⟨A8, c8, rfl⟩ := own_slice hown8
            have HO8 := Lib.hid (HOa.out.grown hg8 (HOa.out.ne_own Hna.out (by decide)))
            have HG8 := Lib.hid (HGa.out.grown hg8 (HGa.out.ne_own Hna.out (by decide)))
            have HR8 := Lib.hid (HRa.out.grown hg8 (HRa.out.ne_own Hna.out (by decide)))
            have Ho8 := Lib.hid (own_grown Hoa.out hg8 (own_ne Hoa.out Hna.out (by decide)))
            have Hb8 := Lib.hid (Hba.out.grown hg8 hbW (fun q hq => (Hna.out.lt q hq).1))
            have d4 := HO8.out.frozen 1
            have d3 : w8.cell? ⟨S + 1 + 1 + 1, 1, none⟩ = some (.slice AV IN.length cV) := HO8.out.cell 1
            have HS2 := Lib.hid (show S12 (S + 1 + 1 + 1) S (.slice AV IN.length cV) (.slice (some ⟨b1, o1, none⟩) ns.length b) b1 (o1 + k * 3 + 2) z w8 from ⟨HO8.out.cell 1, HG8.out.cell 1, Hwn.out _ Hb8.out⟩)
            refine hK14.out _ _ HS2.out ?_
            try simp only [Act.put, List.setIfInBounds_toArray, List.set_cons_zero, List.set_cons_succ]
            refine T_take (k := 15) (v := .pointer (some ⟨S + 1 + 1 + 1, 1, none⟩)) rfl (by decide +kernel) (fun _ _ _ h => h) (Or.inl ⟨by rfl, fun W hW => by obtain ⟨s0, s1, s2⟩ := hW; go_simp⟩) HS2.out ?_
            try simp only [Act.put, List.setIfInBounds_toArray, List.set_cons_zero, List.set_cons_succ]
            refine T_last (by decide +kernel) (by decide +kernel) (by decide +kernel) rfl rfl (fun K hKl => ?_)
            have hKl := Lib.hid hKl
            go_simp
            refine hKl.out _ _ (NoPanic.normal ?_)
            try simp only [Act.put, List.setIfInBounds_toArray, List.set_cons_zero, List.set_cons_succ]
            clear hK13 hK14 hKl HS0 HS1 HS2
            have HO9 := Lib.hid (HO8.out.set_ 1 (.slice A8 (IN.length + 1) c8))
            have HG9 := Lib.hid (HG8.out.far (p := ⟨S + 1 + 1 + 1, 1, none⟩) (by show S ≠ S + 1 + 1 + 1; omega) (.slice A8 (IN.length + 1) c8))
            have HR9 := Lib.hid (HR8.out.far (p := ⟨S + 1 + 1 + 1, 1, none⟩) (by show S + 1 ≠ S + 1 + 1 + 1; omega) (.slice A8 (IN.length + 1) c8))
            have Hn9 := Lib.hid (own_set (i := 1) hown8 (HO8.out.ne_own hown8 (by decide)) (.slice A8 (IN.length + 1) c8))
            have Ho9 := Lib.hid (own_set (i := 1) Ho8.out (HO8.out.ne_own Ho8.out (by decide)) (.slice A8 (IN.length + 1) c8))
            have Hb9 := Lib.hid (Hb8.out.setCell (p := ⟨S + 1 + 1 + 1, 1, none⟩) (by show S ≤ S + 1 + 1 + 1; omega) (.slice A8 (IN.length + 1) c8))
            go_wp2_with fail
            go_roundw
            case rel =>
              refine ⟨k + 1, _, by omega, by go_num, HO9.out, Ho9.out, ?_, HG9.out, HR9.out, Hb9.out⟩
              rw [hst.out, triC_append, List.length_append]
              exact Hn9.out
            case measure => simp [intOf]; omega
        · obtain rfl : k = ns.length := by omega
          rw [List.take_length] at Hn
          obtain ⟨B1, b1, hvB⟩ := own_slice Hn.out
          subst hvB
          have hc0 : wr.cell? ⟨S + 1 + 1 + 1, 0, none⟩ = some (.slice A1 IW.length a1) := HO.out.cell 0
          have hc1 : wr.cell? ⟨S + 1 + 1 + 1, 1, none⟩ = some (.slice B1 (inN ns p).length b1) := HO.out.cell 1
          have hr0 : wr.cell? ⟨S + 1, 0, none⟩ = some (.slice none 0 0) := HR.out.cell 0
          have hr1 : wr.cell? ⟨S + 1, 1, none⟩ = some (.slice none 0 0) := HR.out.cell 1
          have hf0 := HR.out.frozen 0
          have hf1 := HR.out.frozen 1
          have hz0 := ((HR.out.set_ 0 (.slice A1 IW.length a1)).set_ 1 (.slice B1 (inN ns p).length b1)).cell 0
          have hz1 := ((HR.out.set_ 0 (.slice A1 IW.length a1)).set_ 1 (.slice B1 (inN ns p).length b1)).cell 1
          have hg1 : wr.cell? ⟨S, 1, none⟩ = some (.slice B ns.length b) := HG.out.cell 1
          go_wp2_with fail
          refine bodyPost_ret (v := .agg #[.slice A1 IW.length a1, .slice B1 (inN ns p).length b1]) (by simp [results, Try.results21, go_sem, hz0, hz1]) rfl ⟨A1, a1, B1, b1, by rw [hIW.out], ?_, ?_, ?_⟩
          · rw [HSz.out, hIW.out]; exact own_set (i := 1) (own_set (i := 0) Ho.out (HR.out.ne_own Ho.out (by decide)) _) (HR.out.ne_own Ho.out (by decide)) _
          · rw [HSz.out]; exact own_set (i := 1) (own_set (i := 0) Hn.out (HR.out.ne_own Hn.out (by decide)) _) (HR.out.ne_own Hn.out (by decide)) _
          · rw [HSz.out]; exact (Hb.out.setCell (p := ⟨S + 1, 0, none⟩) (by show S ≤ S + 1; omega) _).setCell (p := ⟨S + 1, 1, none⟩) (by show S ≤ S + 1; omega) _
end Go.Proofs.Ytmdgdphhedgojaa
