import Derived.Test.YtmdgdphhedgojaaWA
import Derived.Test.YtmdgdphhedgojaaK01
import Derived.Laws.BytesArg
import Derived.Laws.BytesString
namespace Go.Proofs.Ytmdgdphhedgojaa
open Go.RowKit Go.Maps

/-- The bytes of borders. -/
def triB (N : List (Int × Int × Int)) : List Nat := N.flatMap fun t => vb 3 ++ vbs [t.1, t.2.1, t.2.2]
/-- The bytes of an input. -/
def keyD (W : List Int) (N : List (Int × Int × Int)) : List Nat := vb W.length ++ (vbs W ++ (vb (zz N.length) ++ triB N))
def keyB (W : List Int) (N : List (Int × Int × Int)) : ByteArray := strOfNums ((keyD W N).map fun c : Nat => (c : Int))
theorem triB_snoc (N : List (Int × Int × Int)) (t : Int × Int × Int) : triB (N ++ [t]) = triB N ++ (vb 3 ++ vbs [t.1, t.2.1, t.2.2]) := by simp [triB]
def W64t (N : List (Int × Int × Int)) : Prop := ∀ t ∈ N, W64 [t.1, t.2.1, t.2.2]
theorem triB_len : ∀ N : List (Int × Int × Int), W64t N → (triB N).length ≤ 31 * N.length
  | [], _ => by simp [triB]
  | t :: N, h => by
    have h1 := vbs_len _ (h t (by simp))
    have h2 := triB_len N (fun z hz => h z (by simp [hz]))
    have h3 : (vb 3).length ≤ 1 := by rw [vb_small (by omega)]; exact Nat.le_refl _
    have e : triB (t :: N) = (vb 3 ++ vbs [t.1, t.2.1, t.2.2]) ++ triB N := rfl
    rw [e, List.length_append, List.length_append, List.length_cons]
    simp only [List.length_cons, List.length_nil] at h1
    omega

theorem vb_split {n m : Nat} {l k : List Nat} (hn : n < 18446744073709551616) (hm : m < 18446744073709551616) (h : vb n ++ l = vb m ++ k) : n = m ∧ l = k := by
  have h1 := rd_vb n 0 0 l (by omega) (by omega)
  have h2 := rd_vb m 0 0 k (by omega) (by omega)
  rw [h] at h1
  have h3 := h1.symm.trans h2
  injection h3 with h3
  injection h3 with h4 h5
  exact ⟨by omega, h5⟩
theorem zz_inj {a b : Int} (h : zz a = zz b) : a = b := by rw [← unzz_zz a, ← unzz_zz b, h]
theorem vbs_split : ∀ {a b : List Int} {l k : List Nat}, W64 a → W64 b → a.length = b.length → vbs a ++ l = vbs b ++ k → a = b ∧ l = k
  | [], [], _, _, _, _, _, h => ⟨rfl, h⟩
  | [], _ :: _, _, _, _, _, hl, _ => by simp at hl
  | _ :: _, [], _, _, _, _, hl, _ => by simp at hl
  | x :: a, y :: b, l, k, ha, hb, hl, h => by
    have e1 : vbs (x :: a) ++ l = vb (zz x) ++ (vbs a ++ l) := by simp [vbs]
    have e2 : vbs (y :: b) ++ k = vb (zz y) ++ (vbs b ++ k) := by simp [vbs]
    rw [e1, e2] at h
    obtain ⟨h1, h2⟩ := vb_split (zz_lt (ha x (by simp))) (zz_lt (hb y (by simp))) h
    obtain ⟨h3, h4⟩ := vbs_split (fun z hz => ha z (by simp [hz])) (fun z hz => hb z (by simp [hz])) (by simpa using hl) h2
    exact ⟨by rw [zz_inj h1, h3], h4⟩
theorem triB_inj : ∀ {a b : List (Int × Int × Int)}, W64t a → W64t b → a.length = b.length → triB a = triB b → a = b
  | [], [], _, _, _, _ => rfl
  | [], _ :: _, _, _, hl, _ => by simp at hl
  | _ :: _, [], _, _, hl, _ => by simp at hl
  | t :: a, u :: b, ha, hb, hl, h => by
    have e1 : triB (t :: a) = vb 3 ++ (vbs [t.1, t.2.1, t.2.2] ++ triB a) := by simp [triB]
    have e2 : triB (u :: b) = vb 3 ++ (vbs [u.1, u.2.1, u.2.2] ++ triB b) := by simp [triB]
    rw [e1, e2] at h
    obtain ⟨_, h1⟩ := vb_split (by omega) (by omega) h
    obtain ⟨h2, h3⟩ := vbs_split (ha t (by simp)) (hb u (by simp)) rfl h1
    have h4 := triB_inj (fun z hz => ha z (by simp [hz])) (fun z hz => hb z (by simp [hz])) (by simpa using hl) h3
    injection h2 with i1 h2
    injection h2 with i2 h2
    injection h2 with i3 h2
    rw [h4]
    congr 1
    exact Prod.ext i1 (Prod.ext i2 i3)
theorem keyD_inj {W W' : List Int} {N N' : List (Int × Int × Int)} (h1 : W64 W) (h2 : W64 W') (h3 : W64t N) (h4 : W64t N') (l1 : W.length ≤ 1000000) (l2 : W'.length ≤ 1000000) (l3 : N.length ≤ 1000000) (l4 : N'.length ≤ 1000000) (h : keyD W N = keyD W' N') : W = W' ∧ N = N' := by
  unfold keyD at h
  obtain ⟨e1, h⟩ := vb_split (by omega) (by omega) h
  obtain ⟨e2, h⟩ := vbs_split h1 h2 e1 h
  obtain ⟨e3, h⟩ := vb_split (zz_lt (by omega)) (zz_lt (by omega)) h
  have e4 := zz_inj e3
  exact ⟨e2, triB_inj h3 h4 (by omega) h⟩
theorem keyD_bytes (W : List Int) (N : List (Int × Int × Int)) : ∀ c ∈ keyD W N, c < 256 := by
  have hs : ∀ l : List Int, ∀ c ∈ vbs l, c < 256 := fun l c hc => by
    obtain ⟨n, _, h⟩ := List.mem_flatMap.1 hc
    exact vb_bytes _ c h
  intro c hc
  unfold keyD at hc
  rcases List.mem_append.1 hc with h | h
  · exact vb_bytes _ c h
  · rcases List.mem_append.1 h with h | h
    · exact hs _ c h
    · rcases List.mem_append.1 h with h | h
      · exact vb_bytes _ c h
      · obtain ⟨t, _, h⟩ := List.mem_flatMap.1 h
        rcases List.mem_append.1 h with h | h
        · exact vb_bytes _ c h
        · exact hs _ c h
theorem keyB_inj {W W' : List Int} {N N' : List (Int × Int × Int)} (h : keyB W N = keyB W' N') : keyD W N = keyD W' N' := by
  have e := congrArg (fun s : ByteArray => s.data.toList.map UInt8.toNat) h
  unfold keyB at e
  simp only [strOfNums_data] at e
  have key : ∀ l : List Nat, (∀ c ∈ l, c < 256) → ((l.map fun c : Nat => (c : Int)).map fun x => UInt8.ofNat x.toNat).map UInt8.toNat = l := fun l hl => by
    rw [List.map_map, List.map_map]
    conv => rhs; rw [← List.map_id l]
    apply List.map_congr_left
    intro c hc
    have := hl c hc
    simp
    omega
  rw [key _ (keyD_bytes W N), key _ (keyD_bytes W' N')] at e
  exact e

set_option linter.unusedSimpArgs false in
set_option maxHeartbeats 4000000 in
set_option maxRecDepth 100000 in
theorem key_any (F A B : Option Addr) (f fc c d : Nat) (W : List Int) (N : List (Int × Int × Int)) (w : World) (hA : SI w A W) (hB : ST w B N) (hW : W64 W) (hN : W64t N) (l1 : W.length ≤ 10000) (l2 : N.length ≤ 20000) :
    Calls Try.prog 34 #[.agg #[.slice F f fc, .slice A W.length c, .slice B N.length d]] w fun e w' => e = .returned (.string (keyB W N)) ∧ Below w.heap.size w w' := by
  have hbk := (Bk.new w 74 #[.slice F f fc, .slice A W.length c, .slice B N.length d]).alloc (.cells #[.slice none 0 0] 103)
  have hbw := Bk.new' (w.alloc (.cells #[.slice F f fc, .slice A W.length c, .slice B N.length d] 74)) 103 #[.slice none 0 0] (g := w.heap.size + 1) (by simp)
  have hb0 : Below w.heap.size w ((w.alloc (.cells #[.slice F f fc, .slice A W.length c, .slice B N.length d] 74)).alloc (.cells #[.slice none 0 0] 103)) := ((Below.refl _ _).alloc (Nat.le_refl _) _).alloc (by simp) _
  have HA := Lib.hid hA
  have HB := Lib.hid hB
  clear hA hB
  go_enter Try.func34, Try.ntmps34
  go_wp2_with fail
  generalize (w.alloc (.cells #[.slice F f fc, .slice A W.length c, .slice B N.length d] 74)).alloc (.cells #[.slice none 0 0] 103) = W0 at *
  have HW0 := Lib.hid (⟨hbw, World.ownsRow_nil _ _ _ _, by omega⟩ : WR W0 w.heap.size (w.heap.size + 1) (.slice none 0 0) [])
  refine (wInts_any w.heap.size (w.heap.size + 1) (.slice none 0 0) [] A c W W0 (fun X _ hb => HA.out.below (hb0.trans hb)) hW l1 HW0.out (by simp)).mono ?_
  rintro e w1 ⟨v1, rfl, hW1, hb1, ht1⟩
  have HW1 := Lib.hid hW1
  have Hb1 := Lib.hid (hb0.trans hb1)
  have Hbk := Lib.hid (ht1 _ _ _ (by decide) (by decide) hbk)
  have hc2 : w1.cell? ⟨w.heap.size, 2, none⟩ = some (.slice B N.length d) := Hbk.out.cell 2
  have hvl := vbs_len W hW
  have hv1 := vb_ten (n := W.length) (by omega)
  have hv2 := vb_ten (zz_lt (n := N.length) (by omega))
  clear hbk hbw hb0 HW0 hW1 hb1 ht1
  go_wp2_with fail
  refine (wInt_any w.heap.size (w.heap.size + 1) v1 ([] ++ vb W.length ++ vbs W) N.length w1 (by omega) HW1.out (by simp only [List.length_append, List.length_nil]; omega)).mono ?_
  rintro e w2 ⟨v2, rfl, hW2, hb2, ht2⟩
  have HW2 := Lib.hid hW2
  have Hb2 := Lib.hid (Hb1.out.trans hb2)
  have hc3 : w2.cell? ⟨w.heap.size, 2, none⟩ = some (.slice B N.length d) := (ht2 _ _ _ (by decide) (by decide) Hbk.out).cell 2
  obtain ⟨D0, hD0⟩ : ∃ D0, Hid ([] ++ vb W.length ++ vbs W ++ vb (zz N.length) = D0) := ⟨_, Lib.hid rfl⟩
  have hDl : D0.length ≤ 100020 := by rw [← hD0.out]; simp only [List.length_append, List.length_nil]; omega
  rw [hD0.out] at HW2
  clear hc2 HW1 Hb1 Hbk hW2 hb2 ht2 hvl hv1 hv2
  go_wp2_with fail
  clear hc3
  go_loopw [19] (fun i wr => ∃ (k : Nat) (v' : Value), k ≤ N.length ∧ i = .int .i64 k ∧ WR wr w.heap.size (w.heap.size + 1) v' (D0 ++ triB (N.take k)) ∧ Below w.heap.size w wr) (fun i _ => N.length - (intOf i).toNat)
  case atStart => exact ⟨0, v2, by omega, rfl, by simpa [triB] using HW2.out, Hb2.out⟩
  case round =>
    clear HW2 Hb2
    obtain ⟨k, v', hk, rfl, hR, hb⟩ := hrel
    have HR := Lib.hid hR
    have Hb := Lib.hid hb
    clear hR
    by_cases hlt : k < N.length
    · obtain ⟨b1, o1, x, y, z, rfl, k0, k1, k2, ht⟩ := (HB.out.below hb).get (k := k) hlt
      have hk0 : (0 : Int) ≤ (k : Int) := by omega
      have htk := Lib.hid (take_snoc' ht.out)
      have hx64 := hN _ (List.mem_of_getElem? ht.out)
      have hvl := triB_len (N.take k) (fun z hz => hN z (List.mem_of_mem_take hz))
      have htl : (N.take k).length ≤ k := by simp; omega
      have hnb := Bk.new wr 52 #[.int .i64 x, .int .i64 y, .int .i64 z]
      have Hnb := Lib.hid hnb
      have HR' := Lib.hid (⟨HR.out.hp.alloc _, HR.out.own.alloc _, HR.out.bp⟩ : WR (wr.alloc (.cells #[.int .i64 x, .int .i64 y, .int .i64 z] 52)) w.heap.size (w.heap.size + 1) v' (D0 ++ triB (N.take k)))
      have Hb' := Lib.hid (hb.alloc hb.size (.cells #[.int .i64 x, .int .i64 y, .int .i64 z] 52))
      clear hb hnb ht
      go_wp2_with fail
      refine (wInts_any w.heap.size (w.heap.size + 1) v' (D0 ++ triB (N.take k)) (some ⟨wr.heap.size, 0, none⟩) 3 [x, y, z] _ (fun X ht _ => sl_bk (ht _ _ _ (by decide) (by decide) Hnb.out)) hx64 (by simp) HR'.out (by simp only [List.length_append]; omega)).mono ?_
      rintro e w3 ⟨v3, rfl, hW3, hb3, _⟩
      have HW3 := Lib.hid hW3
      have Hb3 := Lib.hid (Hb'.out.trans hb3)
      clear hW3 hb3
      go_wp2_with fail
      go_roundw
      case rel => exact ⟨k + 1, v3, by omega, by go_num, by rw [htk.out, triB_snoc, ← List.append_assoc, ← List.append_assoc]; exact HW3.out, Hb3.out⟩
      case measure => simp [intOf]; omega
    · obtain rfl : k = N.length := by omega
      have hvl := triB_len N hN
      rw [List.take_length] at HR
      have hDe : Hid (D0 ++ triB N = keyD W N) := by
        show _ = _
        rw [← hD0.out]
        unfold keyD
        simp [List.append_assoc]
      have hDn : (keyD W N).length ≤ 1000000 := by rw [← hDe.out, List.length_append]; omega
      have hDp : 0 < (keyD W N).length := by
        unfold keyD
        rw [List.length_append]
        have : 1 ≤ (vb W.length).length := by rw [vb]; split <;> simp
        omega
      rw [hDe.out] at HR
      have hKb : Hid (strOfNums ((keyD W N).map fun c : Nat => (c : Int)) = keyB W N) := Lib.hid rfl
      clear hDe hD0 hDl hvl hlt hk
      obtain ⟨KB, hKB⟩ : ∃ KB, Hid (keyB W N = KB) := ⟨_, Lib.hid rfl⟩
      have hKb : Hid (strOfNums ((keyD W N).map fun c : Nat => (c : Int)) = KB) := Lib.hid (hKb.out.trans hKB.out)
      generalize keyD W N = KD at *
      go_wp2_with fail
      refine (wDone_any w.heap.size (w.heap.size + 1) v' KD wr HR.out (by omega)).mono ?_
      rintro e w4 ⟨v4, rfl, hown, hb4⟩
      obtain ⟨A4, c4, rfl⟩ := own_slice hown
      obtain ⟨g4, c4', hv, hg4, hgl⟩ := hown.form hDp
      injection hv with hv1 hv2 hv3
      subst hv1 hv3
      have hsl := SL.of_own hown
      have hcv := run_convert_bytes_arg (P := Try.prog) w4 101 5 Try.underlying101 Try.underlying5 g4 0 KD.length c4 (KD.map fun c : Nat => (c : Int)) (by simp) (fun i hi => by
        have hx : KD[i]? = some KD[i] := List.getElem?_eq_getElem hi
        obtain ⟨b, o, e, _, hc⟩ := hsl i (.int .u8 (KD[i] : Nat)) (by simp [byV, hx])
        injection e with e
        injection e with e1 e2
        subst e1 e2
        rw [hc]
        simp [List.getD, hx]) 9 Try.underlying9
      rw [hKb.out] at hcv
      have Hb4 := Lib.hid (Hb.out.trans (hb4.mono Hb.out.size))
      clear hown hgl hsl hb4
      go_wp2_with fail
      go_ret
      exact ⟨by go_simp; exact hKB.out.symm, Hb4.out⟩
end Go.Proofs.Ytmdgdphhedgojaa
