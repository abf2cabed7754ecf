import Derived.Test.YtmdgdphhedgojaaR28
namespace Go.Proofs.Ytmdgdphhedgojaa
open Go.RowKit Go.Maps

/-- The threshold before number k, or 0. -/
def prevT (ls : List Int) (k : Nat) : Int := if k = 0 then 0 else ls.getD (k - 1) 0

theorem prevT_succ (ls : List Int) (k : Nat) : prevT ls (k + 1) = ls.getD k 0 := by simp [prevT]

theorem thr_one {ls : List Int} (h : thrB ls = true) : thrE ls = 1 := by rw [thrE, if_pos h]

theorem sorted_le {ls : List Int} (h : sorted ls) : ∀ (d k : Nat), k + d < ls.length → ls.getD k 0 ≤ ls.getD (k + d) 0
  | 0, _, _ => Int.le_refl _
  | d + 1, k, hk => by
    have h1 := sorted_le h d k (by omega)
    have h2 := h (k + d) (by omega)
    have e : k + (d + 1) = k + d + 1 := by omega
    rw [e]
    omega

theorem thr_bad1 {ls : List Int} {k : Nat} (hk : k < ls.length) (h : ls.getD k 0 < prevT ls k) : thrE ls = 1 := by
  refine thr_one ?_
  simp only [thrB, Bool.or_eq_true, decide_eq_true_eq, Bool.not_eq_true', decide_eq_false_iff_not]
  cases k with
  | zero => simp [prevT] at h; exact .inl (.inl (.inr (by simpa using h)))
  | succ k =>
    rw [prevT_succ] at h
    refine .inl (.inr fun hs => ?_)
    have := hs k hk
    omega

theorem thr_bad2 {ls : List Int} {k : Nat} (hk : k < ls.length) (h : 1152921504606846976 < ls.getD k 0) : thrE ls = 1 := by
  refine thr_one ?_
  simp only [thrB, Bool.or_eq_true, decide_eq_true_eq, Bool.not_eq_true', decide_eq_false_iff_not]
  by_cases hs : sorted ls
  · have := sorted_le hs (ls.length - 1 - k) k (by omega)
    rw [show k + (ls.length - 1 - k) = ls.length - 1 by omega] at this
    exact .inr (by omega)
  · exact .inl (.inr hs)

theorem thr_ok {ls : List Int} (h1 : 1 ≤ ls.length) (h2 : ls.length ≤ 24) (h : ∀ j, j < ls.length → prevT ls j ≤ ls.getD j 0 ∧ ls.getD j 0 ≤ 1152921504606846976) : thrE ls = 0 := by
  unfold thrE
  rw [if_neg]
  simp only [thrB, Bool.or_eq_true, decide_eq_true_eq, not_or, Bool.not_eq_true', decide_eq_false_iff_not, Decidable.not_not]
  have g0 := h 0 (by omega)
  have g1 := h (ls.length - 1) (by omega)
  simp only [prevT, if_true] at g0
  refine ⟨⟨⟨⟨by omega, by omega⟩, by omega⟩, fun j hj => ?_⟩, by omega⟩
  have := h (j + 1) hj
  rw [prevT_succ] at this
  exact this.1

set_option maxHeartbeats 1000000 in
theorem refThr_any (A : Option Addr) (c : Nat) (ls : List Int) (w : World) (hA : SI w A ls) (hl : ls.length ≤ 4611686018427387904) :
    Calls Try.prog 45 #[.slice A ls.length c] w fun e w' => e = .returned (.int .i64 (thrE ls)) ∧ w = w' := by
  by_cases h1 : ls.length < 1
  · have hs : Hid (thrE ls = 1) := thr_one (by simp only [thrB, h1]; simp)
    go_enter Try.func45, Try.ntmps45
    go_wp2
    go_ret
    exact ⟨ret_int hs.out.symm, rfl⟩
  by_cases h2 : 24 < ls.length
  · have hs : Hid (thrE ls = 1) := thr_one (by simp only [thrB, h2]; simp)
    go_enter Try.func45, Try.ntmps45
    go_wp2
    go_ret
    exact ⟨ret_int hs.out.symm, rfl⟩
  go_enter Try.func45, Try.ntmps45
  go_wp2
  go_loop [3, 4] (fun last i => ∃ (k : Nat) (p : Int), k ≤ ls.length ∧ i = .int .i64 k ∧ last = .int .i64 p ∧ Hid (prevT ls k = p) ∧ Hid (∀ j, j < k → prevT ls j ≤ ls.getD j 0 ∧ ls.getD j 0 ≤ 1152921504606846976)) (fun _ i => ls.length - (intOf i).toNat)
  case atStart => exact ⟨0, 0, by omega, rfl, rfl, rfl, (fun j hj => by omega)⟩
  case round =>
    obtain ⟨k, p, hk, rfl, rfl, hp, hall⟩ := hrel
    by_cases hlt : k < ls.length
    · obtain ⟨b1, o1, x, rfl, hc, hx⟩ := hA.get hlt
      by_cases q1 : x < p
      · have hs := Lib.hid (thr_bad1 hlt (by rw [getD_of hx.out, hp.out]; exact q1))
        go_wp2
        go_ret
        exact ⟨ret_int hs.out.symm, rfl⟩
      by_cases q2 : 1152921504606846976 < x
      · have hs := Lib.hid (thr_bad2 hlt (by rw [getD_of hx.out]; exact q2))
        go_wp2
        go_ret
        exact ⟨ret_int hs.out.symm, rfl⟩
      have hn : Hid (∀ j, j < k + 1 → prevT ls j ≤ ls.getD j 0 ∧ ls.getD j 0 ≤ 1152921504606846976) := fun j hj => by
        rcases Nat.lt_or_ge j k with h | h
        · exact hall.out j h
        · obtain rfl : j = k := by omega
          rw [getD_of hx.out, hp.out]
          omega
      go_wp2
      go_round
      case rel => exact ⟨k + 1, x, by omega, by go_num, rfl, by show _ = _; rw [prevT_succ, getD_of hx.out], hn⟩
      case measure => simp [intOf]; omega
    · obtain rfl : k = ls.length := by omega
      have hs := Lib.hid (thr_ok (by omega) (by omega) hall.out)
      go_wp2
      go_ret
      exact ⟨ret_int hs.out.symm, rfl⟩

theorem ixSt_dom (ofs : List Int) (x : Int) : ∀ k, (ixSt ofs k).1 x ≠ none → ∃ j, j < k ∧ ofs.getD j 0 = x
  | 0, h => (h rfl).elim
  | k + 1, h => by
    rw [ixSt] at h
    split at h
    · obtain ⟨j, h1, h2⟩ := ixSt_dom ofs x k h
      exact ⟨j, by omega, h2⟩
    · by_cases hx : x = ofs.getD k 0
      · exact ⟨k, by omega, hx.symm⟩
      · have : (ixSt ofs k).1 x ≠ none := by
          unfold setF at h
          dsimp only at h
          rw [if_neg hx] at h
          exact h
        obtain ⟨j, h1, h2⟩ := ixSt_dom ofs x k this
        exact ⟨j, by omega, h2⟩

/-- The reference's list is the program's. -/
theorem ixSt_root {of : List Int} (hC : CN of) {k : Nat} (hk : k < of.length) (h : of.getD k 0 = k) : (ixSt of (k + 1)).2.1 = (ixSt of k).2.1 + 1 ∧ (ixSt of (k + 1)).2.2 = (ixSt of k).2.2 ++ [((ixSt of k).2.1 : Int)] := by
  have hn : (ixSt of k).1 (of.getD k 0) = none := by
    cases hc : (ixSt of k).1 (of.getD k 0) with
    | none => rfl
    | some v =>
      obtain ⟨j, h1, h2⟩ := ixSt_dom of (of.getD k 0) k (by rw [hc]; simp)
      obtain ⟨r, r1, r2, _⟩ := hC j (by omega)
      omega
  rw [ixSt, if_neg (by rw [hn]; simp)]
  exact ⟨rfl, rfl⟩

theorem ixSt_leaf {of : List Int} (hC : CN of) {k : Nat} (hk : k < of.length) (h : of.getD k 0 ≠ k) : ∃ (r : Nat) (hr : r < (ixSt of k).2.2.length), of.getD k 0 = r ∧ r < k ∧ (ixSt of (k + 1)).2.1 = (ixSt of k).2.1 ∧ (ixSt of (k + 1)).2.2 = (ixSt of k).2.2 ++ [(ixSt of k).2.2[r]] := by
  obtain ⟨r, r1, r2, r3⟩ := hC k hk
  have hrk : r < k := by omega
  have hL := (ixSt_len of k).1
  have hv := (ixSt_inv of k (by omega)).1 r hrk
  rw [r3] at hv
  refine ⟨r, by omega, r1, hrk, ?_⟩
  rw [ixSt, r1, if_pos (by rw [hv]; simp), hv]
  exact ⟨rfl, rfl⟩

set_option maxHeartbeats 1000000 in
theorem refIndices_any (A : Option Addr) (c : Nat) (of : List Int) (w : World) (hA : SI w A of) (hC : CN of) (hl : of.length ≤ 4096) :
    Calls Try.prog 48 #[.slice A of.length c] w fun e w' => ∃ v, e = .returned v ∧ w'.ownsRow w.heap.size 3 1 v of.length ((ix of).map (Value.int .i64)) ∧ Below w.heap.size w w' := by
  go_enter Try.func48, Try.ntmps48
  go_wp2
  go_loopw [3, 4, 5] (fun v m i wr => ∃ (k n : Nat) (L : List Int), k ≤ of.length ∧ i = .int .i64 k ∧ m = .int .i64 n ∧ n ≤ k ∧ Hid ((ixSt of k).2.1 = n) ∧ Hid ((ixSt of k).2.2 = L) ∧ Hid (L.length = k) ∧ wr.ownsRow w.heap.size 3 1 v k (L.map (Value.int .i64)) ∧ Below w.heap.size w wr) (fun _ _ i _ => of.length - (intOf i).toNat)
  case atStart => exact ⟨0, 0, [], by omega, rfl, rfl, by omega, rfl, rfl, rfl, World.ownsRow_nil _ _ _ _, Below.refl _ _⟩
  case round =>
    obtain ⟨k, n, L, hk, rfl, rfl, hn, hm, hLe, hLl, hown, hb⟩ := hrel
    have hbs := hb.size
    by_cases hlt : k < of.length
    · obtain ⟨b1, o1, x, rfl, hc, hx⟩ := (hA.below hb).get hlt
      have hb0 := hb
      by_cases hr : x = k
      · have hs := ixSt_root hC hlt (by rw [getD_of hx.out, hr])
        rw [hm.out, hLe.out] at hs
        have Hs := Lib.hid hs
        have hxb : (x == (k : Int)) = true := by simpa using hr
        clear hs hr
        go_wp2_with (at_builtin; refine wpList_app2 (w := wr) rfl _ _ rfl elt_int hown hbs rfl rfl (by simp) rfl rfl (by omega) ?_; intro v1 w1 hown1 hg1 hz1)
        go_roundw
        case rel => exact ⟨k + 1, n + 1, L ++ [(n : Int)], by omega, by go_num, by go_num, by omega, Hs.out.1, Hs.out.2, by show _ = _; rw [List.length_append, hLl.out]; rfl, by rw [List.map_append]; exact hown1, hb0.grown hg1 hbs (fun k hk => (hown.lt k hk).1)⟩
        case measure => simp [intOf]; omega
      · obtain ⟨r, hrL, hr1, hr2, hs1, hs2⟩ := ixSt_leaf hC hlt (by rw [getD_of hx.out]; exact hr)
        rw [getD_of hx.out] at hr1
        have hxb : (x == (k : Int)) = false := by simpa using hr
        have hLr : r < L.length := by rw [hLl.out]; exact hr2
        have e3 : (ixSt of (k + 1)).2.2 = L ++ [L[r]] := by rw [hs2]; simp only [hLe.out]
        rw [hm.out] at hs1
        obtain ⟨A2, c2, rfl⟩ := own_slice hown
        obtain ⟨b2, o2, y, rfl, hcy, hy⟩ := SI.get (SL.of_own hown : SI wr A2 L) hLr
        have hye : L[r] = y := by
          have := hy.out
          rw [List.getElem?_eq_getElem hLr] at this
          injection this
        rw [hye] at e3
        have Hs := Lib.hid (And.intro hs1 e3)
        subst hr1
        have j0 : (0 : Int) ≤ (r : Int) := by omega
        have j1 : r < k := hr2
        clear hs1 hs2 e3 hye hr hrL hLr
        go_wp2_with (at_builtin; refine wpList_app2 (w := wr) rfl _ _ rfl elt_int hown hbs rfl rfl (by simp) rfl rfl (by omega) ?_; intro v1 w1 hown1 hg1 hz1)
        go_roundw
        case rel => exact ⟨k + 1, n, L ++ [y], by omega, by go_num, rfl, by omega, Hs.out.1, Hs.out.2, by show _ = _; rw [List.length_append, hLl.out]; rfl, by rw [List.map_append]; exact hown1, hb0.grown hg1 hbs (fun k hk => (hown.lt k hk).1)⟩
        case measure => simp [intOf]; omega
    · obtain rfl : k = of.length := by omega
      go_wp2
      go_ret
      exact ⟨_, rfl, by rw [ix, hLe.out]; exact hown, hb⟩
end Go.Proofs.Ytmdgdphhedgojaa
