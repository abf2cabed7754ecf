import Derived.Test.YtaegfljpodhnhaaN05
namespace Go.Proofs.Ytaegfljpodhnhaa
open Go.RowKit Go.Maps

theorem thr_fine {zs : List Int} {m : Int} (n1 : 1 ≤ zs.length) (n2 : zs.length ≤ 24) (hb : ∀ z ∈ zs, 0 ≤ z ∧ z ≤ m) (hs : sorted zs) (hm : m ≤ 1152921504606846976) : thrE zs = 0 := by
  have g : ∀ k, k < zs.length → 0 ≤ zs.getD k 0 ∧ zs.getD k 0 ≤ m := fun k hk => by
    have := hb zs[k] (List.getElem_mem hk)
    simpa [List.getD, hk] using this
  have g0 := g 0 (by omega)
  have g1 := g (zs.length - 1) (by omega)
  unfold thrE
  rw [if_neg]
  simp only [thrB, Bool.or_eq_true, decide_eq_true_eq, not_or, Bool.not_eq_true', decide_eq_false_iff_not, Decidable.not_not]
  exact ⟨⟨⟨⟨by omega, by omega⟩, by omega⟩, hs⟩, by omega⟩

theorem scale_idle {ws : List Int} {ns : List (Int × Int × Int)} {of : List Int} {m : Int} (h : (next ws ns of m).2.2.1 = false) : scale ws ns of m = (of, []) := by
  unfold scale
  cases of.length
  · rfl
  · rw [scaleF, h]; rfl

/-- Thresholds with one of them twice. -/
def twice (ls : List Int) (n : Nat) : List Int := ls.take (n + 1) ++ ls.drop n
section
variable {ls : List Int} {n : Nat}
theorem twice_len (h : n < ls.length) : (twice ls n).length = ls.length + 1 := by simp [twice]; omega
theorem twice_lo {i : Nat} (hn : n < ls.length) (h : i ≤ n) : (twice ls n)[i]? = ls[i]? := by
  rw [twice, List.getElem?_append_left (by rw [List.length_take]; omega), List.getElem?_take_of_lt (by omega)]
theorem twice_hi {i : Nat} (hn : n < ls.length) (h : n < i) : (twice ls n)[i]? = ls[i - 1]? := by
  rw [twice, List.getElem?_append_right (by rw [List.length_take]; omega), List.length_take, List.getElem?_drop]
  congr 1
  omega
theorem twice_get {i : Nat} (hn : n < ls.length) : (twice ls n)[i]? = ls[if i ≤ n then i else i - 1]? := by
  split
  · exact twice_lo hn ‹_›
  · exact twice_hi hn (by omega)
theorem twice_mem {z : Int} (hz : z ∈ twice ls n) : z ∈ ls := by
  rcases List.mem_append.1 hz with h | h
  · exact List.mem_of_mem_take h
  · exact List.mem_of_mem_drop h
theorem twice_sorted (hn : n < ls.length) (h : sorted ls) : sorted (twice ls n) := fun j hj => by
  rw [twice_len hn] at hj
  have h1 := h j
  have h2 := h (j - 1)
  simp only [List.getD] at h1 h2 ⊢
  rcases Nat.lt_trichotomy j n with hjn | hjn | hjn
  · rw [twice_lo hn (by omega), twice_lo hn (by omega)]
    exact h1 (by omega)
  · rw [twice_lo hn (by omega), twice_hi hn (by omega), Nat.add_sub_cancel]
    exact Int.le_refl _
  · rw [twice_hi hn (by omega), twice_hi hn (by omega), Nat.add_sub_cancel]
    have := h2 (by omega)
    rw [show j - 1 + 1 = j by omega] at this
    exact this
theorem twice_take_lo {s : Nat} (hn : n < ls.length) (h : s ≤ n) : (twice ls n).take (s + 1) = ls.take (s + 1) := by
  rw [twice, List.take_append_of_le_length (by rw [List.length_take]; omega), List.take_take]
  congr 1
  omega
theorem twice_take_hi {s : Nat} (hn : n < ls.length) (h : n < s) : (twice ls n).take (s + 1) = ls.take (n + 1) ++ ls[n] :: (ls.drop (n + 1)).take (s - (n + 1)) := by
  rw [twice, List.take_append, List.length_take, List.take_of_length_le (by rw [List.length_take]; omega), show s + 1 - min (n + 1) ls.length = (s - (n + 1)) + 1 by omega, List.drop_eq_getElem_cons hn, List.take_succ_cons]
end

theorem after_app {ws : List Int} {ns : List (Int × Int × Int)} {of a b : List Int} : after ws ns of (a ++ b) = after ws ns (after ws ns of a) b := by simp [after]

/-- The place of a scale without the one that is twice. -/
def unt (n s : Nat) : Nat := if s ≤ n then s else s - 1

section
variable {ws : List Int} {ns : List (Int × Int × Int)} {ls : List Int} {n : Nat}
theorem done_at (hn : n < ls.length) : (next ws ns (ofAt ws ns ls n) ls[n]).2.2.1 = false := by
  rw [ofAt_eq (List.getElem?_eq_getElem hn)]
  exact scale_done
theorem ofAt_twice (hn : n < ls.length) (s : Nat) : ofAt ws ns (twice ls n) s = ofAt ws ns ls (unt n s) := by
  unfold unt
  by_cases h : s ≤ n
  · rw [if_pos h, ofAt, ofAt, twice_take_lo hn h]
  · rw [if_neg h, ofAt, twice_take_hi hn (by omega), after_app]
    have e : after ws ns (alone ws.length) (ls.take (n + 1)) = ofAt ws ns ls n := rfl
    rw [e]
    have e2 : after ws ns (ofAt ws ns ls n) (ls[n] :: (ls.drop (n + 1)).take (s - (n + 1))) = after ws ns (scale ws ns (ofAt ws ns ls n) ls[n]).1 ((ls.drop (n + 1)).take (s - (n + 1))) := rfl
    rw [e2, scale_idle (done_at hn), ← e, ← after_app, ← List.take_add]
    unfold ofAt
    congr 2
    omega
theorem steps_twice (hn : n < ls.length) : steps ws ns (twice ls n) (n + 1) = [] := by
  have ht : (twice ls n)[n + 1]? = some ls[n] := by rw [twice_hi hn (by omega), Nat.add_sub_cancel]; exact List.getElem?_eq_getElem hn
  have e : after ws ns (alone ws.length) ((twice ls n).take (n + 1)) = ofAt ws ns ls n := by rw [twice_take_lo hn (Nat.le_refl _)]; rfl
  rw [steps, List.getD, chain_at' ht, e, scale_idle (done_at hn)]
  rfl

/-- The graph of groups is a graph. -/
theorem group_valid (hG : GoodG ws ns 11 6) {l : List Int} (hl : l.length = ws.length) : validE (qW ws l) (qN ns l) = 0 := by
  have n2 := hG.n2
  have hov := over_made hG hl
  have hg := gk_le l l.length
  have hnr := nr_len ns l (gk l l.length) (gk l l.length)
  have hg2 := Nat.mul_le_mul (show gk l l.length ≤ 16 by omega) (show gk l l.length ≤ 16 by omega)
  unfold overB at hov
  rw [Bool.or_eq_false_iff, List.any_eq_false, List.any_eq_false] at hov
  have hN : (qN ns l).length ≤ 256 := by rw [qN]; omega
  refine validE_ok (by rw [qW, wTo_len]; omega) ?_ fun k hk => ?_
  · rw [List.any_eq_false]
    intro z hz
    have h1 := hov.1 z hz
    have h0 : 0 ≤ z := by
      unfold qW wTo at hz
      obtain ⟨i, _, rfl⟩ := List.mem_map.1 hz
      exact (weightTo_bd (fun z hz => ⟨(hG.w z hz).1, by have := (hG.w z hz).2; omega⟩) _).1
    simp at h1
    simp [badW]
    omega
  · have hx : (qN ns l)[k]? = some (qN ns l)[k] := List.getElem?_eq_getElem hk
    have hm : (qN ns l)[k] ∈ qN ns l := List.getElem_mem hk
    have h1 := hov.2 _ hm
    obtain ⟨i, j, a1, a2, a3, a4, e⟩ := (nr_mem _ (Nat.le_refl _)).1 hm
    have hs : 0 < k → tLt ((qN ns l).getD (k - 1) (0, 0, 0)) (qN ns l)[k] := fun h0 => by
      have hp := List.pairwise_iff_getElem.1 (nr_sorted (ns := ns) (l := l) (gk l l.length) (Nat.le_refl _)) (k - 1) k (by unfold qN at hk; omega) (by unfold qN at hk; exact hk) (by omega)
      have e2 : (qN ns l).getD (k - 1) (0, 0, 0) = (qN ns l)[k - 1] := by simp [List.getD, show k - 1 < (qN ns l).length by omega]
      rw [e2]
      exact hp
    unfold tLt at hs
    unfold badAt
    rw [tri_getD hx]
    rw [e] at h1 hs ⊢
    simp only [decide_eq_true_eq] at h1
    simp only [decide_eq_false_iff_not, qW, wTo_len]
    simp only at hs
    omega

/-- What the law RankAgain asks. -/
theorem again_at (hG : GoodG ws ns 11 6) (hT : GoodT ls 45) (hn : n < ls.length) :
    ofE ws ns ls = 0 ∧ (ofL ws ns ls).length = ls.length ∧ ofE ws ns (twice ls n) = 0 ∧ (ofL ws ns (twice ls n)).length = (twice ls n).length ∧ stE ws ns (twice ls n) ((n : Int) + 1) = 0 ∧ stL ws ns (twice ls n) ((n : Int) + 1) = [] ∧
    (∀ s, s < (twice ls n).length → (ofL ws ns (twice ls n))[s]? = (ofL ws ns ls)[unt n s]?) := by
  have hE : ofE ws ns ls = 0 := orI_two.2 ⟨hG.ok (by omega) (by omega), hT.ok (by omega)⟩
  have n1 := hT.n1
  have n2 := hT.n2
  have hl := twice_len hn
  have hE2 : ofE ws ns (twice ls n) = 0 := orI_two.2 ⟨hG.ok (by omega) (by omega), thr_fine (m := 45) (by omega) (by omega) (fun z hz => hT.b z (twice_mem hz)) (twice_sorted hn hT.s) (by omega)⟩
  have hS : stE ws ns (twice ls n) ((n : Int) + 1) = 0 := by rw [stE, if_neg (by simp [hE2]), if_neg (by omega)]
  have hL : ofL ws ns ls = lists ws ns ls := if_pos hE
  have hL2 : ofL ws ns (twice ls n) = lists ws ns (twice ls n) := if_pos hE2
  refine ⟨hE, by rw [hL, lists_len], hE2, by rw [hL2, lists_len], hS, ?_, fun s hs => ?_⟩
  · rw [stL, if_pos hS, show ((n : Int) + 1).toNat = n + 1 by omega, steps_twice hn]
  · rw [hL, hL2, lists_at hs, ofAt_twice hn, lists_at]
    unfold unt
    split <;> omega

theorem again_groups (hG : GoodG ws ns 11 6) (hT : GoodT ls 45) (hn : n < ls.length) (h0 : 0 < n) :
    ∃ l l2 x, (ofL ws ns ls)[n - 1]? = some l ∧ (ofL ws ns ls)[n]? = some l2 ∧ l.length = ws.length ∧ l2.length = ws.length ∧ atE ws ns (ofL ws ns ls) ((n : Int) - 1) = 0 ∧ atW ws ns (ofL ws ns ls) ((n : Int) - 1) = qW ws l ∧ atN ws ns (ofL ws ns ls) ((n : Int) - 1) = qN ns l ∧ (qW ws l).length ≤ 16 ∧
      ofE (qW ws l) (qN ns l) [ls.getD n 0] = 0 ∧ ofL (qW ws l) (qN ns l) [ls.getD n 0] = [x] ∧ ∀ a, a < ws.length → ∃ u : Nat, l[a]? = some (u : Int) ∧ u < x.length ∧ x[u]? = l2[a]? := by
  have hE : ofE ws ns ls = 0 := orI_two.2 ⟨hG.ok (by omega) (by omega), hT.ok (by omega)⟩
  have hL : ofL ws ns ls = lists ws ns ls := if_pos hE
  obtain ⟨l, e1, hll, _, _, hat, hW, hNn, hq, _⟩ := nest_at hG hT (show n - 1 < ls.length by omega)
  rw [show ((n - 1 : Nat) : Int) = (n : Int) - 1 by omega] at hat hW hNn
  obtain ⟨hC, hCl⟩ := ofAt_cn ws ns ls (n - 1)
  obtain ⟨hC2, hCl2⟩ := ofAt_cn ws ns ls n
  have hl : l = ix (ofAt ws ns ls (n - 1)) := by
    rw [hL, lists_at (by omega)] at e1
    injection e1 with e1
    exact e1.symm
  have hg : GoodL l := by rw [hl]; exact good_ix _
  have hx : ls[n]? = some ls[n] := List.getElem?_eq_getElem hn
  have hm : ls.getD n 0 = ls[n] := by rw [List.getD, hx]; rfl
  have hmb := hT.b ls[n] (List.getElem_mem hn)
  have hE2 : ofE (qW ws l) (qN ns l) [ls.getD n 0] = 0 := orI_two.2 ⟨group_valid hG hll, thr_fine (m := 45) (by simp) (by simp) (fun z hz => by
    rw [hm] at hz
    simp only [List.mem_singleton] at hz
    rw [hz]; exact hmb) (fun j hj => by simp at hj) (by omega)⟩
  have hT0 := two_alone hg
  have hNk : NOK l.length ns := by rw [hll]; exact hG.nok (by omega)
  obtain ⟨hs1, hs2⟩ := scale_two (m := ls[n]) (ws := ws) hT0 hNk
  have hlift : lift l (alone (gk l l.length)) = ofAt ws ns ls (n - 1) := by rw [lift_alone hg, hl, named_ix hC]
  rw [hlift] at hs1
  have hof : ofAt ws ns ls n = (scale ws ns (ofAt ws ns ls (n - 1)) ls[n]).1 := by
    rw [ofAt_eq hx]
    unfold ofAt
    rw [show n - 1 + 1 = n by omega]
  rw [← hof] at hs1
  have hlen : (ix (scale (qW ws l) (qN ns l) (alone (gk l l.length)) ls[n]).1).length = gk l l.length := by rw [ix_len, hs2.n]
  refine ⟨l, ix (ofAt ws ns ls n), ix (scale (qW ws l) (qN ns l) (alone (gk l l.length)) ls[n]).1, e1, by rw [hL, lists_at hn], hll, by rw [ix_len, hCl2], hat, hW, hNn, hq, hE2, ?_, fun a ha => ?_⟩
  · rw [ofL, if_pos hE2, hm, lists, qW, wTo_len]
    rfl
  · obtain ⟨u, hu, hul⟩ := good_at hg (show a < l.length by omega)
    have h1 : l[a]? = some (u : Int) := by
      rw [← hu, List.getD, List.getElem?_eq_getElem (show a < l.length by omega)]
      rfl
    refine ⟨u, h1, by rw [hlen]; exact hul, ?_⟩
    have h2 := ix_lift hs2 (show a < l.length by omega) hu
    rw [← hs1] at h2
    rw [List.getD, List.getD, List.getElem?_eq_getElem (show a < (ix (ofAt ws ns ls n)).length by rw [ix_len]; omega), List.getElem?_eq_getElem (show u < (ix (scale (qW ws l) (qN ns l) (alone (gk l l.length)) ls[n]).1).length by omega)] at h2
    rw [List.getElem?_eq_getElem (show a < (ix (ofAt ws ns ls n)).length by rw [ix_len]; omega), List.getElem?_eq_getElem (show u < (ix (scale (qW ws l) (qN ns l) (alone (gk l l.length)) ls[n]).1).length by omega)]
    simp only [Option.getD_some] at h2
    rw [h2]
end
end Go.Proofs.Ytaegfljpodhnhaa
