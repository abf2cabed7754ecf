import Derived.Test.YtaegfljpodhnhaaR47
namespace Go.Proofs.Ytaegfljpodhnhaa
open Go.RowKit Go.Maps

theorem checkE_bad {ws : List Int} {ns : List (Int × Int × Int)} {ls : List Int} {s : Int} {st : List (Int × Int)} {cs : List (List Int)} (hz : ofE ws ns ls ≠ 0) : checkE ws ns ls s st cs = ofE ws ns ls := by rw [checkE, if_pos hz]

theorem refCheck_any (A B C D E : Option Addr) (c d f m q : Nat) (ws : List Int) (ns : List (Int × Int × Int)) (ls : List Int) (s : Int) (st : List (Int × Int)) (cs : List (List Int)) (w : World) (hA : SI w A ws) (hB : ST w B ns) (hC : SI w C ls) (hD : SL w D (pairC st)) (hE : SLL w E cs)
    (hl1 : ws.length ≤ 4611686018427387904) (hl2 : ns.length ≤ 4611686018427387904) (hl3 : ls.length ≤ 4611686018427387904) (hl6 : ∀ l ∈ cs, l.length ≤ 4611686018427387904) :
    Calls Try.prog 25 #[.agg #[.slice A ws.length c, .slice B ns.length d], .slice C ls.length f, .int .i64 s, .slice D st.length m, .slice E cs.length q] w fun e w' => e = .returned (.int .i64 (checkE ws ns ls s st cs)) ∧ Below w.heap.size w w' := by
  by_cases hv : validE ws ns = 0
  · by_cases ht : thrE ls = 0
    · have hz : ofE ws ns ls = 0 := by rw [ofE_eq, if_neg (by simp [hv]), ht]
      by_cases hs : s < 0 ∨ (ls.length : Int) ≤ s ∨ (cs.length : Int) ≤ s
      · have e : checkE ws ns ls s st cs = 7 := by rw [checkE, if_neg (by simp [hz]), if_pos hs]
        rw [e]
        exact refCheck_out A B C D E c d f m q ws ns ls s st cs w hA hB hC hl1 hl2 hl3 hv ht hs
      · obtain ⟨k, rfl⟩ := Int.eq_ofNat_of_zero_le (show 0 ≤ s by omega)
        have h1 : k < ls.length := by omega
        have h2 : k < cs.length := by omega
        rw [checkE_main hz h1 h2 (List.getElem?_eq_getElem h1) (List.getElem?_eq_getElem h2)]
        exact refCheck_main A B C D E c d f m q ws ns ls k st cs w hA hB hC hD hE hl1 hl2 hl3 hl6 hv ht h1 h2 _ (List.getElem?_eq_getElem h1) _ (List.getElem?_eq_getElem h2)
    · have hz : ofE ws ns ls = thrE ls := by rw [ofE_eq, if_neg (by simp [hv])]
      rw [checkE_bad (by rw [hz]; exact ht), hz]
      exact refCheck_bad2 A B C D E c d f m q ws ns ls s st cs w hA hB hC hl1 hl2 hl3 hv ht
  · have hz : ofE ws ns ls = validE ws ns := by rw [ofE_eq, if_pos hv]
    rw [checkE_bad (by rw [hz]; exact hv), hz]
    exact refCheck_bad1 A B C D E c d f m q ws ns ls s st cs w hA hB hl1 hl2 hv

def topB : Int → List Int → Int
  | m, [] => m
  | m, x :: l => topB (max m (x + 1)) l
theorem topB_snoc (x : Int) : ∀ (l : List Int) (m : Int), topB m (l ++ [x]) = max (topB m l) (x + 1)
  | [], _ => rfl
  | y :: l, m => by simp only [List.cons_append, topB]; exact topB_snoc x l _
theorem listB_snoc (x : Int) : ∀ (l : List Int) (m : Int), listB m (l ++ [x]) = (listB m l && decide (0 ≤ x) && decide (x ≤ topB m l))
  | [], m => by simp [listB, topB]; rfl
  | y :: l, m => by simp only [List.cons_append, listB, topB, listB_snoc x l, Bool.and_assoc]; rfl

theorem listB_ix (ofs : List Int) (k : Nat) (hk : k ≤ ofs.length) : listB 0 (ixSt ofs k).2.2 = true ∧ topB 0 (ixSt ofs k).2.2 = (ixSt ofs k).2.1 := by
  induction k with
  | zero => exact ⟨rfl, rfl⟩
  | succ k ih =>
    obtain ⟨h1, h2⟩ := ih (by omega)
    obtain ⟨_, _, h3⟩ := ixSt_inv ofs k (by omega)
    unfold ixSt
    split
    · rename_i hc
      obtain ⟨v, hv⟩ := Option.isSome_iff_exists.1 hc
      have := h3 _ _ hv
      dsimp only
      rw [listB_snoc, topB_snoc, h1, h2, hv, Option.getD_some, decide_eq_true (by omega), decide_eq_true (by omega)]
      exact ⟨rfl, by omega⟩
    · dsimp only
      rw [listB_snoc, topB_snoc, h1, h2, decide_eq_true (by omega), decide_eq_true (Int.le_refl _)]
      exact ⟨rfl, by omega⟩

theorem listE_ix {of : List Int} {n : Nat} (h : of.length = n) : listE n (ix of) = 0 := by
  rw [listE, if_neg (by rw [ix_len, h]; simp)]
  exact if_pos (listB_ix of of.length (Nat.le_refl _)).1

theorem chain_at {ws : List Int} {ns : List (Int × Int × Int)} {of ls : List Int} {k : Nat} {n : Int} (h : ls[k]? = some n) : (chain ws ns of ls)[k]? = some (scale ws ns (after ws ns of (ls.take k)) n) := by
  have hk := (List.getElem?_eq_some_iff.1 h).1
  have h1 := chain_take_snoc (ws := ws) (ns := ns) (of := of) h
  rw [chain_take, chain_take] at h1
  have h2 : ((chain ws ns of ls).take (k + 1))[k]? = (chain ws ns of ls)[k]? := List.getElem?_take_of_lt (by omega)
  rw [← h2, h1, List.getElem?_append_right (by simp [chain_len]; omega)]
  simp [chain_len, Nat.min_eq_left (Nat.le_of_lt hk)]

/-- Check accepts what Steps and Of return. -/
theorem check_own {ws : List Int} {ns : List (Int × Int × Int)} {ls : List Int} {k : Nat} (hz : ofE ws ns ls = 0) (hk : k < ls.length) : checkE ws ns ls k (stL ws ns ls k) (ofL ws ns ls) = 0 := by
  have hn : ls[k]? = some ls[k] := List.getElem?_eq_getElem hk
  have hL : ofL ws ns ls = lists ws ns ls := if_pos hz
  have hc : (lists ws ns ls)[k]? = some (ix (scale ws ns (after ws ns (alone ws.length) (ls.take k)) ls[k]).1) := by rw [lists, List.getElem?_map, chain_at hn]; rfl
  have hCa := CN.after (ws := ws) (ns := ns) (ls.take k) _ (alone_cn ws.length)
  rw [alone_len] at hCa
  have hCs := CN.scaleF (ws := ws) (ns := ns) (least := ls[k]) (after ws ns (alone ws.length) (ls.take k)).length _ hCa.1
  have hnum : named (numL ws.length (lists ws ns ls) k) = after ws ns (alone ws.length) (ls.take k) ∧ listE ws.length (numL ws.length (lists ws ns ls) k) = 0 := by
    unfold numL
    by_cases h0 : k = 0
    · subst h0
      rw [if_pos rfl]
      exact ⟨named_alone _, listE_alone _⟩
    · rw [if_neg h0]
      obtain ⟨j, rfl⟩ : ∃ j, k = j + 1 := ⟨k - 1, by omega⟩
      have hnj : ls[j]? = some (ls[j]'(by omega)) := List.getElem?_eq_getElem (by omega)
      have hcj : (lists ws ns ls)[j]? = some (ix (after ws ns (alone ws.length) (ls.take (j + 1)))) := by
        rw [lists, List.getElem?_map, chain_at hnj, after_take hnj]
        rfl
      rw [Nat.add_sub_cancel, List.getD, hcj]
      exact ⟨named_ix hCa.1, listE_ix hCa.2⟩
  have hst : stL ws ns ls k = (scale ws ns (after ws ns (alone ws.length) (ls.take k)) ls[k]).2 := by
    have e : stE ws ns ls k = 0 := by rw [stE, if_neg (by simp [hz]), if_neg (by omega)]
    rw [stL, if_pos e, steps, List.getD, Int.toNat_natCast, chain_at hn]
    rfl
  rw [checkE_main hz hk (by rw [hL, lists_len]; exact hk) hn (by rw [hL]; exact hc), hL, checkK, if_neg, hnum.1, if_pos ⟨rfl, hst.symm⟩]
  have h2 : listE ws.length (ix (scale ws ns (after ws ns (alone ws.length) (ls.take k)) ls[k]).1) = 0 := listE_ix (hCs.2.trans hCa.2)
  rw [hnum.2, h2]
  simp
end Go.Proofs.Ytaegfljpodhnhaa
