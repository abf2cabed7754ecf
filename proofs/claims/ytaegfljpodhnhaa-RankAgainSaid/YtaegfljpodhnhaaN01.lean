import Derived.Test.YtaegfljpodhnhaaG02
namespace Go.Proofs.Ytaegfljpodhnhaa
open Go.RowKit Go.Maps

/-- The face 0 is alone. -/
def Al (of : List Int) : Prop := ∀ k, k < of.length → of.getD k 0 = 0 → k = 0
theorem al_alone (n : Nat) : Al (alone n) := fun k hk h => by
  rw [alone_len] at hk
  rw [alone_at hk] at h
  omega

/-- What a merge is. -/
theorem next_spec {ws : List Int} {ns : List (Int × Int × Int)} {of : List Int} {least : Int} (h : (next ws ns of least).2.2.1 = true) :
    ∃ a b : Nat, (next ws ns of least).1 = a ∧ (next ws ns of least).2.1 = b ∧ a < of.length ∧ b < of.length ∧ of.getD a 0 = a ∧ of.getD b 0 = b ∧ a ≠ b ∧ (a : Int) ≠ of.getD 0 0 ∧ (b : Int) ≠ of.getD 0 0 := by
  unfold next at h ⊢
  rcases nextTo_best (ws := ws) (ns := ns) (of := of) (least := least) of.length with ⟨e, _⟩ | ⟨a, e, ha, ⟨g1, g2, g3, g4⟩, _⟩
  · rw [e] at h; cases h
  · obtain ⟨b, e2, hb, r1, r2, r3, _⟩ := nbTo_spec (ns := ns) (of := of) (a := a) of.length g4
    rw [e]
    exact ⟨a, b, rfl, e2, ha, hb, g1, r1, fun h => r2 (by omega), g2, r3⟩

theorem Al.merge {of : List Int} {a b : Nat} (h : Al of) (hC : CN of) (ha : (a : Int) ≠ of.getD 0 0) (hb : (b : Int) ≠ of.getD 0 0) : Al (merged of (a, b)) := fun k hk h0 => by
  rw [merged_len] at hk
  obtain ⟨r, r1, r2, _⟩ := hC 0 (by omega)
  rw [getD_merged _ _ _ hk] at h0
  dsimp only at h0
  split at h0
  · split at h0 <;> omega
  · exact h k hk h0

theorem scaleF_al {ws : List Int} {ns : List (Int × Int × Int)} {least : Int} : ∀ (f : Nat) (of : List Int), CN of → Al of → Al (scaleF ws ns least f of).1
  | 0, of, _, h => h
  | f + 1, of, hC, h => by
    unfold scaleF
    split
    · rename_i hn
      obtain ⟨a, b, e1, e2, ha, hb, r1, r2, _, z1, z2⟩ := next_spec hn
      rw [e1, e2]
      exact scaleF_al f _ (hC.merge ha hb r1 r2) (h.merge hC z1 z2)
    · exact h

/-- What is together stays together. -/
def Tog (of of' : List Int) : Prop := ∀ x y, x < of.length → y < of.length → of.getD x 0 = of.getD y 0 → of'.getD x 0 = of'.getD y 0
theorem scaleF_tog {ws : List Int} {ns : List (Int × Int × Int)} {least : Int} : ∀ (f : Nat) (of : List Int), Tog of (scaleF ws ns least f of).1
  | 0, of => fun x y _ _ h => h
  | f + 1, of => fun x y hx hy h => by
    unfold scaleF
    split
    · refine scaleF_tog f _ x y (by rw [merged_len]; exact hx) (by rw [merged_len]; exact hy) ?_
      rw [getD_merged _ _ _ hx, getD_merged _ _ _ hy, h]
    · exact h

theorem scaleF_done {ws : List Int} {ns : List (Int × Int × Int)} {least : Int} : ∀ (f : Nat) (of : List Int), roots of ≤ f → (next ws ns (scaleF ws ns least f of).1 least).2.2.1 = false
  | 0, of, hr => by
    show (next ws ns of least).2.2.1 = false
    cases h : (next ws ns of least).2.2.1
    · rfl
    · have := next_roots h
      omega
  | f + 1, of, hr => by
    unfold scaleF
    split
    · rename_i hn
      have := next_roots hn
      exact scaleF_done f _ (by omega)
    · rename_i hn
      simpa using hn

theorem scale_done {ws : List Int} {ns : List (Int × Int × Int)} {of : List Int} {least : Int} : (next ws ns (scale ws ns of least).1 least).2.2.1 = false := scaleF_done _ _ (roots_le of)

/-- Where no merge comes: each group has enough, or no neighbour. -/
theorem done_law {ws : List Int} {ns : List (Int × Int × Int)} {of : List Int} {least : Int} (h : (next ws ns of least).2.2.1 = false) {a b : Nat} (ha : a < of.length) (hb : b < of.length) (ra : of.getD a 0 = a) (rb : of.getD b 0 = b) (za : (a : Int) ≠ of.getD 0 0) (zb : (b : Int) ≠ of.getD 0 0) (hab : b ≠ a)
    (hc : 0 < common ns of a b) : least ≤ weight ws of a := by
  rcases nextTo_best (ws := ws) (ns := ns) (of := of) (least := least) of.length with ⟨_, hno⟩ | ⟨_, e, _⟩
  · refine Int.not_lt.1 fun hlt => hno a ha ⟨ra, za, hlt, ?_⟩
    unfold nb
    rcases nbTo_best (ns := ns) (of := of) (a := a) of.length with ⟨_, h2⟩ | ⟨b', e2, _⟩
    · exact (h2 b hb ⟨rb, by omega, zb, hc⟩).elim
    · rw [e2]; show (0 : Int) ≤ b'; omega
  · unfold next at h
    rw [e] at h
    cases h

theorem weightTo_le {ws of : List Int} {g m : Int} (hm : 0 ≤ m) (h : ∀ z ∈ ws, 0 ≤ z ∧ z ≤ m) (k : Nat) : weightTo ws of g k ≤ m * k := by
  induction k with
  | zero => simp [weightTo]
  | succ k ih =>
    have : ws.getD k 0 ≤ m := by
      by_cases hk : k < ws.length
      · have := h ws[k] (List.getElem_mem hk)
        simpa [List.getD, hk] using this.2
      · simpa [List.getD, hk] using hm
    have e : m * ((k + 1 : Nat) : Int) = m * k + m := by rw [Int.natCast_add, Int.mul_add]; simp
    rw [e]
    unfold weightTo
    split <;> omega
theorem commonTo_le {ns : List (Int × Int × Int)} {of : List Int} {a b m : Int} (hm : 0 ≤ m) (h : ∀ t ∈ ns, t.2.2 ≤ m) (k : Nat) : commonTo ns of a b k ≤ m * k := by
  induction k with
  | zero => simp [commonTo]
  | succ k ih =>
    have : (ns.getD k (0, 0, 0)).2.2 ≤ m := by
      by_cases hk : k < ns.length
      · have := h ns[k] (List.getElem_mem hk)
        simpa [List.getD, hk] using this
      · simpa [List.getD, hk] using hm
    have e : m * ((k + 1 : Nat) : Int) = m * k + m := by rw [Int.natCast_add, Int.mul_add]; simp
    rw [e]
    unfold commonTo
    split <;> omega

def topB' : Int → List Int → Int
  | m, [] => m
  | m, x :: l => topB' (max m (x + 1)) l
theorem topB'_snoc (x : Int) : ∀ (l : List Int) (m : Int), topB' m (l ++ [x]) = max (topB' m l) (x + 1)
  | [], _ => rfl
  | y :: l, m => by simp only [List.cons_append, topB']; exact topB'_snoc x l _
theorem listB_snoc' (x : Int) : ∀ (l : List Int) (m : Int), listB m (l ++ [x]) = (listB m l && decide (0 ≤ x) && decide (x ≤ topB' m l))
  | [], m => by simp [listB, topB']; rfl
  | y :: l, m => by simp only [List.cons_append, listB, topB', listB_snoc' x l, Bool.and_assoc]; rfl
theorem listB_ix' (ofs : List Int) (k : Nat) (hk : k ≤ ofs.length) : listB 0 (ixSt ofs k).2.2 = true ∧ topB' 0 (ixSt ofs k).2.2 = (ixSt ofs k).2.1 := by
  induction k with
  | zero => exact ⟨rfl, rfl⟩
  | succ k ih =>
    obtain ⟨h1, h2⟩ := ih (by omega)
    obtain ⟨_, _, h3⟩ := ixSt_inv ofs k (by omega)
    unfold ixSt
    split
    · rename_i hc
      obtain ⟨v, hv⟩ := Option.isSome_iff_exists.1 hc
      have := h3 _ _ hv
      dsimp only
      rw [listB_snoc', topB'_snoc, h1, h2, hv, Option.getD_some, decide_eq_true (by omega), decide_eq_true (by omega)]
      exact ⟨rfl, by omega⟩
    · dsimp only
      rw [listB_snoc', topB'_snoc, h1, h2, decide_eq_true (by omega), decide_eq_true (Int.le_refl _)]
      exact ⟨rfl, by omega⟩
theorem listB_of_ix (of : List Int) : listB 0 (ix of) = true := (listB_ix' of of.length (Nat.le_refl _)).1
theorem listE_ix' {of : List Int} {n : Nat} (h : of.length = n) : listE n (ix of) = 0 := by
  rw [listE, if_neg (by rw [ix_len, h]; simp)]
  exact if_pos (listB_of_ix of)
theorem chain_at' {ws : List Int} {ns : List (Int × Int × Int)} {of ls : List Int} {k : Nat} {n : Int} (h : ls[k]? = some n) : (chain ws ns of ls)[k]? = some (scale ws ns (after ws ns of (ls.take k)) n) := by
  have hk := (List.getElem?_eq_some_iff.1 h).1
  have h1 := chain_take_snoc (ws := ws) (ns := ns) (of := of) h
  rw [chain_take, chain_take] at h1
  have h2 : ((chain ws ns of ls).take (k + 1))[k]? = (chain ws ns of ls)[k]? := List.getElem?_take_of_lt (by omega)
  rw [← h2, h1, List.getElem?_append_right (by rw [List.length_take, chain_len]; omega)]
  rw [List.length_take, chain_len, show k - min k ls.length = 0 by omega]
  rfl

theorem after_al {ws : List Int} {ns : List (Int × Int × Int)} : ∀ (ls of : List Int), CN of → Al of → Al (after ws ns of ls)
  | [], _, _, h => h
  | n :: ls, of, hC, h => after_al ls _ (CN.scaleF (ws := ws) (ns := ns) (least := n) of.length of hC).1 (scaleF_al _ _ hC h)

/-- The groups of a scale. -/
def ofAt (ws : List Int) (ns : List (Int × Int × Int)) (ls : List Int) (s : Nat) : List Int := after ws ns (alone ws.length) (ls.take (s + 1))
theorem ofAt_eq {ws : List Int} {ns : List (Int × Int × Int)} {ls : List Int} {s : Nat} {n : Int} (h : ls[s]? = some n) : ofAt ws ns ls s = (scale ws ns (after ws ns (alone ws.length) (ls.take s)) n).1 := after_take h
theorem ofAt_cn (ws : List Int) (ns : List (Int × Int × Int)) (ls : List Int) (s : Nat) : CN (ofAt ws ns ls s) ∧ (ofAt ws ns ls s).length = ws.length := by
  have h := CN.after (ws := ws) (ns := ns) (ls.take (s + 1)) _ (alone_cn ws.length)
  rw [alone_len] at h
  exact h
theorem ofAt_al (ws : List Int) (ns : List (Int × Int × Int)) (ls : List Int) (s : Nat) : Al (ofAt ws ns ls s) := after_al _ _ (alone_cn _) (al_alone _)
theorem lists_at {ws : List Int} {ns : List (Int × Int × Int)} {ls : List Int} {s : Nat} (h : s < ls.length) : (lists ws ns ls)[s]? = some (ix (ofAt ws ns ls s)) := by
  have hn : ls[s]? = some ls[s] := List.getElem?_eq_getElem h
  rw [lists, List.getElem?_map, chain_at' hn, ofAt_eq hn]
  rfl
theorem ix_same {of : List Int} {i j : Nat} (hi : i < of.length) (hj : j < of.length) : (ix of).getD i 0 = (ix of).getD j 0 ↔ of.getD i 0 = of.getD j 0 := by
  have h := ix_iff of i j hi hj
  simpa [List.getD, hi, hj, ix_len] using h
end Go.Proofs.Ytaegfljpodhnhaa
