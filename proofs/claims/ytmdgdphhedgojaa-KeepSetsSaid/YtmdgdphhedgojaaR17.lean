import Derived.Test.YtmdgdphhedgojaaR15
namespace Go.Proofs.Ytmdgdphhedgojaa
open Go.RowKit Go.Maps

/-- Each entry is a face not later than itself, and a root. -/
def CN (of : List Int) : Prop := ∀ k, k < of.length → ∃ r : Nat, of.getD k 0 = r ∧ r ≤ k ∧ of.getD r 0 = r

theorem cmpC_lt (p q : Int × Int) : cmpC p q < 0 ↔ p.1 < q.1 ∨ p.1 = q.1 ∧ p.2 < q.2 := by
  have e1 : cmpI p.1 q.1 = -1 ∧ p.1 < q.1 ∨ cmpI p.1 q.1 = 1 ∧ q.1 < p.1 ∨ cmpI p.1 q.1 = 0 ∧ p.1 = q.1 := by unfold cmpI; repeat' split <;> omega
  have e2 : cmpI p.2 q.2 = -1 ∧ p.2 < q.2 ∨ cmpI p.2 q.2 = 1 ∧ q.2 < p.2 ∨ cmpI p.2 q.2 = 0 ∧ p.2 = q.2 := by unfold cmpI; repeat' split <;> omega
  unfold cmpC
  rcases e1 with ⟨e, h⟩ | ⟨e, h⟩ | ⟨e, h⟩ <;> rcases e2 with ⟨e', h'⟩ | ⟨e', h'⟩ | ⟨e', h'⟩ <;> simp [orI, e, e'] <;> omega

theorem minTo_le {l : List (Int × Int)} (k : Nat) (hk : k < l.length) : ∀ j, j ≤ k → (minTo l k).1 < (l.getD j (0, 0)).1 ∨ (minTo l k).1 = (l.getD j (0, 0)).1 ∧ (minTo l k).2 ≤ (l.getD j (0, 0)).2 := by
  induction k with
  | zero => intro j hj; obtain rfl : j = 0 := by omega
            right; exact ⟨rfl, Int.le_refl _⟩
  | succ k ih =>
    intro j hj
    have ih := ih (by omega)
    have hc := cmpC_lt (l.getD (k + 1) (0, 0)) (minTo l k)
    unfold minTo
    by_cases hj' : j = k + 1
    · subst hj'
      split
      · right; exact ⟨rfl, Int.le_refl _⟩
      · rename_i h; rw [hc] at h; omega
    · have := ih j (by omega)
      split
      · rename_i h; rw [hc] at h; omega
      · exact this

theorem minC_le {l : List (Int × Int)} {d : Int × Int} (hd : d ∈ l) : (minC l).1 < d.1 ∨ (minC l).1 = d.1 ∧ (minC l).2 ≤ d.2 := by
  obtain ⟨j, hj, rfl⟩ := List.getElem_of_mem hd
  have := minTo_le (l := l) (l.length - 1) (by omega) j (by omega)
  unfold minC
  simpa [List.getD, hj] using this

/-- A group that can take a. -/
def Adm (ns : List (Int × Int × Int)) (of : List Int) (a : Int) (b : Nat) : Prop := of.getD b 0 = b ∧ (b : Int) ≠ a ∧ (b : Int) ≠ of.getD 0 0 ∧ 0 < common ns of a b

theorem nbTo_best {ns : List (Int × Int × Int)} {of : List Int} {a : Int} (k : Nat) :
    (nbTo ns of a k = (-1, 0) ∧ ∀ b, b < k → ¬ Adm ns of a b) ∨
    ∃ b : Nat, nbTo ns of a k = ((b : Int), common ns of a b) ∧ b < k ∧ Adm ns of a b ∧ ∀ b', b' < k → Adm ns of a b' → common ns of a b' < common ns of a b ∨ common ns of a b' = common ns of a b ∧ b ≤ b' := by
  induction k with
  | zero => exact .inl ⟨rfl, by omega⟩
  | succ k ih =>
    have hsk : ∀ P : Nat → Prop, (∀ b, b < k → P b) → P k → ∀ b, b < k + 1 → P b := fun P h1 h2 b hb => by
      rcases Nat.lt_or_ge b k with h | h
      · exact h1 b h
      · obtain rfl : b = k := by omega
        exact h2
    unfold nbTo
    by_cases hc : (of.getD k 0 != k || (k : Int) == a || (k : Int) == of.getD 0 0) = true
    · rw [if_pos hc]
      have hna : ¬ Adm ns of a k := fun h => by
        obtain ⟨h1, h2, h3, _⟩ := h
        rw [h1] at hc
        simp only [bne_self_eq_false, Bool.false_or, Bool.or_eq_true, beq_iff_eq] at hc
        omega
      rcases ih with ⟨e, h⟩ | ⟨b, e, hb, hA, h⟩
      · exact .inl ⟨e, hsk _ h hna⟩
      · exact .inr ⟨b, e, by omega, hA, hsk _ h (fun h => (hna h).elim)⟩
    · rw [if_neg hc]
      simp only [Bool.or_eq_true, not_or, bne_iff_ne, ne_eq, Decidable.not_not, beq_iff_eq] at hc
      rcases ih with ⟨e, h⟩ | ⟨b, e, hb, hA, h⟩
      · rw [e]
        dsimp only
        split
        · rename_i hp
          refine .inr ⟨k, rfl, by omega, ⟨hc.1.1, hc.1.2, hc.2, hp⟩, hsk _ (fun b hb hA => (h b hb hA).elim) (fun _ => .inr ⟨rfl, Nat.le_refl _⟩)⟩
        · rename_i hp
          exact .inl ⟨rfl, hsk _ h (fun hA => hp hA.2.2.2)⟩
      · rw [e]
        dsimp only
        have hA4 := hA.2.2.2
        split
        · rename_i hp
          refine .inr ⟨k, rfl, by omega, ⟨hc.1.1, hc.1.2, hc.2, by omega⟩, hsk _ (fun b' hb' hA' => ?_) (fun _ => .inr ⟨rfl, Nat.le_refl _⟩)⟩
          have := h b' hb' hA'
          omega
        · rename_i hp
          exact .inr ⟨b, rfl, by omega, hA, hsk _ h (fun _ => by omega)⟩

/-- A group that goes. -/
def Go1 (ws : List Int) (ns : List (Int × Int × Int)) (of : List Int) (least : Int) (a : Nat) : Prop := of.getD a 0 = a ∧ (a : Int) ≠ of.getD 0 0 ∧ weight ws of a < least ∧ 0 ≤ nb ns of a

theorem nextTo_best {ws : List Int} {ns : List (Int × Int × Int)} {of : List Int} {least : Int} (k : Nat) :
    (nextTo ws ns of least k = (0, 0, false, 0) ∧ ∀ a, a < k → ¬ Go1 ws ns of least a) ∨
    ∃ a : Nat, nextTo ws ns of least k = ((a : Int), nb ns of a, true, weight ws of a) ∧ a < k ∧ Go1 ws ns of least a ∧ ∀ a', a' < k → Go1 ws ns of least a' → weight ws of a < weight ws of a' ∨ weight ws of a = weight ws of a' ∧ a ≤ a' := by
  induction k with
  | zero => exact .inl ⟨rfl, by omega⟩
  | succ k ih =>
    have hsk : ∀ P : Nat → Prop, (∀ b, b < k → P b) → P k → ∀ b, b < k + 1 → P b := fun P h1 h2 b hb => by
      rcases Nat.lt_or_ge b k with h | h
      · exact h1 b h
      · obtain rfl : b = k := by omega
        exact h2
    have hno : ¬ Go1 ws ns of least k → (nextTo ws ns of least k = (0, 0, false, 0) ∧ ∀ a, a < k + 1 → ¬ Go1 ws ns of least a) ∨
      ∃ a : Nat, nextTo ws ns of least k = ((a : Int), nb ns of a, true, weight ws of a) ∧ a < k + 1 ∧ Go1 ws ns of least a ∧ ∀ a', a' < k + 1 → Go1 ws ns of least a' → weight ws of a < weight ws of a' ∨ weight ws of a = weight ws of a' ∧ a ≤ a' := fun hna => by
      rcases ih with ⟨e, h⟩ | ⟨b, e, hb, hA, h⟩
      · exact .inl ⟨e, hsk _ h hna⟩
      · exact .inr ⟨b, e, by omega, hA, hsk _ h (fun h => (hna h).elim)⟩
    unfold nextTo
    by_cases hc : (of.getD k 0 != k || (k : Int) == of.getD 0 0) = true
    · rw [if_pos hc]
      refine hno fun h => ?_
      obtain ⟨h1, h2, _⟩ := h
      rw [h1] at hc
      simp only [bne_self_eq_false, Bool.false_or, beq_iff_eq] at hc
      omega
    · rw [if_neg hc]
      simp only [Bool.or_eq_true, not_or, bne_iff_ne, ne_eq, Decidable.not_not, beq_iff_eq] at hc
      by_cases hn : 0 ≤ nb ns of k
      · by_cases hw : weight ws of k < least
        · rcases ih with ⟨e, h⟩ | ⟨b, e, hb, hA, h⟩
          · rw [e]
            have : ¬ (decide (least ≤ weight ws of k) || (((0 : Int), (0 : Int), false, (0 : Int)).2.2.1 && decide (((0 : Int), (0 : Int), false, (0 : Int)).2.2.2 ≤ weight ws of k))) = true := by simp; omega
            rw [if_neg this, if_pos hn]
            exact .inr ⟨k, rfl, by omega, ⟨hc.1, hc.2, hw, hn⟩, hsk _ (fun b hb hA => (h b hb hA).elim) (fun _ => .inr ⟨rfl, Nat.le_refl _⟩)⟩
          · rw [e]
            dsimp only
            by_cases hq : weight ws of b ≤ weight ws of k
            · rw [if_pos (by simp [hq])]
              exact .inr ⟨b, rfl, by omega, hA, hsk _ h (fun _ => by omega)⟩
            · rw [if_neg (by simp; omega), if_pos hn]
              refine .inr ⟨k, rfl, by omega, ⟨hc.1, hc.2, hw, hn⟩, hsk _ (fun a' ha' hA' => ?_) (fun _ => .inr ⟨rfl, Nat.le_refl _⟩)⟩
              have := h a' ha' hA'
              omega
        · rw [if_pos (by simp; omega)]
          exact hno fun h => hw h.2.2.1
      · rw [if_neg hn]
        rw [ite_self]
        exact hno fun h => hn h.2.2.2

theorem CN.root {of : List Int} {n : Nat} (h : CN of) (hn : n = of.length) {x : Nat} {a : Int} (hx : x < n) (e : of.getD x 0 = a) : ∃ r : Nat, a = r ∧ r < of.length ∧ of.getD r 0 = r := by
  obtain ⟨r, h1, h2, h3⟩ := h x (by omega)
  exact ⟨r, by omega, by omega, h3⟩

theorem nearF_ne {ns : List (Int × Int × Int)} {of : List Int} {a b : Int} : nearF ns of ns.length (a, b) ≠ none ↔ a ≠ b ∧ 0 < common ns of a b := by
  unfold nearF common
  dsimp only
  split
  · simpa using ‹_›
  · constructor
    · intro h; exact (h rfl).elim
    · intro h; contradiction

theorem nearF_eq {ns : List (Int × Int × Int)} {of : List Int} {a b : Int} (h1 : a ≠ b) (h2 : 0 < common ns of a b) : nearF ns of ns.length (a, b) = some (common ns of a b) := by
  unfold nearF common at *
  exact if_pos ⟨h1, h2⟩

theorem near_roots {ns : List (Int × Int × Int)} {of : List Int} (hn : NOK of.length ns) (hC : CN of) {a b : Int} (h : nearF ns of ns.length (a, b) ≠ none) :
    ∃ i j : Nat, a = i ∧ b = j ∧ i < of.length ∧ j < of.length ∧ of.getD i 0 = i ∧ of.getD j 0 = j := by
  obtain ⟨h1, h2⟩ := nearF_ne.1 h
  obtain ⟨x, y, hx, hy, e1, e2⟩ := commonTo_pos hn ns.length h2
  obtain ⟨i, r1, r2, r3⟩ := hC.root rfl hx e1
  obtain ⟨j, s1, s2, s3⟩ := hC.root rfl hy e2
  exact ⟨i, j, r1, s1, r2, s2, r3, s3⟩

/-- The program's next merge is the reference's. -/
theorem next_rel {ws : List Int} {ns : List (Int × Int × Int)} {of : List Int} {least z a b : Int} {found : Bool} (hn : NOK of.length ns) (hC : CN of) (hz0 : of.getD 0 0 = z) (h : NextRel ws ns of least z a b found) :
    (next ws ns of least).1 = a ∧ (next ws ns of least).2.1 = b ∧ (next ws ns of least).2.2.1 = found := by
  have hnb : ∀ a : Nat, (nb ns of a = -1 ∧ ∀ b, b < of.length → ¬ Adm ns of a b) ∨
    ∃ b : Nat, nb ns of a = b ∧ b < of.length ∧ Adm ns of a b ∧ ∀ b', b' < of.length → Adm ns of a b' → common ns of a b' < common ns of a b ∨ common ns of a b' = common ns of a b ∧ b ≤ b' := fun a => by
    unfold nb
    rcases nbTo_best (ns := ns) (of := of) (a := a) of.length with ⟨e, h⟩ | ⟨b, e, h⟩
    · rw [e]; exact .inl ⟨rfl, h⟩
    · rw [e]; exact .inr ⟨b, rfl, h⟩
  obtain ⟨cs, h1, h2, h3⟩ := h
  rcases nextTo_best (ws := ws) (ns := ns) (of := of) (least := least) of.length with ⟨e, hno⟩ | ⟨a1, e, ha1, hg, hbest⟩
  · rcases h3 with ⟨_, rfl, rfl, rfl⟩ | ⟨hne, _, _, _⟩
    · unfold next; rw [e]; exact ⟨rfl, rfl, rfl⟩
    · exfalso
      obtain ⟨c, hc⟩ := List.exists_mem_of_ne_nil _ hne
      obtain ⟨_, y, hy, hcan⟩ := h1 c hc
      obtain ⟨i, j, e1, e2, hi, hj, ri, rj⟩ := near_roots hn hC hy
      obtain ⟨q1, q2⟩ := nearF_ne.1 hy
      subst e2
      unfold Can at hcan
      simp only [e1] at *
      refine hno i hi ⟨ri, by rw [hz0]; exact hcan.1, hcan.2.2, ?_⟩
      rcases hnb i with ⟨_, hna⟩ | ⟨b, e, _⟩
      · exact (hna j hj ⟨rj, Ne.symm q1, by rw [hz0]; exact hcan.2.1, q2⟩).elim
      · omega
  · obtain ⟨g1, g2, g3, g4⟩ := hg
    rcases hnb a1 with ⟨e1, _⟩ | ⟨b1, e1, hb1, hA1, hbb⟩
    · omega
    obtain ⟨A1, A2, A3, A4⟩ := hA1
    rw [hz0] at g2 A3
    obtain ⟨c0, hc0, ec0⟩ := h2 ((a1 : Int), (b1 : Int)) (nearF_ne.2 ⟨Ne.symm A2, A4⟩) ⟨g2, A3, g3⟩
    dsimp only at ec0
    rcases h3 with ⟨rfl, _⟩ | ⟨hne, rfl, rfl, ds, hds, rfl, d1, d2⟩
    · cases hc0
    have hw0 := (h1 c0 hc0).1
    rw [ec0] at hw0
    have hle := minC_le hc0
    rw [hw0, ec0] at hle
    obtain ⟨hm1, y, hy, hcan⟩ := h1 _ (minC_mem (List.length_pos_iff.2 hne))
    obtain ⟨i, j, e2, e3, hi, hj, ri, rj⟩ := near_roots hn hC hy
    obtain ⟨q1, q2⟩ := nearF_ne.1 hy
    subst e3
    unfold Can at hcan
    dsimp only at hcan
    have hgo : Go1 ws ns of least i := by
      refine ⟨ri, by rw [hz0, ← e2]; exact hcan.1, by rw [← e2]; exact hcan.2.2, ?_⟩
      rcases hnb i with ⟨_, hna⟩ | ⟨b, e, _⟩
      · exact (hna j hj ⟨rj, by rw [← e2]; exact Ne.symm q1, by rw [hz0]; exact hcan.2.1, by rw [← e2]; exact q2⟩).elim
      · omega
    have hb := hbest i hi hgo
    have hia : i = a1 := by rw [e2] at hm1 hle; omega
    subst hia
    rw [e2] at d1 d2 ⊢
    have hmem := d2 (b1 : Int) _ (nearF_eq (Ne.symm A2) A4) A3
    have hle2 := minC_le hmem
    obtain ⟨f1, f2⟩ := d1 _ (minC_mem (List.length_pos_iff.2 hds))
    obtain ⟨i', j', e4, e5, hi', hj', ri', rj'⟩ := near_roots hn hC (a := (i : Int)) (b := (minC ds).2) (by rw [f1]; simp)
    obtain ⟨q3, q4⟩ := nearF_ne.1 (by rw [f1]; simp : nearF ns of ns.length ((i : Int), (minC ds).2) ≠ none)
    rw [nearF_eq q3 q4] at f1
    injection f1 with f1
    rw [e5] at f1 f2 q3 q4 hle2 ⊢
    have hb2 := hbb j' hj' ⟨rj', Ne.symm q3, by rw [hz0]; exact f2, q4⟩
    have : j' = b1 := by dsimp only at hle2; omega
    subst this
    unfold next
    rw [e, e1]
    exact ⟨rfl, rfl, rfl⟩

theorem CN.merge {of : List Int} {a b : Nat} (hC : CN of) (ha : a < of.length) (hb : b < of.length) (h1 : of.getD a 0 = a) (h2 : of.getD b 0 = b) : CN (merged of (a, b)) := fun k hk => by
  rw [merged_len] at hk
  obtain ⟨r, r1, r2, r3⟩ := hC k hk
  rw [getD_merged _ _ _ hk, r1]
  dsimp only
  by_cases hc : ((r : Int) == (a : Int) || (r : Int) == (b : Int)) = true
  · rw [if_pos hc]
    simp only [Bool.or_eq_true, beq_iff_eq] at hc
    refine ⟨min a b, by split <;> omega, by omega, ?_⟩
    rw [getD_merged _ _ _ (by omega)]
    dsimp only
    have e : of.getD (min a b) 0 = ((min a b : Nat) : Int) := by
      rcases Nat.le_total a b with h | h
      · rw [Nat.min_eq_left h, h1]
      · rw [Nat.min_eq_right h, h2]
    rw [e, if_pos (by simp only [Bool.or_eq_true, beq_iff_eq]; omega)]
    split <;> omega
  · rw [if_neg hc]
    refine ⟨r, rfl, r2, ?_⟩
    rw [getD_merged _ _ _ (by omega), r3, if_neg hc]

theorem named_at {l : List Int} {k : Nat} (hk : k < l.length) : (named l).getD k 0 = (l.idxOf l[k] : Int) := by simp [named, List.getD, hk]

theorem idxOf_first {l : List Int} {k r : Nat} (hk : k < l.length) (hr : r ≤ k) (he : l[r]'(by omega) = l[k]) (hf : ∀ i (h : i < r), l[i]'(by omega) ≠ l[k]) : l.idxOf l[k] = r := by
  have h1 : l.idxOf l[k] < l.length := List.idxOf_lt_length_of_mem (List.getElem_mem hk)
  have h2 : l[l.idxOf l[k]] = l[k] := List.getElem_idxOf h1
  rcases Nat.lt_trichotomy (l.idxOf l[k]) r with h | h | h
  · exact (hf _ h h2).elim
  · exact h
  · exfalso
    have := List.not_of_lt_findIdx (p := (· == l[k])) (xs := l) (i := r) h
    simp [he] at this

theorem named_cn (l : List Int) : CN (named l) := fun k hk => by
  rw [named_len] at hk
  have h1 : l.idxOf l[k] < l.length := List.idxOf_lt_length_of_mem (List.getElem_mem hk)
  have h2 : l[l.idxOf l[k]] = l[k] := List.getElem_idxOf h1
  refine ⟨l.idxOf l[k], named_at hk, ?_, ?_⟩
  · by_cases h : l.idxOf l[k] ≤ k
    · exact h
    · have := List.not_of_lt_findIdx (p := (· == l[k])) (xs := l) (i := k) (by unfold List.idxOf at h; omega)
      simp at this
  · rw [named_at h1, h2]

/-- The same groups. -/
theorem named_same {l of : List Int} (hl : l.length = of.length) (hC : CN of) (hs : ∀ i j (hi : i < of.length) (hj : j < of.length), l[i]'(by omega) = l[j]'(by omega) ↔ of[i] = of[j]) : named l = of := by
  apply List.ext_getElem
  · rw [named_len, hl]
  · intro k h1 h2
    obtain ⟨r, r1, r2, r3⟩ := hC k h2
    have e1 : of[k] = (r : Int) := by simpa [List.getD, h2] using r1
    have e3 : of[r]'(by omega) = (r : Int) := by have := r3; simp only [List.getD] at this; rw [List.getElem?_eq_getElem (by omega)] at this; simpa using this
    rw [e1]
    have := idxOf_first (l := l) (k := k) (r := r) (by omega) r2 ((hs r k (by omega) h2).2 (by rw [e1, e3])) (fun i hi he => by
      have he := (hs i k (by omega) h2).1 he
      obtain ⟨q, q1, q2, q3⟩ := hC i (by omega)
      have e4 : of[i] = (q : Int) := by simp only [List.getD] at q1; rw [List.getElem?_eq_getElem (by omega)] at q1; simpa using q1
      omega)
    have h3 := named_at (l := l) (k := k) (by omega)
    simp only [List.getD] at h3
    rw [List.getElem?_eq_getElem h1] at h3
    simp only [Option.getD_some] at h3
    rw [h3, this]

theorem ixSt_inv (ofs : List Int) (k : Nat) (hk : k ≤ ofs.length) : (∀ j (h : j < k), (ixSt ofs k).1 (ofs.getD j 0) = some ((ixSt ofs k).2.2[j]'(by rw [(ixSt_len ofs k).1]; exact h))) ∧
    (∀ x y v, (ixSt ofs k).1 x = some v → (ixSt ofs k).1 y = some v → x = y) ∧ (∀ x v, (ixSt ofs k).1 x = some v → 0 ≤ v ∧ v < (ixSt ofs k).2.1) := by
  induction k with
  | zero => exact ⟨by omega, by simp [ixSt], by simp [ixSt]⟩
  | succ k ih =>
    obtain ⟨h1, h2, h3⟩ := ih (by omega)
    have hL := (ixSt_len ofs k).1
    by_cases hc : ((ixSt ofs k).1 (ofs.getD k 0)).isSome = true
    · have e : ixSt ofs (k + 1) = ((ixSt ofs k).1, (ixSt ofs k).2.1, (ixSt ofs k).2.2 ++ [((ixSt ofs k).1 (ofs.getD k 0)).getD 0]) := by rw [ixSt, if_pos hc]
      simp only [e]
      refine ⟨fun j hj => ?_, h2, h3⟩
      by_cases hjk : j < k
      · rw [h1 j hjk, List.getElem_append_left]
      · obtain rfl : j = k := by omega
        rw [List.getElem_append_right (by omega)]
        obtain ⟨v, hv⟩ := Option.isSome_iff_exists.1 hc
        simp only [hL, Nat.sub_self, List.getElem_cons_zero, hv, Option.getD_some]
    · have e : ixSt ofs (k + 1) = (setF (ixSt ofs k).1 (ofs.getD k 0) (ixSt ofs k).2.1, (ixSt ofs k).2.1 + 1, (ixSt ofs k).2.2 ++ [((ixSt ofs k).2.1 : Int)]) := by rw [ixSt, if_neg hc]
      simp only [e]
      have hnone : (ixSt ofs k).1 (ofs.getD k 0) = none := by simpa using hc
      refine ⟨fun j hj => ?_, fun x y v hx hy => ?_, fun x v hx => ?_⟩
      · by_cases hjk : j < k
        · have hne : ofs.getD j 0 ≠ ofs.getD k 0 := fun h => by
            have := h1 j hjk
            rw [h, hnone] at this
            cases this
          unfold setF
          rw [if_neg hne, h1 j hjk, List.getElem_append_left]
        · obtain rfl : j = k := by omega
          rw [List.getElem_append_right (by omega)]
          simp [setF, hL]
      · unfold setF at hx hy
        split at hx <;> split at hy
        · rename_i a b; rw [a, b]
        · injection hx with hx; have := h3 y v hy; omega
        · injection hy with hy; have := h3 x v hx; omega
        · exact h2 x y v hx hy
      · unfold setF at hx
        split at hx
        · injection hx with hx; omega
        · have := h3 x v hx; omega

theorem ix_len (ofs : List Int) : (ix ofs).length = ofs.length := (ixSt_len ofs _).1

theorem ix_iff (ofs : List Int) (i j : Nat) (hi : i < ofs.length) (hj : j < ofs.length) : (ix ofs)[i]'(by rw [ix_len]; exact hi) = (ix ofs)[j]'(by rw [ix_len]; exact hj) ↔ ofs[i] = ofs[j] := by
  obtain ⟨h1, h2, h3⟩ := ixSt_inv ofs ofs.length (Nat.le_refl _)
  have a1 := h1 i hi
  have a2 := h1 j hj
  have g1 : ofs.getD i 0 = ofs[i] := by simp [List.getD, hi]
  have g2 : ofs.getD j 0 = ofs[j] := by simp [List.getD, hj]
  rw [g1] at a1
  rw [g2] at a2
  unfold ix
  constructor
  · intro h
    rw [h] at a1
    exact h2 _ _ _ a1 a2
  · intro h
    rw [h, a2] at a1
    injection a1 with a1
    exact a1.symm

theorem named_ix {of : List Int} (hC : CN of) : named (ix of) = of := named_same (ix_len of) hC (fun i j hi hj => ix_iff of i j hi hj)

theorem alone_at {n k : Nat} (hk : k < n) : (alone n).getD k 0 = k := by simp [alone, List.getD, hk]
theorem alone_cn (n : Nat) : CN (alone n) := fun k hk => by
  rw [alone_len] at hk
  exact ⟨k, alone_at hk, Nat.le_refl _, alone_at hk⟩
theorem named_alone (n : Nat) : named (alone n) = alone n := named_same rfl (alone_cn n) (fun _ _ _ _ => Iff.rfl)

/-- All scales: the groups and the merges of each. -/
def chain (ws : List Int) (ns : List (Int × Int × Int)) : List Int → List Int → List (List Int × List (Int × Int))
  | _, [] => []
  | of, n :: ls => scale ws ns of n :: chain ws ns (scale ws ns of n).1 ls

theorem chain_len (ws : List Int) (ns : List (Int × Int × Int)) : ∀ (ls of : List Int), (chain ws ns of ls).length = ls.length
  | [], _ => rfl
  | n :: ls, of => by simp [chain, chain_len ws ns ls]

/-- The groups behind the first scales. -/
def after (ws : List Int) (ns : List (Int × Int × Int)) (of : List Int) (ls : List Int) : List Int := ls.foldl (fun o n => (scale ws ns o n).1) of

theorem chain_snoc (ws : List Int) (ns : List (Int × Int × Int)) (n : Int) : ∀ (ls of : List Int), chain ws ns of (ls ++ [n]) = chain ws ns of ls ++ [scale ws ns (after ws ns of ls) n]
  | [], _ => rfl
  | m :: ls, of => by
    have := chain_snoc ws ns n ls (scale ws ns of m).1
    simp only [List.cons_append, chain, this, after, List.foldl_cons]

theorem after_snoc (ws : List Int) (ns : List (Int × Int × Int)) (of ls : List Int) (n : Int) : after ws ns of (ls ++ [n]) = (scale ws ns (after ws ns of ls) n).1 := by simp [after]

section
variable (x y : Int) (ws : List Int) (ns : List (Int × Int × Int))
/-- The graph with other units. -/
def wsX : List Int := ws.map (x * ·)
def nsY : List (Int × Int × Int) := ns.map fun t => (t.1, t.2.1, y * t.2.2)

theorem wsX_getD (k : Nat) : (wsX x ws).getD k 0 = x * ws.getD k 0 := by
  by_cases hk : k < ws.length <;> simp [wsX, List.getD, hk]
theorem nsY_getD (k : Nat) : (nsY y ns).getD k (0, 0, 0) = ((ns.getD k (0, 0, 0)).1, (ns.getD k (0, 0, 0)).2.1, y * (ns.getD k (0, 0, 0)).2.2) := by
  by_cases hk : k < ns.length <;> simp [nsY, List.getD, hk]

theorem weightTo_X (of : List Int) (g : Int) (k : Nat) : weightTo (wsX x ws) of g k = x * weightTo ws of g k := by
  induction k with
  | zero => simp [weightTo]
  | succ k ih => rw [weightTo, weightTo, ih, wsX_getD, Int.mul_add]; split <;> simp
theorem weight_X (of : List Int) (g : Int) : weight (wsX x ws) of g = x * weight ws of g := weightTo_X x ws of g _

theorem commonTo_Y (of : List Int) (a b : Int) (k : Nat) : commonTo (nsY y ns) of a b k = y * commonTo ns of a b k := by
  induction k with
  | zero => simp [commonTo]
  | succ k ih => rw [commonTo, commonTo, ih, nsY_getD, Int.mul_add]; split <;> simp
theorem common_Y (of : List Int) (a b : Int) : common (nsY y ns) of a b = y * common ns of a b := by
  unfold common
  rw [commonTo_Y, nsY, List.length_map]

variable {x y}
theorem mul_lt' {a b c : Int} (h : 0 < c) : c * a < c * b ↔ a < b := Int.mul_lt_mul_left h
theorem mul_le' {a b c : Int} (h : 0 < c) : c * a ≤ c * b ↔ a ≤ b := Int.mul_le_mul_left h

theorem nbTo_Y (hy : 0 < y) (of : List Int) (a : Int) (k : Nat) : nbTo (nsY y ns) of a k = ((nbTo ns of a k).1, y * (nbTo ns of a k).2) := by
  induction k with
  | zero => simp [nbTo]
  | succ k ih =>
    rw [nbTo, nbTo, ih, common_Y]
    simp only [mul_lt' hy]
    split
    · rfl
    · split <;> rfl
theorem nb_Y (hy : 0 < y) (of : List Int) (a : Int) : nb (nsY y ns) of a = nb ns of a := by unfold nb; rw [nbTo_Y ns hy]

theorem nextTo_XY (hx : 0 < x) (hy : 0 < y) (of : List Int) (least : Int) (k : Nat) :
    nextTo (wsX x ws) (nsY y ns) of (x * least) k = ((nextTo ws ns of least k).1, (nextTo ws ns of least k).2.1, (nextTo ws ns of least k).2.2.1, x * (nextTo ws ns of least k).2.2.2) := by
  induction k with
  | zero => simp [nextTo]
  | succ k ih =>
    rw [nextTo, nextTo, ih, weight_X, nb_Y ns hy]
    simp only [mul_le' hx]
    split
    · rfl
    · split
      · rfl
      · split <;> rfl

theorem scaleF_XY (hx : 0 < x) (hy : 0 < y) (least : Int) (f : Nat) : ∀ of, scaleF (wsX x ws) (nsY y ns) (x * least) f of = scaleF ws ns least f of := by
  induction f with
  | zero => intro of; rfl
  | succ f ih =>
    intro of
    rw [scaleF, scaleF]
    unfold next
    rw [nextTo_XY ws ns hx hy]
    simp only [ih]

theorem scale_XY (hx : 0 < x) (hy : 0 < y) (of : List Int) (least : Int) : scale (wsX x ws) (nsY y ns) of (x * least) = scale ws ns of least := scaleF_XY ws ns hx hy least _ of

theorem chain_XY (hx : 0 < x) (hy : 0 < y) : ∀ (ls of : List Int), chain (wsX x ws) (nsY y ns) of (ls.map (x * ·)) = chain ws ns of ls
  | [], _ => rfl
  | n :: ls, of => by rw [List.map_cons, chain, chain, scale_XY ws ns hx hy, chain_XY hx hy]
end
end Go.Proofs.Ytmdgdphhedgojaa
