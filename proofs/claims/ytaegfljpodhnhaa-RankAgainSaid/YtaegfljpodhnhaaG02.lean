import Derived.Test.YtaegfljpodhnhaaR42
namespace Go.Proofs.Ytaegfljpodhnhaa
open Go.RowKit Go.Maps

/-- The groups among the first faces. -/
def gk (l : List Int) : Nat → Nat
  | 0 => 0
  | k + 1 => if l.getD k 0 = (gk l k : Int) then gk l k + 1 else gk l k

/-- A list of indices, each at most the number of groups ahead of it. -/
def GoodL (l : List Int) : Prop := ∀ k, k < l.length → 0 ≤ l.getD k 0 ∧ l.getD k 0 ≤ (gk l k : Int)

theorem good_of {l : List Int} (h : listB 0 l = true) : GoodL l := by
  have key : ∀ k, k ≤ l.length → listB (gk l k) (l.drop k) = true := by
    intro k
    induction k with
    | zero => intro _; simpa [gk] using h
    | succ k ih =>
      intro hk
      have hx : l[k]? = some l[k] := List.getElem?_eq_getElem (by omega)
      have hg : l.getD k 0 = l[k] := by simp [List.getD, hx]
      have h1 := ih (by omega)
      rw [listB_drop hx] at h1
      simp only [Bool.and_eq_true, decide_eq_true_eq] at h1
      have e : max (gk l k : Int) (l[k] + 1) = (gk l (k + 1) : Int) := by
        rw [gk, hg]
        split <;> omega
      rw [← e]
      exact h1.2
  intro k hk
  have hx : l[k]? = some l[k] := List.getElem?_eq_getElem hk
  have hg : l.getD k 0 = l[k] := by simp [List.getD, hx]
  have h1 := key k (by omega)
  rw [listB_drop hx] at h1
  simp only [Bool.and_eq_true, decide_eq_true_eq] at h1
  rw [hg]
  exact h1.1

theorem gk_step (l : List Int) (k : Nat) : gk l k ≤ gk l (k + 1) := by rw [gk]; split <;> omega
theorem gk_mono (l : List Int) {j k : Nat} (h : j ≤ k) : gk l j ≤ gk l k := by
  induction k with
  | zero => obtain rfl : j = 0 := by omega
            exact Nat.le_refl _
  | succ k ih =>
    rcases Nat.lt_or_ge j (k + 1) with h1 | h1
    · exact Nat.le_trans (ih (by omega)) (gk_step l k)
    · obtain rfl : j = k + 1 := by omega
      exact Nat.le_refl _
theorem gk_le (l : List Int) (k : Nat) : gk l k ≤ k := by
  induction k with
  | zero => exact Nat.le_refl _
  | succ k ih => rw [gk]; split <;> omega
theorem gk_lt {l : List Int} (h : GoodL l) {j k : Nat} (hj : j < k) (hl : j < l.length) : 0 ≤ l.getD j 0 ∧ l.getD j 0 < (gk l k : Int) := by
  have h1 := h j hl
  have h2 := gk_mono l (show j + 1 ≤ k from hj)
  rw [gk] at h2
  split at h2 <;> omega
theorem gk_occ (l : List Int) (v : Nat) : ∀ k, v < gk l k → ∃ j, j < k ∧ l.getD j 0 = v
  | 0, h => by simp [gk] at h
  | k + 1, h => by
    rw [gk] at h
    split at h
    · rename_i hc
      rcases Nat.lt_or_ge v (gk l k) with h1 | h1
      · obtain ⟨j, hj, e⟩ := gk_occ l v k h1
        exact ⟨j, by omega, e⟩
      · exact ⟨k, by omega, by rw [hc]; omega⟩
    · obtain ⟨j, hj, e⟩ := gk_occ l v k h
      exact ⟨j, by omega, e⟩
theorem gk_mem {l : List Int} {v : Nat} (h : v < gk l l.length) : (v : Int) ∈ l := by
  obtain ⟨j, hj, e⟩ := gk_occ l v _ h
  have hx : l[j]? = some l[j] := List.getElem?_eq_getElem hj
  have hg : l.getD j 0 = l[j] := by simp [List.getD, hx]
  rw [← e, hg]
  exact List.getElem_mem hj

/-- The faces that are first in their groups, among the first. -/
def nmTo (of : List Int) : Nat → List Int
  | 0 => []
  | i + 1 => if of.getD i 0 = (i : Int) then nmTo of i ++ [(i : Int)] else nmTo of i

/-- The first face of a group. -/
def rt (l : List Int) (n : Nat) : Int := ((l.idxOf (n : Int) : Nat) : Int)

theorem nm_eq {l : List Int} (h : GoodL l) : ∀ i, i ≤ l.length → nmTo (named l) i = (List.range (gk l i)).map (rt l)
  | 0, _ => by simp [nmTo, gk]
  | i + 1, hi => by
    have ih := nm_eq h i (by omega)
    have hx : l[i]? = some l[i] := List.getElem?_eq_getElem (by omega)
    have hg : l.getD i 0 = l[i] := by simp [List.getD, hx]
    have hb := h i (by omega)
    have hn : (named l).getD i 0 = (l.idxOf l[i] : Int) := named_get hx
    rw [nmTo, hn]
    by_cases hc : l.getD i 0 = (gk l i : Int)
    · have e : l.idxOf l[i] = i := idx_at hx (fun j hj hs => by
        have h1 := gk_lt h hj (by omega)
        have h2 : l.getD j 0 = l[i] := by simp [List.getD, hs]
        rw [h2, ← hg, hc] at h1
        omega)
      rw [if_pos (by rw [e]), ih, gk, if_pos hc, List.range_succ, List.map_append]
      have e2 : rt l (gk l i) = (i : Int) := by
        unfold rt
        rw [← hc, hg, e]
      simp [e2]
    · have hlt : (l.getD i 0).toNat < gk l i := by omega
      obtain ⟨j, hj, e⟩ := gk_occ l _ _ hlt
      have hj2 : l[j]? = some l[i] := by
        have h3 : l[j]? = some l[j] := List.getElem?_eq_getElem (by omega)
        have h4 : l.getD j 0 = l[j] := by simp [List.getD, h3]
        rw [h3, ← h4, e, ← hg]
        congr 1
        omega
      have h5 := idx_le hj2
      rw [if_neg (by omega), ih, gk, if_neg hc]

theorem idx_inj {l : List Int} {x y : Int} (hx : x ∈ l) (hy : y ∈ l) (h : l.idxOf x = l.idxOf y) : x = y := by
  have h1 := List.getElem_idxOf (List.idxOf_lt_length_of_mem hx)
  have h2 := List.getElem_idxOf (List.idxOf_lt_length_of_mem hy)
  rw [← h1, ← h2]
  congr 1

theorem weightTo_named (ws : List Int) {l : List Int} {n : Nat} (hn : (n : Int) ∈ l) : ∀ k, k ≤ l.length → weightTo ws (named l) (rt l n) k = weightTo ws l n k
  | 0, _ => rfl
  | k + 1, hk => by
    have hx : l[k]? = some l[k] := List.getElem?_eq_getElem (by omega)
    have hg : l.getD k 0 = l[k] := by simp [List.getD, hx]
    rw [weightTo, weightTo, weightTo_named ws hn k (by omega), named_get hx, hg]
    congr 1
    by_cases e : l[k] = (n : Int)
    · rw [if_pos (by rw [e]; rfl), if_pos e]
    · rw [if_neg (fun h => e (idx_inj (List.getElem_mem _) hn (by unfold rt at h; omega))), if_neg e]
theorem weight_named (ws : List Int) {l : List Int} {n : Nat} (hn : (n : Int) ∈ l) : weight ws (named l) (rt l n) = weight ws l n := by
  unfold weight
  rw [named_len]
  exact weightTo_named ws hn _ (Nat.le_refl _)

theorem named_iff {l : List Int} {x : Nat} (hx : x < l.length) {n : Nat} (hn : (n : Int) ∈ l) : ((named l).getD x 0 == rt l n) = (l.getD x 0 == (n : Int)) := by
  have h : l[x]? = some l[x] := List.getElem?_eq_getElem hx
  have hg : l.getD x 0 = l[x] := by simp [List.getD, h]
  rw [named_get h, hg, Bool.eq_iff_iff, beq_iff_eq, beq_iff_eq]
  constructor
  · intro e
    exact idx_inj (List.getElem_mem _) hn (by unfold rt at e; omega)
  · intro e
    rw [e]
    rfl
theorem commonTo_named {ns : List (Int × Int × Int)} {l : List Int} (hN : NOK l.length ns) {a b : Nat} (ha : (a : Int) ∈ l) (hb : (b : Int) ∈ l) : ∀ k, k ≤ ns.length → commonTo ns (named l) (rt l a) (rt l b) k = commonTo ns l a b k
  | 0, _ => rfl
  | k + 1, hk => by
    have ht : ns[k]? = some ns[k] := List.getElem?_eq_getElem (by omega)
    have h := hN.at ht
    rw [commonTo, commonTo, commonTo_named hN ha hb k (by omega), tri_getD ht, named_iff (by omega) ha, named_iff (by omega) hb, named_iff (by omega) ha, named_iff (by omega) hb]
theorem common_named {ns : List (Int × Int × Int)} {l : List Int} (hN : NOK l.length ns) {a b : Nat} (ha : (a : Int) ∈ l) (hb : (b : Int) ∈ l) : common ns (named l) (rt l a) (rt l b) = common ns l a b :=
  commonTo_named hN ha hb _ (Nat.le_refl _)

/-- The weights of the groups, as the first faces have them. -/
def wTo (ws l : List Int) (k : Nat) : List Int := (List.range (gk l k)).map fun n : Nat => weightTo ws l (n : Int) k
def qW (ws l : List Int) : List Int := wTo ws l l.length
theorem wTo_len (ws l : List Int) (k : Nat) : (wTo ws l k).length = gk l k := by simp [wTo]

theorem weightTo_none (ws : List Int) {l : List Int} (h : GoodL l) {n : Nat} : ∀ k, k ≤ l.length → gk l k ≤ n → weightTo ws l n k = 0
  | 0, _, _ => rfl
  | k + 1, hk, hn => by
    have h1 : 0 ≤ l.getD k 0 ∧ l.getD k 0 < (gk l (k + 1) : Int) := gk_lt h (Nat.lt_succ_self k) (by omega)
    rw [weightTo, weightTo_none ws h k (by omega) (Nat.le_trans (gk_step l k) hn), if_neg (by omega)]
    rfl
/-- One more face: its group's weight grows, behind a new group's if it is one. -/
theorem wTo_succ (ws : List Int) {l : List Int} (h : GoodL l) {k n : Nat} {x : Int} (hk : k < l.length) (hn : l.getD k 0 = (n : Int)) (hx : ws.getD k 0 = x) :
    wTo ws l (k + 1) = (wTo ws l k ++ List.replicate (gk l (k + 1) - gk l k) 0).set n ((wTo ws l k ++ List.replicate (gk l (k + 1) - gk l k) 0).getD n 0 + x) := by
  have hs := gk_step l k
  have hg : gk l (k + 1) ≤ gk l k + 1 := by rw [gk]; split <;> omega
  have hb : 0 ≤ l.getD k 0 ∧ l.getD k 0 < (gk l (k + 1) : Int) := gk_lt h (Nat.lt_succ_self k) hk
  have hrow : ∀ j, j < gk l (k + 1) → (wTo ws l k ++ List.replicate (gk l (k + 1) - gk l k) 0)[j]? = some (weightTo ws l (j : Int) k) := fun j hj => by
    rcases Nat.lt_or_ge j (gk l k) with h1 | h1
    · rw [List.getElem?_append_left (by rw [wTo_len]; exact h1)]
      simp [wTo, h1]
    · rw [List.getElem?_append_right (by rw [wTo_len]; exact h1), wTo_len, List.getElem?_replicate, if_pos (by omega), weightTo_none ws h k (by omega) h1]
  apply List.ext_getElem?
  intro j
  by_cases hj : j < gk l (k + 1)
  · have hnj := hrow n (by omega)
    have hnl : n < (wTo ws l k ++ List.replicate (gk l (k + 1) - gk l k) 0).length := (List.getElem?_eq_some_iff.1 hnj).1
    have e : (wTo ws l (k + 1))[j]? = some (weightTo ws l (j : Int) (k + 1)) := by simp [wTo, hj]
    rw [e, weightTo, hn, hx]
    by_cases hjn : n = j
    · subst hjn
      rw [if_pos rfl, List.getElem?_set_self hnl, List.getD, hnj]
      rfl
    · rw [if_neg (by omega), List.getElem?_set_ne hjn, hrow j hj, Int.add_zero]
  · rw [List.getElem?_eq_none (by rw [wTo_len]; omega), List.getElem?_eq_none (by rw [List.length_set, List.length_append, wTo_len, List.length_replicate]; omega)]

/-- The common lengths of groups, a pair's lesser first. -/
def nearL (ns : List (Int × Int × Int)) (of : List Int) (i : Nat) : Int × Int → Option Int := fun p =>
  if p.1 < p.2 ∧ 0 < commonTo ns of p.1 p.2 i then some (commonTo ns of p.1 p.2 i) else none
theorem nearL_getD {n : Nat} {ns : List (Int × Int × Int)} {of : List Int} (h : NOK n ns) (i : Nat) {p : Int × Int} (hp : p.1 < p.2) : (nearL ns of i p).getD 0 = commonTo ns of p.1 p.2 i := by
  have := commonTo_bd (of := of) (a := p.1) (b := p.2) h i
  unfold nearL
  split
  · rfl
  · rename_i hc
    have h0 : ¬ 0 < commonTo ns of p.1 p.2 i := fun h => hc ⟨hp, h⟩
    show (0 : Int) = _
    omega
theorem nearL_same {ns : List (Int × Int × Int)} {of : List Int} {i : Nat} {x y : Nat} {z a : Int} (ht : ns[i]? = some ((x : Int), (y : Int), z)) (ha : of.getD x 0 = a) (hb : of.getD y 0 = a) :
    nearL ns of (i + 1) = nearL ns of i := by
  funext p
  unfold nearL
  by_cases hp : p.1 < p.2
  · have hs := commonTo_step ht ha hb p.1 p.2
    rw [if_neg (by simp; omega), Int.add_zero] at hs
    rw [hs]
  · simp [hp]
theorem nearL_step {n : Nat} {ns : List (Int × Int × Int)} {of : List Int} {i : Nat} {x y : Nat} {z a b : Int} (h : NOK n ns) (ht : ns[i]? = some ((x : Int), (y : Int), z)) (ha : of.getD x 0 = a) (hb : of.getD y 0 = b) (hab : a ≠ b) :
    nearL ns of (i + 1) = setF (nearL ns of i) (min a b, max a b) ((nearL ns of i (min a b, max a b)).getD 0 + z) := by
  have hz := h.at ht
  simp only at hz
  have hlt : min a b < max a b := by omega
  rw [nearL_getD h i hlt]
  funext p
  obtain ⟨c, d⟩ := p
  have hs := commonTo_step ht ha hb c d
  have hc1 := commonTo_bd (of := of) (a := c) (b := d) h i
  unfold setF
  by_cases e1 : (c, d) = (min a b, max a b)
  · rw [if_pos e1]
    injection e1 with e1 e2
    have hm : (a == c && b == d || a == d && b == c) = true := by
      simp only [Bool.or_eq_true, Bool.and_eq_true, beq_iff_eq]
      omega
    rw [if_pos hm] at hs
    unfold nearL
    simp only
    rw [if_pos (by rw [hs]; omega), hs, ← e1, ← e2]
  · rw [if_neg e1]
    unfold nearL
    simp only
    by_cases hcd : c < d
    · have hm : ¬ (a == c && b == d || a == d && b == c) = true := by
        simp only [Bool.or_eq_true, Bool.and_eq_true, beq_iff_eq]
        intro hh
        exact e1 (by rw [show c = min a b by omega, show d = max a b by omega])
      rw [if_neg hm, Int.add_zero] at hs
      rw [hs]
    · rw [if_neg (fun hh => hcd hh.1), if_neg (fun hh => hcd hh.1)]

/-- What a pair of groups has in common: they are groups. -/
theorem common_in {ns : List (Int × Int × Int)} {l : List Int} (hN : NOK l.length ns) (h : GoodL l) {a b : Int} : ∀ k, k ≤ ns.length → 0 < commonTo ns l a b k → (0 ≤ a ∧ a < (gk l l.length : Int)) ∧ (0 ≤ b ∧ b < (gk l l.length : Int))
  | 0, _, hp => by simp [commonTo] at hp
  | k + 1, hk, hp => by
    have ht : ns[k]? = some ns[k] := List.getElem?_eq_getElem (by omega)
    have hb := hN.at ht
    rw [commonTo, tri_getD ht] at hp
    split at hp
    · rename_i hc
      have h1 := gk_lt h (j := ns[k].1.toNat) (k := l.length) (by omega) (by omega)
      have h2 := gk_lt h (j := ns[k].2.1.toNat) (k := l.length) (by omega) (by omega)
      simp only [Bool.or_eq_true, Bool.and_eq_true, beq_iff_eq] at hc
      omega
    · exact common_in hN h k (by omega) (by omega)

/-- A row of the graph of groups, and the whole. -/
def rowTo (ns : List (Int × Int × Int)) (l : List Int) (i : Nat) : Nat → List (Int × Int × Int)
  | 0 => []
  | m + 1 => rowTo ns l i m ++ if 0 < common ns l (i : Int) ((i + 1 + m : Nat) : Int) then [((i : Int), ((i + 1 + m : Nat) : Int), common ns l (i : Int) ((i + 1 + m : Nat) : Int))] else []
def nrTo (ns : List (Int × Int × Int)) (l : List Int) (G : Nat) : Nat → List (Int × Int × Int)
  | 0 => []
  | i + 1 => nrTo ns l G i ++ rowTo ns l i (G - (i + 1))
def qN (ns : List (Int × Int × Int)) (l : List Int) : List (Int × Int × Int) := nrTo ns l (gk l l.length) (gk l l.length)

/-- The order of borders. -/
def tLt (s t : Int × Int × Int) : Prop := s.1 < t.1 ∨ s.1 = t.1 ∧ s.2.1 < t.2.1
theorem row_mem {ns : List (Int × Int × Int)} {l : List Int} {i : Nat} {t : Int × Int × Int} : ∀ m, t ∈ rowTo ns l i m ↔ ∃ j : Nat, i < j ∧ j < i + 1 + m ∧ 0 < common ns l i j ∧ t = ((i : Int), (j : Int), common ns l i j)
  | 0 => by
    simp only [rowTo, List.not_mem_nil, false_iff]
    rintro ⟨j, h1, h2, _⟩
    omega
  | m + 1 => by
    rw [rowTo, List.mem_append, row_mem m]
    constructor
    · rintro (⟨j, h1, h2, h3⟩ | h)
      · exact ⟨j, h1, by omega, h3⟩
      · split at h
        · rename_i hc
          simp only [List.mem_singleton] at h
          exact ⟨i + 1 + m, by omega, by omega, hc, h⟩
        · simp at h
    · rintro ⟨j, h1, h2, h3, h4⟩
      rcases Nat.lt_or_ge j (i + 1 + m) with hj | hj
      · exact .inl ⟨j, h1, hj, h3, h4⟩
      · obtain rfl : j = i + 1 + m := by omega
        right
        rw [if_pos h3]
        simp only [List.mem_singleton]
        exact h4
theorem row_sorted {ns : List (Int × Int × Int)} {l : List Int} {i : Nat} : ∀ m, (rowTo ns l i m).Pairwise tLt
  | 0 => by simp [rowTo]
  | m + 1 => by
    rw [rowTo, List.pairwise_append]
    refine ⟨row_sorted m, by split <;> simp, fun s hs t ht => ?_⟩
    obtain ⟨j, h1, h2, h3, rfl⟩ := (row_mem m).1 hs
    split at ht
    · simp only [List.mem_singleton] at ht
      subst ht
      exact .inr ⟨rfl, show (j : Int) < ((i + 1 + m : Nat) : Int) by omega⟩
    · simp at ht
theorem nr_mem {ns : List (Int × Int × Int)} {l : List Int} {G : Nat} {t : Int × Int × Int} : ∀ i, i ≤ G → (t ∈ nrTo ns l G i ↔ ∃ a b : Nat, a < i ∧ a < b ∧ b < G ∧ 0 < common ns l a b ∧ t = ((a : Int), (b : Int), common ns l a b))
  | 0, _ => by
    simp only [nrTo, List.not_mem_nil, false_iff]
    rintro ⟨a, b, h1, _⟩
    omega
  | i + 1, hi => by
    rw [nrTo, List.mem_append, nr_mem i (by omega), row_mem]
    constructor
    · rintro (⟨a, b, h1, h2⟩ | ⟨j, h1, h2, h3⟩)
      · exact ⟨a, b, by omega, h2⟩
      · exact ⟨i, j, by omega, h1, by omega, h3⟩
    · rintro ⟨a, b, h1, h2, h3, h4⟩
      rcases Nat.lt_or_ge a i with ha | ha
      · exact .inl ⟨a, b, ha, h2, h3, h4⟩
      · obtain rfl : a = i := by omega
        exact .inr ⟨b, h2, by omega, h4⟩
theorem nr_sorted {ns : List (Int × Int × Int)} {l : List Int} {G : Nat} : ∀ i, i ≤ G → (nrTo ns l G i).Pairwise tLt
  | 0, _ => by simp [nrTo]
  | i + 1, hi => by
    rw [nrTo, List.pairwise_append]
    refine ⟨nr_sorted i (by omega), row_sorted _, fun s hs t ht => ?_⟩
    obtain ⟨a, b, h1, _, _, _, rfl⟩ := (nr_mem i (by omega)).1 hs
    obtain ⟨j, _, _, _, rfl⟩ := (row_mem _).1 ht
    exact .inl (show (a : Int) < (i : Int) by omega)
theorem tLt_irr (t : Int × Int × Int) : ¬ tLt t t := by unfold tLt; omega

/-- What a range over the common lengths collects, in order: the graph of groups. -/
theorem near_sorted {ns : List (Int × Int × Int)} {l : List Int} (hN : NOK l.length ns) (hL : GoodL l) {done : List (Int × Int)} {ts : List (Int × Int × Int)} (hd : done.Nodup) (hk : ∀ p, p ∈ done ↔ (nearL ns l ns.length p).isSome = true)
    (hp : ts.Perm (done.map fun p => (p.1, p.2, (nearL ns l ns.length p).getD 0))) (hs : ts.Pairwise fun s t => ¬ tLt t s) : ts = qN ns l := by
  have hkey : ∀ p, p ∈ done → p.1 < p.2 ∧ 0 < common ns l p.1 p.2 := fun p hp => by
    have h := (hk p).1 hp
    unfold nearL at h
    split at h
    · rename_i hc; exact hc
    · simp at h
  have hmem : ∀ t, t ∈ ts ↔ t ∈ qN ns l := fun t => by
    rw [hp.mem_iff, qN, nr_mem _ (Nat.le_refl _), List.mem_map]
    constructor
    · rintro ⟨p, hp1, rfl⟩
      obtain ⟨h1, h2⟩ := hkey p hp1
      obtain ⟨h3, h4⟩ := common_in hN hL (a := p.1) (b := p.2) _ (Nat.le_refl _) h2
      refine ⟨p.1.toNat, p.2.toNat, by omega, by omega, by omega, ?_, ?_⟩
      · rw [show ((p.1.toNat : Nat) : Int) = p.1 by omega, show ((p.2.toNat : Nat) : Int) = p.2 by omega]; exact h2
      · rw [show ((p.1.toNat : Nat) : Int) = p.1 by omega, show ((p.2.toNat : Nat) : Int) = p.2 by omega, nearL_getD hN _ h1]; rfl
    · rintro ⟨a, b, _, h2, _, h4, rfl⟩
      have hlt : ((a : Int), (b : Int)).1 < ((a : Int), (b : Int)).2 := by simp only; omega
      refine ⟨((a : Int), (b : Int)), (hk _).2 ?_, ?_⟩
      · unfold nearL
        rw [if_pos ⟨hlt, h4⟩]
        rfl
      · rw [nearL_getD hN _ hlt]
        rfl
  have hnd : ts.Nodup := by
    refine hp.symm.nodup ?_
    refine List.Pairwise.map _ (fun a b hab e => hab ?_) hd
    injection e with e1 e2
    injection e2 with e2 _
    exact Prod.ext e1 e2
  have hq : (qN ns l).Pairwise tLt := nr_sorted _ (Nat.le_refl _)
  have hqn : (qN ns l).Nodup := hq.imp (fun h e => by subst e; exact tLt_irr _ h)
  have hperm : ts.Perm (qN ns l) := (List.perm_ext_iff_of_nodup hnd hqn).2 hmem
  refine List.Perm.eq_of_pairwise (le := fun s t => ¬ tLt t s) (fun s t h1 h2 h3 h4 => ?_) hs (hq.imp (fun h => by unfold tLt at *; omega)) hperm
  rw [hmem] at h1
  obtain ⟨a, b, _, _, _, _, rfl⟩ := (nr_mem _ (Nat.le_refl _)).1 h1
  obtain ⟨c, d, _, _, _, _, rfl⟩ := (nr_mem _ (Nat.le_refl _)).1 h2
  unfold tLt at h3 h4
  simp only at h3 h4
  have e1 : a = c := by omega
  have e2 : b = d := by omega
  rw [e1, e2]

/-- Something of the graph of groups is too great. -/
def overB (ws : List Int) (ns : List (Int × Int × Int)) (l : List Int) : Bool := (qW ws l).any (fun x => decide (1099511627776 < x)) || (qN ns l).any (fun t => decide (1099511627776 < t.2.2))
/-- The error of the graph of groups of a scale. -/
def atE (ws : List Int) (ns : List (Int × Int × Int)) (cs : List (List Int)) (s : Int) : Int :=
  if validE ws ns ≠ 0 then validE ws ns else if s < 0 ∨ (cs.length : Int) ≤ s then 7 else
  if listE ws.length (cs.getD s.toNat []) ≠ 0 then listE ws.length (cs.getD s.toNat []) else if overB ws ns (cs.getD s.toNat []) then 4 else 0
def atW (ws : List Int) (ns : List (Int × Int × Int)) (cs : List (List Int)) (s : Int) : List Int := if atE ws ns cs s = 0 then qW ws (cs.getD s.toNat []) else []
def atN (ws : List Int) (ns : List (Int × Int × Int)) (cs : List (List Int)) (s : Int) : List (Int × Int × Int) := if atE ws ns cs s = 0 then qN ns (cs.getD s.toNat []) else []

theorem over_w {ws : List Int} {ns : List (Int × Int × Int)} {l : List Int} {i : Nat} (hi : i < gk l l.length) (h : 1099511627776 < weight ws l i) : overB ws ns l = true := by
  unfold overB
  rw [Bool.or_eq_true]
  left
  rw [List.any_eq_true]
  exact ⟨weight ws l i, by unfold qW wTo; exact List.mem_map.2 ⟨i, List.mem_range.2 hi, rfl⟩, by simpa using h⟩
theorem over_n {ws : List Int} {ns : List (Int × Int × Int)} {l : List Int} {i k : Nat} (hi : i < k) (hk : k < gk l l.length) (h : 1099511627776 < common ns l i k) : overB ws ns l = true := by
  unfold overB
  rw [Bool.or_eq_true]
  right
  rw [List.any_eq_true]
  exact ⟨((i : Int), (k : Int), common ns l i k), (nr_mem _ (Nat.le_refl _)).2 ⟨i, k, by omega, hi, hk, by omega, rfl⟩, by simpa using h⟩
theorem over_not {ws : List Int} {ns : List (Int × Int × Int)} {l : List Int} (h1 : ∀ i, i < gk l l.length → weight ws l i ≤ 1099511627776) (h2 : ∀ t ∈ qN ns l, t.2.2 ≤ 1099511627776) : overB ws ns l = false := by
  unfold overB
  rw [Bool.or_eq_false_iff, List.any_eq_false, List.any_eq_false]
  refine ⟨fun x hx => ?_, fun t ht => by have := h2 t ht; simp; omega⟩
  unfold qW wTo at hx
  obtain ⟨i, hi, rfl⟩ := List.mem_map.1 hx
  have := h1 i (List.mem_range.1 hi)
  unfold weight at this
  simp
  omega
theorem row_len (ns : List (Int × Int × Int)) (l : List Int) (i : Nat) : ∀ m, (rowTo ns l i m).length ≤ m
  | 0 => by simp [rowTo]
  | m + 1 => by
    have := row_len ns l i m
    rw [rowTo, List.length_append]
    split <;> simp <;> omega
theorem nr_len (ns : List (Int × Int × Int)) (l : List Int) (G : Nat) : ∀ i, (nrTo ns l G i).length ≤ i * G
  | 0 => by simp [nrTo]
  | i + 1 => by
    have h1 := nr_len ns l G i
    have h2 := row_len ns l i (G - (i + 1))
    rw [nrTo, List.length_append, Nat.succ_mul]
    omega
theorem nr_bd (ns : List (Int × Int × Int)) (l : List Int) {G j m : Nat} (hG : G ≤ 4096) (hj : j ≤ G) (hm : m ≤ G) : (nrTo ns l G j ++ rowTo ns l j m).length ≤ 33554432 := by
  have h1 := nr_len ns l G j
  have h2 := row_len ns l j m
  have h3 : j * G ≤ 4096 * 4096 := Nat.mul_le_mul (by omega) hG
  rw [List.length_append]
  omega
theorem qW_at (ws : List Int) {l : List Int} {j : Nat} (h : j < gk l l.length) : (qW ws l)[j]? = some (weight ws l j) := by simp [qW, wTo, weight, h]
theorem nm_at {l : List Int} (h : GoodL l) {j : Nat} (hj : j < gk l l.length) : (nmTo (named l) l.length)[j]? = some (rt l j) := by rw [nm_eq h _ (Nat.le_refl _)]; simp [hj]
end Go.Proofs.Ytaegfljpodhnhaa
