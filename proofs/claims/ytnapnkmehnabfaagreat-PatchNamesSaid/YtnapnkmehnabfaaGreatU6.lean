import Derived.Test.YtnapnkmehnabfaaGreatU4
namespace Go.Proofs.YtnapnkmehnabfaaGreat
open Go.RowKit Go.Maps

theorem lessI_iff {a b : Int × Int} : lessI a b = true ↔ a.1 < b.1 ∨ a.1 = b.1 ∧ a.2 < b.2 := by unfold lessI; exact decide_eq_true_iff
theorem lessI_total {a b : Int × Int} (h : lessI b a = false) (hne : a ≠ b) : lessI a b = true := by
 rw [lessI_iff]
 have h1 : ¬ (b.1 < a.1 ∨ b.1 = a.1 ∧ b.2 < a.2) := by rw [← lessI_iff, h]; simp
 obtain ⟨x, y⟩ := a
 obtain ⟨u, v⟩ := b
 simp only at h1 ⊢
 rcases Int.lt_trichotomy x u with h2 | h2 | h2
 ·exact .inl h2
 ·subst h2
  rcases Int.lt_trichotomy y v with h3 | h3 | h3
  ·exact .inr ⟨rfl, h3⟩
  ·subst h3; exact absurd rfl hne
  ·exact absurd (.inr ⟨rfl, h3⟩) h1
 ·exact absurd (.inl h2) h1
theorem lessI_trans {a b c : Int × Int} (h : lessI a b = true) (k : lessI b c = true) : lessI a c = true := by rw [lessI_iff] at *; omega
theorem lessI_irr (a : Int × Int) : lessI a a = false := by
 cases h : lessI a a
 ·rfl
 ·rw [lessI_iff] at h; omega
/-- Strictly in order. -/
def SO (l : List (Int × Int)) : Prop := l.Pairwise fun s t => lessI s t = true
theorem SO.ext : ∀ {l m : List (Int × Int)}, SO l → SO m → (∀ x, x ∈ l ↔ x ∈ m) → l = m
 | [], [], _, _, _ => rfl
 | [], b :: m, _, _, h => by have := (h b).2 (by simp); simp at this
 | a :: l, [], _, _, h => by have := (h a).1 (by simp); simp at this
 | a :: l, b :: m, hl, hm, h => by
  have hl' := List.pairwise_cons.1 hl
  have hm' := List.pairwise_cons.1 hm
  have e : a = b := by
   rcases List.mem_cons.1 ((h a).1 (by simp)) with h1 | h1
   ·exact h1
   ·rcases List.mem_cons.1 ((h b).2 (by simp)) with h2 | h2
    ·exact h2.symm
    ·have h3 := lessI_trans (hl'.1 b h2) (hm'.1 a h1)
     rw [lessI_irr] at h3
     cases h3
  subst e
  congr 1
  refine SO.ext hl'.2 hm'.2 fun x => ⟨fun hx => ?_, fun hx => ?_⟩
  ·rcases List.mem_cons.1 ((h x).1 (List.mem_cons_of_mem _ hx)) with h1 | h1
   ·subst h1
    have := hl'.1 x hx
    rw [lessI_irr] at this
    cases this
   ·exact h1
  ·rcases List.mem_cons.1 ((h x).2 (List.mem_cons_of_mem _ hx)) with h1 | h1
   ·subst h1
    have := hm'.1 x hx
    rw [lessI_irr] at this
    cases this
   ·exact h1
theorem cmpF_zero (L : List (Int × Int)) : cmpF L 0 = [] := rfl
/-- What is left of a list in order is strictly in order, and nothing is lost. -/
theorem cmpF_so {L : List (Int × Int)} (h : L.Pairwise fun s t => lessI t s = false) : ∀ i, i < L.length → SO (cmpF L (i + 1)) ∧ (∀ x ∈ cmpF L (i + 1), x = L.getD i (0, 0) ∨ lessI x (L.getD i (0, 0)) = true) ∧ ∀ x, x ∈ cmpF L (i + 1) ↔ x ∈ L.take (i + 1)
 | 0, h0 => by
  have e : cmpF L 1 = [L.getD 0 (0, 0)] := by rw [cmpF_keep (i := 0) rfl, cmpF_zero]; rfl
  have e2 : L.take (0 + 1) = [L.getD 0 (0, 0)] := by rw [← take_snoc h0]; rfl
  rw [e, e2]
  exact ⟨List.pairwise_singleton _ _, fun x hx => .inl (by simpa using hx), fun x => Iff.rfl⟩
 | i + 1, hi => by
  obtain ⟨h1, h2, h3⟩ := cmpF_so h i (by omega)
  have hle : lessI (L.getD (i + 1) (0, 0)) (L.getD i (0, 0)) = false := by
   have := (List.pairwise_iff_getElem.1 h) i (i + 1) (by omega) hi (by omega)
   rw [List.getD_eq_getElem?_getD, List.getD_eq_getElem?_getD, List.getElem?_eq_getElem hi, List.getElem?_eq_getElem (show i < L.length by omega)]
   exact this
  have hk : keepB L (i + 1) = decide (L.getD (i + 1) (0, 0) ≠ L.getD i (0, 0)) := by unfold keepB; simp
  have hmem : L.getD i (0, 0) ∈ L.take (i + 1) := by rw [← take_snoc (show i < L.length by omega)]; simp
  have hkeep : keepB L (i + 1) = true → cmpF L (i + 1 + 1) = cmpF L (i + 1) ++ [L.getD (i + 1) (0, 0)] := cmpF_keep
  rw [← take_snoc hi]
  generalize L.getD (i + 1) (0, 0) = t at *
  generalize L.getD i (0, 0) = s at *
  by_cases he : t = s
  ·subst he
   rw [cmpF_skip (by rw [hk]; simp)]
   refine ⟨h1, h2, fun x => ?_⟩
   rw [h3, List.mem_append]
   refine ⟨.inl, fun hx => hx.elim id fun hx => ?_⟩
   rw [List.mem_singleton] at hx
   subst hx
   exact hmem
  ·have hst := lessI_total hle (fun e => he e.symm)
   have hlt : ∀ x ∈ cmpF L (i + 1), lessI x t = true := fun x hx => (h2 x hx).elim (fun e => e ▸ hst) (fun e => lessI_trans e hst)
   rw [hkeep (by rw [hk]; simpa using he)]
   refine ⟨List.pairwise_append.2 ⟨h1, List.pairwise_singleton _ _, fun x hx y hy => by rw [List.mem_singleton.1 hy]; exact hlt x hx⟩, fun x hx => ?_, fun x => ?_⟩
   ·rcases List.mem_append.1 hx with hx | hx
    ·exact .inr (hlt x hx)
    ·exact .inl (List.mem_singleton.1 hx)
   ·rw [List.mem_append, List.mem_append, h3]
theorem cmpF_all {L : List (Int × Int)} (h : L.Pairwise fun s t => lessI t s = false) : SO (cmpF L L.length) ∧ ∀ x, x ∈ cmpF L L.length ↔ x ∈ L := by
 rcases Nat.eq_zero_or_pos L.length with h0 | h0
 ·rw [List.eq_nil_of_length_eq_zero h0]
  exact ⟨List.Pairwise.nil, fun x => Iff.rfl⟩
 ·obtain ⟨n, hn⟩ : ∃ n, L.length = n + 1 := ⟨L.length - 1, by omega⟩
  obtain ⟨h1, _, h3⟩ := cmpF_so h n (by omega)
  rw [← hn] at h1 h3
  rw [List.take_length] at h3
  exact ⟨h1, h3⟩
/-- A name put into a list in order. -/
def putI : List (Int × Int) → Int × Int → List (Int × Int)
 | [], x => [x]
 | t :: l, x => if lessI t x = true then t :: putI l x else if t = x then t :: l else x :: t :: l
theorem putI_mem : ∀ (l : List (Int × Int)) (x y : Int × Int), y ∈ putI l x ↔ y = x ∨ y ∈ l
 | [], x, y => by simp [putI]
 | t :: l, x, y => by
  unfold putI
  split
  ·rw [List.mem_cons, putI_mem l x y, List.mem_cons]
   constructor
   ·rintro (h | h | h)
    ·exact .inr (.inl h)
    ·exact .inl h
    ·exact .inr (.inr h)
   ·rintro (h | h | h)
    ·exact .inr (.inl h)
    ·exact .inl h
    ·exact .inr (.inr h)
  ·split
   ·rename_i e
    subst e
    simp
   ·simp
theorem putI_so : ∀ {l : List (Int × Int)} (x : Int × Int), SO l → SO (putI l x)
 | [], x, _ => List.pairwise_singleton _ _
 | t :: l, x, h => by
  have h' := List.pairwise_cons.1 h
  unfold putI
  split
  ·rename_i h1
   refine List.pairwise_cons.2 ⟨fun y hy => ?_, putI_so x h'.2⟩
   rcases (putI_mem l x y).1 hy with e | e
   ·rw [e]; exact h1
   ·exact h'.1 y e
  ·split
   ·exact h
   ·rename_i h1 h2
    have h3 := lessI_total (by simpa using h1) (fun e => h2 e.symm)
    refine List.pairwise_cons.2 ⟨fun y hy => ?_, h⟩
    rcases List.mem_cons.1 hy with e | e
    ·rw [e]; exact h3
    ·exact lessI_trans h3 (h'.1 y e)
end Go.Proofs.YtnapnkmehnabfaaGreat
