import Derived.Test.YtmdgdphhedgojaaR05
namespace Go.Proofs.Ytmdgdphhedgojaa
open Go.RowKit

theorem merged_len (of : List Int) (m : Int × Int) : (merged of m).length = of.length := by simp [merged]

theorem getD_merged (of : List Int) (m : Int × Int) (k : Nat) (hk : k < of.length) : (merged of m).getD k 0 = if (of.getD k 0 == m.1 || of.getD k 0 == m.2) then (if m.2 < m.1 then m.2 else m.1) else of.getD k 0 := by
  simp [merged, List.getD, hk]

/-- A root: a group's least face. -/
def isRoot (of : List Int) (i : Nat) : Bool := of.getD i 0 == (i : Int)
def roots (of : List Int) : Nat := ((List.range of.length).filter (isRoot of)).length

theorem nbTo_spec {ns : List (Int × Int × Int)} {of : List Int} {a : Int} (k : Nat) : 0 ≤ (nbTo ns of a k).1 → ∃ b : Nat, (nbTo ns of a k).1 = b ∧ b < k ∧ of.getD b 0 = b ∧ (b : Int) ≠ a ∧ (b : Int) ≠ of.getD 0 0 ∧ (nbTo ns of a k).2 = common ns of a b := by
  induction k with
  | zero => intro h; simp [nbTo] at h
  | succ k ih =>
    unfold nbTo
    split
    · intro h; obtain ⟨b, h1, h2, h3⟩ := ih h; exact ⟨b, h1, by omega, h3⟩
    · rename_i hc
      split
      · intro _
        simp only [Bool.or_eq_true, not_or, bne_iff_ne, ne_eq, Decidable.not_not, beq_iff_eq] at hc
        exact ⟨k, rfl, by omega, hc.1.1, hc.1.2, hc.2, rfl⟩
      · intro h; obtain ⟨b, h1, h2, h3⟩ := ih h; exact ⟨b, h1, by omega, h3⟩

theorem nextTo_spec {ws : List Int} {ns : List (Int × Int × Int)} {of : List Int} {least : Int} (k : Nat) (hf : (nextTo ws ns of least k).2.2.1 = true) :
    ∃ a b : Nat, (nextTo ws ns of least k).1 = a ∧ (nextTo ws ns of least k).2.1 = b ∧ a < k ∧ b < of.length ∧ of.getD a 0 = a ∧ of.getD b 0 = b ∧ a ≠ b := by
  induction k with
  | zero => simp [nextTo] at hf
  | succ k ih =>
    unfold nextTo at hf ⊢
    split at hf
    · rw [if_pos ‹_›]; obtain ⟨a, b, h1, h2, h3, h4⟩ := ih hf; exact ⟨a, b, h1, h2, by omega, h4⟩
    · rename_i h1
      rw [if_neg h1]
      split at hf
      · rw [if_pos ‹_›]; obtain ⟨a, b, h1, h2, h3, h4⟩ := ih hf; exact ⟨a, b, h1, h2, by omega, h4⟩
      · rename_i h2
        rw [if_neg h2]
        split at hf
        · rename_i h3
          rw [if_pos h3]
          simp only [Bool.or_eq_true, not_or, bne_iff_ne, ne_eq, Decidable.not_not, beq_iff_eq] at h1
          obtain ⟨b, e, hb, hr, hne, _, _⟩ := nbTo_spec (ns := ns) (of := of) (a := k) of.length h3
          exact ⟨k, b, rfl, e, by omega, hb, h1.1, hr, by omega⟩
        · rename_i h3
          rw [if_neg h3]; obtain ⟨a, b, h1, h2, h3, h4⟩ := ih hf; exact ⟨a, b, h1, h2, by omega, h4⟩

theorem roots_merged {of : List Int} {a b : Nat} (ha : a < of.length) (hb : b < of.length) (h1 : of.getD a 0 = a) (h2 : of.getD b 0 = b) (hne : a ≠ b) : roots (merged of (a, b)) < roots of := by
  unfold roots
  rw [merged_len]
  refine filter_lt (g := max a b) _ (fun i hi hp => ?_) (by simp; omega) ?_ ?_
  · have hi : i < of.length := by simpa using hi
    simp only [isRoot, getD_merged _ _ _ hi, beq_iff_eq] at hp ⊢
    split at hp
    · rename_i hc
      simp only [Bool.or_eq_true, beq_iff_eq] at hc
      by_cases e : i = a
      · subst e; exact h1
      · have : i = b := by split at hp <;> omega
        subst this; exact h2
    · exact hp
  · rcases Nat.le_total a b with h | h
    · rw [Nat.max_eq_right h]; simp only [isRoot, h2]; simp
    · rw [Nat.max_eq_left h]; simp only [isRoot, h1]; simp
  · rcases Nat.le_total a b with h | h
    · rw [Nat.max_eq_right h]; simp only [isRoot, getD_merged _ _ _ hb, h2]; simp; omega
    · rw [Nat.max_eq_left h]; simp only [isRoot, getD_merged _ _ _ ha, h1]; simp; omega

theorem roots_le (of : List Int) : roots of ≤ of.length := by
  unfold roots
  have := List.length_filter_le (isRoot of) (List.range of.length)
  simpa using this

/-- The groups after merging with a threshold, and the merges. -/
def scaleF (ws : List Int) (ns : List (Int × Int × Int)) (least : Int) : Nat → List Int → List Int × List (Int × Int)
  | 0, of => (of, [])
  | f + 1, of =>
    if (next ws ns of least).2.2.1 then
      ((scaleF ws ns least f (merged of ((next ws ns of least).1, (next ws ns of least).2.1))).1, ((next ws ns of least).1, (next ws ns of least).2.1) :: (scaleF ws ns least f (merged of ((next ws ns of least).1, (next ws ns of least).2.1))).2)
    else (of, [])

def scale (ws : List Int) (ns : List (Int × Int × Int)) (of : List Int) (least : Int) : List Int × List (Int × Int) := scaleF ws ns least of.length of

theorem next_roots {ws : List Int} {ns : List (Int × Int × Int)} {of : List Int} {least : Int} (h : (next ws ns of least).2.2.1 = true) :
    roots (merged of ((next ws ns of least).1, (next ws ns of least).2.1)) < roots of := by
  obtain ⟨a, b, h1, h2, h3, h4, h5, h6, h7⟩ := nextTo_spec of.length h
  unfold next at h ⊢
  rw [h1, h2]
  exact roots_merged h3 h4 h5 h6 h7

/-- The cells of a list of pairs. -/
def pairC (l : List (Int × Int)) : List Value := l.flatMap fun t => [.int .i64 t.1, .int .i64 t.2]
theorem pairC_append (a b : List (Int × Int)) : pairC (a ++ b) = pairC a ++ pairC b := by simp [pairC]
theorem pairC_len (l : List (Int × Int)) : (pairC l).length = l.length * 2 := by
  induction l with
  | nil => rfl
  | cons t l ih => simp only [pairC, List.flatMap_cons, List.length_append, List.length_cons, List.length_nil] at ih ⊢; omega

theorem elt_pair : Elt Try.prog 95 114 (.agg #[.int .i64 0, .int .i64 0]) 2 16 := Elt.mk' Try.underlying95 (by kernel_rfl) (by decide) (by decide) rfl

/-- Readable, and not in a row that is written. -/
def SLo (w : World) (A : Option Addr) (xs : List Value) (row : Option Nat) : Prop :=
  ∀ j u, xs[j]? = some u → ∃ b o, A = some ⟨b, o, none⟩ ∧ b < w.heap.size ∧ w.cell? ⟨b, o + j, none⟩ = some u ∧ some b ≠ row

theorem SLo.sl {w : World} {A : Option Addr} {xs : List Value} {row : Option Nat} (h : SLo w A xs row) : SL w A xs := fun j u hu => by
  obtain ⟨b, o, h1, h2, h3, _⟩ := h j u hu; exact ⟨b, o, h1, h2, h3⟩
theorem SLo.below {w w' : World} {A : Option Addr} {xs : List Value} {row : Option Nat} (h : SLo w A xs row) (hb : Below w.heap.size w w') : SLo w' A xs row := fun j u hu => by
  obtain ⟨b, o, h1, h2, h3, h4⟩ := h j u hu
  exact ⟨b, o, h1, Nat.lt_of_lt_of_le h2 hb.size, by rw [hb.cell h2]; exact h3, h4⟩
theorem SLo.grown {w w' : World} {A : Option Addr} {xs : List Value} {row row' : Option Nat} (h : SLo w A xs row) (hg : w.grownBy w' row) (hr : ∀ k, row' = some k → row = some k ∨ w.heap.size ≤ k) : SLo w' A xs row' := fun j u hu => by
  obtain ⟨b, o, h1, h2, h3, h4⟩ := h j u hu
  refine ⟨b, o, h1, Nat.lt_of_lt_of_le h2 hg.size, ?_, fun e => ?_⟩
  · rw [World.cell?_of_block (hg.block b h2 h4)]; exact h3
  · rcases hr b e.symm with h | h
    · exact h4 h.symm
    · omega
theorem SLo.of_sl {w w' : World} {A : Option Addr} {xs : List Value} {row : Option Nat} (h : SL w A xs) (hb : Below w.heap.size w w') (hr : ∀ k, row = some k → w.heap.size ≤ k) : SLo w' A xs row := fun j u hu => by
  obtain ⟨b, o, h1, h2, h3⟩ := h j u hu
  exact ⟨b, o, h1, Nat.lt_of_lt_of_le h2 hb.size, by rw [hb.cell h2]; exact h3, fun e => by have := hr b e.symm; omega⟩
theorem SLo.of_own {w : World} {base : Nat} {e : TypeId} {n size c : Nat} {A : Option Addr} {xs : List Value} {row : Option Nat} (h : w.ownsRow base e size (.slice A n c) n xs) (hr : Value.ownBlock (.slice A n c) = none ∨ Value.ownBlock (.slice A n c) ≠ row) : SLo w A xs row := fun j u hu => by
  obtain ⟨b, o, h1, h2, h3⟩ := SL.of_own h j u hu
  refine ⟨b, o, h1, h2, h3, fun e => ?_⟩
  subst h1
  rcases hr with hr | hr
  · simp [Value.ownBlock] at hr
  · exact hr (by simpa [Value.ownBlock] using e)

theorem own_below {w w' : World} {base : Nat} {e : TypeId} {n size : Nat} {v : Value} {xs : List Value} (h : w.ownsRow base e size v n xs) (hb : Below w.heap.size w w') : w'.ownsRow base e size v n xs := by
  refine ⟨h.1, ?_⟩
  rcases h.2 with hn | ⟨g, cap, cur, rfl, h1, hg, rest⟩
  · exact .inl hn
  · exact .inr ⟨g, cap, cur, rfl, h1, (hb.block g (Array.getElem?_eq_some_iff.1 hg).1).trans hg, rest⟩

theorem own_slice {w : World} {base : Nat} {e : TypeId} {n size : Nat} {v : Value} {xs : List Value} (h : w.ownsRow base e size v n xs) : ∃ A c, v = .slice A n c := by
  rcases h.2 with ⟨rfl, rfl⟩ | ⟨g, cap, cur, rfl, _⟩
  · exact ⟨_, _, rfl⟩
  · exact ⟨_, _, rfl⟩
end Go.Proofs.Ytmdgdphhedgojaa
