import Derived.Test.YtaegfljpodhnhaaR41
import Derived.Test.YtaegfljpodhnhaaT3
namespace Go.Proofs.Ytaegfljpodhnhaa
open Go.RowKit Go.Maps

theorem listB_bd : ∀ (l : List Int) (m : Int), 0 ≤ m → listB m l = true → ∀ x ∈ l, 0 ≤ x ∧ x < m + l.length
  | [], _, _, _, x, hx => by simp at hx
  | y :: l, m, hm, h, x, hx => by
    simp only [listB, Bool.and_eq_true, decide_eq_true_eq] at h
    obtain ⟨⟨h1, h2⟩, h3⟩ := h
    simp only [List.length_cons]
    rcases List.mem_cons.1 hx with rfl | hx
    · omega
    · have := listB_bd l _ (by omega) h3 x hx
      omega

theorem listE_good {n : Nat} {l : List Int} (h : listE n l = 0) : l.length = n ∧ listB 0 l = true ∧ ∀ x ∈ l, 0 ≤ x ∧ x < l.length := by
  unfold listE at h
  split at h
  · cases h
  · rename_i h1
    split at h
    · rename_i h2
      have := listB_bd l 0 (by omega) h2
      exact ⟨by omega, h2, fun x hx => by have := this x hx; omega⟩
    · cases h
theorem listE_one {n : Nat} {l : List Int} : listE n l = 0 ∨ listE n l = 1 := by
  unfold listE
  split
  · exact .inr rfl
  · split
    · exact .inl rfl
    · exact .inr rfl

theorem alone_get {n k : Nat} (hk : k < n) : (alone n)[k]? = some (k : Int) := by
  rw [List.getElem?_eq_getElem (by rw [alone_len]; exact hk)]
  have := alone_at hk
  simp only [List.getD, List.getElem?_eq_getElem (show k < (alone n).length by rw [alone_len]; exact hk), Option.getD_some] at this
  rw [this]

theorem listE_alone (n : Nat) : listE n (alone n) = 0 := by
  have h : ∀ j, j ≤ n → listB ((n - j : Nat) : Int) ((alone n).drop (n - j)) = true := by
    intro j
    induction j with
    | zero => intro _; rw [List.drop_of_length_le (by rw [alone_len]; omega)]; rfl
    | succ j ih =>
      intro hj
      rw [listB_drop (alone_get (show n - (j + 1) < n by omega)), decide_eq_true (by omega), decide_eq_true (Int.le_refl _)]
      have := ih (by omega)
      rw [show max ((n - (j + 1) : Nat) : Int) (((n - (j + 1) : Nat) : Int) + 1) = ((n - j : Nat) : Int) by omega, show n - (j + 1) + 1 = n - j by omega, this]
      rfl
  have h0 := h n (Nat.le_refl _)
  rw [Nat.sub_self] at h0
  rw [listE, if_neg (by rw [alone_len]; simp)]
  exact if_pos h0

/-- The groups ahead of a scale, by their indices. -/
def numL (n : Nat) (cs : List (List Int)) (k : Nat) : List Int := if k = 0 then alone n else cs.getD (k - 1) []
/-- What Check answers. -/
def checkE (ws : List Int) (ns : List (Int × Int × Int)) (ls : List Int) (s : Int) (st : List (Int × Int)) (cs : List (List Int)) : Int :=
  if ofE ws ns ls ≠ 0 then ofE ws ns ls
  else if s < 0 ∨ (ls.length : Int) ≤ s ∨ (cs.length : Int) ≤ s then 7
  else if listE ws.length (cs.getD s.toNat []) ≠ 0 ∨ listE ws.length (numL ws.length cs s.toNat) ≠ 0 then 1
  else if ix (scale ws ns (named (numL ws.length cs s.toNat)) (ls.getD s.toNat 0)).1 = cs.getD s.toNat [] ∧ (scale ws ns (named (numL ws.length cs s.toNat)) (ls.getD s.toNat 0)).2 = st then 0 else 24

section
variable {ws : List Int} {ns : List (Int × Int × Int)} {of0 ofc : List Int} {n : Int} {fu : Nat} {st0 : List (Int × Int)}
theorem scale_stop (hsc : scale ws ns of0 n = ((scaleF ws ns n fu ofc).1, st0 ++ (scaleF ws ns n fu ofc).2)) (hf : (next ws ns ofc n).2.2.1 = false) : scale ws ns of0 n = (ofc, st0) := by
  rw [hsc]
  cases fu <;> simp [scaleF, hf]
theorem scale_go {a b : Int} (hsc : scale ws ns of0 n = ((scaleF ws ns n (fu + 1) ofc).1, st0 ++ (scaleF ws ns n (fu + 1) ofc).2)) (hf : (next ws ns ofc n).1 = a ∧ (next ws ns ofc n).2.1 = b ∧ (next ws ns ofc n).2.2.1 = true) :
    scale ws ns of0 n = ((scaleF ws ns n fu (merged ofc (a, b))).1, (st0 ++ [(a, b)]) ++ (scaleF ws ns n fu (merged ofc (a, b))).2) := by
  rw [hsc, scaleF, if_pos hf.2.2, hf.1, hf.2.1]
  simp
/-- Another merge is due than the one that stands there. -/
theorem scale_else {a b : Int} {st : List (Int × Int)} {j : Nat} (hj : st0 = st.take j) (hsc : scale ws ns of0 n = ((scaleF ws ns n (fu + 1) ofc).1, st0 ++ (scaleF ws ns n (fu + 1) ofc).2)) (hf : (next ws ns ofc n).1 = a ∧ (next ws ns ofc n).2.1 = b ∧ (next ws ns ofc n).2.2.1 = true) (hne : st[j]? ≠ some (a, b)) :
    (scale ws ns of0 n).2 ≠ st := by
  rw [scale_go hsc hf]
  intro h
  dsimp only at h
  by_cases hl : j ≤ st.length
  · have h1 : (st0 ++ [(a, b)] ++ (scaleF ws ns n fu (merged ofc (a, b))).2)[j]? = some (a, b) := by
      rw [List.append_assoc, List.getElem?_append_right (by rw [hj]; simp; omega), hj]
      simp [List.length_take, Nat.min_eq_left hl]
    rw [h] at h1
    exact hne h1
  · rw [hj, List.take_of_length_le (by omega)] at h
    have := congrArg List.length h
    simp at this
end
end Go.Proofs.Ytaegfljpodhnhaa
