import Derived.Test.YtmdgdphhedgojaaR31
namespace Go.Proofs.Ytmdgdphhedgojaa
open Go.RowKit Go.Maps

/-- The face 0 is alone. -/
def Al (of : List Int) : Prop := ∀ k, k < of.length → of.getD k 0 = 0 → k = 0
theorem al_alone (n : Nat) : Al (alone n) := fun k hk h => by
  rw [alone_len] at hk
  rw [alone_at hk] at h
  omega
/-- What a merge is. -/
theorem next_spec {ws : List Int} {ns : List (Int × Int × Int)} {of : List Int} {least : Int} (h : (next ws ns of least).2.2.1 = true) :
    ∃ a b : Nat, (next ws ns of least).1 = a ∧ (next ws ns of least).2.1 = b ∧ a < of.length ∧ b < of.length ∧ of.getD a 0 = a ∧ of.getD b 0 = b ∧ a ≠ b ∧ (a : Int) ≠ of.getD 0 0 ∧ (b : Int) ≠ of.getD 0 0 := by
  unfold next at h ⊢
  rcases nextTo_best (ws := ws) (ns := ns) (of := of) (least := least) of.length with ⟨e, _⟩ | ⟨a, e, ha, ⟨g1, g2, g3, g4⟩, _⟩
  · rw [e] at h; cases h
  · obtain ⟨b, e2, hb, r1, r2, r3, _⟩ := nbTo_spec (ns := ns) (of := of) (a := a) of.length g4
    rw [e]
    exact ⟨a, b, rfl, e2, ha, hb, g1, r1, fun h => r2 (by omega), g2, r3⟩
theorem Al.merge {of : List Int} {a b : Nat} (h : Al of) (hC : CN of) (ha : (a : Int) ≠ of.getD 0 0) (hb : (b : Int) ≠ of.getD 0 0) : Al (merged of (a, b)) := fun k hk h0 => by
  rw [merged_len] at hk
  obtain ⟨r, r1, r2, _⟩ := hC 0 (by omega)
  rw [getD_merged _ _ _ hk] at h0
  dsimp only at h0
  split at h0
  · split at h0 <;> omega
  · exact h k hk h0
theorem scaleF_al {ws : List Int} {ns : List (Int × Int × Int)} {least : Int} : ∀ (f : Nat) (of : List Int), CN of → Al of → Al (scaleF ws ns least f of).1
  | 0, of, _, h => h
  | f + 1, of, hC, h => by
    unfold scaleF
    split
    · rename_i hn
      obtain ⟨a, b, e1, e2, ha, hb, r1, r2, _, z1, z2⟩ := next_spec hn
      rw [e1, e2]
      exact scaleF_al f _ (hC.merge ha hb r1 r2) (h.merge hC z1 z2)
    · exact h
theorem scaleF_done {ws : List Int} {ns : List (Int × Int × Int)} {least : Int} : ∀ (f : Nat) (of : List Int), roots of ≤ f → (next ws ns (scaleF ws ns least f of).1 least).2.2.1 = false
  | 0, of, hr => by
    show (next ws ns of least).2.2.1 = false
    cases h : (next ws ns of least).2.2.1
    · rfl
    · have := next_roots h
      omega
  | f + 1, of, hr => by
    unfold scaleF
    split
    · rename_i hn
      have := next_roots hn
      exact scaleF_done f _ (by omega)
    · rename_i hn
      simpa using hn
theorem scale_done {ws : List Int} {ns : List (Int × Int × Int)} {of : List Int} {least : Int} : (next ws ns (scale ws ns of least).1 least).2.2.1 = false := scaleF_done _ _ (roots_le of)
/-- Where no merge comes: each group has enough, or no neighbour. -/
theorem done_law {ws : List Int} {ns : List (Int × Int × Int)} {of : List Int} {least : Int} (h : (next ws ns of least).2.2.1 = false) {a b : Nat} (ha : a < of.length) (hb : b < of.length) (ra : of.getD a 0 = a) (rb : of.getD b 0 = b) (za : (a : Int) ≠ of.getD 0 0) (zb : (b : Int) ≠ of.getD 0 0) (hab : b ≠ a)
    (hc : 0 < common ns of a b) : least ≤ weight ws of a := by
  rcases nextTo_best (ws := ws) (ns := ns) (of := of) (least := least) of.length with ⟨_, hno⟩ | ⟨_, e, _⟩
  · refine Int.not_lt.1 fun hlt => hno a ha ⟨ra, za, hlt, ?_⟩
    unfold nb
    rcases nbTo_best (ns := ns) (of := of) (a := a) of.length with ⟨_, h2⟩ | ⟨b', e2, _⟩
    · exact (h2 b hb ⟨rb, by omega, zb, hc⟩).elim
    · rw [e2]; show (0 : Int) ≤ b'; omega
  · unfold next at h
    rw [e] at h
    cases h
theorem chain_at' {ws : List Int} {ns : List (Int × Int × Int)} {of ls : List Int} {k : Nat} {n : Int} (h : ls[k]? = some n) : (chain ws ns of ls)[k]? = some (scale ws ns (after ws ns of (ls.take k)) n) := by
  have hk := (List.getElem?_eq_some_iff.1 h).1
  have h1 := chain_take_snoc (ws := ws) (ns := ns) (of := of) h
  rw [chain_take, chain_take] at h1
  have h2 : ((chain ws ns of ls).take (k + 1))[k]? = (chain ws ns of ls)[k]? := List.getElem?_take_of_lt (by omega)
  rw [← h2, h1, List.getElem?_append_right (by rw [List.length_take, chain_len]; omega)]
  rw [List.length_take, chain_len, show k - min k ls.length = 0 by omega]
  rfl
theorem after_al {ws : List Int} {ns : List (Int × Int × Int)} : ∀ (ls of : List Int), CN of → Al of → Al (after ws ns of ls)
  | [], _, _, h => h
  | n :: ls, of, hC, h => after_al ls _ (CN.scaleF (ws := ws) (ns := ns) (least := n) of.length of hC).1 (scaleF_al _ _ hC h)
/-- The groups of a scale. -/
def ofAt (ws : List Int) (ns : List (Int × Int × Int)) (ls : List Int) (s : Nat) : List Int := after ws ns (alone ws.length) (ls.take (s + 1))
theorem ofAt_eq {ws : List Int} {ns : List (Int × Int × Int)} {ls : List Int} {s : Nat} {n : Int} (h : ls[s]? = some n) : ofAt ws ns ls s = (scale ws ns (after ws ns (alone ws.length) (ls.take s)) n).1 := after_take h
theorem ofAt_cn (ws : List Int) (ns : List (Int × Int × Int)) (ls : List Int) (s : Nat) : CN (ofAt ws ns ls s) ∧ (ofAt ws ns ls s).length = ws.length := by
  have h := CN.after (ws := ws) (ns := ns) (ls.take (s + 1)) _ (alone_cn ws.length)
  rw [alone_len] at h
  exact h
theorem ofAt_al (ws : List Int) (ns : List (Int × Int × Int)) (ls : List Int) (s : Nat) : Al (ofAt ws ns ls s) := after_al _ _ (alone_cn _) (al_alone _)
theorem lists_at {ws : List Int} {ns : List (Int × Int × Int)} {ls : List Int} {s : Nat} (h : s < ls.length) : (lists ws ns ls)[s]? = some (ix (ofAt ws ns ls s)) := by
  have hn : ls[s]? = some ls[s] := List.getElem?_eq_getElem h
  rw [lists, List.getElem?_map, chain_at' hn, ofAt_eq hn]
  rfl
theorem ix_same {of : List Int} {i j : Nat} (hi : i < of.length) (hj : j < of.length) : (ix of).getD i 0 = (ix of).getD j 0 ↔ of.getD i 0 = of.getD j 0 := by
  have h := ix_iff of i j hi hj
  simpa [List.getD, hi, hj, ix_len] using h
/-- Sums. -/
def sumN (f : Nat → Int) : Nat → Int
  | 0 => 0
  | n + 1 => sumN f n + f n
theorem sumN_congr {f g : Nat → Int} : ∀ n, (∀ i, i < n → f i = g i) → sumN f n = sumN g n
  | 0, _ => rfl
  | n + 1, h => by rw [sumN, sumN, sumN_congr n (fun i hi => h i (by omega)), h n (by omega)]
theorem sumN_add {f g : Nat → Int} : ∀ n, sumN (fun i => f i + g i) n = sumN f n + sumN g n
  | 0 => rfl
  | n + 1 => by simp only [sumN, sumN_add n]; omega
theorem sumN_zero {f : Nat → Int} : ∀ n, (∀ i, i < n → f i = 0) → sumN f n = 0
  | 0, _ => rfl
  | n + 1, h => by rw [sumN, sumN_zero n (fun i hi => h i (by omega)), h n (by omega)]; rfl
theorem sumN_single {f : Nat → Int} {p : Nat} : ∀ n, p < n → (∀ i, i < n → i ≠ p → f i = 0) → sumN f n = f p
  | 0, hp, _ => by omega
  | n + 1, hp, h => by
    rw [sumN]
    by_cases hn : p = n
    · rw [hn, sumN_zero n (fun i hi => h i (by omega) (by omega)), Int.zero_add]
    · rw [sumN_single n (by omega) (fun i hi => h i (by omega)), h n (by omega) (fun e => hn e.symm), Int.add_zero]
theorem weightTo_sum (ws of : List Int) (g : Int) : ∀ k, weightTo ws of g k = sumN (fun i => if of.getD i 0 = g then ws.getD i 0 else 0) k
  | 0 => rfl
  | k + 1 => by rw [weightTo, sumN, weightTo_sum ws of g k]
/-- What a border adds to a common length. -/
def phi (of : List Int) (a b : Int) (t : Int × Int × Int) : Int :=
  if (of.getD t.1.toNat 0 = a ∧ of.getD t.2.1.toNat 0 = b) ∨ (of.getD t.1.toNat 0 = b ∧ of.getD t.2.1.toNat 0 = a) then t.2.2 else 0
theorem commonTo_sum (ns : List (Int × Int × Int)) (of : List Int) (a b : Int) : ∀ k, commonTo ns of a b k = sumN (fun e => phi of a b (ns.getD e (0, 0, 0))) k
  | 0 => rfl
  | k + 1 => by
    rw [commonTo, sumN, commonTo_sum ns of a b k]
    congr 1
    unfold phi
    simp only [Bool.or_eq_true, Bool.and_eq_true, beq_iff_eq]
theorem common_map (ns : List (Int × Int × Int)) (of : List Int) (a b : Int) : common ns of a b = (ns.map (phi of a b)).sum := by
  have key : ∀ k, k ≤ ns.length → commonTo ns of a b k = ((ns.take k).map (phi of a b)).sum := by
    intro k
    induction k with
    | zero => intro _; rfl
    | succ k ih =>
      intro hk
      have hx : ns[k]? = some ns[k] := List.getElem?_eq_getElem (by omega)
      have e : commonTo ns of a b (k + 1) = commonTo ns of a b k + phi of a b (ns.getD k (0, 0, 0)) := by rw [commonTo_sum, commonTo_sum]; rfl
      rw [e, ih (by omega), take_snoc' hx, List.map_append, List.sum_append, tri_getD hx]
      simp
  have h := key ns.length (Nat.le_refl _)
  rw [List.take_length] at h
  exact h
end Go.Proofs.Ytmdgdphhedgojaa
