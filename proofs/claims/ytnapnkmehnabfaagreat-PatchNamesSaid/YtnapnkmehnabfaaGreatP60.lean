import Derived.Test.YtnapnkmehnabfaaGreatP33
namespace Go.Proofs.YtnapnkmehnabfaaGreat
open Go.RowKit Go.Maps

/-- Two lists of one length that differ in one place. -/
inductive One {α : Type} : List α → List α → Prop
 | here {x y : α} {l : List α} : x ≠ y → One (x :: l) (y :: l)
 | there {x : α} {l m : List α} : One l m → One (x :: l) (x :: m)
theorem One.of_idx {α : Type} : ∀ (l m : List α) (i : Nat), l.length = m.length → i < l.length → l[i]? ≠ m[i]? → (∀ j, j ≠ i → l[j]? = m[j]?) → One l m
 | [], _, _, _, hi, _, _ => by simp at hi
 | _ :: _, [], _, h, _, _, _ => by simp at h
 | x :: l, y :: m, 0, h, _, hn, he => by
  have e : l = m := List.ext_getElem? fun j => by simpa using he (j + 1) (by omega)
  subst e
  exact .here (fun e => hn (by simp [e]))
 | x :: l, y :: m, i + 1, h, hi, hn, he => by
  have e : x = y := by simpa using he 0 (by omega)
  subst e
  exact .there (One.of_idx l m i (by simpa using h) (by simpa using hi) (by simpa using hn) (fun j hj => by simpa using he (j + 1) (by omega)))
/-- Words absorbed after a state. -/
noncomputable def numW (s : Nat) (ws : List U64) : Nat := ws.foldl (fun s x => mixN s x.1) s
theorem numW_lt (ws : List U64) (s : Nat) (h : s < 18446744073709551616) : numW s ws < 18446744073709551616 := fold_lt ws s h
theorem numW_left : ∀ (ws : List U64) {s t : Nat}, s < 18446744073709551616 → t < 18446744073709551616 → numW s ws = numW t ws → s = t
 | [], _, _, _, _, h => h
 | x :: ws, _, _, hs, ht, h => mixN_left hs ht x.2 (numW_left ws (mixN_lt hs x.2) (mixN_lt ht x.2) h)
theorem numW_one {l m : List U64} (h : One l m) : ∀ s, s < 18446744073709551616 → numW s l ≠ numW s m := by
 induction h with
 | @here x y l hn =>
  intro s hs e
  have := numW_left l (mixN_lt hs x.2) (mixN_lt hs y.2) e
  exact hn (Subtype.ext (mixN_right hs x.2 y.2 this))
 | @there x l m _ ih => exact fun s hs => ih _ (mixN_lt hs x.2)
theorem numH_words (s : Nat) (ws : List U64) (n : Int) : numH s (ws.map toI ++ [n]) = mixN (numW s ws) (uN n) := by
 rw [numH_snoc]
 congr 1
 induction ws generalizing s with
 | nil => rfl
 | cons x ws ih =>
  show numH (mixN s (uN (toI x))) (ws.map toI) = numW (mixN s x.1) ws
  rw [uN_toI]
  exact ih _
theorem wordU_ne {xs ys : List Nat} {k i : Nat} (ha : ∀ x ∈ xs, x < 256) (hb : ∀ x ∈ ys, x < 256) (hl : xs.length = ys.length) (h1 : k ≤ i) (h2 : i < k + 8) (hn : xs[i]? ≠ ys[i]?) : wordU xs k ≠ wordU ys k := by
 intro e
 have e1 := congrArg Subtype.val e
 have la : ∀ x ∈ (xs.drop k).take 8, x < 256 := fun x hx => ha x (List.mem_of_mem_drop (List.mem_of_mem_take hx))
 have lb : ∀ x ∈ (ys.drop k).take 8, x < 256 := fun x hx => hb x (List.mem_of_mem_drop (List.mem_of_mem_take hx))
 have p : ∀ t : List Nat, (∀ x ∈ t, x < 256) → t.length ≤ 8 → leN t < 18446744073709551616 := fun t ht h8 => by
  have h := leN_lt t ht
  have : 256 ^ t.length ≤ 256 ^ 8 := Nat.pow_le_pow_right (by decide) h8
  omega
 simp only [wordU] at e1
 rw [Nat.mod_eq_of_lt (p _ la (by simp; omega)), Nat.mod_eq_of_lt (p _ lb (by simp; omega))] at e1
 have e2 := leN_inj _ _ la lb (by simp [hl]) e1
 have e3 := congrArg (fun t => t[i - k]?) e2
 simp only [List.getElem?_take, List.getElem?_drop, show i - k < 8 by omega, if_true, show k + (i - k) = i by omega] at e3
 exact hn e3
theorem wordU_eq {xs ys : List Nat} {k : Nat} (h : ∀ j, k ≤ j → j < k + 8 → xs[j]? = ys[j]?) : wordU xs k = wordU ys k := by
 have e : (xs.drop k).take 8 = (ys.drop k).take 8 := List.ext_getElem? fun j => by
  simp only [List.getElem?_take, List.getElem?_drop]
  by_cases hj : j < 8
  ·rw [if_pos hj, if_pos hj, h _ (by omega) (by omega)]
  ·rw [if_neg hj, if_neg hj]
 exact Subtype.ext (by show leN _ % _ = leN _ % _; rw [e])
theorem words_one {xs ys : List Nat} {i : Nat} (ha : ∀ x ∈ xs, x < 256) (hb : ∀ x ∈ ys, x < 256) (hl : xs.length = ys.length) (hi : i < xs.length) (hn : xs[i]? ≠ ys[i]?) (he : ∀ j, j ≠ i → xs[j]? = ys[j]?) : One (wordsU xs) (wordsU ys) := by
 have key : ∀ (l : List Nat) (j : Nat), (wordsU l)[j]? = if j < (l.length + 7) / 8 then some (wordU l (8 * j)) else none := fun l j => by
  unfold wordsU upTo
  rw [List.getElem?_map]
  by_cases hj : j < (l.length + 7) / 8
  ·rw [List.getElem?_range hj, if_pos hj]; rfl
  ·rw [if_neg hj, List.getElem?_eq_none (by simpa using hj)]; rfl
 refine One.of_idx _ _ (i / 8) (by simp [wordsU, upTo_len, hl]) (by simp [wordsU, upTo_len]; omega) ?_ ?_
 ·rw [key, key, if_pos (by omega), if_pos (by omega)]
  exact fun e => wordU_ne ha hb hl (by omega) (by omega) hn (Option.some.inj e)
 ·intro j hj
  rw [key, key, hl]
  by_cases hb : j < (ys.length + 7) / 8
  ·rw [if_pos hb, if_pos hb, wordU_eq (fun k h1 h2 => he k (by omega))]
  ·rw [if_neg hb, if_neg hb]
/-- Bytes that differ in one place have different hashes. -/
theorem bytesH_one {lab xs ys : List Nat} {i : Nat} (hlb : lab.length < 1000000) (ha : ∀ x ∈ xs, x < 256) (hb : ∀ x ∈ ys, x < 256) (hl : xs.length = ys.length) (hz : xs.length < 1000000000) (hi : i < xs.length) (hn : xs[i]? ≠ ys[i]?) (he : ∀ j, j ≠ i → xs[j]? = ys[j]?) : bytesH lab xs ≠ bytesH lab ys := by
 have h1 := words_one ha hb hl hi hn he
 have hw : (wordsU xs).length = (wordsU ys).length := by simp [wordsU, upTo_len, hl]
 have hwl : (wordsU xs).length ≤ 1000000000 := by simp only [wordsU, upTo_len]; omega
 have hp : preH lab (wordsU xs).length.succ < 18446744073709551616 := mixN_lt (mixN_lt (labH_lt _) (by omega)) (by omega)
 unfold bytesH sumH
 rw [numH_words, numH_words]
 have e1 : ((wordsU xs).map toI ++ [(xs.length : Int)]).length = (wordsU xs).length.succ := by simp
 have e2 : ((wordsU ys).map toI ++ [(ys.length : Int)]).length = (wordsU xs).length.succ := by simp [hw]
 rw [e1, e2, ← hl]
 have b1 := numW_lt (wordsU xs) _ hp
 have b2 := numW_lt (wordsU ys) _ hp
 intro e
 have e3 := mixN_left (mixN_lt b1 (uN_lt _)) (mixN_lt b2 (uN_lt _)) (by decide) e
 exact numW_one h1 _ hp (mixN_left b1 b2 (uN_lt _) e3)
theorem bytesH_lt {lab xs : List Nat} (hlb : lab.length < 1000000) (hz : xs.length < 1000000000) : bytesH lab xs < 18446744073709551616 := by
 unfold bytesH sumH
 refine mixN_lt (numH_lt _ _ (mixN_lt (mixN_lt (labH_lt _) (by omega)) ?_)) (by decide)
 simp only [List.length_append, List.length_map, wordsU, upTo_len, List.length_singleton]
 omega
theorem idH_u64 {p : Pa} (h : PEn p) : u64 (idH p) := by
 have h1 := paB_len h
 have := bytesH_lt (lab := bl ⟨#[112, 97, 116, 99, 104]⟩) (xs := paB p) (by decide) (by omega)
 unfold idH
 exact ⟨by omega, by omega⟩
/-- How many of the first places differ. -/
def dif (xs ys : List Nat) (k : Nat) : Nat := ((List.range k).filter fun j => decide (xs.getD j 0 ≠ ys.getD j 0)).length
theorem dif_zero (xs ys : List Nat) : dif xs ys 0 = 0 := rfl
theorem dif_ne {xs ys : List Nat} {k : Nat} (h : xs.getD k 0 ≠ ys.getD k 0) : dif xs ys (k + 1) = dif xs ys k + 1 := by
 rw [dif, List.range_succ, List.filter_append, List.length_append, List.filter_cons_of_pos (by simpa using h)]
 rfl
theorem dif_eq {xs ys : List Nat} {k : Nat} (h : xs.getD k 0 = ys.getD k 0) : dif xs ys (k + 1) = dif xs ys k := by
 rw [dif, List.range_succ, List.filter_append, List.length_append, List.filter_cons_of_neg (by simpa using h)]
 rfl
theorem dif_le (xs ys : List Nat) (k : Nat) : dif xs ys k ≤ k := by
 have := List.length_filter_le (fun j => decide (xs.getD j 0 ≠ ys.getD j 0)) (List.range k)
 rw [List.length_range] at this
 exact this
theorem getD_eq {xs ys : List Nat} (hl : xs.length = ys.length) {j : Nat} (h : j < xs.length → xs.getD j 0 = ys.getD j 0) : xs[j]? = ys[j]? := by
 by_cases hj : j < xs.length
 ·have h := h hj
  rw [List.getD_eq_getElem?_getD, List.getD_eq_getElem?_getD, List.getElem?_eq_getElem hj, List.getElem?_eq_getElem (hl ▸ hj)] at h
  rw [List.getElem?_eq_getElem hj, List.getElem?_eq_getElem (hl ▸ hj)]
  exact congrArg some h
 ·rw [List.getElem?_eq_none (by omega), List.getElem?_eq_none (by omega)]
theorem dif_none {xs ys : List Nat} (hl : xs.length = ys.length) (h : dif xs ys xs.length = 0) : xs = ys := by
 refine List.ext_getElem? fun j => getD_eq hl fun hj => ?_
 have h1 := List.eq_nil_of_length_eq_zero h
 have h2 := (List.filter_eq_nil_iff.1 h1) j (List.mem_range.2 hj)
 simpa using h2
theorem dif_one {xs ys : List Nat} (hl : xs.length = ys.length) (h : dif xs ys xs.length = 1) : ∃ i, i < xs.length ∧ xs[i]? ≠ ys[i]? ∧ ∀ j, j ≠ i → xs[j]? = ys[j]? := by
 obtain ⟨i, hi⟩ := List.length_eq_one_iff.1 h
 have hm : i ∈ (List.range xs.length).filter fun j => decide (xs.getD j 0 ≠ ys.getD j 0) := by rw [hi]; simp
 obtain ⟨h1, h2⟩ := List.mem_filter.1 hm
 have h1 := List.mem_range.1 h1
 refine ⟨i, h1, ?_, fun j hj => getD_eq hl fun hjl => ?_⟩
 ·intro e
  rw [List.getD_eq_getElem?_getD, List.getD_eq_getElem?_getD, e] at h2
  simp at h2
 ·refine Classical.byContradiction fun hne => hj ?_
  have : j ∈ (List.range xs.length).filter fun j => decide (xs.getD j 0 ≠ ys.getD j 0) := List.mem_filter.2 ⟨List.mem_range.2 hjl, by simpa using hne⟩
  rw [hi] at this
  simpa using this
theorem vb_inj : ∀ (n m : Nat), vb n = vb m → n = m := by
 intro n
 induction n using Nat.strongRecOn with
 | _ n ih =>
  intro m h
  by_cases hn : n < 128
  ·rw [vb_small hn] at h
   by_cases hm : m < 128
   ·rw [vb_small hm] at h
    simpa using h
   ·rw [vb_big hm] at h
    have := (List.cons.inj h).1
    omega
  ·rw [vb_big hn] at h
   by_cases hm : m < 128
   ·rw [vb_small hm] at h
    have := (List.cons.inj h).1
    omega
   ·rw [vb_big hm] at h
    have h1 := (List.cons.inj h).1
    have h2 := ih (n / 128) (by omega) (m / 128) (List.cons.inj h).2
    omega
theorem zz_inj {n m : Int} (h : zz n = zz m) : n = m := by rw [← unzz_zz n, ← unzz_zz m, h]
/-- Another number, another encoding. -/
theorem paB_num {o n m : Int} {nd : List Int} {st : List Sk} {pl : List Plc} {ma : List Mk} {er dr rt : List (Int × Int)} (h : paB ⟨o, n, nd, st, pl, ma, er, dr, rt⟩ = paB ⟨o, m, nd, st, pl, ma, er, dr, rt⟩) : n = m := by
 simp only [paB, vbs, List.flatMap_cons, List.flatMap_nil, List.append_nil, List.append_assoc, List.append_cancel_left_eq] at h
 exact zz_inj (vb_inj _ _ (List.append_cancel_right h))
end Go.Proofs.YtnapnkmehnabfaaGreat
