import Derived.Test.YtgeciimakjfnfaaC8
import Derived.Shelf.SlGeneric
import Derived.Shelf.SortM.Plain
import Derived.Shelf.SortM.SortNone
import Derived.Shelf.SlicesE.Compact
import Derived.Ground.SlgmProg
import Derived.Ground.SlgnProg
namespace Go.Proofs.Ytgeciimakjfnfaa
open Go.Shelf Go.RowKit Go.Lib Go.Sort
shelf_lay_g SlLaysM.n5 Slgm 5 at Try 55 as Try.sortI
shelf_lay_g SlLaysE.n43 Slgn 43 at Try 41 as Try.cmpI
end Go.Proofs.Ytgeciimakjfnfaa
namespace Go.Proofs.Ytgeciimakjfnfaa
open Go.RowKit Go.Maps Go.Sort Go.Shelf

theorem holdsZ {w : World} {base g n c : Nat} {l : List Int} (h : w.ownsRow base 3 1 (.slice (some ⟨g, 0, none⟩) n c) n (l.map (Value.int .i64))) : Holds (Value.int .i64) w g 0 l.toArray := by
  obtain ⟨cur, hb, hc⟩ := own_bk2 h
  have hl : l.length = n := by have := h.1; simpa using this
  intro j hj
  rw [List.size_toArray] at hj
  refine ⟨?_, hb.frozen _⟩
  rw [Nat.zero_add, hb.cell j]
  have h1 : (l.map (Value.int .i64))[j]? = cur[j]? := by rw [← hc, List.getElem?_take_of_lt (by omega)]; simp
  rw [← h1, List.getElem?_map, List.getElem?_eq_getElem hj]
  simp [hj]
theorem own_putZ {w : World} {base g n c q : Nat} {l Z : List Int} (h : w.ownsRow base 3 1 (.slice (some ⟨g, 0, none⟩) n c) n (l.map (Value.int .i64))) (hZ : Z.length = n) (os : Array Obj) :
    (grow (putRow (Value.int .i64) (Sort.ahead w q) g 0 Z.toArray) os).ownsRow base 3 1 (.slice (some ⟨g, 0, none⟩) n c) n (Z.map (Value.int .i64)) ∧ w.grownBy (grow (putRow (Value.int .i64) (Sort.ahead w q) g 0 Z.toArray) os) (some g) := by
  rcases h.2 with ⟨e0, _⟩ | ⟨g', cap', cur, e0, hb, hg, hn, hm, hs, ht⟩
  · cases e0
  · injection e0 with e1 _ e3
    injection e1 with e1
    injection e1 with e1
    subst e1; subst e3
    have hlt : g < w.heap.size := (Array.getElem?_eq_some_iff.1 hg).1
    have hh : ∀ k, k < w.heap.size → (grow (putRow (Value.int .i64) (Sort.ahead w q) g 0 Z.toArray) os).heap[k]? = (putRow (Value.int .i64) (Sort.ahead w q) g 0 Z.toArray).heap[k]? := fun k hk => by
      rw [heap_grow_old _ _ (by rw [size_putRow]; exact hk)]
    refine ⟨⟨by rw [List.length_map, hZ]; omega, .inr ⟨g, c, putCells (Value.int .i64) 0 Z.toArray cur, rfl, hb, ?_, hn, hm, by simpa [putCells] using hs, ?_⟩⟩, ⟨rfl, rfl, rfl, ?_, fun k hk hne => ?_⟩⟩
    · rw [hh g hlt]
      simp [putRow, mapBlock, Sort.ahead, Array.getElem?_modify, hg, onCells]
    · apply List.ext_getElem?
      intro j
      rw [List.getElem?_take, Array.getElem?_toList]
      by_cases hj : j < n * 1
      · have hjc : j < cur.size := by omega
        have hjd : j < Z.length := by omega
        simp only [if_pos hj, putCells, Array.getElem?_mapIdx, Array.getElem?_eq_getElem hjc, Option.map_some]
        rw [if_pos ⟨Nat.zero_le _, by rw [List.size_toArray]; omega⟩, Nat.sub_zero, List.getElem?_map, List.getElem?_eq_getElem hjd]
        simp [hjd]
      · rw [if_neg hj, List.getElem?_eq_none (by rw [List.length_map, hZ]; omega)]
    · unfold grow
      simp [putRow, mapBlock, Sort.ahead]
    · rw [hh k hk]
      have hk2 : ¬ g = k := fun e => hne (by rw [e])
      simp [putRow, mapBlock, Sort.ahead, Array.getElem?_modify, hk2]
def srt (zs : List Int) : List Int := zs.mergeSort fun x y => decide (x ≤ y)
theorem sortI_any {base n : Nat} {v : Value} {l : List Int} {w : World} (hown : w.ownsRow base 3 1 v n (l.map (Value.int .i64))) (hl : n ≤ 1000000) :
    Calls Try.prog 55 #[v] w fun e w' => e = .returned (.tuple #[]) ∧ w'.ownsRow base 3 1 v n ((srt l).map (Value.int .i64)) ∧ w.grownBy w' v.ownBlock := by
  have hln : l.length = n := by have := hown.1; simpa using this
  subst hln
  obtain ⟨A, c, rfl⟩ := own_slice hown
  rcases hown.2 with ⟨e0, h0⟩ | ⟨g, _, _, he, _⟩
  · injection e0 with e1 e2 e3
    subst e1 e3
    have hl0 : l = [] := List.eq_nil_of_length_eq_zero (by omega)
    subst hl0
    refine (AnyM.slices_Sort_int_none Try.sortI none 0 w).mono ?_
    rintro e w' ⟨rfl, rfl⟩
    refine ⟨rfl, ?_, ⟨rfl, rfl, rfl, Nat.le_refl _, fun _ _ _ => rfl⟩⟩
    have : srt [] = [] := by unfold srt; simp
    rw [this]
    exact hown
  · injection he with he _ _
    subst he
    obtain ⟨cur0, hb, _⟩ := own_bk2 hown
    refine (AnyM.slices_Sort_int Try.sortI g 0 c l w (holdsZ hown) hb.lt (by omega)).mono ?_
    rintro e w' ⟨rfl, q, os, rfl⟩
    obtain ⟨h1, h2⟩ := own_putZ (q := q) (Z := srt l) hown (by unfold srt; rw [List.length_mergeSort]) os
    exact ⟨rfl, h1, h2⟩
/-- Without those that repeat the one before. -/
def cmpZ (l : List Int) : List Int := Lib.compactUpTo l.toArray l.length
theorem cmpZ_le (l : List Int) : (cmpZ l).length ≤ l.length := by
  unfold cmpZ Lib.compactUpTo
  rw [List.length_map]
  have := List.length_filter_le (Lib.keeps l.toArray) (List.range l.length)
  rwa [List.length_range] at this
set_option maxHeartbeats 1000000 in
theorem compactI_zero (c : Nat) (w : World) : Calls Try.prog 41 #[.slice none 0 c] w fun e w' => e = .returned (.slice none 0 c) ∧ w = w' := by
  go_enter Try.func41, Try.ntmps41
  go_wp2_with fail
  go_ret
  exact ⟨rfl, rfl⟩
theorem cmpZ_nil : cmpZ [] = [] := rfl
theorem compactI_any {base n : Nat} {v : Value} {l : List Int} {w : World} (hown : w.ownsRow base 3 1 v n (l.map (Value.int .i64))) (hl : n ≤ 1000000) :
    Calls Try.prog 41 #[v] w fun e w' => ∃ v', e = .returned v' ∧ w'.ownsRow base 3 1 v' (cmpZ l).length ((cmpZ l).map (Value.int .i64)) ∧ w.grownBy w' v.ownBlock := by
  have hln : l.length = n := by have := hown.1; simpa using this
  subst hln
  obtain ⟨A, c, rfl⟩ := own_slice hown
  have hcap := own_cap hown
  rcases hown.2 with ⟨e0, h0⟩ | ⟨g, _, _, he, _⟩
  · injection e0 with e1 e2 e3
    subst e1 e3
    have hl0 : l = [] := List.eq_nil_of_length_eq_zero (by omega)
    subst hl0
    refine (compactI_zero 0 w).mono ?_
    rintro e w' ⟨rfl, rfl⟩
    exact ⟨_, rfl, hown, ⟨rfl, rfl, rfl, Nat.le_refl _, fun _ _ _ => rfl⟩⟩
  · injection he with he _ _
    subst he
    have hcon := AnyE.slices_Compact Try.cmpI (Value.int .i64) (fun _ => rfl) (EqlAt.intD _ _ .i64) (NeqAt.intD _ _ .i64) 0 Try.zeroValue3 g 0 c l.toArray w (holdsZ hown) (by simp; omega) (by simpa using hcap)
    rw [List.size_toArray] at hcon
    refine hcon.mono ?_
    rintro e w' ⟨rfl, q, rfl⟩
    have hle := cmpZ_le l
    obtain ⟨h1, h2⟩ := own_putZ (q := q) (Z := cmpZ l ++ List.replicate (l.length - (cmpZ l).length) 0) hown (by simp; omega) #[]
    rw [grow_empty] at h1 h2
    refine ⟨_, rfl, ?_, h2⟩
    have h3 := own_take h1 hle
    rw [List.map_append, Nat.mul_one, List.take_left' (by simp)] at h3
    exact h3
theorem cz_succ (L : List Int) (i : Nat) : Lib.compactUpTo L.toArray (i + 1) = Lib.compactUpTo L.toArray i ++ (if Lib.keeps L.toArray i then [L.toArray[i]!] else []) := by
  unfold Lib.compactUpTo
  rw [List.range_succ, List.filter_append, List.map_append]
  cases h : Lib.keeps L.toArray i
  · simp [h]
  · simp [h]
theorem cz_spec {L : List Int} (h : L.Pairwise (· ≤ ·)) : ∀ i, i < L.length → (Lib.compactUpTo L.toArray (i + 1)).Pairwise (· < ·) ∧ (∀ x ∈ Lib.compactUpTo L.toArray (i + 1), x ≤ L.toArray[i]!) ∧ ∀ x, x ∈ Lib.compactUpTo L.toArray (i + 1) ↔ x ∈ L.take (i + 1)
  | 0, h0 => by
    have e1 : Lib.compactUpTo L.toArray 1 = [L.toArray[0]!] := by rw [cz_succ]; rfl
    have e2 : L.toArray[0]! = L[0] := by rw [getElem!_pos L.toArray 0 (by simpa using h0)]; simp
    have e3 : L.take (0 + 1) = [L[0]] := by rw [List.take_succ_eq_append_getElem h0]; rfl
    rw [e1, e3, e2]
    exact ⟨List.pairwise_singleton _ _, fun x hx => by rw [List.mem_singleton.1 hx]; exact Int.le_refl _, fun x => Iff.rfl⟩
  | i + 1, hi => by
    obtain ⟨h1, h2, h3⟩ := cz_spec h i (by omega)
    have e1 : L.toArray[i + 1]! = L[i + 1] := by rw [getElem!_pos L.toArray (i + 1) (by simpa using hi)]; simp
    have e0 : L.toArray[i]! = L[i] := by rw [getElem!_pos L.toArray i (by simp; omega)]; simp
    have hle := (List.pairwise_iff_getElem.1 h) i (i + 1) (by omega) hi (by omega)
    have hk : Lib.keeps L.toArray (i + 1) = decide (L[i + 1] ≠ L[i]) := by unfold Lib.keeps; rw [Nat.add_sub_cancel, e1, e0]; simp
    have e3 : L.take (i + 1 + 1) = L.take (i + 1) ++ [L[i + 1]] := List.take_succ_eq_append_getElem hi
    have hmem : L[i] ∈ L.take (i + 1) := List.mem_take_iff_getElem.2 ⟨i, by omega, rfl⟩
    rw [cz_succ, e1, e3, hk]
    rw [e0] at h2
    by_cases he : L[i + 1] = L[i]
    · rw [if_neg (by simp [he]), List.append_nil]
      refine ⟨h1, fun x hx => by rw [he]; exact h2 x hx, fun x => ?_⟩
      rw [h3 x, List.mem_append, List.mem_singleton]
      exact ⟨fun k => .inl k, fun k => k.elim id fun k => by rw [k, he]; exact hmem⟩
    · rw [if_pos (by simp [he])]
      refine ⟨?_, fun x hx => ?_, fun x => ?_⟩
      · rw [List.pairwise_append]
        refine ⟨h1, List.pairwise_singleton _ _, fun a ha b hb => ?_⟩
        rw [List.mem_singleton.1 hb]
        have := h2 a ha
        omega
      · rcases List.mem_append.1 hx with hx | hx
        · have := h2 x hx; omega
        · rw [List.mem_singleton.1 hx]; exact Int.le_refl _
      · rw [List.mem_append, List.mem_append, h3 x]
theorem srt_le (l : List Int) : (srt l).Pairwise (· ≤ ·) := by
  have := List.pairwise_mergeSort (le := fun x y : Int => decide (x ≤ y)) (fun a b c h1 h2 => by simp at *; omega) (fun a b => by simp; omega) l
  exact this.imp fun h => by simpa using h
theorem srt_perm (l : List Int) : (srt l).Perm l := List.mergeSort_perm ..
theorem srt_len (l : List Int) : (srt l).length = l.length := (srt_perm l).length_eq
/-- In order, each once. -/
theorem cmpZ_spec (l : List Int) : (cmpZ (srt l)).Pairwise (· < ·) ∧ ∀ x, x ∈ cmpZ (srt l) ↔ x ∈ l := by
  unfold cmpZ
  rcases Nat.eq_zero_or_pos (srt l).length with h | h
  · have e : l = [] := List.eq_nil_of_length_eq_zero (by rw [← srt_len, h])
    subst e
    rw [h]
    exact ⟨.nil, fun x => ⟨fun k => (by cases k), fun k => (by cases k)⟩⟩
  · obtain ⟨k, hk⟩ : ∃ k, (srt l).length = k + 1 := ⟨(srt l).length - 1, by omega⟩
    obtain ⟨h1, _, h3⟩ := cz_spec (srt_le l) k (by omega)
    rw [hk]
    refine ⟨h1, fun x => ?_⟩
    rw [h3 x, ← hk, List.take_length, (srt_perm l).mem_iff]
theorem cmpZ_lt {l : List Int} : (cmpZ (srt l)).length < l.length ↔ ¬ l.Nodup := by
  have hs : (cmpZ (srt l)).Sublist (srt l) := by
    unfold cmpZ Lib.compactUpTo
    have h1 : ((List.range (srt l).length).filter (Lib.keeps (srt l).toArray)).Sublist (List.range (srt l).length) := List.filter_sublist
    have h2 := h1.map (fun j => (srt l).toArray[j]!)
    have h3 : (List.range (srt l).length).map (fun j => (srt l).toArray[j]!) = srt l := by
      apply List.ext_getElem
      · simp
      · intro i h1 h2
        simp
        rw [List.getElem?_eq_getElem h2]
        rfl
    rw [h3] at h2
    exact h2
  have hle := hs.length_le
  rw [srt_len] at hle
  constructor
  · intro h hn
    have hn2 : (srt l).Nodup := (srt_perm l).nodup_iff.2 hn
    have hall : ∀ j ∈ List.range (srt l).length, Lib.keeps (srt l).toArray j = true := fun j hj => by
      have hj' := List.mem_range.1 hj
      unfold Lib.keeps
      rcases Nat.eq_zero_or_pos j with rfl | hp
      · simp
      · have e1 : (srt l).toArray[j]! = (srt l)[j] := by rw [getElem!_pos (srt l).toArray j (by simpa using hj')]; simp
        have e0 : (srt l).toArray[j - 1]! = (srt l)[j - 1] := by rw [getElem!_pos (srt l).toArray (j - 1) (by simp; omega)]; simp
        rw [e1, e0]
        have := (List.pairwise_iff_getElem.1 hn2) (j - 1) j (by omega) hj' (by omega)
        exact decide_eq_true (.inr fun e => this e.symm)
    have : (cmpZ (srt l)).length = (srt l).length := by
      unfold cmpZ Lib.compactUpTo
      rw [List.filter_eq_self.2 hall]
      simp
    rw [srt_len] at this
    omega
  · intro hn
    rcases Nat.lt_or_ge (cmpZ (srt l)).length l.length with h | h
    · exact h
    · have e := hs.eq_of_length (by rw [srt_len]; omega)
      have : (srt l).Nodup := by rw [← e]; exact (cmpZ_spec l).1.imp fun h => by omega
      exact (hn ((srt_perm l).nodup_iff.1 this)).elim
end Go.Proofs.Ytgeciimakjfnfaa
