import Derived.Test.YtaegfljpodhnhaaG04
import Derived.Test.YtaegfljpodhnhaaR34
import Derived.Shelf.SlSortCmp.NoneTotal
namespace Go.Proofs.Ytaegfljpodhnhaa
open Go.RowKit Go.Maps Go.Sort

theorem cmpI_lt {a b : Int} : cmpI a b < 0 ↔ a < b := by unfold cmpI; split <;> (try split) <;> omega
theorem cmpI_zero {a b : Int} : cmpI a b = 0 ↔ a = b := by unfold cmpI; split <;> (try split) <;> omega
/-- The order of whole borders. -/
def tL3 (s t : Int × Int × Int) : Prop := s.1 < t.1 ∨ s.1 = t.1 ∧ (s.2.1 < t.2.1 ∨ s.2.1 = t.2.1 ∧ s.2.2 < t.2.2)
theorem cfT_lt (s t : Int × Int × Int) : ltOf cfT s t = true ↔ tL3 s t := by
  unfold ltOf cfT tL3
  rw [decide_eq_true_eq]
  simp only [cmpL, bne_iff_ne, ne_eq, cmpI_zero]
  by_cases h1 : s.1 = t.1
  · by_cases h2 : s.2.1 = t.2.1
    · by_cases h3 : s.2.2 = t.2.2
      · simp [h1, h2, h3]
      · rw [if_neg (by simpa using h1), if_neg (by simpa using h2), if_pos h3, cmpI_lt]
        omega
    · rw [if_neg (by simpa using h1), if_pos h2, cmpI_lt]
      omega
  · rw [if_pos h1, cmpI_lt]
    omega
theorem cfT_nlt (s t : Int × Int × Int) : ltOf cfT s t = false ↔ ¬ tL3 s t := by rw [← cfT_lt, Bool.not_eq_true]
theorem cfT_swo : SWO (ltOf cfT) where
  irrefl x := by rw [cfT_nlt]; unfold tL3; omega
  trans x y z h1 h2 := by rw [cfT_lt] at *; unfold tL3 at *; omega
  ntrans x y z h1 h2 := by rw [cfT_nlt] at *; unfold tL3 at *; omega

theorem flat_get (d : Array (Int × Int × Int)) (i r : Nat) (hi : i < d.size) (hr : r < 3) : (flatK encT 3 d)[i * 3 + r]! = (encT d[i]!)[r]! := by
  rw [get_flatK _ _ _ _ (by omega), show (i * 3 + r) / 3 = i by omega, show (i * 3 + r) % 3 = r by omega]
theorem encT_get (t : Int × Int × Int) (ts : List (Int × Int × Int)) (i r : Nat) (hr : r < 3) (h : ts[i]? = some t) : (triC ts)[i * 3 + r]? = some (encT t)[r]! := by
  obtain ⟨h0, h1, h2⟩ := triC_at ts i t h
  match r with
  | 0 => exact h0
  | 1 => exact h1
  | 2 => exact h2
  | r + 3 => omega

theorem holdsT {w : World} {base g c : Nat} {ts : List (Int × Int × Int)} (h : w.ownsRow base 52 3 (.slice (some ⟨g, 0, none⟩) ts.length c) ts.length (triC ts)) : HoldsK encT 3 w g 0 ts.toArray := by
  obtain ⟨cur, hb, hc⟩ := own_bk h
  intro j hj
  rw [size_flatK, List.size_toArray] at hj
  have hj3 : j / 3 < ts.length := by omega
  have e : j = j / 3 * 3 + j % 3 := by omega
  refine ⟨?_, hb.frozen _⟩
  rw [Nat.zero_add, hb.cell j]
  have h1 := encT_get ts[j / 3] ts (j / 3) (j % 3) (by omega) (List.getElem?_eq_getElem hj3)
  rw [← e, ← hc, List.getElem?_take_of_lt (by omega)] at h1
  have h2 := flat_get ts.toArray (j / 3) (j % 3) (by simpa using hj3) (by omega)
  rw [← e] at h2
  rw [h2]
  have h3 : ts.toArray[j / 3]! = ts[j / 3] := by simp [hj3]
  rw [h3]
  simpa using h1

theorem sorted_list {d : Array (Int × Int × Int)} (h : SortedIn (ltOf cfT) 0 d.size d) : d.toList.Pairwise fun s t => ¬ tLt t s := by
  rw [List.pairwise_iff_getElem]
  intro i j hi hj hij
  rw [Array.length_toList] at hi hj
  have h1 := h i j (Nat.zero_le _) hij hj
  rw [cfT_nlt, getElem!_pos d j hj, getElem!_pos d i hi] at h1
  rw [Array.getElem_toList, Array.getElem_toList]
  unfold tL3 at h1
  unfold tLt
  omega

set_option maxHeartbeats 1000000 in
theorem sortT_any {base g c : Nat} {ts : List (Int × Int × Int)} {w : World} (hown : w.ownsRow base 52 3 (.slice (some ⟨g, 0, none⟩) ts.length c) ts.length (triC ts)) (hl : ts.length ≤ 1099511627776) :
    Calls Try.prog 72 #[.slice (some ⟨g, 0, none⟩) ts.length c, .func (.func 73) #[] #[]] w fun e w' => e = .returned (.tuple #[]) ∧ ∃ ts', ts'.Perm ts ∧ (ts'.Pairwise fun s t => ¬ tLt t s) ∧ ST w' (some ⟨g, 0, none⟩) ts' ∧ Fr g g g w w' := by
  have eg : ∀ args w, (callFunc 73 args).run Try.prog w = .ok (.enter 73 args) w := enters_of Try.func73 (by kernel_rfl) rfl
  obtain ⟨cur, hb, _⟩ := own_bk hown
  have hH := holdsT hown
  have hcon := AnyQ.slices_SortFunc Try.sortTri 3 Try.isAgg52 Try.sizeOf52 encT (fun _ => rfl) (fun x v hv => by simp [encT] at hv; rcases hv with rfl | rfl | rfl <;> rfl) cfT cfT_swo 73 #[] g 0 c ts.toArray w eg (cmpLays g 0 ts.toArray.size w) hH hb.lt (by simp; omega)
  rw [List.size_toArray] at hcon
  refine hcon.mono ?_
  rintro e w' ⟨rfl, d', n, os, hp, hs, rfl⟩
  have hsz : d'.size = ts.length := by simpa using hp.1
  have hperm : d'.toList.Perm ts := by
    have h1 := hp.2.2
    have e1 : (d'.extract 0 ts.length).toList = d'.toList := by rw [← hsz]; simp
    rw [e1] at h1
    simpa using h1
  have hs' : SortedIn (ltOf cfT) 0 d'.size d' := by rw [hsz]; exact hs
  have hHold : HoldsK encT 3 (sortWorldK encT 3 w g 0 n d' os) g 0 d' := by
    unfold sortWorldK
    exact holdsK_grow _ _ _ _ _ _ _ (by unfold putRowK; rw [size_putRow]; exact hb.lt) (holdsK_putRowK _ _ _ _ _ _ _ (holdsK_ahead _ _ _ _ _ _ _ hH) (by simpa using hsz))
  have hsize : w.heap.size ≤ (sortWorldK encT 3 w g 0 n d' os).heap.size := by
    unfold sortWorldK grow putRowK
    simp
  refine ⟨rfl, d'.toList, hperm, sorted_list hs', fun j u hu => ⟨g, 0, rfl, Nat.lt_of_lt_of_le hb.lt hsize, ?_⟩, ⟨rfl, rfl, rfl, hsize, fun k hk h1 _ _ => ?_⟩⟩
  · have hlen : (triC d'.toList).length = d'.size * 3 := by rw [triC_len, Array.length_toList]
    have hj := (List.getElem?_eq_some_iff.1 hu).1
    rw [hlen] at hj
    have h1 := (hHold j (by rw [size_flatK]; exact hj)).1
    have e : j = j / 3 * 3 + j % 3 := by omega
    have h2 := flat_get d' (j / 3) (j % 3) (by omega) (by omega)
    have h3 := encT_get d'[j / 3]! d'.toList (j / 3) (j % 3) (by omega) (by rw [getElem!_pos d' _ (by omega)]; simp [show j / 3 < d'.size by omega])
    rw [← e] at h2 h3
    rw [hu] at h3
    injection h3 with h3
    rw [h1, h3, ← h2]
    rfl
  · unfold sortWorldK
    rw [heap_grow_old _ _ (by unfold putRowK; rw [size_putRow]; exact hk)]
    unfold putRowK putRow mapBlock
    simp [Array.getElem?_modify, Ne.symm h1]

theorem sort_none (p : Option Addr) (c : Nat) (fv : Value) (w : World) : Calls Try.prog 72 #[.slice p 0 c, fv] w fun e w' => e = .returned (.tuple #[]) ∧ w' = w :=
  AnyF.slices_SortFunc_none Try.sortTri p c fv w
theorem sort_any {base c : Nat} {A : Option Addr} {ts : List (Int × Int × Int)} {w : World} (hown : w.ownsRow base 52 3 (.slice A ts.length c) ts.length (triC ts)) (hl : ts.length ≤ 1099511627776) :
    Calls Try.prog 72 #[.slice A ts.length c, .func (.func 73) #[] #[]] w fun e w' => e = .returned (.tuple #[]) ∧ ∃ ts', ts'.Perm ts ∧ (ts'.Pairwise fun s t => ¬ tLt t s) ∧ ST w' A ts' ∧ w.grownBy w' (Value.slice A ts.length c).ownBlock := by
  rcases Nat.eq_zero_or_pos ts.length with h0 | h0
  · obtain rfl := List.eq_nil_of_length_eq_zero h0
    refine (sort_none A c _ w).mono ?_
    rintro e w' ⟨he, rfl⟩
    exact ⟨he, [], List.Perm.refl _, List.Pairwise.nil, SL.nil_, World.grownBy.refl _ _⟩
  · obtain ⟨g, cap, he, _⟩ := hown.form h0
    obtain rfl : A = some ⟨g, 0, none⟩ := by injection he
    refine (sortT_any hown hl).mono ?_
    rintro e w' ⟨he, ts', h1, h2, h3, h4⟩
    exact ⟨he, ts', h1, h2, h3, ⟨h4.os, h4.tape, h4.output, h4.size, fun k hk hne => h4.block k hk (fun e => hne (by rw [e]; rfl)) (fun e => hne (by rw [e]; rfl)) (fun e => hne (by rw [e]; rfl))⟩⟩
end Go.Proofs.Ytaegfljpodhnhaa
