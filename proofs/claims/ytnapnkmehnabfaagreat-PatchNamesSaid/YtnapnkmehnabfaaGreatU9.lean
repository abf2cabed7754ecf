import Derived.Test.YtnapnkmehnabfaaGreatU5
import Derived.Test.YtnapnkmehnabfaaGreatU6
namespace Go.Proofs.YtnapnkmehnabfaaGreat
open Go.RowKit Go.Maps Go.Sort Go.Shelf

theorem byN_lt (a b : Int × Int) : ltOf byN a b = lessI a b := by
 have h := byN_ge (a := a) (b := b)
 unfold ltOf
 cases hl : lessI a b
 ·rw [hl] at h
  have : 0 ≤ byN a b := by simpa using h
  simp; omega
 ·rw [hl] at h
  have : ¬ 0 ≤ byN a b := by simpa using h
  simp; omega
theorem byN_swo : SWO (ltOf byN) where
 irrefl x := by rw [byN_lt]; exact lessI_irr x
 trans x y z h1 h2 := by rw [byN_lt] at *; exact lessI_trans h1 h2
 ntrans x y z h1 h2 := by
  rw [byN_lt] at *
  unfold lessI at *
  simp only [decide_eq_false_iff_not] at *
  omega
def encI (t : Int × Int) : List Value := [.int .u64 t.1, .int .i64 t.2]
theorem idC_enc : ∀ l : List (Int × Int), idC l = l.flatMap encI := fun _ => rfl
theorem flatI_get (d : Array (Int × Int)) (j : Nat) (hj : j < d.size * 2) : (flatK encI 2 d)[j]! = ((idC d.toList)[j]?).getD default := by
 rw [get_flatK _ _ _ _ (by omega)]
 have hd : j / 2 < d.size := by omega
 obtain ⟨h0, h1⟩ := idC_at d.toList (j / 2) d[j / 2] (by simp [hd])
 have e : j = j / 2 * 2 + j % 2 := by omega
 have e2 : d[j / 2]! = d[j / 2] := getElem!_pos d _ hd
 rw [e2]
 have : j % 2 = 0 ∨ j % 2 = 1 := by omega
 rcases this with h | h
 ·rw [h] at e ⊢
  rw [show (idC d.toList)[j]? = some (.int .u64 d[j / 2].1) by rw [← h0]; congr 1]
  rfl
 ·rw [h] at e ⊢
  rw [show (idC d.toList)[j]? = some (.int .i64 d[j / 2].2) by rw [← h1]; congr 1]
  rfl
theorem cmpLaysI (blk off size : Nat) (w : World) : CmpLays Tryz.prog 102 #[] encI 2 byN blk off size w := fun _ _ _ _ x y => byName_gr x.1 x.2 y.1 y.2 _
theorem holdsI {w : World} {base g c : Nat} {l : List (Int × Int)} (h : w.ownsRow base 77 2 (.slice (some ⟨g, 0, none⟩) l.length c) l.length (idC l)) : HoldsK encI 2 w g 0 l.toArray := by
 obtain ⟨cur, hb, hc⟩ := own_bk2 h
 intro j hj
 rw [size_flatK, List.size_toArray] at hj
 refine ⟨?_, hb.frozen _⟩
 rw [Nat.zero_add, hb.cell j, flatI_get _ _ (by simpa using hj)]
 have hj2 : j < (idC l).length := by rw [idC_len]; omega
 have h1 : (idC l)[j]? = cur[j]? := by rw [← hc, List.getElem?_take_of_lt (by omega)]; simp
 rw [← h1, List.getElem?_eq_getElem hj2]
 simp
theorem own_sortI {w : World} {base g n c q : Nat} {l : List (Int × Int)} {d' : Array (Int × Int)} (h : w.ownsRow base 77 2 (.slice (some ⟨g, 0, none⟩) n c) n (idC l)) (hd : d'.size = n) (os : Array Obj) :
  (sortWorldK encI 2 w g 0 q d' os).ownsRow base 77 2 (.slice (some ⟨g, 0, none⟩) n c) n (idC d'.toList) ∧ w.grownBy (sortWorldK encI 2 w g 0 q d' os) (some g) := by
 rcases h.2 with ⟨e0, _⟩ | ⟨g', cap', cur, e0, hb, hg, hn, hm, hs, ht⟩
 ·cases e0
 ·injection e0 with e1 _ e3
  injection e1 with e1
  injection e1 with e1
  subst e1; subst e3
  have hlt : g < w.heap.size := (Array.getElem?_eq_some_iff.1 hg).1
  have hF : (flatK encI 2 d').size = n * 2 := by rw [size_flatK, hd]
  have hh : ∀ k, k < w.heap.size → (sortWorldK encI 2 w g 0 q d' os).heap[k]? = (putRow id (Sort.ahead w q) g 0 (flatK encI 2 d')).heap[k]? := fun k hk => by
   unfold sortWorldK
   rw [heap_grow_old _ _ (by unfold putRowK; rw [size_putRow]; exact hk)]
   rfl
  refine ⟨⟨by rw [idC_len, Array.length_toList, hd], .inr ⟨g, c, putCells id 0 (flatK encI 2 d') cur, rfl, hb, ?_, hn, hm, by simpa [putCells] using hs, ?_⟩⟩, ⟨rfl, rfl, rfl, ?_, fun k hk hne => ?_⟩⟩
  ·rw [hh g hlt]
   simp [putRow, mapBlock, Sort.ahead, Array.getElem?_modify, hg, onCells]
  ·apply List.ext_getElem?
   intro j
   rw [List.getElem?_take, Array.getElem?_toList]
   by_cases hj : j < n * 2
   ·have hjc : j < cur.size := by omega
    have hjd : j < (idC d'.toList).length := by rw [idC_len, Array.length_toList, hd]; exact hj
    simp only [if_pos hj, putCells, Array.getElem?_mapIdx, Array.getElem?_eq_getElem hjc, Option.map_some]
    rw [if_pos ⟨Nat.zero_le _, by rw [hF]; omega⟩, Nat.sub_zero, flatI_get d' j (by rw [hd]; exact hj), List.getElem?_eq_getElem hjd]
    rfl
   ·rw [if_neg hj, List.getElem?_eq_none (by rw [idC_len, Array.length_toList, hd]; omega)]
  ·unfold sortWorldK grow putRowK
   simp
  ·rw [hh k hk]
   have hk2 : ¬ g = k := fun e => hne (by rw [e])
   simp [putRow, mapBlock, Sort.ahead, Array.getElem?_modify, hk2]
theorem sortI_any {base g c : Nat} {l : List (Int × Int)} {w : World} (hown : w.ownsRow base 77 2 (.slice (some ⟨g, 0, none⟩) l.length c) l.length (idC l)) (hl : l.length ≤ 1000000) :
  Calls Tryz.prog 101 #[.slice (some ⟨g, 0, none⟩) l.length c, .func (.func 102) #[] #[]] w fun e w' => e = .returned (.tuple #[]) ∧ ∃ l', l'.Perm l ∧ (l'.Pairwise fun s t => lessI t s = false) ∧ w'.ownsRow base 77 2 (.slice (some ⟨g, 0, none⟩) l.length c) l.length (idC l') ∧ w.grownBy w' (some g) := by
 have eg : ∀ args w, (callFunc 102 args).run Tryz.prog w = .ok (.enter 102 args) w := enters_of Tryz.func102 (by kernel_rfl) rfl
 obtain ⟨cur0, hb, _⟩ := own_bk2 hown
 have hH := holdsI hown
 have hcon := AnyQ.slices_SortFunc Tryz.sortID 2 Tryz.isAgg77 Tryz.sizeOf77 encI (fun _ => rfl) (fun x v hv => by simp [encI] at hv; rcases hv with rfl | rfl <;> rfl) byN byN_swo 102 #[] g 0 c l.toArray w eg (cmpLaysI g 0 l.toArray.size w) hH hb.lt (by simp; omega)
 rw [List.size_toArray] at hcon
 refine hcon.mono ?_
 rintro e w' ⟨rfl, d', n, os, hp, hs, rfl⟩
 have hsz : d'.size = l.length := by simpa using hp.1
 have hperm : d'.toList.Perm l := by
  have h1 := hp.2.2
  have e1 : (d'.extract 0 l.length).toList = d'.toList := by rw [← hsz]; simp
  rw [e1] at h1
  simpa using h1
 have hs' : SortedIn (ltOf byN) 0 d'.size d' := by rw [hsz]; exact hs
 obtain ⟨h1, h2⟩ := own_sortI hown hsz (q := n) os
 refine ⟨rfl, d'.toList, hperm, ?_, h1, h2⟩
 rw [List.pairwise_iff_getElem]
 intro i j hi hj hij
 rw [Array.length_toList] at hi hj
 have h3 := hs' i j (Nat.zero_le _) hij hj
 rw [byN_lt, getElem!_pos d' j hj, getElem!_pos d' i hi] at h3
 rw [Array.getElem_toList, Array.getElem_toList]
 exact h3
end Go.Proofs.YtnapnkmehnabfaaGreat
