import Derived.Test.YtmdgdphhedgojaaR10
namespace Go.Proofs.Ytmdgdphhedgojaa
open Go.RowKit Go.Maps

/-- A row of ints. -/
def rowI (l : List Int) : Array Value := (l.map (Value.int .i64)).toArray
theorem rowI_size (l : List Int) : (rowI l).size = l.length := by simp [rowI]
theorem rowI_get {l : List Int} {k : Nat} {x : Int} (h : l[k]? = some x) : (rowI l)[k]? = some (.int .i64 x) := by simp [rowI, h]
theorem rowI_set (l : List Int) (m : Nat) (v : Int) : (rowI (l ++ List.replicate (m + 1) 0)).setIfInBounds l.length (.int .i64 v) = rowI ((l ++ [v]) ++ List.replicate m 0) := by
  simp [rowI, List.replicate_succ]
theorem rowI_put (l : List Int) (k : Nat) (v : Int) : (rowI l).setIfInBounds k (.int .i64 v) = rowI (l.set k v) := by simp [rowI, List.map_set]

theorem make_int (n : Nat) (hn : n ≤ 1099511627776) (W : World) :
    (Instr.makeSlice 22 (.int .i64 n) (.int .i64 n)).run Try.prog W = .ok (.slice (some ⟨W.heap.size, 0, none⟩) n n) (W.alloc (.cells (rowI (List.replicate n 0)) 3)) := by
  obtain ⟨ht, _, _, hzs, i, hi, hz, hs1, hb1⟩ := elt_int
  have hr := run_make (P := Try.prog) W 22 3 i (.int .i64 0) ht hi hz .i64 .i64 n n (by omega) (Int.le_refl _) (by rw [hb1]; omega) (by omega)
  simp only [Int.toNat_natCast, hs1, Nat.mul_one] at hr
  have e : madeCells (Value.int .i64 0).cells n = rowI (List.replicate n 0) := by
    apply Array.toList_inj.1
    show (madeCells #[Value.int .i64 0] n).toList = _
    rw [toList_madeCells_one]
    simp [rowI]
  rw [e] at hr
  exact hr

theorem own_row {w : World} {base g : Nat} {l : List Int} (h : Bk w g 3 (rowI l)) (hb : base ≤ g) (hl : l.length ≤ 1099511627776) : w.ownsRow base 3 1 (.slice (some ⟨g, 0, none⟩) l.length l.length) l.length (l.map (Value.int .i64)) :=
  ⟨by simp, .inr ⟨g, l.length, rowI l, rfl, hb, h, Nat.le_refl _, by unfold maxLen; omega, by simp [rowI], by simp [rowI, List.take_of_length_le]⟩⟩

set_option maxHeartbeats 1000000 in
theorem single_any (A B : Option Addr) (c m d : Nat) (n : Nat) (w : World) (hn : n ≤ 4096) :
    Calls Try.prog 57 #[.agg #[.slice A n c, .slice B m d]] w fun e w' => ∃ g, e = .returned (.slice (some ⟨g, 0, none⟩) n n) ∧ Bk w' g 3 (rowI (alone n)) ∧ w.heap.size ≤ g ∧ Below w.heap.size w w' := by
  have hmk := make_int n (by omega)
  go_enter Try.func57, Try.ntmps57
  go_wp2
  go_loopw [11] (fun i wr => ∃ k : Nat, k ≤ n ∧ i = .int .i64 k ∧ Bk wr (w.heap.size + 1) 3 (rowI (alone k ++ List.replicate (n - k) 0)) ∧ Below w.heap.size w wr) (fun i _ => n - (intOf i).toNat)
  case atStart => exact ⟨0, by omega, rfl, Bk.new' _ _ _ (by simp), ((Below.refl _ _).alloc (Nat.le_refl _) _).alloc (by simp) _⟩
  case round =>
    obtain ⟨k, hk, rfl, hbo, hb⟩ := hrel
    by_cases hlt : k < n
    · obtain ⟨m', hm'⟩ : ∃ m', n - k = m' + 1 := ⟨n - k - 1, by omega⟩
      have Hm := Lib.hid hm'
      clear hm'
      have hbo' : Bk wr (w.heap.size + 1) 3 (rowI (alone k ++ List.replicate (m' + 1) 0)) := Hm.out ▸ hbo
      have hc : wr.cell? ⟨w.heap.size + 1, k, none⟩ = some (.int .i64 0) := (hbo'.cell k).trans (rowI_get (by rw [List.getElem?_append_right (by simp [alone_len])]; simp [alone_len]))
      have hf := hbo'.frozen k
      have Hbo := Lib.hid hbo'
      clear hbo hbo'
      go_wp2
      go_roundw
      case rel =>
        refine ⟨k + 1, by omega, by go_num, ?_, hb.setCell (by simp) _⟩
        have h := Hbo.out.set_ k (.int .i64 k)
        have e := rowI_set (alone k) m' k
        rw [alone_len] at e
        rw [e, ← alone_succ, show m' = n - (k + 1) from by have := Hm.out; omega] at h
        exact h
      case measure => simp [intOf]; omega
    · obtain rfl : k = n := by omega
      rw [Nat.sub_self] at hbo
      simp only [List.replicate_zero, List.append_nil] at hbo
      go_wp2
      go_ret
      exact ⟨_, rfl, hbo, by omega, hb⟩

/-- The index of each group, by first appearance: the map, how many, and the list. -/
def ixSt (ofs : List Int) : Nat → (Int → Option Int) × Nat × List Int
  | 0 => (fun _ => none, 0, [])
  | k + 1 =>
    if ((ixSt ofs k).1 (ofs.getD k 0)).isSome then ((ixSt ofs k).1, (ixSt ofs k).2.1, (ixSt ofs k).2.2 ++ [((ixSt ofs k).1 (ofs.getD k 0)).getD 0])
    else (setF (ixSt ofs k).1 (ofs.getD k 0) (ixSt ofs k).2.1, (ixSt ofs k).2.1 + 1, (ixSt ofs k).2.2 ++ [((ixSt ofs k).2.1 : Int)])

def ix (ofs : List Int) : List Int := (ixSt ofs ofs.length).2.2

theorem ixSt_len (ofs : List Int) (k : Nat) : (ixSt ofs k).2.2.length = k ∧ (ixSt ofs k).2.1 ≤ k := by
  induction k with
  | zero => simp [ixSt]
  | succ k ih => unfold ixSt; split <;> simp <;> omega

theorem cnt_some {κ α : Type} {f : κ → Option α} {x : κ} {n : Nat} (h : (f x).isSome = true) : cnt f x n = n := by simp [cnt, h]
theorem cnt_none {κ α : Type} {f : κ → Option α} {x : κ} {n : Nat} (h : (f x).isSome = false) : cnt f x n = n + 1 := by simp [cnt, h]

set_option maxHeartbeats 2000000 in
theorem indices_any (p g rw rn c : Nat) (ofs : List Int) (w : World) (hp : Bk w p 130 #[.slice (some ⟨g, 0, none⟩) ofs.length c, .map (some rw), .map (some rn)]) (hg : Bk w g 3 (rowI ofs)) (hn : ofs.length ≤ 4096) (hw : W64 ofs) :
    Calls Try.prog 61 #[.pointer (some ⟨p, 0, none⟩)] w fun e w' => ∃ h, e = .returned (.slice (some ⟨h, 0, none⟩) ofs.length ofs.length) ∧ Bk w' h 3 (rowI (ix ofs)) ∧ w.heap.size ≤ h ∧ Below w.heap.size w w' := by
  have hmk := make_int ofs.length (by omega)
  have hmm := @run_makeMap Try.prog
  have hpl := hp.lt
  have hgl := hg.lt
  have hc1 : (w.alloc (.map #[] 0)).cell? ⟨p, 0, none⟩ = some (.slice (some ⟨g, 0, none⟩) ofs.length c) := (hp.alloc _).cell 0
  have hc2 : ((w.alloc (.map #[] 0)).alloc (.cells (rowI (List.replicate ofs.length 0)) 3)).cell? ⟨p, 0, none⟩ = some (.slice (some ⟨g, 0, none⟩) ofs.length c) := ((hp.alloc _).alloc _).cell 0
  have Hg := Lib.hid hg
  clear hp hg
  go_enter Try.func61, Try.ntmps61
  go_wp2
  clear hc1 hc2 hmk hmm
  go_loopw [21] (fun i wr => ∃ k : Nat, k ≤ ofs.length ∧ i = .int .i64 k ∧ Bk wr (w.heap.size + 1) 3 (rowI ((ixSt ofs k).2.2 ++ List.replicate (ofs.length - k) 0)) ∧ MapF iV iV Try.prog 3 wr w.heap.size (ixSt ofs k).1 (ixSt ofs k).2.1 ∧ Below w.heap.size w wr) (fun i _ => ofs.length - (intOf i).toNat)
  case atStart => exact ⟨0, by omega, rfl, Bk.new' _ _ _ (by simp), (MapF.new _ _ _ _ w).alloc _, ((Below.refl _ _).alloc (Nat.le_refl _) _).alloc (by simp) _⟩
  case round =>
    obtain ⟨k, hk, rfl, hbo, hm, hb⟩ := hrel
    obtain ⟨hL1, hL2⟩ := ixSt_len ofs k
    by_cases hlt : k < ofs.length
    · obtain ⟨m', hm'⟩ : ∃ m', ofs.length - k = m' + 1 := ⟨ofs.length - k - 1, by omega⟩
      have Hm := Lib.hid hm'
      clear hm'
      obtain ⟨x, hx⟩ : ∃ x, ofs[k]? = some x := ⟨_, List.getElem?_eq_getElem hlt⟩
      have Hx := Lib.hid hx
      have hcx : wr.cell? ⟨g, k, none⟩ = some (.int .i64 x) := ((Hg.out.below hb hgl).cell k).trans (rowI_get hx)
      have hgx := good_int (hw x (List.mem_of_getElem? hx))
      clear hx
      have hL := Lib.hid hL1
      clear hL1
      have hbo' : Bk wr (w.heap.size + 1) 3 (rowI ((ixSt ofs k).2.2 ++ List.replicate (m' + 1) 0)) := Hm.out ▸ hbo
      have hco : wr.cell? ⟨w.heap.size + 1, k, none⟩ = some (.int .i64 0) := (hbo'.cell k).trans (rowI_get (by rw [List.getElem?_append_right (by rw [hL.out]; omega), hL.out]; simp))
      have hfo := hbo'.frozen k
      have Hbo := Lib.hid hbo'
      clear hbo hbo'
      have hlk : (Instr.lookup 88 (.map (some w.heap.size)) (.int .i64 x) true).run Try.prog wr = .ok (.tuple #[.int .i64 (((ixSt ofs k).1 x).getD 0), .bool ((ixSt ofs k).1 x).isSome]) wr := hm.lookup_ok inj_iV keyed_int Try.underlying88 (zero_int wr) hgx
      have hlk2 : (Instr.lookup 88 (.map (some w.heap.size)) (.int .i64 x) false).run Try.prog wr = .ok (.int .i64 (((ixSt ofs k).1 x).getD 0)) wr := hm.lookup inj_iV keyed_int Try.underlying88 (zero_int wr) hgx
      have hln : ∀ ty, (Builtin.len_ #[88] ty #[.map (some w.heap.size)]).run Try.prog wr = .ok (.int .i64 (ixSt ofs k).2.1) wr := fun ty => hm.len Try.underlying88 ty
      have Hm2 := Lib.hid hm
      clear hm
      have hst : Hid (ixSt ofs (k + 1) = if ((ixSt ofs k).1 x).isSome then ((ixSt ofs k).1, (ixSt ofs k).2.1, (ixSt ofs k).2.2 ++ [((ixSt ofs k).1 x).getD 0])
         else (setF (ixSt ofs k).1 x (ixSt ofs k).2.1, (ixSt ofs k).2.1 + 1, (ixSt ofs k).2.2 ++ [((ixSt ofs k).2.1 : Int)])) := by
        show _ = _; rw [ixSt, getD_of Hx.out]
      cases hs : ((ixSt ofs k).1 x).isSome
      · obtain ⟨w1, hup, hm1, ht1⟩ := Hm2.out.update inj_iV keyed_int Try.underlying88 hgx ((ixSt ofs k).2.1 : Int)
        have hup' : (Instr.mapUpdate 88 (.map (some w.heap.size)) (.int .i64 x) (.int .i64 (ixSt ofs k).2.1)).run Try.prog wr = .ok () w1 := hup
        clear hup
        have hco1 : w1.cell? ⟨w.heap.size + 1, k, none⟩ = some (.int .i64 0) := by rw [ht1.cell (by simp)]; exact hco
        have hfo1 : w1.frozen? ⟨w.heap.size + 1, k, none⟩ = false := by rw [ht1.frozen (by simp)]; exact hfo
        have hlk3 : (Instr.lookup 88 (.map (some w.heap.size)) (.int .i64 x) false).run Try.prog w1 = .ok (.int .i64 (ixSt ofs k).2.1) w1 := by
          have := hm1.lookup inj_iV keyed_int Try.underlying88 (zero_int w1) hgx
          simpa [setF, iV] using this
        have Hm1 := Lib.hid hm1
        have Ht1 := Lib.hid ht1
        clear hm1 ht1
        go_wp2
        go_roundw
        case rel =>
          refine ⟨k + 1, by omega, by go_num, ?_, ?_, (Ht1.out.below hb (Nat.le_refl _)).setCell (by simp) _⟩
          · have h := (Ht1.out.bk Hbo.out (by omega)).set_ k (.int .i64 (ixSt ofs k).2.1)
            have e := rowI_set (ixSt ofs k).2.2 m' (ixSt ofs k).2.1
            rw [hL.out] at e
            rw [e, show m' = ofs.length - (k + 1) from by have := Hm.out; omega] at h
            rw [hst.out, hs]
            exact h
          · rw [hst.out, hs]
            have h := Hm1.out.setCell (p := ⟨w.heap.size + 1, k, none⟩) (by simp) (.int .i64 (ixSt ofs k).2.1)
            rw [cnt_none hs] at h
            exact h
        case measure => simp [intOf]; omega
      · go_wp2
        go_roundw
        case rel =>
          refine ⟨k + 1, by omega, by go_num, ?_, ?_, hb.setCell (by simp) _⟩
          · have h := Hbo.out.set_ k (.int .i64 (((ixSt ofs k).1 x).getD 0))
            have e := rowI_set (ixSt ofs k).2.2 m' (((ixSt ofs k).1 x).getD 0)
            rw [hL.out] at e
            rw [e, show m' = ofs.length - (k + 1) from by have := Hm.out; omega] at h
            rw [hst.out, hs]
            exact h
          · rw [hst.out, hs]
            exact Hm2.out.setCell (by simp) _
        case measure => simp [intOf]; omega
    · obtain rfl : k = ofs.length := by omega
      rw [Nat.sub_self] at hbo
      simp only [List.replicate_zero, List.append_nil] at hbo
      clear hm
      go_wp2
      go_ret
      exact ⟨_, rfl, hbo, by omega, hb⟩
end Go.Proofs.Ytmdgdphhedgojaa
