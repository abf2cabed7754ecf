import Derived.Test.YtaegfljpodhnhaaR40
namespace Go.Proofs.Ytaegfljpodhnhaa
open Go.RowKit Go.Maps

/-- A list of indices, each at most one more than the greatest ahead of it. -/
def listB : Int → List Int → Bool
  | _, [] => true
  | m, x :: l => decide (0 ≤ x) && decide (x ≤ m) && listB (max m (x + 1)) l
/-- The error of a list. -/
def listE (n : Nat) (l : List Int) : Int := if l.length ≠ n then 1 else if listB 0 l then 0 else 1

theorem listB_drop {l : List Int} {k : Nat} {x m : Int} (h : l[k]? = some x) : listB m (l.drop k) = (decide (0 ≤ x) && decide (x ≤ m) && listB (max m (x + 1)) (l.drop (k + 1))) := by
  obtain ⟨hk, e⟩ := List.getElem?_eq_some_iff.1 h
  rw [List.drop_eq_getElem_cons hk, e, listB]

set_option maxHeartbeats 1000000 in
theorem list_any (A B C : Option Addr) (c d f n m : Nat) (l : List Int) (w : World) (hC : SI w C l) (hl : l.length ≤ 4611686018427387904) (hn : n ≤ 4611686018427387904) :
    Calls Try.prog 53 #[.agg #[.slice A n c, .slice B m d], .slice C l.length f] w fun e w' => e = .returned (.int .i64 (listE n l)) ∧ Below w.heap.size w w' := by
  have hb0 := (Below.refl w.heap.size w).alloc (Nat.le_refl _) (.cells #[.slice A n c, .slice B m d] 31)
  by_cases hne : l.length = n
  · subst hne
    have hs : Hid (listE l.length l = if listB 0 l then 0 else 1) := by show _ = _; rw [listE, if_neg (by simp)]
    go_enter Try.func53, Try.ntmps53
    go_wp2
    go_loopw [5, 16] (fun v i wr => ∃ (k : Nat) (z : Int), k ≤ l.length ∧ i = .int .i64 k ∧ v = .int .i64 z ∧ -1 ≤ z ∧ z < k ∧ Hid (listB 0 l = listB (z + 1) (l.drop k)) ∧ Below w.heap.size w wr) (fun _ i _ => l.length - (intOf i).toNat)
    case atStart => exact ⟨0, -1, by omega, rfl, rfl, by omega, by omega, Lib.hid rfl, hb0⟩
    case round =>
      obtain ⟨k, z, hk, rfl, rfl, hz1, hz2, hL, hb⟩ := hrel
      by_cases hlt : k < l.length
      · obtain ⟨b1, o1, x, rfl, hc, hx⟩ := (hC.below hb).get hlt
        have hd := Lib.hid (listB_drop (m := z + 1) hx.out)
        have hwz : IntKind.i64.wrap (z + 1) = z + 1 := IntWalk.i64_in _ (by omega)
        have hmax : ∀ (W : World) (ts : Array TypeId) (t : TypeId), (Builtin.max_ ts t #[.int .i64 z, .int .i64 x]).run Try.prog W = .ok (.int .i64 (max z x)) W := fun W ts t => Lib.run_max_ints W ts t .i64 .i64 z x
        by_cases hx0 : x < 0
        · have hv : Hid (listE l.length l = 1) := by
            show _ = _
            rw [hs.out, hL.out, hd.out, decide_eq_false (show ¬ 0 ≤ x by omega)]
            simp
          go_wp2
          go_ret
          exact ⟨ret_int hv.out.symm, hb⟩
        · have hx1 : 0 ≤ x := by omega
          by_cases hx2 : z + 1 < x
          · have hv : Hid (listE l.length l = 1) := by
              show _ = _
              rw [hs.out, hL.out, hd.out, decide_eq_false (show ¬ x ≤ z + 1 by omega)]
              simp
            go_wp2
            go_ret
            exact ⟨ret_int hv.out.symm, hb⟩
          · have hx3 : x ≤ z + 1 := by omega
            go_wp2
            go_roundw
            case rel => exact ⟨k + 1, max z x, by omega, by go_num, rfl, by omega, by omega, by
              show _ = _
              rw [hL.out, hd.out, decide_eq_true hx1, decide_eq_true hx3, show max (z + 1) (x + 1) = max z x + 1 by omega]
              simp, hb⟩
            case measure => simp [intOf]; omega
      · obtain rfl : k = l.length := by omega
        have hv : Hid (listE l.length l = 0) := by
          show _ = _
          rw [hs.out, hL.out, List.drop_length]
          simp [listB]
        go_wp2
        go_ret
        exact ⟨ret_int hv.out.symm, hb⟩
  · have hs : Hid (listE n l = 1) := by show _ = _; rw [listE, if_pos hne]
    go_enter Try.func53, Try.ntmps53
    go_wp2
    go_ret
    exact ⟨ret_int hs.out.symm, hb0⟩

set_option maxHeartbeats 1000000 in
theorem listed_any (A B C : Option Addr) (c d f n m : Nat) (l : List Int) (w : World) (hC : SI w C l) (hl : l.length ≤ 4611686018427387904) (hn : n ≤ 4611686018427387904) :
    Calls Try.prog 59 #[.agg #[.slice A n c, .slice B m d], .slice C l.length f] w fun e w' => e = .returned (.int .i64 (listE n l)) ∧ Below w.heap.size w w' := by
  have hb0 := (Below.refl w.heap.size w).alloc (Nat.le_refl _) (.cells #[.slice A n c, .slice B m d] 33)
  by_cases hne : l.length = n
  · subst hne
    have hs : Hid (listE l.length l = if listB 0 l then 0 else 1) := by show _ = _; rw [listE, if_neg (by simp)]
    go_enter Try.func59, Try.ntmps59
    go_wp2
    go_loopw [5, 6] (fun v i wr => ∃ (k : Nat) (z : Int), k ≤ l.length ∧ i = .int .i64 k ∧ v = .int .i64 z ∧ 0 ≤ z ∧ z ≤ k ∧ Hid (listB 0 l = listB z (l.drop k)) ∧ Below w.heap.size w wr) (fun _ i _ => l.length - (intOf i).toNat)
    case atStart => exact ⟨0, 0, by omega, rfl, rfl, by omega, by omega, Lib.hid rfl, hb0⟩
    case round =>
      obtain ⟨k, z, hk, rfl, rfl, hz1, hz2, hL, hb⟩ := hrel
      by_cases hlt : k < l.length
      · obtain ⟨b1, o1, x, rfl, hc, hx⟩ := (hC.below hb).get hlt
        have hd := Lib.hid (listB_drop (m := z) hx.out)
        have i0 : (0 : Int) ≤ (k : Int) := by omega
        by_cases hx0 : x < 0
        · have hv : Hid (listE l.length l = 1) := by
            show _ = _
            rw [hs.out, hL.out, hd.out, decide_eq_false (show ¬ 0 ≤ x by omega)]
            simp
          go_wp2
          go_ret
          exact ⟨ret_int hv.out.symm, hb⟩
        · have hx1 : 0 ≤ x := by omega
          by_cases hx2 : z < x
          · have hv : Hid (listE l.length l = 1) := by
              show _ = _
              rw [hs.out, hL.out, hd.out, decide_eq_false (show ¬ x ≤ z by omega)]
              simp
            go_wp2
            go_ret
            exact ⟨ret_int hv.out.symm, hb⟩
          · have hx3 : x ≤ z := by omega
            have hwz : IntKind.i64.wrap (x + 1) = x + 1 := IntWalk.i64_in _ (by omega)
            have hmax : ∀ (W : World) (ts : Array TypeId) (t : TypeId), (Builtin.max_ ts t #[.int .i64 z, .int .i64 (x + 1)]).run Try.prog W = .ok (.int .i64 (max z (x + 1))) W := fun W ts t => Lib.run_max_ints W ts t .i64 .i64 z (x + 1)
            go_wp2
            go_roundw
            case rel => exact ⟨k + 1, max z (x + 1), by omega, by go_num, rfl, by omega, by omega, by
              show _ = _
              rw [hL.out, hd.out, decide_eq_true hx1, decide_eq_true hx3]
              simp, hb⟩
            case measure => simp [intOf]; omega
      · obtain rfl : k = l.length := by omega
        have hv : Hid (listE l.length l = 0) := by
          show _ = _
          rw [hs.out, hL.out, List.drop_length]
          simp [listB]
        go_wp2
        go_ret
        exact ⟨ret_int hv.out.symm, hb⟩
  · have hs : Hid (listE n l = 1) := by show _ = _; rw [listE, if_pos hne]
    go_enter Try.func59, Try.ntmps59
    go_wp2
    go_ret
    exact ⟨ret_int hs.out.symm, hb0⟩

set_option maxHeartbeats 1000000 in
theorem equal_any (A B : Option Addr) (c d : Nat) (xs ys : List Int) (w : World) (hA : SI w A xs) (hB : SI w B ys)
   (hl : xs.length ≤ 4611686018427387904) (hl2 : ys.length ≤ 4611686018427387904) :
    Calls Try.prog 57 #[.slice A xs.length c, .slice B ys.length d] w fun e w' => e = .returned (.bool (decide (xs = ys))) ∧ Qt w w' := by
  by_cases hne : xs.length = ys.length
  · have Hne := Lib.hid hne
    have hle1 : xs.length ≤ ys.length := by omega
    have hle2 : ys.length ≤ xs.length := by omega
    clear hne
    go_enter Try.func57, Try.ntmps57
    go_wp2
    go_loopw [13] (fun i wr => ∃ k : Nat, k ≤ xs.length ∧ i = .int .i64 k ∧ (∀ j (h1 : j < xs.length) (h2 : j < ys.length), j < k → xs[j] = ys[j]) ∧ Qt w wr) (fun i _ => xs.length - (intOf i).toNat)
    case atStart => exact ⟨0, by omega, rfl, fun j _ _ h => by omega, Qt.refl w⟩
    case round =>
      obtain ⟨k, hk, rfl, hall, hq⟩ := hrel
      have Hall := Lib.hid hall
      clear hall
      obtain ⟨n, rfl⟩ := hq
      by_cases hlt : k < xs.length
      · obtain ⟨b1, o1, rfl, hc1⟩ := hA.at_ hlt
        obtain ⟨b2, o2, rfl, hc2⟩ := hB.at_ (k := k) (by have := Hne.out; omega)
        have i0 : (0 : Int) ≤ (k : Int) := by omega
        have i2 : k < ys.length := by have := Hne.out; omega
        go_wp2
        go_quiet (fail)
        go_wp2
        · go_ret
          have hx : (xs[k] != ys[k]) = true := by assumption
          exact ⟨ret_bool (by simp at hx ⊢; intro h; subst h; exact hx rfl), by first | exact Qt.drewN ⟨n, rfl⟩ _ | exact ⟨_, rfl⟩⟩
        · have hx : (xs[k] != ys[k]) = false := by assumption
          go_roundw
          case rel =>
            refine ⟨k + 1, by omega, by go_num, fun j h1 h2 hj => ?_, by first | exact Qt.drewN ⟨n, rfl⟩ _ | exact ⟨_, rfl⟩⟩
            by_cases e : j = k
            · subst e; simpa using hx
            · exact Hall.out j h1 h2 (by omega)
          case measure => simp [intOf]; omega
      · go_wp2
        go_ret
        exact ⟨ret_bool (by simp; exact List.ext_getElem Hne.out (fun j h1 h2 => Hall.out j h1 h2 (by omega))), n, rfl⟩
  · go_enter Try.func57, Try.ntmps57
    go_wp2
    go_ret
    exact ⟨ret_bool (by simp; intro h; exact hne (by rw [h])), Qt.refl _⟩

theorem named_take {l : List Int} {k : Nat} {x : Int} (h : l[k]? = some x) : (named l).take (k + 1) = (named l).take k ++ [(l.idxOf x : Int)] := by
  rw [take_snoc' (x := (l.idxOf x : Int))]
  simp [named, h]

theorem idx_at {l : List Int} {r : Nat} {x : Int} (h : l[r]? = some x) (hf : ∀ i, i < r → l[i]? ≠ some x) : l.idxOf x = r := by
  obtain ⟨hr, e⟩ := List.getElem?_eq_some_iff.1 h
  subst e
  exact idxOf_first hr (Nat.le_refl _) rfl (fun i hi he => hf i hi (by rw [List.getElem?_eq_getElem (by omega), he]))

set_option maxHeartbeats 2000000 in
set_option maxRecDepth 100000 in
theorem refNamed_any (A : Option Addr) (c : Nat) (l : List Int) (w : World) (hA : SI w A l) (hl : l.length ≤ 1099511627776) :
    Calls Try.prog 60 #[.slice A l.length c] w fun e w' => ∃ v, e = .returned v ∧ w'.ownsRow w.heap.size 3 1 v l.length ((named l).map (Value.int .i64)) ∧ Below w.heap.size w w' := by
  go_enter Try.func60, Try.ntmps60
  go_wp2
  go_loopw [3, 4] (fun v i wr => ∃ k : Nat, k ≤ l.length ∧ i = .int .i64 k ∧ wr.ownsRow w.heap.size 3 1 v k (((named l).take k).map (Value.int .i64)) ∧ Below w.heap.size w wr) (fun _ i _ => l.length - (intOf i).toNat)
  case atStart => exact ⟨0, by omega, rfl, World.ownsRow_nil _ _ _ _, Below.refl _ _⟩
  case round =>
    obtain ⟨k, hk, rfl, hown, hb⟩ := hrel
    by_cases hlt : k < l.length
    · have Hown := Lib.hid hown
      have Hb := Lib.hid hb
      obtain ⟨wo, rfl⟩ : ∃ wo, wo = wr := ⟨wr, rfl⟩
      clear hown hb
      have i0 : (0 : Int) ≤ (k : Int) := by omega
      go_wp2
      go_loopw [5] (fun i wi => ∃ j : Nat, j ≤ k ∧ i = .int .i64 j ∧ Hid (∀ i, i < j → l[i]? ≠ l[k]?) ∧ Qt wo wi) (fun i _ => k - (intOf i).toNat)
      case atStart => exact ⟨0, by omega, rfl, Lib.hid (fun i hi => by omega), Qt.refl _⟩
      case round =>
        obtain ⟨j, hj, rfl, hne, hq⟩ := hrel
        obtain ⟨b1, o1, x, rfl, hc1, hx⟩ := ((hA.below Hb.out).qt hq).get hlt
        obtain ⟨b2, o2, y, he, hc2, hy⟩ := (((hA.below Hb.out).qt hq)).get (k := j) (by omega)
        injection he with he
        injection he with he1 he2
        subst he1 he2
        have j0 : (0 : Int) ≤ (j : Int) := by omega
        have j1 : j < l.length := by omega
        have Hq := Lib.hid hq
        clear hq
        by_cases hxy : y = x
        · have hbx : (y != x) = false := by simp [hxy]
          have hix : Hid (l.idxOf x = j) := idx_at (hxy ▸ hy.out) (fun i hi => by rw [← hx.out]; exact hne.out i hi)
          have htk := Lib.hid (named_take hx.out)
          clear hxy
          go_wp2
          go_quiet (fail)
          have Hq2 := Lib.hid (Hq.out.drewN nq)
          generalize wr.drewN nq = wq at *
          have hown := own_qt Hown.out Hq2.out
          have hb := Hq2.out.bl Hb.out
          have hbs := hb.size
          go_wp2_with (at_builtin; refine wpList_app2 (w := wq) rfl _ _ rfl elt_int hown hbs rfl rfl (by simp) rfl rfl (by omega) ?_; intro v1 w1 hown1 hg1 hz1)
          go_roundw
          case rel => exact ⟨k + 1, by omega, by go_num, by rw [htk.out, List.map_append, hix.out]; exact hown1, hb.grown hg1 hbs (fun k hk => (hown.lt k hk).1)⟩
          case measure => simp [intOf]; omega
        · have hbx : (y != x) = true := by simp [hxy]
          have hjk : j ≠ k := fun h => by subst h; have := hx.out.symm.trans hy.out; injection this with this; exact hxy this.symm
          have Hxy := Lib.hid hxy
          clear hxy
          go_wp2
          go_quiet (fail)
          have Hq2 := Lib.hid (Hq.out.drewN nq)
          go_wp2
          go_roundw
          case rel => exact ⟨j + 1, by omega, by go_num, Lib.hid (fun i hi => by
            by_cases e : i = j
            · subst e; rw [hx.out, hy.out]; intro h; injection h with h; exact Hxy.out h
            · exact hne.out i (by omega)), Hq2.out⟩
          case measure => simp [intOf]; omega
    · obtain rfl : k = l.length := by omega
      rw [List.take_of_length_le (by rw [named_len]; omega)] at hown
      go_wp2
      go_ret
      exact ⟨_, rfl, hown, hb⟩
end Go.Proofs.Ytaegfljpodhnhaa
