import Derived.Test.YtnapnkmehnabfaaGreatP04
namespace Go.Proofs.YtnapnkmehnabfaaGreat
open Go.RowKit Go.Maps

set_option maxHeartbeats 1000000 in
theorem indexU_any (A : Option Addr) (c : Nat) (l : List Int) (x : Int) (w : World) (hA : SU w A l) (hl : l.length ≤ 1099511627776) :
    Calls Tryz.prog 163 #[.slice A l.length c, .int .u64 x] w fun e w' => ∃ r : Int, e = .returned (.int .i64 r) ∧ (0 ≤ r ↔ x ∈ l) ∧ w = w' := by
  go_enter Tryz.func163, Tryz.ntmps163
  go_wp2_with fail
  go_loopw [8] (fun i wr => ∃ k : Nat, k ≤ l.length ∧ i = .int .i64 k ∧ Hid (x ∉ l.take k) ∧ w = wr) (fun i _ => l.length - (intOf i).toNat)
  case atStart => exact ⟨0, by omega, rfl, Lib.hid (by simp), rfl⟩
  case round =>
    obtain ⟨k, hk, rfl, hno, rfl⟩ := hrel
    by_cases hlt : k < l.length
    · obtain ⟨b, o, y, rfl, hc, hy⟩ := hA.get hlt
      have k0 : (0 : Int) ≤ (k : Int) := by omega
      have htk := Lib.hid (take_snoc' hy.out)
      by_cases hxy : y = x
      · have hb : (x == y) = true := by simp [hxy]
        have hmem : Hid (x ∈ l) := Lib.hid (by simp [← hxy, List.mem_of_getElem? hy.out])
        clear hy htk hno hA hxy
        go_wp2_with fail
        go_ret
        exact ⟨(k : Int), rfl, ⟨fun _ => hmem.out, fun _ => by omega⟩, rfl⟩
      · have hb : (x == y) = false := by simp [Ne.symm hxy]
        have hno2 : Hid (x ∉ l.take (k + 1)) := by
          rw [htk.out]
          exact Lib.hid (by simp [hno.out, Ne.symm hxy])
        clear hy htk hno hA hxy
        go_wp2_with fail
        go_roundw
        case rel => exact ⟨k + 1, by omega, by go_num, hno2, by first | trivial | rfl⟩
        case measure => simp [intOf]; omega
    · obtain rfl : k = l.length := by omega
      have hmem : Hid (x ∉ l) := Lib.hid (by have := hno.out; rw [List.take_length] at this; exact this)
      clear hno hA
      go_wp2_with fail
      go_ret
      exact ⟨-1, rfl, ⟨fun h => by omega, fun h => absurd h hmem.out⟩, rfl⟩
set_option maxHeartbeats 1000000 in
theorem containsU_any (A : Option Addr) (c : Nat) (l : List Int) (x : Int) (w : World) (hA : SU w A l) (hl : l.length ≤ 1099511627776) :
    Calls Tryz.prog 115 #[.slice A l.length c, .int .u64 x] w fun e w' => e = .returned (.bool (decide (x ∈ l))) ∧ w = w' := by
  obtain ⟨R, hR⟩ : ∃ z, Hid (decide (x ∈ l) = z) := ⟨_, Lib.hid rfl⟩
  rw [hR.out]
  go_enter Tryz.func115, Tryz.ntmps115
  go_wp2_with fail
  refine (indexU_any A c l x w hA hl).mono ?_
  rintro e w1 ⟨r, rfl, hr, rfl⟩
  have hb : decide (0 ≤ r) = R := by rw [← hR.out]; exact decide_eq_decide.2 hr
  clear hr
  go_wp2_with fail
  go_ret
  exact ⟨rfl, rfl⟩
/-- Names. -/
def idC (l : List (Int × Int)) : List Value := l.flatMap fun t => [.int .u64 t.1, .int .i64 t.2]
def SD (w : World) (A : Option Addr) (l : List (Int × Int)) : Prop := SL w A (idC l)
theorem idC_len (l : List (Int × Int)) : (idC l).length = l.length * 2 := by
  induction l with
  | nil => rfl
  | cons t l ih => simp only [idC, List.flatMap_cons, List.length_append, List.length_cons, List.length_nil] at ih ⊢; omega
theorem idC_at : ∀ (l : List (Int × Int)) (k : Nat) (t : Int × Int), l[k]? = some t → (idC l)[k * 2]? = some (.int .u64 t.1) ∧ (idC l)[k * 2 + 1]? = some (.int .i64 t.2)
  | [], k, t, h => by simp at h
  | u :: l, 0, t, h => by
    obtain rfl : u = t := by simpa using h
    exact ⟨rfl, rfl⟩
  | u :: l, k + 1, t, h => by
    have := idC_at l k t (by simpa using h)
    have e : idC (u :: l) = .int .u64 u.1 :: .int .i64 u.2 :: idC l := rfl
    rw [e, show (k + 1) * 2 = k * 2 + 1 + 1 by omega]
    simpa using this
theorem SD.get {w : World} {A : Option Addr} {l : List (Int × Int)} {k : Nat} (h : SD w A l) (hk : k < l.length) : ∃ b o x y, A = some ⟨b, o, none⟩ ∧ w.cell? ⟨b, o + k * 2, none⟩ = some (.int .u64 x) ∧ w.cell? ⟨b, o + k * 2 + 1, none⟩ = some (.int .i64 y) ∧ Hid (l[k]? = some (x, y)) := by
  obtain ⟨h1, h2⟩ := idC_at l k _ (List.getElem?_eq_getElem hk)
  obtain ⟨b, o, e, _, c1⟩ := h _ _ h1
  subst e
  have c2 := SL.two h h1 h2
  rw [← Nat.add_assoc] at c2
  exact ⟨b, o, _, _, rfl, c1, c2, Lib.hid (List.getElem?_eq_getElem hk)⟩
def lessI (a b : Int × Int) : Bool := decide (a.1 < b.1 ∨ a.1 = b.1 ∧ a.2 < b.2)
set_option maxHeartbeats 1000000 in
theorem refLess_any (p i q j : Int) (w : World) : Calls Tryz.prog 34 #[.agg #[.int .u64 p, .int .i64 i], .agg #[.int .u64 q, .int .i64 j]] w fun e w' => e = .returned (.bool (lessI (p, i) (q, j))) ∧ Below w.heap.size w w' := by
  have hb := ((Below.refl w.heap.size w).alloc (Nat.le_refl _) (.cells #[.int .u64 p, .int .i64 i] 77)).alloc (by simp) (.cells #[.int .u64 q, .int .i64 j] 77)
  have hk1 := (Bk.new w 77 #[.int .u64 p, .int .i64 i]).alloc (.cells #[.int .u64 q, .int .i64 j] 77)
  have hk2 := Bk.new' (w.alloc (.cells #[.int .u64 p, .int .i64 i] 77)) 77 #[.int .u64 q, .int .i64 j] (g := w.heap.size + 1) (by simp)
  have k0 : ((w.alloc (.cells #[.int .u64 p, .int .i64 i] 77)).alloc (.cells #[.int .u64 q, .int .i64 j] 77)).cell? ⟨w.heap.size, 0, none⟩ = some (.int .u64 p) := hk1.cell 0
  have k1 : ((w.alloc (.cells #[.int .u64 p, .int .i64 i] 77)).alloc (.cells #[.int .u64 q, .int .i64 j] 77)).cell? ⟨w.heap.size, 1, none⟩ = some (.int .i64 i) := hk1.cell 1
  have k2 : ((w.alloc (.cells #[.int .u64 p, .int .i64 i] 77)).alloc (.cells #[.int .u64 q, .int .i64 j] 77)).cell? ⟨w.heap.size + 1, 0, none⟩ = some (.int .u64 q) := hk2.cell 0
  have k3 : ((w.alloc (.cells #[.int .u64 p, .int .i64 i] 77)).alloc (.cells #[.int .u64 q, .int .i64 j] 77)).cell? ⟨w.heap.size + 1, 1, none⟩ = some (.int .i64 j) := hk2.cell 1
  obtain ⟨R, hR⟩ : ∃ z, Hid (lessI (p, i) (q, j) = z) := ⟨_, Lib.hid rfl⟩
  rw [hR.out]
  clear hk1 hk2
  by_cases h1 : p < q
  · have he := Lib.hid (show R = true from by rw [← hR.out]; exact decide_eq_true (.inl h1))
    go_enter Tryz.func34, Tryz.ntmps34
    go_wp2_with fail
    go_ret
    exact ⟨by rw [he.out]; rfl, hb⟩
  · by_cases h2 : p = q
    · by_cases h3 : i < j
      · have he := Lib.hid (show R = true from by rw [← hR.out]; exact decide_eq_true (.inr ⟨h2, h3⟩))
        have hbq : (p == q) = true := by simp [h2]
        clear h2
        go_enter Tryz.func34, Tryz.ntmps34
        go_wp2_with fail
        go_ret
        exact ⟨by rw [he.out]; rfl, hb⟩
      · have he := Lib.hid (show R = false from by rw [← hR.out]; exact decide_eq_false (fun h => h.elim h1 (fun h => h3 h.2)))
        have hbq : (p == q) = true := by simp [h2]
        clear h2
        go_enter Tryz.func34, Tryz.ntmps34
        go_wp2_with fail
        go_ret
        exact ⟨by rw [he.out]; rfl, hb⟩
    · have he := Lib.hid (show R = false from by rw [← hR.out]; exact decide_eq_false (fun h => h.elim h1 (fun h => h2 h.1)))
      have hbq : (p == q) = false := by simp [h2]
      clear h2
      go_enter Tryz.func34, Tryz.ntmps34
      go_wp2_with fail
      go_ret
      exact ⟨by rw [he.out]; rfl, hb⟩
end Go.Proofs.YtnapnkmehnabfaaGreat
