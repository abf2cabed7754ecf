import Derived.Test.YtaegfljpodhnhaaG01
import Derived.Test.YtaegfljpodhnhaaG03
namespace Go.Proofs.Ytaegfljpodhnhaa
open Go.RowKit Go.Maps Go.Sort

/-- The numbers of a border. -/
def encT (t : Int × Int × Int) : List Value := [.int .i64 t.1, .int .i64 t.2.1, .int .i64 t.2.2]
def cfT (s t : Int × Int × Int) : Int := cmpL [s.1, s.2.1, s.2.2] [t.1, t.2.1, t.2.2]

theorem over_any (t : Int × Int × Int) (w : World) : Calls Try.prog 74 #[.agg (encT t).toArray] w fun e w' => e = .returned (.bool (decide (1099511627776 < t.2.2))) ∧ Below w.heap.size w w' := by
  obtain ⟨x, y, z⟩ := t
  have hb := (Below.refl w.heap.size w).alloc (Nat.le_refl _) (.cells #[.int .i64 x, .int .i64 y, .int .i64 z] 52)
  show Calls Try.prog 74 #[.agg #[.int .i64 x, .int .i64 y, .int .i64 z]] w _
  go_enter Try.func74, Try.ntmps74
  go_wp2_with fail
  go_ret
  exact ⟨rfl, hb⟩

/-- The first border that is too long, or -1. -/
def indexT : List (Int × Int × Int) → Int
  | [] => -1
  | t :: ts => if 1099511627776 < t.2.2 then 0 else if indexT ts < 0 then -1 else indexT ts + 1
theorem indexT_none : ∀ {ts : List (Int × Int × Int)}, (∀ t ∈ ts, t.2.2 ≤ 1099511627776) → indexT ts = -1
  | [], _ => rfl
  | t :: ts, h => by
    rw [indexT, if_neg (by have := h t (by simp); omega), indexT_none (ts := ts) fun y hy => h y (by simp [hy])]; simp
theorem indexT_some : ∀ {ts : List (Int × Int × Int)} {k : Nat} {t : Int × Int × Int}, ts[k]? = some t → 1099511627776 < t.2.2 → (∀ j y, j < k → ts[j]? = some y → y.2.2 ≤ 1099511627776) → indexT ts = k
  | [], k, x, h, _, _ => by simp at h
  | z :: ts, 0, x, h, hp, _ => by
    simp at h; subst h; rw [indexT, if_pos hp]; rfl
  | z :: ts, k + 1, x, h, hp, hn => by
    have h0 := hn 0 z (by omega) rfl
    have ih := indexT_some (ts := ts) (k := k) (t := x) (by simpa using h) hp fun j y hj hy => hn (j + 1) y (by omega) (by simpa using hy)
    rw [indexT, if_neg (by omega), ih]
    simp
    omega
theorem indexT_any (ts : List (Int × Int × Int)) : decide (0 ≤ indexT ts) = ts.any (fun t => decide (1099511627776 < t.2.2)) := by
  induction ts with
  | nil => simp [indexT]
  | cons x ts ih =>
    rw [List.any_cons, ← ih, indexT]
    by_cases hp : 1099511627776 < x.2.2
    · simp [hp]
    · rw [if_neg hp, decide_eq_false hp, Bool.false_or]
      by_cases h : indexT ts < 0
      · rw [if_pos h]; simp; omega
      · rw [if_neg h]; simp; omega

set_option maxHeartbeats 1000000 in
set_option maxRecDepth 100000 in
theorem indexFuncT_any (A : Option Addr) (c : Nat) (ts : List (Int × Int × Int)) (w : World) (hA : ST w A ts) (hl : ts.length ≤ 1099511627776) :
    Calls Try.prog 96 #[.slice A ts.length c, .func (.func 74) #[] #[]] w fun e w' => e = .returned (.int .i64 (indexT ts)) ∧ Below w.heap.size w w' := by
  go_enter Try.func96, Try.ntmps96
  go_wp2
  go_loopw [8] (fun i wr => ∃ k : Nat, k ≤ ts.length ∧ i = .int .i64 k ∧ Hid (∀ j y, j < k → ts[j]? = some y → y.2.2 ≤ 1099511627776) ∧ Below w.heap.size w wr) (fun i _ => ts.length - (intOf i).toNat)
  case atStart => exact ⟨0, by omega, rfl, (fun j _ hj _ => by omega), Below.refl _ _⟩
  case round =>
    obtain ⟨k, hk, rfl, hall, hb⟩ := hrel
    by_cases hlt : k < ts.length
    · obtain ⟨b1, o1, x, y, z, rfl, c0, c1, c2, hx⟩ := (hA.below hb).get (k := k) hlt
      have hcall := over_any (x, y, z) wr
      simp only [encT] at hcall
      have Hcall := Lib.hid hcall
      have Hb := Lib.hid hb
      have hbs := hb.size
      clear hcall hb
      go_wp2_with fail
      refine Hcall.out.mono ?_
      rintro e w2 ⟨rfl, hb2⟩
      have Hb2 := Lib.hid (Hb.out.trans (hb2.mono hbs))
      clear hb2
      by_cases hz : 1099511627776 < z
      · have hzb : decide (1099511627776 < z) = true := decide_eq_true hz
        rw [hzb]
        go_wp2_with fail
        go_ret
        exact ⟨ret_int (indexT_some hx.out hz hall.out).symm, Hb2.out⟩
      · have hzb : decide (1099511627776 < z) = false := decide_eq_false hz
        rw [hzb]
        go_wp2_with fail
        go_roundw
        case rel =>
          refine ⟨k + 1, by omega, by go_num, fun j t hj hy => ?_, Hb2.out⟩
          by_cases e : j = k
          · subst e
            have := hx.out
            rw [hy] at this
            injection this with this
            subst this
            show z ≤ _
            omega
          · exact hall.out j t (by omega) hy
        case measure => simp [intOf]; omega
    · obtain rfl : k = ts.length := by omega
      go_wp2
      go_ret
      exact ⟨ret_int (indexT_none fun x hx => by
        obtain ⟨j, hj, e⟩ := List.getElem_of_mem hx
        exact hall.out j x hj (by rw [List.getElem?_eq_getElem hj, e])).symm, hb⟩

set_option maxHeartbeats 400000 in
theorem containsT_any (A : Option Addr) (c : Nat) (ts : List (Int × Int × Int)) (w : World) (hA : ST w A ts) (hl : ts.length ≤ 1099511627776) :
    Calls Try.prog 75 #[.slice A ts.length c, .func (.func 74) #[] #[]] w fun e w' => e = .returned (.bool (ts.any fun t => decide (1099511627776 < t.2.2))) ∧ Below w.heap.size w w' := by
  have h := indexFuncT_any A c ts w hA hl
  have H := Lib.hid h
  clear h
  go_enter Try.func75, Try.ntmps75
  go_wp2_with fail
  refine H.out.mono ?_
  rintro e w1 ⟨rfl, hb⟩
  go_wp2_with fail
  go_ret
  exact ⟨ret_bool (indexT_any ts), hb⟩

/-- The greatest among the first. -/
def maxTo (ws : List Int) : Nat → Int
  | 0 => ws.getD 0 0
  | k + 1 => max (maxTo ws k) (ws.getD (k + 1) 0)
theorem maxTo_gt (ws : List Int) (M : Int) : ∀ k, k < ws.length → (M < maxTo ws k ↔ ∃ j, j ≤ k ∧ M < ws.getD j 0)
  | 0, _ => by
    constructor
    · intro h
      exact ⟨0, by omega, h⟩
    · rintro ⟨j, hj, h⟩
      obtain rfl : j = 0 := by omega
      exact h
  | k + 1, hk => by
    have ih := maxTo_gt ws M k (by omega)
    rw [maxTo]
    constructor
    · intro h
      by_cases h1 : M < maxTo ws k
      · obtain ⟨j, hj, h2⟩ := ih.1 h1
        exact ⟨j, by omega, h2⟩
      · exact ⟨k + 1, by omega, by omega⟩
    · rintro ⟨j, hj, h⟩
      by_cases h1 : j ≤ k
      · have := ih.2 ⟨j, h1, h⟩
        omega
      · obtain rfl : j = k + 1 := by omega
        omega
theorem maxTo_any {ws : List Int} (h : 0 < ws.length) : decide (1099511627776 < maxTo ws (ws.length - 1)) = ws.any (fun x => decide (1099511627776 < x)) := by
  rw [Bool.eq_iff_iff, decide_eq_true_eq, List.any_eq_true, maxTo_gt ws _ _ (by omega)]
  constructor
  · rintro ⟨j, hj, h1⟩
    have hx : ws[j]? = some ws[j] := List.getElem?_eq_getElem (by omega)
    rw [List.getD, hx] at h1
    exact ⟨ws[j], List.getElem_mem _, by simpa using h1⟩
  · rintro ⟨x, hx, h1⟩
    obtain ⟨j, hj, rfl⟩ := List.getElem_of_mem hx
    exact ⟨j, by omega, by rw [List.getD, List.getElem?_eq_getElem hj]; simpa using h1⟩

set_option maxHeartbeats 1000000 in
set_option maxRecDepth 100000 in
theorem max_any (A : Option Addr) (c : Nat) (ws : List Int) (w : World) (hA : SI w A ws) (hl : ws.length ≤ 1099511627776) (h0 : 0 < ws.length) :
    Calls Try.prog 76 #[.slice A ws.length c] w fun e w' => e = .returned (.int .i64 (maxTo ws (ws.length - 1))) ∧ w = w' := by
  obtain ⟨b0, o0, x0, rfl, hc0, hx0⟩ := hA.get (k := 0) h0
  have hg0 : ws.getD 0 0 = x0 := by rw [List.getD, hx0.out]; rfl
  have Hg0 := Lib.hid (show maxTo ws 0 = x0 from hg0)
  clear hg0
  rw [Nat.add_zero] at hc0
  go_enter Try.func76, Try.ntmps76
  go_wp2
  go_loopw [3, 4] (fun v i wr => ∃ k : Nat, 0 < k ∧ k ≤ ws.length ∧ i = .int .i64 k ∧ (∃ z, v = .int .i64 z ∧ Hid (maxTo ws (k - 1) = z)) ∧ wr = w) (fun _ i _ => ws.length - (intOf i).toNat)
  case atStart => exact ⟨1, by omega, by omega, rfl, ⟨x0, rfl, Hg0⟩, rfl⟩
  case round =>
    obtain ⟨k, hk0, hk, rfl, ⟨z, rfl, hz⟩, rfl⟩ := hrel
    by_cases hlt : k < ws.length
    · obtain ⟨b1, o1, x, he, hc1, hx⟩ := hA.get (k := k) hlt
      cases he
      have hmax : ∀ (W : World) (ts : Array TypeId) (t : TypeId), (Builtin.max_ ts t #[.int .i64 z, .int .i64 x]).run Try.prog W = .ok (.int .i64 (max z x)) W := fun W ts t => Lib.run_max_ints W ts t .i64 .i64 z x
      have hz2 : Hid (maxTo ws (k + 1 - 1) = max z x) := by
        show _ = _
        rw [show k + 1 - 1 = (k - 1) + 1 by omega, maxTo, hz.out, show k - 1 + 1 = k by omega, List.getD, hx.out]
        rfl
      clear hz
      go_wp2_with fail
      go_roundw
      case rel => exact ⟨k + 1, by omega, by omega, by go_num, ⟨_, rfl, hz2⟩, trivial⟩
      case measure => simp [intOf]; omega
    · obtain rfl : k = ws.length := by omega
      go_wp2
      go_ret
      exact ⟨ret_int hz.out.symm, rfl⟩

set_option maxHeartbeats 1000000 in
set_option maxRecDepth 100000 in
theorem less_any (s t : Int × Int × Int) (W : World) : Calls Try.prog 73 #[.agg (encT s).toArray, .agg (encT t).toArray] W fun e w' => e = .returned (.int .i64 (cfT s t)) ∧ ∃ q os', w' = grow (W.drewN q) os' := by
  obtain ⟨x, y, z⟩ := s
  obtain ⟨a, b, c⟩ := t
  have hb1 := (Bk.new W 52 #[.int .i64 x, .int .i64 y, .int .i64 z]).alloc (.cells #[.int .i64 a, .int .i64 b, .int .i64 c] 52)
  have hb2 := Bk.new' (W.alloc (.cells #[.int .i64 x, .int .i64 y, .int .i64 z] 52)) 52 #[.int .i64 a, .int .i64 b, .int .i64 c] (g := W.heap.size + 1) (by simp)
  show Calls Try.prog 73 #[.agg #[.int .i64 x, .int .i64 y, .int .i64 z], .agg #[.int .i64 a, .int .i64 b, .int .i64 c]] W _
  have hg : ∃ os', (W.alloc (.cells #[.int .i64 x, .int .i64 y, .int .i64 z] 52)).alloc (.cells #[.int .i64 a, .int .i64 b, .int .i64 c] 52) = grow W os' := ⟨_, by rw [alloc_eq_grow, alloc_eq_grow, grow_grow]⟩
  obtain ⟨os', hg⟩ := hg
  have Hg := Lib.hid hg
  clear hg
  have hs1 : ∀ m, SI (((W.alloc (.cells #[.int .i64 x, .int .i64 y, .int .i64 z] 52)).alloc (.cells #[.int .i64 a, .int .i64 b, .int .i64 c] 52)).drewN m) (some ⟨W.heap.size, 0, none⟩) [x, y, z] := fun m j u hu => ⟨_, _, rfl, hb1.lt, by
    show World.cell? ((W.alloc _).alloc _) _ = _
    rw [hb1.cell, Nat.zero_add]
    simpa using hu⟩
  have hs2 : ∀ m, SI (((W.alloc (.cells #[.int .i64 x, .int .i64 y, .int .i64 z] 52)).alloc (.cells #[.int .i64 a, .int .i64 b, .int .i64 c] 52)).drewN m) (some ⟨W.heap.size + 1, 0, none⟩) [a, b, c] := fun m j u hu => ⟨_, _, rfl, hb2.lt, by
    show World.cell? ((W.alloc _).alloc _) _ = _
    rw [hb2.cell, Nat.zero_add]
    simpa using hu⟩
  have hcall := fun m => sliceCompare_any (some ⟨W.heap.size, 0, none⟩) (some ⟨W.heap.size + 1, 0, none⟩) 3 3 [x, y, z] [a, b, c] _ (hs1 m) (hs2 m) (by simp)
  have Hcall := Lib.hid hcall
  clear hcall hs1 hs2 hb1 hb2
  go_enter Try.func73, Try.ntmps73
  go_wp2_with fail
  go_quiet ((go_at_call 43; exact (Hcall.out _).mono fun _ _ h => ⟨h.1, ⟨_, h.2.symm⟩⟩))
  go_wp2_with fail
  go_ret
  exact ⟨rfl, _, os', by rw [Hg.out]; rfl⟩

theorem cmpLays (blk off size : Nat) (w : World) : CmpLays Try.prog 73 #[] encT 3 cfT blk off size w := fun _ _ _ _ x y => less_any x y _
end Go.Proofs.Ytaegfljpodhnhaa
