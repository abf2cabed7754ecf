import Derived.Test.YtmdgdphhedgojaaR12
namespace Go.Proofs.Ytmdgdphhedgojaa
open Go.RowKit Go.Maps

theorem pairC_at : ∀ (l : List (Int × Int)) (k : Nat) (t : Int × Int), l[k]? = some t →
    (pairC l)[k * 2]? = some (.int .i64 t.1) ∧ (pairC l)[k * 2 + 1]? = some (.int .i64 t.2)
  | [], k, t, h => by simp at h
  | u :: l, 0, t, h => by simp at h; subst h; simp [pairC]
  | u :: l, k + 1, t, h => by
    have ih := pairC_at l k t (by simpa using h)
    have ec : pairC (u :: l) = [.int .i64 u.1, .int .i64 u.2] ++ pairC l := rfl
    rw [ec]
    have e : ∀ j, (k + 1) * 2 + j = 2 + (k * 2 + j) := fun j => by omega
    have e' : ∀ j, ([Value.int .i64 u.1, .int .i64 u.2] ++ pairC l)[2 + j]? = (pairC l)[j]? := fun j => by
      rw [List.getElem?_append_right (by simp)]; simp
    exact ⟨by have := e 0; simp only [Nat.add_zero] at this; rw [this, e']; exact ih.1, by rw [e 1, e']; exact ih.2⟩

/-- Pairs behind an address. -/
theorem SL.pair {w : World} {A : Option Addr} {l : List (Int × Int)} {k : Nat} (h : SL w A (pairC l)) (hk : k < l.length) :
    ∃ b o x y, A = some ⟨b, o, none⟩ ∧ w.cell? ⟨b, o + k * 2, none⟩ = some (.int .i64 x) ∧ w.cell? ⟨b, o + k * 2 + 1, none⟩ = some (.int .i64 y) ∧ Hid (l[k]? = some (x, y)) := by
  have hn : l[k]? = some l[k] := List.getElem?_eq_getElem hk
  obtain ⟨h0, h1⟩ := pairC_at l k _ hn
  obtain ⟨b, o, e0, _, c0⟩ := h _ _ h0
  subst e0
  have c1 := SL.two h h0 h1
  rw [← Nat.add_assoc] at c1
  exact ⟨b, o, _, _, rfl, c0, c1, hn⟩

/-- The order of candidates. -/
def cmpC (a b : Int × Int) : Int := orI [cmpI a.1 b.1, cmpI a.2 b.2]

set_option maxHeartbeats 1000000 in
set_option maxRecDepth 100000 in
theorem cmpC_any (a b c d : Int) (w : World) :
    Calls Try.prog 75 #[.agg #[.int .i64 a, .int .i64 b], .agg #[.int .i64 c, .int .i64 d]] w fun e w' => e = .returned (.int .i64 (cmpC (a, b) (c, d))) ∧ Below w.heap.size w w' := by
  have hb0 := Bk.new w 134 #[.int .i64 a, .int .i64 b]
  have hb1 := hb0.alloc (.cells #[.int .i64 c, .int .i64 d] 134)
  have hb2 := Bk.new' (w.alloc (.cells #[.int .i64 a, .int .i64 b] 134)) 134 #[.int .i64 c, .int .i64 d] (g := w.heap.size + 1) (by simp)
  have hb : Below w.heap.size w ((w.alloc (.cells #[.int .i64 a, .int .i64 b] 134)).alloc (.cells #[.int .i64 c, .int .i64 d] 134)) := ((Below.refl _ _).alloc (Nat.le_refl _) _).alloc (by simp) _
  have hz : w.heap.size + 2 ≤ ((w.alloc (.cells #[.int .i64 a, .int .i64 b] 134)).alloc (.cells #[.int .i64 c, .int .i64 d] 134)).heap.size := by simp
  have Hb1 := Lib.hid hb1
  have Hb2 := Lib.hid hb2
  have Hb := Lib.hid hb
  clear hb0 hb1 hb2 hb
  go_enter Try.func75, Try.ntmps75
  go_wp2
  generalize (w.alloc (.cells #[.int .i64 a, .int .i64 b] 134)).alloc (.cells #[.int .i64 c, .int .i64 d] 134) = W at Hb1 Hb2 Hb hz ⊢
  refine region_tail 10 (by kernel_rfl) (by kernel_rfl) (fun W1 hq => ?_)
  have h0 : W1.cell? ⟨w.heap.size, 0, none⟩ = some (.int .i64 a) := (Hb1.out.qt hq).cell 0
  have h1 : W1.cell? ⟨w.heap.size, 1, none⟩ = some (.int .i64 b) := (Hb1.out.qt hq).cell 1
  have h2 : W1.cell? ⟨w.heap.size + 1, 0, none⟩ = some (.int .i64 c) := (Hb2.out.qt hq).cell 0
  have h3 : W1.cell? ⟨w.heap.size + 1, 1, none⟩ = some (.int .i64 d) := (Hb2.out.qt hq).cell 1
  have HbW := Lib.hid (hq.bl Hb.out)
  have hzW : w.heap.size + 2 ≤ W1.heap.size := by obtain ⟨m, rfl⟩ := hq; exact hz
  clear Hb Hb1 Hb2 hz hq
  simp only [List.take_succ_cons, List.take_zero, List.drop_succ_cons, List.drop_zero]
  repeat still_step
  still_call ((compare_int _ _ _).mono fun _ _ h => ⟨h.1, h.2.symm⟩)
  repeat still_step
  still_call ((compare_int _ _ _).mono fun _ _ h => ⟨h.1, h.2.symm⟩)
  refine wpStill_nil ?_
  have hsi : SI (W1.alloc (.cells #[.int .i64 (cmpI a c), .int .i64 (cmpI b d)] 3)) (some ⟨W1.heap.size, 0, none⟩) [cmpI a c, cmpI b d] := SL.of_own (own_row (l := [cmpI a c, cmpI b d]) (Bk.new W1 _ _) (Nat.zero_le _) (by simp))
  have hor : Calls Try.prog 76 #[.slice (some ⟨W1.heap.size, 0, none⟩) 2 2] (W1.alloc (.cells #[.int .i64 (cmpI a c), .int .i64 (cmpI b d)] 3)) _ := orInt_any _ 2 [cmpI a c, cmpI b d] _ hsi (by simp)
  have Hor := Lib.hid hor
  clear hor hsi h0 h1 h2 h3
  go_wp2_with fail
  refine Hor.out.mono ?_
  rintro e w' ⟨rfl, rfl⟩
  go_wp2_with fail
  go_ret
  exact ⟨rfl, HbW.out.alloc (by omega) _⟩

def minTo (l : List (Int × Int)) : Nat → Int × Int
  | 0 => l.getD 0 (0, 0)
  | k + 1 => if cmpC (l.getD (k + 1) (0, 0)) (minTo l k) < 0 then l.getD (k + 1) (0, 0) else minTo l k

/-- The first of some candidates. -/
def minC (l : List (Int × Int)) : Int × Int := minTo l (l.length - 1)

theorem SL.pair' {w w' : World} {b o : Nat} {l : List (Int × Int)} {k : Nat} {x y : Int} (h : SL w (some ⟨b, o, none⟩) (pairC l)) (hb : Below w.heap.size w w') (hk : Hid (l[k]? = some (x, y))) :
    w'.cell? ⟨b, o + k * 2, none⟩ = some (.int .i64 x) ∧ w'.cell? ⟨b, o + k * 2 + 1, none⟩ = some (.int .i64 y) := by
  obtain ⟨b', o', x', y', e, h1, h2, hx'⟩ := (h.below hb).pair (List.getElem?_eq_some_iff.1 hk.out).1
  injection e with e
  injection e with e1 e2
  subst e1 e2
  have := hx'.out
  rw [hk.out] at this
  injection this with this
  injection this with e1 e2
  subst e1 e2
  exact ⟨h1, h2⟩

theorem pair_getD {l : List (Int × Int)} {k : Nat} {t : Int × Int} (h : l[k]? = some t) : l.getD k (0, 0) = t := by simp [List.getD, h]

set_option maxHeartbeats 2000000 in
set_option maxRecDepth 100000 in
theorem minFunc_any (A : Option Addr) (c : Nat) (l : List (Int × Int)) (w : World) (hA : SL w A (pairC l)) (h0 : 0 < l.length) (hl : l.length ≤ 1099511627776) :
    Calls Try.prog 74 #[.slice A l.length c, .func (.func 75) #[] #[]] w fun e w' => e = .returned (.agg #[.int .i64 (minC l).1, .int .i64 (minC l).2]) ∧ Below w.heap.size w w' := by
  obtain ⟨b, o, x0, y0, rfl, hc0, hc1, hx0⟩ := hA.pair h0
  simp only [Nat.zero_mul, Nat.add_zero] at hc0 hc1
  have hcc := hA.pair' ((Below.refl _ _).alloc (Nat.le_refl _) (.cells #[.int .i64 0, .int .i64 0] 134)) hx0
  simp only [Nat.zero_mul, Nat.add_zero] at hcc
  obtain ⟨hcc0, hcc1⟩ := hcc
  go_enter Try.func74, Try.ntmps74
  go_wp2_with fail
  clear hc0 hc1 hcc0 hcc1
  go_loopw [6] (fun i wr => ∃ k : Nat, 1 ≤ k ∧ k ≤ l.length ∧ i = .int .i64 k ∧ Bk wr (w.heap.size + 1) 134 #[.int .i64 (minTo l (k - 1)).1, .int .i64 (minTo l (k - 1)).2] ∧ Bk wr w.heap.size 134 #[.int .i64 0, .int .i64 0] ∧ Below w.heap.size w wr) (fun i _ => l.length - (intOf i).toNat)
  case atStart =>
    refine ⟨1, by omega, by omega, rfl, ?_, (Bk.new _ _ _).alloc _, ((Below.refl _ _).alloc (Nat.le_refl _) _).alloc (by simp) _⟩
    have e : minTo l (1 - 1) = (x0, y0) := by rw [Nat.sub_self, minTo, pair_getD hx0.out]
    rw [e]
    exact Bk.new' _ _ _ (by simp)
  case round =>
    obtain ⟨k, hk1, hk, rfl, hm, hr, hb⟩ := hrel
    by_cases hlt : k < l.length
    · obtain ⟨x, y, hx⟩ : ∃ x y, Hid (l[k]? = some (x, y)) := ⟨l[k].1, l[k].2, List.getElem?_eq_getElem hlt⟩
      have hst : Hid (minTo l (k + 1 - 1) = if cmpC (x, y) (minTo l (k - 1)) < 0 then (x, y) else minTo l (k - 1)) := by
        show _ = _
        obtain ⟨j, rfl⟩ : ∃ j, k = j + 1 := ⟨k - 1, by omega⟩
        rw [Nat.add_sub_cancel, Nat.add_sub_cancel, minTo, pair_getD hx.out]
      generalize minTo l (k - 1) = m at *
      obtain ⟨m1, m2⟩ := m
      have Hm := Lib.hid hm
      have Hr := Lib.hid hr
      have Hb := Lib.hid hb
      have hml := hm.lt
      clear hm hr hb
      have i0 : (0 : Int) ≤ (k : Int) := by omega
      go_wp2_with fail
      refine region_tail 6 (by kernel_rfl) (by kernel_rfl) (fun W hq => ?_)
      obtain ⟨hq0, hq1⟩ := hA.pair' (hq.bl Hb.out) hx
      have hq2 : W.cell? ⟨w.heap.size + 1, 0, none⟩ = some (.int .i64 m1) := (Hm.out.qt hq).cell 0
      have hq3 : W.cell? ⟨w.heap.size + 1, 1, none⟩ = some (.int .i64 m2) := (Hm.out.qt hq).cell 1
      have hzW : w.heap.size + 1 < W.heap.size := (Hm.out.qt hq).lt
      have hbW := hq.bl Hb.out
      have hmW := Hm.out.qt hq
      have hrW := Hr.out.qt hq
      simp only [List.take_succ_cons, List.take_zero, List.drop_succ_cons, List.drop_zero]
      repeat still_step
      refine wpStill_nil ?_
      clear hq0 hq1 hq2 hq3
      go_wp2_with fail
      refine (cmpC_any x y m1 m2 W).mono ?_
      rintro e w1 ⟨rfl, hb1⟩
      obtain ⟨hq0, hq1⟩ := hA.pair' (hbW.trans (hb1.mono (by omega))) hx
      have hm1 := hmW.below hb1 hzW
      have hf0 := hm1.frozen 0
      have hf1 := hm1.frozen 1
      have hg0 : w1.cell? ⟨w.heap.size + 1, 0, none⟩ = some (.int .i64 m1) := hm1.cell 0
      have hg1 : w1.cell? ⟨w.heap.size + 1, 1, none⟩ = some (.int .i64 m2) := hm1.cell 1
      have Hm1 := Lib.hid hm1
      have Hr1 := Lib.hid (hrW.below hb1 (by omega))
      have Hb1 := Lib.hid (hbW.trans (hb1.mono (by omega)))
      clear hm1 hb1 hbW hmW hrW hq
      by_cases hc : cmpC (x, y) (m1, m2) < 0
      · go_wp2_with fail
        go_roundw
        case rel => exact ⟨k + 1, by omega, by omega, by go_num, by rw [hst.out, if_pos hc]; exact (Hm1.out.set_ 0 _).set_ 1 _, (Hr1.out.far (by simp) _).far (by simp) _, (Hb1.out.setCell (by simp) _).setCell (by simp) _⟩
        case measure => simp [intOf]; omega
      · have hs2 := Lib.hid (hst.out.trans (if_neg hc))
        go_wp2_with fail
        go_roundw
        case rel => exact ⟨k + 1, by omega, by omega, by go_num, by rw [hs2.out]; exact Hm1.out, Hr1.out, Hb1.out⟩
        case measure => simp [intOf]; omega
    · obtain rfl : k = l.length := by omega
      have hq2 : wr.cell? ⟨w.heap.size + 1, 0, none⟩ = some (.int .i64 (minC l).1) := hm.cell 0
      have hq3 : wr.cell? ⟨w.heap.size + 1, 1, none⟩ = some (.int .i64 (minC l).2) := hm.cell 1
      have hr0 : wr.cell? ⟨w.heap.size, 0, none⟩ = some (.int .i64 0) := hr.cell 0
      have hr1 : wr.cell? ⟨w.heap.size, 1, none⟩ = some (.int .i64 0) := hr.cell 1
      have hf0 := hr.frozen 0
      have hf1 := hr.frozen 1
      have hz0 := ((hr.set_ 0 (.int .i64 (minC l).1)).set_ 1 (.int .i64 (minC l).2)).cell 0
      have hz1 := ((hr.set_ 0 (.int .i64 (minC l).1)).set_ 1 (.int .i64 (minC l).2)).cell 1
      go_wp2_with fail
      refine bodyPost_ret (v := .agg #[.int .i64 (minC l).1, .int .i64 (minC l).2]) (by simp [results, Try.results74, go_sem, hz0, hz1]) rfl ⟨rfl, ?_⟩
      exact (hb.setCell (by simp) _).setCell (by simp) _

set_option maxHeartbeats 1000000 in
set_option maxRecDepth 100000 in
theorem first_any (A : Option Addr) (c : Nat) (l : List (Int × Int)) (w : World) (hA : SL w A (pairC l)) (h0 : 0 < l.length) (hl : l.length ≤ 1099511627776) :
    Calls Try.prog 70 #[.slice A l.length c] w fun e w' => e = .returned (.int .i64 (minC l).2) ∧ Below w.heap.size w w' := by
  have h := minFunc_any A c l w hA h0 hl
  have H := Lib.hid h
  clear h
  have hfd : ∀ (W : World) (a b : Int), (Instr.field 134 (.agg #[.int .i64 a, .int .i64 b]) 1).run Try.prog W = .ok (.int .i64 b) W := fun _ _ _ => by kernel_rfl
  go_enter Try.func70, Try.ntmps70
  go_wp2_with fail
  refine H.out.mono ?_
  rintro e w' ⟨rfl, hb⟩
  go_wp2_with fail
  go_ret
  exact ⟨rfl, hb⟩
end Go.Proofs.Ytmdgdphhedgojaa
