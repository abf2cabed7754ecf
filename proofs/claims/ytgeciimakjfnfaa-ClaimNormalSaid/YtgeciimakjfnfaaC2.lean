import Derived.Test.YtgeciimakjfnfaaC1
namespace Go.Proofs.Ytgeciimakjfnfaa
open Go.RowKit Go.Maps

/-- The index of the first claim that a predicate holds of, or -1. -/
def idxC (p : Cl → Bool) : List Cl → Int
  | [] => -1
  | x :: zs => if p x then 0 else if idxC p zs < 0 then -1 else idxC p zs + 1
theorem idxC_none {p : Cl → Bool} : ∀ {zs : List Cl}, (∀ x ∈ zs, p x = false) → idxC p zs = -1
  | [], _ => rfl
  | x :: zs, h => by
    rw [idxC, h x (by simp), idxC_none (zs := zs) fun y hy => h y (by simp [hy])]; simp
theorem idxC_some {p : Cl → Bool} : ∀ {zs : List Cl} {k : Nat} {x : Cl}, zs[k]? = some x → p x = true → (∀ j y, j < k → zs[j]? = some y → p y = false) → idxC p zs = k
  | [], k, x, h, _, _ => by simp at h
  | z :: zs, 0, x, h, hp, _ => by
    simp at h; subst h; rw [idxC, if_pos hp]; rfl
  | z :: zs, k + 1, x, h, hp, hn => by
    have h0 := hn 0 z (by omega) rfl
    have ih := idxC_some (zs := zs) (k := k) (x := x) (by simpa using h) hp fun j y hj hy => hn (j + 1) y (by omega) (by simpa using hy)
    rw [idxC, h0, ih]
    simp
    omega
theorem idxC_nonneg {p : Cl → Bool} (zs : List Cl) : decide (0 ≤ idxC p zs) = zs.any p := by
  induction zs with
  | nil => simp [idxC]
  | cons x zs ih =>
    rw [List.any_cons, ← ih, idxC]
    by_cases hp : p x
    · simp [hp]
    · simp only [hp, Bool.false_eq_true, if_false, Bool.false_or]
      by_cases h : idxC p zs < 0
      · rw [if_pos h]; simp; omega
      · rw [if_neg h]; simp; omega
def pCtl (t : Cl) : Bool := decide (t.kind = 2)
def pSay (o k : Int) (t : Cl) : Bool := decide (t.office = o) && decide (t.kind = k)
def pOff (d : Int) (t : Cl) : Bool := !inB d t.fr t.til
theorem boxC (t : Cl) (w : World) : Below w.heap.size w (w.alloc (.cells #[.int .i64 t.kind, .int .i64 t.office, .int .i64 t.fr, .int .i64 t.til, .int .i64 t.dec] 24)) := (Below.refl w.heap.size w).alloc (Nat.le_refl _) _
theorem boxC_k (t : Cl) (w : World) : Bk (w.alloc (.cells #[.int .i64 t.kind, .int .i64 t.office, .int .i64 t.fr, .int .i64 t.til, .int .i64 t.dec] 24)) w.heap.size 24 #[.int .i64 t.kind, .int .i64 t.office, .int .i64 t.fr, .int .i64 t.til, .int .i64 t.dec] := Bk.new w _ _

set_option linter.unusedSimpArgs false in
set_option maxHeartbeats 4000000 in
set_option maxRecDepth 100000 in
theorem pCtl_any (t : Cl) (w : World) : Calls Try.prog 76 #[clV t] w fun e w' => e = .returned (.bool (pCtl t)) ∧ Below w.heap.size w w' := by
  show Calls Try.prog 76 #[.agg #[.int .i64 t.kind, .int .i64 t.office, .int .i64 t.fr, .int .i64 t.til, .int .i64 t.dec]] w _
  have Hb := Lib.hid (boxC t w)
  have hk := boxC_k t w
  have k0 : (w.alloc (.cells #[.int .i64 t.kind, .int .i64 t.office, .int .i64 t.fr, .int .i64 t.til, .int .i64 t.dec] 24)).cell? ⟨w.heap.size, 0, none⟩ = some (.int .i64 t.kind) := hk.cell 0
  have H := Lib.hid (show pCtl t = decide (t.kind = 2) from rfl)
  clear hk
  go_enter Try.func76, Try.ntmps76
  go_wp2_with fail
  go_ret
  exact ⟨ret_bool (by rw [H.out]; first | rfl | (trace_state; simp)), Hb.out⟩

set_option linter.unusedSimpArgs false in
set_option maxHeartbeats 4000000 in
set_option maxRecDepth 100000 in
theorem pSay_any (o k : Int) (O K : Nat) (t : Cl) (w : World) (hO : w.cell? ⟨O, 0, none⟩ = some (.int .i64 o)) (hK : w.cell? ⟨K, 0, none⟩ = some (.int .i64 k)) (lO : O < w.heap.size) (lK : K < w.heap.size) : Calls Try.prog 103 #[clV t, .pointer (some ⟨O, 0, none⟩), .pointer (some ⟨K, 0, none⟩)] w fun e w' => e = .returned (.bool (pSay o k t)) ∧ Below w.heap.size w w' := by
  show Calls Try.prog 103 #[.agg #[.int .i64 t.kind, .int .i64 t.office, .int .i64 t.fr, .int .i64 t.til, .int .i64 t.dec], .pointer (some ⟨O, 0, none⟩), .pointer (some ⟨K, 0, none⟩)] w _
  have Hb := Lib.hid (boxC t w)
  have hk := boxC_k t w
  have k0 : (w.alloc (.cells #[.int .i64 t.kind, .int .i64 t.office, .int .i64 t.fr, .int .i64 t.til, .int .i64 t.dec] 24)).cell? ⟨w.heap.size, 0, none⟩ = some (.int .i64 t.kind) := hk.cell 0
  have k1 : (w.alloc (.cells #[.int .i64 t.kind, .int .i64 t.office, .int .i64 t.fr, .int .i64 t.til, .int .i64 t.dec] 24)).cell? ⟨w.heap.size, 1, none⟩ = some (.int .i64 t.office) := hk.cell 1
  have k2 : (w.alloc (.cells #[.int .i64 t.kind, .int .i64 t.office, .int .i64 t.fr, .int .i64 t.til, .int .i64 t.dec] 24)).cell? ⟨O, 0, none⟩ = some (.int .i64 o) := (Hb.out.cell (p := ⟨O, 0, none⟩) lO).trans hO
  have k3 : (w.alloc (.cells #[.int .i64 t.kind, .int .i64 t.office, .int .i64 t.fr, .int .i64 t.til, .int .i64 t.dec] 24)).cell? ⟨K, 0, none⟩ = some (.int .i64 k) := (Hb.out.cell (p := ⟨K, 0, none⟩) lK).trans hK
  clear hk hO hK
  by_cases h1 : t.office = o
  · by_cases h2 : t.kind = k
    · have H := Lib.hid (show pSay o k t = true from by simp [pSay, h1, h2])
      have b1 : (t.office == o) = true := by simp [h1]
      have b2 : (t.kind == k) = true := by simp [h2]
      clear h1 h2
      go_enter Try.func103, Try.ntmps103
      go_wp2_with fail
      go_ret
      exact ⟨ret_bool (by rw [H.out]), Hb.out⟩
    · have H := Lib.hid (show pSay o k t = false from by simp [pSay, h2])
      have b1 : (t.office == o) = true := by simp [h1]
      have b2 : (t.kind == k) = false := by simp [h2]
      clear h1 h2
      go_enter Try.func103, Try.ntmps103
      go_wp2_with fail
      go_ret
      exact ⟨ret_bool (by rw [H.out]), Hb.out⟩
  · have H := Lib.hid (show pSay o k t = false from by simp [pSay, h1])
    have b1 : (t.office == o) = false := by simp [h1]
    clear h1
    go_enter Try.func103, Try.ntmps103
    go_wp2_with fail
    go_ret
    exact ⟨ret_bool (by rw [H.out]), Hb.out⟩

set_option linter.unusedSimpArgs false in
set_option maxHeartbeats 4000000 in
set_option maxRecDepth 100000 in
theorem pOff_any (d : Int) (D : Nat) (t : Cl) (w : World) (hD : w.cell? ⟨D, 0, none⟩ = some (.int .i64 d)) (lD : D < w.heap.size) : Calls Try.prog 80 #[clV t, .pointer (some ⟨D, 0, none⟩)] w fun e w' => e = .returned (.bool (pOff d t)) ∧ Below w.heap.size w w' := by
  show Calls Try.prog 80 #[.agg #[.int .i64 t.kind, .int .i64 t.office, .int .i64 t.fr, .int .i64 t.til, .int .i64 t.dec], .pointer (some ⟨D, 0, none⟩)] w _
  have Hb := Lib.hid (boxC t w)
  have hk := boxC_k t w
  have k2 : (w.alloc (.cells #[.int .i64 t.kind, .int .i64 t.office, .int .i64 t.fr, .int .i64 t.til, .int .i64 t.dec] 24)).cell? ⟨w.heap.size, 2, none⟩ = some (.int .i64 t.fr) := hk.cell 2
  have k3 : (w.alloc (.cells #[.int .i64 t.kind, .int .i64 t.office, .int .i64 t.fr, .int .i64 t.til, .int .i64 t.dec] 24)).cell? ⟨w.heap.size, 3, none⟩ = some (.int .i64 t.til) := hk.cell 3
  have k4 : (w.alloc (.cells #[.int .i64 t.kind, .int .i64 t.office, .int .i64 t.fr, .int .i64 t.til, .int .i64 t.dec] 24)).cell? ⟨D, 0, none⟩ = some (.int .i64 d) := (Hb.out.cell (p := ⟨D, 0, none⟩) lD).trans hD
  have H := Lib.hid (show pOff d t = !inB d t.fr t.til from rfl)
  clear hk hD
  go_enter Try.func80, Try.ntmps80
  go_wp2_with fail
  refine (in_any d t.fr t.til _).mono ?_
  rintro e w1 ⟨rfl, rfl⟩
  go_wp2_with fail
  go_ret
  exact ⟨ret_bool (by rw [H.out]), Hb.out⟩

set_option linter.unusedSimpArgs false in
set_option maxHeartbeats 4000000 in
set_option maxRecDepth 100000 in
theorem idxCtl_any (A : Option Addr) (c : Nat) (l : List Cl) (w : World) (hA : SC w A l) (hl : l.length ≤ 1099511627776) :
    Calls Try.prog 101 #[.slice A l.length c, .func (.func 76) #[] #[]] w fun e w' => e = .returned (.int .i64 (idxC (pCtl) l)) ∧ Below w.heap.size w w' := by
  have HA := Lib.hid (fun (W : World) (h : Below w.heap.size w W) => (show SC W A l from hA.below h))
  have HP := Lib.hid (fun (t : Cl) (W : World) (h : Below w.heap.size w W) => pCtl_any t W)
  generalize hP : pCtl = P at *
  clear hA hP
  go_enter Try.func101, Try.ntmps101
  go_wp2_with fail
  go_loopw [8] (fun i wr => ∃ k : Nat, k ≤ l.length ∧ i = .int .i64 (k : Int) ∧ Hid (∀ j x, j < k → l[j]? = some x → P x = false) ∧ Hid (Below w.heap.size w wr)) (fun i _ => l.length - (intOf i).toNat)
  case atStart => exact ⟨0, by omega, rfl, Lib.hid (fun j _ hj => by omega), Lib.hid (Below.refl _ _)⟩
  case round =>
    obtain ⟨k, hk, rfl, Hall, HB⟩ := hrel
    by_cases hlt : k < l.length
    · obtain ⟨b, o, t, hAe, c0, c1, c2, c3, c4, hi⟩ := (HA.out wr HB.out).get (k := k) hlt
      rw [hAe]
      have K := Lib.hid (HP.out t wr HB.out)
      clear hAe
      go_wp2_with fail
      refine K.out.mono ?_
      rintro e w2 ⟨rfl, hb2⟩
      have HB2 := Lib.hid (HB.out.trans (hb2.mono HB.out.size))
      clear hb2 K HB c0 c1 c2 c3 c4
      cases hp : P t
      · have Hn := Lib.hid (upTo_next Hall.out hi.out hp)
        clear hp Hall hi
        go_wp2_with fail
        go_roundw
        case rel => exact ⟨k + 1, by omega, by go_num, Hn, HB2⟩
        case measure => simp [intOf]; omega
      · have Hn := Lib.hid (idxC_some hi.out hp Hall.out)
        clear hp Hall hi
        go_wp2_with fail
        go_ret
        exact ⟨ret_int Hn.out.symm, HB2.out⟩
    · have Hn := Lib.hid (idxC_none (p := P) (zs := l) fun x hx => by
        obtain ⟨j, hj⟩ := List.mem_iff_getElem?.1 hx
        exact Hall.out j x (by have := (List.getElem?_eq_some_iff.1 hj).1; omega) hj)
      clear Hall
      go_wp2_with fail
      go_ret
      exact ⟨ret_int Hn.out.symm, HB.out⟩
theorem hasCtl_any (A : Option Addr) (c : Nat) (l : List Cl) (w : World) (hA : SC w A l) (hl : l.length ≤ 1099511627776) :
    Calls Try.prog 75 #[.slice A l.length c, .func (.func 76) #[] #[]] w fun e w' => e = .returned (.bool (l.any (pCtl))) ∧ Below w.heap.size w w' := by
  have H := Lib.hid (idxCtl_any A c l w hA hl)
  generalize hP : pCtl = P at *
  clear hA hP
  go_enter Try.func75, Try.ntmps75
  go_wp2_with fail
  refine H.out.mono ?_
  rintro e w' ⟨rfl, hb⟩
  have HB := Lib.hid hb
  clear hb
  go_wp2_with fail
  go_ret
  exact ⟨ret_bool (idxC_nonneg l), HB.out⟩

set_option linter.unusedSimpArgs false in
set_option maxHeartbeats 4000000 in
set_option maxRecDepth 100000 in
theorem idxSay_any (A : Option Addr) (c : Nat) (l : List Cl) (o k : Int) (O K : Nat) (w : World) (hA : SC w A l) (hl : l.length ≤ 1099511627776) (hO : w.cell? ⟨O, 0, none⟩ = some (.int .i64 o)) (hK : w.cell? ⟨K, 0, none⟩ = some (.int .i64 k)) (lO : O < w.heap.size) (lK : K < w.heap.size) :
    Calls Try.prog 101 #[.slice A l.length c, .func (.func 103) #[] #[.pointer (some ⟨O, 0, none⟩), .pointer (some ⟨K, 0, none⟩)]] w fun e w' => e = .returned (.int .i64 (idxC (pSay o k) l)) ∧ Below w.heap.size w w' := by
  have HA := Lib.hid (fun (W : World) (h : Below w.heap.size w W) => (show SC W A l from hA.below h))
  have HP := Lib.hid (fun (t : Cl) (W : World) (h : Below w.heap.size w W) => pSay_any o k O K t W ((h.cell (p := ⟨O, 0, none⟩) lO).trans hO) ((h.cell (p := ⟨K, 0, none⟩) lK).trans hK) (by have := h.size; omega) (by have := h.size; omega))
  generalize hP : pSay o k = P at *
  clear hA hP hO hK lO lK
  go_enter Try.func101, Try.ntmps101
  go_wp2_with fail
  go_loopw [8] (fun i wr => ∃ k : Nat, k ≤ l.length ∧ i = .int .i64 (k : Int) ∧ Hid (∀ j x, j < k → l[j]? = some x → P x = false) ∧ Hid (Below w.heap.size w wr)) (fun i _ => l.length - (intOf i).toNat)
  case atStart => exact ⟨0, by omega, rfl, Lib.hid (fun j _ hj => by omega), Lib.hid (Below.refl _ _)⟩
  case round =>
    obtain ⟨k, hk, rfl, Hall, HB⟩ := hrel
    by_cases hlt : k < l.length
    · obtain ⟨b, o, t, hAe, c0, c1, c2, c3, c4, hi⟩ := (HA.out wr HB.out).get (k := k) hlt
      rw [hAe]
      have K := Lib.hid (HP.out t wr HB.out)
      clear hAe
      go_wp2_with fail
      refine K.out.mono ?_
      rintro e w2 ⟨rfl, hb2⟩
      have HB2 := Lib.hid (HB.out.trans (hb2.mono HB.out.size))
      clear hb2 K HB c0 c1 c2 c3 c4
      cases hp : P t
      · have Hn := Lib.hid (upTo_next Hall.out hi.out hp)
        clear hp Hall hi
        go_wp2_with fail
        go_roundw
        case rel => exact ⟨k + 1, by omega, by go_num, Hn, HB2⟩
        case measure => simp [intOf]; omega
      · have Hn := Lib.hid (idxC_some hi.out hp Hall.out)
        clear hp Hall hi
        go_wp2_with fail
        go_ret
        exact ⟨ret_int Hn.out.symm, HB2.out⟩
    · have Hn := Lib.hid (idxC_none (p := P) (zs := l) fun x hx => by
        obtain ⟨j, hj⟩ := List.mem_iff_getElem?.1 hx
        exact Hall.out j x (by have := (List.getElem?_eq_some_iff.1 hj).1; omega) hj)
      clear Hall
      go_wp2_with fail
      go_ret
      exact ⟨ret_int Hn.out.symm, HB.out⟩
theorem hasSay_any (A : Option Addr) (c : Nat) (l : List Cl) (o k : Int) (O K : Nat) (w : World) (hA : SC w A l) (hl : l.length ≤ 1099511627776) (hO : w.cell? ⟨O, 0, none⟩ = some (.int .i64 o)) (hK : w.cell? ⟨K, 0, none⟩ = some (.int .i64 k)) (lO : O < w.heap.size) (lK : K < w.heap.size) :
    Calls Try.prog 75 #[.slice A l.length c, .func (.func 103) #[] #[.pointer (some ⟨O, 0, none⟩), .pointer (some ⟨K, 0, none⟩)]] w fun e w' => e = .returned (.bool (l.any (pSay o k))) ∧ Below w.heap.size w w' := by
  have H := Lib.hid (idxSay_any A c l o k O K w hA hl hO hK lO lK)
  generalize hP : pSay o k = P at *
  clear hA hP hO hK lO lK
  go_enter Try.func75, Try.ntmps75
  go_wp2_with fail
  refine H.out.mono ?_
  rintro e w' ⟨rfl, hb⟩
  have HB := Lib.hid hb
  clear hb
  go_wp2_with fail
  go_ret
  exact ⟨ret_bool (idxC_nonneg l), HB.out⟩

set_option linter.unusedSimpArgs false in
set_option maxHeartbeats 4000000 in
set_option maxRecDepth 100000 in
theorem idxOff_any (A : Option Addr) (c : Nat) (l : List Cl) (d : Int) (D : Nat) (w : World) (hA : SC w A l) (hl : l.length ≤ 1099511627776) (hD : w.cell? ⟨D, 0, none⟩ = some (.int .i64 d)) (lD : D < w.heap.size) :
    Calls Try.prog 101 #[.slice A l.length c, .func (.func 80) #[] #[.pointer (some ⟨D, 0, none⟩)]] w fun e w' => e = .returned (.int .i64 (idxC (pOff d) l)) ∧ Below w.heap.size w w' := by
  have HA := Lib.hid (fun (W : World) (h : Below w.heap.size w W) => (show SC W A l from hA.below h))
  have HP := Lib.hid (fun (t : Cl) (W : World) (h : Below w.heap.size w W) => pOff_any d D t W ((h.cell (p := ⟨D, 0, none⟩) lD).trans hD) (by have := h.size; omega))
  generalize hP : pOff d = P at *
  clear hA hP hD lD
  go_enter Try.func101, Try.ntmps101
  go_wp2_with fail
  go_loopw [8] (fun i wr => ∃ k : Nat, k ≤ l.length ∧ i = .int .i64 (k : Int) ∧ Hid (∀ j x, j < k → l[j]? = some x → P x = false) ∧ Hid (Below w.heap.size w wr)) (fun i _ => l.length - (intOf i).toNat)
  case atStart => exact ⟨0, by omega, rfl, Lib.hid (fun j _ hj => by omega), Lib.hid (Below.refl _ _)⟩
  case round =>
    obtain ⟨k, hk, rfl, Hall, HB⟩ := hrel
    by_cases hlt : k < l.length
    · obtain ⟨b, o, t, hAe, c0, c1, c2, c3, c4, hi⟩ := (HA.out wr HB.out).get (k := k) hlt
      rw [hAe]
      have K := Lib.hid (HP.out t wr HB.out)
      clear hAe
      go_wp2_with fail
      refine K.out.mono ?_
      rintro e w2 ⟨rfl, hb2⟩
      have HB2 := Lib.hid (HB.out.trans (hb2.mono HB.out.size))
      clear hb2 K HB c0 c1 c2 c3 c4
      cases hp : P t
      · have Hn := Lib.hid (upTo_next Hall.out hi.out hp)
        clear hp Hall hi
        go_wp2_with fail
        go_roundw
        case rel => exact ⟨k + 1, by omega, by go_num, Hn, HB2⟩
        case measure => simp [intOf]; omega
      · have Hn := Lib.hid (idxC_some hi.out hp Hall.out)
        clear hp Hall hi
        go_wp2_with fail
        go_ret
        exact ⟨ret_int Hn.out.symm, HB2.out⟩
    · have Hn := Lib.hid (idxC_none (p := P) (zs := l) fun x hx => by
        obtain ⟨j, hj⟩ := List.mem_iff_getElem?.1 hx
        exact Hall.out j x (by have := (List.getElem?_eq_some_iff.1 hj).1; omega) hj)
      clear Hall
      go_wp2_with fail
      go_ret
      exact ⟨ret_int Hn.out.symm, HB.out⟩
theorem hasOff_any (A : Option Addr) (c : Nat) (l : List Cl) (d : Int) (D : Nat) (w : World) (hA : SC w A l) (hl : l.length ≤ 1099511627776) (hD : w.cell? ⟨D, 0, none⟩ = some (.int .i64 d)) (lD : D < w.heap.size) :
    Calls Try.prog 75 #[.slice A l.length c, .func (.func 80) #[] #[.pointer (some ⟨D, 0, none⟩)]] w fun e w' => e = .returned (.bool (l.any (pOff d))) ∧ Below w.heap.size w w' := by
  have H := Lib.hid (idxOff_any A c l d D w hA hl hD lD)
  generalize hP : pOff d = P at *
  clear hA hP hD lD
  go_enter Try.func75, Try.ntmps75
  go_wp2_with fail
  refine H.out.mono ?_
  rintro e w' ⟨rfl, hb⟩
  have HB := Lib.hid hb
  clear hb
  go_wp2_with fail
  go_ret
  exact ⟨ret_bool (idxC_nonneg l), HB.out⟩

end Go.Proofs.Ytgeciimakjfnfaa
