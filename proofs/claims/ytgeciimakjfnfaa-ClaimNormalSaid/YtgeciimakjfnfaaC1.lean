import Derived.Test.YtgeciimakjfnfaaCD
namespace Go.Proofs.Ytgeciimakjfnfaa
open Go.RowKit Go.Maps

theorem clE_01 (c : Cl) : clE c = 0 ∨ clE c = 1 := by unfold clE; split <;> simp
/-- The error of a list of claims. -/
def allE (l : List Cl) : Int := if l.all (fun c => decide (clE c = 0)) then 0 else 1
theorem allE_iff {l : List Cl} : allE l = 0 ↔ ∀ c ∈ l, clE c = 0 := by
  unfold allE
  by_cases h : l.all (fun c => decide (clE c = 0)) = true
  · rw [if_pos h]; simpa using h
  · rw [if_neg h]
    constructor
    · intro k; cases k
    · intro k; exact (h (by simpa using k)).elim
theorem allE_01 (l : List Cl) : allE l = 0 ∨ allE l = 1 := by unfold allE; split <;> simp
theorem allE_bad {l : List Cl} {k : Nat} {c : Cl} (h : l[k]? = some c) (hc : clE c = 1) : allE l = 1 := by
  rcases allE_01 l with h0 | h0
  · have := allE_iff.1 h0 c (List.mem_of_getElem? h); omega
  · exact h0
theorem allE_done {l : List Cl} (h : ∀ j x, j < l.length → l[j]? = some x → clE x = 0) : allE l = 0 := allE_iff.2 fun c hc => by
  obtain ⟨j, hj⟩ := List.mem_iff_getElem?.1 hc
  exact h j c (List.getElem?_eq_some_iff.1 hj).1 hj
theorem upTo_next {l : List Cl} {k : Nat} {t : Cl} {p : Cl → Prop} (h : ∀ j x, j < k → l[j]? = some x → p x) (ht : l[k]? = some t) (hp : p t) : ∀ j x, j < k + 1 → l[j]? = some x → p x := fun j x hj hx => by
  by_cases e : j = k
  · subst e; rw [ht] at hx; injection hx with hx; exact hx ▸ hp
  · exact h j x (by omega) hx

set_option linter.unusedSimpArgs false in
set_option maxHeartbeats 4000000 in
set_option maxRecDepth 100000 in
theorem valid_any (A : Option Addr) (c : Nat) (l : List Cl) (w : World) (hA : SC w A l) (hl : l.length ≤ 1099511627776) :
    Calls Try.prog 44 #[.slice A l.length c] w fun e w' => e = .returned (.int .i64 (allE l)) ∧ Below w.heap.size w w' := by
  have HA := Lib.hid (fun (W : World) (h : Below w.heap.size w W) => (show SC W A l from hA.below h))
  clear hA
  go_enter Try.func44, Try.ntmps44
  go_wp2_with fail
  go_loopw [8] (fun i wr => ∃ k : Nat, k ≤ l.length ∧ i = .int .i64 (k : Int) ∧ Hid (∀ j x, j < k → l[j]? = some x → clE x = 0) ∧ Hid (Below w.heap.size w wr)) (fun i _ => l.length - (intOf i).toNat)
  case atStart => exact ⟨0, by omega, rfl, Lib.hid (fun j _ hj => by omega), Lib.hid (Below.refl _ _)⟩
  case round =>
    obtain ⟨k, hk, rfl, Hall, HB⟩ := hrel
    by_cases hlt : k < l.length
    · obtain ⟨b, o, t, hAe, c0, c1, c2, c3, c4, hi⟩ := (HA.out wr HB.out).get (k := k) hlt
      have hb1 := (Below.refl wr.heap.size wr).alloc (Nat.le_refl _) (.cells #[.int .i64 t.kind, .int .i64 t.office, .int .i64 t.fr, .int .i64 t.til, .int .i64 t.dec] 24)
      have HB1 := Lib.hid (HB.out.trans (hb1.mono HB.out.size))
      rw [hAe]
      clear hb1 HB hAe
      rcases clE_01 t with he | he
      · have K := Lib.hid (fun W => he ▸ claim_any t W)
        have Hn := Lib.hid (upTo_next Hall.out hi.out he)
        clear he Hall hi
        go_wp2_with fail
        refine (K.out _).mono ?_
        rintro e w2 ⟨rfl, hb2⟩
        have HB2 := Lib.hid (HB1.out.trans (hb2.mono HB1.out.size))
        clear hb2 K
        go_wp2_with fail
        go_roundw
        case rel => exact ⟨k + 1, by omega, by go_num, Hn, HB2⟩
        case measure => simp [intOf]; omega
      · have K := Lib.hid (fun W => he ▸ claim_any t W)
        have Hn := Lib.hid (allE_bad hi.out he)
        clear he Hall hi
        go_wp2_with fail
        refine (K.out _).mono ?_
        rintro e w2 ⟨rfl, hb2⟩
        have HB2 := Lib.hid (HB1.out.trans (hb2.mono HB1.out.size))
        clear hb2 K
        go_wp2_with fail
        go_ret
        exact ⟨by rw [Hn.out]; rfl, HB2.out⟩
    · have Hn := Lib.hid (allE_done fun j x hj => Hall.out j x (by omega))
      clear Hall
      go_wp2_with fail
      go_ret
      exact ⟨by rw [Hn.out]; rfl, HB.out⟩

set_option linter.unusedSimpArgs false in
set_option maxHeartbeats 4000000 in
set_option maxRecDepth 100000 in
theorem refAll_any (A : Option Addr) (c : Nat) (l : List Cl) (w : World) (hA : SC w A l) (hl : l.length ≤ 1099511627776) :
    Calls Try.prog 50 #[.slice A l.length c] w fun e w' => e = .returned (.int .i64 (allE l)) ∧ Below w.heap.size w w' := by
  have HA := Lib.hid (fun (W : World) (h : Below w.heap.size w W) => (show SC W A l from hA.below h))
  clear hA
  go_enter Try.func50, Try.ntmps50
  go_wp2_with fail
  go_loopw [3] (fun i wr => ∃ k : Nat, k ≤ l.length ∧ i = .int .i64 (k : Int) ∧ Hid (∀ j x, j < k → l[j]? = some x → clE x = 0) ∧ Hid (Below w.heap.size w wr)) (fun i _ => l.length - (intOf i).toNat)
  case atStart => exact ⟨0, by omega, rfl, Lib.hid (fun j _ hj => by omega), Lib.hid (Below.refl _ _)⟩
  case round =>
    obtain ⟨k, hk, rfl, Hall, HB⟩ := hrel
    by_cases hlt : k < l.length
    · obtain ⟨b, o, t, hAe, c0, c1, c2, c3, c4, hi⟩ := (HA.out wr HB.out).get (k := k) hlt
      rw [hAe]
      clear hAe
      rcases clE_01 t with he | he
      · have K := Lib.hid (fun W => he ▸ refClaim_any t W)
        have Hn := Lib.hid (upTo_next Hall.out hi.out he)
        clear he Hall hi
        go_wp2_with fail
        refine (K.out _).mono ?_
        rintro e w2 ⟨rfl, hb2⟩
        have HB2 := Lib.hid (HB.out.trans (hb2.mono HB.out.size))
        clear hb2 K
        go_wp2_with fail
        go_roundw
        case rel => exact ⟨k + 1, by omega, by go_num, Hn, HB2⟩
        case measure => simp [intOf]; omega
      · have K := Lib.hid (fun W => he ▸ refClaim_any t W)
        have Hn := Lib.hid (allE_bad hi.out he)
        clear he Hall hi
        go_wp2_with fail
        refine (K.out _).mono ?_
        rintro e w2 ⟨rfl, hb2⟩
        have HB2 := Lib.hid (HB.out.trans (hb2.mono HB.out.size))
        clear hb2 K
        go_wp2_with fail
        go_ret
        exact ⟨by rw [Hn.out]; rfl, HB2.out⟩
    · have Hn := Lib.hid (allE_done fun j x hj => Hall.out j x (by omega))
      clear Hall
      go_wp2_with fail
      go_ret
      exact ⟨by rw [Hn.out]; rfl, HB.out⟩
end Go.Proofs.Ytgeciimakjfnfaa
