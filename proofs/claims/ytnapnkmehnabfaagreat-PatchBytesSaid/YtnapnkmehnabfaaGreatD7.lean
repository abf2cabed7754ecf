import Derived.Test.YtnapnkmehnabfaaGreatD6
namespace Go.Proofs.YtnapnkmehnabfaaGreat
open Go.RowKit Go.Maps
def J (N : Nat) (s : Option (List Nat)) : Prop := ∀ l, s = some l → l.length ≤ N ∧ ∀ x ∈ l, x < 256
theorem uR_J {N : Nat} {s : Option (List Nat)} (h : J N s) : J N (uR s).2 ∧ (uR s).1 < 18446744073709551616 := by
 cases s with
 | none => exact ⟨fun l e => (by cases e), by decide⟩
 | some l0 =>
  obtain ⟨h1, h2⟩ := h l0 rfl;refine ⟨fun l e => ?_, ?_⟩
  ·have e' : uR (some l0) = ((uR (some l0)).1, some l) := Prod.ext rfl e;exact ⟨by have := uR_some e'; omega, fun x hx => h2 x (uR_sub e' x hx)⟩
  show (uRo (rdU 0 0 l0)).1 < _;cases e : rdU 0 0 l0 with
  | none => decide
  | some q => obtain ⟨n, t⟩ := q; exact rdU_lt l0 0 0 n t h2 (by omega) (by decide) e
theorem iR_J {N : Nat} {s : Option (List Nat)} (h : J N s) : J N (iR s).2 := (uR_J h).1
theorem rawo_J {N : Nat} {n : Nat} {s : Option (List Nat)} (h : J N s) : J N (rawo (n, s)).2 ∧ (rawo (n, s)).1.length ≤ N := by
 cases s with
 | none => exact ⟨fun l e => (by cases e), Nat.zero_le _⟩
 | some l0 =>
  obtain ⟨h1, h2⟩ := h l0 rfl;show J N (if n ≤ l0.length then (l0.take n, some (l0.drop n)) else ([], none)).2 ∧ (if n ≤ l0.length then (l0.take n, some (l0.drop n)) else ([], none)).1.length ≤ N;by_cases hn : n ≤ l0.length
  ·rw [if_pos hn];refine ⟨fun l e => ?_, by simp only [List.length_take]; omega⟩;injection e with e;subst e;exact ⟨by rw [List.length_drop]; omega, fun x hx => h2 x (List.mem_of_mem_drop hx)⟩
  rw [if_neg hn];exact ⟨fun l e => (by cases e), Nat.zero_le _⟩
theorem rawR_J {N : Nat} {s : Option (List Nat)} (h : J N s) : J N (rawR s).2 ∧ (rawR s).1.length ≤ N := rawo_J (uR_J h).1
theorem itB_all {α : Type} {f : Rst → α × Rst} {P : α → Prop} {I : Option (List Nat) → Prop} (hf : ∀ σ : Rst, I σ.2 → P (f σ).1 ∧ I (f σ).2.2) : ∀ (k : Nat) (σ : Rst), I σ.2 → (∀ x ∈ (itB f k σ).1, P x) ∧ I (itB f k σ).2.2
 | 0, σ, h => ⟨fun x hx => (by cases hx), h⟩
 | k + 1, σ, h => by
  unfold itB;split
  ·exact ⟨fun x hx => (by cases hx), h⟩
  obtain ⟨h1, h2⟩ := hf σ h;obtain ⟨h3, h4⟩ := itB_all hf k (f σ).2 h2;exact ⟨fun x hx => (List.mem_cons.1 hx).elim (fun e => e ▸ h1) (h3 x), h4⟩
theorem many_all {α : Type} {f : Rst → α × Rst} {P : α → Prop} {N : Nat} (hf : ∀ σ : Rst, J N σ.2 → P (f σ).1 ∧ J N (f σ).2.2) (σ : Rst) (h : J N σ.2) : (∀ x ∈ (manyR f σ).1, P x) ∧ J N (manyR f σ).2.2 :=
 itB_all hf _ _ (iR_J h)
theorem u64_nat {n : Nat} (h : n < 18446744073709551616) : u64 (n : Int) := ⟨by omega, by omega⟩
theorem fU_J {N : Nat} (σ : Rst) (h : J N σ.2) : u64 (fU σ).1 ∧ J N (fU σ).2.2 := by
 obtain ⟨h1, h2⟩ := uR_J h;exact ⟨u64_nat h2, h1⟩
theorem fC_J {N : Nat} (σ : Rst) (h : J N σ.2) : True ∧ J N (fC σ).2.2 := ⟨trivial, iR_J (iR_J (iR_J (iR_J (iR_J h))))⟩
theorem fS_J {N : Nat} (σ : Rst) (h : J N σ.2) : True ∧ J N (fS σ).2.2 := ⟨trivial, (many_all (f := fC) (P := fun _ => True) fC_J _ (iR_J (iR_J (iR_J (iR_J h))))).2⟩
theorem fP_J {N : Nat} (σ : Rst) (h : J N σ.2) : (fP σ).1.nm.size ≤ N ∧ J N (fP σ).2.2 := by
 obtain ⟨h1, h2⟩ := rawR_J (iR_J (iR_J h));exact ⟨by show (nmOf _).size ≤ N; rw [nmOf_size]; exact h2, iR_J (iR_J (iR_J h1))⟩
theorem dec_pln {b : List Nat} (hl : b.length ≤ 1000000000) (hx : ∀ x ∈ b, x < 256) : PLn (decR b).1 ∧ ∀ x ∈ (decR b).1.needs, u64 x := by
 have j0 : J 1000000000 (some b) := fun l e => by cases e; exact ⟨hl, hx⟩
 have j2 := iR_J (iR_J j0);have k3 := many_all (f := fU) (P := u64) fU_J (false, _) j2;have k4 := many_all (f := fS) (P := fun _ => True) fS_J _ k3.2;have k5 := many_all (f := fP) (P := fun q => q.nm.size ≤ 1000000000) fP_J _ k4.2;have len : ∀ {α : Type} (f : Rst → α × Rst) (σ : Rst), (manyR f σ).1.length ≤ 1099511627776 := fun f σ => Nat.le_trans (manyR_len (xs := (manyR f σ).1) (σ' := (manyR f σ).2) rfl) (by decide);exact ⟨⟨len _ _, len _ _, len _ _, len _ _, len _ _, len _ _, len _ _, fun q hq => Nat.le_trans (k5.1 q hq) (by decide)⟩, k3.1⟩
theorem PB.r2 {w w' : World} {r R K B : Nat} {bad : Bool} {s : Option (List Nat)} {p : Pa} {a : Pw} (h : PB w p a) (hf : R2 r R w w') (hS : RS w r R K B bad s) : PB w' p a := by
 have k : ∀ {t : TypeId} {A : Option Addr} {vs : List Value}, t ≠ 154 → t ≠ 136 → SB w t A vs → SB w' t A vs := fun h1 h2 hs => by
  rcases hs with e | ⟨b, o, cs, e, hb, hc⟩
  ·exact .inl e
  obtain ⟨rs, hr⟩ := hS.q.bk;exact .inr ⟨b, o, cs, e, hb.r2 hf (hb.ne_ hr h1) (hb.ne_ hS.hR h2), hc⟩
 obtain ⟨vs, h1, h2⟩ := h.s;exact ⟨k (by decide) (by decide) h.n, ⟨vs, k (by decide) (by decide) h1, h2.r2 hf hS⟩, k (by decide) (by decide) h.l, k (by decide) (by decide) h.m, k (by decide) (by decide) h.e, k (by decide) (by decide) h.d, k (by decide) (by decide) h.r⟩
theorem RG.mono {w : World} {r B B' : Nat} {l : List Nat} {e : Int} (h : RG w r B l e) (hB : B ≤ B') : RG w r B' l e := by
 obtain ⟨A, c, hp, hS, hc, hcm, hrB, hn, hx⟩ := h;exact ⟨A, c, hp, hS, hc, hcm, by omega, fun b o e => by obtain ⟨h1, h2, h3⟩ := hn b o e; exact ⟨h1, by omega, h3⟩, hx⟩
theorem run_build_patch0 (w : World) : (Instr.build 34 #[]).run Tryz.prog w = .ok (.agg (paC paZ pwZ)) w := run_build w _ _ _ (by kernel_rfl)
set_option linter.unusedSimpArgs false in
set_option maxHeartbeats 2000000 in
set_option maxRecDepth 100000 in
theorem slEqual_any (A B : Option Addr) (c d : Nat) (xs ys : List Nat) (w : World) (hA : SL w A (byV xs)) (hB : SL w B (byV ys)) (hl : xs.length ≤ 1099511627776) (hl2 : ys.length ≤ 1099511627776) :
  Calls Tryz.prog 97 #[.slice A xs.length c, .slice B ys.length d] w fun e w' => e = .returned (.bool (decide (xs = ys))) ∧ Qt w w' := by
 obtain ⟨R, hR⟩ : ∃ z, Hid (decide (xs = ys) = z) := ⟨_, q9 rfl⟩;rw [hR.out];obtain ⟨n, hn⟩ : ∃ z, Hid (xs.length = z) := ⟨_, q9 rfl⟩;obtain ⟨m, hm⟩ : ∃ z, Hid (ys.length = z) := ⟨_, q9 rfl⟩;rw [hn.out] at hl;rw [hm.out] at hl2;rw [hn.out, hm.out];have HA := q9 hA;have HB := q9 hB;clear hA hB;by_cases h1 : n = m
 ·subst h1;go_enter Tryz.func97, Tryz.ntmps97
  go_wp2_with fail
  go_loopw [13] (fun v wr => ∃ k : Nat, k ≤ n ∧ v = .int .i64 (k : Int) ∧ Hid (xs.take k = ys.take k) ∧ Qt w wr) (fun v _ => n - (intOf v).toNat)
  case atStart => exact ⟨0, by omega, rfl, q9 rfl, Qt.refl w⟩
  case round =>
   obtain ⟨k, hk, rfl, ht, hq⟩ := hrel;obtain ⟨q, rfl⟩ := hq;by_cases hlt : k < n
   ·have hkx : k < xs.length := by have := hn.out; omega
    have hky : k < ys.length := by have := hm.out; omega
    obtain ⟨b1, o1, rfl, hc1⟩ := HA.out.byte (k := k) hkx;obtain ⟨b2, o2, rfl, hc2⟩ := HB.out.byte (k := k) hky;have i0 : (0 : Int) ≤ (k : Int) := by omega
    have hx : Hid (xs[k]? = some xs[k]) := List.getElem?_eq_getElem hkx;have hy : Hid (ys[k]? = some ys[k]) := List.getElem?_eq_getElem hky;generalize xs[k] = x at *;generalize ys[k] = y at *;by_cases hxy : x = y
    ·subst hxy;have ht2 := q9 (show xs.take (k + 1) = ys.take (k + 1) from by rw [take_snoc' hx.out, take_snoc' hy.out, ht.out]);clear ht hx hy;go_wp2
     go_quiet (fail)
     go_wp2
     go_roundw
     case rel => exact ⟨k + 1, by omega, by go_num, ht2, by first | exact Qt.drewN ⟨q, rfl⟩ _ | exact ⟨_, rfl⟩⟩
     case measure => simp [intOf]; omega
    have hxi : ((x : Int) != (y : Int)) = true := by simp; omega
    have hr := q9 (show R = false from by
     rw [← hR.out];refine decide_eq_false (fun e => ?_);have h1 := hx.out;rw [e, hy.out] at h1;injection h1 with h1;exact hxy h1.symm)
    clear ht hx hy;go_wp2
    go_quiet (fail)
    go_wp2
    go_ret
    exact ⟨by rw [hr.out]; rfl, by first | exact Qt.drewN ⟨q, rfl⟩ _ | exact ⟨_, rfl⟩⟩
   have hr := q9 (show R = true from by
    rw [← hR.out];refine decide_eq_true ?_;have h := ht.out;rwa [List.take_of_length_le (by have := hn.out; omega), List.take_of_length_le (by have := hm.out; omega)] at h)
   clear ht;go_wp2
   go_ret
   exact ⟨by rw [hr.out]; rfl, q, rfl⟩
 have hr := q9 (show R = false from by rw [← hR.out]; exact decide_eq_false (fun e => h1 (by rw [← hn.out, ← hm.out, e])));go_enter Tryz.func97, Tryz.ntmps97
 go_wp2
 go_ret
 exact ⟨by rw [hr.out]; rfl, Qt.refl w⟩
end Go.Proofs.YtnapnkmehnabfaaGreat
