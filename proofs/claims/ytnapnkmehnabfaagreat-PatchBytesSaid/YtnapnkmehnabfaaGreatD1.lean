import Derived.Test.YtnapnkmehnabfaaGreatQE
import Derived.Lib.Zigzag
set_option maxHeartbeats 4000000
set_option maxRecDepth 100000
namespace Go.Proofs.YtnapnkmehnabfaaGreat
open Go.RowKit Go.Maps
structure R2 (r s : Nat) (w w' : World) : Prop where
 os : w'.os = w.os
 tape : w'.tape = w.tape
 output : w'.output = w.output
 size : w.heap.size ≤ w'.heap.size
 block : ∀ k, k < w.heap.size → k ≠ r → k ≠ s → w'.heap[k]? = w.heap[k]?
section
variable {r s : Nat} {w a b : World}
theorem R2.refl (r s : Nat) (w : World) : R2 r s w w := ⟨rfl, rfl, rfl, Nat.le_refl _, fun _ _ _ _ => rfl⟩
theorem R2.drew (h : R2 r s w a) : R2 r s w a.drew := ⟨h.os, h.tape, h.output, h.size, h.block⟩
theorem R2.alloc (h : R2 r s w a) (o : Obj) : R2 r s w (a.alloc o) := ⟨h.os, h.tape, h.output, by have := h.size; simp; omega, fun k hk h1 h2 => (Below.heap_alloc a o k (Nat.lt_of_lt_of_le hk h.size)).trans (h.block k hk h1 h2)⟩
theorem R2.setCell (h : R2 r s w a) {p : Addr} (hp : p.block = r ∨ p.block = s ∨ w.heap.size ≤ p.block) (u : Value) : R2 r s w (a.setCell p u) := ⟨h.os, h.tape, h.output, by have := h.size; simp [World.setCell]; omega, fun k hk h1 h2 => (Below.heap_setCell a p u k (by rcases hp with e | e | e <;> omega)).trans (h.block k hk h1 h2)⟩
theorem R2.grown {row : Option Nat} (h : R2 r s w a) (hg : a.grownBy b row) (hr : ∀ k, row = some k → w.heap.size ≤ k) : R2 r s w b := ⟨hg.os.trans h.os, hg.tape.trans h.tape, hg.output.trans h.output, Nat.le_trans h.size hg.size, fun k hk h1 h2 => (hg.block k (Nat.lt_of_lt_of_le hk h.size) (fun e => by have := hr k e.symm; omega)).trans (h.block k hk h1 h2)⟩
theorem R2.below {base : Nat} (h : R2 r s w a) (h0 : base ≤ w.heap.size) (h1 : base ≤ r) (h2 : base ≤ s) : Below base w a := ⟨h.os, h.tape, h.output, h.size, fun k hk => h.block k (by omega) (by omega) (by omega)⟩
theorem R2.trans (h : R2 r s w a) (k : R2 r s a b) : R2 r s w b := ⟨k.os.trans h.os, k.tape.trans h.tape, k.output.trans h.output, Nat.le_trans h.size k.size, fun i hi h1 h2 => (k.block i (Nat.lt_of_lt_of_le hi h.size) h1 h2).trans (h.block i hi h1 h2)⟩
theorem R2.wide (h : R2 r r w a) (s : Nat) : R2 r s w a := ⟨h.os, h.tape, h.output, h.size, fun k hk h1 _ => h.block k hk h1 h1⟩
end
theorem Bk.r2 {w w' : World} {r s k : Nat} {t : TypeId} {cs : Array Value} (h : Bk w k t cs) (hf : R2 r s w w') (h1 : k ≠ r) (h2 : k ≠ s) : Bk w' k t cs := (hf.block k h.lt h1 h2).trans h
theorem own_r2 {w w' : World} {r s base : Nat} {e : TypeId} {n size : Nat} {v : Value} {xs : List Value} (h : w.ownsRow base e size v n xs) (hf : R2 r s w w') (hr : r < base) (hs : s < base) : w'.ownsRow base e size v n xs := by
 refine ⟨h.1, ?_⟩;rcases h.2 with hn | ⟨k, cap, cur, rfl, h1, hgg, rest⟩
 ·exact .inl hn
 exact .inr ⟨k, cap, cur, rfl, h1, (hf.block k (Array.getElem?_eq_some_iff.1 hgg).1 (by omega) (by omega)).trans hgg, rest⟩
theorem SL.far2 {w : World} {b o : Nat} {xs : List Value} (h : SL w (some ⟨b, o, none⟩) xs) {p : Addr} (hp : b ≠ p.block) (u : Value) : SL (w.setCell p u) (some ⟨b, o, none⟩) xs := fun j v hv => by
 obtain ⟨b', o', e, hb, hc⟩ := h j v hv;injection e with e;injection e with e1 e2;subst e1 e2;refine ⟨_, _, rfl, by simpa [World.setCell] using hb, ?_⟩;exact (World.cell?_setCell_other w _ _ _ (fun e => hp (by rw [e]))).trans hc
theorem SL.tail2 {w : World} {b o : Nat} {x : Value} {xs : List Value} (h : SL w (some ⟨b, o, none⟩) (x :: xs)) : SL w (some ⟨b, o + 1, none⟩) xs := fun j v hv => by
 obtain ⟨b', o', e, hb, hc⟩ := h (j + 1) v (by simpa using hv);injection e with e;injection e with e1 e2;subst e1 e2;exact ⟨_, _, rfl, hb, by rw [← hc]; congr 2; omega⟩
def RG (w : World) (r B : Nat) (l : List Nat) (e : Int) : Prop :=
 ∃ A c, Bk w r 154 #[.slice A l.length c, .int .i64 e] ∧ SL w A (byV l) ∧ l.length ≤ c ∧ c ≤ 9223372036854775807 ∧ r < B ∧ (∀ b o, A = some ⟨b, o, none⟩ → b ≠ r ∧ b < B ∧ ∃ cs, Bk w b 5 cs) ∧ ∀ x ∈ l, x < 256
def RQ (w : World) (r B : Nat) : Option (List Nat) → Prop
 | some l => RG w r B l 0
 | none => ∃ l e, e ≠ 0 ∧ RG w r B l e
theorem RG.lt {w : World} {r B : Nat} {l : List Nat} {e : Int} (h : RG w r B l e) : r < B := by obtain ⟨A, c, _, _, _, _, h, _⟩ := h; exact h
theorem RG.bk {w : World} {r B : Nat} {l : List Nat} {e : Int} (h : RG w r B l e) : ∃ cs, Bk w r 154 cs := by obtain ⟨A, c, h, _⟩ := h; exact ⟨_, h⟩
theorem RQ.lt {w : World} {r B : Nat} {s : Option (List Nat)} (h : RQ w r B s) : r < B := by
 cases s with
 | some l => exact RG.lt h
 | none => obtain ⟨_, _, _, h⟩ := h; exact h.lt
theorem RQ.bk {w : World} {r B : Nat} {s : Option (List Nat)} (h : RQ w r B s) : ∃ cs, Bk w r 154 cs := by
 cases s with
 | some l => exact RG.bk h
 | none => obtain ⟨_, _, _, h⟩ := h; exact h.bk
theorem RG.below {w w' : World} {r B : Nat} {l : List Nat} {e : Int} (h : RG w r B l e) (hb : Below B w w') : RG w' r B l e := by
 obtain ⟨A, c, hp, hS, hc, hcm, hrB, hne, hx⟩ := h;refine ⟨A, c, hp.below hb hrB, fun j u hu => ?_, hc, hcm, hrB, fun b o e => ?_, hx⟩
 ·obtain ⟨b, o, rfl, hlt, hcell⟩ := hS j u hu;exact ⟨b, o, rfl, Nat.lt_of_lt_of_le hlt hb.size, (hb.cell (p := ⟨b, o + j, none⟩) (hne b o rfl).2.1).trans hcell⟩
 obtain ⟨h1, h2, cs, h3⟩ := hne b o e;exact ⟨h1, h2, cs, h3.below hb h2⟩
theorem RQ.below {w w' : World} {r B : Nat} {s : Option (List Nat)} (h : RQ w r B s) (hb : Below B w w') : RQ w' r B s := by
 cases s with
 | some l => exact RG.below h hb
 | none => obtain ⟨l, e, he, h⟩ := h; exact ⟨l, e, he, h.below hb⟩
theorem fail_any (r B : Nat) (l : List Nat) (x : Int) (w : World) (h : RG w r B l 0) :
  Calls Tryz.prog 151 #[.pointer (some ⟨r, 0, none⟩), .int .i64 x] w fun e w' => e = .returned (.tuple #[]) ∧ RG w' r B l x ∧ R2 r r w w' := by
 obtain ⟨A, c, hp, hS, hc, hcm, hrB, hne, hx⟩ := h;have hc1 : w.cell? ⟨r, 1, none⟩ = some (.int .i64 0) := hp.cell 1;have hf := hp.frozen 1;have Hp := q9 hp;have Hs := q9 hS;clear hp hS;go_enter Tryz.func151, Tryz.ntmps151
 go_wp2_with fail
 go_end0
 have hf1 := (R2.refl r r w).setCell (p := ⟨r, 1, none⟩) (.inl rfl) (.int .i64 x);refine ⟨rfl, ⟨A, c, Hp.out.set_ 1 _, ?_, hc, hcm, hrB, fun b o e => by obtain ⟨h1, h2, cs, h3⟩ := hne b o e; exact ⟨h1, h2, cs, h3.r2 hf1 h1 h1⟩, hx⟩, hf1⟩;cases A with
 | none => exact fun j u hu => by obtain ⟨b, o, e, _⟩ := Hs.out j u hu; cases e
 | some a =>
  intro j u hu;obtain ⟨b, o, e, hlt, hcell⟩ := Hs.out j u hu;refine ⟨b, o, e, by simpa [World.setCell] using hlt, ?_⟩;exact (World.cell?_setCell_other w _ _ _ (fun e' => (hne b o e).1 (congrArg Addr.block e').symm)).trans hcell
theorem gnext_any (r B x : Nat) (l : List Nat) (w : World) (h : RG w r B (x :: l) 0) :
  Calls Tryz.prog 150 #[.pointer (some ⟨r, 0, none⟩)] w fun e w' => e = .returned (.int .u8 x) ∧ RG w' r B l 0 ∧ R2 r r w w' := by
 obtain ⟨A, c, hp, hS, hc, hcm, hrB, hne, hxs⟩ := h;have hxl : ∀ y ∈ l, y < 256 := fun y hy => hxs y (List.mem_cons_of_mem _ hy);obtain ⟨b, o, rfl, hx⟩ := hS.byte (k := 0) (by simp);obtain ⟨hbr, hbB, bcs, hbk⟩ := hne b o rfl;have hc0 : w.cell? ⟨r, 0, none⟩ = some (.slice (some ⟨b, o, none⟩) (x :: l).length c) := hp.cell 0;have hc1 : w.cell? ⟨r, 1, none⟩ = some (.int .i64 0) := hp.cell 1;have hf := hp.frozen 0;have Hp := q9 hp;have Hs := q9 hS;have Hxl := q9 hxl;have Hbk := q9 hbk;simp only [Nat.add_zero, List.getElem_cons_zero] at hx;simp only [List.length_cons] at hc0 hc;clear hp hS hxs hxl hbk hne;by_cases h1 : c = 1
 ·subst h1;obtain rfl : l = [] := List.eq_nil_of_length_eq_zero (by omega);go_enter Tryz.func150, Tryz.ntmps150
  go_wp2_with fail
  go_ret
  have hf1 := (R2.refl r r w).setCell (p := ⟨r, 0, none⟩) (.inl rfl) (.slice (some ⟨b, o, none⟩) 0 0);exact ⟨rfl, ⟨some ⟨b, o, none⟩, 0, Hp.out.set_ 0 _, SL.nil_, Nat.le_refl _, by omega, hrB, fun b' o' e => by cases e; exact ⟨hbr, hbB, bcs, Hbk.out.r2 hf1 hbr hbr⟩, Hxl.out⟩, hf1⟩
 go_enter Tryz.func150, Tryz.ntmps150
 go_wp2_with fail
 go_ret
 have hf1 := (R2.refl r r w).setCell (p := ⟨r, 0, none⟩) (.inl rfl) (.slice (some ⟨b, o + 1, none⟩) l.length (c - 1));exact ⟨rfl, ⟨some ⟨b, o + 1, none⟩, c - 1, Hp.out.set_ 0 _, Hs.out.tail2.far2 hbr _, by omega, by omega, hrB, fun b' o' e => by cases e; exact ⟨hbr, hbB, bcs, Hbk.out.r2 hf1 hbr hbr⟩, Hxl.out⟩, hf1⟩
theorem gnext_none (r B : Nat) (w : World) (h : RG w r B [] 0) :
  Calls Tryz.prog 150 #[.pointer (some ⟨r, 0, none⟩)] w fun e w' => e = .returned (.int .u8 0) ∧ RG w' r B [] 3 ∧ R2 r r w w' := by
 have HF := q9 (fail_any r B [] 3 w h);obtain ⟨A, c, hp, _⟩ := h;have hc0 : w.cell? ⟨r, 0, none⟩ = some (.slice A 0 c) := hp.cell 0;clear hp;go_enter Tryz.func150, Tryz.ntmps150
 go_wp2_with fail
 refine HF.out.mono ?_;rintro e w1 ⟨rfl, hR, hF⟩;obtain ⟨A', c', hp', _⟩ := id hR;have hc1 : w1.cell? ⟨r, 1, none⟩ = some (.int .i64 3) := hp'.cell 1;have HR := q9 hR;have HFf := q9 hF;clear hp' hR hF hc0;go_wp2_with fail
 go_ret
 exact ⟨rfl, HR.out, HFf.out⟩
theorem failN_any (r B : Nat) (l : List Nat) (e x : Int) (w : World) (h : RG w r B l e) (he : e ≠ 0) :
  Calls Tryz.prog 151 #[.pointer (some ⟨r, 0, none⟩), .int .i64 x] w fun f w' => f = .returned (.tuple #[]) ∧ w = w' := by
 obtain ⟨A, c, hp, _⟩ := h;have hc1 : w.cell? ⟨r, 1, none⟩ = some (.int .i64 e) := hp.cell 1;have he1 : (e == 0) = false := by simp [he]
 clear hp he;go_enter Tryz.func151, Tryz.ntmps151
 go_wp2_with fail
 go_end0
 exact ⟨rfl, rfl⟩
theorem zagG (z : Nat) (hz : z < 18446744073709551616) : bits .xor .i64 ((z : Int) / 2) (wrap64 (-wrap64 (bits .and .u64 (z : Int) 1))) = unzz z := by
 rw [Lib.u64_and1 (z : Int) (by omega) (by omega)];have e2 : ((z : Int) / 2) = ((z / 2 : Nat) : Int) := by omega
 rw [e2];by_cases h : z % 2 = 1
 ·have e1 : (z : Int) % 2 = 1 := by omega
  rw [e1, unzz, if_pos h];have hc : bits .xor .i64 ((z / 2 : Nat) : Int) (wrap64 (-wrap64 1)) = bits .xor .i64 (-1) ((z / 2 : Nat) : Int) := by
   show IntKind.i64.wrap ((BitVec.ofInt 64 ((z / 2 : Nat) : Int) ^^^ BitVec.ofInt 64 (wrap64 (-wrap64 1))).toNat : Int) = IntKind.i64.wrap ((BitVec.ofInt 64 (-1) ^^^ BitVec.ofInt 64 ((z / 2 : Nat) : Int)).toNat : Int);rw [BitVec.xor_comm, show wrap64 (-wrap64 1) = -1 by decide +kernel]
  rw [hc, Lib.i64_not _ (by omega)]
 have e1 : (z : Int) % 2 = 0 := by omega
 rw [e1, unzz, if_neg h];show IntKind.i64.wrap ((BitVec.ofInt 64 ((z / 2 : Nat) : Int) ^^^ BitVec.ofInt 64 (wrap64 (-wrap64 0))).toNat : Int) = _;rw [show BitVec.ofInt 64 (wrap64 (-wrap64 0)) = 0#64 by decide +kernel, BitVec.xor_zero, BitVec.ofInt_natCast, BitVec.toNat_ofNat, Nat.mod_eq_of_lt (by omega)];exact IntWalk.i64_in _ (by omega)
theorem unzz_i64 {z : Nat} (h : z < 18446744073709551616) : -9223372036854775808 ≤ unzz z ∧ unzz z ≤ 9223372036854775807 := by unfold unzz; split <;> omega
theorem unzigG_any (z : Nat) (w : World) (hz : z < 18446744073709551616) :
  Calls Tryz.prog 99 #[.int .u64 z] w fun e w' => e = .returned (.int .i64 (unzz z)) ∧ w = w' := by
 have hb := q9 (zagG _ hz);go_enter Tryz.func99, Tryz.ntmps99
 go_wp2_with fail
 go_ret
 exact ⟨ret_int hb.out, rfl⟩
theorem low7G (c : Nat) (hc : c < 256) : bits .andNot .u8 (c : Int) 128 = ((c % 128 : Nat) : Int) := by
 have h := u8_andNot_nat c 128 hc (by decide);refine h.trans ?_;rw [show 255 - 128 = 127 from rfl, Nat.and_two_pow_sub_one_eq_mod c 7]
theorem or_stepG {acc c k : Nat} (hc : c < 256) (ha : acc < 128 ^ k) (hn : acc + c % 128 * 128 ^ k < 18446744073709551616) :
  bits .or .u64 (acc : Int) (IntKind.u64.wrap (IntKind.u64.wrap (bits .andNot .u8 (c : Int) 128) * 2 ^ (7 * k))) = ((acc + c % 128 * 128 ^ k : Nat) : Int) := by
 have h7 : (2 : Nat) ^ (7 * k) = 128 ^ k := by rw [Nat.pow_mul]
 have e : IntKind.u64.wrap (IntKind.u64.wrap (bits .andNot .u8 (c : Int) 128) * 2 ^ (7 * k)) = ((c % 128 * 128 ^ k : Nat) : Int) := by
  have e1 : IntKind.u64.wrap ((c % 128 : Nat) : Int) = ((c % 128 : Nat) : Int) := by rw [IntKind.wrap_u64]; omega
  have e2 : (2 : Int) ^ (7 * k) = ((128 ^ k : Nat) : Int) := by rw [← h7]; simp
  rw [low7G c hc, e1, e2, IntKind.wrap_u64, ← Int.natCast_mul];omega
 rw [e, u64_or_nat _ _ (by omega) (by omega), Nat.or_comm, nat_join (7 * k), Nat.add_comm]
 ·rw [h7]; exact Nat.mul_mod_left _ _
 rw [h7]; exact ha
def uRo : Option (Nat × List Nat) → Nat × Option (List Nat)
 | none => (0, none)
 | some q => (q.1, some q.2)
def uR : Option (List Nat) → Nat × Option (List Nat)
 | none => (0, none)
 | some l => uRo (rdU 0 0 l)
theorem rdU_lt : ∀ (l : List Nat) (i acc n : Nat) (t : List Nat), (∀ x ∈ l, x < 256) → i ≤ 9 → acc < 128 ^ i → rdU i acc l = some (n, t) → n < 18446744073709551616
 | [], i, acc, n, t, _, _, _, h => by cases h
 | c :: l, i, acc, n, t, hx, hi, ha, h => by
  unfold rdU at h;have hc := hx c (by simp);have hp : 128 ^ i ≤ 128 ^ 9 := Nat.pow_le_pow_right (by decide) hi;split at h
  ·cases h
  rename_i h1;split at h
  ·rename_i h2;injection h with h;injection h with h _;rw [← h];by_cases h9 : i = 9
   ·subst h9; have : c ≤ 1 := by omega
    have := Nat.mul_le_mul_right (128 ^ 9) this;omega
   have hp8 : 128 ^ i ≤ 128 ^ 8 := Nat.pow_le_pow_right (by decide) (by omega);have h3 : c * 128 ^ i ≤ 127 * 128 ^ 8 := Nat.mul_le_mul (by omega) hp8;omega
  rename_i h2;refine rdU_lt l (i + 1) _ n t (fun x hx' => hx x (List.mem_cons_of_mem _ hx')) (by omega) ?_ h;have h3 : (c - 128) * 128 ^ i ≤ 127 * 128 ^ i := Nat.mul_le_mul_right _ (by omega);rw [Nat.pow_succ];omega
theorem uR_lt {w : World} {r B : Nat} {s : Option (List Nat)} (h : RQ w r B s) : (uR s).1 < 18446744073709551616 := by
 cases s with
 | none => decide
 | some l =>
  obtain ⟨_, _, _, _, _, _, _, _, hx⟩ := h;show (uRo (rdU 0 0 l)).1 < _;cases e : rdU 0 0 l with
  | none => decide
  | some q => obtain ⟨n, t⟩ := q; exact rdU_lt l 0 0 n t hx (by omega) (by decide) e
theorem gUint_err (r B : Nat) (w : World) (h : RQ w r B none) :
  Calls Tryz.prog 81 #[.pointer (some ⟨r, 0, none⟩)] w fun e w' => e = .returned (.int .u64 0) ∧ RQ w' r B none ∧ R2 r r w w' := by
 have H := q9 h;obtain ⟨l, e, he, A, c, hp, _⟩ := h;have hc1 : w.cell? ⟨r, 1, none⟩ = some (.int .i64 e) := hp.cell 1;have he1 : (e == 0) = false := by simp [he]
 clear hp he;go_enter Tryz.func81, Tryz.ntmps81
 go_wp2_with fail
 go_loopw [3, 4] (fun s i wr => i = .int .i64 0 ∧ s = .int .u64 0 ∧ wr = w) (fun _ i _ => 0)
 case atStart => exact ⟨rfl, rfl, rfl⟩
 case round =>
  obtain ⟨rfl, rfl, rfl⟩ := hrel;go_wp2_with fail
  go_ret
  exact ⟨rfl, H.out, R2.refl _ _ _⟩
theorem gUint_ok (r B : Nat) (l0 : List Nat) (w : World) (h : RG w r B l0 0) :
  Calls Tryz.prog 81 #[.pointer (some ⟨r, 0, none⟩)] w fun e w' => e = .returned (.int .u64 ((uR (some l0)).1 : Nat)) ∧ RQ w' r B (uR (some l0)).2 ∧ R2 r r w w' := by
 have H := q9 h;obtain ⟨U, hU⟩ : ∃ U, Hid (rdU 0 0 l0 = U) := ⟨_, q9 rfl⟩;have HV := q9 (show uR (some l0) = uRo U from by rw [← hU.out]; rfl);clear h;go_enter Tryz.func81, Tryz.ntmps81
 go_wp2_with fail
 go_loopw [3, 4] (fun s i wr => ∃ (k : Nat) (acc : Int) (l : List Nat) (e : Int), i = .int .i64 k ∧ s = .int .u64 acc ∧ k ≤ 10 ∧ Hid (RG wr r B l e) ∧ Hid (R2 r r w wr) ∧ ((e = 0 ∧ k ≤ 9 ∧ ∃ a : Nat, acc = (a : Int) ∧ a < 128 ^ k ∧ Hid (rdU k a l = U)) ∨ (e ≠ 0 ∧ Hid (U = none)))) (fun _ i _ => 11 - (intOf i).toNat)
 case atStart => exact ⟨0, 0, l0, 0, rfl, rfl, by omega, H, q9 (R2.refl _ _ _), .inl ⟨rfl, by omega, 0, rfl, by decide, hU⟩⟩
 case round =>
  clear H hU;obtain ⟨k, acc, l, e, rfl, rfl, hk10, HR, HF, hcase⟩ := hrel;rcases hcase with ⟨rfl, hk, a, rfl, hacc, hv⟩ | ⟨he, hv⟩
  ·obtain ⟨A, cc, hp, _⟩ := id HR.out;have hc1 : wr.cell? ⟨r, 1, none⟩ = some (.int .i64 0) := hp.cell 1;clear hp;cases l with
   | nil =>
    have hn := q9 (show U = none from hv.out.symm);go_wp2_with fail
    refine (gnext_none r B wr HR.out).mono ?_;rintro e w2 ⟨rfl, hR2, hF2⟩;obtain ⟨A2, cc2, hp2, _⟩ := id hR2;have hc2 : w2.cell? ⟨r, 1, none⟩ = some (.int .i64 3) := hp2.cell 1;have HF2 := q9 (HF.out.trans hF2);have HR2 := q9 hR2;clear hR2 hF2 hp2 HR HF hc1 hv;by_cases hk0 : k = 0
    ·subst hk0;go_wp2_with fail
     go_roundw
     case rel => exact ⟨1, _, [], 3, by go_num, rfl, by omega, HR2, HF2, .inr ⟨by decide, hn⟩⟩
     case measure => simp [intOf]
    by_cases hk9 : k = 9
    ·subst hk9;go_wp2_with fail
     refine (failN_any r B [] 3 2 w2 HR2.out (by decide)).mono ?_;rintro e w3 ⟨rfl, rfl⟩;go_wp2_with fail
     go_roundw
     case rel => exact ⟨10, _, [], 3, by go_num, rfl, by omega, HR2, HF2, .inr ⟨by decide, hn⟩⟩
     case measure => simp [intOf]
    go_wp2_with fail
    refine (failN_any r B [] 3 2 w2 HR2.out (by decide)).mono ?_;rintro e w3 ⟨rfl, rfl⟩;go_wp2_with fail
    go_roundw
    case rel => exact ⟨k + 1, _, [], 3, by go_num, rfl, by omega, HR2, HF2, .inr ⟨by decide, hn⟩⟩
    case measure => simp [intOf]; omega
   | cons c l =>
    have hc : c < 256 := by obtain ⟨_, _, _, _, _, _, _, _, hx⟩ := HR.out; exact hx c (by simp)
    go_wp2_with fail
    refine (gnext_any r B c l wr HR.out).mono ?_;rintro e w2 ⟨rfl, hR2, hF2⟩;obtain ⟨A2, cc2, hp2, _⟩ := id hR2;have hc2 : w2.cell? ⟨r, 1, none⟩ = some (.int .i64 0) := hp2.cell 1;have HF2 := q9 (HF.out.trans hF2);have HR2 := q9 hR2;clear hR2 hF2 hp2 HR HF hc1;by_cases hB : (k = 9 ∧ 1 < c) ∨ (0 < k ∧ c = 0)
    ·have hbad := q9 (show U = none from by rw [← hv.out, rdU, if_pos hB]);clear hv;by_cases hk9 : k = 9
     ·subst hk9;by_cases hc0 : c = 0
      ·subst hc0;clear hB;go_wp2_with fail
       refine (fail_any r B l 2 w2 HR2.out).mono ?_;rintro e w3 ⟨rfl, hR3, hF3⟩;obtain ⟨A3, cc3, hp3, _⟩ := id hR3;have hc3 : w3.cell? ⟨r, 1, none⟩ = some (.int .i64 2) := hp3.cell 1;have HF3 := q9 (HF2.out.trans hF3);have HR3 := q9 hR3;clear hR3 hF3 hp3 HR2 HF2 hc2;go_wp2_with fail
       go_roundw
       case rel => exact ⟨10, _, l, 2, by go_num, rfl, by omega, HR3, HF3, .inr ⟨by decide, hbad⟩⟩
       case measure => simp [intOf]
      have hc1' : 1 < c := by omega
      clear hB;by_cases hc128 : c < 128
      ·go_wp2_with fail
       refine (fail_any r B l 2 w2 HR2.out).mono ?_;rintro e w3 ⟨rfl, hR3, hF3⟩;obtain ⟨A3, cc3, hp3, _⟩ := id hR3;have hc3 : w3.cell? ⟨r, 1, none⟩ = some (.int .i64 2) := hp3.cell 1;have HF3 := q9 (HF2.out.trans hF3);have HR3 := q9 hR3;clear hR3 hF3 hp3 HR2 HF2 hc2;go_wp2_with fail
       go_roundw
       case rel => exact ⟨10, _, l, 2, by go_num, rfl, by omega, HR3, HF3, .inr ⟨by decide, hbad⟩⟩
       case measure => simp [intOf]
      go_wp2_with fail
      refine (fail_any r B l 2 w2 HR2.out).mono ?_;rintro e w3 ⟨rfl, hR3, hF3⟩;obtain ⟨A3, cc3, hp3, _⟩ := id hR3;have hc3 : w3.cell? ⟨r, 1, none⟩ = some (.int .i64 2) := hp3.cell 1;have HF3 := q9 (HF2.out.trans hF3);have HR3 := q9 hR3;clear hR3 hF3 hp3 HR2 HF2 hc2;go_wp2_with fail
      go_roundw
      case rel => exact ⟨10, _, l, 2, by go_num, rfl, by omega, HR3, HF3, .inr ⟨by decide, hbad⟩⟩
      case measure => simp [intOf]
     have hk0 : 0 < k := by omega
     have hc0 : c = 0 := by omega
     subst hc0;clear hB;go_wp2_with fail
     refine (fail_any r B l 2 w2 HR2.out).mono ?_;rintro e w3 ⟨rfl, hR3, hF3⟩;obtain ⟨A3, cc3, hp3, _⟩ := id hR3;have hc3 : w3.cell? ⟨r, 1, none⟩ = some (.int .i64 2) := hp3.cell 1;have HF3 := q9 (HF2.out.trans hF3);have HR3 := q9 hR3;clear hR3 hF3 hp3 HR2 HF2 hc2;go_wp2_with fail
     go_roundw
     case rel => exact ⟨k + 1, _, l, 2, by go_num, rfl, by omega, HR3, HF3, .inr ⟨by decide, hbad⟩⟩
     case measure => simp [intOf]; omega
    have hv2 := hv.out;rw [rdU, if_neg hB] at hv2;have hsum : a + c % 128 * 128 ^ k < 18446744073709551616 := by
     by_cases h9 : k = 9
     ·subst h9;have : c ≤ 1 := by omega
      have h3 : c % 128 * 128 ^ 9 ≤ 1 * 128 ^ 9 := Nat.mul_le_mul_right _ (by omega);omega
     have hp8 : 128 ^ k ≤ 128 ^ 8 := Nat.pow_le_pow_right (by decide) (by omega);have h3 : c % 128 * 128 ^ k ≤ 127 * 128 ^ 8 := Nat.mul_le_mul (by omega) hp8;omega
    have hor := q9 (or_stepG hc hacc hsum);clear hsum hv;by_cases hc128 : c < 128
    ·rw [if_pos hc128] at hv2;subst hv2;have hm : c % 128 = c := Nat.mod_eq_of_lt hc128;rw [hm] at hor;have HV1 := q9 (show (uR (some l0)).1 = a + c * 128 ^ k from by rw [HV.out]; rfl);have HV2 := q9 (show (uR (some l0)).2 = some l from by rw [HV.out]; rfl);have HRF := q9 (show RQ w2 r B (uR (some l0)).2 from by rw [HV2.out]; exact HR2.out);clear HR2 HV HV2 hm;by_cases hk9 : k = 9
     ·subst hk9;have hc1' : c = 1 := by omega
      subst hc1';clear hB;go_wp2_with fail
      go_ret
      exact ⟨ret_int (hor.out.trans (congrArg Nat.cast HV1.out.symm)), HRF.out, HF2.out⟩
     by_cases hk0 : k = 0
     ·subst hk0;clear hB;go_wp2_with fail
      go_ret
      refine ⟨ret_int (Eq.trans ?_ (hor.out.trans (congrArg Nat.cast HV1.out.symm))), HRF.out, HF2.out⟩;rw [show (2 : Int) ^ (7 * 0) = 1 from rfl, Int.mul_one]
     have hc0 : 0 < c := by omega
     clear hB;go_wp2_with fail
     go_ret
     exact ⟨ret_int (hor.out.trans (congrArg Nat.cast HV1.out.symm)), HRF.out, HF2.out⟩
    rw [if_neg hc128] at hv2;have hm : c - 128 = c % 128 := by omega
    have hk8 : k < 9 := by omega
    have hc1' : 128 ≤ c := by omega
    rw [hm] at hv2;have Hv2 := q9 hv2;have hlt : a + c % 128 * 128 ^ k < 128 ^ (k + 1) := by
     have h1 : c % 128 * 128 ^ k ≤ 127 * 128 ^ k := Nat.mul_le_mul_right _ (by omega);rw [Nat.pow_succ];omega
    clear hv2 hm hB hc128;by_cases hk0 : k = 0
    ·subst hk0;go_wp2_with fail
     go_roundw
     case rel =>
      refine ⟨1, _, l, 0, by go_num, rfl, by omega, HR2, HF2, .inl ⟨rfl, by omega, a + c % 128 * 128 ^ 0, ?_, hlt, Hv2⟩⟩;have h := hor.out;rw [show (2 : Int) ^ (7 * 0) = 1 from rfl, Int.mul_one] at h;exact h
     case measure => simp [intOf]
    go_wp2_with fail
    go_roundw
    case rel => exact ⟨k + 1, _, l, 0, by go_num, rfl, by omega, HR2, HF2, .inl ⟨rfl, by omega, a + c % 128 * 128 ^ k, hor.out, hlt, Hv2⟩⟩
    case measure => simp [intOf]; omega
  obtain ⟨A, cc, hp, _⟩ := id HR.out;have hc1 : wr.cell? ⟨r, 1, none⟩ = some (.int .i64 e) := hp.cell 1;have he1 : (e == 0) = false := by simp [he]
  have HV1 := q9 (show (uR (some l0)).1 = 0 from by rw [HV.out, hv.out]; rfl);have HRF := q9 (show RQ wr r B (uR (some l0)).2 from by rw [HV.out, hv.out]; exact ⟨l, e, he, HR.out⟩);clear hp he HV hv;go_wp2_with fail
  go_ret
  exact ⟨ret_int (by rw [HV1.out]; rfl), HRF.out, HF.out⟩
theorem gUint_any (r B : Nat) (s : Option (List Nat)) (w : World) (h : RQ w r B s) :
  Calls Tryz.prog 81 #[.pointer (some ⟨r, 0, none⟩)] w fun e w' => e = .returned (.int .u64 ((uR s).1 : Nat)) ∧ RQ w' r B (uR s).2 ∧ R2 r r w w' := by
 cases s with
 | none => exact gUint_err r B w h
 | some l => exact gUint_ok r B l w h
def iR (s : Option (List Nat)) : Int × Option (List Nat) := (unzz (uR s).1, (uR s).2)
theorem iR_i64 {w : World} {r B : Nat} {s : Option (List Nat)} (h : RQ w r B s) : -9223372036854775808 ≤ (iR s).1 ∧ (iR s).1 ≤ 9223372036854775807 := unzz_i64 (uR_lt h)
theorem gInt_any (r B : Nat) (s : Option (List Nat)) (w : World) (h : RQ w r B s) :
  Calls Tryz.prog 31 #[.pointer (some ⟨r, 0, none⟩)] w fun e w' => e = .returned (.int .i64 (iR s).1) ∧ RQ w' r B (iR s).2 ∧ R2 r r w w' := by
 have HU := q9 (gUint_any r B s w h);have hlt := uR_lt h;have HI := q9 (show (iR s).1 = unzz (uR s).1 from rfl);have HI2 := q9 (show (iR s).2 = (uR s).2 from rfl);generalize (iR s).1 = I at *;generalize (iR s).2 = I2 at *;generalize (uR s).1 = z at *;generalize (uR s).2 = z2 at *;clear h;go_enter Tryz.func31, Tryz.ntmps31
 go_wp2_with fail
 refine HU.out.mono ?_;rintro e w1 ⟨rfl, hR, hF⟩;have HR := q9 hR;have HF := q9 hF;clear hR hF;go_wp2_with fail
 refine (unzigG_any z w1 hlt).mono ?_;rintro e w2 ⟨rfl, rfl⟩;obtain ⟨J, hJ⟩ : ∃ J, Hid (unzz z = J) := ⟨_, q9 rfl⟩;rw [hJ.out] at HI ⊢;go_wp2_with fail
 go_ret
 exact ⟨ret_int HI.out.symm, by rw [HI2.out]; exact HR.out, HF.out⟩
theorem gEnd_any (r B : Nat) (s : Option (List Nat)) (w : World) (h : RQ w r B s) :
  Calls Tryz.prog 96 #[.pointer (some ⟨r, 0, none⟩)] w fun e w' => ∃ x : Int, e = .returned (.int .i64 x) ∧ (x = 0 ↔ s = some []) ∧ w = w' := by
 cases s with
 | none =>
  obtain ⟨l, e, he, A, c, hp, _⟩ := h;have hc1 : w.cell? ⟨r, 1, none⟩ = some (.int .i64 e) := hp.cell 1;have he1 : (e == 0) = false := by simp [he]
  have He := q9 he;clear hp he;go_enter Tryz.func96, Tryz.ntmps96
  go_wp2_with fail
  go_ret
  exact ⟨e, rfl, ⟨fun h => absurd h He.out, fun h => by cases h⟩, rfl⟩
 | some l =>
  obtain ⟨A, c, hp, _⟩ := h;have hc0 : w.cell? ⟨r, 0, none⟩ = some (.slice A l.length c) := hp.cell 0;have hc1 : w.cell? ⟨r, 1, none⟩ = some (.int .i64 0) := hp.cell 1;clear hp;cases l with
  | nil =>
   go_enter Tryz.func96, Tryz.ntmps96
   go_wp2_with fail
   go_ret
   exact ⟨0, rfl, by simp, rfl⟩
  | cons x l =>
   simp only [List.length_cons] at hc0;have h0 : 0 < l.length + 1 := by omega
   go_enter Tryz.func96, Tryz.ntmps96
   go_wp2_with fail
   go_ret
   exact ⟨2, rfl, by simp, rfl⟩
theorem RG.put {w w' : World} {r R B : Nat} {l : List Nat} {e : Int} (h : RG w r B l e) (hf : R2 R R w w') (t : TypeId) (hR : ∃ cs, Bk w R t cs) (ht : t ≠ 5) (hne : r ≠ R) : RG w' r B l e := by
 obtain ⟨A, c, hp, hS, hc, hcm, hrB, hn, hx⟩ := h;obtain ⟨cs, hR⟩ := hR;have hk : ∀ b o, A = some ⟨b, o, none⟩ → b ≠ R := fun b o e => by obtain ⟨_, _, bs, hb⟩ := hn b o e; exact hb.ne_ hR (Ne.symm ht)
 refine ⟨A, c, hp.r2 hf hne hne, fun j u hu => ?_, hc, hcm, hrB, fun b o e => ?_, hx⟩
 ·obtain ⟨b, o, rfl, hlt, hcell⟩ := hS j u hu;have h1 := hk b o rfl;refine ⟨b, o, rfl, Nat.lt_of_lt_of_le hlt hf.size, ?_⟩;rw [← hcell];unfold World.cell?;rw [hf.block b hlt h1 h1]
 obtain ⟨h1, h2, bs, h3⟩ := hn b o e;exact ⟨h1, h2, bs, h3.r2 hf (hk b o e) (hk b o e)⟩
theorem RQ.put {w w' : World} {r R B : Nat} {s : Option (List Nat)} (h : RQ w r B s) (hf : R2 R R w w') (t : TypeId) (hR : ∃ cs, Bk w R t cs) (ht : t ≠ 5) (hne : r ≠ R) : RQ w' r B s := by
 cases s with
 | some l => exact RG.put h hf t hR ht hne
 | none => obtain ⟨l, e, he, h⟩ := h; exact ⟨l, e, he, h.put hf t hR ht hne⟩
theorem uR_vb {n : Nat} (h : n < 18446744073709551616) (t : List Nat) : uR (some (vb n ++ t)) = (n, some t) := by
 have := rd_vb n 0 0 t (by simpa using h) (by omega);show uRo (rdU 0 0 (vb n ++ t)) = _;rw [this];simp [uRo]
theorem iR_vb {n : Int} (h : -9223372036854775808 ≤ n ∧ n ≤ 9223372036854775807) (t : List Nat) : iR (some (vb (zz n) ++ t)) = (n, some t) := by
 unfold iR;rw [uR_vb (zz_lt h), unzz_zz]
end Go.Proofs.YtnapnkmehnabfaaGreat
