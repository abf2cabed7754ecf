import Derived.Test.YtnapnkmehnabfaaGreatGB
import Derived.Deep.Upon
import Derived.Deep.AppendSrc
import Derived.OpenShut
import Derived.Lib.Zigzag
import Derived.Laws.Bits64
import Derived.Laws.BitsAllLaws
import Derived.WalkLawsBesides
import Derived.Laws.Cover3
namespace Go.Proofs.YtnapnkmehnabfaaGreat
open Go.RowKit Go.Maps

theorem own_cap' {w : World} {base n c : Nat} {e : TypeId} {A : Option Addr} {xs : List Value} {size : Nat} (h : w.ownsRow base e size (.slice A n c) n xs) : n ≤ c := by
  rcases h.2 with ⟨he, h0⟩ | ⟨g, cap, cur, he, _, _, hc, _⟩
  · omega
  · injection he with _ _ e3
    omega
/-- append of a slice onto a slice of one's own. -/
theorem run_appM' {P : Program} {w : World} {base : Nat} {us xs : List Value} {e t ty : TypeId} {z : Value} {size bytes n m c : Nat} {v : Value} {B : Option Addr} (hE : Elt P t e z size bytes) (hown : w.ownsRow base e size v n xs) (hbs : base ≤ w.heap.size)
    (hB : SL w B us) (hl : us.length = m * size) (h1 : us.all (·.oneCell') = true) (hn : n + m < 1099511627776) :
    ∃ v' w', (Builtin.append_ #[t, t] ty #[v, .slice B m c]).run P w = .ok v' w' ∧ w'.ownsRow base e size v' (n + m) (xs ++ us) ∧ w.grownBy w' v.ownBlock := by
  obtain ⟨ht, hsz, hby, hzs, i, hi, hz, hs1, hb1⟩ := hE
  have hmul : (n + m) * bytes ≤ 140737488355328 := by
    have := Nat.mul_le_mul (show n + m ≤ 1099511627776 by omega) hby
    omega
  cases B with
  | some ad =>
    have hc : ∀ j u, us[j]? = some u → w.cell? (ad.add j) = some u := fun j u hu => by
      obtain ⟨b, o, e1, _, hcell⟩ := hB j u hu
      injection e1 with e1
      subst e1
      rw [← hcell]
      unfold Addr.add
      split
      · rename_i h; subst h; rfl
      · rfl
    obtain ⟨v', w', hr, h2, h3, _, _⟩ := run_append_own_at (P := P) w base t ty e i z size bytes ht hi hz hs1 hb1 hzs hsz v n xs hown ad m c us hl hc (all_one h1) (by unfold maxLen; omega) hmul hbs
    exact ⟨v', w', hr, h2, h3⟩
  | none =>
    have hm : m = 0 := by
      rcases Nat.eq_zero_or_pos m with h | h
      · exact h
      · have hlt : 0 < us.length := by rw [hl]; exact Nat.mul_pos h hsz
        obtain ⟨b, o, e1, _⟩ := hB 0 us[0] (List.getElem?_eq_getElem hlt)
        cases e1
    subst hm
    have hus : us = [] := List.eq_nil_of_length_eq_zero (by omega)
    subst hus
    obtain ⟨A, c', rfl⟩ := own_slice hown
    have hr := run_append_nothing (P := P) w t t ty e i ht hi A n c' (own_cap' hown) (.slice none 0 c) (Src.ofNil w ht c)
    exact ⟨_, w, hr, by simpa using hown, World.grownBy.refl _ _⟩
theorem wpList_appM' {P : Program} {ops : Array Oper} {rest : List Oper} {o : Oper} {a : Act} {Q : Exit → Act → World → Prop} {w : World} {base : Nat} {us xs : List Value} {e t : TypeId} {z : Value} {size bytes n m c : Nat} {v : Value} {B : Option Addr}
    (hgd : o.guard = none) (s x : Operand) (ho : o.op = .call { callee := .builtin .append, args := #[s, x], argTypes := #[t, t] }) (hE : Elt P t e z size bytes)
    (hown : w.ownsRow base e size v n xs) (hbs : base ≤ w.heap.size) (hs : a.eval s = v) (hx : a.eval x = .slice B m c)
    (hB : SL w B us) (hl : us.length = m * size) (h1 : us.all (·.oneCell') = true) (hn : n + m < 1099511627776)
    (h : ∀ v' w1, w1.ownsRow base e size v' (n + m) (xs ++ us) → w.grownBy w1 v.ownBlock → wpList P ops Q rest (a.put o.dst v') w1) : wpList P ops Q (o :: rest) a w := by
  refine wpList_plain hgd fun K hK => ?_
  obtain ⟨v', w1, hrun, h2, h3⟩ := run_appM' (P := P) (ty := o.type) hE hown hbs hB hl h1 hn
  unfold Oper.wp execOp
  simp only [ho, resolve, invoke, builtin, Sem.run_bind, Sem.run_pure, Result.andThen_ok, List.map_toArray, List.map_cons, List.map_nil, hs, hx]
  rw [hrun]
  exact hK _ _ (h v' w1 h2 h3)
/-- A word absorbed into a state, as the hash does it. -/
def mixB (s w : BitVec 64) : BitVec 64 := ((s ^^^ w) * 11400714819323198485#64) ^^^ (((s ^^^ w) * 11400714819323198485#64) >>> 32)
/-- The varint of a number. -/
def vb (n : Nat) : List Nat := if n < 128 then [n] else (n % 128 + 128) :: vb (n / 128)
termination_by n
decreasing_by omega
/-- The number that is read from some bytes, and the bytes that are left. -/
def rdU : Nat → Nat → List Nat → Option (Nat × List Nat)
  | _, _, [] => none
  | i, acc, c :: l => if (i = 9 ∧ 1 < c) ∨ (0 < i ∧ c = 0) then none else if c < 128 then some (acc + c * 128 ^ i, l) else rdU (i + 1) (acc + (c - 128) * 128 ^ i) l
theorem rd_vb (n : Nat) : ∀ (i acc : Nat) (l : List Nat), n * 128 ^ i < 18446744073709551616 → (0 < i → 0 < n) → rdU i acc (vb n ++ l) = some (acc + n * 128 ^ i, l) := by
  induction n using Nat.strongRecOn with
  | _ n ih =>
    intro i acc l hn hi
    have h9 : i = 9 → n ≤ 1 := fun e => by subst e; omega
    rw [vb]
    by_cases hs : n < 128
    · rw [if_pos hs]
      simp only [List.cons_append, List.nil_append, rdU]
      rw [if_neg (by omega), if_pos hs]
    · rw [if_neg hs]
      simp only [List.cons_append, rdU]
      rw [if_neg (by omega), if_neg (by omega)]
      have hd := Nat.div_add_mod n 128
      have e : (n / 128) * 128 ^ (i + 1) + (n % 128) * 128 ^ i = n * 128 ^ i := by
        rw [Nat.pow_succ]
        calc (n / 128) * (128 ^ i * 128) + (n % 128) * 128 ^ i = (128 * (n / 128) + n % 128) * 128 ^ i := by
              rw [Nat.add_mul, Nat.mul_comm 128 (n / 128), Nat.mul_assoc, Nat.mul_comm 128 (128 ^ i)]
          _ = n * 128 ^ i := by rw [hd]
      rw [ih (n / 128) (by omega) (i + 1) _ l (by omega) (fun _ => by omega)]
      rw [show n % 128 + 128 - 128 = n % 128 by omega]
      congr 2
      omega
theorem vb_bytes (n : Nat) : ∀ c ∈ vb n, c < 256 := by
  induction n using Nat.strongRecOn with
  | _ n ih =>
    intro c hc
    rw [vb] at hc
    split at hc
    · simp at hc; omega
    · rcases List.mem_cons.1 hc with rfl | hc
      · omega
      · exact ih (n / 128) (by omega) c hc
/-- Zigzag of an int of 64 bits, and back. -/
def zz (n : Int) : Nat := if n < 0 then (2 * (-(n + 1)) + 1).toNat else (2 * n).toNat
def unzz (z : Nat) : Int := if z % 2 = 1 then -((z / 2 : Nat) : Int) - 1 else ((z / 2 : Nat) : Int)
theorem unzz_zz (n : Int) : unzz (zz n) = n := by unfold zz unzz; split <;> split <;> omega
theorem zz_lt {n : Int} (h : -9223372036854775808 ≤ n ∧ n ≤ 9223372036854775807) : zz n < 18446744073709551616 := by unfold zz; split <;> omega
/-- Bytes as the model holds them. -/
def byV (l : List Nat) : List Value := l.map fun c : Nat => Value.int .u8 (c : Int)
theorem byV_append (a b : List Nat) : byV (a ++ b) = byV a ++ byV b := by simp [byV]
theorem elt_byte : Elt Tryz.prog 50 5 (.int .u8 0) 1 1 := Elt.mk' Tryz.underlying50 (by kernel_rfl) (by decide) (by decide) rfl
theorem vb_small {n : Nat} (h : n < 128) : vb n = [n] := by rw [vb, if_pos h]
theorem vb_big {n : Nat} (h : ¬ n < 128) : vb n = (n % 128 + 128) :: vb (n / 128) := by rw [vb, if_neg h]
theorem vb_len : ∀ (k n : Nat), n < 128 ^ (k + 1) → (vb n).length ≤ k + 1
  | 0, n, h => by rw [vb_small (by simpa using h)]; simp
  | k + 1, n, h => by
    by_cases hs : n < 128
    · rw [vb_small hs]; simp
    · rw [vb_big hs, List.length_cons]
      have : n / 128 < 128 ^ (k + 1) := by rw [Nat.pow_succ] at h; omega
      have := vb_len k _ this
      omega
theorem vb_ten {n : Nat} (h : n < 18446744073709551616) : (vb n).length ≤ 10 := vb_len 9 n (by omega)
set_option maxHeartbeats 1000000 in
set_option maxRecDepth 100000 in
theorem refUint_any (n : Nat) (w : World) (hn : n < 18446744073709551616) :
    Calls Tryz.prog 74 #[.int .u64 n] w fun e w' => ∃ v, e = .returned v ∧ w'.ownsRow w.heap.size 5 1 v (vb n).length (byV (vb n)) ∧ Below w.heap.size w w' := by
  go_enter Tryz.func74, Tryz.ntmps74
  go_wp2
  go_loopw [0, 3] (fun s v wr => ∃ (m : Nat) (d : List Nat), s = .int .u64 m ∧ m < 18446744073709551616 ∧ Hid (vb n = d ++ vb m) ∧ wr.ownsRow w.heap.size 5 1 v d.length (byV d) ∧ Below w.heap.size w wr) (fun s _ _ => (intOf s).toNat)
  case atStart => exact ⟨n, [], rfl, hn, Lib.hid rfl, World.ownsRow_nil _ _ _ _, Below.refl _ _⟩
  case round =>
    obtain ⟨m, d, rfl, hm, hv, hown, hb⟩ := hrel
    have hbs := hb.size
    have hd : d.length ≤ 10 := by
      have h1 := congrArg List.length hv.out
      have h2 := vb_ten hn
      rw [List.length_append] at h1
      omega
    by_cases hlt : m < 128
    · have hv2 : Hid (vb n = d ++ [m]) := by show _ = _; rw [hv.out, vb_small hlt]
      go_wp2_with (at_builtin; refine wpList_app2 (w := wr) rfl _ _ rfl elt_byte hown hbs rfl rfl (by simp) rfl rfl (by omega) ?_; intro v2 w2 hown2 hg2 hz2)
      go_ret
      exact ⟨v2, rfl, by rw [hv2.out, byV_append, List.length_append]; exact hown2, hb.grown hg2 hbs (fun k hk => (hown.lt k hk).1)⟩
    · have hge : 127 < m := by omega
      have hv2 : Hid (vb n = (d ++ [m % 128 + 128]) ++ vb (m / 128)) := by show _ = _; rw [hv.out, vb_big hlt]; simp
      have he : Hid (byV [m % 128 + 128] = [.int .u8 (128 + (m : Int) % 128)]) := by
        show _ = _
        simp only [byV, List.map_cons, List.map_nil]
        congr 2
        omega
      go_wp2_with (at_builtin; refine wpList_app2 (w := wr) rfl _ _ rfl elt_byte hown hbs rfl rfl (by simp) rfl rfl (by omega) ?_; intro v2 w2 hown2 hg2 hz2)
      go_roundw
      case rel => exact ⟨m / 128, d ++ [m % 128 + 128], by go_num, by omega, hv2, by rw [byV_append, he.out, List.length_append]; exact hown2, hb.grown hg2 hbs (fun k hk => (hown.lt k hk).1)⟩
      case measure => simp [intOf]; omega
set_option maxHeartbeats 1000000 in
theorem refZig_any (n : Int) (w : World) (hn : -9223372036854775808 ≤ n ∧ n ≤ 9223372036854775807) :
    Calls Tryz.prog 149 #[.int .i64 n] w fun e w' => e = .returned (.int .u64 (zz n)) ∧ w = w' := by
  obtain ⟨h1, h2⟩ := hn
  by_cases hs : n < 0
  · have hv : Hid (((zz n : Nat) : Int) = 2 * (-(n + 1)) + 1) := by show _ = _; rw [zz, if_pos hs]; omega
    have hp : 0 ≤ -(n + 1) := by omega
    go_enter Tryz.func149, Tryz.ntmps149
    go_wp2_with fail
    go_ret
    exact ⟨ret_int (by rw [hv.out]), rfl⟩
  · have hv : Hid (((zz n : Nat) : Int) = 2 * n) := by show _ = _; rw [zz, if_neg hs]; omega
    have hp : 0 ≤ n := by omega
    go_enter Tryz.func149, Tryz.ntmps149
    go_wp2_with fail
    go_ret
    exact ⟨ret_int (by rw [hv.out]), rfl⟩
theorem refInt_any (n : Int) (w : World) (hn : -9223372036854775808 ≤ n ∧ n ≤ 9223372036854775807) :
    Calls Tryz.prog 75 #[.int .i64 n] w fun e w' => ∃ v, e = .returned v ∧ w'.ownsRow w.heap.size 5 1 v (vb (zz n)).length (byV (vb (zz n))) ∧ Below w.heap.size w w' := by
  go_enter Tryz.func75, Tryz.ntmps75
  go_wp2_with fail
  refine (refZig_any n w hn).mono ?_
  rintro e w' ⟨rfl, rfl⟩
  go_wp2_with fail
  refine (refUint_any (zz n) w (zz_lt hn)).mono ?_
  rintro e w1 ⟨v, rfl, hown, hb⟩
  go_wp2_with fail
  go_ret
  exact ⟨v, rfl, hown, hb⟩
theorem zig_bits (n : Int) (h1 : -9223372036854775808 ≤ n) (h2 : n ≤ 9223372036854775807) :
    bits .xor .u64 (IntKind.u64.wrap (IntKind.u64.wrap n * 2)) (IntKind.u64.wrap (n / 9223372036854775808)) = ((zz n : Nat) : Int) := by
  by_cases hs : n < 0
  · have e1 : IntKind.u64.wrap (IntKind.u64.wrap n * 2) = (((2 * n + 18446744073709551616).toNat : Nat) : Int) := by
      rw [IntKind.wrap_u64, IntKind.wrap_u64]; omega
    have e2 : IntKind.u64.wrap (n / 9223372036854775808) = ((18446744073709551615 : Nat) : Int) := by
      rw [IntKind.wrap_u64]; omega
    have e3 : (2 * n + 18446744073709551616).toNat ^^^ 18446744073709551615 = 18446744073709551615 - (2 * n + 18446744073709551616).toNat := by
      rw [Nat.xor_comm]
      exact Lib.xor_ones64 _ (by omega)
    rw [e1, e2, bits_xor_u64_nat _ _ (by omega) (by omega), e3, zz, if_pos hs]
    omega
  · have e1 : IntKind.u64.wrap (IntKind.u64.wrap n * 2) = (((2 * n).toNat : Nat) : Int) := by
      rw [IntKind.wrap_u64, IntKind.wrap_u64]; omega
    have e2 : IntKind.u64.wrap (n / 9223372036854775808) = ((0 : Nat) : Int) := by
      rw [IntKind.wrap_u64]; omega
    rw [e1, e2, bits_xor_u64_nat _ _ (by omega) (by omega), Nat.xor_zero, zz, if_neg hs]
set_option maxHeartbeats 1000000 in
set_option maxRecDepth 100000 in
theorem zig_any (n : Int) (w : World) (hn : -9223372036854775808 ≤ n ∧ n ≤ 9223372036854775807) :
    Calls Tryz.prog 169 #[.int .i64 n] w fun e w' => e = .returned (.int .u64 (zz n)) ∧ w = w' := by
  obtain ⟨h1, h2⟩ := hn
  have hz := Lib.hid (zig_bits n h1 h2)
  go_enter Tryz.func169, Tryz.ntmps169
  go_wp2_with fail
  go_ret
  exact ⟨ret_int hz.out, rfl⟩
theorem or_more (m : Nat) : bits .or .u8 ((m % 256 : Nat) : Int) 128 = ((m % 128 + 128 : Nat) : Int) := by
  have h : ∀ x : Fin 256, x.val ||| 128 = x.val % 128 + 128 := by decide +kernel
  have h1 := h ⟨m % 256, by omega⟩
  have h2 := u8_or_nat (m % 256) 128 (by omega) (by omega)
  dsimp only at h1
  rw [h1] at h2
  exact h2.trans (by omega)
theorem u8_low (m : Nat) : IntKind.u8.wrap (m : Int) = ((m % 256 : Nat) : Int) := by
  simp [IntKind.wrap, IntKind.bits, IntKind.signed]
/-- What a writer holds. -/
structure WR (w : World) (base p : Nat) (v : Value) (d : List Nat) : Prop where
  hp : Bk w p 104 #[v]
  own : w.ownsRow base 5 1 v d.length (byV d)
  bp : base ≤ p
/-- The bytes of ints one after the other. -/
def vbs (l : List Int) : List Nat := l.flatMap fun n => vb (zz n)
theorem vbs_snoc (l : List Int) (x : Int) : vbs (l ++ [x]) = vbs l ++ vb (zz x) := by simp [vbs]
theorem vbs_len : ∀ l : List Int, W64 l → (vbs l).length ≤ 10 * l.length
  | [], _ => by simp [vbs]
  | x :: l, h => by
    have h1 := vb_ten (zz_lt (h x (by simp)))
    have h2 := vbs_len l (fun z hz => h z (by simp [hz]))
    have e : vbs (x :: l) = vb (zz x) ++ vbs l := rfl
    rw [e, List.length_append, List.length_cons]
    omega
theorem byV_len (l : List Nat) : (byV l).length = l.length := by simp [byV]
theorem byV_all (l : List Nat) : (byV l).all (·.oneCell') = true := by
  rw [List.all_eq_true]
  intro x hx
  obtain ⟨c, _, rfl⟩ := List.mem_map.1 hx
  rfl
theorem eql_nil (a : Option Addr) (l c : Nat) (W : World) : (binOp .eql 50 (.slice a l c) (.slice none 0 0)).run Tryz.prog W = .ok (.bool a.isNone) W := by
  simp only [binOp]
  simp [run_equal_slice_nil W 50 5 a l c Tryz.underlying50]
set_option maxHeartbeats 1000000 in
set_option maxRecDepth 100000 in
theorem clone_any (A : Option Addr) (c : Nat) (l : List Nat) (w : World) (hA : SL w A (byV l)) (hl : l.length ≤ 1000000000) :
    Calls Tryz.prog 98 #[.slice A l.length c] w fun e w' => ∃ v, e = .returned v ∧ w'.ownsRow w.heap.size 5 1 v l.length (byV l) ∧ Below w.heap.size w w' := by
  cases A with
  | none =>
    have hl0 : l = [] := by
      cases l with
      | nil => rfl
      | cons x l =>
        obtain ⟨b, o, e, _⟩ := hA 0 _ rfl
        cases e
    subst hl0
    have hu := fun W => eql_nil none 0 c W
    go_enter Tryz.func98, Tryz.ntmps98
    go_wp2_with fail
    go_ret
    exact ⟨_, rfl, World.ownsRow_nil _ _ _ _, Below.refl _ _⟩
  | some a =>
    have Hv := Lib.hid (own_void8 (base := w.heap.size) (size := 1) (Bk.new w 5 #[]) (Nat.le_refl _))
    have Hx := Lib.hid ((Below.refl w.heap.size w).alloc (Nat.le_refl _) (.cells #[] 5))
    have hsz : w.heap.size ≤ (w.alloc (.cells #[] 5)).heap.size := by simp
    have Ha := Lib.hid (SL.below hA Hx.out)
    have hu := fun W => eql_nil (some a) l.length c W
    go_enter Tryz.func98, Tryz.ntmps98
    go_wp2_with (at_builtin; refine wpList_appM' (w := w.alloc (.cells #[] 5)) rfl _ _ rfl elt_byte Hv.out hsz rfl rfl Ha.out (by rw [byV_len]; simp) (byV_all l) (by omega) ?_; intro v2 W2 hown2 hg2)
    go_ret
    exact ⟨v2, rfl, by simpa using hown2, Hx.out.grown hg2 hsz (fun k hk => by simp [Value.ownBlock] at hk; omega)⟩
theorem wDone_any (base p : Nat) (v : Value) (d : List Nat) (w : World) (h : WR w base p v d) (hd : d.length ≤ 1000000000) :
    Calls Tryz.prog 67 #[.pointer (some ⟨p, 0, none⟩)] w fun e w' => ∃ v', e = .returned v' ∧ w'.ownsRow w.heap.size 5 1 v' d.length (byV d) ∧ Below w.heap.size w w' := by
  obtain ⟨hp, hown, hbp⟩ := h
  obtain ⟨A, c, rfl⟩ := own_slice hown
  have hc : w.cell? ⟨p, 0, none⟩ = some (.slice A d.length c) := hp.cell 0
  have Hs := Lib.hid (SL.of_own hown)
  clear hp hown
  go_enter Tryz.func67, Tryz.ntmps67
  go_wp2_with fail
  refine (clone_any A c d w Hs.out hd).mono ?_
  rintro e w1 ⟨v', rfl, hown', hb⟩
  go_wp2_with fail
  go_ret
  exact ⟨v', rfl, hown', hb⟩
theorem SL.byte {w : World} {A : Option Addr} {l : List Nat} {k : Nat} (h : SL w A (byV l)) (hk : k < l.length) : ∃ b o, A = some ⟨b, o, none⟩ ∧ w.cell? ⟨b, o + k, none⟩ = some (.int .u8 (l[k] : Nat)) := by
  obtain ⟨b, o, e, _, hc⟩ := h k (.int .u8 (l[k] : Nat)) (by simp [byV, hk])
  exact ⟨b, o, e, hc⟩
set_option maxHeartbeats 800000 in
set_option maxRecDepth 100000 in
theorem sameBytes_any (A B : Option Addr) (c d : Nat) (xs : List Nat) (w : World) (hA : SL w A (byV xs)) (hB : SL w B (byV xs)) (hl : xs.length ≤ 4611686018427387904) :
    Calls Tryz.prog 29 #[.slice A xs.length c, .slice B xs.length d] w fun e w' => e = .returned (.bool true) ∧ Qt w w' := by
  go_enter Tryz.func29, Tryz.ntmps29
  go_wp2
  go_loopw [5] (fun i wr => ∃ k : Nat, k ≤ xs.length ∧ i = .int .i64 k ∧ Qt w wr) (fun i _ => xs.length - (intOf i).toNat)
  case atStart => exact ⟨0, by omega, rfl, Qt.refl w⟩
  case round =>
    obtain ⟨k, hk, rfl, hq⟩ := hrel
    obtain ⟨n, rfl⟩ := hq
    by_cases hlt : k < xs.length
    · obtain ⟨b1, o1, rfl, hc1⟩ := hA.byte hlt
      obtain ⟨b2, o2, rfl, hc2⟩ := hB.byte hlt
      have i0 : (0 : Int) ≤ (k : Int) := by omega
      generalize xs[k] = x at *
      go_wp2
      go_quiet (fail)
      go_wp2
      go_roundw
      case rel => exact ⟨k + 1, by omega, by go_num, by first | exact Qt.drewN ⟨n, rfl⟩ _ | exact ⟨_, rfl⟩⟩
      case measure => simp [intOf]; omega
    · go_wp2
      go_ret
      exact ⟨rfl, n, rfl⟩
end Go.Proofs.YtnapnkmehnabfaaGreat
