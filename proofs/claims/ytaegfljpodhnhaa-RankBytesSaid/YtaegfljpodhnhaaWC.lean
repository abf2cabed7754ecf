import Derived.Test.YtaegfljpodhnhaaWB
import Derived.Lib.Zigzag
namespace Go.Proofs.Ytaegfljpodhnhaa
open Go.RowKit Go.Maps

/-- A reader without error, and the bytes that are left. -/
def RD (w : World) (r B : Nat) (l : List Nat) : Prop :=
  ∃ A c, Bk w r 106 #[.slice A l.length c, .int .i64 0] ∧ SL w A (byV l) ∧ l.length ≤ c ∧ c ≤ 9223372036854775807 ∧ r < B ∧ ∀ b o, A = some ⟨b, o, none⟩ → b ≠ r ∧ b < B

theorem SL.far {w : World} {b o : Nat} {xs : List Value} (h : SL w (some ⟨b, o, none⟩) xs) {p : Addr} (hp : b ≠ p.block) (u : Value) : SL (w.setCell p u) (some ⟨b, o, none⟩) xs := fun j v hv => by
  obtain ⟨b', o', e, hb, hc⟩ := h j v hv
  injection e with e
  injection e with e1 e2
  subst e1 e2
  refine ⟨_, _, rfl, by simpa [World.setCell] using hb, ?_⟩
  exact (World.cell?_setCell_other w _ _ _ (fun e => hp (by rw [e]))).trans hc
theorem SL.tail {w : World} {b o : Nat} {x : Value} {xs : List Value} (h : SL w (some ⟨b, o, none⟩) (x :: xs)) : SL w (some ⟨b, o + 1, none⟩) xs := fun j v hv => by
  obtain ⟨b', o', e, hb, hc⟩ := h (j + 1) v (by simpa using hv)
  injection e with e
  injection e with e1 e2
  subst e1 e2
  exact ⟨_, _, rfl, hb, by rw [← hc]; congr 2; omega⟩

set_option maxHeartbeats 1000000 in
set_option maxRecDepth 100000 in
theorem rnext_any (r B x : Nat) (l : List Nat) (w : World) (h : RD w r B (x :: l)) :
    Calls Try.prog 89 #[.pointer (some ⟨r, 0, none⟩)] w fun e w' => e = .returned (.int .u8 x) ∧ RD w' r B l ∧ Fr r r r w w' := by
  obtain ⟨A, c, hp, hS, hc, hcm, hrB, hne⟩ := h
  obtain ⟨b, o, rfl, hx⟩ := hS.byte (k := 0) (by simp)
  obtain ⟨hbr, hbB⟩ := hne b o rfl
  have hc0 : w.cell? ⟨r, 0, none⟩ = some (.slice (some ⟨b, o, none⟩) (x :: l).length c) := hp.cell 0
  have hc1 : w.cell? ⟨r, 1, none⟩ = some (.int .i64 0) := hp.cell 1
  have hf := hp.frozen 0
  have Hp := Lib.hid hp
  have Hs := Lib.hid hS
  simp only [Nat.add_zero, List.getElem_cons_zero] at hx
  simp only [List.length_cons] at hc0 hc
  clear hp hS
  by_cases h1 : c = 1
  · subst h1
    obtain rfl : l = [] := List.eq_nil_of_length_eq_zero (by omega)
    go_enter Try.func89, Try.ntmps89
    go_wp2_with fail
    go_ret
    exact ⟨rfl, ⟨some ⟨b, o, none⟩, 0, Hp.out.set_ 0 _, SL.nil_, Nat.le_refl _, by omega, hrB, hne⟩, (Fr.refl r r r w).setCell rfl _⟩
  · go_enter Try.func89, Try.ntmps89
    go_wp2_with fail
    go_ret
    exact ⟨rfl, ⟨some ⟨b, o + 1, none⟩, c - 1, Hp.out.set_ 0 _, Hs.out.tail.far hbr _, by omega, by omega, hrB, fun b' o' e => by cases e; exact ⟨hbr, hbB⟩⟩, (Fr.refl r r r w).setCell rfl _⟩
end Go.Proofs.Ytaegfljpodhnhaa

namespace Go.Proofs.Ytaegfljpodhnhaa
open Go.RowKit Go.Maps

theorem zag_bits (z : Nat) (hz : z < 18446744073709551616) : bits .xor .i64 ((z : Int) / 2) (wrap64 (-wrap64 (bits .and .u64 (z : Int) 1))) = unzz z := by
  rw [Lib.u64_and1 (z : Int) (by omega) (by omega)]
  have e2 : ((z : Int) / 2) = ((z / 2 : Nat) : Int) := by omega
  rw [e2]
  by_cases h : z % 2 = 1
  · have e1 : (z : Int) % 2 = 1 := by omega
    rw [e1, unzz, if_pos h]
    have hc : bits .xor .i64 ((z / 2 : Nat) : Int) (wrap64 (-wrap64 1)) = bits .xor .i64 (-1) ((z / 2 : Nat) : Int) := by
      show IntKind.i64.wrap ((BitVec.ofInt 64 ((z / 2 : Nat) : Int) ^^^ BitVec.ofInt 64 (wrap64 (-wrap64 1))).toNat : Int) = IntKind.i64.wrap ((BitVec.ofInt 64 (-1) ^^^ BitVec.ofInt 64 ((z / 2 : Nat) : Int)).toNat : Int)
      rw [BitVec.xor_comm, show wrap64 (-wrap64 1) = -1 by decide +kernel]
    rw [hc, Lib.i64_not _ (by omega)]
  · have e1 : (z : Int) % 2 = 0 := by omega
    rw [e1, unzz, if_neg h]
    show IntKind.i64.wrap ((BitVec.ofInt 64 ((z / 2 : Nat) : Int) ^^^ BitVec.ofInt 64 (wrap64 (-wrap64 0))).toNat : Int) = _
    rw [show BitVec.ofInt 64 (wrap64 (-wrap64 0)) = 0#64 by decide +kernel, BitVec.xor_zero, BitVec.ofInt_natCast, BitVec.toNat_ofNat, Nat.mod_eq_of_lt (by omega)]
    exact IntWalk.i64_in _ (by omega)

set_option maxHeartbeats 1000000 in
set_option maxRecDepth 100000 in
theorem unzig_any (n : Int) (w : World) (hn : -9223372036854775808 ≤ n ∧ n ≤ 9223372036854775807) :
    Calls Try.prog 67 #[.int .u64 (zz n)] w fun e w' => e = .returned (.int .i64 n) ∧ w = w' := by
  have hz := zz_lt hn
  have hu := Lib.hid (unzz_zz n)
  have hb := Lib.hid (zag_bits _ hz)
  generalize zz n = z at *
  go_enter Try.func67, Try.ntmps67
  go_wp2_with fail
  go_ret
  exact ⟨ret_int (hb.out.trans hu.out), rfl⟩
end Go.Proofs.Ytaegfljpodhnhaa

namespace Go.Proofs.Ytaegfljpodhnhaa
open Go.RowKit Go.Maps

theorem vb_cons (m : Nat) : ∃ c l, vb m = c :: l ∧ c < 256 ∧ c % 128 = m % 128 ∧ ((m < 128 ∧ c = m ∧ l = []) ∨ (128 ≤ m ∧ 128 ≤ c ∧ l = vb (m / 128))) := by
  by_cases h : m < 128
  · exact ⟨m, [], vb_small h, by omega, rfl, .inl ⟨h, rfl, rfl⟩⟩
  · exact ⟨m % 128 + 128, vb (m / 128), vb_big h, by omega, by omega, .inr ⟨by omega, by omega, rfl⟩⟩
theorem low7 (c : Nat) (hc : c < 256) : bits .andNot .u8 (c : Int) 128 = ((c % 128 : Nat) : Int) := by
  have h := u8_andNot_nat c 128 hc (by decide)
  refine h.trans ?_
  rw [show 255 - 128 = 127 from rfl, Nat.and_two_pow_sub_one_eq_mod c 7]
theorem or_step {acc c k : Nat} (hc : c < 256) (ha : acc < 128 ^ k) (hn : acc + c % 128 * 128 ^ k < 18446744073709551616) :
    bits .or .u64 (acc : Int) (IntKind.u64.wrap (IntKind.u64.wrap (bits .andNot .u8 (c : Int) 128) * 2 ^ (7 * k))) = ((acc + c % 128 * 128 ^ k : Nat) : Int) := by
  have h7 : (2 : Nat) ^ (7 * k) = 128 ^ k := by rw [Nat.pow_mul]
  have e : IntKind.u64.wrap (IntKind.u64.wrap (bits .andNot .u8 (c : Int) 128) * 2 ^ (7 * k)) = ((c % 128 * 128 ^ k : Nat) : Int) := by
    have e1 : IntKind.u64.wrap ((c % 128 : Nat) : Int) = ((c % 128 : Nat) : Int) := by rw [IntKind.wrap_u64]; omega
    have e2 : (2 : Int) ^ (7 * k) = ((128 ^ k : Nat) : Int) := by rw [← h7]; simp
    rw [low7 c hc, e1, e2, IntKind.wrap_u64, ← Int.natCast_mul]
    omega
  rw [e, u64_or_nat _ _ (by omega) (by omega), Nat.or_comm, nat_join (7 * k), Nat.add_comm]
  · rw [h7]; exact Nat.mul_mod_left _ _
  · rw [h7]; exact ha

theorem Fr.trans_ {g r s : Nat} {a b c : World} (h : Fr g r s a b) (k : Fr g r s b c) : Fr g r s a c :=
  ⟨k.os.trans h.os, k.tape.trans h.tape, k.output.trans h.output, Nat.le_trans h.size k.size, fun i hi h1 h2 h3 => (k.block i (Nat.lt_of_lt_of_le hi h.size) h1 h2 h3).trans (h.block i hi h1 h2 h3)⟩

set_option maxHeartbeats 2000000 in
set_option maxRecDepth 100000 in
theorem rUint_any (r B n : Nat) (l : List Nat) (w : World) (h : RD w r B (vb n ++ l)) (hn : n < 18446744073709551616) :
    Calls Try.prog 68 #[.pointer (some ⟨r, 0, none⟩)] w fun e w' => e = .returned (.int .u64 n) ∧ RD w' r B l ∧ Fr r r r w w' := by
  have H := Lib.hid h
  clear h
  go_enter Try.func68, Try.ntmps68
  go_wp2_with fail
  go_loopw [3, 4] (fun s i wr => ∃ (k acc m : Nat), i = .int .i64 k ∧ s = .int .u64 acc ∧ k ≤ 9 ∧ acc < 128 ^ k ∧ Hid (acc + m * 128 ^ k = n) ∧ (0 < k → 0 < m) ∧ RD wr r B (vb m ++ l) ∧ Fr r r r w wr) (fun _ i _ => 10 - (intOf i).toNat)
  case atStart => exact ⟨0, 0, n, rfl, rfl, by omega, by decide, Lib.hid (by simp), by omega, H.out, Fr.refl _ _ _ _⟩
  case round =>
    clear H
    obtain ⟨k, acc, m, rfl, rfl, hk, hacc, hv, hm, hR, hF⟩ := hrel
    obtain ⟨A, cc, hp, _⟩ := id hR
    have hc1 : wr.cell? ⟨r, 1, none⟩ = some (.int .i64 0) := hp.cell 1
    have HR := Lib.hid hR
    clear hR hp
    obtain ⟨c, l', hvb, hc, hcm, hcase⟩ := vb_cons m
    rw [hvb, List.cons_append] at HR
    go_wp2_with fail
    refine (rnext_any r B c (l' ++ l) wr HR.out).mono ?_
    rintro e w2 ⟨rfl, hR2, hF2⟩
    obtain ⟨A2, cc2, hp2, _⟩ := id hR2
    have hc2 : w2.cell? ⟨r, 1, none⟩ = some (.int .i64 0) := hp2.cell 1
    have hF2 := hF.trans_ hF2
    have HR2 := Lib.hid hR2
    clear hR2 hp2 HR hc1
    have h9 : k = 9 → m ≤ 1 := by
      intro e
      subst e
      have := hv.out
      omega
    have hsum : acc + c % 128 * 128 ^ k < 18446744073709551616 := by
      have h1 : (c % 128) * 128 ^ k ≤ m * 128 ^ k := Nat.mul_le_mul_right _ (by omega)
      have := hv.out
      omega
    have hor := Lib.hid (or_step hc hacc hsum)
    rcases hcase with ⟨hm1, rfl, rfl⟩ | ⟨hm1, hc1, rfl⟩
    · have hfin : Hid (acc + c % 128 * 128 ^ k = n) := by
        show _ = _
        rw [Nat.mod_eq_of_lt hm1]
        exact hv.out
      rw [List.nil_append] at HR2
      by_cases hk9 : k = 9
      · subst hk9
        have hc1 := h9 rfl
        have hc0 := hm (by omega)
        go_wp2_with fail
        · rename_i hq _ _
          exfalso
          rcases hq with hq | hq
          · omega
          · have := of_decide_eq_true hq
            omega
        · go_ret
          exact ⟨ret_int (hor.out.trans (congrArg Nat.cast hfin.out)), HR2.out, hF2⟩
      · by_cases hk0 : k = 0
        · subst hk0
          go_wp2_with fail
          go_ret
          refine ⟨ret_int (Eq.trans ?_ (hor.out.trans (congrArg Nat.cast hfin.out))), HR2.out, hF2⟩
          rw [show (2 : Int) ^ (7 * 0) = 1 from rfl, Int.mul_one]
        · have hc0 := hm (by omega)
          go_wp2_with fail
          go_ret
          exact ⟨ret_int (hor.out.trans (congrArg Nat.cast hfin.out)), HR2.out, hF2⟩
    · have hstep : Hid ((acc + c % 128 * 128 ^ k) + m / 128 * 128 ^ (k + 1) = n) := by
        show _ = _
        rw [← hv.out, Nat.pow_succ, hcm]
        have hd := Nat.div_add_mod m 128
        have : m * 128 ^ k = (128 * (m / 128) + m % 128) * 128 ^ k := by rw [hd]
        rw [this, Nat.add_mul, ← Nat.mul_assoc, Nat.mul_comm 128 (m / 128), Nat.mul_assoc, Nat.mul_assoc, Nat.mul_comm 128 (128 ^ k)]
        omega
      have hlt : acc + c % 128 * 128 ^ k < 128 ^ (k + 1) := by
        have h1 : c % 128 * 128 ^ k ≤ 127 * 128 ^ k := Nat.mul_le_mul_right _ (by omega)
        rw [Nat.pow_succ]
        omega
      have hk9 : k < 9 := by
        rcases Nat.lt_or_ge k 9 with h | h
        · exact h
        · have := h9 (by omega)
          omega
      by_cases hk0 : k = 0
      · subst hk0
        go_wp2_with fail
        go_roundw
        case rel =>
          refine ⟨1, acc + c % 128 * 128 ^ 0, m / 128, by go_num, ?_, by omega, hlt, hstep, by omega, HR2.out, hF2⟩
          have h := hor.out
          rw [show (2 : Int) ^ (7 * 0) = 1 from rfl, Int.mul_one] at h
          exact congrArg (Value.int .u64) h
        case measure => simp [intOf]
      · go_wp2_with fail
        go_roundw
        case rel => exact ⟨k + 1, acc + c % 128 * 128 ^ k, m / 128, by go_num, congrArg (Value.int .u64) hor.out, by omega, hlt, hstep, by omega, HR2.out, hF2⟩
        case measure => simp [intOf]; omega
end Go.Proofs.Ytaegfljpodhnhaa

namespace Go.Proofs.Ytaegfljpodhnhaa
open Go.RowKit Go.Maps

theorem rInt_any (r B : Nat) (n : Int) (l : List Nat) (w : World) (h : RD w r B (vb (zz n) ++ l)) (hn : -9223372036854775808 ≤ n ∧ n ≤ 9223372036854775807) :
    Calls Try.prog 31 #[.pointer (some ⟨r, 0, none⟩)] w fun e w' => e = .returned (.int .i64 n) ∧ RD w' r B l ∧ Fr r r r w w' := by
  have H := Lib.hid h
  clear h
  go_enter Try.func31, Try.ntmps31
  go_wp2_with fail
  refine (rUint_any r B (zz n) l w H.out (zz_lt hn)).mono ?_
  rintro e w1 ⟨rfl, hR, hF⟩
  go_wp2_with fail
  refine (unzig_any n w1 hn).mono ?_
  rintro e w2 ⟨rfl, rfl⟩
  go_wp2_with fail
  go_ret
  exact ⟨rfl, hR, hF⟩

theorem rEnd_any (r B : Nat) (w : World) (h : RD w r B []) :
    Calls Try.prog 34 #[.pointer (some ⟨r, 0, none⟩)] w fun e w' => e = .returned (.int .i64 0) ∧ Qt w w' := by
  obtain ⟨A, c, hp, _⟩ := h
  have hc0 : w.cell? ⟨r, 0, none⟩ = some (.slice A 0 c) := hp.cell 0
  have hc1 : w.cell? ⟨r, 1, none⟩ = some (.int .i64 0) := hp.cell 1
  clear hp
  go_enter Try.func34, Try.ntmps34
  go_wp2_with fail
  go_ret
  exact ⟨rfl, Qt.refl _⟩

theorem own_ne_blk {w : World} {base n c : Nat} {e : TypeId} {A : Option Addr} {xs : List Value} {size r : Nat} (h : w.ownsRow base e size (.slice A n c) n xs) (hr : w.heap.size ≤ r) : ∀ b o, A = some ⟨b, o, none⟩ → b ≠ r ∧ b < w.heap.size := by
  rintro b o rfl
  rcases h.2 with ⟨he, _⟩ | ⟨g, cap, cur, he, _, hg, _⟩
  · cases he
  · injection he with e1
    injection e1 with e1
    injection e1 with e1
    subst e1
    have := (Array.getElem?_eq_some_iff.1 hg).1
    omega

/-- A row of one's own is no longer than an int may be. -/
theorem own_capR {w : World} {base n c : Nat} {e : TypeId} {A : Option Addr} {xs : List Value} {size : Nat} (h : w.ownsRow base e size (.slice A n c) n xs) : c ≤ 9223372036854775807 := by
  rcases h.2 with ⟨he, h0⟩ | ⟨g, cap, cur, he, _, hg, hc, hm, _⟩
  · injection he
    omega
  · injection he with _ _ e3
    unfold maxLen at hm
    omega

set_option maxHeartbeats 1000000 in
set_option maxRecDepth 100000 in
theorem read_any (A : Option Addr) (c : Nat) (l : List Nat) (w : World) (hA : SL w A (byV l)) (hl : l.length ≤ 1000000000) :
    Calls Try.prog 28 #[.slice A l.length c] w fun e w' => ∃ r, e = .returned (.pointer (some ⟨r, 0, none⟩)) ∧ w.heap.size ≤ r ∧ RD w' r w'.heap.size l ∧ Below w.heap.size w w' := by
  go_enter Try.func28, Try.ntmps28
  go_wp2_with fail
  refine (clone_any A c l w hA hl).mono ?_
  rintro e w1 ⟨v, rfl, hown, hb⟩
  obtain ⟨A1, c1, rfl⟩ := own_slice hown
  have Hown := Lib.hid hown
  have Hb := Lib.hid hb
  clear hown hb
  go_wp2_with fail
  go_ret
  have hcap := own_cap' Hown.out
  have hrow := own_ne_blk Hown.out (Nat.le_refl _)
  have hbx := (Below.refl w1.heap.size w1).alloc (Nat.le_refl _) (.cells #[.slice A1 l.length c1, .int .i64 0] 106)
  exact ⟨w1.heap.size, rfl, Hb.out.size, ⟨A1, c1, Bk.new _ _ _, (SL.of_own Hown.out).below hbx, hcap, own_capR Hown.out, by simp, fun b o e => ⟨(hrow b o e).1, by have := (hrow b o e).2; simp; omega⟩⟩, Hb.out.trans (hbx.mono Hb.out.size)⟩
end Go.Proofs.Ytaegfljpodhnhaa

namespace Go.Proofs.Ytaegfljpodhnhaa
open Go.RowKit Go.Maps

theorem RD.below {w w' : World} {r B : Nat} {l : List Nat} (h : RD w r B l) (hb : Below B w w') : RD w' r B l := by
  obtain ⟨A, c, hp, hS, hc, hcm, hrB, hne⟩ := h
  refine ⟨A, c, hp.below hb hrB, fun j u hu => ?_, hc, hcm, hrB, hne⟩
  obtain ⟨b, o, rfl, hlt, hcell⟩ := hS j u hu
  exact ⟨b, o, rfl, Nat.lt_of_lt_of_le hlt hb.size, (hb.cell (p := ⟨b, o + j, none⟩) (hne b o rfl).2).trans hcell⟩
theorem own_fr1 {w w' : World} {r base : Nat} {e : TypeId} {n size : Nat} {v : Value} {xs : List Value} (h : w.ownsRow base e size v n xs) (hf : Fr r r r w w') (hr : r < base) : w'.ownsRow base e size v n xs := by
  have hb : some r ≠ v.ownBlock := fun e => by have := (h.lt _ e.symm).1; omega
  exact own_fr h hf ⟨hb, hb, hb⟩
theorem vb_pos (n : Nat) : 1 ≤ (vb n).length := by rw [vb]; split <;> simp
theorem vbs_ge : ∀ l : List Int, l.length ≤ (vbs l).length
  | [] => by simp [vbs]
  | x :: l => by
    have h := vbs_ge l
    have h1 := vb_pos (zz x)
    have e : vbs (x :: l) = vb (zz x) ++ vbs l := rfl
    rw [e, List.length_append, List.length_cons]
    omega
theorem vbs_drop {l : List Int} {k : Nat} {x : Int} (h : l[k]? = some x) : vbs (l.drop k) = vb (zz x) ++ vbs (l.drop (k + 1)) := by
  obtain ⟨hk, e⟩ := List.getElem?_eq_some_iff.1 h
  rw [List.drop_eq_getElem_cons hk, e]
  rfl

set_option maxHeartbeats 2000000 in
set_option maxRecDepth 100000 in
theorem rlist_any (r B : Nat) (l : List Int) (rest : List Nat) (w : World) (h : RD w r B (vb l.length ++ (vbs l ++ rest))) (hB : B ≤ w.heap.size) (hl : W64 l) (hll : l.length ≤ 1000) :
    Calls Try.prog 69 #[.pointer (some ⟨r, 0, none⟩), .func (.func 31) #[.pointer (some ⟨r, 0, none⟩)] #[]] w fun e w' => ∃ v, e = .returned v ∧ w'.ownsRow w.heap.size 3 1 v l.length (l.map (Value.int .i64)) ∧ RD w' r B rest ∧ Fr r r r w w' := by
  have H := Lib.hid h
  clear h
  go_enter Try.func69, Try.ntmps69
  go_wp2_with fail
  refine (rUint_any r B l.length (vbs l ++ rest) w H.out (by omega)).mono ?_
  rintro e w1 ⟨rfl, hR1, hF1⟩
  obtain ⟨A1, c1, hp1, _, hcc1, hcm1, hrB, _⟩ := id hR1
  have hge : l.length ≤ (vbs l ++ rest).length := by rw [List.length_append]; have := vbs_ge l; omega
  have hc0 : w1.cell? ⟨r, 0, none⟩ = some (.slice A1 (vbs l ++ rest).length c1) := hp1.cell 0
  have HR1 := Lib.hid hR1
  have HF1 := Lib.hid hF1
  clear hR1 hF1 hp1 H
  generalize (vbs l ++ rest).length = m at *
  go_wp2_with fail
  rw [show decide (m < l.length) = false from decide_eq_false (by omega)]
  go_loopw [6, 7] (fun v i wr => ∃ k : Nat, k ≤ l.length ∧ i = .int .u64 k ∧ wr.ownsRow w.heap.size 3 1 v k ((l.take k).map (Value.int .i64)) ∧ RD wr r B (vbs (l.drop k) ++ rest) ∧ Fr r r r w wr) (fun _ i _ => l.length - (intOf i).toNat)
  case atStart => exact ⟨0, by omega, rfl, World.ownsRow_nil _ _ _ _, HR1.out, HF1.out⟩
  case round =>
    clear HR1 HF1 hc0 hcc1 hcm1 hge
    obtain ⟨k, hk, rfl, hown, hR, hF⟩ := hrel
    obtain ⟨A2, c2, hp2, _⟩ := id hR
    have hc1 : wr.cell? ⟨r, 1, none⟩ = some (.int .i64 0) := hp2.cell 1
    by_cases hlt : k < l.length
    · have hx : Hid (l[k]? = some l[k]) := List.getElem?_eq_getElem hlt
      have hx64 := hl l[k] (List.getElem_mem hlt)
      generalize l[k] = x at *
      have HR : Hid (RD wr r B (vb (zz x) ++ (vbs (l.drop (k + 1)) ++ rest))) := by
        show RD _ _ _ _
        rw [← List.append_assoc, ← vbs_drop hx.out]
        exact hR
      have Hown := Lib.hid hown
      have HF := Lib.hid hF
      have Htk := Lib.hid (take_snoc' hx.out)
      clear hR hown hF hp2
      go_wp2_with fail
      refine (rInt_any r B x _ wr HR.out hx64).mono ?_
      rintro e w2 ⟨rfl, hR2, hF2⟩
      have hown2 := own_fr1 Hown.out hF2 (by omega)
      have hF02 := HF.out.trans_ hF2
      have hs2 := hF02.size
      have HR2 := Lib.hid hR2
      clear hR2 hF2
      go_wp2_with (at_builtin; refine wpList_app2 (w := w2) rfl _ _ rfl elt_int hown2 hs2 rfl rfl (by simp) rfl rfl (by omega) ?_; intro v3 w3 hown3 hg3 hz3)
      go_roundw
      case rel =>
        have hb3 : Below w.heap.size w2 w3 := (Below.refl _ _).grown hg3 hs2 (fun k hk => (hown2.lt k hk).1)
        exact ⟨k + 1, by omega, by go_num, by rw [Htk.out, List.map_append]; exact hown3, HR2.out.below (hb3.mono hB), hF02.grown hg3 (fun k hk => (hown2.lt k hk).1)⟩
      case measure => simp [intOf]; omega
    · obtain rfl : k = l.length := by omega
      rw [List.take_length] at hown
      rw [List.drop_length] at hR
      go_wp2_with fail
      go_ret
      exact ⟨_, rfl, hown, hR, hF⟩

set_option maxRecDepth 100000 in
theorem rInts_any (r B : Nat) (l : List Int) (rest : List Nat) (w : World) (h : RD w r B (vb l.length ++ (vbs l ++ rest))) (hB : B ≤ w.heap.size) (hl : W64 l) (hll : l.length ≤ 1000) :
    Calls Try.prog 33 #[.pointer (some ⟨r, 0, none⟩)] w fun e w' => ∃ v, e = .returned v ∧ w'.ownsRow w.heap.size 3 1 v l.length (l.map (Value.int .i64)) ∧ RD w' r B rest ∧ Fr r r r w w' := by
  have H := Lib.hid h
  clear h
  go_enter Try.func33, Try.ntmps33
  go_wp2_with fail
  refine (rlist_any r B l rest w H.out hB hl hll).mono ?_
  rintro e w1 ⟨v, rfl, hown, hR, hF⟩
  go_wp2_with fail
  go_ret
  exact ⟨v, rfl, hown, hR, hF⟩
end Go.Proofs.Ytaegfljpodhnhaa
