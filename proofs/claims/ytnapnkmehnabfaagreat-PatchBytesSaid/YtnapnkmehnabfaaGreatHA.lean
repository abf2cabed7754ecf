import Derived.Test.YtnapnkmehnabfaaGreatP30
import Derived.Laws.Bits64
import Derived.RangeFuncBox
import Derived.RangeFuncLeaves
import Derived.Shelf.Abstract
import Derived.OwnWalkIn
import Derived.TacticsInMore
import Derived.LoopNIn
import Derived.LoopIn
import Derived.Maps.AppendAt
import Derived.Lib.MinMax
set_option maxHeartbeats 2000000
set_option maxRecDepth 100000
namespace Go.Proofs.YtnapnkmehnabfaaGreat
open Go.RowKit
theorem mixE : ∃ f : Nat → Nat → Nat, ∀ s w, f s w = ((s ^^^ w) * 11400714819323198485 % 18446744073709551616) ^^^ ((s ^^^ w) * 11400714819323198485 % 18446744073709551616 / 4294967296) := ⟨_, fun _ _ => rfl⟩
noncomputable def mixN : Nat → Nat → Nat := Classical.choose mixE
theorem mixN_def (s w : Nat) : mixN s w = ((s ^^^ w) * 11400714819323198485 % 18446744073709551616) ^^^ ((s ^^^ w) * 11400714819323198485 % 18446744073709551616 / 4294967296) := Classical.choose_spec mixE s w
theorem p64 : (2 : Nat) ^ 64 = 18446744073709551616 := by decide
theorem mul_nat {s w c : Nat} (hs : s < 18446744073709551616) (hw : w < 18446744073709551616) (hc : c < 18446744073709551616) : ((BitVec.ofNat 64 s ^^^ BitVec.ofNat 64 w) * BitVec.ofNat 64 c).toNat = (s ^^^ w) * c % 18446744073709551616 := by
 rw [BitVec.toNat_mul, BitVec.toNat_xor, BitVec.toNat_ofNat, BitVec.toNat_ofNat, BitVec.toNat_ofNat, p64, Nat.mod_eq_of_lt hs, Nat.mod_eq_of_lt hw, Nat.mod_eq_of_lt hc]
theorem fold_nat (m : BitVec 64) : (m ^^^ (m >>> 32)).toNat = m.toNat ^^^ (m.toNat / 4294967296) := by
 rw [BitVec.toNat_xor, BitVec.toNat_ushiftRight, Nat.shiftRight_eq_div_pow]
theorem mixN_bv {s w : Nat} (hs : s < 18446744073709551616) (hw : w < 18446744073709551616) : mixN s w = (mixB (BitVec.ofNat 64 s) (BitVec.ofNat 64 w)).toNat := by
 rw [mixN_def];unfold mixB;rw [fold_nat, ← mul_nat hs hw (by decide)]
theorem mixN_lt {s w : Nat} (hs : s < 18446744073709551616) (hw : w < 18446744073709551616) : mixN s w < 18446744073709551616 := by rw [mixN_bv hs hw]; exact BitVec.isLt _
theorem mix_bits {s w : Nat} (hs : s < 18446744073709551616) (hw : w < 18446744073709551616) :
  bits .xor .u64 (IntKind.u64.wrap (bits .xor .u64 (s : Int) (w : Int) * 11400714819323198485)) (IntKind.u64.wrap (bits .xor .u64 (s : Int) (w : Int) * 11400714819323198485) / 4294967296) = ((mixN s w : Nat) : Int) := by
 have e : IntKind.u64.wrap (bits .xor .u64 (s : Int) (w : Int) * 11400714819323198485) = (((s ^^^ w) * 11400714819323198485 % 18446744073709551616 : Nat) : Int) := by
  rw [bits_xor_u64_nat _ _ hs hw, IntKind.wrap_u64];omega
 rw [e, mixN_def];exact xorShift_u64 _ 4294967296 (Nat.mod_lt _ (by decide))
theorem mix_any (s v : Nat) (w : World) (hs : s < 18446744073709551616) (hv : v < 18446744073709551616) :
  Calls Tryz.prog 160 #[.int .u64 s, .int .u64 v] w fun e w' => e = .returned (.int .u64 (mixN s v : Nat)) ∧ w = w' := by
 have hz := q9 (mix_bits hs hv);go_enter Tryz.func160, Tryz.ntmps160
 go_wp2_with fail
 go_ret
 exact ⟨ret_int hz.out, rfl⟩
end Go.Proofs.YtnapnkmehnabfaaGreat
namespace Go.Proofs.YtnapnkmehnabfaaGreat
open Go.RowKit Go.Shelf
attribute [local go_sem] Oper.semAt_some
abbrev U64 := { x : Nat // x < 18446744073709551616 }
def leN : List Nat → Nat
 | [] => 0
 | c :: t => c + 256 * leN t
theorem leN_snoc : ∀ (t : List Nat) (c : Nat), leN (t ++ [c]) = leN t + c * 256 ^ t.length
 | [], c => by simp [leN]
 | x :: t, c => by
  have h := leN_snoc t c;simp only [List.cons_append, leN, h, List.length_cons, Nat.pow_succ, Nat.mul_add];rw [← Nat.mul_assoc 256 c, Nat.mul_comm 256 c, Nat.mul_assoc c 256, Nat.mul_comm 256 (256 ^ t.length)];omega
theorem leN_lt : ∀ (t : List Nat), (∀ c ∈ t, c < 256) → leN t < 256 ^ t.length
 | [], _ => by simp [leN]
 | x :: t, h => by
  have h1 := leN_lt t (fun c hc => h c (by simp [hc]));have h2 := h x (by simp);simp only [leN, List.length_cons, Nat.pow_succ];omega
def wordU (l : List Nat) (i : Nat) : U64 := ⟨leN ((l.drop i).take 8) % 18446744073709551616, Nat.mod_lt _ (by decide)⟩
def upTo (l : List Nat) (k : Nat) : List U64 := (List.range k).map fun j => wordU l (8 * j)
theorem upTo_succ (l : List Nat) (k : Nat) : upTo l (k + 1) = upTo l k ++ [wordU l (8 * k)] := by simp [upTo, List.range_succ]
theorem upTo_len (l : List Nat) (k : Nat) : (upTo l k).length = k := by simp [upTo]
def wordsU (l : List Nat) : List U64 := upTo l ((l.length + 7) / 8)
def KpB (n₀ B : Nat) (W W' : World) : Prop := Below n₀ W W' ∧ ∀ v, W.cell? ⟨B, 0, none⟩ = some v → W'.cell? ⟨B, 0, none⟩ = some v
theorem kpB_t {n₀ B : Nat} {X Y Z : World} (h : KpB n₀ B X Y) (k : KpB n₀ B Y Z) : KpB n₀ B X Z := ⟨h.1.trans k.1, fun v hv => k.2 v (h.2 v hv)⟩
theorem kpB_b {n₀ B : Nat} {w : World} (hn : n₀ ≤ w.heap.size) (W : World) (l : Nat) (o o' : Obj) (hl : w.heap.size ≤ l) (h : W.heap[l]? = some o) (h1 : o.isCells = false) (h2 : o.isWalk = false) : KpB n₀ B W (W.putObj l o') :=
 ⟨belowK_b hn W l o o' hl h h1 h2, fun v hv => (cell_kept hv (grownBy_putObj' W l o') (fun r e => by cases e; exact ⟨o, h, h1⟩))⟩
theorem orw_step {acc c j : Nat} (hc : c < 256) (ha : acc < 256 ^ j) (hj : j < 8) :
  bits .or .u64 (acc : Int) (IntKind.u64.wrap ((c : Int) * 2 ^ (8 * j))) = ((acc + c * 256 ^ j : Nat) : Int) := by
 have h8 : (2 : Nat) ^ (8 * j) = 256 ^ j := by rw [Nat.pow_mul]
 have hp : 256 ^ (j + 1) ≤ 256 ^ 8 := Nat.pow_le_pow_right (by decide) (by omega);have hm : c * 256 ^ j ≤ 255 * 256 ^ j := Nat.mul_le_mul_right _ (by omega);rw [Nat.pow_succ] at hp;have e : IntKind.u64.wrap ((c : Int) * 2 ^ (8 * j)) = ((c * 256 ^ j : Nat) : Int) := by
  have e2 : (2 : Int) ^ (8 * j) = ((256 ^ j : Nat) : Int) := by rw [← h8]; simp
  rw [e2, IntKind.wrap_u64, ← Int.natCast_mul];omega
 rw [e, u64_or_nat _ _ (by omega) (by omega), Nat.or_comm, nat_join (8 * j), Nat.add_comm]
 ·rw [h8]; exact Nat.mul_mod_left _ _
 rw [h8]; exact ha
end Go.Proofs.YtnapnkmehnabfaaGreat
namespace Go.Proofs.YtnapnkmehnabfaaGreat
open Go.RowKit Go.Shelf
attribute [local go_sem] Oper.semAt_some
theorem words1_in (F : Fence) (n : Nat) (h91 : F.fn 158) (hro : F.round = none) (hn : 1 ≤ n) (lp Bs n₀ cap : Nat) (A : Option Addr) (l : List Nat) (hl : l.length ≤ 1000000000) (hbd : ∀ c ∈ l, c < 256) (J Jx : List U64 → World → Prop)
  (hY : ∀ pre x W, J pre W → pre.length < (wordsU l).length → YieldAt F (n - 1) Tryz.prog lp #[.int .u64 (x.1 : Int)] W fun e W' =>
   (e = .returned (.bool true) ∧ J (pre ++ [x]) W' ∧ KpB n₀ Bs W W') ∨ (e = .returned (.bool false) ∧ Jx (pre ++ [x]) W'))
  (W : World) (hBs : W.cell? ⟨Bs, 0, none⟩ = some (.slice A l.length cap)) (hS : SL W A (byV l)) (hA : 0 < l.length → ∀ b o, A = some ⟨b, o, none⟩ → b < n₀) (h0 : J [] W) :
  CallsIn F n Tryz.prog 158 #[.func (.yield lp) #[] #[], .pointer (some ⟨Bs, 0, none⟩)] W fun e W' => (∃ v, e = .returned v) ∧
   ((∃ ys, ys = wordsU l ∧ J ys W') ∨ (∃ pre, pre <+: wordsU l ∧ Jx pre W')) := by
 refine callsIn_of_wp Tryz.func158 rfl h91 ?_ hro;simp only [Tryz.ntmps158, List.size_toArray, List.length_cons, List.length_nil, Nat.reduceAdd, Nat.reduceSub, Array.replicate_succ, Array.replicate_zero, List.push_toArray, List.append_toArray, List.nil_append, List.cons_append];gi_wp2
 gi_loopw [3] (fun i wr => ∃ k : Nat, k ≤ (l.length + 7) / 8 ∧ i = .int .i64 (8 * k : Nat) ∧ J (upTo l k) wr ∧ KpB n₀ Bs W wr)
  (fun i _ => l.length + 8 - (intOf i).toNat)
 case atStart => exact ⟨0, Nat.zero_le _, rfl, h0, Below.refl _ _, fun _ h => h⟩
 case round =>
  obtain ⟨k, hk, rfl, hJs, hnx⟩ := hrel;have hbx := hnx.2 _ hBs;have hS1 := fun (j : Nat) (h : j < l.length) => show ∃ b o, A = some ⟨b, o, none⟩ ∧ wr.cell? ⟨b, o + j, none⟩ = some (.int .u8 (l[j] : Nat)) from by
   obtain ⟨b, o, e, hc⟩ := hS.byte h;exact ⟨b, o, e, (hnx.1.cell (p := ⟨b, o + j, none⟩) (hA (by omega) b o e)).trans hc⟩
  by_cases hlt : 8 * k < l.length
  ·obtain ⟨kk, hkk⟩ : ∃ kk : Nat, Hid (8 * k = kk) := ⟨_, q9 rfl⟩;have hlt2 : kk < l.length := by rw [← hkk.out]; exact hlt
   rw [hkk.out];clear hlt;gi_wp2
   gi_loopw [4, 5] (fun s v wr2 => ∃ j d : Nat, kk + j ≤ l.length ∧ j ≤ 8 ∧ v = .int .i64 (kk + j : Nat) ∧ s = .int .u64 d ∧ Hid (d = leN ((l.drop kk).take j)) ∧ wr2 = wr) (fun _ v _ => l.length - (intOf v).toNat)
   case atStart => exact ⟨0, 0, by omega, by omega, by simp, rfl, q9 (by simp [leN]), rfl⟩
   case round =>
    obtain ⟨j, d, hj, hj8, rfl, rfl, hd, rfl⟩ := hrel;have hmin : ∀ (W : World) (ts : Array TypeId) (t : TypeId), (Builtin.min_ ts t #[.int .i64 ((kk : Int) + 8), .int .i64 (l.length : Nat)]).run Tryz.prog W = .ok (.int .i64 (min ((kk : Int) + 8) (l.length : Nat))) W := fun W ts t => Lib.run_min_ints W ts t .i64 .i64 _ _;obtain ⟨mm, hmm⟩ : ∃ mm : Nat, Hid (min (kk + 8) l.length = mm) := ⟨_, q9 rfl⟩;have hme : min ((kk : Int) + 8) (l.length : Nat) = (mm : Int) := by have := hmm.out; omega
    simp only [hme] at hmin;by_cases hc : j < 8 ∧ kk + j < l.length
    ·have hlm : kk + j < mm := by have := hmm.out; omega
     have hmle : mm ≤ l.length := by have := hmm.out; omega
     clear hme;obtain ⟨b, o, rfl, hcell⟩ := hS1 (kk + j) hc.2;have hx : Hid ((l.drop kk)[j]? = some (l[kk + j]'hc.2)) := by
      show _ = _;rw [List.getElem?_drop];exact List.getElem?_eq_getElem hc.2
     have hc256 := hbd _ (List.getElem_mem hc.2);generalize l[kk + j]'hc.2 = c at *;have hdl : ((l.drop kk).take j).length = j := by simp; omega
     have hd256 : d < 256 ^ j := by
      have := leN_lt ((l.drop kk).take j) (fun c hc => hbd c (List.mem_of_mem_drop (List.mem_of_mem_take hc)));rw [hdl] at this;rw [hd.out];exact this
     have hor := q9 (orw_step hc256 hd256 hc.1);have hnew : Hid (d + c * 256 ^ j = leN ((l.drop kk).take (j + 1))) := by
      show _ = _;rw [take_snoc' hx.out, leN_snoc, hdl, hd.out]
     have hc1 := hc.1;clear hc hdl hd256;gi_wp2
     exact ⟨⟨j + 1, d + c * 256 ^ j, by omega, by omega, by go_num, congrArg (Value.int .u64) hor.out, hnew, trivial⟩, by simp [intOf]; omega⟩
    have hlm : ¬ kk + j < mm := by have := hmm.out; omega
    have hwd : Hid (d = (wordU l (8 * k)).1) := by
     show _ = _;have hlen : ((l.drop kk).take 8).length ≤ 8 := by simp; omega
     have h256 := leN_lt ((l.drop kk).take 8) (fun c hc => hbd c (List.mem_of_mem_drop (List.mem_of_mem_take hc)));have hp : 256 ^ ((l.drop kk).take 8).length ≤ 256 ^ 8 := Nat.pow_le_pow_right (by decide) hlen;have ht : (l.drop kk).take j = (l.drop kk).take 8 := by
      rcases Nat.lt_or_ge j 8 with h | h
      ·rw [List.take_of_length_le (by simp; omega), List.take_of_length_le (by simp; omega)]
      obtain rfl : j = 8 := by omega
      rfl
     rw [hd.out, ht, hkk.out];exact (Nat.mod_eq_of_lt (by omega)).symm
    obtain ⟨fn, tmps, assign, body, hy, hR⟩ := hY _ (wordU l (8 * k)) wr hJs (by rw [upTo_len, wordsU, upTo_len]; have := hkk.out; omega);rw [← hwd.out] at hy;clear hc hme hd hwd hmm;gi_wp2
    refine hR.mono ?_;clear hR hy;rintro e W3 (⟨rfl, hJ3, hk3⟩ | ⟨rfl, hJx3⟩)
    ·have hkp := kpB_t hnx hk3;gi_wp2
     have h8 := hkk.out;exact ⟨⟨k + 1, by omega, by rw [← h8]; go_num, by rw [upTo_succ]; exact hJ3, hkp⟩, by simp [intOf]; omega⟩
    gi_wp2
    refine bodyPost_ret (results_none rfl _ _ _) rfl ?_;have h8 := hkk.out;refine ⟨⟨_, rfl⟩, .inr ⟨_, ?_, hJx3⟩⟩;rw [← upTo_succ];have : upTo l (k + 1) = (wordsU l).take (k + 1) := by
     rw [wordsU, upTo, upTo, ← List.map_take, List.take_range, Nat.min_eq_left (by omega)]
    rw [this];exact List.take_prefix _ _
  have hkl : k = (l.length + 7) / 8 := by omega
  gi_wp2
  go_end0
  exact ⟨⟨_, rfl⟩, .inl ⟨_, rfl, by rw [wordsU, ← hkl]; exact hJs⟩⟩
theorem words1_stops (F : Fence) (n : Nat) (h91 : F.fn 158) (hro : F.round = none) (hn : 1 ≤ n) (Bs n₀ cap : Nat) (A : Option Addr) (l : List Nat) (hl : l.length ≤ 1000000000) (hbd : ∀ c ∈ l, c < 256) (w : World) (hBs : Bs < w.heap.size)
  (hc : w.cell? ⟨Bs, 0, none⟩ = some (.slice A l.length cap)) (hS : SL w A (byV l)) (hA : 0 < l.length → ∀ b o, A = some ⟨b, o, none⟩ → b < n₀) :
  SeqStopsK F n Tryz.prog 158 #[.pointer (some ⟨Bs, 0, none⟩)] (fun x : U64 => #[Value.int .u64 (x.1 : Int)]) (KpB n₀ Bs) (fun ys => ys = wordsU l) (fun pre => pre <+: wordsU l) (wordsU l).length w := fun lp J Jx W hW _ _ hY h0 =>
 words1_in F n h91 hro hn lp Bs n₀ cap A l hl hbd J Jx hY W ((hW.cell (p := ⟨Bs, 0, none⟩) hBs).trans hc) (hS.below hW) hA h0
theorem words_in (F : Fence) (n : Nat) (h70 : F.fn 105) (hro : F.round = none) (A : Option Addr) (len cap : Nat) (w : World) :
  CallsIn F n Tryz.prog 105 #[.slice A len cap] w fun e w' => e = .returned (.func (.func 158) #[] #[.pointer (some ⟨w.heap.size, 0, none⟩)]) ∧ w' = w.alloc (.cells #[.slice A len cap] 50) := by
 refine callsIn_of_wp Tryz.func105 rfl h70 ?_ hro;simp only [Tryz.ntmps105, List.size_toArray, List.length_cons, List.length_nil, Nat.reduceAdd, Nat.reduceSub, Array.replicate_succ, Array.replicate_zero, List.push_toArray, List.append_toArray, List.nil_append, List.cons_append];gi_wp2
 go_ret
 exact ⟨rfl, rfl⟩
end Go.Proofs.YtnapnkmehnabfaaGreat
namespace Go.Proofs.YtnapnkmehnabfaaGreat
open Go.RowKit Go.Shelf
theorem wordsS1_in (F : Fence) (n : Nat) (h91 : F.fn 181) (hro : F.round = none) (hn : 1 ≤ n) (lp Bs n₀ : Nat) (st : ByteArray) (hl : st.size ≤ 1000000000) (J Jx : List U64 → World → Prop)
  (hY : ∀ pre x W, J pre W → pre.length < (wordsU (bl st)).length → YieldAt F (n - 1) Tryz.prog lp #[.int .u64 (x.1 : Int)] W fun e W' =>
   (e = .returned (.bool true) ∧ J (pre ++ [x]) W' ∧ KpB n₀ Bs W W') ∨ (e = .returned (.bool false) ∧ Jx (pre ++ [x]) W'))
  (W : World) (hBs : W.cell? ⟨Bs, 0, none⟩ = some (.string st)) (h0 : J [] W) :
  CallsIn F n Tryz.prog 181 #[.func (.yield lp) #[] #[], .pointer (some ⟨Bs, 0, none⟩)] W fun e W' => (∃ v, e = .returned v) ∧
   ((∃ ys, ys = wordsU (bl st) ∧ J ys W') ∨ (∃ pre, pre <+: wordsU (bl st) ∧ Jx pre W')) := by
 refine callsIn_of_wp Tryz.func181 rfl h91 ?_ hro;simp only [Tryz.ntmps181, List.size_toArray, List.length_cons, List.length_nil, Nat.reduceAdd, Nat.reduceSub, Array.replicate_succ, Array.replicate_zero, List.push_toArray, List.append_toArray, List.nil_append, List.cons_append];obtain ⟨l, hl0⟩ : ∃ l, bl st = l := ⟨_, rfl⟩;have hll := q9 hl0;have hLs : Hid (l.length = st.size) := by rw [← hl0]; exact bl_len st
 have hbd : ∀ c ∈ l, c < 256 := by rw [← hl0]; exact bl_lt st
 rw [hl0] at hY;rw [hl0];clear hl0;gi_wp2
 gi_loopw [3] (fun i wr => ∃ k : Nat, k ≤ (st.size + 7) / 8 ∧ i = .int .i64 (8 * k : Nat) ∧ J (upTo l k) wr ∧ KpB n₀ Bs W wr)
  (fun i _ => st.size + 8 - (intOf i).toNat)
 case atStart => exact ⟨0, Nat.zero_le _, rfl, h0, Below.refl _ _, fun _ h => h⟩
 case round =>
  obtain ⟨k, hk, rfl, hJs, hnx⟩ := hrel;have hbx := hnx.2 _ hBs;by_cases hlt : 8 * k < st.size
  ·obtain ⟨kk, hkk⟩ : ∃ kk : Nat, Hid (8 * k = kk) := ⟨_, q9 rfl⟩;have hlt2 : kk < st.size := by rw [← hkk.out]; exact hlt
   rw [hkk.out];clear hlt;gi_wp2
   gi_loopw [4, 5] (fun s v wr2 => ∃ j d : Nat, kk + j ≤ st.size ∧ j ≤ 8 ∧ v = .int .i64 (kk + j : Nat) ∧ s = .int .u64 d ∧ Hid (d = leN ((l.drop kk).take j)) ∧ wr2 = wr) (fun _ v _ => st.size - (intOf v).toNat)
   case atStart => exact ⟨0, 0, by omega, by omega, by simp, rfl, q9 (by simp [leN]), rfl⟩
   case round =>
    obtain ⟨j, d, hj, hj8, rfl, rfl, hd, rfl⟩ := hrel;have hmin : ∀ (W : World) (ts : Array TypeId) (t : TypeId), (Builtin.min_ ts t #[.int .i64 ((kk : Int) + 8), .int .i64 (st.size : Nat)]).run Tryz.prog W = .ok (.int .i64 (min ((kk : Int) + 8) (st.size : Nat))) W := fun W ts t => Lib.run_min_ints W ts t .i64 .i64 _ _;obtain ⟨mm, hmm⟩ : ∃ mm : Nat, Hid (min (kk + 8) st.size = mm) := ⟨_, q9 rfl⟩;have hme : min ((kk : Int) + 8) (st.size : Nat) = (mm : Int) := by have := hmm.out; omega
    simp only [hme] at hmin;by_cases hc : j < 8 ∧ kk + j < st.size
    ·have hlm : kk + j < mm := by have := hmm.out; omega
     have hmle : mm ≤ st.size := by have := hmm.out; omega
     clear hme;have hlq : kk + j < st.size := by exact hc.2
     have hx : Hid ((l.drop kk)[j]? = some (st[kk + j]'hlq).toNat) := by
      show _ = _;rw [List.getElem?_drop, ← hll.out];exact bl_get st hlq
     obtain ⟨c, hcv⟩ : ∃ c : Nat, Hid ((st[kk + j]'hlq).toNat = c) := ⟨_, q9 rfl⟩;have he1 : Hid (IntKind.u64.wrap ((st[kk + j]'hlq).toNat : Int) = (c : Int)) := by
      show _ = _;have := (st[kk + j]'hlq).toNat_lt;rw [← hcv.out, IntKind.wrap_u64];omega
     rw [hcv.out] at hx;have hc256 := hbd c (List.mem_of_mem_drop (List.mem_of_getElem? hx.out));have hdl : ((l.drop kk).take j).length = j := by have hL := hLs.out; simp; omega
     have hd256 : d < 256 ^ j := by
      have := leN_lt ((l.drop kk).take j) (fun c hc => hbd c (List.mem_of_mem_drop (List.mem_of_mem_take hc)));rw [hdl] at this;rw [hd.out];exact this
     have hor := q9 (orw_step hc256 hd256 hc.1);have hnew : Hid (d + c * 256 ^ j = leN ((l.drop kk).take (j + 1))) := by
      show _ = _;rw [take_snoc' hx.out, leN_snoc, hdl, hd.out]
     have hc1 := hc.1;clear hc hdl hd256;gi_wp2
     exact ⟨⟨j + 1, d + c * 256 ^ j, by omega, by omega, by go_num, congrArg (Value.int .u64) (by rw [he1.out]; exact hor.out), hnew, trivial⟩, by simp [intOf]; omega⟩
    have hlm : ¬ kk + j < mm := by have := hmm.out; omega
    have hwd : Hid (d = (wordU l (8 * k)).1) := by
     show _ = _;have hlen : ((l.drop kk).take 8).length ≤ 8 := by have hL := hLs.out; simp; omega
     have h256 := leN_lt ((l.drop kk).take 8) (fun c hc => hbd c (List.mem_of_mem_drop (List.mem_of_mem_take hc)));have hp : 256 ^ ((l.drop kk).take 8).length ≤ 256 ^ 8 := Nat.pow_le_pow_right (by decide) hlen;have ht : (l.drop kk).take j = (l.drop kk).take 8 := by
      rcases Nat.lt_or_ge j 8 with h | h
      ·rw [List.take_of_length_le (by have hL := hLs.out; simp; omega), List.take_of_length_le (by have hL := hLs.out; simp; omega)]
      obtain rfl : j = 8 := by omega
      rfl
     rw [hd.out, ht, hkk.out];exact (Nat.mod_eq_of_lt (by omega)).symm
    obtain ⟨fn, tmps, assign, body, hy, hR⟩ := hY _ (wordU l (8 * k)) wr hJs (by rw [upTo_len, wordsU, upTo_len]; have := hkk.out; have := hLs.out; omega);rw [← hwd.out] at hy;clear hc hme hd hwd hmm;gi_wp2
    refine hR.mono ?_;clear hR hy;rintro e W3 (⟨rfl, hJ3, hk3⟩ | ⟨rfl, hJx3⟩)
    ·have hkp := kpB_t hnx hk3;gi_wp2
     have h8 := hkk.out;exact ⟨⟨k + 1, by omega, by rw [← h8]; go_num, by rw [upTo_succ]; exact hJ3, hkp⟩, by simp [intOf]; omega⟩
    gi_wp2
    refine bodyPost_ret (results_none rfl _ _ _) rfl ?_;have h8 := hkk.out;refine ⟨⟨_, rfl⟩, .inr ⟨_, ?_, hJx3⟩⟩;rw [← upTo_succ];have : upTo l (k + 1) = (wordsU l).take (k + 1) := by
     rw [wordsU, upTo, upTo, ← List.map_take, List.take_range, Nat.min_eq_left (by have hL := hLs.out; omega)]
    rw [this];exact List.take_prefix _ _
  have hkl : k = (st.size + 7) / 8 := by omega
  gi_wp2
  go_end0
  exact ⟨⟨_, rfl⟩, .inl ⟨_, rfl, by rw [wordsU, hLs.out, ← hkl]; exact hJs⟩⟩
theorem wordsS1_stops (F : Fence) (n : Nat) (h91 : F.fn 181) (hro : F.round = none) (hn : 1 ≤ n) (Bs n₀ : Nat) (st : ByteArray) (hl : st.size ≤ 1000000000) (w : World) (hBs : Bs < w.heap.size)
  (hc : w.cell? ⟨Bs, 0, none⟩ = some (.string st)) :
  SeqStopsK F n Tryz.prog 181 #[.pointer (some ⟨Bs, 0, none⟩)] (fun x : U64 => #[Value.int .u64 (x.1 : Int)]) (KpB n₀ Bs) (fun ys => ys = wordsU (bl st)) (fun pre => pre <+: wordsU (bl st)) (wordsU (bl st)).length w := fun lp J Jx W hW _ _ hY h0 =>
 wordsS1_in F n h91 hro hn lp Bs n₀ st hl J Jx hY W ((hW.cell (p := ⟨Bs, 0, none⟩) hBs).trans hc) h0
theorem wordsS_in (F : Fence) (n : Nat) (h70 : F.fn 159) (hro : F.round = none) (st : ByteArray) (w : World) :
  CallsIn F n Tryz.prog 159 #[.string st] w fun e w' => e = .returned (.func (.func 181) #[] #[.pointer (some ⟨w.heap.size, 0, none⟩)]) ∧ w' = w.alloc (.cells #[.string st] 9) := by
 refine callsIn_of_wp Tryz.func159 rfl h70 ?_ hro;simp only [Tryz.ntmps159, List.size_toArray, List.length_cons, List.length_nil, Nat.reduceAdd, Nat.reduceSub, Array.replicate_succ, Array.replicate_zero, List.push_toArray, List.append_toArray, List.nil_append, List.cons_append];gi_wp2
 go_ret
 exact ⟨rfl, rfl⟩
end Go.Proofs.YtnapnkmehnabfaaGreat
