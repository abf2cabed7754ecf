import Derived.Test.YtnapnkmehnabfaaGreatHA
import Derived.Lib.MinMax
set_option maxHeartbeats 4000000
set_option maxRecDepth 100000
set_option linter.unusedSimpArgs false
namespace Go.Proofs.YtnapnkmehnabfaaGreat
open Go.RowKit Go.Maps
theorem refMix_any (s v : Nat) (w : World) (hs : s < 18446744073709551616) (hv : v < 18446744073709551616) :
  Calls Tryz.prog 182 #[.int .u64 s, .int .u64 v] w fun e w' => e = .returned (.int .u64 (mixN s v : Nat)) ∧ w = w' := by
 obtain ⟨m, hm⟩ : ∃ m : Nat, IntKind.u64.wrap (bits .xor .u64 (s : Int) (v : Int) * 11400714819323198485) = (m : Int) := ⟨_, (Int.toNat_of_nonneg (by rw [IntKind.wrap_u64]; omega)).symm⟩;have hz := mix_bits hs hv;rw [hm] at hz;have hd : (m : Int).tdiv 4294967296 = (m : Int) / 4294967296 := Int.tdiv_eq_ediv_of_nonneg (by omega);have hmb : (m : Int) < 18446744073709551616 := by rw [← hm, IntKind.wrap_u64]; omega
 have hw : IntKind.u64.wrap ((m : Int) / 4294967296) = (m : Int) / 4294967296 := by rw [IntKind.wrap_u64]; omega
 have Hz := q9 hz;clear hz;go_enter Tryz.func182, Tryz.ntmps182
 go_wp2_with fail
 go_ret
 exact ⟨ret_int Hz.out, rfl⟩
theorem elt_u64' : Elt Tryz.prog 27 53 (.int .u64 0) 1 8 := Elt.mk' Tryz.underlying27 (by kernel_rfl) (by decide) (by decide) rfl
def wrV (l : List U64) : List Value := l.map fun x : U64 => Value.int .u64 (x.1 : Nat)
theorem byte_at {l : List Nat} {w : World} {A : Option Addr} {j : Nat} (h : SL w A (byV l)) (hj : j < l.length) : ∃ b o c, A = some ⟨b, o, none⟩ ∧ w.cell? ⟨b, o + j, none⟩ = some (.int .u8 (c : Nat)) ∧ Hid (l[j]? = some c) := by
 obtain ⟨b, o, e, hc⟩ := h.byte hj;exact ⟨b, o, l[j], e, hc, q9 (List.getElem?_eq_getElem hj)⟩
theorem leN_down {l : List Nat} {j n c : Nat} (hc : l[j]? = some c) : leN ((l.drop j).take (n + 1)) = c + 256 * leN ((l.drop (j + 1)).take n) := by
 obtain ⟨hj, rfl⟩ := List.getElem?_eq_some_iff.1 hc;rw [List.drop_eq_getElem_cons hj, List.take_succ_cons, leN]
theorem refWords_any (A : Option Addr) (c : Nat) (l : List Nat) (w : World) (hA : SL w A (byV l)) (hb : ∀ x ∈ l, x < 256) (hl : l.length ≤ 1000000000) :
  Calls Tryz.prog 161 #[.slice A l.length c] w fun e w' => ∃ B d, e = .returned (.slice B (wordsU l).length d) ∧ w'.ownsRow w.heap.size 53 1 (.slice B (wordsU l).length d) (wordsU l).length (wrV (wordsU l)) ∧ Below w.heap.size w w' := by
 have HAs := q9 (fun (W : World) (h : Below w.heap.size w W) => (show SL W A (byV l) from hA.below h));have Hb := q9 hb;clear hA hb;go_enter Tryz.func161, Tryz.ntmps161
 go_wp2_with fail
 go_loopw [3, 4] (fun o i wr => ∃ k : Nat, k ≤ (l.length + 7) / 8 ∧ i = .int .i64 (8 * k : Nat) ∧ Hid (wr.ownsRow w.heap.size 53 1 o (upTo l k).length (wrV (upTo l k))) ∧ Hid (Below w.heap.size w wr)) (fun _ i _ => l.length + 8 - (intOf i).toNat)
 case atStart => exact ⟨0, by omega, rfl, q9 (World.ownsRow_nil _ _ _ _), q9 (Below.refl _ _)⟩
 case round =>
  obtain ⟨k, hk, rfl, HO, HB⟩ := hrel;by_cases hlt : 8 * k < l.length
  ·obtain ⟨kk, hkk⟩ : ∃ kk : Nat, Hid (8 * k = kk) := ⟨_, q9 rfl⟩;have hlt2 : kk < l.length := by rw [← hkk.out]; exact hlt
   rw [hkk.out];clear hlt;obtain ⟨mm, hmm⟩ : ∃ mm : Nat, Hid (min (kk + 8) l.length = mm) := ⟨_, q9 rfl⟩;have hmin : ∀ (W : World) (ts : Array TypeId) (t : TypeId), (Builtin.min_ ts t #[.int .i64 ((kk : Int) + 8), .int .i64 (l.length : Nat)]).run Tryz.prog W = .ok (.int .i64 (mm : Int)) W := fun W ts t => by
    rw [Lib.run_min_ints W ts t .i64 .i64 _ _, show min ((kk : Int) + 8) (l.length : Nat) = (mm : Int) from by have := hmm.out; omega]
   have hmb : kk < mm ∧ mm ≤ kk + 8 ∧ mm ≤ l.length := by have := hmm.out; omega
   obtain ⟨hm1, hm2, hm3⟩ := hmb;have w1 : IntKind.i64.wrap ((kk : Int) + 8) = (kk : Int) + 8 := IntWalk.i64_in _ ⟨by omega, by omega⟩;have w2 : IntKind.i64.wrap ((mm : Int) - 1) = (mm : Int) - 1 := IntWalk.i64_in _ ⟨by omega, by omega⟩;have HO0 := HO;have HB0 := HB;clear HO HB;go_wp2_with fail
   go_loopw [5, 6] (fun s v wr2 => ∃ j d : Nat, kk ≤ j ∧ j ≤ mm ∧ v = .int .i64 ((j : Int) - 1) ∧ s = .int .u64 (d : Int) ∧ Hid (d = leN ((l.drop j).take (mm - j))) ∧ wr2 = wr) (fun _ v _ => (intOf v + 1).toNat)
   case atStart => exact ⟨mm, 0, by omega, by omega, rfl, rfl, q9 (by simp [leN]), rfl⟩
   case round =>
    obtain ⟨j, d, hj1, hj2, rfl, rfl, hd, rfl⟩ := hrel;by_cases hc : kk < j
    ·obtain ⟨j', rfl⟩ : ∃ j', j = j' + 1 := ⟨j - 1, by omega⟩;obtain ⟨b1, o1, cb, hae, c0, hx⟩ := byte_at (HAs.out wr HB0.out) (j := j') (by omega);have hcb := Hb.out _ (List.mem_of_getElem? hx.out);have hlen : ((l.drop (j' + 1)).take (mm - (j' + 1))).length ≤ 7 := by simp; omega
     have hd7 : d < 72057594037927936 := by
      have h := leN_lt ((l.drop (j' + 1)).take (mm - (j' + 1))) (fun x hx => Hb.out x (List.mem_of_mem_drop (List.mem_of_mem_take hx)));have h2 : 256 ^ ((l.drop (j' + 1)).take (mm - (j' + 1))).length ≤ 256 ^ 7 := Nat.pow_le_pow_right (by decide) hlen;rw [hd.out]; omega
     have hdn := q9 (show 256 * d + cb = leN ((l.drop j').take (mm - j')) from by rw [show mm - j' = mm - (j' + 1) + 1 by omega, leN_down hx.out, ← hd.out]; omega);have e1 : ((j' + 1 : Nat) : Int) - 1 = (j' : Int) := by omega
     have e2 : IntKind.u64.wrap (256 * (d : Int)) = 256 * (d : Int) := by rw [IntKind.wrap_u64]; omega
     have e3 : IntKind.u64.wrap (cb : Int) = (cb : Int) := by rw [IntKind.wrap_u64]; omega
     have e4 : IntKind.u64.wrap (256 * (d : Int) + (cb : Int)) = ((256 * d + cb : Nat) : Int) := by rw [IntKind.wrap_u64]; omega
     have e5 : IntKind.i64.wrap ((j' : Int) - 1) = (j' : Int) - 1 := IntWalk.i64_in _ ⟨by omega, by omega⟩;have j0 : (0 : Int) ≤ (j' : Int) := by omega
     rw [e1, hae];clear e1 hd hx;go_wp2_with fail
     go_roundw
     case rel => exact ⟨j', 256 * d + cb, by omega, by omega, by go_num, by go_num, hdn, by first | trivial | rfl⟩
     case measure => simp [intOf]
    obtain rfl : j = kk := by omega
    have hwd := q9 (show d = (wordU l j).1 from by
     have h : (l.drop j).take 8 = (l.drop j).take (mm - j) := by
      rcases Nat.lt_or_ge (j + 8) (l.length + 1) with h | h
      ·rw [show mm - j = 8 by have := hmm.out; omega]
      rw [List.take_of_length_le (by simp; omega), List.take_of_length_le (by simp; have := hmm.out; omega)]
     rw [hd.out];show _ = leN ((l.drop j).take 8) % 18446744073709551616;rw [h, Nat.mod_eq_of_lt];have h1 := leN_lt ((l.drop j).take (mm - j)) (fun x hx => Hb.out x (List.mem_of_mem_drop (List.mem_of_mem_take hx)));have h2 : 256 ^ ((l.drop j).take (mm - j)).length ≤ 256 ^ 8 := Nat.pow_le_pow_right (by decide) (by simp; omega);omega)
    have hsz := HB0.out.size;have hown := HO0.out;have hup := q9 (upTo_succ l k);have hln : (upTo l k).length < 1099511627776 := by rw [upTo_len]; omega
    have e6 : IntKind.i64.wrap ((j : Int) + 8) = (j : Int) + 8 := w1;clear hd hmin w2;go_wp2_with (at_builtin; refine wpList_app2 (w := wr) rfl _ _ rfl elt_u64' hown hsz rfl rfl (by simp) rfl rfl hln ?_; intro v2 w3 hown2 hg2 hz2)
    go_roundw
    case rel => exact ⟨k + 1, by have := hkk.out; omega, by have := hkk.out; rw [show ((8 * (k + 1) : Nat) : Int) = (j : Int) + 8 by omega], q9 (by rw [hup.out, List.length_append, hkk.out, wrV, List.map_append]; rw [hwd.out] at hown2; exact hown2), q9 (HB0.out.grown hg2 hsz (fun q hq => (hown.lt q hq).1))⟩
    case measure => simp [intOf]; omega
  obtain rfl : k = (l.length + 7) / 8 := by omega
  obtain ⟨B, d, rfl⟩ := own_slice HO.out;have HOz := q9 (show wr.ownsRow w.heap.size 53 1 (.slice B (wordsU l).length d) (wordsU l).length (wrV (wordsU l)) from HO.out);have hge : ¬ (8 * ((l.length + 7) / 8) < l.length) := hlt;rw [show upTo l ((l.length + 7) / 8) = wordsU l from rfl];obtain ⟨nn, hnn⟩ : ∃ z : Nat, Hid (8 * ((l.length + 7) / 8) = z) := ⟨_, q9 rfl⟩;rw [hnn.out];have hge2 : ¬ (nn < l.length) := by rw [← hnn.out]; exact hge
  clear hlt hge HO hk;go_wp2_with fail
  go_ret
  exact ⟨B, d, rfl, HOz.out, HB.out⟩
end Go.Proofs.YtnapnkmehnabfaaGreat
