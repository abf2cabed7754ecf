import Derived.Test.YtnapnkmehnabfaaGreatHB
import Derived.Test.YtnapnkmehnabfaaGreatP40
import Derived.Test.YtnapnkmehnabfaaGreatP49
namespace Go.Proofs.YtnapnkmehnabfaaGreat
open Go.RowKit Go.Maps
theorem word_at {l : List U64} {w : World} {A : Option Addr} {j : Nat} (h : SL w A (wrV l)) (hj : j < l.length) : ∃ (b o : Nat) (x : U64), A = some ⟨b, o, none⟩ ∧ w.cell? ⟨b, o + j, none⟩ = some (.int .u64 ((x.1 : Nat) : Int)) ∧ Hid (l[j]? = some x) := by
 obtain ⟨b, o, e, _, hc⟩ := SL.at_ h (k := j) (by simpa [wrV] using hj);exact ⟨b, o, l[j], e, by simpa [wrV] using hc, q9 (List.getElem?_eq_getElem hj)⟩
set_option linter.unusedSimpArgs false in
set_option maxHeartbeats 4000000 in
set_option maxRecDepth 100000 in
theorem refSum_any (st : ByteArray) (A : Option Addr) (c : Nat) (l : List Int) (w : World) (hst : st.size ≤ 1000000000) (hA : SI w A l) (hl : l.length ≤ 1000000000) :
  Calls Tryz.prog 162 #[.string st, .slice A l.length c] w fun e w' => e = .returned (.int .u64 (sumH (bl st) l : Nat)) ∧ Below w.heap.size w w' := by
 have HAs := q9 (fun (W : World) (h : Below w.heap.size w W) => (show SI W A l from hA.below h));obtain ⟨W0, c0, hcv, hb0, hz0, hc0⟩ := bytes_of st w;have HB0 := q9 hb0;have HW := q9 (refWords_any (some ⟨w.heap.size, 0, none⟩) c0 (bl st) W0 (sl_text hc0) (bl_lt st) (by rw [bl_len]; omega));rw [bl_len] at HW;have hwl : (wordsU (bl st)).length ≤ 1000000000 := by rw [wordsU, upTo_len, bl_len]; omega
 obtain ⟨R, hR⟩ : ∃ z, Hid (((sumH (bl st) l : Nat) : Int) = z) := ⟨_, q9 rfl⟩;rw [hR.out];obtain ⟨ws, hws⟩ : ∃ z, Hid (wordsU (bl st) = z) := ⟨_, q9 rfl⟩;rw [hws.out] at HW hwl;clear hA hb0 hz0 hc0;go_enter Tryz.func162, Tryz.ntmps162
 go_wp2_with fail
 refine HW.out.mono ?_;rintro e w1 ⟨B, d, rfl, hown, hb1⟩;have HB1 := q9 (HB0.out.trans (hb1.mono HB0.out.size));have HS1 := q9 (SL.of_own hown);obtain ⟨nw, hnw⟩ : ∃ z, Hid (ws.length = z) := ⟨_, q9 rfl⟩;rw [hnw.out] at hwl ⊢;clear hown hb1 HB0 HW hcv;go_wp2_with fail
 go_loopw [5, 7] (fun s i wr => ∃ k n : Nat, k ≤ nw ∧ i = .int .i64 (k : Int) ∧ s = .int .u64 (n : Int) ∧ n < 18446744073709551616 ∧ Hid (n = labH (ws.take k)) ∧ Hid (Below w1.heap.size w1 wr)) (fun _ i _ => nw - (intOf i).toNat)
 case atStart => exact ⟨0, 0, by omega, rfl, rfl, by omega, q9 (by simp [labH]), q9 (Below.refl _ _)⟩
 case round =>
  obtain ⟨k, n, hk, rfl, rfl, hn, hd, HB⟩ := hrel;have k0 : (0 : Int) ≤ (k : Int) := by omega
  by_cases hlt : k < nw
  ·obtain ⟨b1, o1, x, hae, cA, hx⟩ := word_at (show SL wr B (wrV ws) from HS1.out.below HB.out) (j := k) (by have := hnw.out; omega);obtain ⟨xv, hxv⟩ : ∃ z, Hid (x.1 = z) := ⟨_, q9 rfl⟩;have hxb : xv < 18446744073709551616 := by rw [← hxv.out]; exact x.2
   rw [show x.1 = xv from hxv.out] at cA;have hns := q9 (show mixN n xv = labH (ws.take (k + 1)) from by rw [take_snoc' hx.out, labH_snoc, ← hd.out, hxv.out]);have hmb := mixN_lt hn hxb;rw [hae];clear hx hd hxv;go_wp2_with fail
   refine (refMix_any n xv wr hn hxb).mono ?_;rintro e w2 ⟨rfl, rfl⟩;go_wp2_with fail
   go_roundw
   case rel => exact ⟨k + 1, mixN n xv, by omega, by go_num, rfl, hmb, hns, HB⟩
   case measure => simp [intOf]; omega
  obtain rfl : k = nw := by omega
  have hlab := q9 (show n = labH (wordsU (bl st)) from by rw [hd.out, List.take_of_length_le (by have := hnw.out; omega), hws.out]);have ws1 : IntKind.u64.wrap (st.size : Int) = ((st.size : Nat) : Int) := by rw [IntKind.wrap_u64]; omega
  have ws2 : IntKind.u64.wrap (l.length : Int) = ((l.length : Nat) : Int) := by rw [IntKind.wrap_u64]; omega
  have hm1 := mixN_lt hn (show st.size < 18446744073709551616 by omega);have hm2 := mixN_lt hm1 (show l.length < 18446744073709551616 by omega);have HBs := q9 (HB1.out.trans (HB.out.mono HB1.out.size));clear hd;go_wp2_with fail
  refine (refMix_any n st.size wr hn (by omega)).mono ?_;rintro e w2 ⟨rfl, rfl⟩;go_wp2_with fail
  refine (refMix_any _ l.length wr hm1 (by omega)).mono ?_;rintro e w2 ⟨rfl, rfl⟩;obtain ⟨pp, hpp⟩ : ∃ z, Hid (mixN (mixN n st.size) l.length = z) := ⟨_, q9 rfl⟩;rw [hpp.out] at hm2 ⊢;have hpre := q9 (show preH (bl st) l.length = pp from by rw [preH, bl_len, ← hlab.out, hpp.out]);clear hm1 hpp hlab HB;go_wp2_with fail
  go_loopw [5, 8] (fun s i wr2 => ∃ k n : Nat, k ≤ l.length ∧ i = .int .i64 (k : Int) ∧ s = .int .u64 (n : Int) ∧ n < 18446744073709551616 ∧ Hid (n = numH pp (l.take k)) ∧ wr2 = wr) (fun _ i _ => l.length - (intOf i).toNat)
  case atStart => exact ⟨0, pp, by omega, rfl, rfl, hm2, q9 (by simp [numH]), rfl⟩
  case round =>
   obtain ⟨k2, n2, hk2, rfl, rfl, hn2, hd2, rfl⟩ := hrel;have k20 : (0 : Int) ≤ (k2 : Int) := by omega
   by_cases hlt2 : k2 < l.length
   ·obtain ⟨b1, o1, x, hae, cA, hx⟩ := (HAs.out wr HBs.out).get (k := k2) hlt2;have hux := uN_eq x;have hul := uN_lt x;have hns := q9 (show mixN n2 (uN x) = numH pp (l.take (k2 + 1)) from by rw [take_snoc' hx.out, numH_snoc, ← hd2.out]);have hmb := mixN_lt hn2 hul;rw [hae];clear hx hd2;go_wp2_with fail
    refine (refMix_any n2 (uN x) wr hn2 hul).mono ?_;rintro e w2 ⟨rfl, rfl⟩;go_wp2_with fail
    go_roundw
    case rel => exact ⟨k2 + 1, mixN n2 (uN x), by omega, by go_num, rfl, hmb, hns, by first | trivial | rfl⟩
    case measure => simp [intOf]; omega
   obtain rfl : k2 = l.length := by omega
   have hz := q9 (show R = ((mixN n2 0 : Nat) : Int) from by rw [← hR.out, sumH, hpre.out, hd2.out, List.take_length]);clear hd2;go_wp2_with fail
   refine (refMix_any n2 0 wr hn2 (by omega)).mono ?_;rintro e w2 ⟨rfl, rfl⟩;go_wp2_with fail
   go_ret
   exact ⟨by rw [hz.out]; rfl, HBs.out⟩
end Go.Proofs.YtnapnkmehnabfaaGreat
