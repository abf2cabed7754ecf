import Derived.Test.YtgeciimakjfnfaaC23
import Derived.Test.YtgeciimakjfnfaaC21
namespace Go.Proofs.Ytgeciimakjfnfaa
open Go.RowKit Go.Maps

theorem run_bs_claim (k o f t d : Int) (w : World) : (Instr.buildSlice 38 1 #[(0, .agg #[.int .i64 k, .int .i64 o, .int .i64 f, .int .i64 t, .int .i64 d])]).run Try.prog w = .ok (.slice (some ⟨w.heap.size, 0, none⟩) 1 1) (w.alloc (.cells #[.int .i64 k, .int .i64 o, .int .i64 f, .int .i64 t, .int .i64 d] 24)) := by
  obtain ⟨x, hi, hz, hs, _⟩ := info_parts (show ((Try.prog).info? 24).map (fun i => (i.zero, i.size, i.bytes)) = some (some (.agg #[.int .i64 0, .int .i64 0, .int .i64 0, .int .i64 0, .int .i64 0]), 5, 40) by kernel_rfl)
  exact run_buildSlice w _ _ 1 _ _ x _ Try.underlying38 hi hz (by rw [hs]; decide) (by rw [hs]; decide) (by rw [hs]; kernel_rfl)
set_option linter.unusedSimpArgs false in
set_option maxHeartbeats 4000000 in
set_option maxRecDepth 100000 in
theorem claims_any (A : Option Addr) (c : Nat) (l : List Int) (most : Int) (w : World) (hA : SI w A l) (hz : W64 l) (hl : l.length ≤ 9223372036854775807) (hm0 : 0 ≤ most) (hm1 : most ≤ 1000) :
    Calls Try.prog 27 #[.slice A l.length c, .int .i64 most] w fun e w' => ∃ (L : List Cl) (v : Value), e = .returned v ∧ allE L = 0 ∧ (L.length : Int) ≤ most ∧ w'.ownsRow w.heap.size 24 5 v L.length (L.flatMap clC) ∧ Below w.heap.size w w' := by
  have HA := Lib.hid (fun (W : World) (h : Below w.heap.size w W) => (show SI W A l from hA.below h))
  have HZ := Lib.hid hz
  clear hA hz
  go_enter Try.func27, Try.ntmps27
  go_wp2_with fail
  go_loopw [5, 6] (fun o i wr => ∃ (k : Nat) (Z : List Cl), k ≤ l.length ∧ (k : Int) ≤ most ∧ i = .int .i64 (k : Int) ∧ Hid (Z.length = k) ∧ Hid (∀ q ∈ Z, clE q = 0) ∧ Hid (wr.ownsRow w.heap.size 24 5 o k (Z.flatMap clC)) ∧ Hid (Below w.heap.size w wr)) (fun _ i _ => l.length - (intOf i).toNat)
  case atStart => exact ⟨0, [], by omega, by omega, rfl, Lib.hid rfl, Lib.hid (fun q hq => by cases hq), Lib.hid (World.ownsRow_nil _ _ _ _), Lib.hid (Below.refl _ _)⟩
  case round =>
    obtain ⟨k, Z, hk, hkm, rfl, HZl, HV, HO, HB⟩ := hrel
    obtain ⟨X, cX, rfl⟩ := own_slice HO.out
    by_cases hlt : k < l.length
    · by_cases hlm : (k : Int) < most
      · obtain ⟨b, o, t, hAe, c0, hi⟩ := (HA.out wr HB.out).get (k := k) hlt
        have ht := HZ.out t (List.mem_of_getElem? hi.out)
        have HC := Lib.hid (fun W => claimR_any t W ht)
        rw [hAe]
        clear hAe hi ht
        go_wp2_with fail
        refine (HC.out _).mono ?_
        rintro e w2 ⟨q, rfl, hq, hb⟩
        have HO2 := Lib.hid (own_below HO.out hb)
        have HB2 := Lib.hid (HB.out.trans (hb.mono HB.out.size))
        have HV2 := Lib.hid (show ∀ x ∈ Z ++ [q], clE x = 0 from fun x hx => by
          rcases List.mem_append.1 hx with h | h
          · exact HV.out x h
          · rw [List.mem_singleton.1 h]; exact hq)
        have HZ2 := Lib.hid (show (Z ++ [q]).length = k + 1 from by rw [List.length_append, HZl.out]; rfl)
        clear hb hq HO HB HV HZl HC c0
        have hO := HO2.out
        have hbs := HB2.out.size
        obtain ⟨q1, q2, q3, q4, q5⟩ := q
        simp only [clV]
        go_wp2_with (at_builtin; refine wpList_app2 rfl _ _ rfl elt_cl hO hbs rfl rfl (by simp) rfl rfl (by omega) ?_; intro v2 w3 hown2 hg2 hz2)
        go_roundw
        case rel => exact ⟨k + 1, Z ++ [⟨q1, q2, q3, q4, q5⟩], by omega, by omega, by go_num, HZ2, HV2, Lib.hid (by rw [cC_app]; exact hown2), Lib.hid (HB2.out.grown hg2 hbs (fun j hj => (hO.lt j hj).1))⟩
        case measure => simp [intOf]; omega
      · go_wp2_with fail
        exact bodyPost_ret (v := .slice X k cX) (by simp [results, Try.results27, go_sem]) rfl ⟨Z, _, rfl, allE_iff.2 HV.out, by rw [HZl.out]; omega, by rw [HZl.out]; exact HO.out, HB.out⟩
    · obtain rfl : k = l.length := by omega
      go_wp2_with fail
      exact bodyPost_ret (v := .slice X l.length cX) (by simp [results, Try.results27, go_sem]) rfl ⟨Z, _, rfl, allE_iff.2 HV.out, by rw [HZl.out]; omega, by rw [HZl.out]; exact HO.out, HB.out⟩
end Go.Proofs.Ytgeciimakjfnfaa
