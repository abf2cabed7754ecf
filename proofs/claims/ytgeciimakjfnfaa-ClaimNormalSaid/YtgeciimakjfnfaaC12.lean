import Derived.Test.YtgeciimakjfnfaaC11
namespace Go.Proofs.Ytgeciimakjfnfaa
open Go.RowKit Go.Maps

def nrmE (l : List Cl) : Int := if allE l = 0 then (if (NF l).length ≤ 64 then 0 else 4) else 1
def nrmR (l : List Cl) : List Cl := if nrmE l = 0 then NF l else []
theorem nrmE_bad {l : List Cl} (h : allE l = 1) : nrmE l = 1 ∧ nrmR l = [] := by
  have : nrmE l = 1 := by rw [nrmE, if_neg (by omega)]
  exact ⟨this, by rw [nrmR, this]; rfl⟩
theorem nrmE_many {l : List Cl} (h : allE l = 0) (h2 : ¬ (NF l).length ≤ 64) : nrmE l = 4 ∧ nrmR l = [] := by
  have : nrmE l = 4 := by rw [nrmE, if_pos h, if_neg h2]
  exact ⟨this, by rw [nrmR, this]; rfl⟩
theorem nrmE_ok {l : List Cl} (h : allE l = 0) (h2 : (NF l).length ≤ 64) : nrmE l = 0 ∧ nrmR l = NF l := by
  have : nrmE l = 0 := by rw [nrmE, if_pos h, if_pos h2]
  exact ⟨this, by rw [nrmR, this]; rfl⟩
theorem NF_next {l : List Cl} {k : Nat} {t : Cl} (h : l[k]? = some t) : NF (l.take (k + 1)) = putC (NF (l.take k)) t := by
  rw [List.take_add_one, h]; exact NF_snoc _ _

set_option linter.unusedSimpArgs false in
set_option maxHeartbeats 4000000 in
set_option maxRecDepth 100000 in
theorem refNormal_any (A : Option Addr) (c : Nat) (l : List Cl) (w : World) (hA : SC w A l) (hl : l.length ≤ 100000) :
    Calls Try.prog 21 #[.slice A l.length c] w fun e w' => ∃ v, e = .returned (.tuple #[v, .int .i64 (nrmE l)]) ∧ w'.ownsRow w.heap.size 24 5 v (nrmR l).length ((nrmR l).flatMap clC) ∧ Below w.heap.size w w' := by
  have HV := Lib.hid (refAll_any A c l w hA (by omega))
  have HA := Lib.hid (fun (W : World) (h : Below w.heap.size w W) => (show SC W A l from hA.below h))
  clear hA
  rcases allE_01 l with he | he
  · rw [he] at HV
    have Hal := Lib.hid he
    have Hvl := Lib.hid (allE_iff.1 he)
    clear he
    go_enter Try.func21, Try.ntmps21
    go_wp2_with fail
    refine HV.out.mono ?_
    rintro e w1 ⟨rfl, hb⟩
    have HB := Lib.hid hb
    clear hb HV
    go_wp2_with fail
    go_loopw [4, 5] (fun o i wr => ∃ (k m : Nat) (Z : List Cl), k ≤ l.length ∧ i = .int .i64 (k : Int) ∧ m ≤ k ∧ Hid (NF (l.take k) = Z) ∧ Hid (Z.length = m) ∧ Hid (wr.ownsRow w.heap.size 24 5 o m (Z.flatMap clC)) ∧ Hid (Below w.heap.size w wr)) (fun _ i _ => l.length - (intOf i).toNat)
    case atStart => exact ⟨0, 0, [], by omega, rfl, by omega, Lib.hid rfl, Lib.hid rfl, Lib.hid (World.ownsRow_nil _ _ _ _), HB⟩
    case round =>
      clear HB
      obtain ⟨k, m, Z, hk, rfl, hm, HZ, HM, HO, HB⟩ := hrel
      obtain ⟨X, cX, rfl⟩ := own_slice HO.out
      by_cases hlt : k < l.length
      · obtain ⟨b, o, t, hAe, c0, c1, c2, c3, c4, hi⟩ := (HA.out wr HB.out).get (k := k) hlt
        have hnv := NF_nv (l.take k) (fun q hq => Hvl.out q (List.mem_of_mem_take hq))
        have HP := Lib.hid (put_any X cX Z t wr (SC.own HO.out) (by rw [HM.out]; omega) (by rw [← HZ.out]; exact hnv.vl) (Hvl.out t (List.mem_of_getElem? hi.out)))
        rw [HM.out] at HP
        have HZ2 := Lib.hid (show NF (l.take (k + 1)) = putC Z t from by rw [NF_next hi.out, HZ.out])
        have hm2 : (putC Z t).length ≤ k + 1 := by
          have := (NF_nv (l.take (k + 1)) (fun q hq => Hvl.out q (List.mem_of_mem_take hq))).le
          rw [HZ2.out, List.length_take] at this
          omega
        obtain ⟨m2, hm2e⟩ : ∃ z, Hid ((putC Z t).length = z) := ⟨_, Lib.hid rfl⟩
        rw [hm2e.out] at hm2 HP
        rw [hAe]
        clear hAe hi hnv HZ
        go_wp2_with fail
        refine HP.out.mono ?_
        rintro e w2 ⟨v, rfl, hown, hb⟩
        have HO2 := Lib.hid (own_mono hown HB.out.size)
        have HB2 := Lib.hid (HB.out.trans (hb.mono HB.out.size))
        clear hown hb HP HO HB c0 c1 c2 c3 c4
        go_wp2_with fail
        go_roundw
        case rel => exact ⟨k + 1, m2, putC Z t, by omega, by go_num, hm2, HZ2, hm2e, HO2, HB2⟩
        case measure => simp [intOf]; omega
      · obtain rfl : k = l.length := by omega
        have HZ2 := Lib.hid (show NF l = Z from by have := HZ.out; rw [List.take_length] at this; exact this)
        by_cases h64 : m ≤ 64
        · have hE := nrmE_ok Hal.out (by rw [HZ2.out, HM.out]; exact h64)
          have HE := Lib.hid hE.1
          have HR := Lib.hid (show nrmR l = Z from by rw [hE.2, HZ2.out])
          have h64' : ¬ ((m : Int) > 64) := by omega
          clear hE HZ
          go_wp2_with fail
          exact bodyPost_ret (v := .tuple #[.slice X m cX, .int .i64 0]) (by simp [results, Try.results21, go_sem]) rfl ⟨_, by rw [HE.out], by rw [HR.out, HM.out]; exact HO.out, HB.out⟩
        · have hE := nrmE_many Hal.out (by rw [HZ2.out, HM.out]; exact h64)
          have HE := Lib.hid hE.1
          have HR := Lib.hid hE.2
          have h64' : (m : Int) > 64 := by omega
          clear hE HZ
          go_wp2_with fail
          exact bodyPost_ret (v := .tuple #[.slice none 0 0, .int .i64 4]) (by simp [results, Try.results21, go_sem]) rfl ⟨_, by rw [HE.out], by rw [HR.out]; exact own_none, HB.out⟩
  · have hE := nrmE_bad he
    have HE := Lib.hid hE.1
    have HR := Lib.hid hE.2
    rw [he] at HV
    clear he hE
    go_enter Try.func21, Try.ntmps21
    go_wp2_with fail
    refine HV.out.mono ?_
    rintro e w1 ⟨rfl, hb⟩
    have HB := Lib.hid hb
    clear hb HV
    go_wp2_with fail
    exact bodyPost_ret (v := .tuple #[.slice none 0 0, .int .i64 1]) (by simp [results, Try.results21, go_sem]) rfl ⟨_, by rw [HE.out], by rw [HR.out]; exact own_none, HB.out⟩
end Go.Proofs.Ytgeciimakjfnfaa
