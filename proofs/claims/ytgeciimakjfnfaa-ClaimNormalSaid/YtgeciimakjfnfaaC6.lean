import Derived.Test.YtgeciimakjfnfaaC5
namespace Go.Proofs.Ytgeciimakjfnfaa
open Go.RowKit Go.Maps

/-! The program's Active and the reference's Says, Shown, Active. -/
def actE (l : List Cl) (d : Int) : Int := if allE l = 0 then (if inB d 0 73048 then 0 else 5) else 1
def actR (l : List Cl) (d : Int) : List Cl := if actE l d = 0 then actL l d else []
theorem actE_bad {l : List Cl} {d : Int} (h : allE l = 1) : actE l d = 1 := by rw [actE, if_neg (by omega)]
theorem actE_day {l : List Cl} {d : Int} (h : allE l = 0) (hd : inB d 0 73048 = false) : actE l d = 5 := by rw [actE, if_pos h, hd]; rfl
theorem actE_ok {l : List Cl} {d : Int} (h : allE l = 0) (hd : inB d 0 73048 = true) : actE l d = 0 := by rw [actE, if_pos h, hd]; rfl
theorem inB_iff {n lo hi : Int} : inB n lo hi = true ↔ lo ≤ n ∧ n ≤ hi := by simp [inB]
theorem own_none {w : World} {base : Nat} : w.ownsRow base 24 5 (.slice none 0 0) ([] : List Cl).length (([] : List Cl).flatMap clC) := World.ownsRow_nil _ _ _ _

set_option linter.unusedSimpArgs false in
set_option maxHeartbeats 2000000 in
set_option maxRecDepth 100000 in
theorem Active_any (A : Option Addr) (c : Nat) (l : List Cl) (d : Int) (w : World) (hA : SC w A l) (hl : l.length ≤ 1000000) :
    Calls Try.prog 30 #[.slice A l.length c, .int .i64 d] w fun e w' => ∃ v, e = .returned (.tuple #[v, .int .i64 (actE l d)]) ∧ w'.ownsRow w.heap.size 24 5 v (actR l d).length ((actR l d).flatMap clC) ∧ Below w.heap.size w w' := by
  have HV := Lib.hid (valid_any A c l w hA (by omega))
  have HA := Lib.hid hA
  clear hA
  rcases allE_01 l with he | he
  · rw [he] at HV
    cases hd : inB d 0 73048
    · have HE := Lib.hid (actE_day he hd)
      have HD := Lib.hid (fun W => hd ▸ isDay_any d W)
      have HR := Lib.hid (show actR l d = [] from by rw [actR, HE.out]; rfl)
      clear he hd
      go_enter Try.func30, Try.ntmps30
      go_wp2_with fail
      refine HV.out.mono ?_
      rintro e w1 ⟨rfl, hb⟩
      have HB := Lib.hid hb
      clear hb HV
      go_wp2_with fail
      refine (HD.out _).mono ?_
      rintro e w2 ⟨rfl, rfl⟩
      go_wp2_with fail
      exact bodyPost_ret (v := .tuple #[.slice none 0 0, .int .i64 5]) (by simp [results, Try.results30, go_sem]) rfl ⟨.slice none 0 0, by rw [HE.out], by rw [HR.out]; exact own_none, HB.out⟩
    · have HE := Lib.hid (actE_ok he hd)
      have HD := Lib.hid (fun W => hd ▸ isDay_any d W)
      have HR := Lib.hid (show actR l d = actL l d from by rw [actR, HE.out]; rfl)
      clear he hd
      go_enter Try.func30, Try.ntmps30
      go_wp2_with fail
      refine HV.out.mono ?_
      rintro e w1 ⟨rfl, hb⟩
      have HB := Lib.hid hb
      have HA1 := Lib.hid (SC.below HA.out hb)
      clear hb HV
      go_wp2_with fail
      refine (HD.out _).mono ?_
      rintro e w2 ⟨rfl, rfl⟩
      go_wp2_with fail
      refine (active_any A c l d _ HA1.out hl).mono ?_
      rintro e w3 ⟨v, rfl, hown, hb⟩
      have HO := Lib.hid (own_mono hown HB.out.size)
      have HB2 := Lib.hid (HB.out.trans (hb.mono HB.out.size))
      clear hown hb
      go_wp2_with fail
      exact bodyPost_ret (v := .tuple #[v, .int .i64 0]) (by simp [results, Try.results30, go_sem]) rfl ⟨v, by rw [HE.out], by rw [HR.out]; exact HO.out, HB2.out⟩
  · have HE := Lib.hid (actE_bad (d := d) he)
    have HR := Lib.hid (show actR l d = [] from by rw [actR, HE.out]; rfl)
    rw [he] at HV
    clear he
    go_enter Try.func30, Try.ntmps30
    go_wp2_with fail
    refine HV.out.mono ?_
    rintro e w1 ⟨rfl, hb⟩
    have HB := Lib.hid hb
    clear hb HV
    go_wp2_with fail
    exact bodyPost_ret (v := .tuple #[.slice none 0 0, .int .i64 1]) (by simp [results, Try.results30, go_sem]) rfl ⟨.slice none 0 0, by rw [HE.out], by rw [HR.out]; exact own_none, HB.out⟩

theorem actL_next {l : List Cl} {k : Nat} {t : Cl} (d : Int) (h : l[k]? = some t) : actL (l.take (k + 1)) d = if inB d t.fr t.til then actL (l.take k) d ++ [t] else actL (l.take k) d := by
  unfold actL
  rw [List.take_add_one, h, List.filter_append]
  cases hp : inB d t.fr t.til
  · simp [hp]
  · simp [hp]
theorem actL_len (l : List Cl) (k : Nat) (d : Int) : (actL (l.take k) d).length ≤ k := by
  unfold actL
  have := List.length_filter_le (fun t => inB d t.fr t.til) (l.take k)
  rw [List.length_take] at this
  omega

set_option linter.unusedSimpArgs false in
set_option maxHeartbeats 4000000 in
set_option maxRecDepth 100000 in
theorem refActive_any (A : Option Addr) (c : Nat) (l : List Cl) (d : Int) (w : World) (hA : SC w A l) (hl : l.length ≤ 1000000) :
    Calls Try.prog 31 #[.slice A l.length c, .int .i64 d] w fun e w' => ∃ v, e = .returned (.tuple #[v, .int .i64 (actE l d)]) ∧ w'.ownsRow w.heap.size 24 5 v (actR l d).length ((actR l d).flatMap clC) ∧ Below w.heap.size w w' := by
  have HV := Lib.hid (refAll_any A c l w hA (by omega))
  have HA := Lib.hid (fun (W : World) (h : Below w.heap.size w W) => (show SC W A l from hA.below h))
  clear hA
  rcases allE_01 l with he | he
  · rw [he] at HV
    by_cases hd0 : d < 0
    · have HE := Lib.hid (actE_day (d := d) he (inB_false (by omega)))
      have HR := Lib.hid (show actR l d = [] from by rw [actR, HE.out]; rfl)
      clear he
      go_enter Try.func31, Try.ntmps31
      go_wp2_with fail
      refine HV.out.mono ?_
      rintro e w1 ⟨rfl, hb⟩
      have HB := Lib.hid hb
      clear hb HV
      go_wp2_with fail
      exact bodyPost_ret (v := .tuple #[.slice none 0 0, .int .i64 5]) (by simp [results, Try.results31, go_sem]) rfl ⟨.slice none 0 0, by rw [HE.out], by rw [HR.out]; exact own_none, HB.out⟩
    · by_cases hd1 : d > 73048
      · have HE := Lib.hid (actE_day (d := d) he (inB_false (by omega)))
        have HR := Lib.hid (show actR l d = [] from by rw [actR, HE.out]; rfl)
        clear he
        go_enter Try.func31, Try.ntmps31
        go_wp2_with fail
        refine HV.out.mono ?_
        rintro e w1 ⟨rfl, hb⟩
        have HB := Lib.hid hb
        clear hb HV
        go_wp2_with fail
        exact bodyPost_ret (v := .tuple #[.slice none 0 0, .int .i64 5]) (by simp [results, Try.results31, go_sem]) rfl ⟨.slice none 0 0, by rw [HE.out], by rw [HR.out]; exact own_none, HB.out⟩
      · have HE := Lib.hid (actE_ok (d := d) he (inB_true (by omega)))
        have HR := Lib.hid (show actR l d = actL l d from by rw [actR, HE.out]; rfl)
        clear he
        go_enter Try.func31, Try.ntmps31
        go_wp2_with fail
        refine HV.out.mono ?_
        rintro e w1 ⟨rfl, hb⟩
        have HB := Lib.hid hb
        clear hb HV
        go_wp2_with fail
        go_loopw [6, 7] (fun o i wr => ∃ k : Nat, k ≤ l.length ∧ i = .int .i64 (k : Int) ∧ Hid (wr.ownsRow w.heap.size 24 5 o (actL (l.take k) d).length ((actL (l.take k) d).flatMap clC)) ∧ Hid (Below w.heap.size w wr)) (fun _ i _ => l.length - (intOf i).toNat)
        case atStart => exact ⟨0, by omega, rfl, Lib.hid own_none, HB⟩
        case round =>
          clear HB
          obtain ⟨k, hk, rfl, HO, HB⟩ := hrel
          by_cases hlt : k < l.length
          · obtain ⟨b, of_, t, hAe, c0, c1, c2, c3, c4, hi⟩ := (HA.out wr HB.out).get (k := k) hlt
            have HN := Lib.hid (actL_next d hi.out)
            have hlk := actL_len l k d
            rw [hAe]
            clear hAe
            by_cases h1 : t.fr ≤ d
            · by_cases h2 : d ≤ t.til
              · rw [inB_true ⟨h1, h2⟩] at HN
                have HN2 := Lib.hid (show actL (l.take (k + 1)) d = actL (l.take k) d ++ [t] from HN.out)
                obtain ⟨X, hX⟩ : ∃ X, Hid (actL (l.take k) d = X) := ⟨_, Lib.hid rfl⟩
                rw [hX.out] at HO HN2 hlk
                clear HN
                obtain ⟨xn, hxn⟩ : ∃ z, Hid (X.length = z) := ⟨_, Lib.hid rfl⟩
                rw [hxn.out] at HO hlk
                have hO := HO.out
                have hbs := HB.out.size
                go_wp2_with (at_builtin; refine wpList_app2 (w := wr) rfl _ _ rfl elt_cl hO hbs rfl rfl (by simp) rfl rfl (by omega) ?_; intro v2 w3 hown2 hg2 hz2)
                go_roundw
                case rel => exact ⟨k + 1, by omega, by go_num, Lib.hid (by rw [HN2.out, cC_app, List.length_append, hxn.out]; exact hown2), Lib.hid (HB.out.grown hg2 hbs (fun j hj => (hO.lt j hj).1))⟩
                case measure => simp [intOf]; omega
              · rw [inB_false (fun h => h2 h.2)] at HN
                have HN2 := Lib.hid (show actL (l.take (k + 1)) d = actL (l.take k) d from HN.out)
                clear HN
                go_wp2_with fail
                go_roundw
                case rel => exact ⟨k + 1, by omega, by go_num, Lib.hid (by rw [HN2.out]; exact HO.out), HB⟩
                case measure => simp [intOf]; omega
            · rw [inB_false (fun h => h1 h.1)] at HN
              have HN2 := Lib.hid (show actL (l.take (k + 1)) d = actL (l.take k) d from HN.out)
              clear HN
              go_wp2_with fail
              go_roundw
              case rel => exact ⟨k + 1, by omega, by go_num, Lib.hid (by rw [HN2.out]; exact HO.out), HB⟩
              case measure => simp [intOf]; omega
          · obtain rfl : k = l.length := by omega
            have HO2 := Lib.hid (show wr.ownsRow w.heap.size 24 5 _ (actR l d).length ((actR l d).flatMap clC) from by rw [HR.out]; have := HO.out; rw [List.take_length] at this; exact this)
            clear HO
            go_wp2_with fail
            exact bodyPost_ret (v := .tuple #[_, .int .i64 0]) (by simp [results, Try.results31, go_sem]; rfl) rfl ⟨_, by rw [HE.out], HO2.out, HB.out⟩
  · have HE := Lib.hid (actE_bad (d := d) he)
    have HR := Lib.hid (show actR l d = [] from by rw [actR, HE.out]; rfl)
    rw [he] at HV
    clear he
    go_enter Try.func31, Try.ntmps31
    go_wp2_with fail
    refine HV.out.mono ?_
    rintro e w1 ⟨rfl, hb⟩
    have HB := Lib.hid hb
    clear hb HV
    go_wp2_with fail
    exact bodyPost_ret (v := .tuple #[.slice none 0 0, .int .i64 1]) (by simp [results, Try.results31, go_sem]) rfl ⟨.slice none 0 0, by rw [HE.out], by rw [HR.out]; exact own_none, HB.out⟩
end Go.Proofs.Ytgeciimakjfnfaa
