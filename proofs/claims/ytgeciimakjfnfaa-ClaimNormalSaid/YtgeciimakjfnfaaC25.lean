import Derived.Test.YtgeciimakjfnfaaC24
namespace Go.Proofs.Ytgeciimakjfnfaa
open Go.RowKit Go.Maps

/-- One office against a coalition that begins with it. -/
theorem firstS_one (o : Int) (L : List Cl) : firstS L [o] = decide (saysL o L > 0) := by
  show (if saysL o L ≠ 0 then decide (saysL o L > 0) else false) = _
  split
  · rfl
  · rename_i h
    have : saysL o L = 0 := Classical.byContradiction h
    rw [this]; rfl
theorem shw_sure {k : Int} {os : List Int} {l : List Cl} {d : Int} (hk : k ≠ 2) (hv : vwE k os = 0) (ha : allE l = 0) (hd : inB d 0 73048 = true) : shwE k os l d = 0 ∧ shwR k os l d = firstS (actL l d) os := by
  have h1 : ckE k os l = 0 := by rw [ckE, if_pos hv, ha]
  have h2 : shwE k os l d = 0 := by rw [shwE, if_pos h1, hd]; rfl
  exact ⟨h2, by rw [shwR, if_pos h2, shownD, shownL, if_neg hk]⟩
/-- The coalitions of the statement. -/
def fiveOs : List (List Int) := [[0, 1], [1, 2], [2, 0, 1], [0, 2, 1], [1, 0, 2]]
theorem five_ok : ∀ os ∈ fiveOs, (os.length = 2 ∨ os.length = 3) ∧ vwE 1 os = 0 ∧ vwE 0 (os.take 1) = 0 ∧ vwE 1 (os.drop 1) = 0 ∧ vwE 1 (os.take 1) = 0 := by decide
theorem si_dropB {w : World} {b o : Nat} {zs : List Int} (h : SI w (some ⟨b, o, none⟩) zs) (k : Nat) : SI w (some ⟨b, o + k, none⟩) (zs.drop k) := fun j u hu => by
  rw [List.map_drop, List.getElem?_drop] at hu
  obtain ⟨b', o', e, hb, hc⟩ := h (k + j) u hu
  injection e with e; injection e with e1 e2 e3
  subst e1; subst e2
  exact ⟨b, o + k, rfl, hb, by rw [Nat.add_assoc]; exact hc⟩
theorem si_takeB {w : World} {A : Option Addr} {zs : List Int} (h : SI w A zs) (k : Nat) : SI w A (zs.take k) := fun j u hu => h j u (by
  rw [List.map_take] at hu
  by_cases hj : j < k
  · rwa [List.getElem?_take_of_lt hj] at hu
  · rw [List.getElem?_eq_none (by simp; omega)] at hu; cases hu)
theorem five_si (w1 : World) (o : Obj) : SI ((((((w1.alloc (.cells #[.int .i64 0, .int .i64 1] 3)).alloc (.cells #[.int .i64 1, .int .i64 2] 3)).alloc (.cells #[.int .i64 2, .int .i64 0, .int .i64 1] 3)).alloc (.cells #[.int .i64 0, .int .i64 2, .int .i64 1] 3)).alloc (.cells #[.int .i64 1, .int .i64 0, .int .i64 2] 3)).alloc o) (some ⟨w1.heap.size, 0, none⟩) [0, 1] ∧ SI ((((((w1.alloc (.cells #[.int .i64 0, .int .i64 1] 3)).alloc (.cells #[.int .i64 1, .int .i64 2] 3)).alloc (.cells #[.int .i64 2, .int .i64 0, .int .i64 1] 3)).alloc (.cells #[.int .i64 0, .int .i64 2, .int .i64 1] 3)).alloc (.cells #[.int .i64 1, .int .i64 0, .int .i64 2] 3)).alloc o) (some ⟨w1.heap.size + 1, 0, none⟩) [1, 2] ∧ SI ((((((w1.alloc (.cells #[.int .i64 0, .int .i64 1] 3)).alloc (.cells #[.int .i64 1, .int .i64 2] 3)).alloc (.cells #[.int .i64 2, .int .i64 0, .int .i64 1] 3)).alloc (.cells #[.int .i64 0, .int .i64 2, .int .i64 1] 3)).alloc (.cells #[.int .i64 1, .int .i64 0, .int .i64 2] 3)).alloc o) (some ⟨w1.heap.size + 1 + 1, 0, none⟩) [2, 0, 1] ∧ SI ((((((w1.alloc (.cells #[.int .i64 0, .int .i64 1] 3)).alloc (.cells #[.int .i64 1, .int .i64 2] 3)).alloc (.cells #[.int .i64 2, .int .i64 0, .int .i64 1] 3)).alloc (.cells #[.int .i64 0, .int .i64 2, .int .i64 1] 3)).alloc (.cells #[.int .i64 1, .int .i64 0, .int .i64 2] 3)).alloc o) (some ⟨w1.heap.size + 1 + 1 + 1, 0, none⟩) [0, 2, 1] ∧ SI ((((((w1.alloc (.cells #[.int .i64 0, .int .i64 1] 3)).alloc (.cells #[.int .i64 1, .int .i64 2] 3)).alloc (.cells #[.int .i64 2, .int .i64 0, .int .i64 1] 3)).alloc (.cells #[.int .i64 0, .int .i64 2, .int .i64 1] 3)).alloc (.cells #[.int .i64 1, .int .i64 0, .int .i64 2] 3)).alloc o) (some ⟨w1.heap.size + 1 + 1 + 1 + 1, 0, none⟩) [1, 0, 2] ∧ Below w1.heap.size w1 ((((((w1.alloc (.cells #[.int .i64 0, .int .i64 1] 3)).alloc (.cells #[.int .i64 1, .int .i64 2] 3)).alloc (.cells #[.int .i64 2, .int .i64 0, .int .i64 1] 3)).alloc (.cells #[.int .i64 0, .int .i64 2, .int .i64 1] 3)).alloc (.cells #[.int .i64 1, .int .i64 0, .int .i64 2] 3)).alloc o) := by
  refine ⟨?_, ?_, ?_, ?_, ?_, ?_⟩
  · exact SL.alloc (SL.alloc (SL.alloc (SL.alloc (SL.alloc (sl_bk (Bk.new' w1 3 #[.int .i64 0, .int .i64 1] (g := w1.heap.size) (by simp))) _) _) _) _) _
  · exact SL.alloc (SL.alloc (SL.alloc (SL.alloc (sl_bk (Bk.new' (w1.alloc (.cells #[.int .i64 0, .int .i64 1] 3)) 3 #[.int .i64 1, .int .i64 2] (g := w1.heap.size + 1) (by simp))) _) _) _) _
  · exact SL.alloc (SL.alloc (SL.alloc (sl_bk (Bk.new' ((w1.alloc (.cells #[.int .i64 0, .int .i64 1] 3)).alloc (.cells #[.int .i64 1, .int .i64 2] 3)) 3 #[.int .i64 2, .int .i64 0, .int .i64 1] (g := w1.heap.size + 1 + 1) (by simp))) _) _) _
  · exact SL.alloc (SL.alloc (sl_bk (Bk.new' (((w1.alloc (.cells #[.int .i64 0, .int .i64 1] 3)).alloc (.cells #[.int .i64 1, .int .i64 2] 3)).alloc (.cells #[.int .i64 2, .int .i64 0, .int .i64 1] 3)) 3 #[.int .i64 0, .int .i64 2, .int .i64 1] (g := w1.heap.size + 1 + 1 + 1) (by simp))) _) _
  · exact SL.alloc (sl_bk (Bk.new' ((((w1.alloc (.cells #[.int .i64 0, .int .i64 1] 3)).alloc (.cells #[.int .i64 1, .int .i64 2] 3)).alloc (.cells #[.int .i64 2, .int .i64 0, .int .i64 1] 3)).alloc (.cells #[.int .i64 0, .int .i64 2, .int .i64 1] 3)) 3 #[.int .i64 1, .int .i64 0, .int .i64 2] (g := w1.heap.size + 1 + 1 + 1 + 1) (by simp))) _
  · exact ((((((Below.refl w1.heap.size w1).alloc (by simp; try omega) (.cells #[.int .i64 0, .int .i64 1] 3)).alloc (by simp; try omega) (.cells #[.int .i64 1, .int .i64 2] 3)).alloc (by simp; try omega) (.cells #[.int .i64 2, .int .i64 0, .int .i64 1] 3)).alloc (by simp; try omega) (.cells #[.int .i64 0, .int .i64 2, .int .i64 1] 3)).alloc (by simp; try omega) (.cells #[.int .i64 1, .int .i64 0, .int .i64 2] 3)).alloc (by simp; try omega) o
set_option linter.unusedSimpArgs false in
set_option maxHeartbeats 4000000 in
set_option maxRecDepth 100000 in
theorem claimFirst_walk (A : Option Addr) (c : Nat) (l : List Int) (view day : Int) (w : World) (hA : SI w A l) (hz : W64 l) (hl : l.length ≤ 9223372036854775807) (hv : i64 view) (hd : i64 day) :
    Calls Try.prog 6 #[.slice A l.length c, .int .i64 view, .int .i64 day] w fun e w' => e = .returned (.bool true) ∧ Below w.heap.size w w' := by
  have HC := Lib.hid (claims_any A c l 14 w hA hz hl (by decide) (by decide))
  have hb5 := around_bd view 5 (by decide)
  have hb40 := around_bd day 40 (by decide)
  have H5 := Lib.hid (fun W => around_any view 5 W hv.1 hv.2 (by decide) (by decide))
  have H40 := Lib.hid (fun W => around_any day 40 W hd.1 hd.2 (by decide) (by decide))
  generalize around view 5 = v5 at *
  generalize around day 40 = v40 at *
  obtain ⟨fr, hfr⟩ : ∃ z, z = 95 + v40 := ⟨_, rfl⟩
  obtain rfl : v40 = fr - 95 := by omega
  have h5 : v5 = 0 ∨ v5 = 1 ∨ v5 = 2 ∨ v5 = 3 ∨ v5 = 4 := by omega
  have hfr1 : 95 ≤ fr := by omega
  have hfr2 : fr ≤ 134 := by omega
  have hwr : IntKind.i64.wrap (95 + (fr - 95)) = fr := by rw [show 95 + (fr - 95) = fr by omega]; exact IntWalk.i64_in _ ⟨by omega, by omega⟩
  have hwr2 : IntKind.i64.wrap (fr + 30) = fr + 30 := IntWalk.i64_in _ ⟨by omega, by omega⟩
  clear hA hz hb5 hb40 hfr
  go_enter Try.func6, Try.ntmps6
  go_wp2_with fail
  refine HC.out.mono ?_
  rintro e w1 ⟨L, v, rfl, hv0, hle, hown, hb⟩
  obtain ⟨X, cX, rfl⟩ := own_slice hown
  have HO := Lib.hid hown
  have HB1 := Lib.hid hb
  have HV := Lib.hid hv0
  clear hown hb hv0 HC
  go_upto_region 2 with fail
  go_cut [8] from 8 to 8 (fun v wx => ∃ (B : Nat) (os : List Int), v = .slice (some ⟨B, 0, none⟩) os.length os.length ∧ Hid (os ∈ fiveOs) ∧ Hid (SI wx (some ⟨B, 0, none⟩) os) ∧ Hid (Below w1.heap.size w1 wx))
  case first =>
    go_wp2_with fail
    refine (H5.out _).mono ?_
    rintro e w2 ⟨rfl, rfl⟩
    rcases h5 with rfl | rfl | rfl | rfl | rfl
    · go_wp2_with fail
      go_meet
      exact ⟨_, [0, 1], rfl, Lib.hid (by decide), Lib.hid (five_si w1 _).1, Lib.hid (five_si w1 _).2.2.2.2.2⟩
    · go_wp2_with fail
      go_meet
      exact ⟨_, [1, 2], rfl, Lib.hid (by decide), Lib.hid (five_si w1 _).2.1, Lib.hid (five_si w1 _).2.2.2.2.2⟩
    · go_wp2_with fail
      go_meet
      exact ⟨_, [2, 0, 1], rfl, Lib.hid (by decide), Lib.hid (five_si w1 _).2.2.1, Lib.hid (five_si w1 _).2.2.2.2.2⟩
    · go_wp2_with fail
      go_meet
      exact ⟨_, [0, 2, 1], rfl, Lib.hid (by decide), Lib.hid (five_si w1 _).2.2.2.1, Lib.hid (five_si w1 _).2.2.2.2.2⟩
    · go_wp2_with fail
      go_meet
      exact ⟨_, [1, 0, 2], rfl, Lib.hid (by decide), Lib.hid (five_si w1 _).2.2.2.2.1, Lib.hid (five_si w1 _).2.2.2.2.2⟩
  case rest =>
    clear H5 h5
    obtain ⟨B, os, rfl, HM, HS, HB⟩ := hcut
    obtain ⟨hlen, v1, v2, v3, v4⟩ := five_ok os HM.out
    obtain ⟨hlen, hv1, hv2, hv3, hv4⟩ : (os.length = 2 ∨ os.length = 3) ∧ Hid (vwE 1 os = 0) ∧ Hid (vwE 0 (os.take 1) = 0) ∧ Hid (vwE 1 (os.drop 1) = 0) ∧ Hid (vwE 1 (os.take 1) = 0) := ⟨hlen, Lib.hid v1, Lib.hid v2, Lib.hid v3, Lib.hid v4⟩
    clear v1 v2 v3 v4 HM
    obtain ⟨o, rest, rfl⟩ : ∃ o rest, os = o :: rest := by cases os with | nil => simp at hlen | cons a b => exact ⟨a, b, rfl⟩
    have HBw := Lib.hid (HB1.out.trans (HB.out.mono HB1.out.size))
    have HS1 := Lib.hid (fun (W : World) (h : Below wc.heap.size wc W) => show SI W (some ⟨B, 0, none⟩) (o :: rest) from HS.out.below h)
    have HC1 := Lib.hid (fun (W : World) (h : Below wc.heap.size wc W) => show SC W X L from SC.own (own_below (own_below HO.out HB.out) h))
    have HX1 := Lib.hid (fun (W : World) (h : Below wc.heap.size wc W) => show W.cell? ⟨B, 0, none⟩ = some (.int .i64 o) from by
      obtain ⟨b', o', e, _, hc⟩ := HS1.out W h 0 (.int .i64 o) rfl
      injection e with e; injection e with e1 e2 e3
      subst e1; subst e2
      exact hc)
    clear HS HB HO
    rcases hlen with hlen | hlen
    · have hrl : rest.length = 1 := by simpa using hlen
      have Hrl := Lib.hid hrl
      rw [hlen]
      clear hlen hrl
      go_wp2_with fail
      refine (H40.out _).mono ?_
      rintro e w2 ⟨rfl, rfl⟩
      clear H40
      go_wp2_with fail
      go_loopw [10] (fun v wr => ∃ d : Int, v = .int .i64 d ∧ fr ≤ d ∧ d ≤ fr + 30 ∧ Hid (Below wc.heap.size wc wr)) (fun v _ => (fr + 30 - intOf v).toNat)
      case atStart => exact ⟨fr, rfl, by omega, by omega, Lib.hid (Below.refl _ _)⟩
      case round =>
        obtain ⟨d, rfl, hd1, hd2, HR⟩ := hrel
        by_cases hlt : d < fr + 30
        · have hday : inB d 0 73048 = true := inB_true (by omega)
          have K1 := Lib.hid (fun (W : World) (h : Below wc.heap.size wc W) => show Calls Try.prog 23 #[.agg #[.int .i64 1, .slice (some ⟨B, 0, none⟩) 2 2], .slice X L.length cX, .int .i64 d] W fun e w' => e = .returned (.tuple #[.bool (firstS (actL L d) (o :: rest)), .int .i64 0]) ∧ Below W.heap.size W w' from by
                    have h1 := Shows_any 1 (some ⟨B, 0, none⟩) 2 (o :: rest) X cX L d W (HS1.out W h) (by have := Hrl.out; simp only [List.length_cons]; omega) (HC1.out W h) (by omega)
                    obtain ⟨e1, e2⟩ := shw_sure (k := 1) (os := o :: rest) (l := L) (d := d) (by decide) hv1.out HV.out hday
                    rw [e1, e2, show (o :: rest).length = 2 from by rw [List.length_cons, Hrl.out]] at h1
                    exact h1)
          have K2 := Lib.hid (fun (W : World) (h : Below wc.heap.size wc W) => show Calls Try.prog 23 #[.agg #[.int .i64 0, .slice (some ⟨B, 0, none⟩) 1 2], .slice X L.length cX, .int .i64 d] W fun e w' => e = .returned (.tuple #[.bool (firstS (actL L d) ([o])), .int .i64 0]) ∧ Below W.heap.size W w' from by
                    have h1 := Shows_any 0 (some ⟨B, 0, none⟩) 2 ([o]) X cX L d W (si_takeB (HS1.out W h) 1) (by simp) (HC1.out W h) (by omega)
                    obtain ⟨e1, e2⟩ := shw_sure (k := 0) (os := [o]) (l := L) (d := d) (by decide) hv2.out HV.out hday
                    rw [e1, e2, show [o].length = 1 from rfl] at h1
                    exact h1)
          have K3 := Lib.hid (fun (W : World) (h : Below wc.heap.size wc W) => show Calls Try.prog 23 #[.agg #[.int .i64 1, .slice (some ⟨B, 1, none⟩) 1 1], .slice X L.length cX, .int .i64 d] W fun e w' => e = .returned (.tuple #[.bool (firstS (actL L d) (rest)), .int .i64 0]) ∧ Below W.heap.size W w' from by
                    have h1 := Shows_any 1 (some ⟨B, 1, none⟩) 1 (rest) X cX L d W (by have h2 := si_dropB (HS1.out W h) 1; rw [Nat.zero_add] at h2; exact h2) (by have := Hrl.out; omega) (HC1.out W h) (by omega)
                    obtain ⟨e1, e2⟩ := shw_sure (k := 1) (os := rest) (l := L) (d := d) (by decide) hv3.out HV.out hday
                    rw [e1, e2, Hrl.out] at h1
                    exact h1)
          have K4 := Lib.hid (fun (W : World) (h : Below wc.heap.size wc W) => show Calls Try.prog 23 #[.agg #[.int .i64 1, .slice (some ⟨B, 0, none⟩) 1 2], .slice X L.length cX, .int .i64 d] W fun e w' => e = .returned (.tuple #[.bool (firstS (actL L d) ([o])), .int .i64 0]) ∧ Below W.heap.size W w' from by
                    have h1 := Shows_any 1 (some ⟨B, 0, none⟩) 2 ([o]) X cX L d W (si_takeB (HS1.out W h) 1) (by simp) (HC1.out W h) (by omega)
                    obtain ⟨e1, e2⟩ := shw_sure (k := 1) (os := [o]) (l := L) (d := d) (by decide) hv4.out HV.out hday
                    rw [e1, e2, show [o].length = 1 from rfl] at h1
                    exact h1)
          have K5 := Lib.hid (fun (W : World) (h : Below wc.heap.size wc W) => refSays_any o X cX L d W (HC1.out W h) (by omega))
          have hs3 := saysL_3 o (actL L d)
          have hone := firstS_one o (actL L d)
          have hall : firstS (actL L d) (o :: rest) = if saysL o (actL L d) ≠ 0 then decide (saysL o (actL L d) > 0) else firstS (actL L d) rest := rfl
          generalize firstS (actL L d) (o :: rest) = r1 at *
          generalize firstS (actL L d) [o] = r2 at *
          generalize firstS (actL L d) rest = r3 at *
          generalize saysL o (actL L d) = sy at *
          have hw1 : IntKind.i64.wrap (d + 1) = d + 1 := IntWalk.i64_in _ ⟨by omega, by omega⟩
          clear hday
          have x0 := HX1.out wr HR.out
          rcases hs3 with rfl | rfl | rfl <;> cases r3
          all_goals
            simp at hone hall
            subst hone hall
            clear x0
            go_wp2_with fail
            refine (K1.out _ HR.out).mono ?_
            rintro e wa ⟨rfl, hb⟩
            have Ha := Lib.hid (HR.out.trans (hb.mono HR.out.size))
            clear hb
            go_wp2_with fail
            refine (K2.out _ Ha.out).mono ?_
            rintro e wb ⟨rfl, hb⟩
            have Hb := Lib.hid (Ha.out.trans (hb.mono Ha.out.size))
            clear hb
            go_wp2_with fail
            refine (K3.out _ Hb.out).mono ?_
            rintro e w3 ⟨rfl, hb⟩
            have Hc := Lib.hid (Hb.out.trans (hb.mono Hb.out.size))
            clear hb
            go_wp2_with fail
            refine (K4.out _ Hc.out).mono ?_
            rintro e w4 ⟨rfl, hb⟩
            have Hd := Lib.hid (Hc.out.trans (hb.mono Hc.out.size))
            clear hb
            have x0 := HX1.out w4 Hd.out
            go_wp2_with fail
            refine (K5.out _ Hd.out).mono ?_
            rintro e w5 ⟨rfl, hb⟩
            have He := Lib.hid (Hd.out.trans (hb.mono Hd.out.size))
            clear hb x0
            have x0 := HX1.out w5 He.out
            go_wp2_with fail
            refine (K5.out _ He.out).mono ?_
            rintro e w6 ⟨rfl, hb⟩
            have Hf := Lib.hid (He.out.trans (hb.mono He.out.size))
            clear hb x0
            go_wp2_with fail
            go_roundw
            case rel => exact ⟨d + 1, by go_num, by omega, by omega, Hf⟩
            case measure => simp [intOf]; omega
        · obtain rfl : d = fr + 30 := by omega
          go_wp2_with fail
          refine (lives_any _).mono ?_
          rintro e w3 ⟨rfl, hb⟩
          have HF := Lib.hid (HBw.out.trans ((HR.out.trans (hb.mono HR.out.size)).mono HBw.out.size))
          clear hb
          go_wp2_with fail
          go_ret
          exact ⟨rfl, HF.out⟩
    · have hrl : rest.length = 2 := by simpa using hlen
      have Hrl := Lib.hid hrl
      rw [hlen]
      clear hlen hrl
      go_wp2_with fail
      refine (H40.out _).mono ?_
      rintro e w2 ⟨rfl, rfl⟩
      clear H40
      go_wp2_with fail
      go_loopw [10] (fun v wr => ∃ d : Int, v = .int .i64 d ∧ fr ≤ d ∧ d ≤ fr + 30 ∧ Hid (Below wc.heap.size wc wr)) (fun v _ => (fr + 30 - intOf v).toNat)
      case atStart => exact ⟨fr, rfl, by omega, by omega, Lib.hid (Below.refl _ _)⟩
      case round =>
        obtain ⟨d, rfl, hd1, hd2, HR⟩ := hrel
        by_cases hlt : d < fr + 30
        · have hday : inB d 0 73048 = true := inB_true (by omega)
          have K1 := Lib.hid (fun (W : World) (h : Below wc.heap.size wc W) => show Calls Try.prog 23 #[.agg #[.int .i64 1, .slice (some ⟨B, 0, none⟩) 3 3], .slice X L.length cX, .int .i64 d] W fun e w' => e = .returned (.tuple #[.bool (firstS (actL L d) (o :: rest)), .int .i64 0]) ∧ Below W.heap.size W w' from by
                    have h1 := Shows_any 1 (some ⟨B, 0, none⟩) 3 (o :: rest) X cX L d W (HS1.out W h) (by have := Hrl.out; simp only [List.length_cons]; omega) (HC1.out W h) (by omega)
                    obtain ⟨e1, e2⟩ := shw_sure (k := 1) (os := o :: rest) (l := L) (d := d) (by decide) hv1.out HV.out hday
                    rw [e1, e2, show (o :: rest).length = 3 from by rw [List.length_cons, Hrl.out]] at h1
                    exact h1)
          have K2 := Lib.hid (fun (W : World) (h : Below wc.heap.size wc W) => show Calls Try.prog 23 #[.agg #[.int .i64 0, .slice (some ⟨B, 0, none⟩) 1 3], .slice X L.length cX, .int .i64 d] W fun e w' => e = .returned (.tuple #[.bool (firstS (actL L d) ([o])), .int .i64 0]) ∧ Below W.heap.size W w' from by
                    have h1 := Shows_any 0 (some ⟨B, 0, none⟩) 3 ([o]) X cX L d W (si_takeB (HS1.out W h) 1) (by simp) (HC1.out W h) (by omega)
                    obtain ⟨e1, e2⟩ := shw_sure (k := 0) (os := [o]) (l := L) (d := d) (by decide) hv2.out HV.out hday
                    rw [e1, e2, show [o].length = 1 from rfl] at h1
                    exact h1)
          have K3 := Lib.hid (fun (W : World) (h : Below wc.heap.size wc W) => show Calls Try.prog 23 #[.agg #[.int .i64 1, .slice (some ⟨B, 1, none⟩) 2 2], .slice X L.length cX, .int .i64 d] W fun e w' => e = .returned (.tuple #[.bool (firstS (actL L d) (rest)), .int .i64 0]) ∧ Below W.heap.size W w' from by
                    have h1 := Shows_any 1 (some ⟨B, 1, none⟩) 2 (rest) X cX L d W (by have h2 := si_dropB (HS1.out W h) 1; rw [Nat.zero_add] at h2; exact h2) (by have := Hrl.out; omega) (HC1.out W h) (by omega)
                    obtain ⟨e1, e2⟩ := shw_sure (k := 1) (os := rest) (l := L) (d := d) (by decide) hv3.out HV.out hday
                    rw [e1, e2, Hrl.out] at h1
                    exact h1)
          have K4 := Lib.hid (fun (W : World) (h : Below wc.heap.size wc W) => show Calls Try.prog 23 #[.agg #[.int .i64 1, .slice (some ⟨B, 0, none⟩) 1 3], .slice X L.length cX, .int .i64 d] W fun e w' => e = .returned (.tuple #[.bool (firstS (actL L d) ([o])), .int .i64 0]) ∧ Below W.heap.size W w' from by
                    have h1 := Shows_any 1 (some ⟨B, 0, none⟩) 3 ([o]) X cX L d W (si_takeB (HS1.out W h) 1) (by simp) (HC1.out W h) (by omega)
                    obtain ⟨e1, e2⟩ := shw_sure (k := 1) (os := [o]) (l := L) (d := d) (by decide) hv4.out HV.out hday
                    rw [e1, e2, show [o].length = 1 from rfl] at h1
                    exact h1)
          have K5 := Lib.hid (fun (W : World) (h : Below wc.heap.size wc W) => refSays_any o X cX L d W (HC1.out W h) (by omega))
          have hs3 := saysL_3 o (actL L d)
          have hone := firstS_one o (actL L d)
          have hall : firstS (actL L d) (o :: rest) = if saysL o (actL L d) ≠ 0 then decide (saysL o (actL L d) > 0) else firstS (actL L d) rest := rfl
          generalize firstS (actL L d) (o :: rest) = r1 at *
          generalize firstS (actL L d) [o] = r2 at *
          generalize firstS (actL L d) rest = r3 at *
          generalize saysL o (actL L d) = sy at *
          have hw1 : IntKind.i64.wrap (d + 1) = d + 1 := IntWalk.i64_in _ ⟨by omega, by omega⟩
          clear hday
          have x0 := HX1.out wr HR.out
          rcases hs3 with rfl | rfl | rfl <;> cases r3
          all_goals
            simp at hone hall
            subst hone hall
            clear x0
            go_wp2_with fail
            refine (K1.out _ HR.out).mono ?_
            rintro e wa ⟨rfl, hb⟩
            have Ha := Lib.hid (HR.out.trans (hb.mono HR.out.size))
            clear hb
            go_wp2_with fail
            refine (K2.out _ Ha.out).mono ?_
            rintro e wb ⟨rfl, hb⟩
            have Hb := Lib.hid (Ha.out.trans (hb.mono Ha.out.size))
            clear hb
            go_wp2_with fail
            refine (K3.out _ Hb.out).mono ?_
            rintro e w3 ⟨rfl, hb⟩
            have Hc := Lib.hid (Hb.out.trans (hb.mono Hb.out.size))
            clear hb
            go_wp2_with fail
            refine (K4.out _ Hc.out).mono ?_
            rintro e w4 ⟨rfl, hb⟩
            have Hd := Lib.hid (Hc.out.trans (hb.mono Hc.out.size))
            clear hb
            have x0 := HX1.out w4 Hd.out
            go_wp2_with fail
            refine (K5.out _ Hd.out).mono ?_
            rintro e w5 ⟨rfl, hb⟩
            have He := Lib.hid (Hd.out.trans (hb.mono Hd.out.size))
            clear hb x0
            have x0 := HX1.out w5 He.out
            go_wp2_with fail
            refine (K5.out _ He.out).mono ?_
            rintro e w6 ⟨rfl, hb⟩
            have Hf := Lib.hid (He.out.trans (hb.mono He.out.size))
            clear hb x0
            go_wp2_with fail
            go_roundw
            case rel => exact ⟨d + 1, by go_num, by omega, by omega, Hf⟩
            case measure => simp [intOf]; omega
        · obtain rfl : d = fr + 30 := by omega
          go_wp2_with fail
          refine (lives_any _).mono ?_
          rintro e w3 ⟨rfl, hb⟩
          have HF := Lib.hid (HBw.out.trans ((HR.out.trans (hb.mono HR.out.size)).mono HBw.out.size))
          clear hb
          go_wp2_with fail
          go_ret
          exact ⟨rfl, HF.out⟩
end Go.Proofs.Ytgeciimakjfnfaa
