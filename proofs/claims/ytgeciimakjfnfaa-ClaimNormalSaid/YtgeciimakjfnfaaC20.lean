import Derived.Test.YtgeciimakjfnfaaC19
import Derived.Test.YtgeciimakjfnfaaC11
namespace Go.Proofs.Ytgeciimakjfnfaa
open Go.RowKit Go.Maps

def prC (l : List (Int × Int)) : List Value := l.flatMap fun p => [.int .i64 p.1, .int .i64 p.2]
theorem prC_len : ∀ l : List (Int × Int), (prC l).length = l.length * 2
  | [] => rfl
  | t :: l => by show (prC l).length + 1 + 1 = _; rw [prC_len l, List.length_cons]; omega
theorem prC_app (l m : List (Int × Int)) : prC (l ++ m) = prC l ++ prC m := List.flatMap_append ..
theorem prC_at : ∀ (l : List (Int × Int)) (k : Nat) (t : Int × Int), l[k]? = some t → (prC l)[k * 2]? = some (.int .i64 t.1) ∧ (prC l)[k * 2 + 1]? = some (.int .i64 t.2)
  | [], k, t, h => by simp at h
  | u :: l, 0, t, h => by
    obtain rfl : u = t := by simpa using h
    exact ⟨rfl, rfl⟩
  | u :: l, k + 1, t, h => by
    have := prC_at l k t (by simpa using h)
    have e : prC (u :: l) = .int .i64 u.1 :: .int .i64 u.2 :: prC l := rfl
    rw [e, show (k + 1) * 2 = k * 2 + 1 + 1 by omega]
    simpa using this
theorem prC_til (u : List (Int × Int)) (p : Int × Int) (t : Int) (m : Nat) (h : u.length = m) : (prC (u ++ [p])).set (m * 2 + 1) (.int .i64 t) = prC (u ++ [(p.1, t)]) := by
  rw [prC_app, prC_app, List.set_append_right _ _ (by rw [prC_len]; omega), prC_len, show m * 2 + 1 - u.length * 2 = 1 by omega]
  rfl
theorem elt_pr : Elt Try.prog 45 49 (.agg #[.int .i64 0, .int .i64 0]) 2 16 := Elt.mk' Try.underlying45 (by kernel_rfl) (by decide) (by decide) rfl
theorem own_cellsP {w : World} {base g n c j : Nat} {l : List (Int × Int)} {t : Int × Int} (h : w.ownsRow base 49 2 (.slice (some ⟨g, 0, none⟩) n c) n (prC l)) (hj : l[j]? = some t) :
    w.cell? ⟨g, j * 2, none⟩ = some (.int .i64 t.1) ∧ w.cell? ⟨g, j * 2 + 1, none⟩ = some (.int .i64 t.2) ∧ ∀ i, w.frozen? ⟨g, i, none⟩ = false := by
  obtain ⟨cur, hb, hc⟩ := own_bk2 h
  obtain ⟨h1, h2⟩ := prC_at l j t hj
  have hl : l.length = n := by have := h.1; rw [prC_len] at this; omega
  have hjn : j < n := by have := (List.getElem?_eq_some_iff.1 hj).1; omega
  rw [← hc, List.getElem?_take_of_lt (by omega)] at h1 h2
  exact ⟨by rw [hb.cell]; simpa using h1, by rw [hb.cell]; simpa using h2, fun i => hb.frozen _⟩
/-- The days on which something begins or has ended. -/
def bnd (l : List Cl) : List Int := [0, 73049] ++ l.flatMap fun c => [c.fr, c.til + 1]
theorem bnd_snoc {l : List Cl} {k : Nat} {t : Cl} (h : l[k]? = some t) : bnd (l.take (k + 1)) = bnd (l.take k) ++ [t.fr, t.til + 1] := by
  unfold bnd
  rw [take_snoc' h, List.flatMap_append, List.append_assoc]
  rfl
theorem bnd_len (l : List Cl) : (bnd l).length = 2 + l.length * 2 := by
  unfold bnd
  rw [List.length_append]
  congr 1
  induction l with
  | nil => rfl
  | cons c l ih => rw [List.flatMap_cons, List.length_append, ih]; simp; omega
def dys (l : List Cl) : List Int := cmpZ (srt (bnd l))
theorem dys_td (l : List Cl) : TD l (dys l) := by
  obtain ⟨h1, h2⟩ := cmpZ_spec (bnd l)
  refine ⟨h1, fun x => ?_⟩
  rw [dys, h2 x]
  unfold bnd turnD
  simp only [List.mem_append, List.mem_cons, List.not_mem_nil, or_false, List.mem_flatMap]
  constructor
  · rintro ((rfl | rfl) | ⟨c, hc, h⟩)
    · exact .inl rfl
    · exact .inr (.inl rfl)
    · exact .inr (.inr ⟨c, hc, h⟩)
  · rintro (rfl | rfl | ⟨c, hc, h⟩)
    · exact .inl (.inl rfl)
    · exact .inl (.inr rfl)
    · exact .inr ⟨c, hc, h⟩
def dayL (k : Int) (os : List Int) (l : List Cl) : List (Int × Int) := if ckE k os l = 0 then daysAll (fun d => shownD k os l d) (dys l) else []
theorem own_nonP {w : World} {base : Nat} : w.ownsRow base 49 2 (.slice none 0 0) ([] : List (Int × Int)).length (prC []) := World.ownsRow_nil _ _ _ _

set_option linter.unusedSimpArgs false in
set_option maxHeartbeats 16000000 in
set_option maxRecDepth 100000 in
theorem days_any (k : Int) (B : Option Addr) (cb : Nat) (os : List Int) (A : Option Addr) (c : Nat) (l : List Cl) (w : World) (hB : SI w B os) (hos : os.length ≤ 1000000) (hA : SC w A l) (hl : l.length ≤ 100000) :
    Calls Try.prog 24 #[.agg #[.int .i64 k, .slice B os.length cb], .slice A l.length c] w fun e w' => ∃ v, e = .returned (.tuple #[v, .int .i64 (ckE k os l)]) ∧ w'.ownsRow w.heap.size 49 2 v (dayL k os l).length (prC (dayL k os l)) ∧ Below w.heap.size w w' := by
  have hb0 := (Below.refl w.heap.size w).alloc (Nat.le_refl _) (.cells #[.int .i64 k, .slice B os.length cb] 28)
  have HV := Lib.hid (Bk.new w 28 #[.int .i64 k, .slice B os.length cb])
  have v0 : (w.alloc (.cells #[.int .i64 k, .slice B os.length cb] 28)).cell? ⟨w.heap.size, 0, none⟩ = some (.int .i64 k) := HV.out.cell 0
  have v1 : (w.alloc (.cells #[.int .i64 k, .slice B os.length cb] 28)).cell? ⟨w.heap.size, 1, none⟩ = some (.slice B os.length cb) := HV.out.cell 1
  have HA := Lib.hid (SC.below hA hb0)
  have HI := Lib.hid (SI.below hB hb0)
  have HB := Lib.hid hb0
  have HZ := Lib.hid (show w.heap.size < (w.alloc (.cells #[.int .i64 k, .slice B os.length cb] 28)).heap.size from by simp)
  have HA0 := Lib.hid hA
  have HI0 := Lib.hid hB
  have HC := Lib.hid (check_any k B cb os A c l _ HI.out hos HA.out (by omega))
  clear hA hB hb0
  rcases ckE_01 k os l with he | he
  · have HR := Lib.hid (show dayL k os l = daysAll (fun d => shownD k os l d) (dys l) from if_pos he)
    have Hvl := Lib.hid (allE_iff.1 (ckE_iff.1 he).2)
    rw [he] at HC ⊢
    clear he
    go_enter Try.func24, Try.ntmps24
    go_wp2_with fail
    refine HC.out.mono ?_
    generalize w.alloc (.cells #[.int .i64 k, .slice B os.length cb] 28) = W0 at *
    rintro e w1 ⟨rfl, hb⟩
    have hz1 := hb.size
    have hbL := (hb.mono (Nat.le_of_lt HZ.out)).alloc (by have := HZ.out; omega) (.cells (rowI [0, 73049]) 3)
    have HB1 := Lib.hid (HB.out.trans hbL)
    obtain ⟨M, hM⟩ : ∃ q, Hid (w1.heap.size = q) := ⟨_, Lib.hid rfl⟩
    obtain ⟨n, hn⟩ : ∃ q, Hid (l.length = q) := ⟨_, Lib.hid rfl⟩
    obtain ⟨N, hN⟩ : ∃ q, Hid (w.heap.size = q) := ⟨_, Lib.hid rfl⟩
    have hNM : N < M := by rw [← hN.out, ← hM.out]; have := HZ.out; omega
    have HV1 := Lib.hid (show Bk (w1.alloc (.cells (rowI [0, 73049]) 3)) N 28 #[.int .i64 k, .slice B os.length cb] from hN.out ▸ (HV.out.below hb HV.out.lt).alloc _)
    have HO1 := Lib.hid (own_row (base := M) (Bk.new' w1 3 (rowI [0, 73049]) hM.out) (Nat.le_refl _) (by decide))
    have HM1 := Lib.hid (show M ≤ (w1.alloc (.cells (rowI [0, 73049]) 3)).heap.size from by rw [← hM.out]; simp)
    rw [hn.out] at hl
    rw [hN.out] at HB1
    clear hb hbL v0 v1 HC HB HA HI HV HZ hz1
    simp only [hn.out, hN.out]
    go_wp2_with fail
    simp only [hM.out]
    have hrI : (rowI [0, 73049]) = #[.int .i64 0, .int .i64 73049] := rfl
    rw [hrI] at HB1 HV1 HO1 HM1
    clear hrI
    generalize w1.alloc (.cells #[.int .i64 0, .int .i64 73049] 3) = W1 at *
    have HBw := Lib.hid (fun (W : World) (h : Below M W1 W) => show Below N w W from HB1.out.trans (h.mono (Nat.le_of_lt hNM)))
    have HAf := Lib.hid (fun (W : World) (h : Below M W1 W) => show SC W A l from HA0.out.below (hN.out.symm ▸ HBw.out W h))
    have HIf := Lib.hid (fun (W : World) (h : Below M W1 W) => show SI W B os from HI0.out.below (hN.out.symm ▸ HBw.out W h))
    have HVf := Lib.hid (fun (W : World) (h : Below M W1 W) => show Bk W N 28 #[.int .i64 k, .slice B os.length cb] from HV1.out.below h hNM)
    go_loopw [7, 24] (fun dv iv wr => ∃ (j m : Nat) (Z : List Int), j ≤ n ∧ iv = .int .i64 (j : Int) ∧ m = 2 + j * 2 ∧ Hid (bnd (l.take j) = Z) ∧ Hid (wr.ownsRow M 3 1 dv m (Z.map (Value.int .i64))) ∧ Hid (Below M W1 wr) ∧ Hid (M ≤ wr.heap.size)) (fun _ iv _ => n - (intOf iv).toNat)
    case atStart => exact ⟨0, 2, [0, 73049], by omega, rfl, rfl, Lib.hid rfl, HO1, Lib.hid (Below.refl _ _), HM1⟩
    case round =>
      clear HO1 HM1
      obtain ⟨j, m, Z, hj, rfl, hm, HZ, HO, HBr, HMr⟩ := hrel
      by_cases hlt : j < n
      · obtain ⟨b, o, t, hAe, a0, a1, a2, a3, a4, hi⟩ := (HAf.out wr HBr.out).get (k := j) (by rw [hn.out]; exact hlt)
        have htv := clE_iff.1 (Hvl.out t (List.mem_of_getElem? hi.out))
        have HZ2 := Lib.hid (show bnd (l.take (j + 1)) = Z ++ [t.fr, t.til + 1] from by rw [bnd_snoc hi.out, HZ.out])
        have hw : IntKind.i64.wrap (t.til + 1) = t.til + 1 := IntWalk.i64_in _ ⟨by omega, by omega⟩
        have hnj : ¬ (n ≤ j) := by omega
        have hbx := boxC t wr
        have hkx := boxC_k t wr
        have x2 : (wr.alloc (.cells #[.int .i64 t.kind, .int .i64 t.office, .int .i64 t.fr, .int .i64 t.til, .int .i64 t.dec] 24)).cell? ⟨wr.heap.size, 2, none⟩ = some (.int .i64 t.fr) := hkx.cell 2
        have x3 : (wr.alloc (.cells #[.int .i64 t.kind, .int .i64 t.office, .int .i64 t.fr, .int .i64 t.til, .int .i64 t.dec] 24)).cell? ⟨wr.heap.size, 3, none⟩ = some (.int .i64 t.til) := hkx.cell 3
        have hO := (HO.out.alloc (.cells #[.int .i64 t.kind, .int .i64 t.office, .int .i64 t.fr, .int .i64 t.til, .int .i64 t.dec] 24)).alloc (.cells #[.int .i64 t.fr, .int .i64 (t.til + 1)] 3)
        have hsl := sl_bk (Bk.new' (wr.alloc (.cells #[.int .i64 t.kind, .int .i64 t.office, .int .i64 t.fr, .int .i64 t.til, .int .i64 t.dec] 24)) 3 #[.int .i64 t.fr, .int .i64 (t.til + 1)] (g := wr.heap.size + 1) (by simp))
        have hz : M ≤ ((wr.alloc (.cells #[.int .i64 t.kind, .int .i64 t.office, .int .i64 t.fr, .int .i64 t.til, .int .i64 t.dec] 24)).alloc (.cells #[.int .i64 t.fr, .int .i64 (t.til + 1)] 3)).heap.size := by have := HMr.out; simp; omega
        have HB2 := Lib.hid ((HBr.out.alloc HMr.out (.cells #[.int .i64 t.kind, .int .i64 t.office, .int .i64 t.fr, .int .i64 t.til, .int .i64 t.dec] 24)).alloc (by have := HMr.out; simp; omega) (.cells #[.int .i64 t.fr, .int .i64 (t.til + 1)] 3))
        rw [hAe]
        clear hAe hi hbx hkx HZ
        go_wp2_with (at_builtin; refine wpList_appM (w := (wr.alloc (.cells #[.int .i64 t.kind, .int .i64 t.office, .int .i64 t.fr, .int .i64 t.til, .int .i64 t.dec] 24)).alloc (.cells #[.int .i64 t.fr, .int .i64 (t.til + 1)] 3)) (us := [.int .i64 t.fr, .int .i64 (t.til + 1)]) (m := 2) rfl _ _ rfl elt_int hO hz rfl rfl hsl rfl rfl (by omega) ?_; intro v2 w3 hown2 hg2)
        have HO3 := Lib.hid (show w3.ownsRow M 3 1 v2 (m + 2) ((Z ++ [t.fr, t.til + 1]).map (Value.int .i64)) from by rw [List.map_append]; exact hown2)
        have HB3 := Lib.hid (HB2.out.grown hg2 hz (fun q hq => (hO.lt q hq).1))
        have HM3 := Lib.hid (Nat.le_trans hz hg2.size)
        clear hown2 hg2 hO hsl hz x2 x3 a0 a1 a2 a3 a4
        go_roundw
        case rel => exact ⟨j + 1, m + 2, _, by omega, by go_num, by omega, HZ2, HO3, HB3, HM3⟩
        case measure => simp [intOf]; omega
      · obtain rfl : j = n := by omega
        have HZl := Lib.hid (show bnd l = Z from by have h := HZ.out; rw [List.take_of_length_le (by rw [hn.out]; exact Nat.le_refl _)] at h; exact h)
        clear HZ hlt
        go_wp2_with fail
        refine (sortI_any HO.out (by omega)).mono ?_
        rintro e w2 ⟨rfl, hown, hg⟩
        have HO2 := Lib.hid hown
        have HB2 := Lib.hid (HBr.out.grown hg HMr.out (fun q hq => (HO.out.lt q hq).1))
        have HM2 := Lib.hid (Nat.le_trans HMr.out hg.size)
        clear hown hg HO HBr HMr
        go_wp2_with fail
        refine (compactI_any HO2.out (by omega)).mono ?_
        rintro e w3 ⟨v3, rfl, hown, hg⟩
        have HB3 := Lib.hid (HB2.out.grown hg HM2.out (fun q hq => (HO2.out.lt q hq).1))
        have HM3 := Lib.hid (Nat.le_trans HM2.out hg.size)
        obtain ⟨D, cD, rfl⟩ := own_slice hown
        obtain ⟨ds, hds⟩ : ∃ q, Hid (dys l = q) := ⟨_, Lib.hid rfl⟩
        have hdz : cmpZ (srt Z) = ds := by rw [← hds.out, ← HZl.out]; rfl
        have HT := Lib.hid (hds.out ▸ dys_td l)
        obtain ⟨e, hde⟩ : ∃ e, ds.length = e + 1 := ⟨ds.length - 1, by have := HT.out.two; omega⟩
        have he1 : 1 ≤ e := by have := HT.out.two; omega
        have hdl : e + 1 ≤ 1000000 := by
          have h1 := cmpZ_le (srt (bnd l))
          rw [srt_len, bnd_len, hn.out] at h1
          have h2 : (cmpZ (srt (bnd l))).length = e + 1 := by rw [← hde, ← hds.out]; rfl
          omega
        rw [hdz, hde] at hown
        have hcap := own_cap hown
        have HD := Lib.hid hown
        have Hde := Lib.hid hde
        rw [hds.out] at HR
        rw [hdz, hde]
        clear hown hg hdz hde HO2 HB2 HM2 hm HZl
        have hwe : IntKind.i64.wrap ((e : Int) + 1 - 1) = (e : Int) := by rw [show (e : Int) + 1 - 1 = (e : Int) by omega]; exact IntWalk.i64_in _ ⟨by omega, by omega⟩
        have hcz : ¬ (cD < e) := by omega
        have hcy : ¬ ((cD : Int) < (e : Int)) := by omega
        have hcw : ¬ ((e : Int) < 0) := by omega
        have hcv : ¬ ((e : Int) + 1 < (e : Int)) := by omega
        have hcu : ¬ (e + 1 < e) := by omega
        go_wp2_with fail
        obtain ⟨M3, hM3⟩ : ∃ q, Hid (w3.heap.size = q) := ⟨_, Lib.hid rfl⟩
        have HMM := Lib.hid (show M ≤ M3 from by rw [← hM3.out]; exact HM3.out)
        have HB4 := Lib.hid (fun (W : World) (h : Below M3 w3 W) => show Below M W1 W from HB3.out.trans (h.mono HMM.out))
        have HDf := Lib.hid (fun (W : World) (h : Below M3 w3 W) => show SI W D ds from own_si (own_below HD.out (hM3.out.symm ▸ h)))
        have Hsh := Lib.hid (show dayL k os l = daysF (fun d => shownD k os l d) ds e from by rw [HR.out, daysAll, Hde.out]; rfl)
        clear HB3 HM3 HD hwe hcz hcy hcw hcv hcu
        go_loopw [10, 47] (fun ov iv wx => ∃ (i m : Nat) (Y : List (Int × Int)), i ≤ e ∧ iv = .int .i64 (i : Int) ∧ m ≤ i ∧ Hid (daysF (fun d => shownD k os l d) ds i = Y) ∧ Hid (Y.length = m) ∧ Hid (wx.ownsRow M3 49 2 ov m (prC Y)) ∧ Hid (Below M3 w3 wx) ∧ Hid (M3 ≤ wx.heap.size)) (fun _ iv _ => e - (intOf iv).toNat)
        case atStart => exact ⟨0, 0, [], by omega, rfl, by omega, Lib.hid rfl, Lib.hid rfl, Lib.hid (World.ownsRow_nil _ _ _ _), Lib.hid (Below.refl _ _), Lib.hid (Nat.le_of_eq hM3.out.symm)⟩
        case round =>
          obtain ⟨i, m, Y, hi, rfl, hmi, HY, Hm, HO, HBx, HMx⟩ := hrel
          obtain ⟨OA, oc, rfl⟩ := own_slice HO.out
          by_cases hlt : i < e
          · obtain ⟨bd, od, d, hDe, c0, hd⟩ := (HDf.out wr HBx.out).get (k := i) (by rw [Hde.out]; omega)
            obtain ⟨bd2, od2, d2, hDe2, c1, hd2⟩ := (HDf.out wr HBx.out).get (k := i + 1) (by rw [Hde.out]; omega)
            rw [hDe] at hDe2
            injection hDe2 with hDe2
            injection hDe2 with q1 q2
            subst q1 q2
            have hdr := HT.out.rng Hvl.out (List.mem_of_getElem? hd.out)
            have hdr2 := HT.out.rng Hvl.out (List.mem_of_getElem? hd2.out)
            have hnx : ¬ (e ≤ i) := by omega
            obtain ⟨sh, hsh⟩ : ∃ q, Hid (shownD k os l d = q) := ⟨_, Lib.hid rfl⟩
            have HSh := Lib.hid (show shownL k os (actL l d) = sh from hsh.out)
            have HYn := Lib.hid (show daysF (fun d => shownD k os l d) ds (i + 1) = if sh then stepD Y d (d2 - 1) else Y from by
              rw [daysF_succ, HY.out, getD_of hd.out, getD_of hd2.out, hsh.out])
            have hbd := Below.refl wr.heap.size wr
            have HXb := Lib.hid (show Below M3 w3 wr.drew from HBx.out.drew)
            have HX2 := Lib.hid (show Below wr.heap.size wr wr.drew from (Below.refl _ wr).drew)
            have HV2 := Lib.hid (HVf.out _ (HB4.out _ HXb.out))
            have HA2 := Lib.hid (HAf.out _ (HB4.out _ HXb.out))
            have HI2 := Lib.hid (HIf.out _ (HB4.out _ HXb.out))
            have HAc := Lib.hid (fun W (h : SC W A l) => active_any A c l d W h (by rw [hn.out]; omega))
            rw [hn.out] at HAc
            rw [hDe]
            have Hc := Lib.hid c1
            clear hDe hd hd2 hbd HY hsh c1
            go_upto_region 16 with fail
            refine wp_region_noPanic ?_
            refine region_H (S := fun W => W.cell? ⟨N, 0, none⟩ = some (.int .i64 k) ∧ W.cell? ⟨N, 1, none⟩ = some (.slice B os.length cb)) (by kernel_rfl) ?_
            change wpH _ _ _ _ 6 _ _ wr.drew
            generalize wr.drew = X0 at *
            refine H_takeD (k := 0) (v := .agg #[.int .i64 k, .slice B os.length cb]) (d := some 52) rfl rfl (by decide +kernel) (fun _ _ _ h => h) (Or.inl ⟨by rfl, fun W hW => by obtain ⟨s0, s1⟩ := hW; go_simp⟩) ⟨HV2.out.cell 0, HV2.out.cell 1⟩ ?_
            try simp only [Act.put, List.setIfInBounds_toArray, List.set_cons_zero, List.set_cons_succ]
            refine H_takeD (k := 1) (v := .slice A j c) (d := some 53) rfl rfl (by decide +kernel) (fun _ _ _ h => h) (Or.inl ⟨by rfl, fun W hW => by obtain ⟨s0, s1⟩ := hW; go_simp⟩) ⟨HV2.out.cell 0, HV2.out.cell 1⟩ ?_
            try simp only [Act.put, List.setIfInBounds_toArray, List.set_cons_zero, List.set_cons_succ]
            refine H_takeD (k := 2) (v := .int .i64 d) (d := some 54) rfl rfl (by decide +kernel) (fun _ _ _ h => h) (Or.inl ⟨by rfl, fun W hW => by obtain ⟨s0, s1⟩ := hW; go_simp⟩) ⟨HV2.out.cell 0, HV2.out.cell 1⟩ ?_
            try simp only [Act.put, List.setIfInBounds_toArray, List.set_cons_zero, List.set_cons_succ]
            refine H_one (i := 3) (by decide +kernel) (H_step rfl rfl (fun K hK3 => ?_))
            have hK3 := Lib.hid hK3
            go_simp
            go_at_call 54
            refine (HAc.out _ HA2.out).mono ?_
            rintro e w3a ⟨v3a, rfl, hown, hb⟩
            obtain ⟨A3, c3, rfl⟩ := own_slice hown
            have HO3 := Lib.hid (SC.own hown)
            have HX3 := Lib.hid (HX2.out.trans (hb.mono HX2.out.size))
            have HV3 := Lib.hid (HV2.out.below hb HV2.out.lt)
            have HI3 := Lib.hid (SI.below HI2.out hb)
            clear hown hb
            refine hK3.out _ _ ⟨HV3.out.cell 0, HV3.out.cell 1⟩ ?_
            try simp only [Act.put, List.setIfInBounds_toArray, List.set_cons_zero, List.set_cons_succ]
            refine H_one (i := 4) (by decide +kernel) (H_step rfl rfl (fun K hK4 => ?_))
            have hK4 := Lib.hid hK4
            go_simp
            go_at_call 53
            refine (shows_any k B cb os A3 c3 (actL l d) w3a HI3.out hos HO3.out (Nat.le_trans (List.length_filter_le _ _) (by rw [hn.out]; omega))).mono ?_
            rintro e w4 ⟨rfl, hb⟩
            have HX4 := Lib.hid (HX3.out.trans (hb.mono HX3.out.size))
            have HV4 := Lib.hid (HV3.out.below hb HV3.out.lt)
            rw [HSh.out]
            clear hb
            refine hK4.out _ _ ⟨HV4.out.cell 0, HV4.out.cell 1⟩ ?_
            try simp only [Act.put, List.setIfInBounds_toArray, List.set_cons_zero, List.set_cons_succ]
            refine H_takeD (k := 5) (v := .bool (!sh)) (d := some 57) rfl rfl (by decide +kernel) (fun _ _ _ h => h) (Or.inl ⟨by rfl, fun W hW => by obtain ⟨s0, s1⟩ := hW; go_simp⟩) ⟨HV4.out.cell 0, HV4.out.cell 1⟩ ?_
            try simp only [Act.put, List.setIfInBounds_toArray, List.set_cons_zero, List.set_cons_succ]
            refine H_end (by decide +kernel) (NoPanic.normal ?_)
            try simp only [Act.put, List.setIfInBounds_toArray, List.set_cons_zero, List.set_cons_succ]
            have HO4 := Lib.hid (own_below HO.out HX4.out)
            have HB5 := Lib.hid (HBx.out.trans (HX4.out.mono HMx.out))
            have HM5 := Lib.hid (Nat.le_trans HMx.out HX4.out.size)
            have c1 := cell_far Hc.out HX4.out
            clear HO HBx HMx HX4 HXb HX2 HV2 HA2 HI2 HV3 HI3 HO3 HX3 HSh Hc c0
            cases sh
            · have HYn2 := Lib.hid (show daysF (fun d => shownD k os l d) ds (i + 1) = Y from HYn.out)
              clear HYn
              go_wp2_with fail
              go_roundw
              case rel => exact ⟨i + 1, m, Y, by omega, by go_num, by omega, HYn2, Hm, HO4, HB5, HM5⟩
              case measure => simp [intOf]; omega
            · have HYn2 := Lib.hid (show daysF (fun d => shownD k os l d) ds (i + 1) = stepD Y d (d2 - 1) from HYn.out)
              have hw1 : IntKind.i64.wrap (d2 - 1) = d2 - 1 := IntWalk.i64_in _ ⟨by omega, by omega⟩
              have hw2 : IntKind.i64.wrap (d - 1) = d - 1 := IntWalk.i64_in _ ⟨by omega, by omega⟩
              have hw3 : IntKind.i64.wrap ((i : Int) + 1) = (i : Int) + 1 := IntWalk.i64_in _ ⟨by omega, by omega⟩
              have hix : ¬ (e + 1 ≤ i + 1) := by omega
              have hix2 : ¬ ((e : Int) + 1 ≤ (i : Int) + 1) := by omega
              have hix3 : ¬ ((i : Int) + 1 < 0) := by omega
              clear HYn
              rcases List.eq_nil_or_concat Y with hY | ⟨u, p, hY⟩
              · subst hY
                obtain rfl : m = 0 := by have := Hm.out; simpa using this.symm
                have HYs := Lib.hid (show stepD [] d (d2 - 1) = [(d, d2 - 1)] from rfl)
                rw [HYs.out] at HYn2
                have hO := HO4.out
                have hz := HM5.out
                go_wp2_with (at_builtin; refine wpList_app2 (w := w4) rfl _ _ rfl elt_pr hO hz rfl rfl (by simp) rfl rfl (by omega) ?_; intro v7 w7 hown7 hg7 hz7)
                have HO7 := Lib.hid (show w7.ownsRow M3 49 2 v7 (0 + 1) (prC [(d, d2 - 1)]) from hown7)
                have HB7 := Lib.hid (HB5.out.grown hg7 hz (fun q hq => (hO.lt q hq).1))
                have HM7 := Lib.hid (Nat.le_trans hz hg7.size)
                clear hown7 hg7 hz7 hO
                go_roundw
                case rel => exact ⟨i + 1, 0 + 1, _, by omega, by go_num, by omega, HYn2, Lib.hid rfl, HO7, HB7, HM7⟩
                case measure => simp [intOf]; omega
              · rw [List.concat_eq_append] at hY
                subst hY
                obtain ⟨mm, hmm⟩ : ∃ mm, m = mm + 1 := ⟨u.length, by rw [← Hm.out]; simp⟩
                subst hmm
                have Hu := Lib.hid (show u.length = mm from by have := Hm.out; rw [List.length_append] at this; simpa using this)
                obtain ⟨g, hg⟩ : ∃ g, OA = some ⟨g, 0, none⟩ := by
                  rcases own_form HO4.out with ⟨h1, h2⟩ | h
                  · have := own_cap HO4.out; omega
                  · exact h
                subst hg
                obtain ⟨p0, p1, pf⟩ := own_cellsP HO4.out (show (u ++ [p])[mm]? = some p from by rw [← Hu.out]; simp)
                have hwm : IntKind.i64.wrap ((mm : Int) + 1 - 1) = (mm : Int) := by rw [show (mm : Int) + 1 - 1 = (mm : Int) by omega]; exact IntWalk.i64_in _ ⟨by omega, by omega⟩
                have hnm : ¬ (mm + 1 ≤ mm) := by omega
                have hnI : ¬ ((mm : Int) + 1 ≤ (mm : Int)) := by omega
                by_cases hpe : p.2 = d - 1
                · have hpb : (p.2 == d - 1) = true := by simp [hpe]
                  have HYs := Lib.hid (stepD_join (u := u) (t := d2 - 1) hpe)
                  rw [HYs.out] at HYn2
                  have hlen : (u ++ [(p.1, d2 - 1)]).length = mm + 1 := by rw [List.length_append, Hu.out]; rfl
                  have Hlen := Lib.hid hlen
                  have pz := pf (mm * 2 + 1)
                  have HO7 := Lib.hid (show (w4.setCell ⟨g, mm * 2 + 1, none⟩ (.int .i64 (d2 - 1))).ownsRow M3 49 2 (.slice (some ⟨g, 0, none⟩) (mm + 1) oc) (mm + 1) (prC (u ++ [(p.1, d2 - 1)])) from by
                    rw [← prC_til u p (d2 - 1) mm Hu.out]
                    exact own_put HO4.out _)
                  have HB7 := Lib.hid (HB5.out.grown (grown_set w4 g (mm * 2 + 1) (.int .i64 (d2 - 1))) HM5.out (fun q hq => by cases hq; exact (HO4.out.lt g rfl).1))
                  have HM7 := Lib.hid (Nat.le_trans HM5.out (grown_set w4 g (mm * 2 + 1) (.int .i64 (d2 - 1))).size)
                  clear hpe hlen pf HO4 HB5 HM5 HYs
                  go_wp2_with fail
                  go_roundw
                  case rel => exact ⟨i + 1, mm + 1, _, by omega, by go_num, by omega, HYn2, Hlen, HO7, HB7, HM7⟩
                  case measure => simp [intOf]; omega
                · have hpb : (p.2 == d - 1) = false := by simp [hpe]
                  have HYs := Lib.hid (stepD_new (u := u) (t := d2 - 1) hpe)
                  rw [HYs.out] at HYn2
                  have Hlen := Lib.hid (show (u ++ [p] ++ [(d, d2 - 1)]).length = mm + 1 + 1 from by rw [List.length_append, Hm.out]; rfl)
                  have hO := HO4.out
                  have hz := HM5.out
                  clear hpe pf HYs
                  go_wp2_with (at_builtin; refine wpList_app2 (w := w4) rfl _ _ rfl elt_pr hO hz rfl rfl (by simp) rfl rfl (by omega) ?_; intro v7 w7 hown7 hg7 hz7)
                  have HO7 := Lib.hid (show w7.ownsRow M3 49 2 v7 (mm + 1 + 1) (prC (u ++ [p] ++ [(d, d2 - 1)])) from by rw [prC_app (u ++ [p])]; exact hown7)
                  have HB7 := Lib.hid (HB5.out.grown hg7 hz (fun q hq => (hO.lt q hq).1))
                  have HM7 := Lib.hid (Nat.le_trans hz hg7.size)
                  clear hown7 hg7 hz7 hO
                  go_roundw
                  case rel => exact ⟨i + 1, mm + 1 + 1, _, by omega, by go_num, by omega, HYn2, Hlen, HO7, HB7, HM7⟩
                  case measure => simp [intOf]; omega
          · obtain rfl : i = e := by omega
            have HF := Lib.hid (show dayL k os l = Y from by rw [Hsh.out]; exact HY.out)
            have HBz := Lib.hid (HBw.out _ (HB4.out _ HBx.out))
            have HNM := Lib.hid (show w.heap.size ≤ M3 from by rw [hN.out]; have := HMM.out; omega)
            clear HY Hsh
            go_wp2_with fail
            exact bodyPost_ret (v := .tuple #[.slice OA m oc, .int .i64 0]) (by simp [results, Try.results24, go_sem]) rfl ⟨_, rfl, by rw [HF.out, Hm.out]; exact own_mono HO.out HNM.out, hN.out.symm ▸ HBz.out⟩
  · have HR := Lib.hid (show dayL k os l = [] from if_neg (by omega))
    rw [he] at HC ⊢
    clear he
    go_enter Try.func24, Try.ntmps24
    go_wp2_with fail
    refine HC.out.mono ?_
    generalize w.alloc (.cells #[.int .i64 k, .slice B os.length cb] 28) = W0 at *
    rintro e w1 ⟨rfl, hb⟩
    have HB1 := Lib.hid (HB.out.trans (hb.mono (Nat.le_of_lt HZ.out)))
    clear hb v0 v1
    go_wp2_with fail
    exact bodyPost_ret (v := .tuple #[.slice none 0 0, .int .i64 1]) (by simp [results, Try.results24, go_sem]) rfl ⟨_, rfl, by rw [HR.out]; exact own_nonP, HB1.out⟩
end Go.Proofs.Ytgeciimakjfnfaa
