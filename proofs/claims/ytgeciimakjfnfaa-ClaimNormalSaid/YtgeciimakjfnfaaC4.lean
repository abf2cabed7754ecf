import Derived.Test.YtgeciimakjfnfaaC3
namespace Go.Proofs.Ytgeciimakjfnfaa
open Go.RowKit Go.Maps

set_option linter.unusedSimpArgs false in
set_option maxHeartbeats 8000000 in
set_option maxRecDepth 100000 in
theorem del_any (d : Int) (D : Nat) (A : Option Addr) (c : Nat) (L : List Cl) (base : Nat) (w : World) (h : w.ownsRow base 24 5 (.slice A L.length c) L.length (L.flatMap clC)) (hD : w.cell? ⟨D, 0, none⟩ = some (.int .i64 d)) (lD : D < base) (hb : base ≤ w.heap.size) (hL : L.length ≤ 1000000) :
    Calls Try.prog 78 #[.slice A L.length c, .func (.func 80) #[] #[.pointer (some ⟨D, 0, none⟩)]] w fun e w' => ∃ v, e = .returned v ∧ w'.ownsRow base 24 5 v (L.filter fun t => !pOff d t).length ((L.filter fun t => !pOff d t).flatMap clC) ∧ Below base w w' := by
  obtain ⟨n, hn⟩ : ∃ z, Hid (L.length = z) := ⟨_, Lib.hid rfl⟩
  have HI := Lib.hid (idxOff_any A c L d D w (SC.own h) (by omega) hD (by omega))
  have HP := Lib.hid (fun (t : Cl) (W : World) (hW : Below base w W) => pOff_any d D t W ((hW.cell (p := ⟨D, 0, none⟩) lD).trans hD) (by have := hW.size; omega))
  generalize pOff d = p at *
  have HO := Lib.hid h
  rw [hn.out] at HO HI hL
  rw [hn.out]
  rcases idxC_cases p L with ⟨h1, h2⟩ | ⟨k, h1, h2, h3⟩
  · rw [h1] at HI
    have H2 := Lib.hid h2
    clear h hD h1 h2
    go_enter Try.func78, Try.ntmps78
    go_wp2_with fail
    refine HI.out.mono ?_
    rintro e w1 ⟨rfl, hb1⟩
    have HO1 := Lib.hid (own_below HO.out hb1)
    have HB1 := Lib.hid (hb1.mono hb)
    clear hb1
    go_wp2_with fail
    go_ret
    exact ⟨_, rfl, by rw [H2.out, hn.out]; exact HO1.out, HB1.out⟩
  · rw [h2] at HI
    rw [hn.out] at h1
    obtain ⟨g, hg⟩ : ∃ g, A = some ⟨g, 0, none⟩ := by
      rcases HO.out.2 with ⟨_, h0⟩ | ⟨g, _, _, he, _⟩
      · omega
      · injection he with e1 _ _; exact ⟨g, e1⟩
    subst hg
    have hcap := own_cap HO.out
    have hgb := fun (W : World) (X : List Cl) (hX : W.ownsRow base 24 5 (.slice (some ⟨g, 0, none⟩) n c) n (X.flatMap clC)) => hX.lt g rfl
    have H3 := Lib.hid h3
    clear h hD h2 h3
    have hk1 : ((k : Int) == -1) = false := by simp
    have hwk : IntKind.i64.wrap ((k : Int) + 1) = (k : Int) + 1 := IntWalk.i64_in _ ⟨by omega, by omega⟩
    go_enter Try.func78, Try.ntmps78
    go_wp2_with fail
    refine HI.out.mono ?_
    rintro e w1 ⟨rfl, hb1⟩
    have HO1 := Lib.hid (own_below HO.out hb1)
    have HB1 := Lib.hid (hb1.mono hb)
    clear hb1 HI HO
    go_wp2_with fail
    go_loopw [5, 6] (fun iv jv wr => ∃ (i j : Nat) (K : List Cl), iv = .int .i64 (i : Int) ∧ jv = .int .i64 (j : Int) ∧ i < j ∧ j ≤ n ∧ Hid (K.length = i) ∧ Hid (K = (L.take j).filter fun t => !p t) ∧ Hid (wr.ownsRow base 24 5 (.slice (some ⟨g, 0, none⟩) n c) n ((K ++ L.drop i).flatMap clC)) ∧ Hid (Below base w wr)) (fun _ jv _ => n - (intOf jv).toNat)
    case atStart => exact ⟨k, k + 1, L.take k, rfl, by go_num, by omega, by omega, Lib.hid (by rw [List.length_take, hn.out]; omega), Lib.hid H3.out.symm, Lib.hid (by rw [List.take_append_drop]; exact HO1.out), HB1⟩
    case round =>
      clear HO1 HB1
      obtain ⟨i, j, K, rfl, rfl, hij, hj, HK, HF, HO, HB⟩ := hrel
      by_cases hlt : j < n
      · obtain ⟨t, ht⟩ : ∃ t, Hid (L[j]? = some t) := ⟨_, Lib.hid (List.getElem?_eq_getElem (by rw [hn.out]; exact hlt))⟩
        have hC := (rest_getC (A := K) (L := L) (j := j) (by rw [HK.out]; omega)).trans ht.out
        rw [HK.out] at hC
        obtain ⟨c0, c1, c2, c3, c4, _⟩ := own_cellsC HO.out hC
        have hbx := boxC t wr
        have Hbk := Lib.hid (boxC_k t wr)
        have HOx := Lib.hid (own_below HO.out hbx)
        have HBx := Lib.hid (HB.out.trans (hbx.mono (by have := HB.out.size; omega)))
        have HC := Lib.hid (HP.out t _ HBx.out)
        have HFn := Lib.hid (filt_next (p := p) ht.out)
        clear hC HO HB hbx
        have hnj : ¬ (n ≤ j) := by omega
        go_wp2_with fail
        refine HC.out.mono ?_
        rintro e w2 ⟨rfl, hb2⟩
        have HO2 := Lib.hid (own_below HOx.out hb2)
        have HB2 := Lib.hid (HBx.out.trans (hb2.mono (by have := HBx.out.size; omega)))
        have Hb2 := Lib.hid (Hbk.out.below hb2 Hbk.out.lt)
        clear hb2 HC HOx HBx c0 c1 c2 c3 c4
        cases hp : p t
        · rw [hp] at HFn
          have hkn : i < n := by omega
          obtain ⟨u, hu⟩ : ∃ u, (K ++ L.drop i)[i]? = some u := ⟨_, List.getElem?_eq_getElem (by rw [List.length_append, HK.out, List.length_drop, hn.out]; omega)⟩
          have hth := own_thereC HO2.out hkn
          have hO4 := own_putC HO2.out hkn t
          have hpn := put_nextC (A := K) (L := L) (x := t) (by rw [HK.out, hn.out]; exact hkn)
          rw [HK.out] at hpn
          have hl2 : (K ++ [t]).length = i + 1 := by rw [List.length_append, HK.out]; rfl
          rw [hl2] at hpn
          rw [hpn] at hO4
          have HO4 := Lib.hid hO4
          have HB4 := Lib.hid (HB2.out.grown (grown_putC w2 g (i * 5) t) (by have := HB2.out.size; omega) (fun q hq => by cases hq; exact (hgb _ _ HO2.out).1))
          have HK4 := Lib.hid hl2
          have HF4 := Lib.hid (show K ++ [t] = (L.take (j + 1)).filter fun t => !p t from by rw [HFn.out, HF.out]; rfl)
          have w6 : IntKind.i64.wrap ((i : Int) + 1) = (i : Int) + 1 := IntWalk.i64_in _ ⟨by omega, by omega⟩
          have hni : ¬ (n ≤ i) := by omega
          have b0 : w2.cell? ⟨wr.heap.size, 0, none⟩ = some (.int .i64 t.kind) := Hb2.out.cell 0
          have b1 : w2.cell? ⟨wr.heap.size, 1, none⟩ = some (.int .i64 t.office) := Hb2.out.cell 1
          have b2 : w2.cell? ⟨wr.heap.size, 2, none⟩ = some (.int .i64 t.fr) := Hb2.out.cell 2
          have b3 : w2.cell? ⟨wr.heap.size, 3, none⟩ = some (.int .i64 t.til) := Hb2.out.cell 3
          have b4 : w2.cell? ⟨wr.heap.size, 4, none⟩ = some (.int .i64 t.dec) := Hb2.out.cell 4
          clear hp HFn HF HK hu hpn hl2 hO4 HO2 HB2
          go_upto_region 9 with fail
          iterate 13 go_step
          refine wpList_store_mid rfl 24 (.tmp 33) (.tmp 32) rfl g (i * 5) #[.int .i64 t.kind, .int .i64 t.office, .int .i64 t.fr, .int .i64 t.til, .int .i64 t.dec] ?_ ?_ hth info_cl ?_ ?_
          · simp [Act.eval]
          · simp [Act.eval]
          · simp [Value.oneCell']
          clear b0 b1 b2 b3 b4 hth
          go_wp2_with fail
          go_roundw
          case rel => exact ⟨i + 1, j + 1, K ++ [t], by go_num, by go_num, by omega, by omega, HK4, HF4, HO4, HB4⟩
          case measure => simp [intOf]; omega
        · rw [hp] at HFn
          have HF2 := Lib.hid (show K = (L.take (j + 1)).filter fun t => !p t from by rw [HFn.out]; exact HF.out)
          clear hp HFn
          go_wp2_with fail
          go_roundw
          case rel => exact ⟨i, j + 1, K, rfl, by go_num, by omega, by omega, HK, HF2, HO2, HB2⟩
          case measure => simp [intOf]; omega
      · obtain rfl : j = n := by omega
        have hkn : i < j := hij
        obtain ⟨wz, hrun, hown, hgr⟩ := run_clear_cl HO.out hkn
        have e1 : (K ++ L.drop i).take i = K := by rw [← HK.out]; exact List.take_left
        rw [e1] at hown
        have HOz := Lib.hid hown
        have HBz := Lib.hid (HB.out.grown hgr (by have := HB.out.size; omega) (fun q hq => by cases hq; exact (hgb _ _ HO.out).1))
        have HFz := Lib.hid (show (L.filter fun t => !p t) = K from by rw [HF.out, ← hn.out, List.take_length])
        have hk0 : ¬ ((i : Int) < 0) := by omega
        have hk1' : ¬ ((j : Int) < (i : Int)) := by omega
        have hk2 : ¬ (j < i) := by omega
        have hk3 : ¬ (c = i) := by omega
        have hk4 : ¬ ((c : Int) < (i : Int)) := by omega
        have hk5 : ¬ (c < i) := by omega
        clear hown hgr e1 HO HB HF
        go_wp2_with fail
        go_ret
        exact ⟨_, rfl, by rw [HFz.out, HK.out]; exact HOz.out, HBz.out⟩

/-- The claims that hold on a day. -/
def actL (l : List Cl) (d : Int) : List Cl := l.filter fun t => inB d t.fr t.til
theorem actL_off (l : List Cl) (d : Int) : (l.filter fun t => !pOff d t) = actL l d := by unfold actL pOff; simp
set_option linter.unusedSimpArgs false in
set_option maxHeartbeats 2000000 in
set_option maxRecDepth 100000 in
theorem active_any (A : Option Addr) (c : Nat) (l : List Cl) (d : Int) (w : World) (hA : SC w A l) (hl : l.length ≤ 1000000) :
    Calls Try.prog 54 #[.slice A l.length c, .int .i64 d] w fun e w' => ∃ v, e = .returned v ∧ w'.ownsRow w.heap.size 24 5 v (actL l d).length ((actL l d).flatMap clC) ∧ Below w.heap.size w w' := by
  have hb0 := (Below.refl w.heap.size w).alloc (Nat.le_refl _) (.cells #[.int .i64 d] 3)
  have HA := Lib.hid (SC.below hA hb0)
  have HD := Lib.hid (Bk.new w 3 #[.int .i64 d])
  have HB0 := Lib.hid hb0
  clear hA hb0
  go_enter Try.func54, Try.ntmps54
  go_wp2_with fail
  refine (clone_any A c l _ HA.out (by omega)).mono ?_
  generalize w.alloc (.cells #[.int .i64 d] 3) = W0 at *
  rintro e w1 ⟨v, rfl, hown, hb1⟩
  have HD1 := Lib.hid (HD.out.below hb1 HD.out.lt)
  have HB1 := Lib.hid (HB0.out.trans (hb1.mono HB0.out.size))
  have hlt := HD.out.lt
  have hz := hb1.size
  obtain ⟨A1, c1, rfl⟩ := own_slice hown
  have HX := Lib.hid (del_any d w.heap.size A1 c1 l W0.heap.size w1 hown (HD1.out.cell 0) hlt hz hl)
  rw [actL_off] at HX
  obtain ⟨S, hS⟩ : ∃ z, Hid (w.heap.size = z) := ⟨_, Lib.hid rfl⟩
  have HS0 := Lib.hid (show S ≤ W0.heap.size from by rw [← hS.out]; omega)
  have HS1 := Lib.hid (show w.heap.size ≤ W0.heap.size from by omega)
  clear hown hb1 hlt hz HA HB0 HD
  go_wp2_with fail
  refine HX.out.mono ?_
  rintro e w2 ⟨v, rfl, hown, hb2⟩
  have HO := Lib.hid (own_mono hown HS1.out)
  have HB2 := Lib.hid (HB1.out.trans (hb2.mono HS1.out))
  clear hown hb2 HX
  go_wp2_with fail
  go_ret
  exact ⟨v, rfl, HO.out, HB2.out⟩
end Go.Proofs.Ytgeciimakjfnfaa
