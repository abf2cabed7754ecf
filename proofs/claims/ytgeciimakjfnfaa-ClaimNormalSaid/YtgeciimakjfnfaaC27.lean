import Derived.Test.YtgeciimakjfnfaaC26
namespace Go.Proofs.Ytgeciimakjfnfaa
open Go.RowKit Go.Maps

set_option linter.unusedSimpArgs false in
set_option maxHeartbeats 4000000 in
set_option maxRecDepth 100000 in
theorem bent_any (k : Int) (B : Option Addr) (cb : Nat) (os : List Int) (how by_ : Int) (w : World) (hB : SI w B os) (hos : os.length ≤ 8) (hh : i64 how) (hb : i64 by_) :
    Calls Try.prog 13 #[.agg #[.int .i64 k, .slice B os.length cb], .int .i64 how, .int .i64 by_] w fun e w' => ∃ (k : Int) (B : Option Addr) (cb : Nat) (os : List Int), e = .returned (.agg #[.int .i64 k, .slice B os.length cb]) ∧ Hid (os.length ≤ 100) ∧ Hid (SI w' B os) ∧ Below w.heap.size w w' := by
  have hbd := around_bd how 4 (by decide)
  have hb5 := around_bd by_ 5 (by decide)
  have HA := Lib.hid (fun W => around_any how 4 W hh.1 hh.2 (by decide) (by decide))
  have HA5 := Lib.hid (fun W => around_any by_ 5 W hb.1 hb.2 (by decide) (by decide))
  have HA6 := Lib.hid (fun W => around_any by_ 6 W hb.1 hb.2 (by decide) (by decide))
  generalize around how 4 = r at *
  have hr : r = 0 ∨ r = 1 ∨ r = 2 ∨ r = 3 := by omega
  have HI := Lib.hid (SL.alloc (SL.alloc hB (.cells #[.int .i64 k, .slice B os.length cb] 28)) (.cells #[.int .i64 0, .slice none 0 0] 28))
  have HK := Lib.hid ((Bk.new w 28 #[.int .i64 k, .slice B os.length cb]).alloc (.cells #[.int .i64 0, .slice none 0 0] 28))
  have HZ := Lib.hid (Bk.new' (w.alloc (.cells #[.int .i64 k, .slice B os.length cb] 28)) 28 #[.int .i64 0, .slice none 0 0] (g := w.heap.size + 1) (by simp))
  have HB := Lib.hid (((Below.refl w.heap.size w).alloc (Nat.le_refl _) (.cells #[.int .i64 k, .slice B os.length cb] 28)).alloc (by simp) (.cells #[.int .i64 0, .slice none 0 0] 28))
  have HN := Lib.hid (show ((w.alloc (.cells #[.int .i64 k, .slice B os.length cb] 28)).alloc (.cells #[.int .i64 0, .slice none 0 0] 28)).heap.size = w.heap.size + 1 + 1 from by simp)
  clear hB hh hb hbd
  go_enter Try.func13, Try.ntmps13
  go_upto_region 2 with fail
  generalize (w.alloc (.cells #[.int .i64 k, .slice B os.length cb] 28)).alloc (.cells #[.int .i64 0, .slice none 0 0] 28) = w2 at *
  generalize hNe : w.heap.size = N at *
  have HNe := Lib.hid hNe
  clear hNe
  have HO0 := Lib.hid (World.ownsRow_nil w2 (N + 1 + 1) 3 1)
  have hsz : N + 1 + 1 ≤ w2.heap.size := by have := HN.out; omega
  have z0 := HK.out.cell 0
  have z1 := HK.out.cell 1
  simp only [List.getElem?_toArray, List.getElem?_cons_zero, List.getElem?_cons_succ] at z0 z1
  go_upto_region 3 with (at_builtin; refine wpList_appM (w := w2) rfl _ _ rfl elt_int HO0.out hsz rfl rfl HI.out (by simp) (ints_all os) (by omega) ?_; intro v3 w3 hown3 hg3)
  obtain ⟨X, cX, rfl⟩ := own_slice hown3
  have HO := Lib.hid (show w3.ownsRow (N + 1 + 1) 3 1 (.slice X os.length cX) os.length (os.map (.int .i64)) from by have h := hown3; simp only [Nat.zero_add, List.nil_append] at h; exact h)
  have HK3 := Lib.hid (HK.out.grown hg3 (by simp [Value.ownBlock]))
  have HZ3 := Lib.hid (HZ.out.grown hg3 (by simp [Value.ownBlock]))
  have HB3 := Lib.hid (HB.out.grown hg3 (by omega) (fun q hq => by simp [Value.ownBlock] at hq))
  have HS3 := Lib.hid (show N + 1 + 1 ≤ w3.heap.size from Nat.le_trans hsz hg3.size)
  clear hown3 hg3 HO0 HI HK HZ HB HN z0 z1 hsz
  go_wp2_with fail
  refine (HA.out _).mono ?_
  rintro e w4 ⟨rfl, rfl⟩
  clear HA
  go_upto_block 0 with fail
  go_cut [7] from 7 to 8 (fun v wx => ∃ (k' : Int) (X : Option Addr) (cX n m : Nat) (zs : List Int), v = .slice X m cX ∧ m ≤ n ∧ n ≤ 100 ∧ Hid (zs.length = n) ∧ Hid (wx.ownsRow (N + 1 + 1) 3 1 (.slice X n cX) n (zs.map (.int .i64))) ∧ Hid (Bk wx N 28 #[.int .i64 k', .slice B os.length cb]) ∧ Hid (Bk wx (N + 1) 28 #[.int .i64 0, .slice none 0 0]) ∧ Hid (Below N w wx))
  case first =>
    rcases hr with rfl | rfl | rfl | rfl
    · obtain ⟨j, z, hj, hjm, hgl, _⟩ := pick_list (l := [.int .i64 by_, .int .i64 (-1), .int .i64 0, .int .i64 1, .int .i64 2, .int .i64 3]) by_ (m := 6) (by decide) rfl (by intro v hv; simp at hv; rcases hv with rfl | rfl | rfl | rfl | rfl | rfl <;> exact ⟨_, rfl⟩)
      have HA' := Lib.hid (fun W => show Calls Try.prog 26 #[.int .i64 by_, .int .i64 6] W fun e w' => e = .returned (.int .i64 (j : Int)) ∧ W = w' from by have h := HA6.out W; rw [show around by_ 6 = (j : Int) from hj] at h; exact h)
      clear hj HA5 HA6
      have HKa := Lib.hid (HK3.out.alloc (.cells #[.int .i64 by_, .int .i64 (-1), .int .i64 0, .int .i64 1, .int .i64 2, .int .i64 3] 3))
      have HZa := Lib.hid (HZ3.out.alloc (.cells #[.int .i64 by_, .int .i64 (-1), .int .i64 0, .int .i64 1, .int .i64 2, .int .i64 3] 3))
      have HOa := Lib.hid (HO.out.alloc (.cells #[.int .i64 by_, .int .i64 (-1), .int .i64 0, .int .i64 1, .int .i64 2, .int .i64 3] 3))
      have HBa := Lib.hid (HB3.out.alloc (by have := HS3.out; omega) (.cells #[.int .i64 by_, .int .i64 (-1), .int .i64 0, .int .i64 1, .int .i64 2, .int .i64 3] 3))
      have hKK := HKa.out
      have z0 := hKK.cell 0
      have zf := hKK.frozen 0
      simp only [List.getElem?_toArray, List.getElem?_cons_zero, List.getElem?_cons_succ] at z0
      clear hKK HK3 HZ3 HO HB3
      go_wp2_with fail
      refine (HA'.out _).mono ?_
      rintro e w5 ⟨rfl, rfl⟩
      clear HA'
      go_wp2_with fail
      go_meet
      exact ⟨z, X, cX, os.length, os.length, os, rfl, Nat.le_refl _, by omega, Lib.hid rfl, Lib.hid (own_set HOa.out (fun e => by have := (HOa.out.lt N e.symm).1; omega) _), Lib.hid (HKa.out.set_ 0 (.int .i64 z)), Lib.hid (HZa.out.far (p := ⟨N, 0, none⟩) (by simp) _), Lib.hid (HBa.out.setCell (p := ⟨N, 0, none⟩) (Nat.le_refl N) _)⟩
    · obtain ⟨j, z, hj, hjm, _, hgl2⟩ := pick_list (l := [.int .i64 by_, .int .i64 (-1), .int .i64 0, .int .i64 63, .int .i64 64]) by_ (m := 5) (by decide) rfl (by intro v hv; simp at hv; rcases hv with rfl | rfl | rfl | rfl | rfl <;> exact ⟨_, rfl⟩)
      have HA' := Lib.hid (fun W => show Calls Try.prog 26 #[.int .i64 by_, .int .i64 5] W fun e w' => e = .returned (.int .i64 (j : Int)) ∧ W = w' from by have h := HA5.out W; rw [show around by_ 5 = (j : Int) from hj] at h; exact h)
      clear hj HA5 HA6 hb5
      have HKa := Lib.hid (HK3.out.alloc (.cells #[.int .i64 by_, .int .i64 (-1), .int .i64 0, .int .i64 63, .int .i64 64] 3))
      have HZa := Lib.hid (HZ3.out.alloc (.cells #[.int .i64 by_, .int .i64 (-1), .int .i64 0, .int .i64 63, .int .i64 64] 3))
      have HOa := Lib.hid (HO.out.alloc (.cells #[.int .i64 by_, .int .i64 (-1), .int .i64 0, .int .i64 63, .int .i64 64] 3))
      have HBa := Lib.hid (HB3.out.alloc (by have := HS3.out; omega) (.cells #[.int .i64 by_, .int .i64 (-1), .int .i64 0, .int .i64 63, .int .i64 64] 3))
      have hsa := Nat.le_trans HS3.out (show w3.heap.size ≤ (w3.alloc (.cells #[.int .i64 by_, .int .i64 (-1), .int .i64 0, .int .i64 63, .int .i64 64] 3)).heap.size from by simp)
      clear HK3 HZ3 HO HB3
      go_wp2_with fail
      refine (HA'.out _).mono ?_
      rintro e w5 ⟨rfl, rfl⟩
      clear HA'
      have hc6 := (Bk.new w3 3 #[.int .i64 by_, .int .i64 (-1), .int .i64 0, .int .i64 63, .int .i64 64]).cell j
      simp only [List.getElem?_toArray] at hc6
      rw [hgl2] at hc6
      clear hgl2
      have hO := HOa.out
      generalize w3.alloc (.cells #[.int .i64 by_, .int .i64 (-1), .int .i64 0, .int .i64 63, .int .i64 64] 3) = w6 at *
      clear hO
      have HsA := Lib.hid hsa
      clear hsa
      go_wp2_with (at_builtin; refine wpList_app2 (w := w6) (us := [.int .i64 z]) rfl _ _ rfl elt_int HOa.out HsA.out rfl rfl (by simp) rfl rfl (by omega) ?_; intro v7 w7 hown7 hg7 hz7)
      obtain ⟨Y, cY, rfl⟩ := own_slice hown7
      go_meet
      exact ⟨k, Y, cY, os.length + 1, os.length + 1, os ++ [z], rfl, Nat.le_refl _, by omega, Lib.hid (by simp), Lib.hid (by rw [List.map_append]; exact hown7), Lib.hid (HKa.out.grown hg7 (fun e => by have := (HOa.out.lt N e.symm).1; omega)), Lib.hid (HZa.out.grown hg7 (fun e => by have := (HOa.out.lt (N + 1) e.symm).1; omega)), Lib.hid (HBa.out.grown hg7 (by have := HsA.out; omega) (fun q hq => by have := (HOa.out.lt q hq).1; omega))⟩
    · have hcp := own_cap HO.out
      have hq1 : ((os.length : Int).tdiv 2) = ((os.length / 2 : Nat) : Int) := by rw [Int.tdiv_eq_ediv_of_nonneg (by omega)]; omega
      have hq2 : IntKind.i64.wrap ((os.length / 2 : Nat) : Int) = ((os.length / 2 : Nat) : Int) := IntWalk.i64_in _ ⟨by omega, by omega⟩
      have hq3 : os.length / 2 ≤ os.length := by omega
      obtain ⟨m, hm⟩ : ∃ m, m = os.length / 2 := ⟨_, rfl⟩
      rw [← hm] at hq1 hq2 hq3
      clear hm
      have hq4 : ¬ (cX < m) := by omega
      have hq5 : ¬ ((cX : Int) < (m : Int)) := by omega
      have hq6 : ¬ ((m : Int) < 0) := by omega
      go_wp2_with fail
      go_meet
      exact ⟨k, X, cX, os.length, m, os, rfl, hq3, by omega, Lib.hid rfl, HO, HK3, HZ3, HB3⟩
    · obtain ⟨r5, hr5⟩ : ∃ z, around by_ 5 = z := ⟨_, rfl⟩
      rw [hr5] at hb5
      have HA' := Lib.hid (fun W => show Calls Try.prog 26 #[.int .i64 by_, .int .i64 5] W fun e w' => e = .returned (.int .i64 r5) ∧ W = w' from by have h := HA5.out W; rw [hr5] at h; exact h)
      have hw5 : IntKind.i64.wrap (5 + r5) = 5 + r5 := IntWalk.i64_in _ ⟨by omega, by omega⟩
      clear hr5 HA5 HA6
      go_wp2_with fail
      go_loopw [7, 8] (fun o i wr => ∃ (j n : Nat) (X : Option Addr) (cX : Nat) (zs : List Int), i = .int .i64 (j : Int) ∧ (j : Int) ≤ 5 + r5 ∧ o = .slice X n cX ∧ n ≤ 50 ∧ Hid (n = os.length + j) ∧ Hid (zs.length = n) ∧ Hid (wr.ownsRow (N + 1 + 1) 3 1 (.slice X n cX) n (zs.map (.int .i64))) ∧ Hid (Bk wr N 28 #[.int .i64 k, .slice B os.length cb]) ∧ Hid (Bk wr (N + 1) 28 #[.int .i64 0, .slice none 0 0]) ∧ Hid (Below N w wr) ∧ Hid (N + 1 + 1 ≤ wr.heap.size)) (fun _ i _ => (5 + r5 - intOf i).toNat)
      case atStart => exact ⟨0, os.length, X, cX, os, rfl, by omega, rfl, by omega, Lib.hid rfl, Lib.hid rfl, HO, HK3, HZ3, HB3, HS3⟩
      case round =>
        clear HO HK3 HZ3 HB3 HS3
        obtain ⟨j, n, X, cX, zs, rfl, hj, rfl, hn, HNj, HL, HO, HK, HZ, HB, HS⟩ := hrel
        by_cases hlt : (j : Int) < 5 + r5
        · have hw10 : IntKind.i64.wrap (10 + (j : Int)) = 10 + (j : Int) := IntWalk.i64_in _ ⟨by omega, by omega⟩
          go_wp2_with fail
          refine (HA'.out _).mono ?_
          rintro e w5 ⟨rfl, rfl⟩
          go_wp2_with (at_builtin; refine wpList_app2 (w := wr) (us := [.int .i64 (10 + (j : Int))]) rfl _ _ rfl elt_int HO.out HS.out rfl rfl (by simp) rfl rfl (by omega) ?_; intro v7 w7 hown7 hg7 hz7)
          obtain ⟨Y, cY, rfl⟩ := own_slice hown7
          have HO7 := Lib.hid (show w7.ownsRow (N + 1 + 1) 3 1 (.slice Y (n + 1) cY) (n + 1) ((zs ++ [10 + (j : Int)]).map (.int .i64)) from by rw [List.map_append]; exact hown7)
          have HK7 := Lib.hid (HK.out.grown hg7 (fun e => by have := (HO.out.lt N e.symm).1; omega))
          have HZ7 := Lib.hid (HZ.out.grown hg7 (fun e => by have := (HO.out.lt (N + 1) e.symm).1; omega))
          have HB7 := Lib.hid (HB.out.grown hg7 (by have := HS.out; omega) (fun q hq => by have := (HO.out.lt q hq).1; omega))
          have HS7 := Lib.hid (show N + 1 + 1 ≤ w7.heap.size from by have := HS.out; omega)
          clear hown7 hg7 hz7 HO HK HZ HB HS
          go_roundw
          case rel => exact ⟨j + 1, n + 1, Y, cY, zs ++ [10 + (j : Int)], by go_num, by omega, rfl, by have := HNj.out; omega, Lib.hid (by have := HNj.out; omega), Lib.hid (by rw [List.length_append, HL.out]; rfl), HO7, HK7, HZ7, HB7, HS7⟩
          case measure => simp [intOf]; omega
        · go_wp2_with fail
          refine (HA'.out _).mono ?_
          rintro e w5 ⟨rfl, rfl⟩
          go_wp2_with fail
          go_meet
          exact ⟨k, X, cX, n, n, zs, rfl, Nat.le_refl _, by omega, HL, HO, HK, HZ, HB⟩
  case rest =>
    clear HO HK3 HZ3 HB3 HS3 HA5 HA6 hb5
    obtain ⟨k', X, cX, n, m, zs, rfl, hmn, hn, HL, HOx, HKx, HZx, HBx⟩ := hcut
    have y1 := HKx.out.cell 1
    have fz := HKx.out.frozen 1
    simp only [List.getElem?_toArray, List.getElem?_cons_zero, List.getElem?_cons_succ] at y1
    go_upto_region 15 with fail
    clear y1 fz
    have HK1 := Lib.hid (show Bk (wc.setCell ⟨N, 1, none⟩ (.slice X m cX)) N 28 #[.int .i64 k', .slice X m cX] from HKx.out.set_ 1 (.slice X m cX))
    have HZ1 := Lib.hid (HZx.out.far (p := ⟨N, 1, none⟩) (by simp) (.slice X m cX))
    have HO1 := Lib.hid (own_set (i := 1) (u := .slice X m cX) HOx.out (k := N) (fun e => by have := (HOx.out.lt N e.symm).1; omega))
    have HB1 := Lib.hid (HBx.out.setCell (p := ⟨N, 1, none⟩) (Nat.le_refl N) (.slice X m cX))
    clear HOx HKx HZx HBx
    generalize wc.setCell ⟨N, 1, none⟩ (.slice X m cX) = W1 at *
    have y0 := HK1.out.cell 0
    have y1 := HK1.out.cell 1
    have z0 := HZ1.out.cell 0
    have z1 := HZ1.out.cell 1
    have f0 := HZ1.out.frozen 0
    have f1 := HZ1.out.frozen 1
    simp only [List.getElem?_toArray, List.getElem?_cons_zero, List.getElem?_cons_succ] at y0 y1 z0 z1
    have HZ2 := Lib.hid (show Bk ((W1.setCell ⟨N + 1, 0, none⟩ (.int .i64 k')).setCell ⟨N + 1, 1, none⟩ (.slice X m cX)) (N + 1) 28 #[.int .i64 k', .slice X m cX] from (HZ1.out.set_ 0 (.int .i64 k')).set_ 1 (.slice X m cX))
    have HO2 := Lib.hid (own_set (i := 1) (u := .slice X m cX) (own_set (i := 0) (u := .int .i64 k') HO1.out (k := N + 1) (fun e => by have := (HO1.out.lt (N + 1) e.symm).1; omega)) (k := N + 1) (fun e => by have := (HO1.out.lt (N + 1) e.symm).1; omega))
    have HB2 := Lib.hid ((HB1.out.setCell (p := ⟨N + 1, 0, none⟩) (Nat.le_succ N) (.int .i64 k')).setCell (p := ⟨N + 1, 1, none⟩) (Nat.le_succ N) (.slice X m cX))
    clear HK1 HZ1 HO1 HB1
    go_wp2_with fail
    generalize (W1.setCell ⟨N + 1, 0, none⟩ (.int .i64 k')).setCell ⟨N + 1, 1, none⟩ (.slice X m cX) = W2 at *
    clear y0 y1 z0 z1 f0 f1
    have y0 := HZ2.out.cell 0
    have y1 := HZ2.out.cell 1
    simp only [List.getElem?_toArray, List.getElem?_cons_zero, List.getElem?_cons_succ] at y0 y1
    have hl : (zs.take m).length = m := by rw [List.length_take, HL.out]; omega
    exact bodyPost_ret (v := .agg #[.int .i64 k', .slice X m cX]) (by simp [results, Try.results13, go_sem, y0, y1]) rfl ⟨k', X, cX, zs.take m, by rw [hl], Lib.hid (by omega), Lib.hid (si_takeB (SL.of_own HO2.out) m), by rw [HNe.out]; exact HB2.out⟩
end Go.Proofs.Ytgeciimakjfnfaa
