import Derived.Test.YtnapnkmehnabfaaGreatP26
namespace Go.Proofs.YtnapnkmehnabfaaGreat
open Go.RowKit Go.Maps

theorem grownBy_of_below {w w' : World} (h : Below w.heap.size w w') : w.grownBy w' none := ⟨h.os, h.tape, h.output, h.size, fun k hk _ => h.block k hk⟩
theorem take_app {l : List Int} {k : Nat} {x : Int} (h : l[k]? = some x) : l.take k ++ [x] = l.take (k + 1) := by
  obtain ⟨hk, rfl⟩ := List.getElem?_eq_some_iff.1 h
  rw [List.take_succ_eq_append_getElem hk]
attribute [local go_sem] Oper.semAt_some
set_option linter.unusedSimpArgs false in
set_option maxHeartbeats 8000000 in
set_option maxRecDepth 100000 in
theorem rules13_in (n : Nat) (hn : 1 ≤ n) (lp S T I N G B : Nat) (w0 : World) (z0 z1 z2 z3 z4 z5 z6 z7 z8 : Int)
    (K0 : ∀ W, Below w0.heap.size w0 W → Calls Tryz.prog 116 #[.pointer (some ⟨S, 0, none⟩)] W fun e w' => e = .returned (.int .i64 z0) ∧ Below W.heap.size W w')
    (K1 : ∀ W, Below w0.heap.size w0 W → Calls Tryz.prog 117 #[.pointer (some ⟨S, 0, none⟩)] W fun e w' => e = .returned (.int .i64 z1) ∧ Below W.heap.size W w')
    (K2 : ∀ W, Below w0.heap.size w0 W → Calls Tryz.prog 118 #[.pointer (some ⟨S, 0, none⟩)] W fun e w' => e = .returned (.int .i64 z2) ∧ Below W.heap.size W w')
    (K3 : ∀ W, Below w0.heap.size w0 W → Calls Tryz.prog 121 #[.pointer (some ⟨S, 0, none⟩), .pointer (some ⟨T, 0, none⟩)] W fun e w' => e = .returned (.int .i64 z3) ∧ Below W.heap.size W w')
    (K4 : ∀ W, Below w0.heap.size w0 W → Calls Tryz.prog 125 #[.pointer (some ⟨S, 0, none⟩)] W fun e w' => e = .returned (.int .i64 z4) ∧ Below W.heap.size W w')
    (K5 : ∀ W, Below w0.heap.size w0 W → Calls Tryz.prog 130 #[.pointer (some ⟨S, 0, none⟩), .pointer (some ⟨I, 0, none⟩), .pointer (some ⟨T, 0, none⟩)] W fun e w' => e = .returned (.int .i64 z5) ∧ Below W.heap.size W w')
    (K6 : ∀ W, Below w0.heap.size w0 W → Calls Tryz.prog 133 #[.pointer (some ⟨S, 0, none⟩), .pointer (some ⟨N, 0, none⟩)] W fun e w' => e = .returned (.int .i64 z6) ∧ Below W.heap.size W w')
    (K7 : ∀ W, Below w0.heap.size w0 W → Calls Tryz.prog 135 #[.pointer (some ⟨S, 0, none⟩), .pointer (some ⟨N, 0, none⟩)] W fun e w' => e = .returned (.int .i64 z7) ∧ Below W.heap.size W w')
    (K8 : ∀ W, Below w0.heap.size w0 W → Calls Tryz.prog 136 #[.pointer (some ⟨S, 0, none⟩)] W fun e w' => e = .returned (.int .i64 z8) ∧ Below W.heap.size W w')
    (hG : Bk w0 G 152 (ruleV S T I N)) (hBk : Bk w0 B 185 #[.slice (some ⟨G, 0, none⟩) 9 9])
    (J Jx : List Int → World → Prop) (W : World) (hW : Below w0.heap.size w0 W) (hJ : AbidesFrom W.heap.size J)
    (hY : ∀ pre x W1, J pre W1 → pre.length < 9 → YieldAt Fence.wide (n - 1) Tryz.prog lp #[.int .i64 x] W1 fun e W' => (e = .returned (.bool true) ∧ J (pre ++ [x]) W' ∧ Below w0.heap.size W1 W') ∨ (e = .returned (.bool false) ∧ Jx (pre ++ [x]) W'))
    (h0 : J [] W) :
    CallsIn Fence.wide n Tryz.prog 139 #[.func (.yield lp) #[] #[], .pointer (some ⟨B, 0, none⟩)] W fun e W' => (∃ v, e = .returned v) ∧ ((∃ xs, xs = [z0, z1, z2, z3, z4, z5, z6, z7, z8] ∧ J xs W') ∨ ∃ pre, pre <+: [z0, z1, z2, z3, z4, z5, z6, z7, z8] ∧ Jx pre W') := by
  have HC := Lib.hid (fun (W : World) (hW : Below w0.heap.size w0 W) => (hG.below hW hG.lt).cell)
  have cB := (hBk.below hW hBk.lt).cell 0
  obtain ⟨zs, hzs⟩ : ∃ z, Hid ([z0, z1, z2, z3, z4, z5, z6, z7, z8] = z) := ⟨_, Lib.hid rfl⟩
  rw [hzs.out]
  have HK := Lib.hid (And.intro K0 (And.intro K1 (And.intro K2 (And.intro K3 (And.intro K4 (And.intro K5 (And.intro K6 (And.intro K7 K8))))))))
  have HJ := Lib.hid hJ
  have HW := Lib.hid hW
  clear hG hBk K0 K1 K2 K3 K4 K5 K6 K7 K8 hJ hW
  refine callsIn_of_wp Tryz.func139 rfl trivial ?_ rfl
  simp only [Tryz.ntmps139, List.size_toArray, List.length_cons, List.length_nil, Nat.reduceAdd, Nat.reduceSub, Array.replicate_succ, Array.replicate_zero, List.push_toArray, List.append_toArray, List.nil_append, List.cons_append]
  gi_wp2
  gi_loopw [7] (fun i wr => ∃ k : Nat, k ≤ 9 ∧ i = .int .i64 (k : Int) ∧ J (zs.take k) wr ∧ Hid (Below w0.heap.size w0 wr ∧ W.heap.size ≤ wr.heap.size)) (fun i _ => 9 - (intOf i).toNat)
  case atStart => exact ⟨0, by omega, rfl, h0, Lib.hid ⟨HW.out, Nat.le_refl _⟩⟩
  case round =>
    obtain ⟨k, hk, rfl, hJs, hb⟩ := hrel
    clear cB h0
    have hkk : k = 0 ∨ k = 1 ∨ k = 2 ∨ k = 3 ∨ k = 4 ∨ k = 5 ∨ k = 6 ∨ k = 7 ∨ k = 8 ∨ k = 9 := by omega
    rcases hkk with rfl | rfl | rfl | rfl | rfl | rfl | rfl | rfl | rfl | rfl
    · have c0 : wr.cell? ⟨G, 0, none⟩ = some (.func (.func 116) #[] #[.pointer (some ⟨S, 0, none⟩)]) := HC.out wr hb.out.1 0
      have hC := HK.out.1 wr hb.out.1
      have hz := Lib.hid (show zs[0]? = some z0 from by rw [← hzs.out]; rfl)
      gi_wp2
      refine ⟨trivial, ?_⟩
      refine (callsIn_wide.2 hC).mono ?_
      rintro e w1 ⟨rfl, hb1⟩
      have HB1 := Lib.hid (hb.out.1.trans (hb1.mono hb.out.1.size))
      have HS1 := Lib.hid (Nat.le_trans hb.out.2 hb1.size)
      have hJ1 : J (zs.take 0) w1 := HJ.out _ _ _ none hJs (grownBy_of_below hb1) (fun r e => by cases e)
      obtain ⟨fn, tmps, assign, body, hy, hR⟩ := hY _ z0 w1 hJ1 (by rw [← hzs.out]; simp)
      clear hb1 hC hJs hJ1 c0
      gi_wp2
      refine hR.mono ?_
      rintro e W3 (⟨rfl, hJ3, hk3⟩ | ⟨rfl, hJx3⟩)
      · have HB3 := Lib.hid (show Below w0.heap.size w0 W3 ∧ W.heap.size ≤ W3.heap.size from ⟨HB1.out.trans hk3, Nat.le_trans HS1.out hk3.size⟩)
        clear hk3
        gi_wp2
        go_roundw
        case rel => exact ⟨0 + 1, by omega, rfl, by rw [← take_app hz.out]; exact hJ3, HB3⟩
        case measure => simp [intOf]
      · gi_wp2
        refine bodyPost_ret (results_none rfl _ _ _) rfl ?_
        exact ⟨⟨_, rfl⟩, .inr ⟨_, by rw [take_app hz.out]; exact List.take_prefix _ _, hJx3⟩⟩
    · have c0 : wr.cell? ⟨G, 1, none⟩ = some (.func (.func 117) #[] #[.pointer (some ⟨S, 0, none⟩)]) := HC.out wr hb.out.1 1
      have hC := HK.out.2.1 wr hb.out.1
      have hz := Lib.hid (show zs[1]? = some z1 from by rw [← hzs.out]; rfl)
      gi_wp2
      refine ⟨trivial, ?_⟩
      refine (callsIn_wide.2 hC).mono ?_
      rintro e w1 ⟨rfl, hb1⟩
      have HB1 := Lib.hid (hb.out.1.trans (hb1.mono hb.out.1.size))
      have HS1 := Lib.hid (Nat.le_trans hb.out.2 hb1.size)
      have hJ1 : J (zs.take 1) w1 := HJ.out _ _ _ none hJs (grownBy_of_below hb1) (fun r e => by cases e)
      obtain ⟨fn, tmps, assign, body, hy, hR⟩ := hY _ z1 w1 hJ1 (by rw [← hzs.out]; simp)
      clear hb1 hC hJs hJ1 c0
      gi_wp2
      refine hR.mono ?_
      rintro e W3 (⟨rfl, hJ3, hk3⟩ | ⟨rfl, hJx3⟩)
      · have HB3 := Lib.hid (show Below w0.heap.size w0 W3 ∧ W.heap.size ≤ W3.heap.size from ⟨HB1.out.trans hk3, Nat.le_trans HS1.out hk3.size⟩)
        clear hk3
        gi_wp2
        go_roundw
        case rel => exact ⟨1 + 1, by omega, rfl, by rw [← take_app hz.out]; exact hJ3, HB3⟩
        case measure => simp [intOf]
      · gi_wp2
        refine bodyPost_ret (results_none rfl _ _ _) rfl ?_
        exact ⟨⟨_, rfl⟩, .inr ⟨_, by rw [take_app hz.out]; exact List.take_prefix _ _, hJx3⟩⟩
    · have c0 : wr.cell? ⟨G, 2, none⟩ = some (.func (.func 118) #[] #[.pointer (some ⟨S, 0, none⟩)]) := HC.out wr hb.out.1 2
      have hC := HK.out.2.2.1 wr hb.out.1
      have hz := Lib.hid (show zs[2]? = some z2 from by rw [← hzs.out]; rfl)
      gi_wp2
      refine ⟨trivial, ?_⟩
      refine (callsIn_wide.2 hC).mono ?_
      rintro e w1 ⟨rfl, hb1⟩
      have HB1 := Lib.hid (hb.out.1.trans (hb1.mono hb.out.1.size))
      have HS1 := Lib.hid (Nat.le_trans hb.out.2 hb1.size)
      have hJ1 : J (zs.take 2) w1 := HJ.out _ _ _ none hJs (grownBy_of_below hb1) (fun r e => by cases e)
      obtain ⟨fn, tmps, assign, body, hy, hR⟩ := hY _ z2 w1 hJ1 (by rw [← hzs.out]; simp)
      clear hb1 hC hJs hJ1 c0
      gi_wp2
      refine hR.mono ?_
      rintro e W3 (⟨rfl, hJ3, hk3⟩ | ⟨rfl, hJx3⟩)
      · have HB3 := Lib.hid (show Below w0.heap.size w0 W3 ∧ W.heap.size ≤ W3.heap.size from ⟨HB1.out.trans hk3, Nat.le_trans HS1.out hk3.size⟩)
        clear hk3
        gi_wp2
        go_roundw
        case rel => exact ⟨2 + 1, by omega, rfl, by rw [← take_app hz.out]; exact hJ3, HB3⟩
        case measure => simp [intOf]
      · gi_wp2
        refine bodyPost_ret (results_none rfl _ _ _) rfl ?_
        exact ⟨⟨_, rfl⟩, .inr ⟨_, by rw [take_app hz.out]; exact List.take_prefix _ _, hJx3⟩⟩
    · have c0 : wr.cell? ⟨G, 3, none⟩ = some (.func (.func 121) #[] #[.pointer (some ⟨S, 0, none⟩), .pointer (some ⟨T, 0, none⟩)]) := HC.out wr hb.out.1 3
      have hC := HK.out.2.2.2.1 wr hb.out.1
      have hz := Lib.hid (show zs[3]? = some z3 from by rw [← hzs.out]; rfl)
      gi_wp2
      refine ⟨trivial, ?_⟩
      refine (callsIn_wide.2 hC).mono ?_
      rintro e w1 ⟨rfl, hb1⟩
      have HB1 := Lib.hid (hb.out.1.trans (hb1.mono hb.out.1.size))
      have HS1 := Lib.hid (Nat.le_trans hb.out.2 hb1.size)
      have hJ1 : J (zs.take 3) w1 := HJ.out _ _ _ none hJs (grownBy_of_below hb1) (fun r e => by cases e)
      obtain ⟨fn, tmps, assign, body, hy, hR⟩ := hY _ z3 w1 hJ1 (by rw [← hzs.out]; simp)
      clear hb1 hC hJs hJ1 c0
      gi_wp2
      refine hR.mono ?_
      rintro e W3 (⟨rfl, hJ3, hk3⟩ | ⟨rfl, hJx3⟩)
      · have HB3 := Lib.hid (show Below w0.heap.size w0 W3 ∧ W.heap.size ≤ W3.heap.size from ⟨HB1.out.trans hk3, Nat.le_trans HS1.out hk3.size⟩)
        clear hk3
        gi_wp2
        go_roundw
        case rel => exact ⟨3 + 1, by omega, rfl, by rw [← take_app hz.out]; exact hJ3, HB3⟩
        case measure => simp [intOf]
      · gi_wp2
        refine bodyPost_ret (results_none rfl _ _ _) rfl ?_
        exact ⟨⟨_, rfl⟩, .inr ⟨_, by rw [take_app hz.out]; exact List.take_prefix _ _, hJx3⟩⟩
    · have c0 : wr.cell? ⟨G, 4, none⟩ = some (.func (.func 125) #[] #[.pointer (some ⟨S, 0, none⟩)]) := HC.out wr hb.out.1 4
      have hC := HK.out.2.2.2.2.1 wr hb.out.1
      have hz := Lib.hid (show zs[4]? = some z4 from by rw [← hzs.out]; rfl)
      gi_wp2
      refine ⟨trivial, ?_⟩
      refine (callsIn_wide.2 hC).mono ?_
      rintro e w1 ⟨rfl, hb1⟩
      have HB1 := Lib.hid (hb.out.1.trans (hb1.mono hb.out.1.size))
      have HS1 := Lib.hid (Nat.le_trans hb.out.2 hb1.size)
      have hJ1 : J (zs.take 4) w1 := HJ.out _ _ _ none hJs (grownBy_of_below hb1) (fun r e => by cases e)
      obtain ⟨fn, tmps, assign, body, hy, hR⟩ := hY _ z4 w1 hJ1 (by rw [← hzs.out]; simp)
      clear hb1 hC hJs hJ1 c0
      gi_wp2
      refine hR.mono ?_
      rintro e W3 (⟨rfl, hJ3, hk3⟩ | ⟨rfl, hJx3⟩)
      · have HB3 := Lib.hid (show Below w0.heap.size w0 W3 ∧ W.heap.size ≤ W3.heap.size from ⟨HB1.out.trans hk3, Nat.le_trans HS1.out hk3.size⟩)
        clear hk3
        gi_wp2
        go_roundw
        case rel => exact ⟨4 + 1, by omega, rfl, by rw [← take_app hz.out]; exact hJ3, HB3⟩
        case measure => simp [intOf]
      · gi_wp2
        refine bodyPost_ret (results_none rfl _ _ _) rfl ?_
        exact ⟨⟨_, rfl⟩, .inr ⟨_, by rw [take_app hz.out]; exact List.take_prefix _ _, hJx3⟩⟩
    · have c0 : wr.cell? ⟨G, 5, none⟩ = some (.func (.func 130) #[] #[.pointer (some ⟨S, 0, none⟩), .pointer (some ⟨I, 0, none⟩), .pointer (some ⟨T, 0, none⟩)]) := HC.out wr hb.out.1 5
      have hC := HK.out.2.2.2.2.2.1 wr hb.out.1
      have hz := Lib.hid (show zs[5]? = some z5 from by rw [← hzs.out]; rfl)
      gi_wp2
      refine ⟨trivial, ?_⟩
      refine (callsIn_wide.2 hC).mono ?_
      rintro e w1 ⟨rfl, hb1⟩
      have HB1 := Lib.hid (hb.out.1.trans (hb1.mono hb.out.1.size))
      have HS1 := Lib.hid (Nat.le_trans hb.out.2 hb1.size)
      have hJ1 : J (zs.take 5) w1 := HJ.out _ _ _ none hJs (grownBy_of_below hb1) (fun r e => by cases e)
      obtain ⟨fn, tmps, assign, body, hy, hR⟩ := hY _ z5 w1 hJ1 (by rw [← hzs.out]; simp)
      clear hb1 hC hJs hJ1 c0
      gi_wp2
      refine hR.mono ?_
      rintro e W3 (⟨rfl, hJ3, hk3⟩ | ⟨rfl, hJx3⟩)
      · have HB3 := Lib.hid (show Below w0.heap.size w0 W3 ∧ W.heap.size ≤ W3.heap.size from ⟨HB1.out.trans hk3, Nat.le_trans HS1.out hk3.size⟩)
        clear hk3
        gi_wp2
        go_roundw
        case rel => exact ⟨5 + 1, by omega, rfl, by rw [← take_app hz.out]; exact hJ3, HB3⟩
        case measure => simp [intOf]
      · gi_wp2
        refine bodyPost_ret (results_none rfl _ _ _) rfl ?_
        exact ⟨⟨_, rfl⟩, .inr ⟨_, by rw [take_app hz.out]; exact List.take_prefix _ _, hJx3⟩⟩
    · have c0 : wr.cell? ⟨G, 6, none⟩ = some (.func (.func 133) #[] #[.pointer (some ⟨S, 0, none⟩), .pointer (some ⟨N, 0, none⟩)]) := HC.out wr hb.out.1 6
      have hC := HK.out.2.2.2.2.2.2.1 wr hb.out.1
      have hz := Lib.hid (show zs[6]? = some z6 from by rw [← hzs.out]; rfl)
      gi_wp2
      refine ⟨trivial, ?_⟩
      refine (callsIn_wide.2 hC).mono ?_
      rintro e w1 ⟨rfl, hb1⟩
      have HB1 := Lib.hid (hb.out.1.trans (hb1.mono hb.out.1.size))
      have HS1 := Lib.hid (Nat.le_trans hb.out.2 hb1.size)
      have hJ1 : J (zs.take 6) w1 := HJ.out _ _ _ none hJs (grownBy_of_below hb1) (fun r e => by cases e)
      obtain ⟨fn, tmps, assign, body, hy, hR⟩ := hY _ z6 w1 hJ1 (by rw [← hzs.out]; simp)
      clear hb1 hC hJs hJ1 c0
      gi_wp2
      refine hR.mono ?_
      rintro e W3 (⟨rfl, hJ3, hk3⟩ | ⟨rfl, hJx3⟩)
      · have HB3 := Lib.hid (show Below w0.heap.size w0 W3 ∧ W.heap.size ≤ W3.heap.size from ⟨HB1.out.trans hk3, Nat.le_trans HS1.out hk3.size⟩)
        clear hk3
        gi_wp2
        go_roundw
        case rel => exact ⟨6 + 1, by omega, rfl, by rw [← take_app hz.out]; exact hJ3, HB3⟩
        case measure => simp [intOf]
      · gi_wp2
        refine bodyPost_ret (results_none rfl _ _ _) rfl ?_
        exact ⟨⟨_, rfl⟩, .inr ⟨_, by rw [take_app hz.out]; exact List.take_prefix _ _, hJx3⟩⟩
    · have c0 : wr.cell? ⟨G, 7, none⟩ = some (.func (.func 135) #[] #[.pointer (some ⟨S, 0, none⟩), .pointer (some ⟨N, 0, none⟩)]) := HC.out wr hb.out.1 7
      have hC := HK.out.2.2.2.2.2.2.2.1 wr hb.out.1
      have hz := Lib.hid (show zs[7]? = some z7 from by rw [← hzs.out]; rfl)
      gi_wp2
      refine ⟨trivial, ?_⟩
      refine (callsIn_wide.2 hC).mono ?_
      rintro e w1 ⟨rfl, hb1⟩
      have HB1 := Lib.hid (hb.out.1.trans (hb1.mono hb.out.1.size))
      have HS1 := Lib.hid (Nat.le_trans hb.out.2 hb1.size)
      have hJ1 : J (zs.take 7) w1 := HJ.out _ _ _ none hJs (grownBy_of_below hb1) (fun r e => by cases e)
      obtain ⟨fn, tmps, assign, body, hy, hR⟩ := hY _ z7 w1 hJ1 (by rw [← hzs.out]; simp)
      clear hb1 hC hJs hJ1 c0
      gi_wp2
      refine hR.mono ?_
      rintro e W3 (⟨rfl, hJ3, hk3⟩ | ⟨rfl, hJx3⟩)
      · have HB3 := Lib.hid (show Below w0.heap.size w0 W3 ∧ W.heap.size ≤ W3.heap.size from ⟨HB1.out.trans hk3, Nat.le_trans HS1.out hk3.size⟩)
        clear hk3
        gi_wp2
        go_roundw
        case rel => exact ⟨7 + 1, by omega, rfl, by rw [← take_app hz.out]; exact hJ3, HB3⟩
        case measure => simp [intOf]
      · gi_wp2
        refine bodyPost_ret (results_none rfl _ _ _) rfl ?_
        exact ⟨⟨_, rfl⟩, .inr ⟨_, by rw [take_app hz.out]; exact List.take_prefix _ _, hJx3⟩⟩
    · have c0 : wr.cell? ⟨G, 8, none⟩ = some (.func (.func 136) #[] #[.pointer (some ⟨S, 0, none⟩)]) := HC.out wr hb.out.1 8
      have hC := HK.out.2.2.2.2.2.2.2.2 wr hb.out.1
      have hz := Lib.hid (show zs[8]? = some z8 from by rw [← hzs.out]; rfl)
      gi_wp2
      refine ⟨trivial, ?_⟩
      refine (callsIn_wide.2 hC).mono ?_
      rintro e w1 ⟨rfl, hb1⟩
      have HB1 := Lib.hid (hb.out.1.trans (hb1.mono hb.out.1.size))
      have HS1 := Lib.hid (Nat.le_trans hb.out.2 hb1.size)
      have hJ1 : J (zs.take 8) w1 := HJ.out _ _ _ none hJs (grownBy_of_below hb1) (fun r e => by cases e)
      obtain ⟨fn, tmps, assign, body, hy, hR⟩ := hY _ z8 w1 hJ1 (by rw [← hzs.out]; simp)
      clear hb1 hC hJs hJ1 c0
      gi_wp2
      refine hR.mono ?_
      rintro e W3 (⟨rfl, hJ3, hk3⟩ | ⟨rfl, hJx3⟩)
      · have HB3 := Lib.hid (show Below w0.heap.size w0 W3 ∧ W.heap.size ≤ W3.heap.size from ⟨HB1.out.trans hk3, Nat.le_trans HS1.out hk3.size⟩)
        clear hk3
        gi_wp2
        go_roundw
        case rel => exact ⟨8 + 1, by omega, rfl, by rw [← take_app hz.out]; exact hJ3, HB3⟩
        case measure => simp [intOf]
      · gi_wp2
        refine bodyPost_ret (results_none rfl _ _ _) rfl ?_
        exact ⟨⟨_, rfl⟩, .inr ⟨_, by rw [take_app hz.out]; exact List.take_prefix _ _, hJx3⟩⟩
    · gi_wp2
      go_end0
      exact ⟨⟨_, rfl⟩, .inl ⟨_, by rw [← hzs.out]; rfl, hJs⟩⟩
end Go.Proofs.YtnapnkmehnabfaaGreat
