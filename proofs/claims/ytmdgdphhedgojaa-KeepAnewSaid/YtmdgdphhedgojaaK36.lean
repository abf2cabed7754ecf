import Derived.Test.YtmdgdphhedgojaaK359
import Derived.Maps.AppendAt
namespace Go.Proofs.Ytmdgdphhedgojaa
open Go.RowKit Go.Maps

theorem own_cap3 {w : World} {base n c : Nat} {A : Option Addr} {e : TypeId} {size : Nat} {xs : List Value} (h : w.ownsRow base e size (.slice A n c) n xs) : n ≤ c := by
  rcases h.2 with ⟨h0, _⟩ | ⟨g', cap', cur, hv, hg, hh, hn, hcap, hsz, htake⟩
  · cases h0; exact Nat.le_refl _
  · cases hv; exact hn
theorem i64_tdiv {x n : Int} (h : i64 x) (hn : 1 ≤ n) : i64 (x.tdiv n) := by
  unfold i64 at *
  by_cases hx : 0 ≤ x
  · rw [Int.tdiv_eq_ediv_of_nonneg hx]
    have h1 := Int.ediv_nonneg hx (show 0 ≤ n by omega)
    have h2 := Int.ediv_le_self n hx
    omega
  · obtain ⟨y, rfl⟩ : ∃ y, x = -y := ⟨-x, by omega⟩
    rw [Int.neg_tdiv, Int.tdiv_eq_ediv_of_nonneg (by omega)]
    have h1 := Int.ediv_nonneg (show 0 ≤ y by omega) (show 0 ≤ n by omega)
    have h2 := Int.ediv_le_self n (show 0 ≤ y by omega)
    omega
/-- A valid graph in memory, in rows of its own. -/
structure GF (S : Nat) (W : World) (A B : Option Addr) (a b : Nat) (ws : List Int) (ns : List (Int × Int × Int)) : Prop where
  ra : W.ownsRow S 3 1 (.slice A ws.length a) ws.length (ws.map (Value.int .i64))
  rb : W.ownsRow S 52 3 (.slice B ns.length b) ns.length (triC ns)
  gv : GV ws ns
  l : ws.length ≤ 30
theorem GF.below {S : Nat} {W W' : World} {A B : Option Addr} {a b : Nat} {ws : List Int} {ns : List (Int × Int × Int)} (h : GF S W A B a b ws ns) (hb : Below W.heap.size W W') : GF S W' A B a b ws ns := ⟨own_below h.ra hb, own_below h.rb hb, h.gv, h.l⟩
theorem GF.alloc {S : Nat} {W : World} {A B : Option Addr} {a b : Nat} {ws : List Int} {ns : List (Int × Int × Int)} (h : GF S W A B a b ws ns) (o : Obj) : GF S (W.alloc o) A B a b ws ns := ⟨h.ra.alloc _, h.rb.alloc _, h.gv, h.l⟩
theorem GF.kp {S : Nat} {W W' : World} {A B : Option Addr} {a b : Nat} {xs : List Int} {ts : List (Int × Int × Int)} (h : GF S W A B a b xs ts) {p : Nat} {F : Nat → Prop} {ls ws : List Int} {ns : List (Int × Int × Int)} {work : Int} (hK : KP W p F ls ws ns work) (hg : W.grownBy W' (some p)) : GF S W' A B a b xs ts :=
  ⟨hK.own h.ra (by decide) hg, hK.own h.rb (by decide) hg, h.gv, h.l⟩

set_option linter.unusedSimpArgs false in
set_option maxHeartbeats 8000000 in
set_option maxRecDepth 100000 in
theorem anew_walk (A B C : Option Addr) (c d f : Nat) (l k ms : List Int) (q1 q2 q3 : Int) (w : World) (hA : SI w A l) (hB : SI w B k) (hC : SI w C ms) (hwl : W64 l) (hwk : W64 k) (hwm : W64 ms) (hq1 : i64 q1) (hq2 : i64 q2) (hq3 : i64 q3) :
    Calls Try.prog 3 #[.slice A l.length c, .slice C ms.length f, .slice B k.length d, .int .i64 q1, .int .i64 q2, .int .i64 q3] w fun e w' => e = .returned (.bool true) ∧ Below w.heap.size w w' := by
  have Hq := Lib.hid (show i64 q1 ∧ i64 q2 ∧ i64 q3 from ⟨hq1, hq2, hq3⟩)
  clear hq1 hq2 hq3
  obtain ⟨S, hSz⟩ : ∃ S, Hid (w.heap.size = S) := ⟨_, Lib.hid rfl⟩
  have HA := Lib.hid (fun (W : World) (hW : Below S w W) => (hA.below (hSz.out.symm ▸ hW) : SI W A l))
  have HC := Lib.hid (fun (W : World) (hW : Below S w W) => (hC.below (hSz.out.symm ▸ hW) : SI W C ms))
  have Hbz := Lib.hid (fun (W : World) (hW : Below S w W) => (show S ≤ W.heap.size by have := hW.size; have := hSz.out; omega))
  go_enter Try.func3, Try.ntmps3
  go_wp2_with fail
  refine (least_any B d k w hB hwk).mono ?_
  rintro e w1 ⟨v3, ls, rfl, hown3, hT, hb1⟩
  obtain ⟨A3, c3, rfl⟩ := own_slice hown3
  have m1 := hT.n1
  have m2 := hT.n2
  have hthr := hT.ok (by omega)
  rw [hSz.out] at hown3 hb1
  have Hls := Lib.hid hown3
  have Hb1 := Lib.hid hb1
  have Hthr := Lib.hid hthr
  clear hA hB hC hwk hT hown3 hb1 hthr
  go_wp2_with fail
  refine (new_any A3 c3 ls w1 (own_si Hls.out) (by omega)).mono ?_
  rintro e w2 ⟨hb2, hok, _⟩
  obtain ⟨p, F1, rfl, hpz, hKP, _⟩ := hok Hthr.out
  have hSp : S ≤ p := Nat.le_trans (Hbz.out _ Hb1.out) hpz
  have HK2 := Lib.hid hKP
  have Hb2 := Lib.hid (Hb1.out.trans (hb2.mono (Hbz.out _ Hb1.out)))
  have Hls := Lib.hid (own_below Hls.out hb2)
  clear hok hKP hb2 hpz
  go_wp2_with fail
  refine (some_any A c l 20 w2 (HA.out _ Hb2.out) hwl (by omega) (by omega)).mono ?_
  rintro e w3 ⟨v1, v2, ws, ns, rfl, hown1, hown2, hG, hb3⟩
  obtain ⟨A1, c1, rfl⟩ := own_slice hown1
  obtain ⟨A2, c2, rfl⟩ := own_slice hown2
  have n2 := hG.n2
  have n3 := hG.n3
  have hz2 := Hbz.out _ Hb2.out
  have hga : GF S w3 A1 A2 c1 c2 ws ns := ⟨own_mono hown1 hz2, own_mono hown2 hz2, GV.of (hG.ok (by omega) (by omega)), by omega⟩
  have Ha3 := Lib.hid (hga.alloc (.cells #[.slice A1 ws.length c1, .slice A2 ns.length c2] 30))
  have Hls := Lib.hid ((own_below Hls.out hb3).alloc (.cells #[.slice A1 ws.length c1, .slice A2 ns.length c2] 30))
  have HK3 := Lib.hid ((HK2.out.below hb3).below ((Below.refl _ _).alloc (Nat.le_refl _) (.cells #[.slice A1 ws.length c1, .slice A2 ns.length c2] 30)))
  have hb23 := Hb2.out.trans (hb3.mono hz2)
  have Hb3 := Lib.hid (hb23.alloc (Hbz.out _ hb23) (.cells #[.slice A1 ws.length c1, .slice A2 ns.length c2] 30))
  have Hg3 := Lib.hid (Bk.new w3 30 #[.slice A1 ws.length c1, .slice A2 ns.length c2])
  have hq0 : (w3.alloc (.cells #[.slice A1 ws.length c1, .slice A2 ns.length c2] 30)).cell? ⟨w3.heap.size, 0, none⟩ = some (.slice A1 ws.length c1) := Hg3.out.cell 0
  have hq1 : (w3.alloc (.cells #[.slice A1 ws.length c1, .slice A2 ns.length c2] 30)).cell? ⟨w3.heap.size, 1, none⟩ = some (.slice A2 ns.length c2) := Hg3.out.cell 1
  clear hown1 hown2 hb3 hb23 HK2 Hb2 Hb1 hG hga
  go_wp2_with fail
  clear hq0 hq1
  generalize w3.alloc (.cells #[.slice A1 ws.length c1, .slice A2 ns.length c2] 30) = W3 at *
  generalize w3.heap.size = tg at *
  refine (changed_any A1 A2 c1 c2 q1 q2 q3 ws ns W3 (own_si Ha3.out.ra) (SL.of_own Ha3.out.rb) Ha3.out.gv (by omega) (own_cap3 Ha3.out.rb) Hq.out.1 Hq.out.2.1 Hq.out.2.2).mono ?_
  rintro e w4 ⟨ws2, ns2, A3', a3, A4, a4, rfl, hgv, hln, hown1, hown2, hb4⟩
  have hz3 := Hbz.out _ Hb3.out
  have hgb : GF S w4 A3' A4 a3 a4 ws2 ns2 := ⟨own_mono hown1 hz3, own_mono hown2 hz3, hgv, by omega⟩
  have Ha4 := Lib.hid ((Ha3.out.below hb4).alloc (.cells #[.slice A3' ws2.length a3, .slice A4 ns2.length a4] 30))
  have Hb4' := Lib.hid (hgb.alloc (.cells #[.slice A3' ws2.length a3, .slice A4 ns2.length a4] 30))
  have Hls := Lib.hid ((own_below Hls.out hb4).alloc (.cells #[.slice A3' ws2.length a3, .slice A4 ns2.length a4] 30))
  have HK4 := Lib.hid ((HK3.out.below hb4).below ((Below.refl _ _).alloc (Nat.le_refl _) (.cells #[.slice A3' ws2.length a3, .slice A4 ns2.length a4] 30)))
  have Hg4 := Lib.hid ((Hg3.out.below hb4 Hg3.out.lt).alloc (.cells #[.slice A3' ws2.length a3, .slice A4 ns2.length a4] 30))
  have hb34 := Hb3.out.trans (hb4.mono hz3)
  have Hb4 := Lib.hid (hb34.alloc (Hbz.out _ hb34) (.cells #[.slice A3' ws2.length a3, .slice A4 ns2.length a4] 30))
  have Hh4 := Lib.hid (Bk.new w4 30 #[.slice A3' ws2.length a3, .slice A4 ns2.length a4])
  have hlw2 : ws2.length ≤ 21 := by omega
  clear hown1 hown2 hb4 hb34 HK3 Hb3 hgb Ha3 Hg3 hln hgv
  go_wp2_with fail
  generalize w4.alloc (.cells #[.slice A3' ws2.length a3, .slice A4 ns2.length a4] 30) = W4 at *
  generalize w4.heap.size = th at *
  have hwi := Lib.hid (show i64 (q1.tdiv 9) ∧ i64 (q2.tdiv 4) ∧ i64 (q3.tdiv 12) from ⟨i64_tdiv Hq.out.1 (by omega), i64_tdiv Hq.out.2.1 (by omega), i64_tdiv Hq.out.2.2 (by omega)⟩)
  have hwa : IntKind.i64.wrap (q1.tdiv 9) = q1.tdiv 9 := IntWalk.i64_in _ hwi.out.1
  have hwb : IntKind.i64.wrap (q2.tdiv 4) = q2.tdiv 4 := IntWalk.i64_in _ hwi.out.2.1
  have hwc : IntKind.i64.wrap (q3.tdiv 12) = q3.tdiv 12 := IntWalk.i64_in _ hwi.out.2.2
  have HB0 := Lib.hid ((Below.refl W4.heap.size W4).drew)
  have HSf := Lib.hid (fun (W : World) (hW : Below W4.heap.size W4 W) => show W.cell? ⟨tg, 0, none⟩ = some (.slice A1 ws.length c1) ∧ W.cell? ⟨tg, 1, none⟩ = some (.slice A2 ns.length c2) ∧ W.cell? ⟨th, 0, none⟩ = some (.slice A3' ws2.length a3) ∧ W.cell? ⟨th, 1, none⟩ = some (.slice A4 ns2.length a4) from
    ⟨(Hg4.out.below hW Hg4.out.lt).cell 0, (Hg4.out.below hW Hg4.out.lt).cell 1, (Hh4.out.below hW Hh4.out.lt).cell 0, (Hh4.out.below hW Hh4.out.lt).cell 1⟩)
  have hz4 := Hbz.out _ Hb4.out
  refine wp_region_noPanic ?_
  refine region_H (S := fun W => W.cell? ⟨tg, 0, none⟩ = some (.slice A1 ws.length c1) ∧ W.cell? ⟨tg, 1, none⟩ = some (.slice A2 ns.length c2) ∧ W.cell? ⟨th, 0, none⟩ = some (.slice A3' ws2.length a3) ∧ W.cell? ⟨th, 1, none⟩ = some (.slice A4 ns2.length a4)) (by kernel_rfl) ?_
  change wpH _ _ _ _ 16 _ _ W4.drew
  refine H_takeD (k := 0) (v := .agg #[.slice A1 ws.length c1, .slice A2 ns.length c2]) (d := some 44) rfl rfl (by decide +kernel) (fun _ _ _ h => h) (Or.inl ⟨by rfl, fun W hW => by obtain ⟨s0, s1, s2, s3⟩ := hW; go_simp⟩) (HSf.out _ HB0.out) ?_
  try simp only [Act.put, List.setIfInBounds_toArray, List.set_cons_zero, List.set_cons_succ]
  refine H_takeD (k := 1) (v := .agg #[.slice A3' ws2.length a3, .slice A4 ns2.length a4]) (d := some 45) rfl rfl (by decide +kernel) (fun _ _ _ h => h) (Or.inl ⟨by rfl, fun W hW => by obtain ⟨s0, s1, s2, s3⟩ := hW; go_simp⟩) (HSf.out _ HB0.out) ?_
  try simp only [Act.put, List.setIfInBounds_toArray, List.set_cons_zero, List.set_cons_succ]
  refine H_takeD (k := 2) (v := .slice C ms.length f) (d := some 46) rfl rfl (by decide +kernel) (fun _ _ _ h => h) (Or.inl ⟨by rfl, fun W hW => by obtain ⟨s0, s1, s2, s3⟩ := hW; go_simp⟩) (HSf.out _ HB0.out) ?_
  try simp only [Act.put, List.setIfInBounds_toArray, List.set_cons_zero, List.set_cons_succ]
  refine H_takeD (k := 4) (v := .agg #[.slice A3' ws2.length a3, .slice A4 ns2.length a4]) (d := some 48) rfl rfl (by decide +kernel) (fun _ _ _ h => h) (Or.inl ⟨by rfl, fun W hW => by obtain ⟨s0, s1, s2, s3⟩ := hW; go_simp⟩) (HSf.out _ HB0.out) ?_
  try simp only [Act.put, List.setIfInBounds_toArray, List.set_cons_zero, List.set_cons_succ]
  refine H_takeD (k := 5) (v := .agg #[.slice A3' ws2.length a3, .slice A4 ns2.length a4]) (d := some 49) rfl rfl (by decide +kernel) (fun _ _ _ h => h) (Or.inl ⟨by rfl, fun W hW => by obtain ⟨s0, s1, s2, s3⟩ := hW; go_simp⟩) (HSf.out _ HB0.out) ?_
  try simp only [Act.put, List.setIfInBounds_toArray, List.set_cons_zero, List.set_cons_succ]
  refine H_takeD (k := 6) (v := .int .i64 q1) (d := some 50) rfl rfl (by decide +kernel) (fun _ _ _ h => h) (Or.inl ⟨by rfl, fun W hW => by obtain ⟨s0, s1, s2, s3⟩ := hW; go_simp⟩) (HSf.out _ HB0.out) ?_
  try simp only [Act.put, List.setIfInBounds_toArray, List.set_cons_zero, List.set_cons_succ]
  refine H_takeD (k := 7) (v := .int .i64 (q1.tdiv 9)) (d := some 51) rfl rfl (by decide +kernel) (fun _ _ _ h => h) (Or.inl ⟨by rfl, fun W hW => by obtain ⟨s0, s1, s2, s3⟩ := hW; go_simp⟩) (HSf.out _ HB0.out) ?_
  try simp only [Act.put, List.setIfInBounds_toArray, List.set_cons_zero, List.set_cons_succ]
  refine H_takeD (k := 8) (v := .int .i64 q2) (d := some 52) rfl rfl (by decide +kernel) (fun _ _ _ h => h) (Or.inl ⟨by rfl, fun W hW => by obtain ⟨s0, s1, s2, s3⟩ := hW; go_simp⟩) (HSf.out _ HB0.out) ?_
  try simp only [Act.put, List.setIfInBounds_toArray, List.set_cons_zero, List.set_cons_succ]
  refine H_takeD (k := 9) (v := .int .i64 (q2.tdiv 4)) (d := some 53) rfl rfl (by decide +kernel) (fun _ _ _ h => h) (Or.inl ⟨by rfl, fun W hW => by obtain ⟨s0, s1, s2, s3⟩ := hW; go_simp⟩) (HSf.out _ HB0.out) ?_
  try simp only [Act.put, List.setIfInBounds_toArray, List.set_cons_zero, List.set_cons_succ]
  refine H_takeD (k := 10) (v := .int .i64 q3) (d := some 54) rfl rfl (by decide +kernel) (fun _ _ _ h => h) (Or.inl ⟨by rfl, fun W hW => by obtain ⟨s0, s1, s2, s3⟩ := hW; go_simp⟩) (HSf.out _ HB0.out) ?_
  try simp only [Act.put, List.setIfInBounds_toArray, List.set_cons_zero, List.set_cons_succ]
  refine H_takeD (k := 11) (v := .int .i64 (q3.tdiv 12)) (d := some 55) rfl rfl (by decide +kernel) (fun _ _ _ h => h) (Or.inl ⟨by rfl, fun W hW => by obtain ⟨s0, s1, s2, s3⟩ := hW; go_simp⟩) (HSf.out _ HB0.out) ?_
  try simp only [Act.put, List.setIfInBounds_toArray, List.set_cons_zero, List.set_cons_succ]
  refine H_takeD (k := 13) (v := .agg #[.slice A1 ws.length c1, .slice A2 ns.length c2]) (d := some 57) rfl rfl (by decide +kernel) (fun _ _ _ h => h) (Or.inl ⟨by rfl, fun W hW => by obtain ⟨s0, s1, s2, s3⟩ := hW; go_simp⟩) (HSf.out _ HB0.out) ?_
  try simp only [Act.put, List.setIfInBounds_toArray, List.set_cons_zero, List.set_cons_succ]
  refine H_one (i := 3) (by decide +kernel) (H_step rfl rfl (fun K hK12 => ?_))
  have hK12 := Lib.hid hK12
  go_simp
  go_at_call 11
  refine (some_any C f ms 9 _ (HC.out _ (Hb4.out.trans (HB0.out.mono hz4))) hwm (by omega) (by omega)).mono ?_
  rintro e X1 ⟨v1, v2, ws3, ns3, rfl, hown1, hown2, hG, hbX⟩
  obtain ⟨A5, c5, rfl⟩ := own_slice hown1
  obtain ⟨A6, c6, rfl⟩ := own_slice hown2
  have k2 := hG.n2
  have Hc1 := Lib.hid (⟨own_mono hown1 hz4, own_mono hown2 hz4, GV.of (hG.ok (by omega) (by omega)), by omega⟩ : GF S X1 A5 A6 c5 c6 ws3 ns3)
  have HB1 := Lib.hid (HB0.out.trans (hbX.mono HB0.out.size))
  have hz5 : S ≤ X1.heap.size := Nat.le_trans hz4 HB1.out.size
  clear hown1 hown2 hG hbX
  refine hK12.out _ _ (HSf.out _ HB1.out) ?_
  try simp only [Act.put, List.setIfInBounds_toArray, List.set_cons_zero, List.set_cons_succ]
  refine H_one (i := 12) (by decide +kernel) (H_step rfl rfl (fun K hK13 => ?_))
  have hK13 := Lib.hid hK13
  go_simp
  go_at_call 12
  refine (changed_any A3' A4 a3 a4 _ _ _ ws2 ns2 X1 (own_si (Hb4'.out.below HB1.out).ra) (SL.of_own (Hb4'.out.below HB1.out).rb) Hb4'.out.gv (by omega) (own_cap3 Hb4'.out.rb) (hwi.out.1) (hwi.out.2.1) (hwi.out.2.2)).mono ?_
  rintro e X2 ⟨ws4, ns4, A7, a7, A8, a8, rfl, hgv, hln, hown1, hown2, hbX⟩
  have Hd2 := Lib.hid (⟨own_mono hown1 hz5, own_mono hown2 hz5, hgv, by omega⟩ : GF S X2 A7 A8 a7 a8 ws4 ns4)
  have Hc2 := Lib.hid (Hc1.out.below hbX)
  have HB2 := Lib.hid (HB1.out.trans (hbX.mono HB1.out.size))
  clear hown1 hown2 hgv hln hbX
  refine hK13.out _ _ (HSf.out _ HB2.out) ?_
  try simp only [Act.put, List.setIfInBounds_toArray, List.set_cons_zero, List.set_cons_succ]
  refine H_one (i := 14) (by decide +kernel) (H_step rfl rfl (fun K hK14 => ?_))
  have hK14 := Lib.hid hK14
  go_simp
  have HB3 := Lib.hid (HB2.out.alloc HB2.out.size (.cells #[.slice A1 ws.length c1, .slice A2 ns.length c2, .slice A3' ws2.length a3, .slice A4 ns2.length a4, .slice A5 ws3.length c5, .slice A6 ns3.length c6, .slice A3' ws2.length a3, .slice A4 ns2.length a4, .slice A7 ws4.length a7, .slice A8 ns4.length a8, .slice A1 ws.length c1, .slice A2 ns.length c2] 30))
  have Hd3 := Lib.hid (Hd2.out.alloc (.cells #[.slice A1 ws.length c1, .slice A2 ns.length c2, .slice A3' ws2.length a3, .slice A4 ns2.length a4, .slice A5 ws3.length c5, .slice A6 ns3.length c6, .slice A3' ws2.length a3, .slice A4 ns2.length a4, .slice A7 ws4.length a7, .slice A8 ns4.length a8, .slice A1 ws.length c1, .slice A2 ns.length c2] 30))
  have Hc3 := Lib.hid (Hc2.out.alloc (.cells #[.slice A1 ws.length c1, .slice A2 ns.length c2, .slice A3' ws2.length a3, .slice A4 ns2.length a4, .slice A5 ws3.length c5, .slice A6 ns3.length c6, .slice A3' ws2.length a3, .slice A4 ns2.length a4, .slice A7 ws4.length a7, .slice A8 ns4.length a8, .slice A1 ws.length c1, .slice A2 ns.length c2] 30))
  have HBL := Lib.hid (Bk.new X2 30 #[.slice A1 ws.length c1, .slice A2 ns.length c2, .slice A3' ws2.length a3, .slice A4 ns2.length a4, .slice A5 ws3.length c5, .slice A6 ns3.length c6, .slice A3' ws2.length a3, .slice A4 ns2.length a4, .slice A7 ws4.length a7, .slice A8 ns4.length a8, .slice A1 ws.length c1, .slice A2 ns.length c2])
  refine hK14.out _ _ (HSf.out _ HB3.out) ?_
  try simp only [Act.put, List.setIfInBounds_toArray, List.set_cons_zero, List.set_cons_succ]
  generalize X2.alloc (.cells #[.slice A1 ws.length c1, .slice A2 ns.length c2, .slice A3' ws2.length a3, .slice A4 ns2.length a4, .slice A5 ws3.length c5, .slice A6 ns3.length c6, .slice A3' ws2.length a3, .slice A4 ns2.length a4, .slice A7 ws4.length a7, .slice A8 ns4.length a8, .slice A1 ws.length c1, .slice A2 ns.length c2] 30) = X3 at *
  generalize X2.heap.size = bl at *
  refine H_takeD (k := 15) (v := .slice (some ⟨bl, 0, none⟩) 6 6) (d := some 18) rfl rfl (by decide +kernel) (fun _ _ _ h => h) (Or.inl ⟨by rfl, fun W hW => by obtain ⟨s0, s1, s2, s3⟩ := hW; go_simp⟩) (HSf.out _ HB3.out) ?_
  try simp only [Act.put, List.setIfInBounds_toArray, List.set_cons_zero, List.set_cons_succ]
  refine H_end (by decide +kernel) (NoPanic.normal ?_)
  try simp only [Act.put, List.setIfInBounds_toArray, List.set_cons_zero, List.set_cons_succ]
  go_wp2_with fail
  have HK7 := Lib.hid (HK4.out.below HB3.out)
  have Hls := Lib.hid (own_below Hls.out HB3.out)
  have Hb7 := Lib.hid (Hb4.out.trans (HB3.out.mono hz4))
  have Hall := Lib.hid (show ∀ i, i < 6 → ∃ A a B b xs ts, (#[.slice A1 ws.length c1, .slice A2 ns.length c2, .slice A3' ws2.length a3, .slice A4 ns2.length a4, .slice A5 ws3.length c5, .slice A6 ns3.length c6, .slice A3' ws2.length a3, .slice A4 ns2.length a4, .slice A7 ws4.length a7, .slice A8 ns4.length a8, .slice A1 ws.length c1, .slice A2 ns.length c2] : Array Value)[i * 2]? = some (.slice A (List.length xs) a) ∧ (#[.slice A1 ws.length c1, .slice A2 ns.length c2, .slice A3' ws2.length a3, .slice A4 ns2.length a4, .slice A5 ws3.length c5, .slice A6 ns3.length c6, .slice A3' ws2.length a3, .slice A4 ns2.length a4, .slice A7 ws4.length a7, .slice A8 ns4.length a8, .slice A1 ws.length c1, .slice A2 ns.length c2] : Array Value)[i * 2 + 1]? = some (.slice B (List.length ts) b) ∧ GF S X3 A B a b xs ts from fun i hi => match i, hi with
    | 0, _ => ⟨A1, c1, A2, c2, ws, ns, rfl, rfl, Ha4.out.below HB3.out⟩
    | 1, _ => ⟨A3', a3, A4, a4, ws2, ns2, rfl, rfl, Hb4'.out.below HB3.out⟩
    | 2, _ => ⟨A5, c5, A6, c6, ws3, ns3, rfl, rfl, Hc3.out⟩
    | 3, _ => ⟨A3', a3, A4, a4, ws2, ns2, rfl, rfl, Hb4'.out.below HB3.out⟩
    | 4, _ => ⟨A7, a7, A8, a8, ws4, ns4, rfl, rfl, Hd3.out⟩
    | 5, _ => ⟨A1, c1, A2, c2, ws, ns, rfl, rfl, Ha4.out.below HB3.out⟩
    | n + 6, h => absurd h (by omega))
  have HBL := Lib.hid (HBL.out)
  generalize hvs : (#[.slice A1 ws.length c1, .slice A2 ns.length c2, .slice A3' ws2.length a3, .slice A4 ns2.length a4, .slice A5 ws3.length c5, .slice A6 ns3.length c6, .slice A3' ws2.length a3, .slice A4 ns2.length a4, .slice A7 ws4.length a7, .slice A8 ns4.length a8, .slice A1 ws.length c1, .slice A2 ns.length c2] : Array Value) = vs at *
  have hz7 := Hbz.out _ Hb7.out
  clear hvs Ha4 Hb4' Hc1 Hc2 Hc3 Hd2 Hd3 HB0 HB1 HB2 HB3 HSf HK4 Hb4 hz5 hwa hwb hwc hwi Hg4 Hh4
  go_loopw [19] (fun v wr => ∃ (i : Nat) (F5 : Nat → Prop) (ws5 : List Int) (ns5 : List (Int × Int × Int)) (wk : Int), i ≤ 6 ∧ v = .int .i64 i ∧ 0 ≤ wk ∧ wk ≤ 16777216 * i ∧ KP wr p F5 ls ws5 ns5 wk ∧ X3.grownBy wr (some p)) (fun v _ => 6 - (intOf v).toNat)
  case atStart => exact ⟨0, F1, [], [], 0, by omega, rfl, by omega, by omega, HK7.out, World.grownBy.refl _ _⟩
  case round =>
    obtain ⟨i, F5, ws5, ns5, wk, hi, rfl, hw0, hw1, hK, hg⟩ := hrel
    by_cases hlt : i < 6
    · have i0 : (0 : Int) ≤ (i : Int) := by omega
      obtain ⟨A5, a5, B5, b5, xs, ts, hv0, hv1, hG⟩ := Hall.out i hlt
      have HG := Lib.hid (hG.kp HK7.out hg)
      have HL := Lib.hid (HK7.out.bk HBL.out (by decide) hg)
      have Hls5 := Lib.hid (HK7.out.own Hls.out (by decide) hg)
      have HK5 := Lib.hid hK
      have Hg5 := Lib.hid hg
      have q0 : wr.cell? ⟨bl, i * 2, none⟩ = some (.slice A5 xs.length a5) := (HL.out.cell (i * 2)).trans hv0
      have q1' : wr.cell? ⟨bl, i * 2 + 1, none⟩ = some (.slice B5 ts.length b5) := (HL.out.cell (i * 2 + 1)).trans hv1
      have lx := hG.l
      have lt := hG.gv.n2
      have Hvx := Lib.hid hG.gv.ok
      clear hG hK hg
      go_wp2_with fail
      clear q0 q1'
      refine (own_any A5 B5 a5 b5 xs.length ts.length wr).mono ?_
      rintro e w5 ⟨rfl, hb⟩
      have HK6 := Lib.hid (HK5.out.below hb)
      have HG6 := Lib.hid (HG.out.below hb)
      have HL6 := Lib.hid (HL.out.below hb HL.out.lt)
      have Hls6 := Lib.hid (own_below Hls5.out hb)
      have Hg6 := Lib.hid (Hg5.out.trans (grown_of_below hb (some p)))
      clear hb HK5 HG HL Hls5 Hg5
      go_wp2_with fail
      refine (set_any p F5 A5 B5 a5 b5 ls ws5 xs ns5 ts wk w5 HK6.out (HK6.out.siO HG6.out.ra) (HK6.out.stO HG6.out.rb) (by omega) (by omega) (by omega)).mono ?_
      rintro e w6 ⟨_, hok⟩
      obtain ⟨he, hg, F6, hK, _⟩ := hok Hvx.out
      subst he
      have hinc := incD_le2 (ws := ws5) (ns := ns5) Hvx.out
      obtain ⟨wk6, hwk6⟩ : ∃ z, Hid (wk + incD (newsD (partsD ws5 ns5) (partsD xs ts)) = z) := ⟨_, Lib.hid rfl⟩
      rw [hwk6.out] at hK
      have hw6 : 0 ≤ wk6 ∧ wk6 ≤ 16777216 * ((i : Int) + 1) := by have := hwk6.out; omega
      have HG7 := Lib.hid (HG6.out.kp HK6.out hg)
      have HL7 := Lib.hid (HK6.out.bk HL6.out (by decide) hg)
      have Hls7 := Lib.hid (HK6.out.own Hls6.out (by decide) hg)
      have Hg7 := Lib.hid (Hg6.out.trans hg)
      have HK7' := Lib.hid hK
      clear hok hg hK HK6 HG6 HL6 Hls6 Hg6 hinc hwk6
      generalize (newsD (partsD ws5 ns5) (partsD xs ts)).length = many
      have q0 : w6.cell? ⟨bl, i * 2, none⟩ = some (.slice A5 xs.length a5) := (HL7.out.cell (i * 2)).trans hv0
      have q1' : w6.cell? ⟨bl, i * 2 + 1, none⟩ = some (.slice B5 ts.length b5) := (HL7.out.cell (i * 2 + 1)).trans hv1
      go_wp2_with fail
      clear q0 q1'
      refine (own_any A5 B5 a5 b5 xs.length ts.length w6).mono ?_
      rintro e w7 ⟨rfl, hb⟩
      have HK8 := Lib.hid (HK7'.out.below hb)
      have HG8 := Lib.hid (HG7.out.below hb)
      have Hls8 := Lib.hid (own_below Hls7.out hb)
      have Hg8 := Lib.hid (Hg7.out.trans (grown_of_below hb (some p)))
      clear hb HK7' HG7 HL7 Hls7 Hg7
      go_wp2_with fail
      have hoE : ofE xs ts ls = 0 := by rw [ofE_eq, Hvx.out, Hthr.out]; rfl
      have hoL : ofL xs ts ls = lists xs ts ls := by rw [ofL, if_pos hoE]
      have hw5 : ∀ l ∈ lists xs ts ls, l.length ≤ 1099511627776 := fun l hl => by rw [lists_lens2 l hl]; omega
      refine (of_any A5 B5 A3 a5 b5 c3 xs ts ls w7 (own_si HG8.out.ra) (SL.of_own HG8.out.rb) (own_si Hls8.out) (by omega) (by omega) (by omega)).mono ?_
      rintro e w17 ⟨DW, mW, vs3, he, hown, hLL, hb17⟩
      rw [hoE, hoL, lists_len] at he
      rw [hoL, lists_len] at hown
      rw [hoL] at hLL
      subst he
      have hbn := (Below.refl w17.heap.size w17).alloc (Nat.le_refl _) (.cells #[.slice DW ls.length mW] 40)
      have hbc := hb17.alloc hb17.size (.cells #[.slice DW ls.length mW] 40)
      have HWs := Lib.hid ((SLL.of_rows hown hLL hw5).below hbn)
      have HW17 := Lib.hid (Bk.new w17 40 #[.slice DW ls.length mW])
      have HK17 := Lib.hid (HK8.out.below hbc)
      have Hg17 := Lib.hid (Hg8.out.trans (grown_of_below hbc (some p)))
      clear hown hLL hb17 hbn hbc HK8 HG8 Hls8 Hg8
      go_wp2_with fail
      generalize w17.alloc (.cells #[.slice DW ls.length mW] 40) = W17 at *
      generalize w17.heap.size = tw at *
      have HB0 := Lib.hid ((Below.refl W17.heap.size W17).drew)
      have HSf := Lib.hid (fun (W : World) (hW : Below W17.heap.size W17 W) => show W.cell? ⟨tw, 0, none⟩ = some (.slice DW ls.length mW) from (HW17.out.below hW HW17.out.lt).cell 0)
      have Hsame := Lib.hid (fun (D : Option Addr) (m : Nat) (W : World) (hW : Below W17.heap.size W17 W) (hD : SLL W D (lists xs ts ls)) => show Calls Try.prog 16 #[.slice D ls.length m, .slice DW ls.length mW] W fun e w' => e = .returned (.bool true) ∧ Qt W w' from by
        have h := sameLists_any D DW m mW (lists xs ts ls) (lists xs ts ls) W hD (HWs.out.below hW) (by rw [lists_len]; omega) (fun l hl => by rw [lists_lens2 l hl]; omega) (fun l hl => by rw [lists_lens2 l hl]; omega)
        rw [lists_len] at h
        exact h.mono fun e w' ⟨he, hq⟩ => ⟨by rw [he]; simp, hq⟩)
      have Hw5 := Lib.hid hw5
      clear hw5 hoE hoL
      refine wp_region_noPanic ?_
      refine region_H (S := fun W => W.cell? ⟨tw, 0, none⟩ = some (.slice DW ls.length mW)) (by kernel_rfl) ?_
      change wpH _ _ _ _ 15 _ _ W17.drew
      refine H_takeD (k := 0) (v := .int .i64 0) (d := some 85) rfl rfl (by decide +kernel) (fun _ _ _ h => h) (Or.inl ⟨by rfl, fun W hW => by have s0 := hW; go_simp⟩) (HSf.out _ HB0.out) ?_
      try simp only [Act.put, List.setIfInBounds_toArray, List.set_cons_zero, List.set_cons_succ]
      refine H_takeD (k := 1) (v := .bool false) (d := some 86) rfl rfl (by decide +kernel) (fun _ _ _ h => h) (Or.inl ⟨by rfl, fun W hW => by have s0 := hW; go_simp⟩) (HSf.out _ HB0.out) ?_
      try simp only [Act.put, List.setIfInBounds_toArray, List.set_cons_zero, List.set_cons_succ]
      refine H_takeD (k := 2) (v := .bool false) (d := some 87) rfl rfl (by decide +kernel) (fun _ _ _ h => h) (Or.inl ⟨by rfl, fun W hW => by have s0 := hW; go_simp⟩) (HSf.out _ HB0.out) ?_
      try simp only [Act.put, List.setIfInBounds_toArray, List.set_cons_zero, List.set_cons_succ]
      refine H_takeD (k := 3) (v := .int .i64 0) (d := some 88) rfl rfl (by decide +kernel) (fun _ _ _ h => h) (Or.inl ⟨by simp [Region.wanted, yielded], fun W hW => by have s0 := hW; go_simp⟩) (HSf.out _ HB0.out) ?_
      try simp only [Act.put, List.setIfInBounds_toArray, List.set_cons_zero, List.set_cons_succ]
      refine H_takeD (k := 4) (v := .bool false) (d := some 89) rfl rfl (by decide +kernel) (fun _ _ _ h => h) (Or.inl ⟨by simp [Region.wanted, yielded], fun W hW => by have s0 := hW; go_simp⟩) (HSf.out _ HB0.out) ?_
      try simp only [Act.put, List.setIfInBounds_toArray, List.set_cons_zero, List.set_cons_succ]
      refine H_takeD (k := 5) (v := .bool false) (d := some 90) rfl rfl (by decide +kernel) (fun _ _ _ h => h) (Or.inl ⟨by rfl, fun W hW => by have s0 := hW; go_simp⟩) (HSf.out _ HB0.out) ?_
      try simp only [Act.put, List.setIfInBounds_toArray, List.set_cons_zero, List.set_cons_succ]
      refine H_takeD (k := 6) (v := .bool false) (d := some 91) rfl rfl (by decide +kernel) (fun _ _ _ h => h) (Or.inl ⟨by rfl, fun W hW => by have s0 := hW; go_simp⟩) (HSf.out _ HB0.out) ?_
      try simp only [Act.put, List.setIfInBounds_toArray, List.set_cons_zero, List.set_cons_succ]
      refine H_takeD (k := 7) (v := .pointer (some ⟨p, 0, none⟩)) (d := some 92) rfl rfl (by decide +kernel) (fun _ _ _ h => h) (Or.inl ⟨by simp [Region.wanted, yielded], fun W hW => by have s0 := hW; go_simp⟩) (HSf.out _ HB0.out) ?_
      try simp only [Act.put, List.setIfInBounds_toArray, List.set_cons_zero, List.set_cons_succ]
      refine H_takeD (k := 10) (v := .pointer (some ⟨tw, 0, none⟩)) (d := some 95) rfl rfl (by decide +kernel) (fun _ _ _ h => h) (Or.inl ⟨by simp [Region.wanted, yielded], fun W hW => by have s0 := hW; go_simp⟩) (HSf.out _ HB0.out) ?_
      try simp only [Act.put, List.setIfInBounds_toArray, List.set_cons_zero, List.set_cons_succ]
      refine H_takeD (k := 11) (v := .slice DW ls.length mW) (d := some 96) rfl rfl (by decide +kernel) (fun _ _ _ h => h) (Or.inl ⟨by simp [Region.wanted, yielded], fun W hW => by have s0 := hW; go_simp⟩) (HSf.out _ HB0.out) ?_
      try simp only [Act.put, List.setIfInBounds_toArray, List.set_cons_zero, List.set_cons_succ]
      refine H_one (i := 8) (by decide +kernel) (H_stepg rfl (by simp [Region.wanted, yielded]) (fun K hK10 => ?_))
      have hK10 := Lib.hid hK10
      go_simp
      go_at_call 17
      refine (chain_any p F6 ls xs ts wk6 _ (HK17.out.below HB0.out)).mono ?_
      rintro e wv1 ⟨DD, mD, vsD, rfl, hoD, hLD, hv1⟩
      have HDs := Lib.hid (SLL.of_rows hoD hLD.ll Hw5.out)
      have HB1 := Lib.hid (HB0.out.trans (hv1.mono HB0.out.size))
      have hfd : ∀ W : World, (Instr.field 40 (.agg #[.slice DD ls.length mD]) 0).run Try.prog W = .ok (.slice DD ls.length mD) W := fun _ => by kernel_rfl
      clear hoD hLD hv1
      refine hK10.out _ _ (HSf.out _ HB1.out) ?_
      try simp only [Act.put, List.setIfInBounds_toArray, List.set_cons_zero, List.set_cons_succ]
      refine H_takeD (k := 9) (v := .slice DD ls.length mD) (d := some 94) rfl rfl (by decide +kernel) (fun _ _ _ h => h) (Or.inl ⟨by simp [Region.wanted, yielded], fun W hW => by have s0 := hW; go_simp⟩) (HSf.out _ HB1.out) ?_
      try simp only [Act.put, List.setIfInBounds_toArray, List.set_cons_zero, List.set_cons_succ]
      refine H_one (i := 12) (by decide +kernel) (H_stepg rfl (by simp [Region.wanted, yielded]) (fun K hK12 => ?_))
      have hK12 := Lib.hid hK12
      go_simp
      go_at_call 16
      refine (Hsame.out DD mD _ HB1.out HDs.out).mono ?_
      rintro e wv2 ⟨rfl, hv2⟩
      have HB2 := Lib.hid (hv2.bl HB1.out)
      clear hv2
      refine hK12.out _ _ (HSf.out _ HB2.out) ?_
      try simp only [Act.put, List.setIfInBounds_toArray, List.set_cons_zero, List.set_cons_succ]
      refine H_takeD (k := 13) (v := .bool false) (d := some 98) rfl rfl (by decide +kernel) (fun _ _ _ h => h) (Or.inl ⟨by simp [Region.wanted, yielded], fun W hW => by have s0 := hW; go_simp⟩) (HSf.out _ HB2.out) ?_
      try simp only [Act.put, List.setIfInBounds_toArray, List.set_cons_zero, List.set_cons_succ]
      refine H_takeD (k := 14) (v := .bool false) (d := some 99) rfl rfl (by decide +kernel) (fun _ _ _ h => h) (Or.inl ⟨by rfl, fun W hW => by have s0 := hW; go_simp⟩) (HSf.out _ HB2.out) ?_
      try simp only [Act.put, List.setIfInBounds_toArray, List.set_cons_zero, List.set_cons_succ]
      refine H_end (by decide +kernel) (NoPanic.normal ?_)
      try simp only [Act.put, List.setIfInBounds_toArray, List.set_cons_zero, List.set_cons_succ]
      have HKe := Lib.hid (HK17.out.below HB2.out)
      have Hge := Lib.hid (Hg17.out.trans (grown_of_below HB2.out (some p)))
      clear hfd HK17 Hg17 HB0 HB1 HB2 HDs HWs HSf Hsame HW17
      go_wp2_with fail
      go_roundw
      case rel => exact ⟨i + 1, F6, xs, ts, wk6, by omega, by go_num, hw6.1, by omega, HKe.out, Hge.out⟩
      case measure => simp [intOf]; omega
    · obtain rfl : i = 6 := by omega
      have Hg5 := Lib.hid (far_p Hb7.out hz7 hSp hg)
      clear hK hg
      go_wp2_with fail
      refine (lives_any _).mono ?_
      rintro e w13 ⟨rfl, hb13⟩
      go_wp2_with fail
      go_ret
      exact ⟨rfl, by rw [hSz.out]; exact Hg5.out.trans (hb13.mono (Hbz.out _ Hg5.out))⟩
end Go.Proofs.Ytmdgdphhedgojaa
