import Derived.Test.YtmdgdphhedgojaaK313
namespace Go.Proofs.Ytmdgdphhedgojaa
open Go.RowKit Go.Maps

/-- The graph so far: i faces put in. -/
structure NumR (S : Nat) (w0 w : World) (tm : Nat) (ws : List Int) (ns : List (Int × Int × Int)) (i : Nat) (xs : List Int) (ts : List (Int × Int × Int)) (A B : Option Addr) (a b : Nat) : Prop where
  bk : Bk w tm 30 #[.slice A xs.length a, .slice B ts.length b]
  ra : w.ownsRow S 3 1 (.slice A xs.length a) xs.length (xs.map (Value.int .i64))
  rb : w.ownsRow S 52 3 (.slice B ts.length b) ts.length (triC ts)
  gv : GV xs ts
  l : xs.length = ws.length + i
  l2 : ts.length = ns.length
  ni : NI ((partsD ws ns).map fun d => d.2) ((partsD xs ts).map fun d => d.2) i
  bl : Below w0.heap.size w0 w

theorem NumR.put {S : Nat} {w0 w w8 : World} {tm : Nat} {ws : List Int} {ns : List (Int × Int × Int)} {i : Nat} {xs : List Int} {ts : List (Int × Int × Int)} {A B : Option Addr} {a b : Nat} (h : NumR S w0 w tm ws ns i xs ts A B a b) {q : Nat} {x : Int} {A6 B6 : Option Addr} {a6 b6 : Nat} (hb : Below w.heap.size w w8)
    (ho : w8.ownsRow S 3 1 (.slice A6 (putW xs (1 + q) x).length a6) (putW xs (1 + q) x).length ((putW xs (1 + q) x).map (Value.int .i64))) (hn : w8.ownsRow S 52 3 (.slice B6 (putN ts (1 + q)).length b6) (putN ts (1 + q)).length (triC (putN ts (1 + q))))
    (htm : w0.heap.size ≤ tm) (hq : 1 + q ≤ xs.length) (hl : xs.length + 1 ≤ 4096) (hx : 0 ≤ x ∧ x ≤ 1099511627776) :
    NumR S w0 ((w8.setCell ⟨tm, 0, none⟩ (.slice A6 (putW xs (1 + q) x).length a6)).setCell ⟨tm, 1, none⟩ (.slice B6 (putN ts (1 + q)).length b6)) tm ws ns (i + 1) (putW xs (1 + q) x) (putN ts (1 + q)) A6 B6 a6 b6 := by
  have hT := h.bk.below hb h.bk.lt
  have hT2 := hT.set_ 0 (.slice A6 (putW xs (1 + q) x).length a6)
  refine ⟨hT2.set_ 1 (.slice B6 (putN ts (1 + q)).length b6), own_set (i := 1) (own_set (i := 0) ho (hT.ne_own ho (by decide)) _) (hT.ne_own ho (by decide)) _, own_set (i := 1) (own_set (i := 0) hn (hT.ne_own hn (by decide)) _) (hT.ne_own hn (by decide)) _,
    h.gv.put hq hl hx, ?_, ?_, h.ni.step (put_parts x (by omega) hq (fun t ht => by have := h.gv.t t ht; omega)), ((h.bl.trans (hb.mono h.bl.size)).setCell (p := ⟨tm, 0, none⟩) htm _).setCell (p := ⟨tm, 1, none⟩) htm _⟩
  · rw [putW_len x hq, h.l]; omega
  · rw [putN, List.length_map]; exact h.l2

set_option linter.unusedSimpArgs false in
set_option maxHeartbeats 8000000 in
set_option maxRecDepth 100000 in
theorem numbers_walk (A B C : Option Addr) (c d f : Nat) (l k bs : List Int) (w : World) (hA : SI w A l) (hB : SI w B k) (hC : SI w C bs) (hwl : W64 l) (hwk : W64 k) (hwb : W64 bs) :
    Calls Try.prog 6 #[.slice A l.length c, .slice B k.length d, .slice C bs.length f] w fun e w' => e = .returned (.bool true) ∧ Below w.heap.size w w' := by
  obtain ⟨S, hSz⟩ : ∃ S, Hid (w.heap.size = S) := ⟨_, Lib.hid rfl⟩
  have HA := Lib.hid (fun (W : World) (hW : Below S w W) => (hA.below (hSz.out.symm ▸ hW) : SI W A l))
  have HC := Lib.hid (fun (W : World) (hW : Below S w W) => (hC.below (hSz.out.symm ▸ hW) : SI W C bs))
  have Hbz := Lib.hid (fun (W : World) (hW : Below S w W) => (show S ≤ W.heap.size by have := hW.size; have := hSz.out; omega))
  go_enter Try.func6, Try.ntmps6
  go_wp2_with fail
  refine (least_any B d k w hB hwk).mono ?_
  rintro e w1 ⟨v3, ls, rfl, hown3, hT, hb1⟩
  obtain ⟨A3, c3, rfl⟩ := own_slice hown3
  have m1 := hT.n1
  have m2 := hT.n2
  have hthr := hT.ok (by omega)
  rw [hSz.out] at hown3 hb1
  have Hls := Lib.hid hown3
  have Hb1 := Lib.hid hb1
  have Hthr := Lib.hid hthr
  clear hA hB hC hwk hT hown3 hb1 hthr
  go_wp2_with fail
  refine (new_any A3 c3 ls w1 (own_si Hls.out) (by omega)).mono ?_
  rintro e w2 ⟨hb2, hok, _⟩
  obtain ⟨p, F1, rfl, hpz, hKP, _⟩ := hok Hthr.out
  have hSp : S ≤ p := Nat.le_trans (Hbz.out _ Hb1.out) hpz
  have HK2 := Lib.hid hKP
  have Hb2 := Lib.hid (Hb1.out.trans (hb2.mono (Hbz.out _ Hb1.out)))
  have Hls := Lib.hid (own_below Hls.out hb2)
  clear hok hKP hb2 hpz
  go_wp2_with fail
  refine (some_any A c l 14 w2 (HA.out _ Hb2.out) hwl (by omega) (by omega)).mono ?_
  rintro e w3 ⟨v1, v2, ws, ns, rfl, hown1, hown2, hG, hb3⟩
  obtain ⟨A1, c1, rfl⟩ := own_slice hown1
  obtain ⟨A2, c2, rfl⟩ := own_slice hown2
  have n1 := hG.n1
  have n2 := hG.n2
  have n3 := hG.n3
  have Hv := Lib.hid (hG.ok (by omega) (by omega))
  have hz2 := Hbz.out _ Hb2.out
  have Ho1 := Lib.hid ((own_mono hown1 hz2).alloc (.cells #[.slice A1 ws.length c1, .slice A2 ns.length c2] 30))
  have Ho2 := Lib.hid ((own_mono hown2 hz2).alloc (.cells #[.slice A1 ws.length c1, .slice A2 ns.length c2] 30))
  have Hls := Lib.hid ((own_below Hls.out hb3).alloc (.cells #[.slice A1 ws.length c1, .slice A2 ns.length c2] 30))
  have HK3 := Lib.hid ((HK2.out.below hb3).below ((Below.refl _ _).alloc (Nat.le_refl _) (.cells #[.slice A1 ws.length c1, .slice A2 ns.length c2] 30)))
  have hb23 := Hb2.out.trans (hb3.mono hz2)
  have Hb3 := Lib.hid (hb23.alloc (Hbz.out _ hb23) (.cells #[.slice A1 ws.length c1, .slice A2 ns.length c2] 30))
  have Hg3 := Lib.hid (Bk.new w3 30 #[.slice A1 ws.length c1, .slice A2 ns.length c2])
  have hq0 : (w3.alloc (.cells #[.slice A1 ws.length c1, .slice A2 ns.length c2] 30)).cell? ⟨w3.heap.size, 0, none⟩ = some (.slice A1 ws.length c1) := Hg3.out.cell 0
  have hq1 : (w3.alloc (.cells #[.slice A1 ws.length c1, .slice A2 ns.length c2] 30)).cell? ⟨w3.heap.size, 1, none⟩ = some (.slice A2 ns.length c2) := Hg3.out.cell 1
  clear hown1 hown2 hb3 hb23 HK2 Hb2 Hb1 hG
  go_wp2_with fail
  clear hq0 hq1
  generalize w3.alloc (.cells #[.slice A1 ws.length c1, .slice A2 ns.length c2] 30) = W3 at *
  generalize w3.heap.size = tg at *
  refine (own_any A1 A2 c1 c2 ws.length ns.length W3).mono ?_
  rintro e w4 ⟨rfl, hb4⟩
  have Ho1 := Lib.hid (own_below Ho1.out hb4)
  have Ho2 := Lib.hid (own_below Ho2.out hb4)
  have Hls := Lib.hid (own_below Hls.out hb4)
  have HK4 := Lib.hid (HK3.out.below hb4)
  have Hg4 := Lib.hid (Hg3.out.below hb4 Hg3.out.lt)
  have Hb4 := Lib.hid (Hb3.out.trans (hb4.mono (Hbz.out _ Hb3.out)))
  clear hb4 HK3 Hg3 Hb3
  go_wp2_with fail
  refine (set_any p F1 A1 A2 c1 c2 ls [] ws [] ns 0 w4 HK4.out (HK4.out.siO Ho1.out) (HK4.out.stO Ho2.out) (by omega) (by omega) (by omega)).mono ?_
  rintro e w5 ⟨_, hok⟩
  obtain ⟨he, hg, F2, hK, _⟩ := hok Hv.out
  subst he
  have Ho1 := Lib.hid (HK4.out.own Ho1.out (by decide) hg)
  have Ho2 := Lib.hid (HK4.out.own Ho2.out (by decide) hg)
  have Hls := Lib.hid (HK4.out.own Hls.out (by decide) hg)
  have Hg5 := Lib.hid (HK4.out.bk Hg4.out (by decide) hg)
  have Hb5 := Lib.hid (far_p Hb4.out (Hbz.out _ Hb4.out) hSp hg)
  have HK5 := Lib.hid hK
  have hq0 : w5.cell? ⟨tg, 0, none⟩ = some (.slice A1 ws.length c1) := Hg5.out.cell 0
  have hq1 : w5.cell? ⟨tg, 1, none⟩ = some (.slice A2 ns.length c2) := Hg5.out.cell 1
  clear hok hg hK HK4 Hg4 Hb4
  obtain ⟨wk, hwk⟩ : ∃ z, Hid (0 + incD (newsD (partsD [] []) (partsD ws ns)) = z) := ⟨_, Lib.hid rfl⟩
  have hinc := incD_le2 (ws := []) (ns := []) Hv.out
  have hwkb : 0 ≤ wk ∧ wk ≤ 1000000000 := by rw [← hwk.out]; omega
  rw [hwk.out] at HK5
  clear hinc
  generalize (newsD (partsD [] []) (partsD ws ns)).length = many at *
  go_wp2_with fail
  clear hq0 hq1
  have hz5 := Hbz.out _ Hb5.out
  have HN5 := Lib.hid (⟨Bk.new w5 30 #[.slice A1 ws.length c1, .slice A2 ns.length c2], Ho1.out.alloc _, Ho2.out.alloc _, GV.of Hv.out, rfl, rfl, NI.refl _, (Below.refl _ _).alloc (Nat.le_refl _) _⟩ : NumR S w5 (w5.alloc (.cells #[.slice A1 ws.length c1, .slice A2 ns.length c2] 30)) w5.heap.size ws ns 0 ws ns A1 A2 c1 c2)
  generalize w5.alloc (.cells #[.slice A1 ws.length c1, .slice A2 ns.length c2] 30) = W6 at *
  obtain ⟨tm, htm⟩ : ∃ z, Hid (w5.heap.size = z) := ⟨_, Lib.hid rfl⟩
  rw [htm.out] at HN5 ⊢
  go_loopw [13, 14] (fun u v wr => ∃ (i : Nat) (xs : List Int) (ts : List (Int × Int × Int)) (A5 B5 : Option Addr) (a5 b5 : Nat), i ≤ bs.length ∧ i ≤ 4 ∧ u = .int .i64 i ∧ v = .int .i64 i ∧ NumR S w5 wr tm ws ns i xs ts A5 B5 a5 b5) (fun _ v _ => 4 - (intOf v).toNat)
  case atStart => exact ⟨0, ws, ns, A1, A2, c1, c2, by omega, by omega, rfl, rfl, HN5.out⟩
  case round =>
    obtain ⟨i, xs, ts, A5, B5, a5, b5, hi, hi4, rfl, rfl, hN⟩ := hrel
    have Hxl := Lib.hid hN.l
    have q0 : wr.cell? ⟨tm, 0, none⟩ = some (.slice A5 xs.length a5) := hN.bk.cell 0
    have q1 : wr.cell? ⟨tm, 1, none⟩ = some (.slice B5 ts.length b5) := hN.bk.cell 1
    have hzr : S ≤ wr.heap.size := Hbz.out _ (Hb5.out.trans (hN.bl.mono hz5))
    by_cases hgo : i < bs.length ∧ i < 4 ∧ 1 < xs.length
    · obtain ⟨h1, h2, h3⟩ := hgo
      obtain ⟨bC, oC, x, rfl, hcC, hx⟩ := (HC.out _ (Hb5.out.trans (hN.bl.mono hz5))).get (k := i) h1
      have hxb := hwb x (List.mem_of_getElem? hx.out)
      obtain ⟨hn1, hn2⟩ := around_bd x 1048576 (by omega)
      have Han := Lib.hid (fun W => around_any x 1048576 W hxb.1 hxb.2 (by omega) (by omega))
      generalize around x 1048576 = n at *
      have hm0 : (0 : Int) < (xs.length : Int) - 1 := by omega
      have hm1 := Int.emod_nonneg n (b := (xs.length : Int) - 1) (by omega)
      have hm2 := Int.emod_lt_of_pos n hm0
      obtain ⟨q, hq⟩ := Int.eq_ofNat_of_zero_le hm1
      have hrm : n.tmod ((xs.length : Int) - 1) = (q : Int) := by rw [Int.tmod_eq_emod_of_nonneg hn1]; exact hq
      have hq2 : 1 + q < xs.length := by omega
      have hqd : n.tdiv 32 = n / 32 := by rw [Int.tdiv_eq_ediv_of_nonneg hn1]
      have hqm : (n / 32).tmod 40 = n / 32 % 40 := by rw [Int.tmod_eq_emod_of_nonneg (by omega)]
      have HP := Lib.hid (fun (W : World) (hW : Below wr.heap.size wr W) => put_any A5 B5 a5 b5 (1 + q) (n / 32 % 40) xs ts W (own_si (own_below hN.ra hW)) (SL.of_own (own_below hN.rb hW)) (by omega) hq2 (by have := hN.gv.n1; omega) hN.gv.n2 (fun t ht => by have := hN.gv.t t ht; omega))
      rw [show (((1 + q : Nat)) : Int) = 1 + (q : Int) by omega] at HP
      have HN := Lib.hid hN
      have i0 : (0 : Int) ≤ (i : Int) := by omega
      clear hN hx hq hm1 hm2 hxb
      go_wp2_with fail
      refine (Han.out _).mono ?_
      rintro e wz ⟨rfl, rfl⟩
      clear Han
      go_wp2_with fail
      have hw1 : IntKind.i64.wrap ((xs.length : Int) - 1) = (xs.length : Int) - 1 := IntWalk.i64_in _ (by have := HN.out.gv.n1; omega)
      have hw2 : IntKind.i64.wrap (q : Int) = (q : Int) := IntWalk.i64_in _ (by have := HN.out.gv.n1; omega)
      have hw3 : IntKind.i64.wrap (1 + (q : Int)) = 1 + (q : Int) := IntWalk.i64_in _ (by have := HN.out.gv.n1; omega)
      have hw4 : IntKind.i64.wrap (n / 32) = n / 32 := IntWalk.i64_in _ (by omega)
      have hw5 : IntKind.i64.wrap (n / 32 % 40) = n / 32 % 40 := IntWalk.i64_in _ (by omega)
      have hw6 : ¬ (xs.length : Int) - 1 = 0 := by omega
      have HB0 := Lib.hid ((Below.refl wr.heap.size wr).drew)
      have HS0 := Lib.hid (show wr.drew.cell? ⟨tm, 0, none⟩ = some (.slice A5 xs.length a5) ∧ wr.drew.cell? ⟨tm, 1, none⟩ = some (.slice B5 ts.length b5) from ⟨q0, q1⟩)
      clear q0 q1
      refine wp_region_noPanic ?_
      refine region_T (s := 12) (S := fun W => W.cell? ⟨tm, 0, none⟩ = some (.slice A5 xs.length a5) ∧ W.cell? ⟨tm, 1, none⟩ = some (.slice B5 ts.length b5)) (by kernel_rfl) ?_
      change wpT _ _ _ _ _ 13 _ _ wr.drew
      refine T_take (k := 0) (v := .agg #[.slice A5 xs.length a5, .slice B5 ts.length b5]) rfl (by decide +kernel) (fun _ _ _ h => h) (Or.inl ⟨by rfl, fun W hW => by obtain ⟨s0, s1⟩ := hW; go_simp⟩) HS0.out ?_
      try simp only [Act.put, List.setIfInBounds_toArray, List.set_cons_zero, List.set_cons_succ]
      refine T_take (k := 1) (v := .int .i64 n) rfl (by decide +kernel) (fun _ _ _ h => h) (Or.inl ⟨by rfl, fun W hW => by obtain ⟨s0, s1⟩ := hW; go_simp⟩) HS0.out ?_
      try simp only [Act.put, List.setIfInBounds_toArray, List.set_cons_zero, List.set_cons_succ]
      refine T_take (k := 2) (v := .pointer (some ⟨tm, 0, none⟩)) rfl (by decide +kernel) (fun _ _ _ h => h) (Or.inl ⟨by rfl, fun W hW => by obtain ⟨s0, s1⟩ := hW; go_simp⟩) HS0.out ?_
      try simp only [Act.put, List.setIfInBounds_toArray, List.set_cons_zero, List.set_cons_succ]
      refine T_take (k := 3) (v := .slice A5 xs.length a5) rfl (by decide +kernel) (fun _ _ _ h => h) (Or.inl ⟨by rfl, fun W hW => by obtain ⟨s0, s1⟩ := hW; go_simp⟩) HS0.out ?_
      try simp only [Act.put, List.setIfInBounds_toArray, List.set_cons_zero, List.set_cons_succ]
      refine T_take (k := 4) (v := .int .i64 xs.length) rfl (by decide +kernel) (fun _ _ _ h => h) (Or.inl ⟨by rfl, fun W hW => by obtain ⟨s0, s1⟩ := hW; go_simp⟩) HS0.out ?_
      try simp only [Act.put, List.setIfInBounds_toArray, List.set_cons_zero, List.set_cons_succ]
      refine T_take (k := 5) (v := .int .i64 ((xs.length : Int) - 1)) rfl (by decide +kernel) (fun _ _ _ h => h) (Or.inl ⟨by rfl, fun W hW => by obtain ⟨s0, s1⟩ := hW; go_simp⟩) HS0.out ?_
      try simp only [Act.put, List.setIfInBounds_toArray, List.set_cons_zero, List.set_cons_succ]
      refine T_take (k := 6) (v := .int .i64 q) rfl (by decide +kernel) (fun _ _ _ h => h) (Or.inl ⟨by rfl, fun W hW => by obtain ⟨s0, s1⟩ := hW; go_simp⟩) HS0.out ?_
      try simp only [Act.put, List.setIfInBounds_toArray, List.set_cons_zero, List.set_cons_succ]
      refine T_take (k := 7) (v := .int .i64 (1 + q)) rfl (by decide +kernel) (fun _ _ _ h => h) (Or.inl ⟨by rfl, fun W hW => by obtain ⟨s0, s1⟩ := hW; go_simp⟩) HS0.out ?_
      try simp only [Act.put, List.setIfInBounds_toArray, List.set_cons_zero, List.set_cons_succ]
      refine T_take (k := 8) (v := .int .i64 n) rfl (by decide +kernel) (fun _ _ _ h => h) (Or.inl ⟨by rfl, fun W hW => by obtain ⟨s0, s1⟩ := hW; go_simp⟩) HS0.out ?_
      try simp only [Act.put, List.setIfInBounds_toArray, List.set_cons_zero, List.set_cons_succ]
      refine T_take (k := 9) (v := .int .i64 (n / 32)) rfl (by decide +kernel) (fun _ _ _ h => h) (Or.inl ⟨by rfl, fun W hW => by obtain ⟨s0, s1⟩ := hW; go_simp⟩) HS0.out ?_
      try simp only [Act.put, List.setIfInBounds_toArray, List.set_cons_zero, List.set_cons_succ]
      refine T_take (k := 10) (v := .int .i64 (n / 32 % 40)) rfl (by decide +kernel) (fun _ _ _ h => h) (Or.inl ⟨by rfl, fun W hW => by obtain ⟨s0, s1⟩ := hW; go_simp⟩) HS0.out ?_
      try simp only [Act.put, List.setIfInBounds_toArray, List.set_cons_zero, List.set_cons_succ]
      refine T_one (i := 11) (by decide +kernel) rfl rfl (fun K hK11 => ?_)
      have hK11 := Lib.hid hK11
      go_simp
      go_at_call 23
      refine (HP.out _ HB0.out).mono ?_
      rintro e w8 ⟨A6, a6, B6, b6, rfl, ho6, hn6, hb8⟩
      have HB8 := Lib.hid (HB0.out.trans (hb8.mono HB0.out.size))
      have Ho6 := Lib.hid (own_mono ho6 hzr)
      have Hn6 := Lib.hid (own_mono hn6 hzr)
      have HT8 := Lib.hid (HN.out.bk.below HB8.out HN.out.bk.lt)
      have d0 := HT8.out.cell 0
      have d1 := HT8.out.cell 1
      have d2 := HT8.out.frozen 0
      have d3 := HT8.out.frozen 1
      have HS2 := Lib.hid (show w8.cell? ⟨tm, 0, none⟩ = some (.slice A5 xs.length a5) ∧ w8.cell? ⟨tm, 1, none⟩ = some (.slice B5 ts.length b5) from ⟨HT8.out.cell 0, HT8.out.cell 1⟩)
      clear ho6 hn6 hb8
      refine hK11.out _ _ HS2.out ?_
      try simp only [Act.put, List.setIfInBounds_toArray, List.set_cons_zero, List.set_cons_succ]
      refine T_last (by decide +kernel) (by decide +kernel) (by decide +kernel) rfl rfl (fun K hKl => ?_)
      have hKl := Lib.hid hKl
      go_simp
      refine hKl.out _ _ (NoPanic.normal ?_)
      try simp only [Act.put, List.setIfInBounds_toArray, List.set_cons_zero, List.set_cons_succ]
      have HN9 := Lib.hid (HN.out.put HB8.out Ho6.out Hn6.out (Nat.le_of_eq htm.out) (Nat.le_of_lt hq2) (by have := HN.out.gv.n1; have := Hxl.out; omega) (x := n / 32 % 40) (by omega))
      clear HN HB8 HB0 HS0 HT8 Ho6 Hn6 HP d0 d1 d2 d3
      go_wp2_with fail
      go_roundw
      case rel => exact ⟨i + 1, _, _, A6, B6, a6, b6, by omega, by omega, by go_num, by go_num, HN9.out⟩
      case measure => simp [intOf]; omega
    · have HK8 := Lib.hid (HK5.out.below hN.bl)
      have Hb8 := Lib.hid (Hb5.out.trans (hN.bl.mono hz5))
      have HT8 := Lib.hid hN.bk
      have HoA := Lib.hid hN.ra
      have HoB := Lib.hid hN.rb
      have Ho1 := Lib.hid (own_below Ho1.out hN.bl)
      have Ho2 := Lib.hid (own_below Ho2.out hN.bl)
      have Hg8 := Lib.hid (Hg5.out.below hN.bl Hg5.out.lt)
      have Hvx := Lib.hid hN.gv.ok
      obtain ⟨nb1, nb2, nb3⟩ := hN.ni.news partsD_len1
      have hx1 := hN.gv.n1
      have hx2 := hN.gv.n2
      obtain ⟨m, hm⟩ : ∃ z, Hid ((newsD (partsD ws ns) (partsD xs ts)).length = z) := ⟨_, Lib.hid rfl⟩
      rw [hm.out] at nb1 nb2
      have C2 := Lib.hid nb2
      have C3 := Lib.hid nb3
      have hex : ¬ i < bs.length ∨ (i < bs.length ∧ ¬ i < 4) ∨ (i < bs.length ∧ i < 4 ∧ ¬ 1 < xs.length) := by omega
      have hws : IntKind.i64.wrap (wk + (m : Int) - wk) = (m : Int) := by rw [IntWalk.i64_in _ (by omega)]; omega
      have hmi : ((m : Int) ≤ (i : Int)) := by omega
      clear hN hgo nb2 nb3 HN5
      rcases hex with h1 | ⟨h1, h2⟩ | ⟨h1, h2, h3⟩
      all_goals
        go_wp2_with fail
        refine (work_any p F2 ls ws ns wk wr HK8.out).mono ?_
        rintro e w9 ⟨rfl, hq⟩
        have HK9 := Lib.hid (HK8.out.below (hq.below _))
        have HoA := Lib.hid (own_qt HoA.out hq)
        have HoB := Lib.hid (own_qt HoB.out hq)
        have Ho1 := Lib.hid (own_qt Ho1.out hq)
        have Ho2 := Lib.hid (own_qt Ho2.out hq)
        have HT9 := Lib.hid (HT8.out.qt hq)
        have Hg9 := Lib.hid (Hg8.out.qt hq)
        have Hb9 := Lib.hid (hq.bl Hb8.out)
        have hq0 : w9.cell? ⟨tm, 0, none⟩ = some (.slice A5 xs.length a5) := HT9.out.cell 0
        have hq1 : w9.cell? ⟨tm, 1, none⟩ = some (.slice B5 ts.length b5) := HT9.out.cell 1
        clear hq HK8 HT8 Hb8 Hg8
        go_wp2_with fail
        clear hq0 hq1
        refine (own_any A5 B5 a5 b5 xs.length ts.length w9).mono ?_
        rintro e w10 ⟨rfl, hb⟩
        have HK10 := Lib.hid (HK9.out.below hb)
        have HoA := Lib.hid (own_below HoA.out hb)
        have HoB := Lib.hid (own_below HoB.out hb)
        have Ho1 := Lib.hid (own_below Ho1.out hb)
        have Ho2 := Lib.hid (own_below Ho2.out hb)
        have Hg10 := Lib.hid (Hg9.out.below hb Hg9.out.lt)
        have Hb10 := Lib.hid (Hb9.out.trans (hb.mono (Hbz.out _ Hb9.out)))
        clear hb HK9 HT9 Hb9 Hg9
        go_wp2_with fail
        refine (set_any p F2 A5 B5 a5 b5 ls ws xs ns ts wk w10 HK10.out (HK10.out.siO HoA.out) (HK10.out.stO HoB.out) (by omega) (by omega) (by omega)).mono ?_
        rintro e w11 ⟨_, hok⟩
        obtain ⟨he, hg, F3, hK, _⟩ := hok Hvx.out
        subst he
        rw [C2.out] at hK
        rw [hm.out]
        have Ho1 := Lib.hid (HK10.out.own Ho1.out (by decide) hg)
        have Ho2 := Lib.hid (HK10.out.own Ho2.out (by decide) hg)
        have Hg11 := Lib.hid (HK10.out.bk Hg10.out (by decide) hg)
        have HK11 := Lib.hid hK
        have Hb11 := Lib.hid (far_p Hb10.out (Hbz.out _ Hb10.out) hSp hg)
        clear hok hK hg HK10 Hg10 Hb10 HoA HoB
        go_wp2_with fail
        refine (work_any p F3 ls xs ts (wk + (m : Int)) w11 HK11.out).mono ?_
        rintro e w12 ⟨rfl, hq⟩
        have HK12 := Lib.hid (HK11.out.below (hq.below _))
        have Ho1 := Lib.hid (own_qt Ho1.out hq)
        have Ho2 := Lib.hid (own_qt Ho2.out hq)
        have Hg12 := Lib.hid (Hg11.out.qt hq)
        have Hb12 := Lib.hid (hq.bl Hb11.out)
        have hq0 : w12.cell? ⟨tg, 0, none⟩ = some (.slice A1 ws.length c1) := Hg12.out.cell 0
        have hq1 : w12.cell? ⟨tg, 1, none⟩ = some (.slice A2 ns.length c2) := Hg12.out.cell 1
        clear hq HK11 Hg11 Hb11
        go_wp2_with fail
        clear hq0 hq1
        refine (own_any A1 A2 c1 c2 ws.length ns.length w12).mono ?_
        rintro e w13 ⟨rfl, hb⟩
        have HK13 := Lib.hid (HK12.out.below hb)
        have Ho1 := Lib.hid (own_below Ho1.out hb)
        have Ho2 := Lib.hid (own_below Ho2.out hb)
        have Hb13 := Lib.hid (Hb12.out.trans (hb.mono (Hbz.out _ Hb12.out)))
        clear hb HK12 Hg12 Hb12
        go_wp2_with fail
        refine (set_any p F3 A1 A2 c1 c2 ls xs ws ts ns (wk + (m : Int)) w13 HK13.out (HK13.out.siO Ho1.out) (HK13.out.stO Ho2.out) (by omega) (by omega) (by omega)).mono ?_
        rintro e w14 ⟨_, hok⟩
        obtain ⟨he, hg, F4, hK, _⟩ := hok Hv.out
        rw [C3.out] at he
        subst he
        have Hb14 := Lib.hid (far_p Hb13.out (Hbz.out _ Hb13.out) hSp hg)
        clear hok hK hg HK13 Hb13 Ho1 Ho2
        go_wp2_with fail
        refine (lives_any _).mono ?_
        rintro e w15 ⟨rfl, hb15⟩
        go_wp2_with fail
        go_ret
        exact ⟨rfl, by rw [hSz.out]; exact Hb14.out.trans (hb15.mono (Hbz.out _ Hb14.out))⟩
end Go.Proofs.Ytmdgdphhedgojaa
