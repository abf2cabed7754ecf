import Derived.Test.YtaegfljpodhnhaaT2
import Derived.Deep.RegionLaw
import Derived.Deep.RegionHeld3
namespace Go.Proofs.Ytaegfljpodhnhaa
open Go.RowKit Go.Maps

set_option linter.unusedSimpArgs false in
set_option maxHeartbeats 40000000 in
set_option maxRecDepth 100000 in
theorem spoilt_three (A B : Option Addr) (c d : Nat) (ws : List Int) (ns : List (Int × Int × Int)) (at_ how by_ : Int) (w : World) (hA : SI w A ws) (hB : ST w B ns) (hl0 : 1 ≤ ws.length) (hl1 : ws.length ≤ 16) (hl2 : ns.length ≤ 256)
    (h1 : -9223372036854775808 ≤ at_ ∧ at_ ≤ 9223372036854775807) (h2 : -9223372036854775808 ≤ how ∧ how ≤ 9223372036854775807) (h3 : -9223372036854775808 ≤ by_ ∧ by_ ≤ 9223372036854775807)
    (hne : around how 6 = 3) :
    Calls Try.prog 40 #[.agg #[.slice A ws.length c, .slice B ns.length d], .int .i64 at_, .int .i64 how, .int .i64 by_] w fun e w' => ∃ A1 c1 A2 c2 ws' ns', e = .returned (.agg #[.slice A1 (ws' : List Int).length c1, .slice A2 (ns' : List (Int × Int × Int)).length c2]) ∧ SI w' A1 ws' ∧ ST w' A2 ns' ∧ ws'.length ≤ 4096 ∧ ns'.length ≤ 16384 ∧ Below w.heap.size w w' := by
  go_enter Try.func40, Try.ntmps40
  have hi1 : SI (((w.alloc (.cells #[.slice A ws.length c, .slice B ns.length d] 33)).alloc (.cells #[.slice none 0 0, .slice none 0 0] 33)).alloc (.cells #[.slice none 0 0, .slice none 0 0] 33)) A ws := ((hA.alloc _).alloc _).alloc _
  have hi2 : ST (((w.alloc (.cells #[.slice A ws.length c, .slice B ns.length d] 33)).alloc (.cells #[.slice none 0 0, .slice none 0 0] 33)).alloc (.cells #[.slice none 0 0, .slice none 0 0] 33)) B ns := ((hB.alloc _).alloc _).alloc _
  have hbk0 := ((Bk.new w 33 #[.slice A ws.length c, .slice B ns.length d]).alloc (.cells #[.slice none 0 0, .slice none 0 0] 33)).alloc (.cells #[.slice none 0 0, .slice none 0 0] 33)
  have hbk1 := (Bk.new' (w.alloc (.cells #[.slice A ws.length c, .slice B ns.length d] 33)) 33 #[.slice none 0 0, .slice none 0 0] (g := w.heap.size + 1) (by simp)).alloc (.cells #[.slice none 0 0, .slice none 0 0] 33)
  have hbk2 := Bk.new' ((w.alloc (.cells #[.slice A ws.length c, .slice B ns.length d] 33)).alloc (.cells #[.slice none 0 0, .slice none 0 0] 33)) 33 #[.slice none 0 0, .slice none 0 0] (g := w.heap.size + 1 + 1) (by simp)
  have hb0 := ((((Below.refl w.heap.size w).alloc (Nat.le_refl _) (.cells #[.slice A ws.length c, .slice B ns.length d] 33)).alloc (by simp) (.cells #[.slice none 0 0, .slice none 0 0] 33)).alloc (by simp; omega) (.cells #[.slice none 0 0, .slice none 0 0] 33))
  go_upto_region 2 with fail
  generalize ((w.alloc (.cells #[.slice A ws.length c, .slice B ns.length d] 33)).alloc (.cells #[.slice none 0 0, .slice none 0 0] 33)).alloc (.cells #[.slice none 0 0, .slice none 0 0] 33) = W at *
  have hc0 : W.cell? ⟨w.heap.size, 0, none⟩ = some (.slice A ws.length c) := hbk0.cell 0
  have ho0 : W.cell? ⟨w.heap.size + 1 + 1, 0, none⟩ = some (.slice none 0 0) := hbk2.cell 0
  have Hi1 := Lib.hid hi1
  have Hi2 := Lib.hid hi2
  have H0 := Lib.hid hbk0
  have H1 := Lib.hid hbk1
  have H2 := Lib.hid hbk2
  have Hb := Lib.hid hb0
  have hws := hb0.size
  clear hi1 hi2 hbk0 hbk1 hbk2 hb0
  go_upto_region 3 with (at_builtin; refine wpList_appM (w := W) rfl _ _ rfl elt_int (World.ownsRow_nil W w.heap.size _ _) hws rfl rfl Hi1.out (by simp) (ints_all ws) (by omega) ?_; intro v1 W1 hown1 hg1; obtain ⟨AW, cW, rfl⟩ := own_slice hown1; have ho0 : W1.cell? ⟨w.heap.size + 1 + 1, 0, none⟩ = some (.slice none 0 0) := (H2.out.grown hg1 (by simp [Value.ownBlock])).cell 0; have hof := (H2.out.grown hg1 (by simp [Value.ownBlock])).frozen 0)
  simp only [Nat.zero_add, List.nil_append] at hown1
  try simp only [Nat.zero_add]
  have hbx := (Hb.out.grown hg1 hws (fun k hk => by simp [Value.ownBlock] at hk)).setCell (p := ⟨w.heap.size + 1 + 1, 0, none⟩) (by show w.heap.size ≤ w.heap.size + 1 + 1; omega) (.slice AW ws.length cW)
  have h0 := (H0.out.grown hg1 (by simp [Value.ownBlock])).far (p := ⟨w.heap.size + 1 + 1, 0, none⟩) (by show w.heap.size ≠ w.heap.size + 1 + 1; omega) (.slice AW ws.length cW)
  have h1x := (H1.out.grown hg1 (by simp [Value.ownBlock])).far (p := ⟨w.heap.size + 1 + 1, 0, none⟩) (by show w.heap.size + 1 ≠ w.heap.size + 1 + 1; omega) (.slice AW ws.length cW)
  have h2a := H2.out.grown hg1 (by simp [Value.ownBlock])
  have h2x := h2a.set_ 0 (.slice AW ws.length cW)
  have hoW := own_set (i := 0) hown1 (h2a.ne_own hown1 (by decide)) (.slice AW ws.length cW)
  clear hown1 hg1 ho0 hof hc0 H0 H1 H2 Hb Hi1 Hi2 hws h2a
  generalize W1.setCell ⟨w.heap.size + 1 + 1, 0, none⟩ (.slice AW ws.length cW) = W2 at *
  have hc1 : W2.cell? ⟨w.heap.size, 1, none⟩ = some (.slice B ns.length d) := h0.cell 1
  have ho1 : W2.cell? ⟨w.heap.size + 1 + 1, 1, none⟩ = some (.slice none 0 0) := h2x.cell 1
  have hw2 := hbx.size
  have Hi2 := Lib.hid (ST.below hB hbx)
  have H0 := Lib.hid h0
  have H1 := Lib.hid h1x
  have H2 := Lib.hid h2x
  have Hb := Lib.hid hbx
  have HoW := Lib.hid hoW
  clear h0 h1x h2x hbx hoW
  go_upto_region 4 with (at_builtin; refine wpList_appM (w := W2) rfl _ _ rfl elt_tri (World.ownsRow_nil W2 w.heap.size _ _) hw2 rfl rfl Hi2.out (triC_len ns) (triC_all ns) (by omega) ?_; intro v1 W1 hown1 hg1; obtain ⟨AN, cN, rfl⟩ := own_slice hown1; have ho0 : W1.cell? ⟨w.heap.size + 1 + 1, 1, none⟩ = some (.slice none 0 0) := (H2.out.grown hg1 (by simp [Value.ownBlock])).cell 1; have hof := (H2.out.grown hg1 (by simp [Value.ownBlock])).frozen 1)
  simp only [Nat.zero_add, List.nil_append] at hown1
  try simp only [Nat.zero_add]
  have hbx := (Hb.out.grown hg1 hw2 (fun k hk => by simp [Value.ownBlock] at hk)).setCell (p := ⟨w.heap.size + 1 + 1, 1, none⟩) (by show w.heap.size ≤ w.heap.size + 1 + 1; omega) (.slice AN ns.length cN)
  have h1x := (H1.out.grown hg1 (by simp [Value.ownBlock])).far (p := ⟨w.heap.size + 1 + 1, 1, none⟩) (by show w.heap.size + 1 ≠ w.heap.size + 1 + 1; omega) (.slice AN ns.length cN)
  have h2a := H2.out.grown hg1 (by simp [Value.ownBlock])
  have h2x := h2a.set_ 1 (.slice AN ns.length cN)
  have hoN := own_set (i := 1) hown1 (h2a.ne_own hown1 (by decide)) (.slice AN ns.length cN)
  have hoW1 := own_grown HoW.out hg1 (.inr (by
    intro h
    have := (HoW.out.form (by omega))
    obtain ⟨g, cap, hv, _, _⟩ := this
    rw [hv] at h
    simp [Value.ownBlock] at h))
  have hoW := own_set (i := 1) hoW1 (h2a.ne_own hoW1 (by decide)) (.slice AN ns.length cN)
  clear hown1 hg1 ho0 hof hc1 ho1 H0 H1 H2 Hb Hi2 hw2 h2a hoW1 HoW
  generalize W1.setCell ⟨w.heap.size + 1 + 1, 1, none⟩ (.slice AN ns.length cN) = W3 at *
  have hc0 : W3.cell? ⟨w.heap.size + 1 + 1, 0, none⟩ = some (.slice AW ws.length cW) := h2x.cell 0
  have HR := Lib.hid h1x
  have HO := Lib.hid h2x
  have HB := Lib.hid hbx
  have HW := Lib.hid hoW
  have HN := Lib.hid hoN
  have Ha := Lib.hid (around_any at_ ws.length W3 h1.1 h1.2 (by omega) (by omega))
  have Hh := Lib.hid (around_any how 6 W3 h2.1 h2.2 (by omega) (by omega))
  obtain ⟨hk1, hk2⟩ := around_bd at_ ws.length (by omega)
  obtain ⟨k, hk⟩ := Int.eq_ofNat_of_zero_le hk1
  rw [hk] at Ha hk2
  obtain ⟨hh1, hh2⟩ := around_bd how 6 (by omega)
  clear h1x h2x hbx hoW hoN hk1 hk
  have hkl : k < ws.length := by omega
  go_wp2_with fail
  refine Ha.out.mono ?_
  rintro e w' ⟨rfl, rfl⟩
  go_wp2_with fail
  refine Hh.out.mono ?_
  rintro e w' ⟨rfl, rfl⟩
  generalize around how 6 = hw at *
  clear Ha Hh hc0
  obtain rfl : hw = 3 := by omega
  · have hc1 : W3.cell? ⟨w.heap.size + 1 + 1, 1, none⟩ = some (.slice AN ns.length cN) := HO.out.cell 1
    by_cases hn0 : ns.length = 0
    · have hn1 : ns.length ≤ 0 := by omega
      clear hn0
      go_upto_region 23 with fail
      have hfc0 : W3.cell? ⟨w.heap.size + 1 + 1, 0, none⟩ = some (.slice AW ws.length cW) := HO.out.cell 0
      have hfc1 : W3.cell? ⟨w.heap.size + 1 + 1, 1, none⟩ = some (.slice AN ns.length cN) := HO.out.cell 1
      have hr0 : W3.cell? ⟨w.heap.size + 1, 0, none⟩ = some (.slice none 0 0) := HR.out.cell 0
      have hr1 : W3.cell? ⟨w.heap.size + 1, 1, none⟩ = some (.slice none 0 0) := HR.out.cell 1
      have hf0 := HR.out.frozen 0
      have hf1 := HR.out.frozen 1
      have hz0 := ((HR.out.set_ 0 (.slice AW ws.length cW)).set_ 1 (.slice AN ns.length cN)).cell 0
      have hz1 := ((HR.out.set_ 0 (.slice AW ws.length cW)).set_ 1 (.slice AN ns.length cN)).cell 1
      have ho1 := Lib.hid (own_set (i := 1) (own_set (i := 0) HW.out (HR.out.ne_own HW.out (by decide)) (.slice AW ws.length cW)) (HR.out.ne_own HW.out (by decide)) (.slice AN ns.length cN))
      have ho2 := Lib.hid (own_set (i := 1) (own_set (i := 0) HN.out (HR.out.ne_own HN.out (by decide)) (.slice AW ws.length cW)) (HR.out.ne_own HN.out (by decide)) (.slice AN ns.length cN))
      have hbf := Lib.hid ((HB.out.setCell (p := ⟨w.heap.size + 1, 0, none⟩) (by show w.heap.size ≤ w.heap.size + 1; omega) (.slice AW ws.length cW)).setCell (p := ⟨w.heap.size + 1, 1, none⟩) (by show w.heap.size ≤ w.heap.size + 1; omega) (.slice AN ns.length cN))
      go_wp2_with fail
      refine bodyPost_ret (v := .agg #[.slice AW ws.length cW, .slice AN ns.length cN]) (by simp [results, Try.results40, go_sem, hz0, hz1]) rfl ?_
      exact ⟨AW, cW, AN, cN, ws, ns, rfl, own_si ho1.out, SL.of_own ho2.out, by omega, by omega, hbf.out⟩
    · have hn1 : 0 < ns.length := by omega
      have Ha4 := Lib.hid (around_any at_ ns.length W3 h1.1 h1.2 (by omega) (by omega))
      obtain ⟨hk1, hk2⟩ := around_bd at_ ns.length (by omega)
      obtain ⟨i4, hk⟩ := Int.eq_ofNat_of_zero_le hk1
      rw [hk] at Ha4 hk2
      clear hk1 hk hn0
      have hil : i4 < ns.length := by omega
      obtain ⟨hr1, hr2⟩ := around_bd by_ 3 (by omega)
      have Har := Lib.hid (fun W => around_any by_ 3 W h3.1 h3.2 (by omega) (by omega))
      generalize around by_ 3 = r' at *
      obtain ⟨r, rfl⟩ := Int.eq_ofNat_of_zero_le hr1
      have hq3 := tdiv3 h3
      have hwq : IntKind.i64.wrap (by_.tdiv 3) = by_.tdiv 3 := IntWalk.i64_in _ (by omega)
      obtain ⟨hs1, hs2⟩ := around_bd (by_.tdiv 3) 6 (by omega)
      have Has := Lib.hid (fun W => around_any (by_.tdiv 3) 6 W hq3.1 hq3.2 (by omega) (by omega))
      generalize around (by_.tdiv 3) 6 = s' at *
      obtain ⟨s, rfl⟩ := Int.eq_ofNat_of_zero_le hs1
      obtain ⟨gW, cW', hv, hgb, hgl⟩ := HN.out.form hn1
      injection hv with hv1 hv2 hv3
      subst hv1 hv3
      obtain ⟨cur, hcur, htk⟩ := own_bk HN.out
      obtain ⟨xk, hxk⟩ : ∃ x, cur[i4 * 3 + r]? = some (.int .i64 x) := by
        obtain ⟨x, hx⟩ := triC_int (ns := ns) (i := i4) (r := r) hil (by omega)
        have h1 : (cur.toList.take (ns.length * 3))[i4 * 3 + r]? = some (.int .i64 x) := by rw [htk]; exact hx
        rw [List.getElem?_take_of_lt (by omega)] at h1
        exact ⟨x, by simpa using h1⟩
      have hcw : W3.cell? ⟨gW, i4 * 3 + r, none⟩ = some (.int .i64 xk) := (hcur.cell _).trans hxk
      have hfw := hcur.frozen (i4 * 3 + r)
      have hcura := hcur.alloc (.cells #[.int .i64 by_, .int .i64 (-1), .int .i64 0, .int .i64 1, .int .i64 1099511627776, .int .i64 1099511627777] 3)
      have hcwa : (W3.alloc (.cells #[.int .i64 by_, .int .i64 (-1), .int .i64 0, .int .i64 1, .int .i64 1099511627776, .int .i64 1099511627777] 3)).cell? ⟨gW, i4 * 3 + r, none⟩ = some (.int .i64 xk) := (hcura.cell _).trans hxk
      have hfwa := hcura.frozen (i4 * 3 + r)
      have hc1a : (W3.alloc (.cells #[.int .i64 by_, .int .i64 (-1), .int .i64 0, .int .i64 1, .int .i64 1099511627776, .int .i64 1099511627777] 3)).cell? ⟨w.heap.size + 1 + 1, 1, none⟩ = some (.slice (some ⟨gW, 0, none⟩) ns.length cN) := (HO.out.alloc _).cell 1
      obtain ⟨val, hval⟩ : ∃ val, (W3.alloc (.cells #[.int .i64 by_, .int .i64 (-1), .int .i64 0, .int .i64 1, .int .i64 1099511627776, .int .i64 1099511627777] 3)).cell? ⟨W3.heap.size, s, none⟩ = some (.int .i64 val) := by
        have h := Bk.new W3 3 #[.int .i64 by_, .int .i64 (-1), .int .i64 0, .int .i64 1, .int .i64 1099511627776, .int .i64 1099511627777]
        rcases (by omega : s = 0 ∨ s = 1 ∨ s = 2 ∨ s = 3 ∨ s = 4 ∨ s = 5) with rfl | rfl | rfl | rfl | rfl | rfl
        · exact ⟨_, h.cell 0⟩
        · exact ⟨_, h.cell 1⟩
        · exact ⟨_, h.cell 2⟩
        · exact ⟨_, h.cell 3⟩
        · exact ⟨_, h.cell 4⟩
        · exact ⟨_, h.cell 5⟩
      have hw3 := HB.out.size
      have Hcur := Lib.hid (And.intro hcur htk)
      clear hcur hcura hxk htk
      have j0 : (0 : Int) ≤ (r : Int) := by omega
      have j1 : (0 : Int) ≤ (s : Int) := by omega
      have j2 : (s : Int) < 6 := by omega
      have j3 : s < 6 := by omega
      have j4 : r < 3 := by omega
      have j5 : (r : Int) < 3 := by omega
      have j6 : (0 : Int) ≤ (i4 : Int) := by omega
      go_upto_region 18 with (go_at_call 18; refine Ha4.out.mono ?_; rintro e w' ⟨rfl, rfl⟩)
      apply wp_det (wf := ((W3.setCell ⟨gW, i4 * 3 + r, none⟩ (.int .i64 val)).alloc (.cells #[.int .i64 by_, .int .i64 (-1), .int .i64 0, .int .i64 1, .int .i64 1099511627776, .int .i64 1099511627777] 3)).drew)
      case now =>
        have HS0 := Lib.hid (show W3.drew.cell? ⟨w.heap.size + 1 + 1, 1, none⟩ = some (.slice (some ⟨gW, 0, none⟩) ns.length cN) from hc1)
        have HSa := Lib.hid hc1a
        refine region_T (s := 14) (S := fun W => W.cell? ⟨w.heap.size + 1 + 1, 1, none⟩ = some (.slice (some ⟨gW, 0, none⟩) ns.length cN)) (by kernel_rfl) ?_
        change wpT _ _ _ _ _ 15 _ _ W3.drew
        refine T_take (k := 0) (v := .pointer (some ⟨w.heap.size + 1 + 1, 1, none⟩)) rfl (by decide +kernel) (fun _ _ _ h => h) (Or.inl ⟨by rfl, fun W hW => by go_simp⟩) HS0.out ?_
        try simp only [Act.put, List.setIfInBounds_toArray, List.set_cons_zero, List.set_cons_succ]
        refine T_take (k := 1) (v := .slice (some ⟨gW, 0, none⟩) ns.length cN) rfl (by decide +kernel) (fun _ _ _ h => h) (Or.inl ⟨by rfl, fun W hW => by go_simp⟩) HS0.out ?_
        try simp only [Act.put, List.setIfInBounds_toArray, List.set_cons_zero, List.set_cons_succ]
        refine T_take (k := 2) (v := .int .i64 i4) rfl (by decide +kernel) (fun _ _ _ h => h) (Or.inl ⟨by rfl, fun W hW => by go_simp⟩) HS0.out ?_
        try simp only [Act.put, List.setIfInBounds_toArray, List.set_cons_zero, List.set_cons_succ]
        refine T_take2 (k := 12) 13 (v := .pointer (some ⟨gW, i4 * 3, none⟩)) rfl (by decide +kernel) (fun _ _ _ h => h) (Or.inl ⟨by rfl, fun W hW => by go_simp⟩) HS0.out ?_
        try simp only [Act.put, List.setIfInBounds_toArray, List.set_cons_zero, List.set_cons_succ]
        refine T_take (k := 3) (v := .int .i64 by_) rfl (by decide +kernel) (fun _ _ _ h => h) (Or.inl ⟨by rfl, fun W hW => by go_simp⟩) HS0.out ?_
        try simp only [Act.put, List.setIfInBounds_toArray, List.set_cons_zero, List.set_cons_succ]
        refine T_take (k := 5) (v := .int .i64 by_) rfl (by decide +kernel) (fun _ _ _ h => h) (Or.inl ⟨by rfl, fun W hW => by go_simp⟩) HS0.out ?_
        try simp only [Act.put, List.setIfInBounds_toArray, List.set_cons_zero, List.set_cons_succ]
        refine T_take (k := 7) (v := .int .i64 by_) rfl (by decide +kernel) (fun _ _ _ h => h) (Or.inl ⟨by rfl, fun W hW => by go_simp⟩) HS0.out ?_
        try simp only [Act.put, List.setIfInBounds_toArray, List.set_cons_zero, List.set_cons_succ]
        refine T_take (k := 8) (v := .int .i64 (by_.tdiv 3)) rfl (by decide +kernel) (fun _ _ _ h => h) (Or.inl ⟨by rfl, fun W hW => by go_simp⟩) HS0.out ?_
        try simp only [Act.put, List.setIfInBounds_toArray, List.set_cons_zero, List.set_cons_succ]
        refine T_two (i := 4) (j := 6) (by decide +kernel) (T_step rfl rfl (fun K1 hK1 => ?_)) (T_step rfl rfl (fun K1 hK1 => ?_))
        · have hK1 := Lib.hid hK1
          go_simp
          go_at_call 18
          refine (Har.out _).mono ?_
          rintro e w' ⟨rfl, rfl⟩
          refine hK1.out _ _ HS0.out ?_
          try simp only [Act.put, List.setIfInBounds_toArray, List.set_cons_zero, List.set_cons_succ]
          refine T_two (i := 6) (j := 9) (by decide +kernel) (T_step rfl rfl (fun K2 hK2 => ?_)) (T_step rfl rfl (fun K2 hK2 => ?_))
          · have hK2 := Lib.hid hK2
            go_simp
            refine hK2.out _ _ HSa.out ?_
            try simp only [Act.put, List.setIfInBounds_toArray, List.set_cons_zero, List.set_cons_succ]
            refine T_one (i := 9) (by decide +kernel) rfl rfl (fun K3 hK3 => ?_)
            have hK3 := Lib.hid hK3
            go_simp
            go_at_call 18
            refine (Has.out _).mono ?_
            rintro e w' ⟨rfl, rfl⟩
            refine hK3.out _ _ HSa.out ?_
            try simp only [Act.put, List.setIfInBounds_toArray, List.set_cons_zero, List.set_cons_succ]
            refine T_take (k := 10) (v := .pointer (some ⟨W3.heap.size, s, none⟩)) rfl (by decide +kernel) (fun _ _ _ h => h) (Or.inl ⟨by rfl, fun W hW => by go_simp⟩) HSa.out ?_
            try simp only [Act.put, List.setIfInBounds_toArray, List.set_cons_zero, List.set_cons_succ]
            refine T_one (i := 11) (by decide +kernel) rfl rfl (fun K7 hK7 => ?_)
            have hK7 := Lib.hid hK7
            go_simp
            refine hK7.out _ _ HSa.out ?_
            try simp only [Act.put, List.setIfInBounds_toArray, List.set_cons_zero, List.set_cons_succ]
            refine T_take (k := 13) (v := .pointer (some ⟨gW, i4 * 3 + r, none⟩)) rfl (by decide +kernel) (fun _ _ _ h => h) (Or.inl ⟨by rfl, fun W hW => by go_simp⟩) HSa.out ?_
            try simp only [Act.put, List.setIfInBounds_toArray, List.set_cons_zero, List.set_cons_succ]
            refine T_last (by decide +kernel) (by decide +kernel) (by decide +kernel) rfl rfl (fun K8 hK8 => ?_)
            have hK8 := Lib.hid hK8
            go_simp
            refine hK8.out _ _ (NoPanic.normal ?_)
            try simp only [Act.put, List.setIfInBounds_toArray, List.set_cons_zero, List.set_cons_succ]
            first | exact Lib.hid ⟨trivial, rfl, trivial⟩ | exact hid_det | exact Lib.hid trivial | exact Lib.hid ⟨trivial, trivial, trivial⟩
          · have hK2 := Lib.hid hK2
            go_simp
            go_at_call 18
            refine (Has.out _).mono ?_
            rintro e w' ⟨rfl, rfl⟩
            refine hK2.out _ _ HS0.out ?_
            try simp only [Act.put, List.setIfInBounds_toArray, List.set_cons_zero, List.set_cons_succ]
            refine T_one (i := 6) (by decide +kernel) rfl rfl (fun K3 hK3 => ?_)
            have hK3 := Lib.hid hK3
            go_simp
            refine hK3.out _ _ HSa.out ?_
            try simp only [Act.put, List.setIfInBounds_toArray, List.set_cons_zero, List.set_cons_succ]
            refine T_take (k := 10) (v := .pointer (some ⟨W3.heap.size, s, none⟩)) rfl (by decide +kernel) (fun _ _ _ h => h) (Or.inl ⟨by rfl, fun W hW => by go_simp⟩) HSa.out ?_
            try simp only [Act.put, List.setIfInBounds_toArray, List.set_cons_zero, List.set_cons_succ]
            refine T_one (i := 11) (by decide +kernel) rfl rfl (fun K7 hK7 => ?_)
            have hK7 := Lib.hid hK7
            go_simp
            refine hK7.out _ _ HSa.out ?_
            try simp only [Act.put, List.setIfInBounds_toArray, List.set_cons_zero, List.set_cons_succ]
            refine T_take (k := 13) (v := .pointer (some ⟨gW, i4 * 3 + r, none⟩)) rfl (by decide +kernel) (fun _ _ _ h => h) (Or.inl ⟨by rfl, fun W hW => by go_simp⟩) HSa.out ?_
            try simp only [Act.put, List.setIfInBounds_toArray, List.set_cons_zero, List.set_cons_succ]
            refine T_last (by decide +kernel) (by decide +kernel) (by decide +kernel) rfl rfl (fun K8 hK8 => ?_)
            have hK8 := Lib.hid hK8
            go_simp
            refine hK8.out _ _ (NoPanic.normal ?_)
            try simp only [Act.put, List.setIfInBounds_toArray, List.set_cons_zero, List.set_cons_succ]
            first | exact Lib.hid ⟨trivial, rfl, trivial⟩ | exact hid_det | exact Lib.hid trivial | exact Lib.hid ⟨trivial, trivial, trivial⟩
        · have hK1 := Lib.hid hK1
          go_simp
          refine hK1.out _ _ HSa.out ?_
          try simp only [Act.put, List.setIfInBounds_toArray, List.set_cons_zero, List.set_cons_succ]
          refine T_one (i := 4) (by decide +kernel) rfl rfl (fun K2 hK2 => ?_)
          have hK2 := Lib.hid hK2
          go_simp
          go_at_call 18
          refine (Har.out _).mono ?_
          rintro e w' ⟨rfl, rfl⟩
          refine hK2.out _ _ HSa.out ?_
          try simp only [Act.put, List.setIfInBounds_toArray, List.set_cons_zero, List.set_cons_succ]
          refine T_one (i := 9) (by decide +kernel) rfl rfl (fun K3 hK3 => ?_)
          have hK3 := Lib.hid hK3
          go_simp
          go_at_call 18
          refine (Has.out _).mono ?_
          rintro e w' ⟨rfl, rfl⟩
          refine hK3.out _ _ HSa.out ?_
          try simp only [Act.put, List.setIfInBounds_toArray, List.set_cons_zero, List.set_cons_succ]
          refine T_take (k := 10) (v := .pointer (some ⟨W3.heap.size, s, none⟩)) rfl (by decide +kernel) (fun _ _ _ h => h) (Or.inl ⟨by rfl, fun W hW => by go_simp⟩) HSa.out ?_
          try simp only [Act.put, List.setIfInBounds_toArray, List.set_cons_zero, List.set_cons_succ]
          refine T_one (i := 11) (by decide +kernel) rfl rfl (fun K7 hK7 => ?_)
          have hK7 := Lib.hid hK7
          go_simp
          refine hK7.out _ _ HSa.out ?_
          try simp only [Act.put, List.setIfInBounds_toArray, List.set_cons_zero, List.set_cons_succ]
          refine T_take (k := 13) (v := .pointer (some ⟨gW, i4 * 3 + r, none⟩)) rfl (by decide +kernel) (fun _ _ _ h => h) (Or.inl ⟨by rfl, fun W hW => by go_simp⟩) HSa.out ?_
          try simp only [Act.put, List.setIfInBounds_toArray, List.set_cons_zero, List.set_cons_succ]
          refine T_last (by decide +kernel) (by decide +kernel) (by decide +kernel) rfl rfl (fun K8 hK8 => ?_)
          have hK8 := Lib.hid hK8
          go_simp
          refine hK8.out _ _ (NoPanic.normal ?_)
          try simp only [Act.put, List.setIfInBounds_toArray, List.set_cons_zero, List.set_cons_succ]
          first | exact Lib.hid ⟨trivial, rfl, trivial⟩ | exact hid_det | exact Lib.hid trivial | exact Lib.hid ⟨trivial, trivial, trivial⟩
      case later =>
        obtain ⟨ns', hnl, hns⟩ := triC_set ns i4 r val hil j4
        have hneO := Bk.ne_ HO.out Hcur.out.1 (by decide)
        have hneR := Bk.ne_ HR.out Hcur.out.1 (by decide)
        have HO2 := Lib.hid ((HO.out.far (p := ⟨gW, i4 * 3 + r, none⟩) hneO (.int .i64 val)).alloc (.cells #[.int .i64 by_, .int .i64 (-1), .int .i64 0, .int .i64 1, .int .i64 1099511627776, .int .i64 1099511627777] 3))
        have HR2 := Lib.hid ((HR.out.far (p := ⟨gW, i4 * 3 + r, none⟩) hneR (.int .i64 val)).alloc (.cells #[.int .i64 by_, .int .i64 (-1), .int .i64 0, .int .i64 1, .int .i64 1099511627776, .int .i64 1099511627777] 3))
        have HB2 := Lib.hid ((HB.out.setCell (p := ⟨gW, i4 * 3 + r, none⟩) hgb (.int .i64 val)).alloc (by simp [World.setCell]; omega) (.cells #[.int .i64 by_, .int .i64 (-1), .int .i64 0, .int .i64 1, .int .i64 1099511627776, .int .i64 1099511627777] 3))
        have HW2 := Lib.hid ((own_set (i := i4 * 3 + r) HW.out (Bk.ne_own Hcur.out.1 HW.out (by decide)) (.int .i64 val)).alloc (.cells #[.int .i64 by_, .int .i64 (-1), .int .i64 0, .int .i64 1, .int .i64 1099511627776, .int .i64 1099511627777] 3))
        have hNp := (own_put (i := i4 * 3 + r) HN.out (.int .i64 val)).alloc (.cells #[.int .i64 by_, .int .i64 (-1), .int .i64 0, .int .i64 1, .int .i64 1099511627776, .int .i64 1099511627777] 3)
        rw [hns] at hNp
        have HN2 := Lib.hid hNp
        have Hlen := Lib.hid hnl
        clear hNp hc1 hcw hfw hcwa hfwa hc1a hval hneO hneR hns hnl
        generalize hWF : (W3.setCell ⟨gW, i4 * 3 + r, none⟩ (.int .i64 val)).alloc (.cells #[.int .i64 by_, .int .i64 (-1), .int .i64 0, .int .i64 1, .int .i64 1099511627776, .int .i64 1099511627777] 3) = WX at *
        clear hWF
        have HO2 := Lib.hid (HO2.out.qt ⟨1, rfl⟩ : Bk WX.drew _ _ _)
        have HR2 := Lib.hid (HR2.out.qt ⟨1, rfl⟩ : Bk WX.drew _ _ _)
        have HB2 := Lib.hid (HB2.out.drew)
        have HN2 := Lib.hid (own_qt HN2.out ⟨1, rfl⟩ : WX.drew.ownsRow _ _ _ _ _ _)
        have HW2 := Lib.hid (own_qt HW2.out ⟨1, rfl⟩ : WX.drew.ownsRow _ _ _ _ _ _)
        go_upto_region 23 with fail
        generalize WX.drew = WF at *
        have hfc0 : WF.cell? ⟨w.heap.size + 1 + 1, 0, none⟩ = some (.slice AW ws.length cW) := HO2.out.cell 0
        have hfc1 : WF.cell? ⟨w.heap.size + 1 + 1, 1, none⟩ = some (.slice (some ⟨gW, 0, none⟩) ns.length cN) := HO2.out.cell 1
        have hr0 : WF.cell? ⟨w.heap.size + 1, 0, none⟩ = some (.slice none 0 0) := HR2.out.cell 0
        have hr1 : WF.cell? ⟨w.heap.size + 1, 1, none⟩ = some (.slice none 0 0) := HR2.out.cell 1
        have hf0 := HR2.out.frozen 0
        have hf1 := HR2.out.frozen 1
        have hz0 := ((HR2.out.set_ 0 (.slice AW ws.length cW)).set_ 1 (.slice (some ⟨gW, 0, none⟩) ns.length cN)).cell 0
        have hz1 := ((HR2.out.set_ 0 (.slice AW ws.length cW)).set_ 1 (.slice (some ⟨gW, 0, none⟩) ns.length cN)).cell 1
        have ho1 := Lib.hid (own_set (i := 1) (own_set (i := 0) HW2.out (HR2.out.ne_own HW2.out (by decide)) (.slice AW ws.length cW)) (HR2.out.ne_own HW2.out (by decide)) (.slice (some ⟨gW, 0, none⟩) ns.length cN))
        have ho2 := Lib.hid (own_set (i := 1) (own_set (i := 0) HN2.out (HR2.out.ne_own HN2.out (by decide)) (.slice AW ws.length cW)) (HR2.out.ne_own HN2.out (by decide)) (.slice (some ⟨gW, 0, none⟩) ns.length cN))
        have hbf := Lib.hid ((HB2.out.setCell (p := ⟨w.heap.size + 1, 0, none⟩) (by show w.heap.size ≤ w.heap.size + 1; omega) (.slice AW ws.length cW)).setCell (p := ⟨w.heap.size + 1, 1, none⟩) (by show w.heap.size ≤ w.heap.size + 1; omega) (.slice (some ⟨gW, 0, none⟩) ns.length cN))
        go_wp2_with fail
        refine bodyPost_ret (v := .agg #[.slice AW ws.length cW, .slice (some ⟨gW, 0, none⟩) ns.length cN]) (by simp [results, Try.results40, go_sem, hz0, hz1]) rfl ?_
        exact ⟨AW, cW, some ⟨gW, 0, none⟩, cN, ws, ns', by rw [Hlen.out], own_si ho1.out, SL.of_own ho2.out, by omega, by rw [Hlen.out]; omega, hbf.out⟩
end Go.Proofs.Ytaegfljpodhnhaa
