import Derived.Test.YtmdgdphhedgojaaK28
import Derived.Deep.DeepCutAuto
namespace Go.Proofs.Ytmdgdphhedgojaa
open Go.RowKit Go.Maps

set_option linter.unusedSimpArgs false in
set_option maxHeartbeats 8000000 in
set_option maxRecDepth 100000 in
theorem again_walk (A B : Option Addr) (c d : Nat) (l k : List Int) (by_ : Int) (w : World) (hA : SI w A l) (hB : SI w B k) (hwl : W64 l) (hwk : W64 k) :
    Calls Try.prog 8 #[.slice A l.length c, .slice B k.length d, .int .i64 by_] w fun e w' => e = .returned (.bool true) ∧ Below w.heap.size w w' := by
  obtain ⟨S, hSz⟩ : ∃ S, Hid (w.heap.size = S) := ⟨_, Lib.hid rfl⟩
  have HA := Lib.hid (fun (W : World) (hW : Below S w W) => (hA.below (hSz.out.symm ▸ hW) : SI W A l))
  have Hbz := Lib.hid (fun (W : World) (hW : Below S w W) => (show S ≤ W.heap.size by have := hW.size; have := hSz.out; omega))
  go_enter Try.func8, Try.ntmps8
  go_wp2_with fail
  refine (least_any B d k w hB hwk).mono ?_
  rintro e w1 ⟨v3, ls, rfl, hown3, hT, hb1⟩
  obtain ⟨A3, c3, rfl⟩ := own_slice hown3
  have m1 := hT.n1
  have m2 := hT.n2
  have hthr := hT.ok (by omega)
  rw [hSz.out] at hown3 hb1
  have Hls := Lib.hid hown3
  have Hb1 := Lib.hid hb1
  have Hthr := Lib.hid hthr
  clear hA hB hwk hT hown3 hb1 hthr
  go_wp2_with fail
  refine (new_any A3 c3 ls w1 (own_si Hls.out) (by omega)).mono ?_
  rintro e w2 ⟨hb2, hok, _⟩
  obtain ⟨p, F1, rfl, hpz, hKP, _⟩ := hok Hthr.out
  have hSp : S ≤ p := Nat.le_trans (Hbz.out _ Hb1.out) hpz
  have HK2 := Lib.hid hKP
  have Hb2 := Lib.hid (Hb1.out.trans (hb2.mono (Hbz.out _ Hb1.out)))
  have Hls := Lib.hid (own_below Hls.out hb2)
  clear hok hKP hb2 hpz
  go_wp2_with fail
  refine (some_any A c l 16 w2 (HA.out _ Hb2.out) hwl (by omega) (by omega)).mono ?_
  rintro e w3 ⟨v1, v2, ws, ns, rfl, hown1, hown2, hG, hb3⟩
  obtain ⟨A1, c1, rfl⟩ := own_slice hown1
  obtain ⟨A2, c2, rfl⟩ := own_slice hown2
  have n1 := hG.n1
  have n2 := hG.n2
  have n3 := hG.n3
  have Hv := Lib.hid (hG.ok (by omega) (by omega))
  have hz2 := Hbz.out _ Hb2.out
  have Ho1 := Lib.hid ((own_mono hown1 hz2).alloc (.cells #[.slice A1 ws.length c1, .slice A2 ns.length c2] 30))
  have Ho2 := Lib.hid ((own_mono hown2 hz2).alloc (.cells #[.slice A1 ws.length c1, .slice A2 ns.length c2] 30))
  have Hls := Lib.hid ((own_below Hls.out hb3).alloc (.cells #[.slice A1 ws.length c1, .slice A2 ns.length c2] 30))
  have HK3 := Lib.hid ((HK2.out.below hb3).below ((Below.refl _ _).alloc (Nat.le_refl _) (.cells #[.slice A1 ws.length c1, .slice A2 ns.length c2] 30)))
  have hb23 := Hb2.out.trans (hb3.mono hz2)
  have Hb3 := Lib.hid (hb23.alloc (Hbz.out _ hb23) (.cells #[.slice A1 ws.length c1, .slice A2 ns.length c2] 30))
  have Hg3 := Lib.hid (Bk.new w3 30 #[.slice A1 ws.length c1, .slice A2 ns.length c2])
  have hq0 : (w3.alloc (.cells #[.slice A1 ws.length c1, .slice A2 ns.length c2] 30)).cell? ⟨w3.heap.size, 0, none⟩ = some (.slice A1 ws.length c1) := Hg3.out.cell 0
  have hq1 : (w3.alloc (.cells #[.slice A1 ws.length c1, .slice A2 ns.length c2] 30)).cell? ⟨w3.heap.size, 1, none⟩ = some (.slice A2 ns.length c2) := Hg3.out.cell 1
  clear hown1 hown2 hb3 hb23 HK2 Hb2 Hb1 hG
  go_wp2_with fail
  clear hq0 hq1
  generalize w3.alloc (.cells #[.slice A1 ws.length c1, .slice A2 ns.length c2] 30) = W3 at *
  generalize w3.heap.size = tg at *
  go_cut [11] (fun v wx => ∃ T A4 c4 B4 d4, v = .pointer (some ⟨T, 0, none⟩) ∧ W3.heap.size ≤ T ∧ Bk wx T 36 #[.slice A4 ws.length c4, .slice B4 ns.length d4] ∧ wx.ownsRow W3.heap.size 3 1 (.slice A4 ws.length c4) ws.length (ws.map (Value.int .i64)) ∧ wx.ownsRow W3.heap.size 52 3 (.slice B4 ns.length d4) ns.length (triC ns) ∧ Below W3.heap.size W3 wx)
  case first =>
    as_aux_lemma =>
    have hBe := (Below.refl W3.heap.size W3).drew
    have HB0 := Lib.hid hBe
    have HSf := Lib.hid (fun (W : World) (hW : Below W3.heap.size W3 W) => show W.cell? ⟨tg, 0, none⟩ = some (.slice A1 ws.length c1) ∧ W.cell? ⟨tg, 1, none⟩ = some (.slice A2 ns.length c2) from ⟨(Hg3.out.below hW Hg3.out.lt).cell 0, (Hg3.out.below hW Hg3.out.lt).cell 1⟩)
    have Hsl := Lib.hid (fun (W : World) (hW : Below W3.heap.size W3 W) => show SI W A1 ws ∧ ST W A2 ns from ⟨(own_si (own_below Ho1.out hW)), SL.of_own (own_below Ho2.out hW)⟩)
    have hzW : W3.heap.size ≤ W3.drew.heap.size := Nat.le_refl _
    clear hBe
    go_wp2_with fail
    refine wp_region_noPanic ?_
    refine region_H (S := fun W => W.cell? ⟨tg, 0, none⟩ = some (.slice A1 ws.length c1) ∧ W.cell? ⟨tg, 1, none⟩ = some (.slice A2 ns.length c2)) (by kernel_rfl) ?_
    change wpH _ _ _ _ 11 _ _ W3.drew
    generalize W3.drew = X0 at *
    refine H_takeD (k := 1) (v := .pointer (some ⟨tg, 0, none⟩)) (d := some 42) rfl rfl (by decide +kernel) (fun _ _ _ h => h) (Or.inl ⟨by rfl, fun W hW => by obtain ⟨s0, s1⟩ := hW; go_simp⟩) (HSf.out _ HB0.out) ?_
    try simp only [Act.put, List.setIfInBounds_toArray, List.set_cons_zero, List.set_cons_succ]
    refine H_takeD (k := 2) (v := .slice A1 ws.length c1) (d := some 43) rfl rfl (by decide +kernel) (fun _ _ _ h => h) (Or.inl ⟨by rfl, fun W hW => by obtain ⟨s0, s1⟩ := hW; go_simp⟩) (HSf.out _ HB0.out) ?_
    try simp only [Act.put, List.setIfInBounds_toArray, List.set_cons_zero, List.set_cons_succ]
    refine H_takeD (k := 5) (v := .pointer (some ⟨tg, 1, none⟩)) (d := some 46) rfl rfl (by decide +kernel) (fun _ _ _ h => h) (Or.inl ⟨by rfl, fun W hW => by obtain ⟨s0, s1⟩ := hW; go_simp⟩) (HSf.out _ HB0.out) ?_
    try simp only [Act.put, List.setIfInBounds_toArray, List.set_cons_zero, List.set_cons_succ]
    refine H_takeD (k := 6) (v := .slice A2 ns.length c2) (d := some 47) rfl rfl (by decide +kernel) (fun _ _ _ h => h) (Or.inl ⟨by rfl, fun W hW => by obtain ⟨s0, s1⟩ := hW; go_simp⟩) (HSf.out _ HB0.out) ?_
    try simp only [Act.put, List.setIfInBounds_toArray, List.set_cons_zero, List.set_cons_succ]
    refine H_three (i := 0) (j := 4) (k := 9) (by decide +kernel) (H_step rfl rfl (fun K hK4 => ?_)) (H_step rfl rfl (fun K hK4 => ?_)) (H_step rfl rfl (fun K hK4 => ?_))
    · have hK4 := Lib.hid hK4
      have HB1 := Lib.hid (HB0.out.alloc HB0.out.size (.cells #[] 3))
      have HE1 := Lib.hid (own_void8 (base := W3.heap.size) (size := 1) (Bk.new X0 3 #[]) HB0.out.size)
      go_simp
      refine hK4.out _ _ (HSf.out _ HB1.out) ?_
      try simp only [Act.put, List.setIfInBounds_toArray, List.set_cons_zero, List.set_cons_succ]
      generalize (X0.alloc (.cells #[] 3)) = X1 at *
      refine H_three (i := 3) (j := 4) (k := 9) (by decide +kernel) (H_step rfl rfl (fun K hK5 => ?_)) (H_step rfl rfl (fun K hK5 => ?_)) (H_step rfl rfl (fun K hK5 => ?_))
      · have hK5 := Lib.hid hK5
        refine app_wpM (m := ws.length) (c := c1) (B := A1) (us := ws.map (Value.int .i64)) (.tmp 41) (.tmp 43) rfl elt_int HE1.out HB1.out.size (by simp [Act.eval]) (by simp [Act.eval]) (Hsl.out _ HB1.out).1 (by simp) (ints_all ws) (by omega) ?_
        intro v2 X2 hown2 hg2
        obtain ⟨A4, c4, rfl⟩ := own_slice hown2
        rw [Nat.zero_add, List.nil_append] at hown2
        rw [Nat.zero_add]
        have HB2 := Lib.hid (HB1.out.grown hg2 HB1.out.size (fun q hq => (HE1.out.lt q hq).1))
        have HA2 := Lib.hid hown2
        refine hK5.out _ _ (HSf.out _ HB2.out) ?_
        try simp only [Act.put, List.setIfInBounds_toArray, List.set_cons_zero, List.set_cons_succ]
        refine H_two (i := 4) (j := 9) (by decide +kernel) (H_step rfl rfl (fun K hK6 => ?_)) (H_step rfl rfl (fun K hK6 => ?_))
        · have hK6 := Lib.hid hK6
          have HB3 := Lib.hid (HB2.out.alloc HB2.out.size (.cells #[] 52))
          have HA3 := Lib.hid (HA2.out.alloc (.cells #[] 52))
          have HF3 := Lib.hid (own_void8 (base := W3.heap.size) (size := 3) (Bk.new X2 52 #[]) HB2.out.size)
          go_simp
          refine hK6.out _ _ (HSf.out _ HB3.out) ?_
          try simp only [Act.put, List.setIfInBounds_toArray, List.set_cons_zero, List.set_cons_succ]
          generalize (X2.alloc (.cells #[] 52)) = X3 at *
          refine H_two (i := 7) (j := 9) (by decide +kernel) (H_step rfl rfl (fun K hK7 => ?_)) (H_step rfl rfl (fun K hK7 => ?_))
          · have hK7 := Lib.hid hK7
            refine app_wpM (m := ns.length) (c := c2) (B := A2) (us := triC ns) (.tmp 45) (.tmp 47) rfl elt_tri HF3.out HB3.out.size (by simp [Act.eval]) (by simp [Act.eval]) (Hsl.out _ HB3.out).2 (by rw [triC_len]) (triC_all ns) (by omega) ?_
            intro v4 X4 hown4 hg4
            obtain ⟨B4, d4, rfl⟩ := own_slice hown4
            rw [Nat.zero_add, List.nil_append] at hown4
            rw [Nat.zero_add]
            have HB4 := Lib.hid (HB3.out.grown hg4 HB3.out.size (fun q hq => (HF3.out.lt q hq).1))
            have HN4 := Lib.hid hown4
            have HA4 := Lib.hid (own_grown HA3.out hg4 (own_ne HA3.out HF3.out (by decide)))
            refine hK7.out _ _ (HSf.out _ HB4.out) ?_
            try simp only [Act.put, List.setIfInBounds_toArray, List.set_cons_zero, List.set_cons_succ]
            refine H_takeD (k := 8) (v := .agg #[.slice A4 ws.length c4, .slice B4 ns.length d4]) (d := some 49) rfl rfl (by decide +kernel) (fun _ _ _ h => h) (Or.inl ⟨by rfl, fun W hW => by obtain ⟨s0, s1⟩ := hW; go_simp⟩) (HSf.out _ HB4.out) ?_
            try simp only [Act.put, List.setIfInBounds_toArray, List.set_cons_zero, List.set_cons_succ]
            refine H_one (i := 9) (by decide +kernel) (H_step rfl rfl (fun K hK9 => ?_))
            have hK9 := Lib.hid hK9
            have HB5 := Lib.hid (HB4.out.alloc HB4.out.size (.cells #[.slice none 0 0, .slice none 0 0] 36))
            have HA5 := Lib.hid (HA4.out.alloc (.cells #[.slice none 0 0, .slice none 0 0] 36))
            have HN5 := Lib.hid (HN4.out.alloc (.cells #[.slice none 0 0, .slice none 0 0] 36))
            have HT5 := Lib.hid (Bk.new X4 36 #[.slice none 0 0, .slice none 0 0])
            have hTz : W3.heap.size ≤ X4.heap.size := HB4.out.size
            go_simp
            refine hK9.out _ _ (HSf.out _ HB5.out) ?_
            try simp only [Act.put, List.setIfInBounds_toArray, List.set_cons_zero, List.set_cons_succ]
            generalize (X4.alloc (.cells #[.slice none 0 0, .slice none 0 0] 36)) = X5 at *
            generalize X4.heap.size = T at *
            refine H_one (i := 10) (by decide +kernel) (H_step rfl rfl (fun K hK10 => ?_))
            have hK10 := Lib.hid hK10
            have z0 : X5.cell? ⟨T, 0, none⟩ = some (.slice none 0 0) := HT5.out.cell 0
            have z1 : X5.cell? ⟨T, 1, none⟩ = some (.slice none 0 0) := HT5.out.cell 1
            have z2 := HT5.out.frozen 0
            have z3 := HT5.out.frozen 1
            go_simp
            have HBF := Lib.hid ((HB5.out.setCell (p := ⟨T, 0, none⟩) hTz (.slice A4 ws.length c4)).setCell (p := ⟨T, 1, none⟩) hTz (.slice B4 ns.length d4))
            have HTF := Lib.hid ((HT5.out.set_ 0 (.slice A4 ws.length c4)).set_ 1 (.slice B4 ns.length d4))
            have HAF := Lib.hid (own_set (i := 1) (own_set (i := 0) HA5.out (HT5.out.ne_own HA5.out (by decide)) (.slice A4 ws.length c4)) (HT5.out.ne_own HA5.out (by decide)) (.slice B4 ns.length d4))
            have HNF := Lib.hid (own_set (i := 1) (own_set (i := 0) HN5.out (HT5.out.ne_own HN5.out (by decide)) (.slice A4 ws.length c4)) (HT5.out.ne_own HN5.out (by decide)) (.slice B4 ns.length d4))
            refine hK10.out _ _ (HSf.out _ HBF.out) ?_
            try simp only [Act.put, List.setIfInBounds_toArray, List.set_cons_zero, List.set_cons_succ]
            refine H_end (by decide +kernel) (NoPanic.normal ?_)
            try simp only [Act.put, List.setIfInBounds_toArray, List.set_cons_zero, List.set_cons_succ]
            go_wp2_with fail
            go_meet
            exact ⟨T, A4, c4, B4, d4, rfl, hTz, HTF.out, HAF.out, HNF.out, HBF.out⟩
          · have hK7 := Lib.hid hK7
            have HB4 := Lib.hid (HB3.out.alloc HB3.out.size (.cells #[.slice none 0 0, .slice none 0 0] 36))
            have HA4 := Lib.hid (HA3.out.alloc (.cells #[.slice none 0 0, .slice none 0 0] 36))
            have HF4 := Lib.hid (HF3.out.alloc (.cells #[.slice none 0 0, .slice none 0 0] 36))
            have HT4 := Lib.hid (Bk.new X3 36 #[.slice none 0 0, .slice none 0 0])
            have hTz : W3.heap.size ≤ X3.heap.size := HB3.out.size
            go_simp
            refine hK7.out _ _ (HSf.out _ HB4.out) ?_
            try simp only [Act.put, List.setIfInBounds_toArray, List.set_cons_zero, List.set_cons_succ]
            generalize (X3.alloc (.cells #[.slice none 0 0, .slice none 0 0] 36)) = X4 at *
            generalize X3.heap.size = T at *
            refine H_one (i := 7) (by decide +kernel) (H_step rfl rfl (fun K hK8 => ?_))
            have hK8 := Lib.hid hK8
            refine app_wpM (m := ns.length) (c := c2) (B := A2) (us := triC ns) (.tmp 45) (.tmp 47) rfl elt_tri HF4.out HB4.out.size (by simp [Act.eval]) (by simp [Act.eval]) (Hsl.out _ HB4.out).2 (by rw [triC_len]) (triC_all ns) (by omega) ?_
            intro v5 X5 hown5 hg5
            obtain ⟨B4, d4, rfl⟩ := own_slice hown5
            rw [Nat.zero_add, List.nil_append] at hown5
            rw [Nat.zero_add]
            have HB5 := Lib.hid (HB4.out.grown hg5 HB4.out.size (fun q hq => (HF4.out.lt q hq).1))
            have HN5 := Lib.hid hown5
            have HA5 := Lib.hid (own_grown HA4.out hg5 (own_ne HA4.out HF4.out (by decide)))
            have HT5 := Lib.hid (HT4.out.grown hg5 (HT4.out.ne_own HF4.out (by decide)))
            refine hK8.out _ _ (HSf.out _ HB5.out) ?_
            try simp only [Act.put, List.setIfInBounds_toArray, List.set_cons_zero, List.set_cons_succ]
            refine H_takeD (k := 8) (v := .agg #[.slice A4 ws.length c4, .slice B4 ns.length d4]) (d := some 49) rfl rfl (by decide +kernel) (fun _ _ _ h => h) (Or.inl ⟨by rfl, fun W hW => by obtain ⟨s0, s1⟩ := hW; go_simp⟩) (HSf.out _ HB5.out) ?_
            try simp only [Act.put, List.setIfInBounds_toArray, List.set_cons_zero, List.set_cons_succ]
            refine H_one (i := 10) (by decide +kernel) (H_step rfl rfl (fun K hK10 => ?_))
            have hK10 := Lib.hid hK10
            have z0 : X5.cell? ⟨T, 0, none⟩ = some (.slice none 0 0) := HT5.out.cell 0
            have z1 : X5.cell? ⟨T, 1, none⟩ = some (.slice none 0 0) := HT5.out.cell 1
            have z2 := HT5.out.frozen 0
            have z3 := HT5.out.frozen 1
            go_simp
            have HBF := Lib.hid ((HB5.out.setCell (p := ⟨T, 0, none⟩) hTz (.slice A4 ws.length c4)).setCell (p := ⟨T, 1, none⟩) hTz (.slice B4 ns.length d4))
            have HTF := Lib.hid ((HT5.out.set_ 0 (.slice A4 ws.length c4)).set_ 1 (.slice B4 ns.length d4))
            have HAF := Lib.hid (own_set (i := 1) (own_set (i := 0) HA5.out (HT5.out.ne_own HA5.out (by decide)) (.slice A4 ws.length c4)) (HT5.out.ne_own HA5.out (by decide)) (.slice B4 ns.length d4))
            have HNF := Lib.hid (own_set (i := 1) (own_set (i := 0) HN5.out (HT5.out.ne_own HN5.out (by decide)) (.slice A4 ws.length c4)) (HT5.out.ne_own HN5.out (by decide)) (.slice B4 ns.length d4))
            refine hK10.out _ _ (HSf.out _ HBF.out) ?_
            try simp only [Act.put, List.setIfInBounds_toArray, List.set_cons_zero, List.set_cons_succ]
            refine H_end (by decide +kernel) (NoPanic.normal ?_)
            try simp only [Act.put, List.setIfInBounds_toArray, List.set_cons_zero, List.set_cons_succ]
            go_wp2_with fail
            go_meet
            exact ⟨T, A4, c4, B4, d4, rfl, hTz, HTF.out, HAF.out, HNF.out, HBF.out⟩
        · have hK6 := Lib.hid hK6
          have HB3 := Lib.hid (HB2.out.alloc HB2.out.size (.cells #[.slice none 0 0, .slice none 0 0] 36))
          have HA3 := Lib.hid (HA2.out.alloc (.cells #[.slice none 0 0, .slice none 0 0] 36))
          have HT3 := Lib.hid (Bk.new X2 36 #[.slice none 0 0, .slice none 0 0])
          have hTz : W3.heap.size ≤ X2.heap.size := HB2.out.size
          go_simp
          refine hK6.out _ _ (HSf.out _ HB3.out) ?_
          try simp only [Act.put, List.setIfInBounds_toArray, List.set_cons_zero, List.set_cons_succ]
          generalize (X2.alloc (.cells #[.slice none 0 0, .slice none 0 0] 36)) = X3 at *
          generalize X2.heap.size = T at *
          refine H_one (i := 4) (by decide +kernel) (H_step rfl rfl (fun K hK7 => ?_))
          have hK7 := Lib.hid hK7
          have HB4 := Lib.hid (HB3.out.alloc HB3.out.size (.cells #[] 52))
          have HA4 := Lib.hid (HA3.out.alloc (.cells #[] 52))
          have HT4 := Lib.hid (HT3.out.alloc (.cells #[] 52))
          have HF4 := Lib.hid (own_void8 (base := W3.heap.size) (size := 3) (Bk.new X3 52 #[]) HB3.out.size)
          go_simp
          refine hK7.out _ _ (HSf.out _ HB4.out) ?_
          try simp only [Act.put, List.setIfInBounds_toArray, List.set_cons_zero, List.set_cons_succ]
          generalize (X3.alloc (.cells #[] 52)) = X4 at *
          refine H_one (i := 7) (by decide +kernel) (H_step rfl rfl (fun K hK8 => ?_))
          have hK8 := Lib.hid hK8
          refine app_wpM (m := ns.length) (c := c2) (B := A2) (us := triC ns) (.tmp 45) (.tmp 47) rfl elt_tri HF4.out HB4.out.size (by simp [Act.eval]) (by simp [Act.eval]) (Hsl.out _ HB4.out).2 (by rw [triC_len]) (triC_all ns) (by omega) ?_
          intro v5 X5 hown5 hg5
          obtain ⟨B4, d4, rfl⟩ := own_slice hown5
          rw [Nat.zero_add, List.nil_append] at hown5
          rw [Nat.zero_add]
          have HB5 := Lib.hid (HB4.out.grown hg5 HB4.out.size (fun q hq => (HF4.out.lt q hq).1))
          have HN5 := Lib.hid hown5
          have HA5 := Lib.hid (own_grown HA4.out hg5 (own_ne HA4.out HF4.out (by decide)))
          have HT5 := Lib.hid (HT4.out.grown hg5 (HT4.out.ne_own HF4.out (by decide)))
          refine hK8.out _ _ (HSf.out _ HB5.out) ?_
          try simp only [Act.put, List.setIfInBounds_toArray, List.set_cons_zero, List.set_cons_succ]
          refine H_takeD (k := 8) (v := .agg #[.slice A4 ws.length c4, .slice B4 ns.length d4]) (d := some 49) rfl rfl (by decide +kernel) (fun _ _ _ h => h) (Or.inl ⟨by rfl, fun W hW => by obtain ⟨s0, s1⟩ := hW; go_simp⟩) (HSf.out _ HB5.out) ?_
          try simp only [Act.put, List.setIfInBounds_toArray, List.set_cons_zero, List.set_cons_succ]
          refine H_one (i := 10) (by decide +kernel) (H_step rfl rfl (fun K hK10 => ?_))
          have hK10 := Lib.hid hK10
          have z0 : X5.cell? ⟨T, 0, none⟩ = some (.slice none 0 0) := HT5.out.cell 0
          have z1 : X5.cell? ⟨T, 1, none⟩ = some (.slice none 0 0) := HT5.out.cell 1
          have z2 := HT5.out.frozen 0
          have z3 := HT5.out.frozen 1
          go_simp
          have HBF := Lib.hid ((HB5.out.setCell (p := ⟨T, 0, none⟩) hTz (.slice A4 ws.length c4)).setCell (p := ⟨T, 1, none⟩) hTz (.slice B4 ns.length d4))
          have HTF := Lib.hid ((HT5.out.set_ 0 (.slice A4 ws.length c4)).set_ 1 (.slice B4 ns.length d4))
          have HAF := Lib.hid (own_set (i := 1) (own_set (i := 0) HA5.out (HT5.out.ne_own HA5.out (by decide)) (.slice A4 ws.length c4)) (HT5.out.ne_own HA5.out (by decide)) (.slice B4 ns.length d4))
          have HNF := Lib.hid (own_set (i := 1) (own_set (i := 0) HN5.out (HT5.out.ne_own HN5.out (by decide)) (.slice A4 ws.length c4)) (HT5.out.ne_own HN5.out (by decide)) (.slice B4 ns.length d4))
          refine hK10.out _ _ (HSf.out _ HBF.out) ?_
          try simp only [Act.put, List.setIfInBounds_toArray, List.set_cons_zero, List.set_cons_succ]
          refine H_end (by decide +kernel) (NoPanic.normal ?_)
          try simp only [Act.put, List.setIfInBounds_toArray, List.set_cons_zero, List.set_cons_succ]
          go_wp2_with fail
          go_meet
          exact ⟨T, A4, c4, B4, d4, rfl, hTz, HTF.out, HAF.out, HNF.out, HBF.out⟩
      · have hK5 := Lib.hid hK5
        have HB2 := Lib.hid (HB1.out.alloc HB1.out.size (.cells #[] 52))
        have HE2 := Lib.hid (HE1.out.alloc (.cells #[] 52))
        have HF2 := Lib.hid (own_void8 (base := W3.heap.size) (size := 3) (Bk.new X1 52 #[]) HB1.out.size)
        go_simp
        refine hK5.out _ _ (HSf.out _ HB2.out) ?_
        try simp only [Act.put, List.setIfInBounds_toArray, List.set_cons_zero, List.set_cons_succ]
        generalize (X1.alloc (.cells #[] 52)) = X2 at *
        refine H_two (i := 3) (j := 9) (by decide +kernel) (H_step rfl rfl (fun K hK6 => ?_)) (H_step rfl rfl (fun K hK6 => ?_))
        · have hK6 := Lib.hid hK6
          refine app_wpM (m := ws.length) (c := c1) (B := A1) (us := ws.map (Value.int .i64)) (.tmp 41) (.tmp 43) rfl elt_int HE2.out HB2.out.size (by simp [Act.eval]) (by simp [Act.eval]) (Hsl.out _ HB2.out).1 (by simp) (ints_all ws) (by omega) ?_
          intro v3 X3 hown3 hg3
          obtain ⟨A4, c4, rfl⟩ := own_slice hown3
          rw [Nat.zero_add, List.nil_append] at hown3
          rw [Nat.zero_add]
          have HB3 := Lib.hid (HB2.out.grown hg3 HB2.out.size (fun q hq => (HE2.out.lt q hq).1))
          have HA3 := Lib.hid hown3
          have HF3 := Lib.hid (own_grown HF2.out hg3 (own_ne HF2.out HE2.out (by decide)))
          refine hK6.out _ _ (HSf.out _ HB3.out) ?_
          try simp only [Act.put, List.setIfInBounds_toArray, List.set_cons_zero, List.set_cons_succ]
          refine H_two (i := 7) (j := 9) (by decide +kernel) (H_step rfl rfl (fun K hK7 => ?_)) (H_step rfl rfl (fun K hK7 => ?_))
          · have hK7 := Lib.hid hK7
            refine app_wpM (m := ns.length) (c := c2) (B := A2) (us := triC ns) (.tmp 45) (.tmp 47) rfl elt_tri HF3.out HB3.out.size (by simp [Act.eval]) (by simp [Act.eval]) (Hsl.out _ HB3.out).2 (by rw [triC_len]) (triC_all ns) (by omega) ?_
            intro v4 X4 hown4 hg4
            obtain ⟨B4, d4, rfl⟩ := own_slice hown4
            rw [Nat.zero_add, List.nil_append] at hown4
            rw [Nat.zero_add]
            have HB4 := Lib.hid (HB3.out.grown hg4 HB3.out.size (fun q hq => (HF3.out.lt q hq).1))
            have HN4 := Lib.hid hown4
            have HA4 := Lib.hid (own_grown HA3.out hg4 (own_ne HA3.out HF3.out (by decide)))
            refine hK7.out _ _ (HSf.out _ HB4.out) ?_
            try simp only [Act.put, List.setIfInBounds_toArray, List.set_cons_zero, List.set_cons_succ]
            refine H_takeD (k := 8) (v := .agg #[.slice A4 ws.length c4, .slice B4 ns.length d4]) (d := some 49) rfl rfl (by decide +kernel) (fun _ _ _ h => h) (Or.inl ⟨by rfl, fun W hW => by obtain ⟨s0, s1⟩ := hW; go_simp⟩) (HSf.out _ HB4.out) ?_
            try simp only [Act.put, List.setIfInBounds_toArray, List.set_cons_zero, List.set_cons_succ]
            refine H_one (i := 9) (by decide +kernel) (H_step rfl rfl (fun K hK9 => ?_))
            have hK9 := Lib.hid hK9
            have HB5 := Lib.hid (HB4.out.alloc HB4.out.size (.cells #[.slice none 0 0, .slice none 0 0] 36))
            have HA5 := Lib.hid (HA4.out.alloc (.cells #[.slice none 0 0, .slice none 0 0] 36))
            have HN5 := Lib.hid (HN4.out.alloc (.cells #[.slice none 0 0, .slice none 0 0] 36))
            have HT5 := Lib.hid (Bk.new X4 36 #[.slice none 0 0, .slice none 0 0])
            have hTz : W3.heap.size ≤ X4.heap.size := HB4.out.size
            go_simp
            refine hK9.out _ _ (HSf.out _ HB5.out) ?_
            try simp only [Act.put, List.setIfInBounds_toArray, List.set_cons_zero, List.set_cons_succ]
            generalize (X4.alloc (.cells #[.slice none 0 0, .slice none 0 0] 36)) = X5 at *
            generalize X4.heap.size = T at *
            refine H_one (i := 10) (by decide +kernel) (H_step rfl rfl (fun K hK10 => ?_))
            have hK10 := Lib.hid hK10
            have z0 : X5.cell? ⟨T, 0, none⟩ = some (.slice none 0 0) := HT5.out.cell 0
            have z1 : X5.cell? ⟨T, 1, none⟩ = some (.slice none 0 0) := HT5.out.cell 1
            have z2 := HT5.out.frozen 0
            have z3 := HT5.out.frozen 1
            go_simp
            have HBF := Lib.hid ((HB5.out.setCell (p := ⟨T, 0, none⟩) hTz (.slice A4 ws.length c4)).setCell (p := ⟨T, 1, none⟩) hTz (.slice B4 ns.length d4))
            have HTF := Lib.hid ((HT5.out.set_ 0 (.slice A4 ws.length c4)).set_ 1 (.slice B4 ns.length d4))
            have HAF := Lib.hid (own_set (i := 1) (own_set (i := 0) HA5.out (HT5.out.ne_own HA5.out (by decide)) (.slice A4 ws.length c4)) (HT5.out.ne_own HA5.out (by decide)) (.slice B4 ns.length d4))
            have HNF := Lib.hid (own_set (i := 1) (own_set (i := 0) HN5.out (HT5.out.ne_own HN5.out (by decide)) (.slice A4 ws.length c4)) (HT5.out.ne_own HN5.out (by decide)) (.slice B4 ns.length d4))
            refine hK10.out _ _ (HSf.out _ HBF.out) ?_
            try simp only [Act.put, List.setIfInBounds_toArray, List.set_cons_zero, List.set_cons_succ]
            refine H_end (by decide +kernel) (NoPanic.normal ?_)
            try simp only [Act.put, List.setIfInBounds_toArray, List.set_cons_zero, List.set_cons_succ]
            go_wp2_with fail
            go_meet
            exact ⟨T, A4, c4, B4, d4, rfl, hTz, HTF.out, HAF.out, HNF.out, HBF.out⟩
          · have hK7 := Lib.hid hK7
            have HB4 := Lib.hid (HB3.out.alloc HB3.out.size (.cells #[.slice none 0 0, .slice none 0 0] 36))
            have HF4 := Lib.hid (HF3.out.alloc (.cells #[.slice none 0 0, .slice none 0 0] 36))
            have HA4 := Lib.hid (HA3.out.alloc (.cells #[.slice none 0 0, .slice none 0 0] 36))
            have HT4 := Lib.hid (Bk.new X3 36 #[.slice none 0 0, .slice none 0 0])
            have hTz : W3.heap.size ≤ X3.heap.size := HB3.out.size
            go_simp
            refine hK7.out _ _ (HSf.out _ HB4.out) ?_
            try simp only [Act.put, List.setIfInBounds_toArray, List.set_cons_zero, List.set_cons_succ]
            generalize (X3.alloc (.cells #[.slice none 0 0, .slice none 0 0] 36)) = X4 at *
            generalize X3.heap.size = T at *
            refine H_one (i := 7) (by decide +kernel) (H_step rfl rfl (fun K hK8 => ?_))
            have hK8 := Lib.hid hK8
            refine app_wpM (m := ns.length) (c := c2) (B := A2) (us := triC ns) (.tmp 45) (.tmp 47) rfl elt_tri HF4.out HB4.out.size (by simp [Act.eval]) (by simp [Act.eval]) (Hsl.out _ HB4.out).2 (by rw [triC_len]) (triC_all ns) (by omega) ?_
            intro v5 X5 hown5 hg5
            obtain ⟨B4, d4, rfl⟩ := own_slice hown5
            rw [Nat.zero_add, List.nil_append] at hown5
            rw [Nat.zero_add]
            have HB5 := Lib.hid (HB4.out.grown hg5 HB4.out.size (fun q hq => (HF4.out.lt q hq).1))
            have HN5 := Lib.hid hown5
            have HA5 := Lib.hid (own_grown HA4.out hg5 (own_ne HA4.out HF4.out (by decide)))
            have HT5 := Lib.hid (HT4.out.grown hg5 (HT4.out.ne_own HF4.out (by decide)))
            refine hK8.out _ _ (HSf.out _ HB5.out) ?_
            try simp only [Act.put, List.setIfInBounds_toArray, List.set_cons_zero, List.set_cons_succ]
            refine H_takeD (k := 8) (v := .agg #[.slice A4 ws.length c4, .slice B4 ns.length d4]) (d := some 49) rfl rfl (by decide +kernel) (fun _ _ _ h => h) (Or.inl ⟨by rfl, fun W hW => by obtain ⟨s0, s1⟩ := hW; go_simp⟩) (HSf.out _ HB5.out) ?_
            try simp only [Act.put, List.setIfInBounds_toArray, List.set_cons_zero, List.set_cons_succ]
            refine H_one (i := 10) (by decide +kernel) (H_step rfl rfl (fun K hK10 => ?_))
            have hK10 := Lib.hid hK10
            have z0 : X5.cell? ⟨T, 0, none⟩ = some (.slice none 0 0) := HT5.out.cell 0
            have z1 : X5.cell? ⟨T, 1, none⟩ = some (.slice none 0 0) := HT5.out.cell 1
            have z2 := HT5.out.frozen 0
            have z3 := HT5.out.frozen 1
            go_simp
            have HBF := Lib.hid ((HB5.out.setCell (p := ⟨T, 0, none⟩) hTz (.slice A4 ws.length c4)).setCell (p := ⟨T, 1, none⟩) hTz (.slice B4 ns.length d4))
            have HTF := Lib.hid ((HT5.out.set_ 0 (.slice A4 ws.length c4)).set_ 1 (.slice B4 ns.length d4))
            have HAF := Lib.hid (own_set (i := 1) (own_set (i := 0) HA5.out (HT5.out.ne_own HA5.out (by decide)) (.slice A4 ws.length c4)) (HT5.out.ne_own HA5.out (by decide)) (.slice B4 ns.length d4))
            have HNF := Lib.hid (own_set (i := 1) (own_set (i := 0) HN5.out (HT5.out.ne_own HN5.out (by decide)) (.slice A4 ws.length c4)) (HT5.out.ne_own HN5.out (by decide)) (.slice B4 ns.length d4))
            refine hK10.out _ _ (HSf.out _ HBF.out) ?_
            try simp only [Act.put, List.setIfInBounds_toArray, List.set_cons_zero, List.set_cons_succ]
            refine H_end (by decide +kernel) (NoPanic.normal ?_)
            try simp only [Act.put, List.setIfInBounds_toArray, List.set_cons_zero, List.set_cons_succ]
            go_wp2_with fail
            go_meet
            exact ⟨T, A4, c4, B4, d4, rfl, hTz, HTF.out, HAF.out, HNF.out, HBF.out⟩
        · have hK6 := Lib.hid hK6
          have HB3 := Lib.hid (HB2.out.alloc HB2.out.size (.cells #[.slice none 0 0, .slice none 0 0] 36))
          have HE3 := Lib.hid (HE2.out.alloc (.cells #[.slice none 0 0, .slice none 0 0] 36))
          have HF3 := Lib.hid (HF2.out.alloc (.cells #[.slice none 0 0, .slice none 0 0] 36))
          have HT3 := Lib.hid (Bk.new X2 36 #[.slice none 0 0, .slice none 0 0])
          have hTz : W3.heap.size ≤ X2.heap.size := HB2.out.size
          go_simp
          refine hK6.out _ _ (HSf.out _ HB3.out) ?_
          try simp only [Act.put, List.setIfInBounds_toArray, List.set_cons_zero, List.set_cons_succ]
          generalize (X2.alloc (.cells #[.slice none 0 0, .slice none 0 0] 36)) = X3 at *
          generalize X2.heap.size = T at *
          refine H_one (i := 3) (by decide +kernel) (H_step rfl rfl (fun K hK7 => ?_))
          have hK7 := Lib.hid hK7
          refine app_wpM (m := ws.length) (c := c1) (B := A1) (us := ws.map (Value.int .i64)) (.tmp 41) (.tmp 43) rfl elt_int HE3.out HB3.out.size (by simp [Act.eval]) (by simp [Act.eval]) (Hsl.out _ HB3.out).1 (by simp) (ints_all ws) (by omega) ?_
          intro v4 X4 hown4 hg4
          obtain ⟨A4, c4, rfl⟩ := own_slice hown4
          rw [Nat.zero_add, List.nil_append] at hown4
          rw [Nat.zero_add]
          have HB4 := Lib.hid (HB3.out.grown hg4 HB3.out.size (fun q hq => (HE3.out.lt q hq).1))
          have HA4 := Lib.hid hown4
          have HF4 := Lib.hid (own_grown HF3.out hg4 (own_ne HF3.out HE3.out (by decide)))
          have HT4 := Lib.hid (HT3.out.grown hg4 (HT3.out.ne_own HE3.out (by decide)))
          refine hK7.out _ _ (HSf.out _ HB4.out) ?_
          try simp only [Act.put, List.setIfInBounds_toArray, List.set_cons_zero, List.set_cons_succ]
          refine H_one (i := 7) (by decide +kernel) (H_step rfl rfl (fun K hK8 => ?_))
          have hK8 := Lib.hid hK8
          refine app_wpM (m := ns.length) (c := c2) (B := A2) (us := triC ns) (.tmp 45) (.tmp 47) rfl elt_tri HF4.out HB4.out.size (by simp [Act.eval]) (by simp [Act.eval]) (Hsl.out _ HB4.out).2 (by rw [triC_len]) (triC_all ns) (by omega) ?_
          intro v5 X5 hown5 hg5
          obtain ⟨B4, d4, rfl⟩ := own_slice hown5
          rw [Nat.zero_add, List.nil_append] at hown5
          rw [Nat.zero_add]
          have HB5 := Lib.hid (HB4.out.grown hg5 HB4.out.size (fun q hq => (HF4.out.lt q hq).1))
          have HN5 := Lib.hid hown5
          have HT5 := Lib.hid (HT4.out.grown hg5 (HT4.out.ne_own HF4.out (by decide)))
          have HA5 := Lib.hid (own_grown HA4.out hg5 (own_ne HA4.out HF4.out (by decide)))
          refine hK8.out _ _ (HSf.out _ HB5.out) ?_
          try simp only [Act.put, List.setIfInBounds_toArray, List.set_cons_zero, List.set_cons_succ]
          refine H_takeD (k := 8) (v := .agg #[.slice A4 ws.length c4, .slice B4 ns.length d4]) (d := some 49) rfl rfl (by decide +kernel) (fun _ _ _ h => h) (Or.inl ⟨by rfl, fun W hW => by obtain ⟨s0, s1⟩ := hW; go_simp⟩) (HSf.out _ HB5.out) ?_
          try simp only [Act.put, List.setIfInBounds_toArray, List.set_cons_zero, List.set_cons_succ]
          refine H_one (i := 10) (by decide +kernel) (H_step rfl rfl (fun K hK10 => ?_))
          have hK10 := Lib.hid hK10
          have z0 : X5.cell? ⟨T, 0, none⟩ = some (.slice none 0 0) := HT5.out.cell 0
          have z1 : X5.cell? ⟨T, 1, none⟩ = some (.slice none 0 0) := HT5.out.cell 1
          have z2 := HT5.out.frozen 0
          have z3 := HT5.out.frozen 1
          go_simp
          have HBF := Lib.hid ((HB5.out.setCell (p := ⟨T, 0, none⟩) hTz (.slice A4 ws.length c4)).setCell (p := ⟨T, 1, none⟩) hTz (.slice B4 ns.length d4))
          have HTF := Lib.hid ((HT5.out.set_ 0 (.slice A4 ws.length c4)).set_ 1 (.slice B4 ns.length d4))
          have HAF := Lib.hid (own_set (i := 1) (own_set (i := 0) HA5.out (HT5.out.ne_own HA5.out (by decide)) (.slice A4 ws.length c4)) (HT5.out.ne_own HA5.out (by decide)) (.slice B4 ns.length d4))
          have HNF := Lib.hid (own_set (i := 1) (own_set (i := 0) HN5.out (HT5.out.ne_own HN5.out (by decide)) (.slice A4 ws.length c4)) (HT5.out.ne_own HN5.out (by decide)) (.slice B4 ns.length d4))
          refine hK10.out _ _ (HSf.out _ HBF.out) ?_
          try simp only [Act.put, List.setIfInBounds_toArray, List.set_cons_zero, List.set_cons_succ]
          refine H_end (by decide +kernel) (NoPanic.normal ?_)
          try simp only [Act.put, List.setIfInBounds_toArray, List.set_cons_zero, List.set_cons_succ]
          go_wp2_with fail
          go_meet
          exact ⟨T, A4, c4, B4, d4, rfl, hTz, HTF.out, HAF.out, HNF.out, HBF.out⟩
      · have hK5 := Lib.hid hK5
        have HB2 := Lib.hid (HB1.out.alloc HB1.out.size (.cells #[.slice none 0 0, .slice none 0 0] 36))
        have HE2 := Lib.hid (HE1.out.alloc (.cells #[.slice none 0 0, .slice none 0 0] 36))
        have HT2 := Lib.hid (Bk.new X1 36 #[.slice none 0 0, .slice none 0 0])
        have hTz : W3.heap.size ≤ X1.heap.size := HB1.out.size
        go_simp
        refine hK5.out _ _ (HSf.out _ HB2.out) ?_
        try simp only [Act.put, List.setIfInBounds_toArray, List.set_cons_zero, List.set_cons_succ]
        generalize (X1.alloc (.cells #[.slice none 0 0, .slice none 0 0] 36)) = X2 at *
        generalize X1.heap.size = T at *
        refine H_two (i := 3) (j := 4) (by decide +kernel) (H_step rfl rfl (fun K hK6 => ?_)) (H_step rfl rfl (fun K hK6 => ?_))
        · have hK6 := Lib.hid hK6
          refine app_wpM (m := ws.length) (c := c1) (B := A1) (us := ws.map (Value.int .i64)) (.tmp 41) (.tmp 43) rfl elt_int HE2.out HB2.out.size (by simp [Act.eval]) (by simp [Act.eval]) (Hsl.out _ HB2.out).1 (by simp) (ints_all ws) (by omega) ?_
          intro v3 X3 hown3 hg3
          obtain ⟨A4, c4, rfl⟩ := own_slice hown3
          rw [Nat.zero_add, List.nil_append] at hown3
          rw [Nat.zero_add]
          have HB3 := Lib.hid (HB2.out.grown hg3 HB2.out.size (fun q hq => (HE2.out.lt q hq).1))
          have HA3 := Lib.hid hown3
          have HT3 := Lib.hid (HT2.out.grown hg3 (HT2.out.ne_own HE2.out (by decide)))
          refine hK6.out _ _ (HSf.out _ HB3.out) ?_
          try simp only [Act.put, List.setIfInBounds_toArray, List.set_cons_zero, List.set_cons_succ]
          refine H_one (i := 4) (by decide +kernel) (H_step rfl rfl (fun K hK7 => ?_))
          have hK7 := Lib.hid hK7
          have HB4 := Lib.hid (HB3.out.alloc HB3.out.size (.cells #[] 52))
          have HT4 := Lib.hid (HT3.out.alloc (.cells #[] 52))
          have HA4 := Lib.hid (HA3.out.alloc (.cells #[] 52))
          have HF4 := Lib.hid (own_void8 (base := W3.heap.size) (size := 3) (Bk.new X3 52 #[]) HB3.out.size)
          go_simp
          refine hK7.out _ _ (HSf.out _ HB4.out) ?_
          try simp only [Act.put, List.setIfInBounds_toArray, List.set_cons_zero, List.set_cons_succ]
          generalize (X3.alloc (.cells #[] 52)) = X4 at *
          refine H_one (i := 7) (by decide +kernel) (H_step rfl rfl (fun K hK8 => ?_))
          have hK8 := Lib.hid hK8
          refine app_wpM (m := ns.length) (c := c2) (B := A2) (us := triC ns) (.tmp 45) (.tmp 47) rfl elt_tri HF4.out HB4.out.size (by simp [Act.eval]) (by simp [Act.eval]) (Hsl.out _ HB4.out).2 (by rw [triC_len]) (triC_all ns) (by omega) ?_
          intro v5 X5 hown5 hg5
          obtain ⟨B4, d4, rfl⟩ := own_slice hown5
          rw [Nat.zero_add, List.nil_append] at hown5
          rw [Nat.zero_add]
          have HB5 := Lib.hid (HB4.out.grown hg5 HB4.out.size (fun q hq => (HF4.out.lt q hq).1))
          have HN5 := Lib.hid hown5
          have HT5 := Lib.hid (HT4.out.grown hg5 (HT4.out.ne_own HF4.out (by decide)))
          have HA5 := Lib.hid (own_grown HA4.out hg5 (own_ne HA4.out HF4.out (by decide)))
          refine hK8.out _ _ (HSf.out _ HB5.out) ?_
          try simp only [Act.put, List.setIfInBounds_toArray, List.set_cons_zero, List.set_cons_succ]
          refine H_takeD (k := 8) (v := .agg #[.slice A4 ws.length c4, .slice B4 ns.length d4]) (d := some 49) rfl rfl (by decide +kernel) (fun _ _ _ h => h) (Or.inl ⟨by rfl, fun W hW => by obtain ⟨s0, s1⟩ := hW; go_simp⟩) (HSf.out _ HB5.out) ?_
          try simp only [Act.put, List.setIfInBounds_toArray, List.set_cons_zero, List.set_cons_succ]
          refine H_one (i := 10) (by decide +kernel) (H_step rfl rfl (fun K hK10 => ?_))
          have hK10 := Lib.hid hK10
          have z0 : X5.cell? ⟨T, 0, none⟩ = some (.slice none 0 0) := HT5.out.cell 0
          have z1 : X5.cell? ⟨T, 1, none⟩ = some (.slice none 0 0) := HT5.out.cell 1
          have z2 := HT5.out.frozen 0
          have z3 := HT5.out.frozen 1
          go_simp
          have HBF := Lib.hid ((HB5.out.setCell (p := ⟨T, 0, none⟩) hTz (.slice A4 ws.length c4)).setCell (p := ⟨T, 1, none⟩) hTz (.slice B4 ns.length d4))
          have HTF := Lib.hid ((HT5.out.set_ 0 (.slice A4 ws.length c4)).set_ 1 (.slice B4 ns.length d4))
          have HAF := Lib.hid (own_set (i := 1) (own_set (i := 0) HA5.out (HT5.out.ne_own HA5.out (by decide)) (.slice A4 ws.length c4)) (HT5.out.ne_own HA5.out (by decide)) (.slice B4 ns.length d4))
          have HNF := Lib.hid (own_set (i := 1) (own_set (i := 0) HN5.out (HT5.out.ne_own HN5.out (by decide)) (.slice A4 ws.length c4)) (HT5.out.ne_own HN5.out (by decide)) (.slice B4 ns.length d4))
          refine hK10.out _ _ (HSf.out _ HBF.out) ?_
          try simp only [Act.put, List.setIfInBounds_toArray, List.set_cons_zero, List.set_cons_succ]
          refine H_end (by decide +kernel) (NoPanic.normal ?_)
          try simp only [Act.put, List.setIfInBounds_toArray, List.set_cons_zero, List.set_cons_succ]
          go_wp2_with fail
          go_meet
          exact ⟨T, A4, c4, B4, d4, rfl, hTz, HTF.out, HAF.out, HNF.out, HBF.out⟩
        · have hK6 := Lib.hid hK6
          have HB3 := Lib.hid (HB2.out.alloc HB2.out.size (.cells #[] 52))
          have HE3 := Lib.hid (HE2.out.alloc (.cells #[] 52))
          have HT3 := Lib.hid (HT2.out.alloc (.cells #[] 52))
          have HF3 := Lib.hid (own_void8 (base := W3.heap.size) (size := 3) (Bk.new X2 52 #[]) HB2.out.size)
          go_simp
          refine hK6.out _ _ (HSf.out _ HB3.out) ?_
          try simp only [Act.put, List.setIfInBounds_toArray, List.set_cons_zero, List.set_cons_succ]
          generalize (X2.alloc (.cells #[] 52)) = X3 at *
          refine H_one (i := 3) (by decide +kernel) (H_step rfl rfl (fun K hK7 => ?_))
          have hK7 := Lib.hid hK7
          refine app_wpM (m := ws.length) (c := c1) (B := A1) (us := ws.map (Value.int .i64)) (.tmp 41) (.tmp 43) rfl elt_int HE3.out HB3.out.size (by simp [Act.eval]) (by simp [Act.eval]) (Hsl.out _ HB3.out).1 (by simp) (ints_all ws) (by omega) ?_
          intro v4 X4 hown4 hg4
          obtain ⟨A4, c4, rfl⟩ := own_slice hown4
          rw [Nat.zero_add, List.nil_append] at hown4
          rw [Nat.zero_add]
          have HB4 := Lib.hid (HB3.out.grown hg4 HB3.out.size (fun q hq => (HE3.out.lt q hq).1))
          have HA4 := Lib.hid hown4
          have HT4 := Lib.hid (HT3.out.grown hg4 (HT3.out.ne_own HE3.out (by decide)))
          have HF4 := Lib.hid (own_grown HF3.out hg4 (own_ne HF3.out HE3.out (by decide)))
          refine hK7.out _ _ (HSf.out _ HB4.out) ?_
          try simp only [Act.put, List.setIfInBounds_toArray, List.set_cons_zero, List.set_cons_succ]
          refine H_one (i := 7) (by decide +kernel) (H_step rfl rfl (fun K hK8 => ?_))
          have hK8 := Lib.hid hK8
          refine app_wpM (m := ns.length) (c := c2) (B := A2) (us := triC ns) (.tmp 45) (.tmp 47) rfl elt_tri HF4.out HB4.out.size (by simp [Act.eval]) (by simp [Act.eval]) (Hsl.out _ HB4.out).2 (by rw [triC_len]) (triC_all ns) (by omega) ?_
          intro v5 X5 hown5 hg5
          obtain ⟨B4, d4, rfl⟩ := own_slice hown5
          rw [Nat.zero_add, List.nil_append] at hown5
          rw [Nat.zero_add]
          have HB5 := Lib.hid (HB4.out.grown hg5 HB4.out.size (fun q hq => (HF4.out.lt q hq).1))
          have HN5 := Lib.hid hown5
          have HT5 := Lib.hid (HT4.out.grown hg5 (HT4.out.ne_own HF4.out (by decide)))
          have HA5 := Lib.hid (own_grown HA4.out hg5 (own_ne HA4.out HF4.out (by decide)))
          refine hK8.out _ _ (HSf.out _ HB5.out) ?_
          try simp only [Act.put, List.setIfInBounds_toArray, List.set_cons_zero, List.set_cons_succ]
          refine H_takeD (k := 8) (v := .agg #[.slice A4 ws.length c4, .slice B4 ns.length d4]) (d := some 49) rfl rfl (by decide +kernel) (fun _ _ _ h => h) (Or.inl ⟨by rfl, fun W hW => by obtain ⟨s0, s1⟩ := hW; go_simp⟩) (HSf.out _ HB5.out) ?_
          try simp only [Act.put, List.setIfInBounds_toArray, List.set_cons_zero, List.set_cons_succ]
          refine H_one (i := 10) (by decide +kernel) (H_step rfl rfl (fun K hK10 => ?_))
          have hK10 := Lib.hid hK10
          have z0 : X5.cell? ⟨T, 0, none⟩ = some (.slice none 0 0) := HT5.out.cell 0
          have z1 : X5.cell? ⟨T, 1, none⟩ = some (.slice none 0 0) := HT5.out.cell 1
          have z2 := HT5.out.frozen 0
          have z3 := HT5.out.frozen 1
          go_simp
          have HBF := Lib.hid ((HB5.out.setCell (p := ⟨T, 0, none⟩) hTz (.slice A4 ws.length c4)).setCell (p := ⟨T, 1, none⟩) hTz (.slice B4 ns.length d4))
          have HTF := Lib.hid ((HT5.out.set_ 0 (.slice A4 ws.length c4)).set_ 1 (.slice B4 ns.length d4))
          have HAF := Lib.hid (own_set (i := 1) (own_set (i := 0) HA5.out (HT5.out.ne_own HA5.out (by decide)) (.slice A4 ws.length c4)) (HT5.out.ne_own HA5.out (by decide)) (.slice B4 ns.length d4))
          have HNF := Lib.hid (own_set (i := 1) (own_set (i := 0) HN5.out (HT5.out.ne_own HN5.out (by decide)) (.slice A4 ws.length c4)) (HT5.out.ne_own HN5.out (by decide)) (.slice B4 ns.length d4))
          refine hK10.out _ _ (HSf.out _ HBF.out) ?_
          try simp only [Act.put, List.setIfInBounds_toArray, List.set_cons_zero, List.set_cons_succ]
          refine H_end (by decide +kernel) (NoPanic.normal ?_)
          try simp only [Act.put, List.setIfInBounds_toArray, List.set_cons_zero, List.set_cons_succ]
          go_wp2_with fail
          go_meet
          exact ⟨T, A4, c4, B4, d4, rfl, hTz, HTF.out, HAF.out, HNF.out, HBF.out⟩
    · have hK4 := Lib.hid hK4
      have HB1 := Lib.hid (HB0.out.alloc HB0.out.size (.cells #[] 52))
      have HF1 := Lib.hid (own_void8 (base := W3.heap.size) (size := 3) (Bk.new X0 52 #[]) HB0.out.size)
      go_simp
      refine hK4.out _ _ (HSf.out _ HB1.out) ?_
      try simp only [Act.put, List.setIfInBounds_toArray, List.set_cons_zero, List.set_cons_succ]
      generalize (X0.alloc (.cells #[] 52)) = X1 at *
      refine H_two (i := 0) (j := 9) (by decide +kernel) (H_step rfl rfl (fun K hK5 => ?_)) (H_step rfl rfl (fun K hK5 => ?_))
      · have hK5 := Lib.hid hK5
        have HB2 := Lib.hid (HB1.out.alloc HB1.out.size (.cells #[] 3))
        have HF2 := Lib.hid (HF1.out.alloc (.cells #[] 3))
        have HE2 := Lib.hid (own_void8 (base := W3.heap.size) (size := 1) (Bk.new X1 3 #[]) HB1.out.size)
        go_simp
        refine hK5.out _ _ (HSf.out _ HB2.out) ?_
        try simp only [Act.put, List.setIfInBounds_toArray, List.set_cons_zero, List.set_cons_succ]
        generalize (X1.alloc (.cells #[] 3)) = X2 at *
        refine H_two (i := 3) (j := 9) (by decide +kernel) (H_step rfl rfl (fun K hK6 => ?_)) (H_step rfl rfl (fun K hK6 => ?_))
        · have hK6 := Lib.hid hK6
          refine app_wpM (m := ws.length) (c := c1) (B := A1) (us := ws.map (Value.int .i64)) (.tmp 41) (.tmp 43) rfl elt_int HE2.out HB2.out.size (by simp [Act.eval]) (by simp [Act.eval]) (Hsl.out _ HB2.out).1 (by simp) (ints_all ws) (by omega) ?_
          intro v3 X3 hown3 hg3
          obtain ⟨A4, c4, rfl⟩ := own_slice hown3
          rw [Nat.zero_add, List.nil_append] at hown3
          rw [Nat.zero_add]
          have HB3 := Lib.hid (HB2.out.grown hg3 HB2.out.size (fun q hq => (HE2.out.lt q hq).1))
          have HA3 := Lib.hid hown3
          have HF3 := Lib.hid (own_grown HF2.out hg3 (own_ne HF2.out HE2.out (by decide)))
          refine hK6.out _ _ (HSf.out _ HB3.out) ?_
          try simp only [Act.put, List.setIfInBounds_toArray, List.set_cons_zero, List.set_cons_succ]
          refine H_two (i := 7) (j := 9) (by decide +kernel) (H_step rfl rfl (fun K hK7 => ?_)) (H_step rfl rfl (fun K hK7 => ?_))
          · have hK7 := Lib.hid hK7
            refine app_wpM (m := ns.length) (c := c2) (B := A2) (us := triC ns) (.tmp 45) (.tmp 47) rfl elt_tri HF3.out HB3.out.size (by simp [Act.eval]) (by simp [Act.eval]) (Hsl.out _ HB3.out).2 (by rw [triC_len]) (triC_all ns) (by omega) ?_
            intro v4 X4 hown4 hg4
            obtain ⟨B4, d4, rfl⟩ := own_slice hown4
            rw [Nat.zero_add, List.nil_append] at hown4
            rw [Nat.zero_add]
            have HB4 := Lib.hid (HB3.out.grown hg4 HB3.out.size (fun q hq => (HF3.out.lt q hq).1))
            have HN4 := Lib.hid hown4
            have HA4 := Lib.hid (own_grown HA3.out hg4 (own_ne HA3.out HF3.out (by decide)))
            refine hK7.out _ _ (HSf.out _ HB4.out) ?_
            try simp only [Act.put, List.setIfInBounds_toArray, List.set_cons_zero, List.set_cons_succ]
            refine H_takeD (k := 8) (v := .agg #[.slice A4 ws.length c4, .slice B4 ns.length d4]) (d := some 49) rfl rfl (by decide +kernel) (fun _ _ _ h => h) (Or.inl ⟨by rfl, fun W hW => by obtain ⟨s0, s1⟩ := hW; go_simp⟩) (HSf.out _ HB4.out) ?_
            try simp only [Act.put, List.setIfInBounds_toArray, List.set_cons_zero, List.set_cons_succ]
            refine H_one (i := 9) (by decide +kernel) (H_step rfl rfl (fun K hK9 => ?_))
            have hK9 := Lib.hid hK9
            have HB5 := Lib.hid (HB4.out.alloc HB4.out.size (.cells #[.slice none 0 0, .slice none 0 0] 36))
            have HA5 := Lib.hid (HA4.out.alloc (.cells #[.slice none 0 0, .slice none 0 0] 36))
            have HN5 := Lib.hid (HN4.out.alloc (.cells #[.slice none 0 0, .slice none 0 0] 36))
            have HT5 := Lib.hid (Bk.new X4 36 #[.slice none 0 0, .slice none 0 0])
            have hTz : W3.heap.size ≤ X4.heap.size := HB4.out.size
            go_simp
            refine hK9.out _ _ (HSf.out _ HB5.out) ?_
            try simp only [Act.put, List.setIfInBounds_toArray, List.set_cons_zero, List.set_cons_succ]
            generalize (X4.alloc (.cells #[.slice none 0 0, .slice none 0 0] 36)) = X5 at *
            generalize X4.heap.size = T at *
            refine H_one (i := 10) (by decide +kernel) (H_step rfl rfl (fun K hK10 => ?_))
            have hK10 := Lib.hid hK10
            have z0 : X5.cell? ⟨T, 0, none⟩ = some (.slice none 0 0) := HT5.out.cell 0
            have z1 : X5.cell? ⟨T, 1, none⟩ = some (.slice none 0 0) := HT5.out.cell 1
            have z2 := HT5.out.frozen 0
            have z3 := HT5.out.frozen 1
            go_simp
            have HBF := Lib.hid ((HB5.out.setCell (p := ⟨T, 0, none⟩) hTz (.slice A4 ws.length c4)).setCell (p := ⟨T, 1, none⟩) hTz (.slice B4 ns.length d4))
            have HTF := Lib.hid ((HT5.out.set_ 0 (.slice A4 ws.length c4)).set_ 1 (.slice B4 ns.length d4))
            have HAF := Lib.hid (own_set (i := 1) (own_set (i := 0) HA5.out (HT5.out.ne_own HA5.out (by decide)) (.slice A4 ws.length c4)) (HT5.out.ne_own HA5.out (by decide)) (.slice B4 ns.length d4))
            have HNF := Lib.hid (own_set (i := 1) (own_set (i := 0) HN5.out (HT5.out.ne_own HN5.out (by decide)) (.slice A4 ws.length c4)) (HT5.out.ne_own HN5.out (by decide)) (.slice B4 ns.length d4))
            refine hK10.out _ _ (HSf.out _ HBF.out) ?_
            try simp only [Act.put, List.setIfInBounds_toArray, List.set_cons_zero, List.set_cons_succ]
            refine H_end (by decide +kernel) (NoPanic.normal ?_)
            try simp only [Act.put, List.setIfInBounds_toArray, List.set_cons_zero, List.set_cons_succ]
            go_wp2_with fail
            go_meet
            exact ⟨T, A4, c4, B4, d4, rfl, hTz, HTF.out, HAF.out, HNF.out, HBF.out⟩
          · have hK7 := Lib.hid hK7
            have HB4 := Lib.hid (HB3.out.alloc HB3.out.size (.cells #[.slice none 0 0, .slice none 0 0] 36))
            have HF4 := Lib.hid (HF3.out.alloc (.cells #[.slice none 0 0, .slice none 0 0] 36))
            have HA4 := Lib.hid (HA3.out.alloc (.cells #[.slice none 0 0, .slice none 0 0] 36))
            have HT4 := Lib.hid (Bk.new X3 36 #[.slice none 0 0, .slice none 0 0])
            have hTz : W3.heap.size ≤ X3.heap.size := HB3.out.size
            go_simp
            refine hK7.out _ _ (HSf.out _ HB4.out) ?_
            try simp only [Act.put, List.setIfInBounds_toArray, List.set_cons_zero, List.set_cons_succ]
            generalize (X3.alloc (.cells #[.slice none 0 0, .slice none 0 0] 36)) = X4 at *
            generalize X3.heap.size = T at *
            refine H_one (i := 7) (by decide +kernel) (H_step rfl rfl (fun K hK8 => ?_))
            have hK8 := Lib.hid hK8
            refine app_wpM (m := ns.length) (c := c2) (B := A2) (us := triC ns) (.tmp 45) (.tmp 47) rfl elt_tri HF4.out HB4.out.size (by simp [Act.eval]) (by simp [Act.eval]) (Hsl.out _ HB4.out).2 (by rw [triC_len]) (triC_all ns) (by omega) ?_
            intro v5 X5 hown5 hg5
            obtain ⟨B4, d4, rfl⟩ := own_slice hown5
            rw [Nat.zero_add, List.nil_append] at hown5
            rw [Nat.zero_add]
            have HB5 := Lib.hid (HB4.out.grown hg5 HB4.out.size (fun q hq => (HF4.out.lt q hq).1))
            have HN5 := Lib.hid hown5
            have HA5 := Lib.hid (own_grown HA4.out hg5 (own_ne HA4.out HF4.out (by decide)))
            have HT5 := Lib.hid (HT4.out.grown hg5 (HT4.out.ne_own HF4.out (by decide)))
            refine hK8.out _ _ (HSf.out _ HB5.out) ?_
            try simp only [Act.put, List.setIfInBounds_toArray, List.set_cons_zero, List.set_cons_succ]
            refine H_takeD (k := 8) (v := .agg #[.slice A4 ws.length c4, .slice B4 ns.length d4]) (d := some 49) rfl rfl (by decide +kernel) (fun _ _ _ h => h) (Or.inl ⟨by rfl, fun W hW => by obtain ⟨s0, s1⟩ := hW; go_simp⟩) (HSf.out _ HB5.out) ?_
            try simp only [Act.put, List.setIfInBounds_toArray, List.set_cons_zero, List.set_cons_succ]
            refine H_one (i := 10) (by decide +kernel) (H_step rfl rfl (fun K hK10 => ?_))
            have hK10 := Lib.hid hK10
            have z0 : X5.cell? ⟨T, 0, none⟩ = some (.slice none 0 0) := HT5.out.cell 0
            have z1 : X5.cell? ⟨T, 1, none⟩ = some (.slice none 0 0) := HT5.out.cell 1
            have z2 := HT5.out.frozen 0
            have z3 := HT5.out.frozen 1
            go_simp
            have HBF := Lib.hid ((HB5.out.setCell (p := ⟨T, 0, none⟩) hTz (.slice A4 ws.length c4)).setCell (p := ⟨T, 1, none⟩) hTz (.slice B4 ns.length d4))
            have HTF := Lib.hid ((HT5.out.set_ 0 (.slice A4 ws.length c4)).set_ 1 (.slice B4 ns.length d4))
            have HAF := Lib.hid (own_set (i := 1) (own_set (i := 0) HA5.out (HT5.out.ne_own HA5.out (by decide)) (.slice A4 ws.length c4)) (HT5.out.ne_own HA5.out (by decide)) (.slice B4 ns.length d4))
            have HNF := Lib.hid (own_set (i := 1) (own_set (i := 0) HN5.out (HT5.out.ne_own HN5.out (by decide)) (.slice A4 ws.length c4)) (HT5.out.ne_own HN5.out (by decide)) (.slice B4 ns.length d4))
            refine hK10.out _ _ (HSf.out _ HBF.out) ?_
            try simp only [Act.put, List.setIfInBounds_toArray, List.set_cons_zero, List.set_cons_succ]
            refine H_end (by decide +kernel) (NoPanic.normal ?_)
            try simp only [Act.put, List.setIfInBounds_toArray, List.set_cons_zero, List.set_cons_succ]
            go_wp2_with fail
            go_meet
            exact ⟨T, A4, c4, B4, d4, rfl, hTz, HTF.out, HAF.out, HNF.out, HBF.out⟩
        · have hK6 := Lib.hid hK6
          have HB3 := Lib.hid (HB2.out.alloc HB2.out.size (.cells #[.slice none 0 0, .slice none 0 0] 36))
          have HF3 := Lib.hid (HF2.out.alloc (.cells #[.slice none 0 0, .slice none 0 0] 36))
          have HE3 := Lib.hid (HE2.out.alloc (.cells #[.slice none 0 0, .slice none 0 0] 36))
          have HT3 := Lib.hid (Bk.new X2 36 #[.slice none 0 0, .slice none 0 0])
          have hTz : W3.heap.size ≤ X2.heap.size := HB2.out.size
          go_simp
          refine hK6.out _ _ (HSf.out _ HB3.out) ?_
          try simp only [Act.put, List.setIfInBounds_toArray, List.set_cons_zero, List.set_cons_succ]
          generalize (X2.alloc (.cells #[.slice none 0 0, .slice none 0 0] 36)) = X3 at *
          generalize X2.heap.size = T at *
          refine H_one (i := 3) (by decide +kernel) (H_step rfl rfl (fun K hK7 => ?_))
          have hK7 := Lib.hid hK7
          refine app_wpM (m := ws.length) (c := c1) (B := A1) (us := ws.map (Value.int .i64)) (.tmp 41) (.tmp 43) rfl elt_int HE3.out HB3.out.size (by simp [Act.eval]) (by simp [Act.eval]) (Hsl.out _ HB3.out).1 (by simp) (ints_all ws) (by omega) ?_
          intro v4 X4 hown4 hg4
          obtain ⟨A4, c4, rfl⟩ := own_slice hown4
          rw [Nat.zero_add, List.nil_append] at hown4
          rw [Nat.zero_add]
          have HB4 := Lib.hid (HB3.out.grown hg4 HB3.out.size (fun q hq => (HE3.out.lt q hq).1))
          have HA4 := Lib.hid hown4
          have HF4 := Lib.hid (own_grown HF3.out hg4 (own_ne HF3.out HE3.out (by decide)))
          have HT4 := Lib.hid (HT3.out.grown hg4 (HT3.out.ne_own HE3.out (by decide)))
          refine hK7.out _ _ (HSf.out _ HB4.out) ?_
          try simp only [Act.put, List.setIfInBounds_toArray, List.set_cons_zero, List.set_cons_succ]
          refine H_one (i := 7) (by decide +kernel) (H_step rfl rfl (fun K hK8 => ?_))
          have hK8 := Lib.hid hK8
          refine app_wpM (m := ns.length) (c := c2) (B := A2) (us := triC ns) (.tmp 45) (.tmp 47) rfl elt_tri HF4.out HB4.out.size (by simp [Act.eval]) (by simp [Act.eval]) (Hsl.out _ HB4.out).2 (by rw [triC_len]) (triC_all ns) (by omega) ?_
          intro v5 X5 hown5 hg5
          obtain ⟨B4, d4, rfl⟩ := own_slice hown5
          rw [Nat.zero_add, List.nil_append] at hown5
          rw [Nat.zero_add]
          have HB5 := Lib.hid (HB4.out.grown hg5 HB4.out.size (fun q hq => (HF4.out.lt q hq).1))
          have HN5 := Lib.hid hown5
          have HT5 := Lib.hid (HT4.out.grown hg5 (HT4.out.ne_own HF4.out (by decide)))
          have HA5 := Lib.hid (own_grown HA4.out hg5 (own_ne HA4.out HF4.out (by decide)))
          refine hK8.out _ _ (HSf.out _ HB5.out) ?_
          try simp only [Act.put, List.setIfInBounds_toArray, List.set_cons_zero, List.set_cons_succ]
          refine H_takeD (k := 8) (v := .agg #[.slice A4 ws.length c4, .slice B4 ns.length d4]) (d := some 49) rfl rfl (by decide +kernel) (fun _ _ _ h => h) (Or.inl ⟨by rfl, fun W hW => by obtain ⟨s0, s1⟩ := hW; go_simp⟩) (HSf.out _ HB5.out) ?_
          try simp only [Act.put, List.setIfInBounds_toArray, List.set_cons_zero, List.set_cons_succ]
          refine H_one (i := 10) (by decide +kernel) (H_step rfl rfl (fun K hK10 => ?_))
          have hK10 := Lib.hid hK10
          have z0 : X5.cell? ⟨T, 0, none⟩ = some (.slice none 0 0) := HT5.out.cell 0
          have z1 : X5.cell? ⟨T, 1, none⟩ = some (.slice none 0 0) := HT5.out.cell 1
          have z2 := HT5.out.frozen 0
          have z3 := HT5.out.frozen 1
          go_simp
          have HBF := Lib.hid ((HB5.out.setCell (p := ⟨T, 0, none⟩) hTz (.slice A4 ws.length c4)).setCell (p := ⟨T, 1, none⟩) hTz (.slice B4 ns.length d4))
          have HTF := Lib.hid ((HT5.out.set_ 0 (.slice A4 ws.length c4)).set_ 1 (.slice B4 ns.length d4))
          have HAF := Lib.hid (own_set (i := 1) (own_set (i := 0) HA5.out (HT5.out.ne_own HA5.out (by decide)) (.slice A4 ws.length c4)) (HT5.out.ne_own HA5.out (by decide)) (.slice B4 ns.length d4))
          have HNF := Lib.hid (own_set (i := 1) (own_set (i := 0) HN5.out (HT5.out.ne_own HN5.out (by decide)) (.slice A4 ws.length c4)) (HT5.out.ne_own HN5.out (by decide)) (.slice B4 ns.length d4))
          refine hK10.out _ _ (HSf.out _ HBF.out) ?_
          try simp only [Act.put, List.setIfInBounds_toArray, List.set_cons_zero, List.set_cons_succ]
          refine H_end (by decide +kernel) (NoPanic.normal ?_)
          try simp only [Act.put, List.setIfInBounds_toArray, List.set_cons_zero, List.set_cons_succ]
          go_wp2_with fail
          go_meet
          exact ⟨T, A4, c4, B4, d4, rfl, hTz, HTF.out, HAF.out, HNF.out, HBF.out⟩
      · have hK5 := Lib.hid hK5
        have HB2 := Lib.hid (HB1.out.alloc HB1.out.size (.cells #[.slice none 0 0, .slice none 0 0] 36))
        have HF2 := Lib.hid (HF1.out.alloc (.cells #[.slice none 0 0, .slice none 0 0] 36))
        have HT2 := Lib.hid (Bk.new X1 36 #[.slice none 0 0, .slice none 0 0])
        have hTz : W3.heap.size ≤ X1.heap.size := HB1.out.size
        go_simp
        refine hK5.out _ _ (HSf.out _ HB2.out) ?_
        try simp only [Act.put, List.setIfInBounds_toArray, List.set_cons_zero, List.set_cons_succ]
        generalize (X1.alloc (.cells #[.slice none 0 0, .slice none 0 0] 36)) = X2 at *
        generalize X1.heap.size = T at *
        refine H_one (i := 0) (by decide +kernel) (H_step rfl rfl (fun K hK6 => ?_))
        have hK6 := Lib.hid hK6
        have HB3 := Lib.hid (HB2.out.alloc HB2.out.size (.cells #[] 3))
        have HF3 := Lib.hid (HF2.out.alloc (.cells #[] 3))
        have HT3 := Lib.hid (HT2.out.alloc (.cells #[] 3))
        have HE3 := Lib.hid (own_void8 (base := W3.heap.size) (size := 1) (Bk.new X2 3 #[]) HB2.out.size)
        go_simp
        refine hK6.out _ _ (HSf.out _ HB3.out) ?_
        try simp only [Act.put, List.setIfInBounds_toArray, List.set_cons_zero, List.set_cons_succ]
        generalize (X2.alloc (.cells #[] 3)) = X3 at *
        refine H_one (i := 3) (by decide +kernel) (H_step rfl rfl (fun K hK7 => ?_))
        have hK7 := Lib.hid hK7
        refine app_wpM (m := ws.length) (c := c1) (B := A1) (us := ws.map (Value.int .i64)) (.tmp 41) (.tmp 43) rfl elt_int HE3.out HB3.out.size (by simp [Act.eval]) (by simp [Act.eval]) (Hsl.out _ HB3.out).1 (by simp) (ints_all ws) (by omega) ?_
        intro v4 X4 hown4 hg4
        obtain ⟨A4, c4, rfl⟩ := own_slice hown4
        rw [Nat.zero_add, List.nil_append] at hown4
        rw [Nat.zero_add]
        have HB4 := Lib.hid (HB3.out.grown hg4 HB3.out.size (fun q hq => (HE3.out.lt q hq).1))
        have HA4 := Lib.hid hown4
        have HF4 := Lib.hid (own_grown HF3.out hg4 (own_ne HF3.out HE3.out (by decide)))
        have HT4 := Lib.hid (HT3.out.grown hg4 (HT3.out.ne_own HE3.out (by decide)))
        refine hK7.out _ _ (HSf.out _ HB4.out) ?_
        try simp only [Act.put, List.setIfInBounds_toArray, List.set_cons_zero, List.set_cons_succ]
        refine H_one (i := 7) (by decide +kernel) (H_step rfl rfl (fun K hK8 => ?_))
        have hK8 := Lib.hid hK8
        refine app_wpM (m := ns.length) (c := c2) (B := A2) (us := triC ns) (.tmp 45) (.tmp 47) rfl elt_tri HF4.out HB4.out.size (by simp [Act.eval]) (by simp [Act.eval]) (Hsl.out _ HB4.out).2 (by rw [triC_len]) (triC_all ns) (by omega) ?_
        intro v5 X5 hown5 hg5
        obtain ⟨B4, d4, rfl⟩ := own_slice hown5
        rw [Nat.zero_add, List.nil_append] at hown5
        rw [Nat.zero_add]
        have HB5 := Lib.hid (HB4.out.grown hg5 HB4.out.size (fun q hq => (HF4.out.lt q hq).1))
        have HN5 := Lib.hid hown5
        have HT5 := Lib.hid (HT4.out.grown hg5 (HT4.out.ne_own HF4.out (by decide)))
        have HA5 := Lib.hid (own_grown HA4.out hg5 (own_ne HA4.out HF4.out (by decide)))
        refine hK8.out _ _ (HSf.out _ HB5.out) ?_
        try simp only [Act.put, List.setIfInBounds_toArray, List.set_cons_zero, List.set_cons_succ]
        refine H_takeD (k := 8) (v := .agg #[.slice A4 ws.length c4, .slice B4 ns.length d4]) (d := some 49) rfl rfl (by decide +kernel) (fun _ _ _ h => h) (Or.inl ⟨by rfl, fun W hW => by obtain ⟨s0, s1⟩ := hW; go_simp⟩) (HSf.out _ HB5.out) ?_
        try simp only [Act.put, List.setIfInBounds_toArray, List.set_cons_zero, List.set_cons_succ]
        refine H_one (i := 10) (by decide +kernel) (H_step rfl rfl (fun K hK10 => ?_))
        have hK10 := Lib.hid hK10
        have z0 : X5.cell? ⟨T, 0, none⟩ = some (.slice none 0 0) := HT5.out.cell 0
        have z1 : X5.cell? ⟨T, 1, none⟩ = some (.slice none 0 0) := HT5.out.cell 1
        have z2 := HT5.out.frozen 0
        have z3 := HT5.out.frozen 1
        go_simp
        have HBF := Lib.hid ((HB5.out.setCell (p := ⟨T, 0, none⟩) hTz (.slice A4 ws.length c4)).setCell (p := ⟨T, 1, none⟩) hTz (.slice B4 ns.length d4))
        have HTF := Lib.hid ((HT5.out.set_ 0 (.slice A4 ws.length c4)).set_ 1 (.slice B4 ns.length d4))
        have HAF := Lib.hid (own_set (i := 1) (own_set (i := 0) HA5.out (HT5.out.ne_own HA5.out (by decide)) (.slice A4 ws.length c4)) (HT5.out.ne_own HA5.out (by decide)) (.slice B4 ns.length d4))
        have HNF := Lib.hid (own_set (i := 1) (own_set (i := 0) HN5.out (HT5.out.ne_own HN5.out (by decide)) (.slice A4 ws.length c4)) (HT5.out.ne_own HN5.out (by decide)) (.slice B4 ns.length d4))
        refine hK10.out _ _ (HSf.out _ HBF.out) ?_
        try simp only [Act.put, List.setIfInBounds_toArray, List.set_cons_zero, List.set_cons_succ]
        refine H_end (by decide +kernel) (NoPanic.normal ?_)
        try simp only [Act.put, List.setIfInBounds_toArray, List.set_cons_zero, List.set_cons_succ]
        go_wp2_with fail
        go_meet
        exact ⟨T, A4, c4, B4, d4, rfl, hTz, HTF.out, HAF.out, HNF.out, HBF.out⟩
    · have hK4 := Lib.hid hK4
      have HB1 := Lib.hid (HB0.out.alloc HB0.out.size (.cells #[.slice none 0 0, .slice none 0 0] 36))
      have HT1 := Lib.hid (Bk.new X0 36 #[.slice none 0 0, .slice none 0 0])
      have hTz : W3.heap.size ≤ X0.heap.size := HB0.out.size
      go_simp
      refine hK4.out _ _ (HSf.out _ HB1.out) ?_
      try simp only [Act.put, List.setIfInBounds_toArray, List.set_cons_zero, List.set_cons_succ]
      generalize (X0.alloc (.cells #[.slice none 0 0, .slice none 0 0] 36)) = X1 at *
      generalize X0.heap.size = T at *
      refine H_two (i := 0) (j := 4) (by decide +kernel) (H_step rfl rfl (fun K hK5 => ?_)) (H_step rfl rfl (fun K hK5 => ?_))
      · have hK5 := Lib.hid hK5
        have HB2 := Lib.hid (HB1.out.alloc HB1.out.size (.cells #[] 3))
        have HT2 := Lib.hid (HT1.out.alloc (.cells #[] 3))
        have HE2 := Lib.hid (own_void8 (base := W3.heap.size) (size := 1) (Bk.new X1 3 #[]) HB1.out.size)
        go_simp
        refine hK5.out _ _ (HSf.out _ HB2.out) ?_
        try simp only [Act.put, List.setIfInBounds_toArray, List.set_cons_zero, List.set_cons_succ]
        generalize (X1.alloc (.cells #[] 3)) = X2 at *
        refine H_two (i := 3) (j := 4) (by decide +kernel) (H_step rfl rfl (fun K hK6 => ?_)) (H_step rfl rfl (fun K hK6 => ?_))
        · have hK6 := Lib.hid hK6
          refine app_wpM (m := ws.length) (c := c1) (B := A1) (us := ws.map (Value.int .i64)) (.tmp 41) (.tmp 43) rfl elt_int HE2.out HB2.out.size (by simp [Act.eval]) (by simp [Act.eval]) (Hsl.out _ HB2.out).1 (by simp) (ints_all ws) (by omega) ?_
          intro v3 X3 hown3 hg3
          obtain ⟨A4, c4, rfl⟩ := own_slice hown3
          rw [Nat.zero_add, List.nil_append] at hown3
          rw [Nat.zero_add]
          have HB3 := Lib.hid (HB2.out.grown hg3 HB2.out.size (fun q hq => (HE2.out.lt q hq).1))
          have HA3 := Lib.hid hown3
          have HT3 := Lib.hid (HT2.out.grown hg3 (HT2.out.ne_own HE2.out (by decide)))
          refine hK6.out _ _ (HSf.out _ HB3.out) ?_
          try simp only [Act.put, List.setIfInBounds_toArray, List.set_cons_zero, List.set_cons_succ]
          refine H_one (i := 4) (by decide +kernel) (H_step rfl rfl (fun K hK7 => ?_))
          have hK7 := Lib.hid hK7
          have HB4 := Lib.hid (HB3.out.alloc HB3.out.size (.cells #[] 52))
          have HT4 := Lib.hid (HT3.out.alloc (.cells #[] 52))
          have HA4 := Lib.hid (HA3.out.alloc (.cells #[] 52))
          have HF4 := Lib.hid (own_void8 (base := W3.heap.size) (size := 3) (Bk.new X3 52 #[]) HB3.out.size)
          go_simp
          refine hK7.out _ _ (HSf.out _ HB4.out) ?_
          try simp only [Act.put, List.setIfInBounds_toArray, List.set_cons_zero, List.set_cons_succ]
          generalize (X3.alloc (.cells #[] 52)) = X4 at *
          refine H_one (i := 7) (by decide +kernel) (H_step rfl rfl (fun K hK8 => ?_))
          have hK8 := Lib.hid hK8
          refine app_wpM (m := ns.length) (c := c2) (B := A2) (us := triC ns) (.tmp 45) (.tmp 47) rfl elt_tri HF4.out HB4.out.size (by simp [Act.eval]) (by simp [Act.eval]) (Hsl.out _ HB4.out).2 (by rw [triC_len]) (triC_all ns) (by omega) ?_
          intro v5 X5 hown5 hg5
          obtain ⟨B4, d4, rfl⟩ := own_slice hown5
          rw [Nat.zero_add, List.nil_append] at hown5
          rw [Nat.zero_add]
          have HB5 := Lib.hid (HB4.out.grown hg5 HB4.out.size (fun q hq => (HF4.out.lt q hq).1))
          have HN5 := Lib.hid hown5
          have HT5 := Lib.hid (HT4.out.grown hg5 (HT4.out.ne_own HF4.out (by decide)))
          have HA5 := Lib.hid (own_grown HA4.out hg5 (own_ne HA4.out HF4.out (by decide)))
          refine hK8.out _ _ (HSf.out _ HB5.out) ?_
          try simp only [Act.put, List.setIfInBounds_toArray, List.set_cons_zero, List.set_cons_succ]
          refine H_takeD (k := 8) (v := .agg #[.slice A4 ws.length c4, .slice B4 ns.length d4]) (d := some 49) rfl rfl (by decide +kernel) (fun _ _ _ h => h) (Or.inl ⟨by rfl, fun W hW => by obtain ⟨s0, s1⟩ := hW; go_simp⟩) (HSf.out _ HB5.out) ?_
          try simp only [Act.put, List.setIfInBounds_toArray, List.set_cons_zero, List.set_cons_succ]
          refine H_one (i := 10) (by decide +kernel) (H_step rfl rfl (fun K hK10 => ?_))
          have hK10 := Lib.hid hK10
          have z0 : X5.cell? ⟨T, 0, none⟩ = some (.slice none 0 0) := HT5.out.cell 0
          have z1 : X5.cell? ⟨T, 1, none⟩ = some (.slice none 0 0) := HT5.out.cell 1
          have z2 := HT5.out.frozen 0
          have z3 := HT5.out.frozen 1
          go_simp
          have HBF := Lib.hid ((HB5.out.setCell (p := ⟨T, 0, none⟩) hTz (.slice A4 ws.length c4)).setCell (p := ⟨T, 1, none⟩) hTz (.slice B4 ns.length d4))
          have HTF := Lib.hid ((HT5.out.set_ 0 (.slice A4 ws.length c4)).set_ 1 (.slice B4 ns.length d4))
          have HAF := Lib.hid (own_set (i := 1) (own_set (i := 0) HA5.out (HT5.out.ne_own HA5.out (by decide)) (.slice A4 ws.length c4)) (HT5.out.ne_own HA5.out (by decide)) (.slice B4 ns.length d4))
          have HNF := Lib.hid (own_set (i := 1) (own_set (i := 0) HN5.out (HT5.out.ne_own HN5.out (by decide)) (.slice A4 ws.length c4)) (HT5.out.ne_own HN5.out (by decide)) (.slice B4 ns.length d4))
          refine hK10.out _ _ (HSf.out _ HBF.out) ?_
          try simp only [Act.put, List.setIfInBounds_toArray, List.set_cons_zero, List.set_cons_succ]
          refine H_end (by decide +kernel) (NoPanic.normal ?_)
          try simp only [Act.put, List.setIfInBounds_toArray, List.set_cons_zero, List.set_cons_succ]
          go_wp2_with fail
          go_meet
          exact ⟨T, A4, c4, B4, d4, rfl, hTz, HTF.out, HAF.out, HNF.out, HBF.out⟩
        · have hK6 := Lib.hid hK6
          have HB3 := Lib.hid (HB2.out.alloc HB2.out.size (.cells #[] 52))
          have HT3 := Lib.hid (HT2.out.alloc (.cells #[] 52))
          have HE3 := Lib.hid (HE2.out.alloc (.cells #[] 52))
          have HF3 := Lib.hid (own_void8 (base := W3.heap.size) (size := 3) (Bk.new X2 52 #[]) HB2.out.size)
          go_simp
          refine hK6.out _ _ (HSf.out _ HB3.out) ?_
          try simp only [Act.put, List.setIfInBounds_toArray, List.set_cons_zero, List.set_cons_succ]
          generalize (X2.alloc (.cells #[] 52)) = X3 at *
          refine H_one (i := 3) (by decide +kernel) (H_step rfl rfl (fun K hK7 => ?_))
          have hK7 := Lib.hid hK7
          refine app_wpM (m := ws.length) (c := c1) (B := A1) (us := ws.map (Value.int .i64)) (.tmp 41) (.tmp 43) rfl elt_int HE3.out HB3.out.size (by simp [Act.eval]) (by simp [Act.eval]) (Hsl.out _ HB3.out).1 (by simp) (ints_all ws) (by omega) ?_
          intro v4 X4 hown4 hg4
          obtain ⟨A4, c4, rfl⟩ := own_slice hown4
          rw [Nat.zero_add, List.nil_append] at hown4
          rw [Nat.zero_add]
          have HB4 := Lib.hid (HB3.out.grown hg4 HB3.out.size (fun q hq => (HE3.out.lt q hq).1))
          have HA4 := Lib.hid hown4
          have HT4 := Lib.hid (HT3.out.grown hg4 (HT3.out.ne_own HE3.out (by decide)))
          have HF4 := Lib.hid (own_grown HF3.out hg4 (own_ne HF3.out HE3.out (by decide)))
          refine hK7.out _ _ (HSf.out _ HB4.out) ?_
          try simp only [Act.put, List.setIfInBounds_toArray, List.set_cons_zero, List.set_cons_succ]
          refine H_one (i := 7) (by decide +kernel) (H_step rfl rfl (fun K hK8 => ?_))
          have hK8 := Lib.hid hK8
          refine app_wpM (m := ns.length) (c := c2) (B := A2) (us := triC ns) (.tmp 45) (.tmp 47) rfl elt_tri HF4.out HB4.out.size (by simp [Act.eval]) (by simp [Act.eval]) (Hsl.out _ HB4.out).2 (by rw [triC_len]) (triC_all ns) (by omega) ?_
          intro v5 X5 hown5 hg5
          obtain ⟨B4, d4, rfl⟩ := own_slice hown5
          rw [Nat.zero_add, List.nil_append] at hown5
          rw [Nat.zero_add]
          have HB5 := Lib.hid (HB4.out.grown hg5 HB4.out.size (fun q hq => (HF4.out.lt q hq).1))
          have HN5 := Lib.hid hown5
          have HT5 := Lib.hid (HT4.out.grown hg5 (HT4.out.ne_own HF4.out (by decide)))
          have HA5 := Lib.hid (own_grown HA4.out hg5 (own_ne HA4.out HF4.out (by decide)))
          refine hK8.out _ _ (HSf.out _ HB5.out) ?_
          try simp only [Act.put, List.setIfInBounds_toArray, List.set_cons_zero, List.set_cons_succ]
          refine H_takeD (k := 8) (v := .agg #[.slice A4 ws.length c4, .slice B4 ns.length d4]) (d := some 49) rfl rfl (by decide +kernel) (fun _ _ _ h => h) (Or.inl ⟨by rfl, fun W hW => by obtain ⟨s0, s1⟩ := hW; go_simp⟩) (HSf.out _ HB5.out) ?_
          try simp only [Act.put, List.setIfInBounds_toArray, List.set_cons_zero, List.set_cons_succ]
          refine H_one (i := 10) (by decide +kernel) (H_step rfl rfl (fun K hK10 => ?_))
          have hK10 := Lib.hid hK10
          have z0 : X5.cell? ⟨T, 0, none⟩ = some (.slice none 0 0) := HT5.out.cell 0
          have z1 : X5.cell? ⟨T, 1, none⟩ = some (.slice none 0 0) := HT5.out.cell 1
          have z2 := HT5.out.frozen 0
          have z3 := HT5.out.frozen 1
          go_simp
          have HBF := Lib.hid ((HB5.out.setCell (p := ⟨T, 0, none⟩) hTz (.slice A4 ws.length c4)).setCell (p := ⟨T, 1, none⟩) hTz (.slice B4 ns.length d4))
          have HTF := Lib.hid ((HT5.out.set_ 0 (.slice A4 ws.length c4)).set_ 1 (.slice B4 ns.length d4))
          have HAF := Lib.hid (own_set (i := 1) (own_set (i := 0) HA5.out (HT5.out.ne_own HA5.out (by decide)) (.slice A4 ws.length c4)) (HT5.out.ne_own HA5.out (by decide)) (.slice B4 ns.length d4))
          have HNF := Lib.hid (own_set (i := 1) (own_set (i := 0) HN5.out (HT5.out.ne_own HN5.out (by decide)) (.slice A4 ws.length c4)) (HT5.out.ne_own HN5.out (by decide)) (.slice B4 ns.length d4))
          refine hK10.out _ _ (HSf.out _ HBF.out) ?_
          try simp only [Act.put, List.setIfInBounds_toArray, List.set_cons_zero, List.set_cons_succ]
          refine H_end (by decide +kernel) (NoPanic.normal ?_)
          try simp only [Act.put, List.setIfInBounds_toArray, List.set_cons_zero, List.set_cons_succ]
          go_wp2_with fail
          go_meet
          exact ⟨T, A4, c4, B4, d4, rfl, hTz, HTF.out, HAF.out, HNF.out, HBF.out⟩
      · have hK5 := Lib.hid hK5
        have HB2 := Lib.hid (HB1.out.alloc HB1.out.size (.cells #[] 52))
        have HT2 := Lib.hid (HT1.out.alloc (.cells #[] 52))
        have HF2 := Lib.hid (own_void8 (base := W3.heap.size) (size := 3) (Bk.new X1 52 #[]) HB1.out.size)
        go_simp
        refine hK5.out _ _ (HSf.out _ HB2.out) ?_
        try simp only [Act.put, List.setIfInBounds_toArray, List.set_cons_zero, List.set_cons_succ]
        generalize (X1.alloc (.cells #[] 52)) = X2 at *
        refine H_one (i := 0) (by decide +kernel) (H_step rfl rfl (fun K hK6 => ?_))
        have hK6 := Lib.hid hK6
        have HB3 := Lib.hid (HB2.out.alloc HB2.out.size (.cells #[] 3))
        have HT3 := Lib.hid (HT2.out.alloc (.cells #[] 3))
        have HF3 := Lib.hid (HF2.out.alloc (.cells #[] 3))
        have HE3 := Lib.hid (own_void8 (base := W3.heap.size) (size := 1) (Bk.new X2 3 #[]) HB2.out.size)
        go_simp
        refine hK6.out _ _ (HSf.out _ HB3.out) ?_
        try simp only [Act.put, List.setIfInBounds_toArray, List.set_cons_zero, List.set_cons_succ]
        generalize (X2.alloc (.cells #[] 3)) = X3 at *
        refine H_one (i := 3) (by decide +kernel) (H_step rfl rfl (fun K hK7 => ?_))
        have hK7 := Lib.hid hK7
        refine app_wpM (m := ws.length) (c := c1) (B := A1) (us := ws.map (Value.int .i64)) (.tmp 41) (.tmp 43) rfl elt_int HE3.out HB3.out.size (by simp [Act.eval]) (by simp [Act.eval]) (Hsl.out _ HB3.out).1 (by simp) (ints_all ws) (by omega) ?_
        intro v4 X4 hown4 hg4
        obtain ⟨A4, c4, rfl⟩ := own_slice hown4
        rw [Nat.zero_add, List.nil_append] at hown4
        rw [Nat.zero_add]
        have HB4 := Lib.hid (HB3.out.grown hg4 HB3.out.size (fun q hq => (HE3.out.lt q hq).1))
        have HA4 := Lib.hid hown4
        have HT4 := Lib.hid (HT3.out.grown hg4 (HT3.out.ne_own HE3.out (by decide)))
        have HF4 := Lib.hid (own_grown HF3.out hg4 (own_ne HF3.out HE3.out (by decide)))
        refine hK7.out _ _ (HSf.out _ HB4.out) ?_
        try simp only [Act.put, List.setIfInBounds_toArray, List.set_cons_zero, List.set_cons_succ]
        refine H_one (i := 7) (by decide +kernel) (H_step rfl rfl (fun K hK8 => ?_))
        have hK8 := Lib.hid hK8
        refine app_wpM (m := ns.length) (c := c2) (B := A2) (us := triC ns) (.tmp 45) (.tmp 47) rfl elt_tri HF4.out HB4.out.size (by simp [Act.eval]) (by simp [Act.eval]) (Hsl.out _ HB4.out).2 (by rw [triC_len]) (triC_all ns) (by omega) ?_
        intro v5 X5 hown5 hg5
        obtain ⟨B4, d4, rfl⟩ := own_slice hown5
        rw [Nat.zero_add, List.nil_append] at hown5
        rw [Nat.zero_add]
        have HB5 := Lib.hid (HB4.out.grown hg5 HB4.out.size (fun q hq => (HF4.out.lt q hq).1))
        have HN5 := Lib.hid hown5
        have HT5 := Lib.hid (HT4.out.grown hg5 (HT4.out.ne_own HF4.out (by decide)))
        have HA5 := Lib.hid (own_grown HA4.out hg5 (own_ne HA4.out HF4.out (by decide)))
        refine hK8.out _ _ (HSf.out _ HB5.out) ?_
        try simp only [Act.put, List.setIfInBounds_toArray, List.set_cons_zero, List.set_cons_succ]
        refine H_takeD (k := 8) (v := .agg #[.slice A4 ws.length c4, .slice B4 ns.length d4]) (d := some 49) rfl rfl (by decide +kernel) (fun _ _ _ h => h) (Or.inl ⟨by rfl, fun W hW => by obtain ⟨s0, s1⟩ := hW; go_simp⟩) (HSf.out _ HB5.out) ?_
        try simp only [Act.put, List.setIfInBounds_toArray, List.set_cons_zero, List.set_cons_succ]
        refine H_one (i := 10) (by decide +kernel) (H_step rfl rfl (fun K hK10 => ?_))
        have hK10 := Lib.hid hK10
        have z0 : X5.cell? ⟨T, 0, none⟩ = some (.slice none 0 0) := HT5.out.cell 0
        have z1 : X5.cell? ⟨T, 1, none⟩ = some (.slice none 0 0) := HT5.out.cell 1
        have z2 := HT5.out.frozen 0
        have z3 := HT5.out.frozen 1
        go_simp
        have HBF := Lib.hid ((HB5.out.setCell (p := ⟨T, 0, none⟩) hTz (.slice A4 ws.length c4)).setCell (p := ⟨T, 1, none⟩) hTz (.slice B4 ns.length d4))
        have HTF := Lib.hid ((HT5.out.set_ 0 (.slice A4 ws.length c4)).set_ 1 (.slice B4 ns.length d4))
        have HAF := Lib.hid (own_set (i := 1) (own_set (i := 0) HA5.out (HT5.out.ne_own HA5.out (by decide)) (.slice A4 ws.length c4)) (HT5.out.ne_own HA5.out (by decide)) (.slice B4 ns.length d4))
        have HNF := Lib.hid (own_set (i := 1) (own_set (i := 0) HN5.out (HT5.out.ne_own HN5.out (by decide)) (.slice A4 ws.length c4)) (HT5.out.ne_own HN5.out (by decide)) (.slice B4 ns.length d4))
        refine hK10.out _ _ (HSf.out _ HBF.out) ?_
        try simp only [Act.put, List.setIfInBounds_toArray, List.set_cons_zero, List.set_cons_succ]
        refine H_end (by decide +kernel) (NoPanic.normal ?_)
        try simp only [Act.put, List.setIfInBounds_toArray, List.set_cons_zero, List.set_cons_succ]
        go_wp2_with fail
        go_meet
        exact ⟨T, A4, c4, B4, d4, rfl, hTz, HTF.out, HAF.out, HNF.out, HBF.out⟩
  case rest =>
  obtain ⟨T, A4, c4, B4, d4, rfl, hTz, hT, hoA, hoB, hbx⟩ := hcut
  obtain ⟨w4, rfl⟩ : ∃ x, x = wc := ⟨wc, rfl⟩
  have hz3 := Hbz.out _ Hb3.out
  have hF1b := HK3.out.fl
  have Hlt := Lib.hid (show (∀ g, (Value.slice A1 ws.length c1).ownBlock = some g → g < W3.heap.size) ∧ (∀ g, (Value.slice A2 ns.length c2).ownBlock = some g → g < W3.heap.size) ∧ (∀ g, (Value.slice A3 ls.length c3).ownBlock = some g → g < W3.heap.size) from ⟨fun g hg => (Ho1.out.lt g hg).2, fun g hg => (Ho2.out.lt g hg).2, fun g hg => (Hls.out.lt g hg).2⟩)
  have HK4 := Lib.hid (HK3.out.below hbx)
  have Ho1 := Lib.hid (own_below Ho1.out hbx)
  have Ho2 := Lib.hid (own_below Ho2.out hbx)
  have Hls := Lib.hid (own_below Hls.out hbx)
  have Hg4 := Lib.hid (Hg3.out.below hbx Hg3.out.lt)
  have Hb4 := Lib.hid (Hb3.out.trans (hbx.mono hz3))
  obtain ⟨gA, cA, hvA, hgA, hgAl⟩ := hoA.form (by omega)
  injection hvA with hvA1 _ hvA3
  subst hvA1 hvA3
  have HT4 := Lib.hid hT
  have HoA := Lib.hid hoA
  have HoB := Lib.hid hoB
  have HF1 := Lib.hid hF1b
  have hq0 : w4.cell? ⟨T, 0, none⟩ = some (.slice (some ⟨gA, 0, none⟩) ws.length c4) := HT4.out.cell 0
  have hq1 : w4.cell? ⟨T, 1, none⟩ = some (.slice B4 ns.length d4) := HT4.out.cell 1
  have hz34 : W3.heap.size ≤ w4.heap.size := hbx.size
  clear hT hoA hoB hbx HK3 Hg3 Hb3 hF1b
  go_wp2_with fail
  clear hq0 hq1
  refine (set_any p F1 (some ⟨gA, 0, none⟩) B4 c4 d4 ls [] ws [] ns 0 w4 HK4.out (HK4.out.siO HoA.out) (HK4.out.stO HoB.out) (by omega) (by omega) (by omega)).mono ?_
  rintro e w5 ⟨_, hok⟩
  obtain ⟨he, hg, F2, hK, hF2⟩ := hok Hv.out
  subst he
  have HK5 := Lib.hid hK
  have Ho1 := Lib.hid (HK4.out.own Ho1.out (by decide) hg)
  have Ho2 := Lib.hid (HK4.out.own Ho2.out (by decide) hg)
  have Hls := Lib.hid (HK4.out.own Hls.out (by decide) hg)
  have HoA := Lib.hid (HK4.out.own HoA.out (by decide) hg)
  have HT5 := Lib.hid (HK4.out.bk HT4.out (by decide) hg)
  have Hg5 := Lib.hid (HK4.out.bk Hg4.out (by decide) hg)
  have Hb5 := Lib.hid (far_p Hb4.out (Hbz.out _ Hb4.out) hSp hg)
  have HFA := Lib.hid (show ¬ F2 gA from fun h => (hF2 gA h).elim (fun h => by have := HF1.out gA h; omega) (fun h => by omega))
  have hpA : p ≠ gA := fun e => by
    obtain ⟨cs, hbp⟩ := HK5.out.bp
    obtain ⟨cur, hcur, _⟩ := own_bk2 HoA.out
    exact Bk.ne_ hbp hcur (by decide) e
  obtain ⟨wk, hwk⟩ : ∃ z, Hid (0 + incD (newsD (partsD [] []) (partsD ws ns)) = z) := ⟨_, Lib.hid rfl⟩
  have hinc := incD_le2 (ws := []) (ns := []) Hv.out
  have hwkb : 0 ≤ wk ∧ wk ≤ 1000000000000 := by rw [← hwk.out]; omega
  rw [hwk.out] at HK5
  have hgA5 : gA < w5.heap.size := Nat.lt_of_lt_of_le hgAl hg.size
  clear hok hg hK HK4 HT4 Hg4 Hb4 hinc hF2
  generalize (newsD (partsD [] []) (partsD ws ns)).length = many at *
  go_wp2_with fail
  refine (work_any p F2 ls ws ns wk w5 HK5.out).mono ?_
  rintro e w6 ⟨rfl, hq⟩
  have HK6 := Lib.hid (HK5.out.below (hq.below _))
  have Ho1 := Lib.hid (own_qt Ho1.out hq)
  have Ho2 := Lib.hid (own_qt Ho2.out hq)
  have Hls := Lib.hid (own_qt Hls.out hq)
  have HoA := Lib.hid (own_qt HoA.out hq)
  have HT6 := Lib.hid (HT5.out.qt hq)
  have Hg6 := Lib.hid (Hg5.out.qt hq)
  have Hb6 := Lib.hid (hq.bl Hb5.out)
  have hz6S := Hbz.out _ Hb6.out
  have hgA6 : gA < w6.heap.size := by obtain ⟨m, rfl⟩ := hq; exact hgA5
  clear hq HK5 HT5 Hg5 Hb5
  go_wp2_with fail
  refine (chain_any p F2 ls ws ns wk w6 HK6.out).mono ?_
  rintro e w7 ⟨DC, mC, vs, rfl, hown, hLL, hb7⟩
  have Hrw := Lib.hid ((hLL.rw_ lists_lens2))
  have HoC := Lib.hid hown
  have hF2b := HK6.out.fl
  have HK7 := Lib.hid (HK6.out.below hb7)
  have Ho1 := Lib.hid (own_below Ho1.out hb7)
  have Ho2 := Lib.hid (own_below Ho2.out hb7)
  have Hls := Lib.hid (own_below Hls.out hb7)
  have HoA := Lib.hid (own_below HoA.out hb7)
  have HT7 := Lib.hid (HT6.out.below hb7 HT6.out.lt)
  have Hg7 := Lib.hid (Hg6.out.below hb7 Hg6.out.lt)
  have Hb7 := Lib.hid (Hb6.out.trans (hb7.mono (Hbz.out _ Hb6.out)))
  have hz67 := hb7.size
  have HFb := Lib.hid hF2b
  clear hown hLL hb7 HK6 HT6 Hg6 Hb6 hF2b
  go_wp2_with fail
  have hbc := (Below.refl w7.heap.size w7).alloc (Nat.le_refl _) (.cells #[.slice DC ls.length mC] 40)
  have HC7 := Lib.hid (Bk.new w7 40 #[.slice DC ls.length mC])
  have HoC := Lib.hid (HoC.out.alloc (.cells #[.slice DC ls.length mC] 40))
  have Hrw := Lib.hid (show RW (w7.alloc (.cells #[.slice DC ls.length mC] 40)) w6.heap.size ws.length vs from fun j v hv => by
    obtain ⟨h, cs, e, h1, h2, h3⟩ := Hrw.out j v hv
    exact ⟨h, cs, e, h1, h2.alloc _, h3⟩)
  have HK8 := Lib.hid (HK7.out.below hbc)
  have Ho1 := Lib.hid (own_below Ho1.out hbc)
  have Ho2 := Lib.hid (own_below Ho2.out hbc)
  have Hls := Lib.hid (own_below Hls.out hbc)
  have HoA := Lib.hid (own_below HoA.out hbc)
  have HT8 := Lib.hid (HT7.out.below hbc HT7.out.lt)
  have Hg8 := Lib.hid (Hg7.out.below hbc Hg7.out.lt)
  have Hb8 := Lib.hid (Hb7.out.trans (hbc.mono (Hbz.out _ Hb7.out)))
  have hz68 : w6.heap.size ≤ w7.heap.size := hz67
  clear hbc HK7 HT7 Hg7 Hb7 hz67
  generalize w7.alloc (.cells #[.slice DC ls.length mC] 40) = W8 at *
  generalize w7.heap.size = tc at *
  refine (graph_any p F2 ls ws ns wk W8 HK8.out).mono ?_
  rintro e w9 ⟨A5, a5, B5, b5, rfl, hoH, hoN, hb9⟩
  obtain ⟨gH, cH, hvH, hgH, hgHl⟩ := hoH.form (by omega)
  injection hvH with hvH1 _ hvH3
  subst hvH1 hvH3
  have hz89 : tc < W8.heap.size := HC7.out.lt
  have hFH : ¬ F2 gH := fun h => by have := HFb.out gH h; omega
  have HFH := Lib.hid hFH
  have hpH : p ≠ gH := by have := HK8.out.lt; omega
  have hAH : gA ≠ gH := by omega
  have hbc := (Below.refl w9.heap.size w9).alloc (Nat.le_refl _) (.cells #[.slice (some ⟨gH, 0, none⟩) ws.length a5, .slice B5 ns.length b5] 36)
  have hb89 : Below W8.heap.size W8 (w9.alloc (.cells #[.slice (some ⟨gH, 0, none⟩) ws.length a5, .slice B5 ns.length b5] 36)) := hb9.trans (hbc.mono hb9.size)
  have HK9 := Lib.hid (HK8.out.below hb89)
  have HC9 := Lib.hid (HC7.out.below hb89 HC7.out.lt)
  have HoC := Lib.hid (own_below HoC.out hb89)
  have Hrw := Lib.hid (show RW (w9.alloc (.cells #[.slice (some ⟨gH, 0, none⟩) ws.length a5, .slice B5 ns.length b5] 36)) w6.heap.size ws.length vs from fun j v hv => by
    obtain ⟨h, cs, e, h1, h2, h3⟩ := Hrw.out j v hv
    exact ⟨h, cs, e, h1, h2.below hb89 h2.lt, h3⟩)
  have Ho1 := Lib.hid (own_below Ho1.out hb89)
  have Ho2 := Lib.hid (own_below Ho2.out hb89)
  have Hls := Lib.hid (own_below Hls.out hb89)
  have HoA := Lib.hid (own_below HoA.out hb89)
  have HoH := Lib.hid (hoH.alloc (.cells #[.slice (some ⟨gH, 0, none⟩) ws.length a5, .slice B5 ns.length b5] 36))
  have HT9 := Lib.hid (HT8.out.below hb89 HT8.out.lt)
  have Hg9 := Lib.hid (Hg8.out.below hb89 Hg8.out.lt)
  have HH9 := Lib.hid (Bk.new w9 36 #[.slice (some ⟨gH, 0, none⟩) ws.length a5, .slice B5 ns.length b5])
  have Hb9 := Lib.hid (Hb8.out.trans (hb89.mono (Hbz.out _ Hb8.out)))
  clear hoH hoN hb9 hbc hb89 hFH HK8 HC7 HT8 Hg8 Hb8
  go_wp2_with fail
  generalize w9.alloc (.cells #[.slice (some ⟨gH, 0, none⟩) ws.length a5, .slice B5 ns.length b5] 36) = W9 at *
  generalize w9.heap.size = th at *
  go_loopw [17] (fun v wr => ∃ (i : Nat) (xs : List Int), i ≤ ws.length ∧ v = .int .i64 i ∧ xs.length = ws.length ∧ wr.ownsRow W3.heap.size 3 1 (.slice (some ⟨gA, 0, none⟩) ws.length c4) ws.length (xs.map (Value.int .i64)) ∧ Turn W9 wr gA) (fun v _ => ws.length - (intOf v).toNat)
  case atStart => exact ⟨0, ws, by omega, rfl, rfl, HoA.out, Turn.refl _ _⟩
  case round =>
    obtain ⟨i, xs, hi, rfl, hxl, hox, ht⟩ := hrel
    by_cases hli : i < ws.length
    · have hsx : SI wr (some ⟨gA, 0, none⟩) xs := own_si hox
      obtain ⟨bx, ox, x, he, hcx, hx⟩ := hsx.get (k := i) (by omega)
      injection he with he
      injection he with he1 he2
      subst he1 he2
      rw [Nat.zero_add] at hcx
      obtain ⟨cur, hcur, _⟩ := own_bk2 hox
      have hfx := hcur.frozen i
      have hTA : T ≠ gA := Bk.ne_ (ht.bk HT9.out (fun e => by
        obtain ⟨cur2, hcur2, _⟩ := own_bk2 HoA.out
        exact Bk.ne_ HT9.out hcur2 (by decide) e)) hcur (by decide)
      have hT := ht.bk HT9.out hTA
      have q0 : wr.cell? ⟨T, 0, none⟩ = some (.slice (some ⟨gA, 0, none⟩) ws.length c4) := hT.cell 0
      have hop := own_put (i := i) hox (.int .i64 by_)
      rw [← List.map_set] at hop
      have Hop := Lib.hid (And.intro hop (Turn.setCell_ ht i (.int .i64 by_)))
      have i0 : (0 : Int) ≤ (i : Int) := by omega
      have Hxl := Lib.hid hxl
      clear hsx hx hcur hT hop hox ht hxl
      go_wp2_with fail
      go_roundw
      case rel => exact ⟨i + 1, _, by omega, by go_num, by rw [List.length_set]; exact Hxl.out, Hop.out.1, Hop.out.2⟩
      case measure => simp [intOf]; omega
    · obtain rfl : i = ws.length := by omega
      have hTA : T ≠ gA := fun e => by
        obtain ⟨cur2, hcur2, _⟩ := own_bk2 HoA.out
        exact Bk.ne_ HT9.out hcur2 (by decide) e
      have q0 : wr.cell? ⟨T, 0, none⟩ = some (.slice (some ⟨gA, 0, none⟩) ws.length c4) := (ht.bk HT9.out hTA).cell 0
      obtain ⟨cA2, hcA2, -⟩ := own_bk2 HoA.out
      have HK10 := Lib.hid (Turn.kp ht HK9.out HFA.out hpA)
      have HC10 := Lib.hid (ht.bk HC9.out (fun e => Bk.ne_ HC9.out hcA2 (by decide) e))
      have HH10 := Lib.hid (ht.bk HH9.out (fun e => Bk.ne_ HH9.out hcA2 (by decide) e))
      have Hg10 := Lib.hid (ht.bk Hg9.out (fun e => Bk.ne_ Hg9.out hcA2 (by decide) e))
      have HoC := Lib.hid (own_turn' HoC.out ht (fun e => by
        have := HoC.out.lt gA e.symm
        omega))
      have Hrw := Lib.hid (show RW wr w6.heap.size ws.length vs from fun j v hv => by
        obtain ⟨h, cs, e, h1, h2, h3⟩ := Hrw.out j v hv
        exact ⟨h, cs, e, h1, ht.bk h2 (by omega), h3⟩)
      have HoH := Lib.hid (own_turn' HoH.out ht (fun e => by simp [Value.ownBlock] at e; omega))
      have Ho1 := Lib.hid (own_turn' Ho1.out ht (fun hc => by have := Hlt.out.1 gA hc.symm; omega))
      have Ho2 := Lib.hid (own_turn' Ho2.out ht (fun hc => by have := Hlt.out.2.1 gA hc.symm; omega))
      have Hls := Lib.hid (own_turn' Hls.out ht (fun hc => by have := Hlt.out.2.2 gA hc.symm; omega))
      have Hb10 := Lib.hid (ht.below Hb9.out (by omega))
      clear ht hox hxl
      go_wp2_with fail
      obtain ⟨W10, rfl⟩ : ∃ x, x = wr := ⟨wr, rfl⟩
      clear HoA HK9 HC9 HH9 Hg9 HT9 Hb9 hcA2 cA2 q0 hTA
      go_loopw [18] (fun v wr => ∃ (i : Nat) (xs : List Int), i ≤ ws.length ∧ v = .int .i64 i ∧ xs.length = ws.length ∧ wr.ownsRow W8.heap.size 3 1 (.slice (some ⟨gH, 0, none⟩) ws.length a5) ws.length (xs.map (Value.int .i64)) ∧ Turn W10 wr gH ∧ RW wr w6.heap.size ws.length vs) (fun v _ => ws.length - (intOf v).toNat)
      case atStart => exact ⟨0, ws, by omega, rfl, rfl, HoH.out, Turn.refl _ _, Hrw.out⟩
      case round =>
        obtain ⟨i, xs, hi, rfl, hxl, hox, ht, hrw⟩ := hrel
        by_cases hli : i < ws.length
        · have hsx : SI wr (some ⟨gH, 0, none⟩) xs := own_si hox
          obtain ⟨bx, ox, x, he, hcx, hx⟩ := hsx.get (k := i) (by omega)
          injection he with he
          injection he with he1 he2
          subst he1 he2
          rw [Nat.zero_add] at hcx
          obtain ⟨cur, hcur, _⟩ := own_bk2 hox
          have hfx := hcur.frozen i
          have hTA : th ≠ gH := by omega
          have hT := ht.bk HH10.out hTA
          have q0 : wr.cell? ⟨th, 0, none⟩ = some (.slice (some ⟨gH, 0, none⟩) ws.length a5) := hT.cell 0
          have hop := own_put (i := i) hox (.int .i64 by_)
          rw [← List.map_set] at hop
          have Hop := Lib.hid (And.intro hop (And.intro (Turn.setCell_ ht i (.int .i64 by_)) (hrw.set_ (g := gH) (i := i) by_)))
          have i0 : (0 : Int) ≤ (i : Int) := by omega
          have Hxl := Lib.hid hxl
          clear hsx hx hcur hT hop hox ht hxl hrw
          go_wp2_with fail
          go_roundw
          case rel => exact ⟨i + 1, _, by omega, by go_num, by rw [List.length_set]; exact Hxl.out, Hop.out.1, Hop.out.2.1, Hop.out.2.2⟩
          case measure => simp [intOf]; omega
        · obtain rfl : i = ws.length := by omega
          have q0 : wr.cell? ⟨th, 0, none⟩ = some (.slice (some ⟨gH, 0, none⟩) ws.length a5) := (ht.bk HH10.out (by omega)).cell 0
          have HK11 := Lib.hid (Turn.kp ht HK10.out HFH.out hpH)
          have HC11 := Lib.hid (ht.bk HC10.out (by omega))
          obtain ⟨cH2, hcH2, -⟩ := own_bk2 HoH.out
          have Hg11 := Lib.hid (ht.bk Hg10.out (fun e => Bk.ne_ Hg10.out hcH2 (by decide) e))
          have HoC := Lib.hid (own_turn' HoC.out ht (fun e => by
            rcases own_ne HoC.out HoH.out (by decide) with h | h
            · rw [h] at e; cases e
            · exact h e.symm))
          have Hrw := Lib.hid hrw
          have Ho1 := Lib.hid (own_turn' Ho1.out ht (fun hc => by have := Hlt.out.1 gH hc.symm; omega))
          have Ho2 := Lib.hid (own_turn' Ho2.out ht (fun hc => by have := Hlt.out.2.1 gH hc.symm; omega))
          have Hls := Lib.hid (own_turn' Hls.out ht (fun hc => by have := Hlt.out.2.2 gH hc.symm; omega))
          have Hb11 := Lib.hid (ht.below Hb10.out (by omega))
          clear ht hox hxl hrw hcH2
          go_wp2_with fail
          obtain ⟨W11, rfl⟩ : ∃ x, x = wr := ⟨wr, rfl⟩
          clear q0
          go_loopw [19] (fun v wr => ∃ (i : Nat), i ≤ ls.length ∧ v = .int .i64 i ∧ Wi w6.heap.size W11 wr ∧ RW wr w6.heap.size ws.length vs) (fun v _ => ls.length - (intOf v).toNat)
          case atStart => exact ⟨0, by omega, rfl, Wi.refl _ _, Hrw.out⟩
          case round =>
            obtain ⟨i, hi, rfl, hw, hrw⟩ := hrel
            have hC := hw.bk HC11.out (.inr (by decide))
            have q0 : wr.cell? ⟨tc, 0, none⟩ = some (.slice DC ls.length mC) := hC.cell 0
            by_cases hli : i < ls.length
            · have Hw := Lib.hid hw
              have Hrw2 := Lib.hid hrw
              clear hC hw hrw
              go_wp2_with fail
              clear q0
              go_loopw [20] (fun v wr => ∃ (j : Nat), j ≤ ws.length ∧ v = .int .i64 j ∧ Wi w6.heap.size W11 wr ∧ RW wr w6.heap.size ws.length vs) (fun v _ => ws.length - (intOf v).toNat)
              case atStart => exact ⟨0, by omega, rfl, Hw.out, Hrw2.out⟩
              case round =>
                obtain ⟨j, hj, rfl, hw, hrw⟩ := hrel
                have hC := hw.bk HC11.out (.inr (by decide))
                have q0 : wr.cell? ⟨tc, 0, none⟩ = some (.slice DC ls.length mC) := hC.cell 0
                have hoc := hw.own HoC.out (.inr (by decide))
                have hsl : SL wr DC vs := SL.of_own hoc
                have hvl : vs.length = ls.length := by have := hoc.1; omega
                obtain ⟨bC, oC, hDC, _, hcC⟩ := hsl.at_ (k := i) (by omega)
                subst hDC
                obtain ⟨h, cs, hvi, hbh, hkh, hcs, hxs⟩ := hrw i vs[i] (List.getElem?_eq_getElem (by omega))
                rw [hvi] at hcC
                have i0 : (0 : Int) ≤ (i : Int) := by omega
                by_cases hlj : j < ws.length
                · obtain ⟨x, hx⟩ := hxs j (by omega)
                  have hcx : wr.cell? ⟨h, j, none⟩ = some (.int .i64 x) := by
                    have := hkh.cell j
                    rw [Array.getElem?_eq_getElem (by omega), hx] at this
                    exact this
                  have hfx := hkh.frozen j
                  have j0 : (0 : Int) ≤ (j : Int) := by omega
                  have HN := Lib.hid (And.intro (hw.set_ hkh hbh j (.int .i64 by_)) (hrw.set_ (g := h) (i := j) by_))
                  clear hC hoc hsl hkh hxs hw hrw hvi
                  go_wp2_with fail
                  go_roundw
                  case rel => exact ⟨j + 1, by omega, by go_num, HN.out.1, HN.out.2⟩
                  case measure => simp [intOf]; omega
                · obtain rfl : j = ws.length := by omega
                  have HN := Lib.hid (And.intro hw hrw)
                  clear hC hoc hsl hkh hxs hw hrw hvi
                  go_wp2_with fail
                  go_roundw
                  case rel => exact ⟨i + 1, by omega, by go_num, HN.out.1, HN.out.2⟩
                  case measure => simp [intOf]; omega
            · obtain rfl : i = ls.length := by omega
              have HK12 := Lib.hid (hw.kp HK11.out HFb.out)
              have Hg12 := Lib.hid (hw.bk Hg11.out (.inr (by decide)))
              have Ho1 := Lib.hid (hw.own Ho1.out (.inl fun g hg => by have := Hlt.out.1 g hg; omega))
              have Ho2 := Lib.hid (hw.own Ho2.out (.inl fun g hg => by have := Hlt.out.2.1 g hg; omega))
              have Hls := Lib.hid (hw.own Hls.out (.inl fun g hg => by have := Hlt.out.2.2 g hg; omega))
              have Hb12 := Lib.hid (hw.below Hb11.out (by omega))
              clear hw hrw hC HK11 HC11 HoC Hrw Hg11 Hb11 Hb10
              go_wp2_with fail
              refine (chain_any p F2 ls ws ns wk wr HK12.out).mono ?_
              rintro e w13 ⟨DD, mD, vs2, rfl, hown, hLL, hb13⟩
              have hbc := hb13.alloc hb13.size (.cells #[.slice DD ls.length mD] 40)
              have hz12 := Hbz.out _ Hb12.out
              have HoD := Lib.hid (hown.alloc (.cells #[.slice DD ls.length mD] 40))
              have HLD := Lib.hid (hLL.below ((Below.refl _ _).alloc (Nat.le_refl _) (.cells #[.slice DD ls.length mD] 40)))
              have HD13 := Lib.hid (Bk.new w13 40 #[.slice DD ls.length mD])
              have HK13 := Lib.hid (HK12.out.below hbc)
              have Ho1 := Lib.hid (own_below Ho1.out hbc)
              have Ho2 := Lib.hid (own_below Ho2.out hbc)
              have Hls := Lib.hid (own_below Hls.out hbc)
              have Hg13 := Lib.hid (Hg12.out.below hbc Hg12.out.lt)
              have Hb13 := Lib.hid (Hb12.out.trans (hbc.mono hz12))
              clear hown hLL hb13 hbc HK12 Hg12 Hb12
              have hq0 : (w13.alloc (.cells #[.slice DD ls.length mD] 40)).cell? ⟨tg, 0, none⟩ = some (.slice A1 ws.length c1) := Hg13.out.cell 0
              have hq1 : (w13.alloc (.cells #[.slice DD ls.length mD] 40)).cell? ⟨tg, 1, none⟩ = some (.slice A2 ns.length c2) := Hg13.out.cell 1
              go_wp2_with fail
              generalize w13.alloc (.cells #[.slice DD ls.length mD] 40) = W13 at *
              generalize w13.heap.size = tq at *
              clear hq0 hq1
              refine (own_any A1 A2 c1 c2 ws.length ns.length W13).mono ?_
              rintro e w14 ⟨rfl, hb14⟩
              have HoD := Lib.hid (own_below HoD.out hb14)
              have HLD := Lib.hid (HLD.out.below hb14)
              have HD14 := Lib.hid (HD13.out.below hb14 HD13.out.lt)
              have HK14 := Lib.hid (HK13.out.below hb14)
              have Ho1 := Lib.hid (own_below Ho1.out hb14)
              have Ho2 := Lib.hid (own_below Ho2.out hb14)
              have Hls := Lib.hid (own_below Hls.out hb14)
              have Hg14 := Lib.hid (Hg13.out.below hb14 Hg13.out.lt)
              have Hb14 := Lib.hid (Hb13.out.trans (hb14.mono (Hbz.out _ Hb13.out)))
              clear hb14 HD13 HK13 Hg13 Hb13
              go_wp2_with fail
              refine (set_any p F2 A1 A2 c1 c2 ls ws ws ns ns wk w14 HK14.out (HK14.out.siO Ho1.out) (HK14.out.stO Ho2.out) (by omega) (by omega) hwkb).mono ?_
              rintro e w15 ⟨_, hok⟩
              obtain ⟨he, hg, F3, hK, _⟩ := hok Hv.out
              rw [newsD_self] at he hK
              rw [show incD [] = 0 from rfl, Int.add_zero] at hK
              replace he : e = .returned (.tuple #[.int .i64 0, .int .i64 0]) := he
              subst he
              have HoD := Lib.hid (HK14.out.own HoD.out (by decide) hg)
              have HLD := Lib.hid (HK14.out.llb HLD.out hg)
              have HD15 := Lib.hid (HK14.out.bk HD14.out (by decide) hg)
              have HK15 := Lib.hid hK
              have Ho1 := Lib.hid (HK14.out.own Ho1.out (by decide) hg)
              have Ho2 := Lib.hid (HK14.out.own Ho2.out (by decide) hg)
              have Hls := Lib.hid (HK14.out.own Hls.out (by decide) hg)
              have Hg15 := Lib.hid (HK14.out.bk Hg14.out (by decide) hg)
              have Hb15 := Lib.hid (far_p Hb14.out (Hbz.out _ Hb14.out) hSp hg)
              clear hok hK hg HD14 HK14 Hg14 Hb14
              have hq0 : w15.cell? ⟨tg, 0, none⟩ = some (.slice A1 ws.length c1) := Hg15.out.cell 0
              have hq1 : w15.cell? ⟨tg, 1, none⟩ = some (.slice A2 ns.length c2) := Hg15.out.cell 1
              go_wp2_with fail
              clear hq0 hq1
              refine (own_any A1 A2 c1 c2 ws.length ns.length w15).mono ?_
              rintro e w16 ⟨rfl, hb16⟩
              have HoD := Lib.hid (own_below HoD.out hb16)
              have HLD := Lib.hid (HLD.out.below hb16)
              have HD16 := Lib.hid (HD15.out.below hb16 HD15.out.lt)
              have HK16 := Lib.hid (HK15.out.below hb16)
              have Ho1 := Lib.hid (own_below Ho1.out hb16)
              have Ho2 := Lib.hid (own_below Ho2.out hb16)
              have Hls := Lib.hid (own_below Hls.out hb16)
              have Hg16 := Lib.hid (Hg15.out.below hb16 Hg15.out.lt)
              have Hb16 := Lib.hid (Hb15.out.trans (hb16.mono (Hbz.out _ Hb15.out)))
              clear hb16 HD15 HK15 Hg15 Hb15
              go_wp2_with fail
              have hoE : ofE ws ns ls = 0 := by rw [ofE_eq, Hv.out, Hthr.out]; rfl
              have hoL : ofL ws ns ls = lists ws ns ls := by rw [ofL, if_pos hoE]
              have hw5 : ∀ l ∈ lists ws ns ls, l.length ≤ 1099511627776 := fun l hl => by rw [lists_lens2 l hl]; omega
              refine (of_any A1 A2 A3 c1 c2 c3 ws ns ls w16 (own_si Ho1.out) (SL.of_own Ho2.out) (own_si Hls.out) (by omega) (by omega) (by omega)).mono ?_
              rintro e w17 ⟨DW, mW, vs3, he, hown, hLL, hb17⟩
              rw [hoE, hoL, lists_len] at he
              rw [hoL, lists_len] at hown
              rw [hoL] at hLL
              subst he
              have hbn := (Below.refl w17.heap.size w17).alloc (Nat.le_refl _) (.cells #[.slice DW ls.length mW] 40)
              have hbc := hb17.alloc hb17.size (.cells #[.slice DW ls.length mW] 40)
              have HWs := Lib.hid ((SLL.of_rows hown hLL hw5).below hbn)
              have HDs := Lib.hid ((SLL.of_rows HoD.out HLD.out.ll hw5).below hbc)
              have HW17 := Lib.hid (Bk.new w17 40 #[.slice DW ls.length mW])
              have HD17 := Lib.hid (HD16.out.below hbc HD16.out.lt)
              have HK17 := Lib.hid (HK16.out.below hbc)
              have Ho1 := Lib.hid (own_below Ho1.out hbc)
              have Ho2 := Lib.hid (own_below Ho2.out hbc)
              have Hg17 := Lib.hid (Hg16.out.below hbc Hg16.out.lt)
              have Hb17 := Lib.hid (Hb16.out.trans (hbc.mono (Hbz.out _ Hb16.out)))
              clear hown hLL hb17 hbn hbc HD16 HK16 Hg16 Hb16
              go_wp2_with fail
              generalize w17.alloc (.cells #[.slice DW ls.length mW] 40) = W17 at *
              generalize w17.heap.size = tw at *
              have HB0 := Lib.hid ((Below.refl W17.heap.size W17).drew)
              have HSf := Lib.hid (fun (W : World) (hW : Below W17.heap.size W17 W) => show W.cell? ⟨tq, 0, none⟩ = some (.slice DD ls.length mD) ∧ W.cell? ⟨tw, 0, none⟩ = some (.slice DW ls.length mW) ∧ W.cell? ⟨tg, 0, none⟩ = some (.slice A1 ws.length c1) ∧ W.cell? ⟨tg, 1, none⟩ = some (.slice A2 ns.length c2) from ⟨(HD17.out.below hW HD17.out.lt).cell 0, (HW17.out.below hW HW17.out.lt).cell 0, (Hg17.out.below hW Hg17.out.lt).cell 0, (Hg17.out.below hW Hg17.out.lt).cell 1⟩)
              have Hsame := Lib.hid (fun (W : World) (hW : Below W17.heap.size W17 W) => show Calls Try.prog 16 #[.slice DD ls.length mD, .slice DW ls.length mW] W fun e w' => e = .returned (.bool true) ∧ Qt W w' from by
                have h := sameLists_any DD DW mD mW (lists ws ns ls) (lists ws ns ls) W (HDs.out.below hW) (HWs.out.below hW) (by rw [lists_len]; omega) (fun l hl => by rw [lists_lens2 l hl]; omega) (fun l hl => by rw [lists_lens2 l hl]; omega)
                rw [lists_len] at h
                exact h.mono fun e w' ⟨he, hq⟩ => ⟨by rw [he]; simp, hq⟩)
              clear hw5 hoE hoL
              refine wp_region_noPanic ?_
              refine region_H (S := fun W => W.cell? ⟨tq, 0, none⟩ = some (.slice DD ls.length mD) ∧ W.cell? ⟨tw, 0, none⟩ = some (.slice DW ls.length mW) ∧ W.cell? ⟨tg, 0, none⟩ = some (.slice A1 ws.length c1) ∧ W.cell? ⟨tg, 1, none⟩ = some (.slice A2 ns.length c2)) (by kernel_rfl) ?_
              change wpH _ _ _ _ 38 _ _ W17.drew
              refine H_takeD (k := 0) (v := .int .i64 0) (d := some 127) rfl rfl (by decide +kernel) (fun _ _ _ h => h) (Or.inl ⟨by rfl, fun W hW => by obtain ⟨s0, s1, s2, s3⟩ := hW; go_simp⟩) (HSf.out _ HB0.out) ?_
              try simp only [Act.put, List.setIfInBounds_toArray, List.set_cons_zero, List.set_cons_succ]
              refine H_takeD (k := 1) (v := .bool true) (d := some 128) rfl rfl (by decide +kernel) (fun _ _ _ h => h) (Or.inl ⟨by rfl, fun W hW => by obtain ⟨s0, s1, s2, s3⟩ := hW; go_simp⟩) (HSf.out _ HB0.out) ?_
              try simp only [Act.put, List.setIfInBounds_toArray, List.set_cons_zero, List.set_cons_succ]
              refine H_takeD (k := 2) (v := .bool true) (d := some 129) rfl rfl (by decide +kernel) (fun _ _ _ h => h) (Or.inl ⟨by rfl, fun W hW => by obtain ⟨s0, s1, s2, s3⟩ := hW; go_simp⟩) (HSf.out _ HB0.out) ?_
              try simp only [Act.put, List.setIfInBounds_toArray, List.set_cons_zero, List.set_cons_succ]
              refine H_takeD (k := 3) (v := .int .i64 0) (d := some 130) rfl rfl (by decide +kernel) (fun _ _ _ h => h) (Or.inl ⟨by simp [Region.wanted, yielded], fun W hW => by obtain ⟨s0, s1, s2, s3⟩ := hW; go_simp⟩) (HSf.out _ HB0.out) ?_
              try simp only [Act.put, List.setIfInBounds_toArray, List.set_cons_zero, List.set_cons_succ]
              refine H_takeD (k := 4) (v := .bool true) (d := some 131) rfl rfl (by decide +kernel) (fun _ _ _ h => h) (Or.inl ⟨by simp [Region.wanted, yielded], fun W hW => by obtain ⟨s0, s1, s2, s3⟩ := hW; go_simp⟩) (HSf.out _ HB0.out) ?_
              try simp only [Act.put, List.setIfInBounds_toArray, List.set_cons_zero, List.set_cons_succ]
              refine H_takeD (k := 5) (v := .bool true) (d := some 132) rfl rfl (by decide +kernel) (fun _ _ _ h => h) (Or.inl ⟨by rfl, fun W hW => by obtain ⟨s0, s1, s2, s3⟩ := hW; go_simp⟩) (HSf.out _ HB0.out) ?_
              try simp only [Act.put, List.setIfInBounds_toArray, List.set_cons_zero, List.set_cons_succ]
              refine H_takeD (k := 6) (v := .bool true) (d := some 133) rfl rfl (by decide +kernel) (fun _ _ _ h => h) (Or.inl ⟨by rfl, fun W hW => by obtain ⟨s0, s1, s2, s3⟩ := hW; go_simp⟩) (HSf.out _ HB0.out) ?_
              try simp only [Act.put, List.setIfInBounds_toArray, List.set_cons_zero, List.set_cons_succ]
              refine H_takeD (k := 7) (v := .int .i64 0) (d := some 134) rfl rfl (by decide +kernel) (fun _ _ _ h => h) (Or.inl ⟨by simp [Region.wanted, yielded], fun W hW => by obtain ⟨s0, s1, s2, s3⟩ := hW; go_simp⟩) (HSf.out _ HB0.out) ?_
              try simp only [Act.put, List.setIfInBounds_toArray, List.set_cons_zero, List.set_cons_succ]
              refine H_takeD (k := 8) (v := .bool true) (d := some 135) rfl rfl (by decide +kernel) (fun _ _ _ h => h) (Or.inl ⟨by simp [Region.wanted, yielded], fun W hW => by obtain ⟨s0, s1, s2, s3⟩ := hW; go_simp⟩) (HSf.out _ HB0.out) ?_
              try simp only [Act.put, List.setIfInBounds_toArray, List.set_cons_zero, List.set_cons_succ]
              refine H_takeD (k := 9) (v := .bool true) (d := some 136) rfl rfl (by decide +kernel) (fun _ _ _ h => h) (Or.inl ⟨by rfl, fun W hW => by obtain ⟨s0, s1, s2, s3⟩ := hW; go_simp⟩) (HSf.out _ HB0.out) ?_
              try simp only [Act.put, List.setIfInBounds_toArray, List.set_cons_zero, List.set_cons_succ]
              refine H_takeD (k := 10) (v := .bool true) (d := some 137) rfl rfl (by decide +kernel) (fun _ _ _ h => h) (Or.inl ⟨by rfl, fun W hW => by obtain ⟨s0, s1, s2, s3⟩ := hW; go_simp⟩) (HSf.out _ HB0.out) ?_
              try simp only [Act.put, List.setIfInBounds_toArray, List.set_cons_zero, List.set_cons_succ]
              refine H_takeD (k := 11) (v := .int .i64 0) (d := some 138) rfl rfl (by decide +kernel) (fun _ _ _ h => h) (Or.inl ⟨by simp [Region.wanted, yielded], fun W hW => by obtain ⟨s0, s1, s2, s3⟩ := hW; go_simp⟩) (HSf.out _ HB0.out) ?_
              try simp only [Act.put, List.setIfInBounds_toArray, List.set_cons_zero, List.set_cons_succ]
              refine H_takeD (k := 12) (v := .bool true) (d := some 139) rfl rfl (by decide +kernel) (fun _ _ _ h => h) (Or.inl ⟨by simp [Region.wanted, yielded], fun W hW => by obtain ⟨s0, s1, s2, s3⟩ := hW; go_simp⟩) (HSf.out _ HB0.out) ?_
              try simp only [Act.put, List.setIfInBounds_toArray, List.set_cons_zero, List.set_cons_succ]
              refine H_takeD (k := 13) (v := .bool true) (d := some 140) rfl rfl (by decide +kernel) (fun _ _ _ h => h) (Or.inl ⟨by rfl, fun W hW => by obtain ⟨s0, s1, s2, s3⟩ := hW; go_simp⟩) (HSf.out _ HB0.out) ?_
              try simp only [Act.put, List.setIfInBounds_toArray, List.set_cons_zero, List.set_cons_succ]
              refine H_takeD (k := 14) (v := .bool true) (d := some 141) rfl rfl (by decide +kernel) (fun _ _ _ h => h) (Or.inl ⟨by rfl, fun W hW => by obtain ⟨s0, s1, s2, s3⟩ := hW; go_simp⟩) (HSf.out _ HB0.out) ?_
              try simp only [Act.put, List.setIfInBounds_toArray, List.set_cons_zero, List.set_cons_succ]
              refine H_takeD (k := 15) (v := .pointer (some ⟨p, 0, none⟩)) (d := some 142) rfl rfl (by decide +kernel) (fun _ _ _ h => h) (Or.inl ⟨by simp [Region.wanted, yielded], fun W hW => by obtain ⟨s0, s1, s2, s3⟩ := hW; go_simp⟩) (HSf.out _ HB0.out) ?_
              try simp only [Act.put, List.setIfInBounds_toArray, List.set_cons_zero, List.set_cons_succ]
              refine H_takeD (k := 17) (v := .int .i64 wk) (d := some 144) rfl rfl (by decide +kernel) (fun _ _ _ h => h) (Or.inl ⟨by simp [Region.wanted, yielded], fun W hW => by obtain ⟨s0, s1, s2, s3⟩ := hW; go_simp⟩) (HSf.out _ HB0.out) ?_
              try simp only [Act.put, List.setIfInBounds_toArray, List.set_cons_zero, List.set_cons_succ]
              refine H_one (i := 16) (by decide +kernel) (H_stepg rfl (by simp [Region.wanted, yielded]) (fun K hK17 => ?_))
              have hK17 := Lib.hid hK17
              go_simp
              go_at_call 22
              refine (work_any p F3 ls ws ns wk _ (HK17.out.below HB0.out)).mono ?_
              rintro e wv1 ⟨rfl, hv1⟩
              have HB1 := Lib.hid (hv1.bl HB0.out)
              clear hv1
              refine hK17.out _ _ (HSf.out _ HB1.out) ?_
              try simp only [Act.put, List.setIfInBounds_toArray, List.set_cons_zero, List.set_cons_succ]
              refine H_takeD (k := 18) (v := .bool true) (d := some 145) rfl rfl (by decide +kernel) (fun _ _ _ h => h) (Or.inl ⟨by simp [Region.wanted, yielded], fun W hW => by obtain ⟨s0, s1, s2, s3⟩ := hW; go_simp⟩) (HSf.out _ HB1.out) ?_
              try simp only [Act.put, List.setIfInBounds_toArray, List.set_cons_zero, List.set_cons_succ]
              refine H_takeD (k := 19) (v := .bool true) (d := some 146) rfl rfl (by decide +kernel) (fun _ _ _ h => h) (Or.inl ⟨by rfl, fun W hW => by obtain ⟨s0, s1, s2, s3⟩ := hW; go_simp⟩) (HSf.out _ HB1.out) ?_
              try simp only [Act.put, List.setIfInBounds_toArray, List.set_cons_zero, List.set_cons_succ]
              refine H_takeD (k := 20) (v := .bool true) (d := some 147) rfl rfl (by decide +kernel) (fun _ _ _ h => h) (Or.inl ⟨by rfl, fun W hW => by obtain ⟨s0, s1, s2, s3⟩ := hW; go_simp⟩) (HSf.out _ HB1.out) ?_
              try simp only [Act.put, List.setIfInBounds_toArray, List.set_cons_zero, List.set_cons_succ]
              refine H_takeD (k := 21) (v := .pointer (some ⟨tq, 0, none⟩)) (d := some 148) rfl rfl (by decide +kernel) (fun _ _ _ h => h) (Or.inl ⟨by simp [Region.wanted, yielded], fun W hW => by obtain ⟨s0, s1, s2, s3⟩ := hW; go_simp⟩) (HSf.out _ HB1.out) ?_
              try simp only [Act.put, List.setIfInBounds_toArray, List.set_cons_zero, List.set_cons_succ]
              refine H_takeD (k := 22) (v := .slice DD ls.length mD) (d := some 149) rfl rfl (by decide +kernel) (fun _ _ _ h => h) (Or.inl ⟨by simp [Region.wanted, yielded], fun W hW => by obtain ⟨s0, s1, s2, s3⟩ := hW; go_simp⟩) (HSf.out _ HB1.out) ?_
              try simp only [Act.put, List.setIfInBounds_toArray, List.set_cons_zero, List.set_cons_succ]
              refine H_takeD (k := 23) (v := .pointer (some ⟨tw, 0, none⟩)) (d := some 150) rfl rfl (by decide +kernel) (fun _ _ _ h => h) (Or.inl ⟨by simp [Region.wanted, yielded], fun W hW => by obtain ⟨s0, s1, s2, s3⟩ := hW; go_simp⟩) (HSf.out _ HB1.out) ?_
              try simp only [Act.put, List.setIfInBounds_toArray, List.set_cons_zero, List.set_cons_succ]
              refine H_takeD (k := 24) (v := .slice DW ls.length mW) (d := some 151) rfl rfl (by decide +kernel) (fun _ _ _ h => h) (Or.inl ⟨by simp [Region.wanted, yielded], fun W hW => by obtain ⟨s0, s1, s2, s3⟩ := hW; go_simp⟩) (HSf.out _ HB1.out) ?_
              try simp only [Act.put, List.setIfInBounds_toArray, List.set_cons_zero, List.set_cons_succ]
              refine H_one (i := 25) (by decide +kernel) (H_stepg rfl (by simp [Region.wanted, yielded]) (fun K hK25 => ?_))
              have hK25 := Lib.hid hK25
              go_simp
              go_at_call 16
              refine (Hsame.out _ HB1.out).mono ?_
              rintro e wv2 ⟨rfl, hv2⟩
              have HB2 := Lib.hid (hv2.bl HB1.out)
              clear hv2
              refine hK25.out _ _ (HSf.out _ HB2.out) ?_
              try simp only [Act.put, List.setIfInBounds_toArray, List.set_cons_zero, List.set_cons_succ]
              refine H_takeD (k := 26) (v := .bool true) (d := some 153) rfl rfl (by decide +kernel) (fun _ _ _ h => h) (Or.inl ⟨by rfl, fun W hW => by obtain ⟨s0, s1, s2, s3⟩ := hW; go_simp⟩) (HSf.out _ HB2.out) ?_
              try simp only [Act.put, List.setIfInBounds_toArray, List.set_cons_zero, List.set_cons_succ]
              refine H_takeD (k := 27) (v := .bool true) (d := some 154) rfl rfl (by decide +kernel) (fun _ _ _ h => h) (Or.inl ⟨by rfl, fun W hW => by obtain ⟨s0, s1, s2, s3⟩ := hW; go_simp⟩) (HSf.out _ HB2.out) ?_
              try simp only [Act.put, List.setIfInBounds_toArray, List.set_cons_zero, List.set_cons_succ]
              refine H_takeD (k := 28) (v := .pointer (some ⟨p, 0, none⟩)) (d := some 155) rfl rfl (by decide +kernel) (fun _ _ _ h => h) (Or.inl ⟨by simp [Region.wanted, yielded], fun W hW => by obtain ⟨s0, s1, s2, s3⟩ := hW; go_simp⟩) (HSf.out _ HB2.out) ?_
              try simp only [Act.put, List.setIfInBounds_toArray, List.set_cons_zero, List.set_cons_succ]
              refine H_takeD (k := 31) (v := .agg #[.slice A1 ws.length c1, .slice A2 ns.length c2]) (d := some 158) rfl rfl (by decide +kernel) (fun _ _ _ h => h) (Or.inl ⟨by simp [Region.wanted, yielded], fun W hW => by obtain ⟨s0, s1, s2, s3⟩ := hW; go_simp⟩) (HSf.out _ HB2.out) ?_
              try simp only [Act.put, List.setIfInBounds_toArray, List.set_cons_zero, List.set_cons_succ]
              refine H_one (i := 29) (by decide +kernel) (H_stepg rfl (by simp [Region.wanted, yielded]) (fun K hK30 => ?_))
              have hK30 := Lib.hid hK30
              go_simp
              go_at_call 30
              refine (graph_any p F3 ls ws ns wk _ (HK17.out.below HB2.out)).mono ?_
              rintro e wv3 ⟨A6, a6, B6, b6, rfl, ho6, ho7, hv3⟩
              have HX6 := Lib.hid (own_si ho6)
              have HY6 := Lib.hid (SL.of_own ho7)
              clear ho6 ho7
              have HB3 := Lib.hid (HB2.out.trans (hv3.mono HB2.out.size))
              clear hv3
              refine hK30.out _ _ (HSf.out _ HB3.out) ?_
              try simp only [Act.put, List.setIfInBounds_toArray, List.set_cons_zero, List.set_cons_succ]
              refine H_one (i := 30) (by decide +kernel) (H_stepg rfl (by simp [Region.wanted, yielded]) (fun K hK31 => ?_))
              have hK31 := Lib.hid hK31
              go_simp
              go_at_call 29
              refine (plain_any A6 B6 a6 b6 ws.length ns.length _).mono ?_
              rintro e wv4 ⟨rfl, hv4⟩
              have HX6 := Lib.hid (HX6.out.below hv4)
              have HY6 := Lib.hid (HY6.out.below hv4)
              have HB4 := Lib.hid (HB3.out.trans (hv4.mono HB3.out.size))
              clear hv4
              refine hK31.out _ _ (HSf.out _ HB4.out) ?_
              try simp only [Act.put, List.setIfInBounds_toArray, List.set_cons_zero, List.set_cons_succ]
              refine H_one (i := 32) (by decide +kernel) (H_stepg rfl (by simp [Region.wanted, yielded]) (fun K hK32 => ?_))
              have hK32 := Lib.hid hK32
              go_simp
              go_at_call 28
              refine (same_any A6 B6 A1 A2 a6 b6 c1 c2 ws ns _ HX6.out HY6.out (own_si (own_below Ho1.out HB4.out)) (SL.of_own (own_below Ho2.out HB4.out)) (by omega) (by omega)).mono ?_
              rintro e wv5 ⟨rfl, hv5⟩
              have HB5 := Lib.hid (HB4.out.trans (hv5.mono HB4.out.size))
              clear hv5
              refine hK32.out _ _ (HSf.out _ HB5.out) ?_
              try simp only [Act.put, List.setIfInBounds_toArray, List.set_cons_zero, List.set_cons_succ]
              refine H_takeD (k := 33) (v := .bool true) (d := some 160) rfl rfl (by decide +kernel) (fun _ _ _ h => h) (Or.inl ⟨by rfl, fun W hW => by obtain ⟨s0, s1, s2, s3⟩ := hW; go_simp⟩) (HSf.out _ HB5.out) ?_
              try simp only [Act.put, List.setIfInBounds_toArray, List.set_cons_zero, List.set_cons_succ]
              refine H_takeD (k := 34) (v := .bool true) (d := some 161) rfl rfl (by decide +kernel) (fun _ _ _ h => h) (Or.inl ⟨by rfl, fun W hW => by obtain ⟨s0, s1, s2, s3⟩ := hW; go_simp⟩) (HSf.out _ HB5.out) ?_
              try simp only [Act.put, List.setIfInBounds_toArray, List.set_cons_zero, List.set_cons_succ]
              refine H_one (i := 35) (by decide +kernel) (H_stepg rfl (by simp [Region.wanted, yielded]) (fun K hK35 => ?_))
              have hK35 := Lib.hid hK35
              go_simp
              go_at_call 18
              refine (lives_any _).mono ?_
              rintro e wv6 ⟨rfl, hv6⟩
              have HB6 := Lib.hid (HB5.out.trans (hv6.mono HB5.out.size))
              clear hv6
              refine hK35.out _ _ (HSf.out _ HB6.out) ?_
              try simp only [Act.put, List.setIfInBounds_toArray, List.set_cons_zero, List.set_cons_succ]
              refine H_takeD (k := 36) (v := .bool true) (d := some 163) rfl rfl (by decide +kernel) (fun _ _ _ h => h) (Or.inl ⟨by rfl, fun W hW => by obtain ⟨s0, s1, s2, s3⟩ := hW; go_simp⟩) (HSf.out _ HB6.out) ?_
              try simp only [Act.put, List.setIfInBounds_toArray, List.set_cons_zero, List.set_cons_succ]
              refine H_takeD (k := 37) (v := .bool true) (d := some 6) rfl rfl (by decide +kernel) (fun _ _ _ h => h) (Or.inl ⟨by rfl, fun W hW => by obtain ⟨s0, s1, s2, s3⟩ := hW; go_simp⟩) (HSf.out _ HB6.out) ?_
              try simp only [Act.put, List.setIfInBounds_toArray, List.set_cons_zero, List.set_cons_succ]
              refine H_end (by decide +kernel) (NoPanic.normal ?_)
              try simp only [Act.put, List.setIfInBounds_toArray, List.set_cons_zero, List.set_cons_succ]
              go_wp2_with fail
              go_ret
              exact ⟨rfl, by rw [hSz.out]; exact Hb17.out.trans (HB6.out.mono (Hbz.out _ Hb17.out))⟩
end Go.Proofs.Ytmdgdphhedgojaa
