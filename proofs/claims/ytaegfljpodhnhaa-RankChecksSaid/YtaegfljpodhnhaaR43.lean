import Derived.Test.YtaegfljpodhnhaaR42
namespace Go.Proofs.Ytaegfljpodhnhaa
open Go.RowKit Go.Maps

set_option maxHeartbeats 4000000 in
set_option maxRecDepth 100000 in
theorem check_bad (A B C D E : Option Addr) (c d f m q : Nat) (ws : List Int) (ns : List (Int × Int × Int)) (ls : List Int) (s : Int) (st : List (Int × Int)) (cs : List (List Int)) (w : World) (hA : SI w A ws) (hB : ST w B ns) (hC : SI w C ls) (hl1 : ws.length ≤ 4611686018427387904) (hl2 : ns.length ≤ 4611686018427387904) (hl3 : ls.length ≤ 4611686018427387904) (hz : ofE ws ns ls ≠ 0) :
    Calls Try.prog 24 #[.agg #[.slice A ws.length c, .slice B ns.length d], .slice C ls.length f, .int .i64 s, .slice D st.length m, .agg #[.slice E cs.length q]] w fun e w' => e = .returned (.int .i64 (ofE ws ns ls)) ∧ Below w.heap.size w w' := by
  have hzb : (ofE ws ns ls != 0) = true := by simpa using hz
  clear hz
  go_enter Try.func24, Try.ntmps24
  go_wp2_with fail
  have hb0 := ((Below.refl w.heap.size w).alloc (Nat.le_refl _) (.cells #[.slice A ws.length c, .slice B ns.length d] 31)).alloc (by simp) (.cells #[.slice E cs.length q] 36)
  have hbk0 := (Bk.new w 31 #[.slice A ws.length c, .slice B ns.length d]).alloc (.cells #[.slice E cs.length q] 36)
  have hbc0 := Bk.new' (w.alloc (.cells #[.slice A ws.length c, .slice B ns.length d] 31)) 36 #[.slice E cs.length q] (g := w.heap.size + 1) (by simp)
  generalize (w.alloc (.cells #[.slice A ws.length c, .slice B ns.length d] 31)).alloc (.cells #[.slice E cs.length q] 36) = W0 at *
  have Hb0 := Lib.hid hb0
  have Hbk0 := Lib.hid hbk0
  have Hbc0 := Lib.hid hbc0
  clear hb0 hbk0 hbc0
  refine (valid_any A B c d ws ns W0 (hA.below Hb0.out) (hB.below Hb0.out) hl1 hl2).mono ?_
  rintro e w1 ⟨rfl, hb1⟩
  have Hbk1 := Lib.hid (Hbk0.out.below hb1 Hbk0.out.lt)
  have Hbc1 := Lib.hid (Hbc0.out.below hb1 Hbc0.out.lt)
  have Hb1 := Lib.hid (Hb0.out.trans (hb1.mono Hb0.out.size))
  clear hb1 Hbk0 Hb0 Hbc0
  go_wp2_with fail
  refine (thresholds_any C f ls w1 (hC.below Hb1.out) hl3).mono ?_
  rintro e w2 ⟨rfl, hq⟩
  have Hbk2 := Lib.hid (Hbk1.out.qt hq)
  have Hbc2 := Lib.hid (Hbc1.out.qt hq)
  have Hb2 := Lib.hid (hq.bl Hb1.out)
  have hE : Hid (ofE ws ns ls = orI [validE ws ns, thrE ls]) := rfl
  clear hq Hbk1 Hb1 Hbc1
  generalize validE ws ns = ve at *
  generalize thrE ls = te at *
  have hat := Bk.new w2 27 #[.int .i64 ve, .int .i64 te]
  have hsi : SI (w2.alloc (.cells #[.int .i64 ve, .int .i64 te] 27)) (some ⟨w2.heap.size, 0, none⟩) [ve, te] := si_pair (o := 0) (hat.cell 0) (hat.cell 1)
  have Hor := Lib.hid (orErr_any (some ⟨w2.heap.size, 0, none⟩) 2 [ve, te] _ hsi (by simp))
  have Hb3 := Lib.hid (Hb2.out.alloc Hb2.out.size (.cells #[.int .i64 ve, .int .i64 te] 27))
  have Hbk3 := Lib.hid (Hbk2.out.alloc (.cells #[.int .i64 ve, .int .i64 te] 27))
  have Hbc3 := Lib.hid (Hbc2.out.alloc (.cells #[.int .i64 ve, .int .i64 te] 27))
  clear hat hsi Hbk2 Hb2 Hbc2
  go_wp2_with fail
  refine Hor.out.mono ?_
  rintro e w' ⟨rfl, rfl⟩
  rw [← hE.out]
  clear Hor hE
  generalize w2.alloc (.cells #[.int .i64 ve, .int .i64 te] 27) = W3 at *
  obtain ⟨oe, hoe⟩ : ∃ oe, Hid (ofE ws ns ls = oe) := ⟨_, rfl⟩
  rw [hoe.out] at hzb
  rw [hoe.out]
  go_wp2_with fail
  go_ret
  exact ⟨ret_int hoe.out.symm, Hb3.out⟩

set_option maxHeartbeats 4000000 in
set_option maxRecDepth 100000 in
theorem check_out (A B C D E : Option Addr) (c d f m q : Nat) (ws : List Int) (ns : List (Int × Int × Int)) (ls : List Int) (s : Int) (st : List (Int × Int)) (cs : List (List Int)) (w : World) (hA : SI w A ws) (hB : ST w B ns) (hC : SI w C ls) (hl1 : ws.length ≤ 4611686018427387904) (hl2 : ns.length ≤ 4611686018427387904) (hl3 : ls.length ≤ 4611686018427387904) (hz : ofE ws ns ls = 0) (hs : s < 0 ∨ (ls.length : Int) ≤ s ∨ (cs.length : Int) ≤ s) :
    Calls Try.prog 24 #[.agg #[.slice A ws.length c, .slice B ns.length d], .slice C ls.length f, .int .i64 s, .slice D st.length m, .agg #[.slice E cs.length q]] w fun e w' => e = .returned (.int .i64 7) ∧ Below w.heap.size w w' := by
  have Hz := Lib.hid hz
  clear hz
  go_enter Try.func24, Try.ntmps24
  go_wp2_with fail
  have hb0 := ((Below.refl w.heap.size w).alloc (Nat.le_refl _) (.cells #[.slice A ws.length c, .slice B ns.length d] 31)).alloc (by simp) (.cells #[.slice E cs.length q] 36)
  have hbk0 := (Bk.new w 31 #[.slice A ws.length c, .slice B ns.length d]).alloc (.cells #[.slice E cs.length q] 36)
  have hbc0 := Bk.new' (w.alloc (.cells #[.slice A ws.length c, .slice B ns.length d] 31)) 36 #[.slice E cs.length q] (g := w.heap.size + 1) (by simp)
  generalize (w.alloc (.cells #[.slice A ws.length c, .slice B ns.length d] 31)).alloc (.cells #[.slice E cs.length q] 36) = W0 at *
  have Hb0 := Lib.hid hb0
  have Hbk0 := Lib.hid hbk0
  have Hbc0 := Lib.hid hbc0
  clear hb0 hbk0 hbc0
  refine (valid_any A B c d ws ns W0 (hA.below Hb0.out) (hB.below Hb0.out) hl1 hl2).mono ?_
  rintro e w1 ⟨rfl, hb1⟩
  have Hbk1 := Lib.hid (Hbk0.out.below hb1 Hbk0.out.lt)
  have Hbc1 := Lib.hid (Hbc0.out.below hb1 Hbc0.out.lt)
  have Hb1 := Lib.hid (Hb0.out.trans (hb1.mono Hb0.out.size))
  clear hb1 Hbk0 Hb0 Hbc0
  go_wp2_with fail
  refine (thresholds_any C f ls w1 (hC.below Hb1.out) hl3).mono ?_
  rintro e w2 ⟨rfl, hq⟩
  have Hbk2 := Lib.hid (Hbk1.out.qt hq)
  have Hbc2 := Lib.hid (Hbc1.out.qt hq)
  have Hb2 := Lib.hid (hq.bl Hb1.out)
  have hE : Hid (ofE ws ns ls = orI [validE ws ns, thrE ls]) := rfl
  clear hq Hbk1 Hb1 Hbc1
  generalize validE ws ns = ve at *
  generalize thrE ls = te at *
  have hat := Bk.new w2 27 #[.int .i64 ve, .int .i64 te]
  have hsi : SI (w2.alloc (.cells #[.int .i64 ve, .int .i64 te] 27)) (some ⟨w2.heap.size, 0, none⟩) [ve, te] := si_pair (o := 0) (hat.cell 0) (hat.cell 1)
  have Hor := Lib.hid (orErr_any (some ⟨w2.heap.size, 0, none⟩) 2 [ve, te] _ hsi (by simp))
  have Hb3 := Lib.hid (Hb2.out.alloc Hb2.out.size (.cells #[.int .i64 ve, .int .i64 te] 27))
  have Hbk3 := Lib.hid (Hbk2.out.alloc (.cells #[.int .i64 ve, .int .i64 te] 27))
  have Hbc3 := Lib.hid (Hbc2.out.alloc (.cells #[.int .i64 ve, .int .i64 te] 27))
  clear hat hsi Hbk2 Hb2 Hbc2
  go_wp2_with fail
  refine Hor.out.mono ?_
  rintro e w' ⟨rfl, rfl⟩
  rw [← hE.out]
  clear Hor hE
  generalize w2.alloc (.cells #[.int .i64 ve, .int .i64 te] 27) = W3 at *
  rw [Hz.out]
  clear Hz
  have hcc : W3.cell? ⟨w.heap.size + 1, 0, none⟩ = some (.slice E cs.length q) := Hbc3.out.cell 0
  by_cases h1 : s < 0
  · go_wp2_with fail
    go_ret
    exact ⟨rfl, Hb3.out⟩
  · by_cases h2 : (ls.length : Int) ≤ s
    · go_wp2_with fail
      go_ret
      exact ⟨rfl, Hb3.out⟩
    · have h3 : (cs.length : Int) ≤ s := by omega
      go_wp2_with fail
      go_ret
      exact ⟨rfl, Hb3.out⟩
end Go.Proofs.Ytaegfljpodhnhaa
