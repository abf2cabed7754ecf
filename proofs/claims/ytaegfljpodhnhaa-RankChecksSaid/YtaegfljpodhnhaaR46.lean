import Derived.Test.YtaegfljpodhnhaaR45
import Derived.Test.YtaegfljpodhnhaaR32
namespace Go.Proofs.Ytaegfljpodhnhaa
open Go.RowKit Go.Maps

set_option maxHeartbeats 4000000 in
set_option maxRecDepth 100000 in
theorem refCheck_bad1 (A B C D E : Option Addr) (c d f m q : Nat) (ws : List Int) (ns : List (Int × Int × Int)) (ls : List Int) (s : Int) (st : List (Int × Int)) (cs : List (List Int)) (w : World) (hA : SI w A ws) (hB : ST w B ns) (hl1 : ws.length ≤ 4611686018427387904) (hl2 : ns.length ≤ 4611686018427387904) (hz : validE ws ns ≠ 0) :
    Calls Try.prog 25 #[.agg #[.slice A ws.length c, .slice B ns.length d], .slice C ls.length f, .int .i64 s, .slice D st.length m, .slice E cs.length q] w fun e w' => e = .returned (.int .i64 (validE ws ns)) ∧ Below w.heap.size w w' := by
  have hzb : (validE ws ns != 0) = true := by simpa using hz
  clear hz
  go_enter Try.func25, Try.ntmps25
  go_wp2_with fail
  have hb0 := (Below.refl w.heap.size w).alloc (Nat.le_refl _) (.cells #[.slice A ws.length c, .slice B ns.length d] 33)
  have hbk0 := Bk.new w 33 #[.slice A ws.length c, .slice B ns.length d]
  generalize w.alloc (.cells #[.slice A ws.length c, .slice B ns.length d] 33) = W0 at *
  have Hb0 := Lib.hid hb0
  have Hbk0 := Lib.hid hbk0
  clear hb0 hbk0
  refine (refValid_any A B c d ws ns W0 (hA.below Hb0.out) (hB.below Hb0.out) hl1 hl2).mono ?_
  rintro e w1 ⟨rfl, hb1⟩
  have Hbk1 := Lib.hid (Hbk0.out.below hb1 Hbk0.out.lt)
  have Hb1 := Lib.hid (Hb0.out.trans (hb1.mono Hb0.out.size))
  clear hb1 Hbk0 Hb0
  obtain ⟨oe, hoe⟩ : ∃ oe, Hid (validE ws ns = oe) := ⟨_, rfl⟩
  rw [hoe.out] at hzb
  rw [hoe.out]
  go_wp2_with fail
  go_ret
  exact ⟨ret_int hoe.out.symm, Hb1.out⟩

set_option maxHeartbeats 4000000 in
set_option maxRecDepth 100000 in
theorem refCheck_bad2 (A B C D E : Option Addr) (c d f m q : Nat) (ws : List Int) (ns : List (Int × Int × Int)) (ls : List Int) (s : Int) (st : List (Int × Int)) (cs : List (List Int)) (w : World) (hA : SI w A ws) (hB : ST w B ns) (hC : SI w C ls) (hl1 : ws.length ≤ 4611686018427387904) (hl2 : ns.length ≤ 4611686018427387904) (hl3 : ls.length ≤ 4611686018427387904) (hv : validE ws ns = 0) (hz : thrE ls ≠ 0) :
    Calls Try.prog 25 #[.agg #[.slice A ws.length c, .slice B ns.length d], .slice C ls.length f, .int .i64 s, .slice D st.length m, .slice E cs.length q] w fun e w' => e = .returned (.int .i64 (thrE ls)) ∧ Below w.heap.size w w' := by
  have hzb : (thrE ls != 0) = true := by simpa using hz
  have Hv := Lib.hid hv
  clear hz hv
  go_enter Try.func25, Try.ntmps25
  go_wp2_with fail
  have hb0 := (Below.refl w.heap.size w).alloc (Nat.le_refl _) (.cells #[.slice A ws.length c, .slice B ns.length d] 33)
  have hbk0 := Bk.new w 33 #[.slice A ws.length c, .slice B ns.length d]
  generalize w.alloc (.cells #[.slice A ws.length c, .slice B ns.length d] 33) = W0 at *
  have Hb0 := Lib.hid hb0
  have Hbk0 := Lib.hid hbk0
  clear hb0 hbk0
  refine (refValid_any A B c d ws ns W0 (hA.below Hb0.out) (hB.below Hb0.out) hl1 hl2).mono ?_
  rintro e w1 ⟨rfl, hb1⟩
  have Hbk1 := Lib.hid (Hbk0.out.below hb1 Hbk0.out.lt)
  have Hb1 := Lib.hid (Hb0.out.trans (hb1.mono Hb0.out.size))
  clear hb1 Hbk0 Hb0
  rw [Hv.out]
  clear Hv
  go_wp2_with fail
  refine (refThr_any C f ls w1 (hC.below Hb1.out) hl3).mono ?_
  rintro e w' ⟨rfl, rfl⟩
  obtain ⟨oe, hoe⟩ : ∃ oe, Hid (thrE ls = oe) := ⟨_, rfl⟩
  rw [hoe.out] at hzb
  rw [hoe.out]
  go_wp2_with fail
  go_ret
  exact ⟨ret_int hoe.out.symm, Hb1.out⟩

set_option maxHeartbeats 4000000 in
set_option maxRecDepth 100000 in
theorem refCheck_out (A B C D E : Option Addr) (c d f m q : Nat) (ws : List Int) (ns : List (Int × Int × Int)) (ls : List Int) (s : Int) (st : List (Int × Int)) (cs : List (List Int)) (w : World) (hA : SI w A ws) (hB : ST w B ns) (hC : SI w C ls) (hl1 : ws.length ≤ 4611686018427387904) (hl2 : ns.length ≤ 4611686018427387904) (hl3 : ls.length ≤ 4611686018427387904) (hv : validE ws ns = 0) (ht : thrE ls = 0) (hs : s < 0 ∨ (ls.length : Int) ≤ s ∨ (cs.length : Int) ≤ s) :
    Calls Try.prog 25 #[.agg #[.slice A ws.length c, .slice B ns.length d], .slice C ls.length f, .int .i64 s, .slice D st.length m, .slice E cs.length q] w fun e w' => e = .returned (.int .i64 7) ∧ Below w.heap.size w w' := by
  have Hv := Lib.hid hv
  have Ht := Lib.hid ht
  clear hv ht
  go_enter Try.func25, Try.ntmps25
  go_wp2_with fail
  have hb0 := (Below.refl w.heap.size w).alloc (Nat.le_refl _) (.cells #[.slice A ws.length c, .slice B ns.length d] 33)
  have hbk0 := Bk.new w 33 #[.slice A ws.length c, .slice B ns.length d]
  generalize w.alloc (.cells #[.slice A ws.length c, .slice B ns.length d] 33) = W0 at *
  have Hb0 := Lib.hid hb0
  have Hbk0 := Lib.hid hbk0
  clear hb0 hbk0
  refine (refValid_any A B c d ws ns W0 (hA.below Hb0.out) (hB.below Hb0.out) hl1 hl2).mono ?_
  rintro e w1 ⟨rfl, hb1⟩
  have Hbk1 := Lib.hid (Hbk0.out.below hb1 Hbk0.out.lt)
  have Hb1 := Lib.hid (Hb0.out.trans (hb1.mono Hb0.out.size))
  clear hb1 Hbk0 Hb0
  rw [Hv.out]
  clear Hv
  go_wp2_with fail
  refine (refThr_any C f ls w1 (hC.below Hb1.out) hl3).mono ?_
  rintro e w' ⟨rfl, rfl⟩
  rw [Ht.out]
  clear Ht
  by_cases h1 : s < 0
  · go_wp2_with fail
    go_ret
    exact ⟨rfl, Hb1.out⟩
  · by_cases h2 : (ls.length : Int) ≤ s
    · go_wp2_with fail
      go_ret
      exact ⟨rfl, Hb1.out⟩
    · have h3 : (cs.length : Int) ≤ s := by omega
      go_wp2_with fail
      go_ret
      exact ⟨rfl, Hb1.out⟩
end Go.Proofs.Ytaegfljpodhnhaa
