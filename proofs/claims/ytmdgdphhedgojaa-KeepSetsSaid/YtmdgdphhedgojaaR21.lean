import Derived.Test.YtmdgdphhedgojaaR20
namespace Go.Proofs.Ytmdgdphhedgojaa
open Go.RowKit Go.Maps

/-- The error of a graph and thresholds. -/
def ofE (ws : List Int) (ns : List (Int × Int × Int)) (ls : List Int) : Int := orI [validE ws ns, thrE ls]
/-- The lists of all scales. -/
def lists (ws : List Int) (ns : List (Int × Int × Int)) (ls : List Int) : List (List Int) := (chain ws ns (alone ws.length) ls).map fun s => ix s.1
def ofL (ws : List Int) (ns : List (Int × Int × Int)) (ls : List Int) : List (List Int) := if ofE ws ns ls = 0 then lists ws ns ls else []

theorem orI_two {a b : Int} : orI [a, b] = 0 ↔ a = 0 ∧ b = 0 := by
  by_cases h : a = 0 <;> by_cases h' : b = 0 <;> simp [orI, h, h']

theorem thrE_good {ls : List Int} (h : thrE ls = 0) : 1 ≤ ls.length ∧ ls.length ≤ 24 := by
  unfold thrE at h
  split at h
  · cases h
  · rename_i hb
    simp only [thrB, Bool.or_eq_true, decide_eq_true_eq, not_or] at hb
    omega

theorem LL.set_ {w : World} {vs : List Value} {ls : List (List Int)} (h : LL w vs ls) {k : Nat} {t : TypeId} {cs : Array Value} (hk : Bk w k t cs) (he : t ≠ 3) (i : Nat) (u : Value) : LL (w.setCell ⟨k, i, none⟩ u) vs ls := ⟨h.len, fun j v l hv hl => by
  obtain ⟨g, e, hg⟩ := h.el j v l hv hl
  exact ⟨g, e, hg.far (Ne.symm (Bk.ne_ hk hg he)) u⟩⟩

theorem lists_len (ws : List Int) (ns : List (Int × Int × Int)) (ls : List Int) : (lists ws ns ls).length = ls.length := by simp [lists, chain_len]

set_option maxHeartbeats 4000000 in
set_option maxRecDepth 100000 in
theorem of_any (A B C : Option Addr) (c d f : Nat) (ws : List Int) (ns : List (Int × Int × Int)) (ls : List Int) (w : World) (hA : SI w A ws) (hB : ST w B ns) (hC : SI w C ls) (hl1 : ws.length ≤ 4611686018427387904) (hl2 : ns.length ≤ 4611686018427387904) (hl3 : ls.length ≤ 4611686018427387904) :
    Calls Try.prog 15 #[.agg #[.slice A ws.length c, .slice B ns.length d], .slice C ls.length f] w fun e w' => ∃ D m vs, e = .returned (.tuple #[.agg #[.slice D (ofL ws ns ls).length m], .int .i64 (ofE ws ns ls)]) ∧ w'.ownsRow w.heap.size 22 1 (.slice D (ofL ws ns ls).length m) (ofL ws ns ls).length vs ∧ LL w' vs (ofL ws ns ls) ∧ Below w.heap.size w w' := by
  go_enter Try.func15, Try.ntmps15
  go_wp2_with fail
  have hb0 := ((Below.refl w.heap.size w).alloc (Nat.le_refl _) (.cells #[.slice A ws.length c, .slice B ns.length d] 36)).alloc (by simp) (.cells #[.slice none 0 0] 40)
  have hbk0 := (Bk.new w 36 #[.slice A ws.length c, .slice B ns.length d]).alloc (.cells #[.slice none 0 0] 40)
  have hbc0 := Bk.new' (w.alloc (.cells #[.slice A ws.length c, .slice B ns.length d] 36)) 40 #[.slice none 0 0] (g := w.heap.size + 1) (by simp)
  generalize (w.alloc (.cells #[.slice A ws.length c, .slice B ns.length d] 36)).alloc (.cells #[.slice none 0 0] 40) = W0 at *
  have Hb0 := Lib.hid hb0
  have Hbk0 := Lib.hid hbk0
  have Hbc0 := Lib.hid hbc0
  clear hb0 hbk0 hbc0
  refine (valid_any A B c d ws ns W0 (hA.below Hb0.out) (hB.below Hb0.out) hl1 hl2).mono ?_
  rintro e w1 ⟨rfl, hb1⟩
  have Hbk1 := Lib.hid (Hbk0.out.below hb1 Hbk0.out.lt)
  have Hbc1 := Lib.hid (Hbc0.out.below hb1 Hbc0.out.lt)
  have Hb1 := Lib.hid (Hb0.out.trans (hb1.mono Hb0.out.size))
  clear hb1 Hbk0 Hbc0 Hb0
  go_wp2_with fail
  refine (thresholds_any C f ls w1 (hC.below Hb1.out) hl3).mono ?_
  rintro e w2 ⟨rfl, hq⟩
  have Hbk2 := Lib.hid (Hbk1.out.qt hq)
  have Hbc2 := Lib.hid (Hbc1.out.qt hq)
  have Hb2 := Lib.hid (hq.bl Hb1.out)
  have hE : Hid (ofE ws ns ls = orI [validE ws ns, thrE ls]) := rfl
  have hG : Hid (ofE ws ns ls = 0 → (ws.length ≤ 4096 ∧ ns.length ≤ 16384 ∧ W40 ws ∧ NOK ws.length ns) ∧ 1 ≤ ls.length ∧ ls.length ≤ 24) := fun h => ⟨validE_good (orI_two.1 h).1, thrE_good (orI_two.1 h).2⟩
  clear hq Hbk1 Hbc1 Hb1
  generalize validE ws ns = ve at *
  generalize thrE ls = te at *
  have hat := Bk.new w2 25 #[.int .i64 ve, .int .i64 te]
  have hsi : SI (w2.alloc (.cells #[.int .i64 ve, .int .i64 te] 25)) (some ⟨w2.heap.size, 0, none⟩) [ve, te] := si_pair (o := 0) (hat.cell 0) (hat.cell 1)
  have Hor := Lib.hid (orErr_any (some ⟨w2.heap.size, 0, none⟩) 2 [ve, te] _ hsi (by simp))
  have Hb3 := Lib.hid (Hb2.out.alloc Hb2.out.size (.cells #[.int .i64 ve, .int .i64 te] 25))
  have Hbk3 := Lib.hid (Hbk2.out.alloc (.cells #[.int .i64 ve, .int .i64 te] 25))
  have Hbc3 := Lib.hid (Hbc2.out.alloc (.cells #[.int .i64 ve, .int .i64 te] 25))
  clear hat hsi Hbk2 Hbc2 Hb2
  go_wp2_with fail
  refine Hor.out.mono ?_
  rintro e w' ⟨rfl, rfl⟩
  rw [← hE.out]
  clear Hor hE
  generalize w2.alloc (.cells #[.int .i64 ve, .int .i64 te] 25) = W3 at *
  have hce : W3.cell? ⟨w.heap.size + 1, 0, none⟩ = some (.slice none 0 0) := Hbc3.out.cell 0
  have hfr := Hbc3.out.frozen 0
  by_cases hz : ofE ws ns ls = 0
  · obtain ⟨⟨g1, g2, g3, g4⟩, g5, g6⟩ := hG.out hz
    have hL : Hid (ofL ws ns ls = lists ws ns ls) := by show _ = _; rw [ofL, if_pos hz]
    have hL2 : Hid ((ofL ws ns ls).length = ls.length) := by show _ = _; rw [hL.out, lists_len]
    have hzb : (ofE ws ns ls != 0) = false := by simpa using hz
    have Hz := Lib.hid hz
    have Hg := Lib.hid (And.intro g3 g4)
    clear hz hG g3 g4
    obtain ⟨oe, hoe⟩ : ∃ oe, Hid (ofE ws ns ls = oe) := ⟨_, rfl⟩
    rw [hoe.out] at hzb
    rw [hoe.out]
    have hc0 : W3.cell? ⟨w.heap.size, 0, none⟩ = some (.slice A ws.length c) := Hbk3.out.cell 0
    have hc1 : W3.cell? ⟨w.heap.size, 1, none⟩ = some (.slice B ns.length d) := Hbk3.out.cell 1
    go_wp2_with fail
    refine (run_any A B C c d f ws ns ls W3 (hA.below Hb3.out) (hB.below Hb3.out) (hC.below Hb3.out) Hg.out.1 g1 Hg.out.2 g2 g6).mono ?_
    rintro e w4 ⟨v1, v2, vs1, vs2, rfl, hown1, _, hLL, _, hb4⟩
    obtain ⟨D, m, rfl⟩ := own_slice hown1
    have hbc4 := Hbc3.out.below hb4 Hbc3.out.lt
    have hce4 : w4.cell? ⟨w.heap.size + 1, 0, none⟩ = some (.slice none 0 0) := hbc4.cell 0
    have hfr4 := hbc4.frozen 0
    have hz0 := (hbc4.set_ 0 (.slice D ls.length m)).cell 0
    have hl3s := Hbc3.out.lt
    have hne : some (w.heap.size + 1) ≠ (Value.slice D ls.length m).ownBlock := fun h => by
      have := (hown1.lt _ h.symm).1
      omega
    have hb5 := (Hb3.out.trans (hb4.mono Hb3.out.size)).setCell (p := ⟨w.heap.size + 1, 0, none⟩) (by show w.heap.size ≤ w.heap.size + 1; omega) (.slice D ls.length m)
    have Hb5 := Lib.hid hb5
    have Hown := Lib.hid (own_mono (own_set (i := 0) hown1 hne (.slice D ls.length m)) Hb3.out.size)
    have HLL := Lib.hid (hLL.set_ hbc4 (by decide) 0 (.slice D ls.length m))
    clear hc0 hc1 hce hfr hbc4 hb4 hb5 hown1 hLL
    go_wp2_with fail
    refine bodyPost_ret (v := .tuple #[.agg #[.slice D ls.length m], .int .i64 0]) (by simp [results, Try.results15, go_sem, hz0]) rfl ⟨D, m, vs1, by rw [hL2.out, Hz.out], by rw [hL2.out]; exact Hown.out, by rw [hL.out]; exact HLL.out, Hb5.out⟩
  · have hL : Hid (ofL ws ns ls = []) := by show _ = _; rw [ofL, if_neg hz]
    have hzb : (ofE ws ns ls != 0) = true := by simpa using hz
    have hz0 := (Hbc3.out.set_ 0 (.slice none 0 0)).cell 0
    have Hb5 := Lib.hid (Hb3.out.setCell (p := ⟨w.heap.size + 1, 0, none⟩) (by show w.heap.size ≤ w.heap.size + 1; omega) (.slice none 0 0))
    clear hG hz
    obtain ⟨oe, hoe⟩ : ∃ oe, Hid (ofE ws ns ls = oe) := ⟨_, rfl⟩
    rw [hoe.out] at hzb
    rw [hoe.out]
    go_wp2_with fail
    refine bodyPost_ret (v := .tuple #[.agg #[.slice none 0 0], .int .i64 oe]) (by simp [results, Try.results15, go_sem, hz0]) rfl ⟨none, 0, [], by rw [hL.out, hoe.out]; rfl, by rw [hL.out]; exact World.ownsRow_nil _ _ _ _, by rw [hL.out]; exact LL.nil _, Hb5.out⟩
end Go.Proofs.Ytmdgdphhedgojaa
