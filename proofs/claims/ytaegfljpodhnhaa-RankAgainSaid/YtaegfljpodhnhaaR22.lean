import Derived.Test.YtaegfljpodhnhaaR21
namespace Go.Proofs.Ytaegfljpodhnhaa
open Go.RowKit Go.Maps

def stE (ws : List Int) (ns : List (Int × Int × Int)) (ls : List Int) (s : Int) : Int := if ofE ws ns ls ≠ 0 then ofE ws ns ls else if s < 0 ∨ (ls.length : Int) ≤ s then 7 else 0
/-- The merges of a scale. -/
def steps (ws : List Int) (ns : List (Int × Int × Int)) (ls : List Int) (s : Nat) : List (Int × Int) := ((chain ws ns (alone ws.length) ls).getD s ([], [])).2
def stL (ws : List Int) (ns : List (Int × Int × Int)) (ls : List Int) (s : Int) : List (Int × Int) := if stE ws ns ls s = 0 then steps ws ns ls s.toNat else []

theorem chain_take (ws : List Int) (ns : List (Int × Int × Int)) : ∀ (ls of : List Int) (k : Nat), chain ws ns of (ls.take k) = (chain ws ns of ls).take k
  | [], _, k => by simp [chain]
  | n :: ls, of, 0 => by simp [chain]
  | n :: ls, of, k + 1 => by simp [chain, chain_take ws ns ls]

theorem SI.take {w : World} {A : Option Addr} {zs : List Int} (h : SI w A zs) (k : Nat) : SI w A (zs.take k) := fun j u hu => by
  refine h j u ?_
  rw [List.map_take] at hu
  obtain ⟨h1, h2⟩ := List.getElem?_eq_some_iff.1 hu
  rw [List.getElem_take] at h2
  rw [← h2]
  exact List.getElem?_eq_getElem _

theorem steps_at {ws : List Int} {ns : List (Int × Int × Int)} {ls : List Int} {k : Nat} (hk : k < ls.length) : ((chain ws ns (alone ws.length) (ls.take (k + 1))).map fun s => s.2)[k]? = some (steps ws ns ls k) := by
  rw [chain_take, List.getElem?_map, List.getElem?_take_of_lt (by omega)]
  have h := chain_len ws ns ls (alone ws.length)
  rw [steps, List.getD, List.getElem?_eq_getElem (by omega)]
  rfl

theorem pair_nil : pairC [] = [] := rfl

set_option maxHeartbeats 4000000 in
set_option maxRecDepth 100000 in
theorem steps_any (A B C : Option Addr) (c d f : Nat) (ws : List Int) (ns : List (Int × Int × Int)) (ls : List Int) (s : Int) (w : World) (hA : SI w A ws) (hB : ST w B ns) (hC : SI w C ls) (hl1 : ws.length ≤ 4611686018427387904) (hl2 : ns.length ≤ 4611686018427387904) (hl3 : ls.length ≤ 4611686018427387904) (hcap : ls.length ≤ f) :
    Calls Try.prog 19 #[.agg #[.slice A ws.length c, .slice B ns.length d], .slice C ls.length f, .int .i64 s] w fun e w' => ∃ D m, e = .returned (.tuple #[.slice D (stL ws ns ls s).length m, .int .i64 (stE ws ns ls s)]) ∧ w'.ownsRow 0 47 2 (.slice D (stL ws ns ls s).length m) (stL ws ns ls s).length (pairC (stL ws ns ls s)) ∧ Below w.heap.size w w' := by
  go_enter Try.func19, Try.ntmps19
  go_wp2_with fail
  have hb0 := (Below.refl w.heap.size w).alloc (Nat.le_refl _) (.cells #[.slice A ws.length c, .slice B ns.length d] 31)
  have hbk0 := Bk.new w 31 #[.slice A ws.length c, .slice B ns.length d]
  generalize w.alloc (.cells #[.slice A ws.length c, .slice B ns.length d] 31) = W0 at *
  have Hb0 := Lib.hid hb0
  have Hbk0 := Lib.hid hbk0
  clear hb0 hbk0
  refine (valid_any A B c d ws ns W0 (hA.below Hb0.out) (hB.below Hb0.out) hl1 hl2).mono ?_
  rintro e w1 ⟨rfl, hb1⟩
  have Hbk1 := Lib.hid (Hbk0.out.below hb1 Hbk0.out.lt)
  have Hb1 := Lib.hid (Hb0.out.trans (hb1.mono Hb0.out.size))
  clear hb1 Hbk0 Hb0
  go_wp2_with fail
  refine (thresholds_any C f ls w1 (hC.below Hb1.out) hl3).mono ?_
  rintro e w2 ⟨rfl, hq⟩
  have Hbk2 := Lib.hid (Hbk1.out.qt hq)
  have Hb2 := Lib.hid (hq.bl Hb1.out)
  have hE : Hid (ofE ws ns ls = orI [validE ws ns, thrE ls]) := rfl
  have hG : Hid (ofE ws ns ls = 0 → (ws.length ≤ 4096 ∧ ns.length ≤ 16384 ∧ W40 ws ∧ NOK ws.length ns) ∧ 1 ≤ ls.length ∧ ls.length ≤ 24) := fun h => ⟨validE_good (orI_two.1 h).1, thrE_good (orI_two.1 h).2⟩
  clear hq Hbk1 Hb1
  generalize validE ws ns = ve at *
  generalize thrE ls = te at *
  have hat := Bk.new w2 27 #[.int .i64 ve, .int .i64 te]
  have hsi : SI (w2.alloc (.cells #[.int .i64 ve, .int .i64 te] 27)) (some ⟨w2.heap.size, 0, none⟩) [ve, te] := si_pair (o := 0) (hat.cell 0) (hat.cell 1)
  have Hor := Lib.hid (orErr_any (some ⟨w2.heap.size, 0, none⟩) 2 [ve, te] _ hsi (by simp))
  have Hb3 := Lib.hid (Hb2.out.alloc Hb2.out.size (.cells #[.int .i64 ve, .int .i64 te] 27))
  have Hbk3 := Lib.hid (Hbk2.out.alloc (.cells #[.int .i64 ve, .int .i64 te] 27))
  clear hat hsi Hbk2 Hb2
  go_wp2_with fail
  refine Hor.out.mono ?_
  rintro e w' ⟨rfl, rfl⟩
  rw [← hE.out]
  clear Hor hE
  generalize w2.alloc (.cells #[.int .i64 ve, .int .i64 te] 27) = W3 at *
  by_cases hz : ofE ws ns ls = 0
  · by_cases hs : s < 0 ∨ (ls.length : Int) ≤ s
    · have hS : Hid (stE ws ns ls s = 7) := by show _ = _; rw [stE, if_neg (by simp [hz]), if_pos hs]
      have hL : Hid (stL ws ns ls s = []) := by show _ = _; rw [stL, if_neg (by rw [hS.out]; decide)]
      have hzb : (ofE ws ns ls != 0) = false := by simpa using hz
      clear hG hz
      obtain ⟨oe, hoe⟩ : ∃ oe, Hid (ofE ws ns ls = oe) := ⟨_, rfl⟩
      rw [hoe.out] at hzb
      rw [hoe.out]
      by_cases h1 : s < 0
      · go_wp2_with fail
        go_ret2
        exact ⟨none, 0, by rw [hL.out, hS.out]; rfl, by rw [hL.out]; exact World.ownsRow_nil _ _ _ _, Hb3.out⟩
      · have h2 : (ls.length : Int) ≤ s := by omega
        go_wp2_with fail
        go_ret2
        exact ⟨none, 0, by rw [hL.out, hS.out]; rfl, by rw [hL.out]; exact World.ownsRow_nil _ _ _ _, Hb3.out⟩
    · have hS : Hid (stE ws ns ls s = 0) := by show _ = _; rw [stE, if_neg (by simp [hz]), if_neg hs]
      obtain ⟨k, rfl⟩ := Int.eq_ofNat_of_zero_le (show 0 ≤ s by omega)
      have hL : Hid (stL ws ns ls k = steps ws ns ls k) := by show _ = _; rw [stL, if_pos hS.out]; rfl
      obtain ⟨⟨g1, g2, g3, g4⟩, g5, g6⟩ := hG.out hz
      have hkl : k < ls.length := by omega
      have hzb : (ofE ws ns ls != 0) = false := by simpa using hz
      have Hg := Lib.hid (And.intro g3 g4)
      clear hG hz g3 g4 hs
      obtain ⟨oe, hoe⟩ : ∃ oe, Hid (ofE ws ns ls = oe) := ⟨_, rfl⟩
      rw [hoe.out] at hzb
      rw [hoe.out]
      have htl : Hid ((ls.take (k + 1)).length = k + 1) := by show _ = _; simp; omega
      go_wp2_with fail
      have hq : Qt W3 W3.drew := ⟨1, rfl⟩
      have hc0 : W3.cell? ⟨w.heap.size, 0, none⟩ = some (.slice A ws.length c) := Hbk3.out.cell 0
      have hc1 : W3.cell? ⟨w.heap.size, 1, none⟩ = some (.slice B ns.length d) := Hbk3.out.cell 1
      have Hb4 := Lib.hid (hq.bl Hb3.out)
      have Hbk4 := Lib.hid (Hbk3.out.qt hq)
      have hbl := Hbk4.out.lt
      have hrun := run_any A B C c d f ws ns (ls.take (k + 1)) W3.drew (hA.below Hb4.out) (hB.below Hb4.out) ((hC.below Hb4.out).take _) Hg.out.1 g1 Hg.out.2 g2 (by rw [htl.out]; omega)
      rw [htl.out] at hrun
      have Hrun := Lib.hid hrun
      clear hrun hq
      have hwrap : IntKind.i64.wrap ((k : Int) + 1) = (k : Int) + 1 := IntWalk.i64_in _ (by omega)
      have hcap2 : (k : Int) + 1 ≤ f := by omega
      have i0 : (0 : Int) ≤ (k : Int) := by omega
      have i1 : (0 : Int) ≤ (k : Int) + 1 := by omega
      have hcap3 : k + 1 ≤ f := by omega
      go_region_held3 (fun w' => w'.cell? ⟨w.heap.size, 0, none⟩ = some (.slice A ws.length c) ∧ w'.cell? ⟨w.heap.size, 1, none⟩ = some (.slice B ns.length d)) (go_keep) ((go_at_call 46; refine Hrun.out.mono ?_; rintro e w4 ⟨v1, v2, vs1, vs2, rfl, _, hown2, _, hPL, hb4⟩; obtain ⟨D, m, rfl⟩ := own_slice hown2; have Hb4c := Hbk4.out.below hb4 hbl; have hc04 : w4.cell? ⟨w.heap.size, 0, none⟩ = some (.slice A ws.length c) := Hb4c.cell 0; have hc14 : w4.cell? ⟨w.heap.size, 1, none⟩ = some (.slice B ns.length d) := Hb4c.cell 1; clear Hb4c))
      all_goals
        obtain ⟨v, hv⟩ : ∃ v, vs2[k]? = some v := ⟨_, List.getElem?_eq_getElem (by rw [hPL.len]; simp [chain_len]; omega)⟩
        obtain ⟨B', c', rfl, hown3⟩ := hPL.el k v (steps ws ns ls k) hv (steps_at hkl)
        obtain ⟨b3, o3, rfl, _, hcv⟩ := SL.of_own hown2 k _ hv
        have Hown3 := Lib.hid hown3
        have Hb5 := Lib.hid (Hb4.out.trans (hb4.mono Hb4.out.size))
        clear hown3 hown2 hPL hb4 hv hc0 hc1 hc04 hc14
        obtain ⟨n3, hn3⟩ : ∃ n3, Hid ((steps ws ns ls k).length = n3) := ⟨_, rfl⟩
        rw [hn3.out] at hcv
        go_wp2_with fail
        go_ret2
        exact ⟨B', c', by rw [hL.out, hS.out, hn3.out]; rfl, by rw [hL.out]; exact Hown3.out, Hb5.out⟩
  · have hS : Hid (stE ws ns ls s = ofE ws ns ls) := by show _ = _; rw [stE, if_pos hz]
    have hL : Hid (stL ws ns ls s = []) := by show _ = _; rw [stL, if_neg (by rw [hS.out]; exact hz)]
    have hzb : (ofE ws ns ls != 0) = true := by simpa using hz
    clear hG hz
    obtain ⟨oe, hoe⟩ : ∃ oe, Hid (ofE ws ns ls = oe) := ⟨_, rfl⟩
    rw [hoe.out] at hzb
    rw [hoe.out]
    go_wp2_with fail
    go_ret2
    exact ⟨none, 0, by rw [hL.out, hS.out, hoe.out]; rfl, by rw [hL.out]; exact World.ownsRow_nil _ _ _ _, Hb3.out⟩
end Go.Proofs.Ytaegfljpodhnhaa
