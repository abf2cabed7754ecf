import Derived.Test.YtaegfljpodhnhaaR36
import Derived.Deep.RegionHeld3
namespace Go.Proofs.Ytaegfljpodhnhaa
open Go.RowKit Go.Maps

/-- Graph number i of the row in block g. -/
def GLk (w : World) (g i : Nat) (ws : List Int) (ns : List (Int × Int × Int)) : Prop :=
  ∃ A c B d, w.cell? ⟨g, i * 2, none⟩ = some (.slice A ws.length c) ∧ w.cell? ⟨g, i * 2 + 1, none⟩ = some (.slice B ns.length d) ∧ SI w A ws ∧ ST w B ns ∧ ws.length ≤ 4096 ∧ ns.length ≤ 16384
theorem GLk.below {w w' : World} {g i : Nat} {ws : List Int} {ns : List (Int × Int × Int)} (h : GLk w g i ws ns) (hb : Below w.heap.size w w') : GLk w' g i ws ns := by
  obtain ⟨A, c, B, d, h1, h2, h3, h4, h5, h6⟩ := h
  exact ⟨A, c, B, d, (hb.cell (World.block_lt_of_cell? _ _ h1)).trans h1, (hb.cell (World.block_lt_of_cell? _ _ h2)).trans h2, h3.below hb, h4.below hb, h5, h6⟩
def GLs (w : World) (g : Nat) (gs : Nat → List Int × List (Int × Int × Int)) : Prop := ∀ i, i < 3 → GLk w g i (gs i).1 (gs i).2
theorem GLs.below {w w' : World} {g : Nat} {gs : Nat → List Int × List (Int × Int × Int)} (h : GLs w g gs) (hb : Below w.heap.size w w') : GLs w' g gs := fun i hi => (h i hi).below hb

set_option linter.unusedSimpArgs false in
set_option maxHeartbeats 8000000 in
set_option maxRecDepth 100000 in
theorem graphs_any (A B : Option Addr) (c d : Nat) (l m : List Int) (at_ how by_ : Int) (w : World) (hA : SI w A l) (hB : SI w B m) (hwl : W64 l) (hwm : W64 m)
    (h1 : -9223372036854775808 ≤ at_ ∧ at_ ≤ 9223372036854775807) (h2 : -9223372036854775808 ≤ how ∧ how ≤ 9223372036854775807) (h3 : -9223372036854775808 ≤ by_ ∧ by_ ≤ 9223372036854775807) :
    Calls Try.prog 10 #[.slice A l.length c, .slice B m.length d, .int .i64 at_, .int .i64 how, .int .i64 by_] w fun e w' => ∃ g gs, e = .returned (.slice (some ⟨g, 0, none⟩) 3 3) ∧ GLs w' g gs ∧ Below w.heap.size w w' := by
  go_enter Try.func10, Try.ntmps10
  go_wp2_with fail
  refine (some_any A c l 14 w hA hwl (by omega) (by omega)).mono ?_
  rintro e w1 ⟨v1, v2, ws, ns, rfl, hown1, hown2, hG, hb1⟩
  obtain ⟨A1, c1, rfl⟩ := own_slice hown1
  obtain ⟨A2, c2, rfl⟩ := own_slice hown2
  have hx := (Below.refl w1.heap.size w1).alloc (Nat.le_refl _) (.cells #[.slice A1 ws.length c1, .slice A2 ns.length c2] 33)
  have Hbk := Lib.hid (Bk.new w1 33 #[.slice A1 ws.length c1, .slice A2 ns.length c2])
  have Hs1 := Lib.hid (SI.below (own_si hown1) hx)
  have Hs2 := Lib.hid (ST.below (SL.of_own hown2) hx)
  have Hbb := Lib.hid (hb1.trans (hx.mono hb1.size))
  clear hown1 hown2 hb1 hx
  go_upto_region 2 with fail
  generalize w1.alloc (.cells #[.slice A1 ws.length c1, .slice A2 ns.length c2] 33) = W at *
  generalize w1.heap.size = t at *
  have Hsp := Lib.hid (spoilt_any A1 A2 c1 c2 ws ns at_ how by_ W.drew Hs1.out.drew Hs2.out.drew hG.n1 hG.n2 hG.n3 h1 h2 h3)
  have Hsm := Lib.hid (fun W' (hb : Below w.heap.size w W') => some_any B d m 6 W' (hB.below hb) hwm (by omega) (by omega))
  have hc0 : W.cell? ⟨t, 0, none⟩ = some (.slice A1 ws.length c1) := Hbk.out.cell 0
  have hc1 : W.cell? ⟨t, 1, none⟩ = some (.slice A2 ns.length c2) := Hbk.out.cell 1
  go_region_held3 (fun W' => W'.cell? ⟨t, 0, none⟩ = some (.slice A1 ws.length c1) ∧ W'.cell? ⟨t, 1, none⟩ = some (.slice A2 ns.length c2)) (go_keep) (first
    | (go_at_call 40; refine Hsp.out.mono ?_; rintro e w4 ⟨S1, k1, S2, k2, ws', ns', rfl, hi4, ht4, hl4, hl5, hb4⟩
       have Hbk4 := Lib.hid ((show Bk W.drew t _ _ from Hbk.out).below hb4 Hbk.out.lt)
       have hc04 : w4.cell? ⟨t, 0, none⟩ = some (.slice A1 ws.length c1) := Hbk4.out.cell 0
       have hc14 : w4.cell? ⟨t, 1, none⟩ = some (.slice A2 ns.length c2) := Hbk4.out.cell 1
       have Hbw4 := Lib.hid (Hbb.out.drew.trans (hb4.mono Hbb.out.size))
       have Hb4 := Lib.hid hb4
       have Hi4 := Lib.hid hi4
       have Ht4 := Lib.hid ht4
       clear hb4 hi4 ht4)
    | (go_at_call 22; refine (Hsm.out _ Hbw4.out).mono ?_; rintro e w5 ⟨v5, v6, ws2, ns2, rfl, hown5, hown6, hG5, hb5⟩
       obtain ⟨A5, c5, rfl⟩ := own_slice hown5
       obtain ⟨A6, c6, rfl⟩ := own_slice hown6
       have Hbk5 := Lib.hid (Hbk4.out.below hb5 Hbk4.out.lt)
       have hc05 : w5.cell? ⟨t, 0, none⟩ = some (.slice A1 ws.length c1) := Hbk5.out.cell 0
       have hc15 : w5.cell? ⟨t, 1, none⟩ = some (.slice A2 ns.length c2) := Hbk5.out.cell 1
       have Hb5 := Lib.hid hb5
       have Hown5 := Lib.hid hown5
       have Hown6 := Lib.hid hown6
       clear hb5 hown5 hown6))
  all_goals
    go_wp2_with fail
    go_ret
    have n2 := hG.n2
    have n3 := hG.n3
    have n4 := hG5.n2
    have n5 := hG5.n3
    have hx := (Below.refl w5.heap.size w5).alloc (Nat.le_refl _) (.cells #[.slice A1 ws.length c1, .slice A2 ns.length c2, .slice S1 ws'.length k1, .slice S2 ns'.length k2, .slice A5 ws2.length c5, .slice A6 ns2.length c6] 33)
    have hn := Bk.new w5 33 #[.slice A1 ws.length c1, .slice A2 ns.length c2, .slice S1 ws'.length k1, .slice S2 ns'.length k2, .slice A5 ws2.length c5, .slice A6 ns2.length c6]
    have hb4x := Hb5.out.trans (hx.mono Hb5.out.size)
    have hbWx := Hb4.out.trans (hb4x.mono Hb4.out.size)
    refine ⟨_, fun i => if i = 0 then (ws, ns) else if i = 1 then (ws', ns') else (ws2, ns2), rfl, fun i hi => ?_, Hbw4.out.trans (hb4x.mono Hbw4.out.size)⟩
    rcases (by omega : i = 0 ∨ i = 1 ∨ i = 2) with rfl | rfl | rfl
    · exact ⟨A1, c1, A2, c2, hn.cell 0, hn.cell 1, SI.below (w := W.drew) Hs1.out.drew hbWx, ST.below (w := W.drew) Hs2.out.drew hbWx, by show ws.length ≤ _; omega, by show ns.length ≤ _; omega⟩
    · exact ⟨S1, k1, S2, k2, hn.cell 2, hn.cell 3, Hi4.out.below hb4x, Ht4.out.below hb4x, hl4, hl5⟩
    · exact ⟨A5, c5, A6, c6, hn.cell 4, hn.cell 5, SI.below (own_si Hown5.out) hx, ST.below (SL.of_own Hown6.out) hx, by show ws2.length ≤ _; omega, by show ns2.length ≤ _; omega⟩
end Go.Proofs.Ytaegfljpodhnhaa
