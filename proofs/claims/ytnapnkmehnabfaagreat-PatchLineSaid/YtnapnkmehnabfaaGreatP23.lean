import Derived.Test.YtnapnkmehnabfaaGreatP22
namespace Go.Proofs.YtnapnkmehnabfaaGreat
open Go.RowKit Go.Maps

set_option linter.unusedSimpArgs false in
set_option maxHeartbeats 4000000 in
set_option maxRecDepth 100000 in
theorem eachPl_any (S : Nat) (p : Pa) (a : Pw) (C : Option Addr) (c : Nat) (cl : List Plc) (w : World) (hk : Bk w S 34 (paC p a)) (hC : SPl w C cl) (hN : ∀ q ∈ cl, q.nm.size ≤ 1099511627776) (hl : cl.length ≤ 1099511627776) :
    Calls Tryz.prog 126 #[.slice C cl.length c, .func (.func 127) #[] #[.pointer (some ⟨S, 0, none⟩)]] w fun e w' => e = .returned (.int .i64 (eachE (plW p.office cl) cl.length)) ∧ Below w.heap.size w w' := by
  obtain ⟨R, hR⟩ : ∃ z, Hid (eachE (plW p.office cl) cl.length = z) := ⟨_, Lib.hid rfl⟩
  rw [hR.out]
  have HC := Lib.hid (fun (W : World) (hW : Below w.heap.size w W) => (show SPl W C cl from hC.below hW))
  have HSf := Lib.hid (fun (W : World) (hW : Below w.heap.size w W) => hk.below hW hk.lt)
  have HN := Lib.hid hN
  clear hk hC hN
  go_enter Tryz.func126, Tryz.ntmps126
  go_wp2_with fail
  go_loopw [10] (fun v wr => ∃ k : Nat, k ≤ cl.length ∧ v = .int .i64 k ∧ Hid (orE (((List.range cl.length).map (plW p.office cl)).drop k) = R) ∧ Below w.heap.size w wr) (fun v _ => cl.length - (intOf v).toNat)
  case atStart => exact ⟨0, by omega, rfl, Lib.hid (by rw [List.drop_zero]; exact hR.out), Below.refl _ _⟩
  case round =>
    clear hR
    obtain ⟨k, hk, rfl, hd, hb⟩ := hrel
    have k0 : (0 : Int) ≤ (k : Int) := by omega
    by_cases hlt : k < cl.length
    · obtain ⟨bC, oC, ⟨x, y, nm, of, fr, til⟩, hae, c0, c1, c2, c3, c4, c5, hx⟩ := (HC.out _ hb).get (k := k) hlt
      obtain ⟨z, hz⟩ : ∃ z, Hid ((plE p.office ⟨x, y, nm, of, fr, til⟩) = z) := ⟨_, Lib.hid rfl⟩
      have hEk : (plW p.office cl) k = z := by rw [← hz.out, plW, hx.out]
      have hB1 := hb.alloc hb.size (.cells #[.int .i64 x, .int .i64 y, .string nm, .int .i64 of, .int .i64 fr, .int .i64 til] 114)
      have hC1 := rule8c_any S p a (k : Int) x y nm of fr til (wr.alloc (.cells #[.int .i64 x, .int .i64 y, .string nm, .int .i64 of, .int .i64 fr, .int .i64 til] 114)) (HSf.out _ hB1) (HN.out _ (List.mem_of_getElem? hx.out))
      rw [hz.out] at hC1
      have hd2 := hd.out
      rw [eachE_drop hlt, hEk] at hd2
      have Hd2 := Lib.hid hd2
      have HB1 := Lib.hid hB1
      have hz1 : w.heap.size ≤ (wr.alloc (.cells #[.int .i64 x, .int .i64 y, .string nm, .int .i64 of, .int .i64 fr, .int .i64 til] 114)).heap.size := hB1.size
      clear hd hd2 hx hz hb hB1 hEk
      rw [hae]
      go_wp2_with fail
      refine hC1.mono ?_
      rintro e w1 ⟨rfl, hb1⟩
      have HB2 := Lib.hid (HB1.out.trans (hb1.mono hz1))
      clear hb1 HB1 hz1
      by_cases f1 : z = 0
      · have b1 : (z != 0) = false := by simp [f1]
        have Hd3 := Lib.hid (show orE (((List.range cl.length).map (plW p.office cl)).drop (k + 1)) = R from by have h := Hd2.out; rw [if_neg (by simp [f1])] at h; exact h)
        clear Hd2 f1
        go_wp2_with fail
        go_roundw
        case rel => exact ⟨k + 1, by omega, by go_num, Hd3, HB2.out⟩
        case measure => simp [intOf]; omega
      · have b1 : (z != 0) = true := by simp [f1]
        have hr := Lib.hid (show R = z from by have h := Hd2.out; rw [if_pos f1] at h; exact h.symm)
        clear Hd2 f1
        go_wp2_with fail
        go_ret
        exact ⟨by rw [hr.out]; rfl, HB2.out⟩
    · have hr := Lib.hid (show R = 0 from by rw [← hd.out, List.drop_eq_nil_of_le (by simp; omega)]; rfl)
      have Hb := Lib.hid hb
      clear hd hb
      go_wp2_with fail
      go_ret
      exact ⟨by rw [hr.out]; rfl, Hb.out⟩
set_option linter.unusedSimpArgs false in
set_option maxHeartbeats 4000000 in
set_option maxRecDepth 100000 in
theorem eachSt_any (S T I N : Nat) (p : Pa) (a : Pw) (C : Option Addr) (c : Nat) (cl : List Sk) (w : World) (h : RC w S T I N p a) (hC : SS w C cl) (hl : cl.length ≤ 1099511627776) :
    Calls Tryz.prog 122 #[.slice C cl.length c, .func (.func 123) #[] #[.pointer (some ⟨T, 0, none⟩)]] w fun e w' => e = .returned (.int .i64 (eachE (skW p.office cl) cl.length)) ∧ Below w.heap.size w w' := by
  obtain ⟨R, hR⟩ : ∃ z, Hid (eachE (skW p.office cl) cl.length = z) := ⟨_, Lib.hid rfl⟩
  rw [hR.out]
  have HC := Lib.hid (fun (W : World) (hW : Below w.heap.size w W) => (show SS W C cl from hC.below hW))
  have HSf := Lib.hid (fun (W : World) (hW : Below w.heap.size w W) => h.below hW)
  clear h hC
  go_enter Tryz.func122, Tryz.ntmps122
  go_wp2_with fail
  go_loopw [10] (fun v wr => ∃ k : Nat, k ≤ cl.length ∧ v = .int .i64 k ∧ Hid (orE (((List.range cl.length).map (skW p.office cl)).drop k) = R) ∧ Below w.heap.size w wr) (fun v _ => cl.length - (intOf v).toNat)
  case atStart => exact ⟨0, by omega, rfl, Lib.hid (by rw [List.drop_zero]; exact hR.out), Below.refl _ _⟩
  case round =>
    clear hR
    obtain ⟨k, hk, rfl, hd, hb⟩ := hrel
    have k0 : (0 : Int) ≤ (k : Int) := by omega
    by_cases hlt : k < cl.length
    · obtain ⟨bC, oC, ⟨ax, ay, bx, by_, cls⟩, D, dc, hae, c0, c1, c2, c3, c4, hcs, hcl, hx⟩ := (HC.out _ hb).get (k := k) hlt
      obtain ⟨z, hz⟩ : ∃ z, Hid ((skE p.office ⟨ax, ay, bx, by_, cls⟩) = z) := ⟨_, Lib.hid rfl⟩
      have hEk : (skW p.office cl) k = z := by rw [← hz.out, skW, hx.out]
      have hB0 := Below.refl wr.heap.size wr
      have hB1 := hb.alloc hb.size (.cells #[.int .i64 ax, .int .i64 ay, .int .i64 bx, .int .i64 by_, .slice D cls.length dc] 62)
      have hC1 := rule7c_any S T I N p a (k : Int) ax ay bx by_ D dc cls (wr.alloc (.cells #[.int .i64 ax, .int .i64 ay, .int .i64 bx, .int .i64 by_, .slice D cls.length dc] 62)) (HSf.out _ hB1) (hcs.below (hB0.alloc hB0.size (.cells #[.int .i64 ax, .int .i64 ay, .int .i64 bx, .int .i64 by_, .slice D cls.length dc] 62))) hcl
      rw [hz.out] at hC1
      have hd2 := hd.out
      rw [eachE_drop hlt, hEk] at hd2
      have Hd2 := Lib.hid hd2
      have HB1 := Lib.hid hB1
      have hz1 : w.heap.size ≤ (wr.alloc (.cells #[.int .i64 ax, .int .i64 ay, .int .i64 bx, .int .i64 by_, .slice D cls.length dc] 62)).heap.size := hB1.size
      clear hd hd2 hx hz hb hB1 hEk hB0 hcs hcl
      rw [hae]
      go_wp2_with fail
      refine hC1.mono ?_
      rintro e w1 ⟨rfl, hb1⟩
      have HB2 := Lib.hid (HB1.out.trans (hb1.mono hz1))
      clear hb1 HB1 hz1
      by_cases f1 : z = 0
      · have b1 : (z != 0) = false := by simp [f1]
        have Hd3 := Lib.hid (show orE (((List.range cl.length).map (skW p.office cl)).drop (k + 1)) = R from by have h := Hd2.out; rw [if_neg (by simp [f1])] at h; exact h)
        clear Hd2 f1
        go_wp2_with fail
        go_roundw
        case rel => exact ⟨k + 1, by omega, by go_num, Hd3, HB2.out⟩
        case measure => simp [intOf]; omega
      · have b1 : (z != 0) = true := by simp [f1]
        have hr := Lib.hid (show R = z from by have h := Hd2.out; rw [if_pos f1] at h; exact h.symm)
        clear Hd2 f1
        go_wp2_with fail
        go_ret
        exact ⟨by rw [hr.out]; rfl, HB2.out⟩
    · have hr := Lib.hid (show R = 0 from by rw [← hd.out, List.drop_eq_nil_of_le (by simp; omega)]; rfl)
      have Hb := Lib.hid hb
      clear hd hb
      go_wp2_with fail
      go_ret
      exact ⟨by rw [hr.out]; rfl, Hb.out⟩
set_option linter.unusedSimpArgs false in
set_option maxHeartbeats 4000000 in
set_option maxRecDepth 100000 in
theorem rule7_any (S T I N : Nat) (p : Pa) (a : Pw) (w : World) (h : RC w S T I N p a) (hl : p.st.length ≤ 1099511627776) :
    Calls Tryz.prog 121 #[.pointer (some ⟨S, 0, none⟩), .pointer (some ⟨T, 0, none⟩)] w fun e w' => e = .returned (.int .i64 (eachE (skW p.office p.st) p.st.length)) ∧ Below w.heap.size w w' := by
  have g2 : w.cell? ⟨S, 3, none⟩ = some (.slice a.s p.st.length a.cs) := h.s.cell 3
  have hC := eachSt_any S T I N p a a.s a.cs p.st w h h.t.s hl
  obtain ⟨R, hR⟩ : ∃ z, Hid (eachE (skW p.office p.st) p.st.length = z) := ⟨_, Lib.hid rfl⟩
  rw [hR.out] at hC ⊢
  clear h hR hl
  go_enter Tryz.func121, Tryz.ntmps121
  go_wp2_with fail
  refine hC.mono ?_
  rintro e w1 ⟨rfl, hb⟩
  have Hb := Lib.hid hb
  clear hb
  go_wp2_with fail
  go_ret
  exact ⟨rfl, Hb.out⟩
set_option linter.unusedSimpArgs false in
set_option maxHeartbeats 4000000 in
set_option maxRecDepth 100000 in
theorem rule8_any (S T I N : Nat) (p : Pa) (a : Pw) (w : World) (h : RC w S T I N p a) (hl : p.pl.length ≤ 1099511627776) (hN : ∀ q ∈ p.pl, q.nm.size ≤ 1099511627776) :
    Calls Tryz.prog 125 #[.pointer (some ⟨S, 0, none⟩)] w fun e w' => e = .returned (.int .i64 (eachE (plW p.office p.pl) p.pl.length)) ∧ Below w.heap.size w w' := by
  have g2 : w.cell? ⟨S, 4, none⟩ = some (.slice a.l p.pl.length a.cl) := h.s.cell 4
  have hC := eachPl_any S p a a.l a.cl p.pl w h.s h.t.l hN hl
  obtain ⟨R, hR⟩ : ∃ z, Hid (eachE (plW p.office p.pl) p.pl.length = z) := ⟨_, Lib.hid rfl⟩
  rw [hR.out] at hC ⊢
  clear h hR hl hN
  go_enter Tryz.func125, Tryz.ntmps125
  go_wp2_with fail
  refine hC.mono ?_
  rintro e w1 ⟨rfl, hb⟩
  have Hb := Lib.hid hb
  clear hb
  go_wp2_with fail
  go_ret
  exact ⟨rfl, Hb.out⟩
set_option linter.unusedSimpArgs false in
set_option maxHeartbeats 4000000 in
set_option maxRecDepth 100000 in
theorem rule12_any (S T I N : Nat) (p : Pa) (a : Pw) (w : World) (h : RC w S T I N p a) (hl : p.rt.length ≤ 1099511627776) :
    Calls Tryz.prog 136 #[.pointer (some ⟨S, 0, none⟩)] w fun e w' => e = .returned (.int .i64 (eachE (rtW p.rt) p.rt.length)) ∧ Below w.heap.size w w' := by
  have g2 : w.cell? ⟨S, 8, none⟩ = some (.slice a.r p.rt.length a.cr) := h.s.cell 8
  have hC := eachR_any a.r a.cr p.rt w h.t.r hl
  obtain ⟨R, hR⟩ : ∃ z, Hid (eachE (rtW p.rt) p.rt.length = z) := ⟨_, Lib.hid rfl⟩
  rw [hR.out] at hC ⊢
  clear h hR hl
  go_enter Tryz.func136, Tryz.ntmps136
  go_wp2_with fail
  refine hC.mono ?_
  rintro e w1 ⟨rfl, hb⟩
  have Hb := Lib.hid hb
  clear hb
  go_wp2_with fail
  go_ret
  exact ⟨rfl, Hb.out⟩
end Go.Proofs.YtnapnkmehnabfaaGreat
