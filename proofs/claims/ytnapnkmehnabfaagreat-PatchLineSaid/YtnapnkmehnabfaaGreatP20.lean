import Derived.Test.YtnapnkmehnabfaaGreatP19
namespace Go.Proofs.YtnapnkmehnabfaaGreat
open Go.RowKit Go.Maps

/-- What patch.rules captures: the patch at S, claims at T, index at I, names at N. -/
structure RC (w : World) (S T I N : Nat) (p : Pa) (a : Pw) : Prop where
  s : Bk w S 34 (paC p a)
  c : Bk w T 168 #[.func (.func 109) #[] #[.pointer (some ⟨S, 0, none⟩)]]
  i : Bk w I 93 #[.func (.func 111) #[] #[]]
  n : Bk w N 171 #[.func (.func 112) #[] #[.pointer (some ⟨S, 0, none⟩), .pointer (some ⟨I, 0, none⟩)]]
  t : PT w p a
theorem RC.below {w w' : World} {S T I N : Nat} {p : Pa} {a : Pw} (h : RC w S T I N p a) (hb : Below w.heap.size w w') : RC w' S T I N p a :=
  ⟨h.s.below hb h.s.lt, h.c.below hb h.c.lt, h.i.below hb h.i.lt, h.n.below hb h.n.lt, h.t.below hb⟩
set_option linter.unusedSimpArgs false in
set_option maxHeartbeats 4000000 in
set_option maxRecDepth 100000 in
theorem eachC_any (S : Nat) (p : Pa) (a : Pw) (C : Option Addr) (c : Nat) (cl : List Cl) (w : World) (hk : Bk w S 34 (paC p a)) (hC : SC w C cl) (hl : cl.length ≤ 1099511627776) :
    Calls Tryz.prog 124 #[.slice C cl.length c, .func (.func 109) #[] #[.pointer (some ⟨S, 0, none⟩)]] w fun e w' => e = .returned (.int .i64 (eachE (clW p.office cl) cl.length)) ∧ Below w.heap.size w w' := by
  obtain ⟨R, hR⟩ : ∃ z, Hid (eachE (clW p.office cl) cl.length = z) := ⟨_, Lib.hid rfl⟩
  rw [hR.out]
  have HC := Lib.hid (fun (W : World) (hW : Below w.heap.size w W) => (show SC W C cl from hC.below hW))
  have HSf := Lib.hid (fun (W : World) (hW : Below w.heap.size w W) => hk.below hW hk.lt)
  clear hk hC
  go_enter Tryz.func124, Tryz.ntmps124
  go_wp2_with fail
  go_loopw [10] (fun v wr => ∃ k : Nat, k ≤ cl.length ∧ v = .int .i64 k ∧ Hid (orE (((List.range cl.length).map (clW p.office cl)).drop k) = R) ∧ Below w.heap.size w wr) (fun v _ => cl.length - (intOf v).toNat)
  case atStart => exact ⟨0, by omega, rfl, Lib.hid (by rw [List.drop_zero]; exact hR.out), Below.refl _ _⟩
  case round =>
    clear hR
    obtain ⟨k, hk, rfl, hd, hb⟩ := hrel
    have k0 : (0 : Int) ≤ (k : Int) := by omega
    by_cases hlt : k < cl.length
    · obtain ⟨bC, oC, ⟨t1, t2, t3, t4, t5⟩, hae, c0, c1, c2, c3, c4, hx⟩ := (HC.out _ hb).get (k := k) hlt
      obtain ⟨z, hz⟩ : ∃ z, Hid ((if clE ⟨t1, t2, t3, t4, t5⟩ ≠ 0 ∨ (⟨t1, t2, t3, t4, t5⟩ : Cl).office ≠ p.office then (1 : Int) else 0) = z) := ⟨_, Lib.hid rfl⟩
      have hEk : (clW p.office cl) k = z := by rw [← hz.out, clW, hx.out]
      have hB1 := hb.alloc hb.size (.cells #[.int .i64 t1, .int .i64 t2, .int .i64 t3, .int .i64 t4, .int .i64 t5] 41)
      have hC1 := rule1_any S p a (k : Int) ⟨t1, t2, t3, t4, t5⟩ (wr.alloc (.cells #[.int .i64 t1, .int .i64 t2, .int .i64 t3, .int .i64 t4, .int .i64 t5] 41)) (HSf.out _ hB1)
      rw [hz.out] at hC1
      have hd2 := hd.out
      rw [eachE_drop hlt, hEk] at hd2
      have Hd2 := Lib.hid hd2
      have HB1 := Lib.hid hB1
      have hz1 : w.heap.size ≤ (wr.alloc (.cells #[.int .i64 t1, .int .i64 t2, .int .i64 t3, .int .i64 t4, .int .i64 t5] 41)).heap.size := hB1.size
      clear hd hd2 hx hz hb hB1 hEk
      rw [hae]
      go_wp2_with fail
      refine hC1.mono ?_
      rintro e w1 ⟨rfl, hb1⟩
      have HB2 := Lib.hid (HB1.out.trans (hb1.mono hz1))
      clear hb1 HB1 hz1
      by_cases f1 : z = 0
      · have b1 : (z != 0) = false := by simp [f1]
        have Hd3 := Lib.hid (show orE (((List.range cl.length).map (clW p.office cl)).drop (k + 1)) = R from by have h := Hd2.out; rw [if_neg (by simp [f1])] at h; exact h)
        clear Hd2 f1
        go_wp2_with fail
        go_roundw
        case rel => exact ⟨k + 1, by omega, by go_num, Hd3, HB2.out⟩
        case measure => simp [intOf]; omega
      · have b1 : (z != 0) = true := by simp [f1]
        have hr := Lib.hid (show R = z from by have h := Hd2.out; rw [if_pos f1] at h; exact h.symm)
        clear Hd2 f1
        go_wp2_with fail
        go_ret
        exact ⟨by rw [hr.out]; rfl, HB2.out⟩
    · have hr := Lib.hid (show R = 0 from by rw [← hd.out, List.drop_eq_nil_of_le (by simp; omega)]; rfl)
      have Hb := Lib.hid hb
      clear hd hb
      go_wp2_with fail
      go_ret
      exact ⟨by rw [hr.out]; rfl, Hb.out⟩
set_option linter.unusedSimpArgs false in
set_option maxHeartbeats 4000000 in
set_option maxRecDepth 100000 in
theorem eachR_any (C : Option Addr) (c : Nat) (l : List (Int × Int)) (w : World) (hC : SR w C l) (hl : l.length ≤ 1099511627776) :
    Calls Tryz.prog 137 #[.slice C l.length c, .func (.func 138) #[] #[]] w fun e w' => e = .returned (.int .i64 (eachE (rtW l) l.length)) ∧ Below w.heap.size w w' := by
  obtain ⟨R, hR⟩ : ∃ z, Hid (eachE (rtW l) l.length = z) := ⟨_, Lib.hid rfl⟩
  rw [hR.out]
  have HC := Lib.hid (fun (W : World) (hW : Below w.heap.size w W) => (show SR W C l from hC.below hW))
  clear hC
  go_enter Tryz.func137, Tryz.ntmps137
  go_wp2_with fail
  go_loopw [10] (fun v wr => ∃ k : Nat, k ≤ l.length ∧ v = .int .i64 k ∧ Hid (orE (((List.range l.length).map (rtW l)).drop k) = R) ∧ Below w.heap.size w wr) (fun v _ => l.length - (intOf v).toNat)
  case atStart => exact ⟨0, by omega, rfl, Lib.hid (by rw [List.drop_zero]; exact hR.out), Below.refl _ _⟩
  case round =>
    clear hR
    obtain ⟨k, hk, rfl, hd, hb⟩ := hrel
    have k0 : (0 : Int) ≤ (k : Int) := by omega
    by_cases hlt : k < l.length
    · obtain ⟨bC, oC, x, y, hae, c0, c1, hx⟩ := (HC.out _ hb).get (k := k) hlt
      obtain ⟨z, hz⟩ : ∃ z, Hid ((if (0 ≤ x ∧ x ≤ 1048576) ∧ (0 ≤ y ∧ y ≤ 73048) then (0 : Int) else 1) = z) := ⟨_, Lib.hid rfl⟩
      have hEk : (rtW l) k = z := by rw [← hz.out, rtW, hx.out]
      have hB1 := hb.alloc hb.size (.cells #[.int .i64 x, .int .i64 y] 92)
      have hC1 := rule12c_any (k : Int) x y (wr.alloc (.cells #[.int .i64 x, .int .i64 y] 92))
      rw [hz.out] at hC1
      have hd2 := hd.out
      rw [eachE_drop hlt, hEk] at hd2
      have Hd2 := Lib.hid hd2
      have HB1 := Lib.hid hB1
      have hz1 : w.heap.size ≤ (wr.alloc (.cells #[.int .i64 x, .int .i64 y] 92)).heap.size := hB1.size
      clear hd hd2 hx hz hb hB1 hEk
      rw [hae]
      go_wp2_with fail
      refine hC1.mono ?_
      rintro e w1 ⟨rfl, hb1⟩
      have HB2 := Lib.hid (HB1.out.trans (hb1.mono hz1))
      clear hb1 HB1 hz1
      by_cases f1 : z = 0
      · have b1 : (z != 0) = false := by simp [f1]
        have Hd3 := Lib.hid (show orE (((List.range l.length).map (rtW l)).drop (k + 1)) = R from by have h := Hd2.out; rw [if_neg (by simp [f1])] at h; exact h)
        clear Hd2 f1
        go_wp2_with fail
        go_roundw
        case rel => exact ⟨k + 1, by omega, by go_num, Hd3, HB2.out⟩
        case measure => simp [intOf]; omega
      · have b1 : (z != 0) = true := by simp [f1]
        have hr := Lib.hid (show R = z from by have h := Hd2.out; rw [if_pos f1] at h; exact h.symm)
        clear Hd2 f1
        go_wp2_with fail
        go_ret
        exact ⟨by rw [hr.out]; rfl, HB2.out⟩
    · have hr := Lib.hid (show R = 0 from by rw [← hd.out, List.drop_eq_nil_of_le (by simp; omega)]; rfl)
      have Hb := Lib.hid hb
      clear hd hb
      go_wp2_with fail
      go_ret
      exact ⟨by rw [hr.out]; rfl, Hb.out⟩
end Go.Proofs.YtnapnkmehnabfaaGreat
