import Derived.Test.YtnapnkmehnabfaaGreatP41
namespace Go.Proofs.YtnapnkmehnabfaaGreat
open Go.RowKit Go.Maps

theorem neq_point (x y x' y' : Int) (W : World) : (binOp .neq 58 (.agg #[.int .i64 x, .int .i64 y]) (.agg #[.int .i64 x', .int .i64 y'])).run Tryz.prog W = .ok (.bool (!(x == x' && y == y'))) W := by
 rw [run_neq_struct, show (10000 : Nat) = 9999 + 1 from rfl, run_equalIn_struct (P := Tryz.prog) W 9999 58 _ _ (by kernel_rfl) (by kernel_rfl)]
 have ha := Tryz.isAgg3
 have hu3 := Tryz.underlying3
 by_cases e1 : x = x'
 ·by_cases e2 : y = y'
  ·simp [Program.fieldsOf, Tryz.underlying58, Op.eqFields, part, ha, run_equalIn_int W 9998 3 .i64 .i64 _ _ hu3, e1, e2]
  ·simp [Program.fieldsOf, Tryz.underlying58, Op.eqFields, part, ha, run_equalIn_int W 9998 3 .i64 .i64 _ _ hu3, e1, e2]
 ·simp [Program.fieldsOf, Tryz.underlying58, Op.eqFields, part, ha, run_equalIn_int W 9998 3 .i64 .i64 _ _ hu3, e1]
/-- A segment: its ends are two points of a small grid. -/
structure Sg where
 ax : Int
 ay : Int
 bx : Int
 by_ : Int
def sgC (l : List Sg) : List Value := l.flatMap fun s => [.int .i64 s.ax, .int .i64 s.ay, .int .i64 s.bx, .int .i64 s.by_]
def near (x : Int) : Prop := -10000 ≤ x ∧ x ≤ 10000
def sgOK (s : Sg) : Prop := (near s.ax ∧ near s.ay) ∧ (near s.bx ∧ near s.by_) ∧ ¬ (s.ax = s.bx ∧ s.ay = s.by_)
theorem sgC_app (a : List Sg) (s : Sg) : sgC (a ++ [s]) = sgC a ++ [.int .i64 s.ax, .int .i64 s.ay, .int .i64 s.bx, .int .i64 s.by_] := by simp [sgC]
theorem elt_seg : Elt Tryz.prog 214 60 (.agg #[.int .i64 0, .int .i64 0, .int .i64 0, .int .i64 0]) 4 32 := Elt.mk' Tryz.underlying214 (by kernel_rfl) (by decide) (by decide) rfl
set_option linter.unusedSimpArgs false in
set_option maxHeartbeats 8000000 in
set_option maxRecDepth 100000 in
theorem net_any (A : Option Addr) (c : Nat) (l : List Int) (w : World) (hA : SI w A l) (hl : W64 l) (hl3 : l.length = 3) :
  Calls Tryz.prog 167 #[.slice A 3 c] w fun e w' => ∃ (sg : List Sg) (S : Option Addr) (cS : Nat), e = .returned (.slice S sg.length cS) ∧ sg.length ≤ 5 ∧ w'.ownsRow w.heap.size 60 4 (.slice S sg.length cS) sg.length (sgC sg) ∧ (∀ s ∈ sg, sgOK s) ∧ Below w.heap.size w w' := by
 have HAs := Lib.hid (fun (W : World) (h : Below w.heap.size w W) => (show SI W A l from hA.below h))
 have Hl := Lib.hid hl
 have Hl3 := Lib.hid hl3
 clear hA hl hl3
 go_enter Tryz.func167, Tryz.ntmps167
 go_wp2_with fail
 go_loopw [3, 4] (fun o i wr => ∃ (k : Nat) (sg : List Sg), k ≤ 1 ∧ i = .int .i64 (k : Int) ∧ Hid (sg.length ≤ 5 * k) ∧ Hid (wr.ownsRow w.heap.size 60 4 o sg.length (sgC sg)) ∧ Hid (∀ s ∈ sg, sgOK s) ∧ Hid (Below w.heap.size w wr)) (fun _ i _ => 2 - (intOf i).toNat)
 case atStart => exact ⟨0, [], by omega, rfl, Lib.hid (by simp), Lib.hid (World.ownsRow_nil _ _ _ _), Lib.hid (by simp), Lib.hid (Below.refl _ _)⟩
 case round =>
  obtain ⟨k, sg, hk, rfl, hsl, HO, HP, HB⟩ := hrel
  have hk01 : k = 0 ∨ k = 1 := by omega
  rcases hk01 with rfl | rfl
  ·obtain ⟨n, hn⟩ : ∃ z, Hid (pick l 0 1048576 = z) := ⟨_, Lib.hid rfl⟩
   have hnb : 0 ≤ n ∧ n < 1048576 := by rw [← hn.out]; exact pick_bd l 0 1048576 (by decide)
   obtain ⟨y, hy⟩ : ∃ z, Hid (pick l 1 1048576 = z) := ⟨_, Lib.hid rfl⟩
   have hyb : 0 ≤ y ∧ y < 1048576 := by rw [← hy.out]; exact pick_bd l 1 1048576 (by decide)
   have HP0 := Lib.hid (fun (W : World) (h : Below w.heap.size w W) => (show Calls Tryz.prog 166 #[.slice A 3 c, .int .i64 0, .int .i64 1048576] W fun e w' => e = .returned (.int .i64 n) ∧ W = w' from by
    have h := pick_any A c l 0 1048576 W (HAs.out W h) Hl.out (by decide) (by decide)
    rw [hn.out, Hl3.out] at h; exact h))
   have HP1 := Lib.hid (fun (W : World) (h : Below w.heap.size w W) => (show Calls Tryz.prog 166 #[.slice A 3 c, .int .i64 1, .int .i64 1048576] W fun e w' => e = .returned (.int .i64 y) ∧ W = w' from by
    have h := pick_any A c l 1 1048576 W (HAs.out W h) Hl.out (by decide) (by decide)
    rw [hy.out, Hl3.out] at h; exact h))
   go_wp2_with fail
   refine (HP0.out wr HB.out).mono ?_
   rintro e w1 ⟨rfl, rfl⟩
   go_wp2_with fail
   refine (HP1.out wr HB.out).mono ?_
   rintro e w1 ⟨rfl, rfl⟩
   go_wp2_with fail
   refine (grid_any y wr ⟨by omega, by omega⟩).mono ?_
   rintro e w2 ⟨cx, cy, rfl, hcx, hcy, hb2⟩
   have e12 : n.tmod 12 = n % 12 := Int.tmod_eq_emod_of_nonneg (by omega)
   obtain ⟨r, hr⟩ : ∃ z, Hid (1 + n % 12 = z) := ⟨_, Lib.hid rfl⟩
   have hrb : 1 ≤ r ∧ r ≤ 12 := by have := hr.out; omega
   have w12 : IntKind.i64.wrap (n % 12) = n % 12 := IntWalk.i64_in _ ⟨by omega, by omega⟩
   have wr1 : IntKind.i64.wrap (1 + n % 12) = r := by rw [hr.out]; exact IntWalk.i64_in _ ⟨by omega, by omega⟩
   have d12 : n.tdiv 12 = n / 12 := Int.tdiv_eq_ediv_of_nonneg (by omega)
   obtain ⟨a1, ha1⟩ : ∃ z, Hid (n / 12 % r = z) := ⟨_, Lib.hid rfl⟩
   have ta1 : (n / 12).tmod r = a1 := by rw [Int.tmod_eq_emod_of_nonneg (by omega), ha1.out]
   have ba1 : 0 ≤ a1 ∧ a1 < r := by rw [← ha1.out]; exact ⟨Int.emod_nonneg _ (by omega), Int.emod_lt_of_pos _ (by omega)⟩
   have va1 : IntKind.i64.wrap a1 = a1 := IntWalk.i64_in _ ⟨by omega, by omega⟩
   have ua1 : IntKind.i64.wrap (n / 12) = n / 12 := IntWalk.i64_in _ ⟨by omega, by omega⟩
   have d144 : n.tdiv 144 = n / 144 := Int.tdiv_eq_ediv_of_nonneg (by omega)
   obtain ⟨a2, ha2⟩ : ∃ z, Hid (n / 144 % r = z) := ⟨_, Lib.hid rfl⟩
   have ta2 : (n / 144).tmod r = a2 := by rw [Int.tmod_eq_emod_of_nonneg (by omega), ha2.out]
   have ba2 : 0 ≤ a2 ∧ a2 < r := by rw [← ha2.out]; exact ⟨Int.emod_nonneg _ (by omega), Int.emod_lt_of_pos _ (by omega)⟩
   have va2 : IntKind.i64.wrap a2 = a2 := IntWalk.i64_in _ ⟨by omega, by omega⟩
   have ua2 : IntKind.i64.wrap (n / 144) = n / 144 := IntWalk.i64_in _ ⟨by omega, by omega⟩
   have d1728 : n.tdiv 1728 = n / 1728 := Int.tdiv_eq_ediv_of_nonneg (by omega)
   obtain ⟨a3, ha3⟩ : ∃ z, Hid (n / 1728 % r = z) := ⟨_, Lib.hid rfl⟩
   have ta3 : (n / 1728).tmod r = a3 := by rw [Int.tmod_eq_emod_of_nonneg (by omega), ha3.out]
   have ba3 : 0 ≤ a3 ∧ a3 < r := by rw [← ha3.out]; exact ⟨Int.emod_nonneg _ (by omega), Int.emod_lt_of_pos _ (by omega)⟩
   have va3 : IntKind.i64.wrap a3 = a3 := IntWalk.i64_in _ ⟨by omega, by omega⟩
   have ua3 : IntKind.i64.wrap (n / 1728) = n / 1728 := IntWalk.i64_in _ ⟨by omega, by omega⟩
   have d36 : n.tdiv 36 = n / 36 := Int.tdiv_eq_ediv_of_nonneg (by omega)
   obtain ⟨a4, ha4⟩ : ∃ z, Hid (n / 36 % r = z) := ⟨_, Lib.hid rfl⟩
   have ta4 : (n / 36).tmod r = a4 := by rw [Int.tmod_eq_emod_of_nonneg (by omega), ha4.out]
   have ba4 : 0 ≤ a4 ∧ a4 < r := by rw [← ha4.out]; exact ⟨Int.emod_nonneg _ (by omega), Int.emod_lt_of_pos _ (by omega)⟩
   have va4 : IntKind.i64.wrap a4 = a4 := IntWalk.i64_in _ ⟨by omega, by omega⟩
   have ua4 : IntKind.i64.wrap (n / 36) = n / 36 := IntWalk.i64_in _ ⟨by omega, by omega⟩
   have d500 : n.tdiv 500 = n / 500 := Int.tdiv_eq_ediv_of_nonneg (by omega)
   obtain ⟨a5, ha5⟩ : ∃ z, Hid (n / 500 % r = z) := ⟨_, Lib.hid rfl⟩
   have ta5 : (n / 500).tmod r = a5 := by rw [Int.tmod_eq_emod_of_nonneg (by omega), ha5.out]
   have ba5 : 0 ≤ a5 ∧ a5 < r := by rw [← ha5.out]; exact ⟨Int.emod_nonneg _ (by omega), Int.emod_lt_of_pos _ (by omega)⟩
   have va5 : IntKind.i64.wrap a5 = a5 := IntWalk.i64_in _ ⟨by omega, by omega⟩
   have ua5 : IntKind.i64.wrap (n / 500) = n / 500 := IntWalk.i64_in _ ⟨by omega, by omega⟩
   have q0_ : IntKind.i64.wrap (cx - r) = cx - r := IntWalk.i64_in _ ⟨by omega, by omega⟩
   have q1_ : IntKind.i64.wrap (cy - a1) = cy - a1 := IntWalk.i64_in _ ⟨by omega, by omega⟩
   have q2_ : IntKind.i64.wrap (cx + a2) = cx + a2 := IntWalk.i64_in _ ⟨by omega, by omega⟩
   have q3_ : IntKind.i64.wrap (cy - r) = cy - r := IntWalk.i64_in _ ⟨by omega, by omega⟩
   have q4_ : IntKind.i64.wrap (cx + r) = cx + r := IntWalk.i64_in _ ⟨by omega, by omega⟩
   have q5_ : IntKind.i64.wrap (cy + a3) = cy + a3 := IntWalk.i64_in _ ⟨by omega, by omega⟩
   have q6_ : IntKind.i64.wrap (cx - a4) = cx - a4 := IntWalk.i64_in _ ⟨by omega, by omega⟩
   have q7_ : IntKind.i64.wrap (cy + r) = cy + r := IntWalk.i64_in _ ⟨by omega, by omega⟩
   have q8_ : IntKind.i64.wrap (cy + a5) = cy + a5 := IntWalk.i64_in _ ⟨by omega, by omega⟩
   have hr0 : ¬ r = 0 := by omega
   have hr00 : (r == 0) = false := by simp [hr0]
   have HO2 := Lib.hid ((own_below HO.out hb2).alloc (.cells #[.int .i64 cx, .int .i64 cy] 58))
   have HB2 := Lib.hid ((HB.out.trans (hb2.mono HB.out.size)).alloc (Nat.le_trans HB.out.size hb2.size) (.cells #[.int .i64 cx, .int .i64 cy] 58))
   have HK2 := Lib.hid (Bk.new w2 58 #[.int .i64 cx, .int .i64 cy])
   clear hb2 HO HB
   go_upto_region 8 with fail
   generalize w2.alloc (.cells #[.int .i64 cx, .int .i64 cy] 58) = W2 at *
   generalize w2.heap.size = h at *
   have HO3 := Lib.hid (show W2.drew.ownsRow w.heap.size 60 4 _ sg.length (sgC sg) from HO2.out)
   have HB3 := Lib.hid HB2.out.drew
   have HK3 := Lib.hid (show Bk W2.drew h 58 #[.int .i64 cx, .int .i64 cy] from HK2.out)
   clear HO2 HB2 HK2
   refine wp_region_noPanic ?_
   refine region_H (S := fun W => W.cell? ⟨h, 0, none⟩ = some (.int .i64 cx) ∧ W.cell? ⟨h, 1, none⟩ = some (.int .i64 cy)) (by kernel_rfl) ?_
   change wpH _ _ _ _ 62 _ _ W2.drew
   generalize W2.drew = X0 at *
   refine H_takeD (k := 0) (v := .pointer (some ⟨h, 0, none⟩)) (d := some 36) rfl rfl (by decide +kernel) (fun _ _ _ h => h) (Or.inl ⟨by rfl, fun W hW => by obtain ⟨s0, s1⟩ := hW; go_simp⟩) ⟨HK3.out.cell 0, HK3.out.cell 1⟩ ?_
   try simp only [Act.put, qz0, qz1, qz2]
   refine H_takeD (k := 1) (v := .int .i64 cx) (d := some 37) rfl rfl (by decide +kernel) (fun _ _ _ h => h) (Or.inl ⟨by rfl, fun W hW => by obtain ⟨s0, s1⟩ := hW; go_simp⟩) ⟨HK3.out.cell 0, HK3.out.cell 1⟩ ?_
   try simp only [Act.put, qz0, qz1, qz2]
   refine H_takeD (k := 2) (v := .int .i64 r) (d := some 38) rfl rfl (by decide +kernel) (fun _ _ _ h => h) (Or.inl ⟨by rfl, fun W hW => by obtain ⟨s0, s1⟩ := hW; go_simp⟩) ⟨HK3.out.cell 0, HK3.out.cell 1⟩ ?_
   try simp only [Act.put, qz0, qz1, qz2]
   refine H_takeD (k := 3) (v := .int .i64 (cx - r)) (d := some 39) rfl rfl (by decide +kernel) (fun _ _ _ h => h) (Or.inl ⟨by rfl, fun W hW => by obtain ⟨s0, s1⟩ := hW; go_simp⟩) ⟨HK3.out.cell 0, HK3.out.cell 1⟩ ?_
   try simp only [Act.put, qz0, qz1, qz2]
   refine H_takeD (k := 4) (v := .pointer (some ⟨h, 1, none⟩)) (d := some 40) rfl rfl (by decide +kernel) (fun _ _ _ h => h) (Or.inl ⟨by rfl, fun W hW => by obtain ⟨s0, s1⟩ := hW; go_simp⟩) ⟨HK3.out.cell 0, HK3.out.cell 1⟩ ?_
   try simp only [Act.put, qz0, qz1, qz2]
   refine H_takeD (k := 5) (v := .int .i64 cy) (d := some 41) rfl rfl (by decide +kernel) (fun _ _ _ h => h) (Or.inl ⟨by rfl, fun W hW => by obtain ⟨s0, s1⟩ := hW; go_simp⟩) ⟨HK3.out.cell 0, HK3.out.cell 1⟩ ?_
   try simp only [Act.put, qz0, qz1, qz2]
   refine H_takeD (k := 6) (v := .int .i64 n) (d := some 42) rfl rfl (by decide +kernel) (fun _ _ _ h => h) (Or.inl ⟨by rfl, fun W hW => by obtain ⟨s0, s1⟩ := hW; go_simp⟩) ⟨HK3.out.cell 0, HK3.out.cell 1⟩ ?_
   try simp only [Act.put, qz0, qz1, qz2]
   refine H_takeD (k := 7) (v := .int .i64 (n / 12)) (d := some 43) rfl rfl (by decide +kernel) (fun _ _ _ h => h) (Or.inl ⟨by rfl, fun W hW => by obtain ⟨s0, s1⟩ := hW; go_simp⟩) ⟨HK3.out.cell 0, HK3.out.cell 1⟩ ?_
   try simp only [Act.put, qz0, qz1, qz2]
   refine H_takeD (k := 8) (v := .int .i64 r) (d := some 44) rfl rfl (by decide +kernel) (fun _ _ _ h => h) (Or.inl ⟨by rfl, fun W hW => by obtain ⟨s0, s1⟩ := hW; go_simp⟩) ⟨HK3.out.cell 0, HK3.out.cell 1⟩ ?_
   try simp only [Act.put, qz0, qz1, qz2]
   refine H_takeD (k := 9) (v := .int .i64 a1) (d := some 45) rfl rfl (by decide +kernel) (fun _ _ _ h => h) (Or.inl ⟨by rfl, fun W hW => by obtain ⟨s0, s1⟩ := hW; go_simp⟩) ⟨HK3.out.cell 0, HK3.out.cell 1⟩ ?_
   try simp only [Act.put, qz0, qz1, qz2]
   refine H_takeD (k := 10) (v := .int .i64 (cy - a1)) (d := some 46) rfl rfl (by decide +kernel) (fun _ _ _ h => h) (Or.inl ⟨by rfl, fun W hW => by obtain ⟨s0, s1⟩ := hW; go_simp⟩) ⟨HK3.out.cell 0, HK3.out.cell 1⟩ ?_
   try simp only [Act.put, qz0, qz1, qz2]
   refine H_takeD (k := 11) (v := .agg #[.int .i64 (cx - r), .int .i64 (cy - a1)]) (d := some 47) rfl rfl (by decide +kernel) (fun _ _ _ h => h) (Or.inl ⟨by rfl, fun W hW => by obtain ⟨s0, s1⟩ := hW; go_simp⟩) ⟨HK3.out.cell 0, HK3.out.cell 1⟩ ?_
   try simp only [Act.put, qz0, qz1, qz2]
   refine H_takeD (k := 12) (v := .pointer (some ⟨h, 0, none⟩)) (d := some 48) rfl rfl (by decide +kernel) (fun _ _ _ h => h) (Or.inl ⟨by rfl, fun W hW => by obtain ⟨s0, s1⟩ := hW; go_simp⟩) ⟨HK3.out.cell 0, HK3.out.cell 1⟩ ?_
   try simp only [Act.put, qz0, qz1, qz2]
   refine H_takeD (k := 13) (v := .int .i64 cx) (d := some 49) rfl rfl (by decide +kernel) (fun _ _ _ h => h) (Or.inl ⟨by rfl, fun W hW => by obtain ⟨s0, s1⟩ := hW; go_simp⟩) ⟨HK3.out.cell 0, HK3.out.cell 1⟩ ?_
   try simp only [Act.put, qz0, qz1, qz2]
   refine H_takeD (k := 14) (v := .int .i64 n) (d := some 50) rfl rfl (by decide +kernel) (fun _ _ _ h => h) (Or.inl ⟨by rfl, fun W hW => by obtain ⟨s0, s1⟩ := hW; go_simp⟩) ⟨HK3.out.cell 0, HK3.out.cell 1⟩ ?_
   try simp only [Act.put, qz0, qz1, qz2]
   refine H_takeD (k := 15) (v := .int .i64 (n / 144)) (d := some 51) rfl rfl (by decide +kernel) (fun _ _ _ h => h) (Or.inl ⟨by rfl, fun W hW => by obtain ⟨s0, s1⟩ := hW; go_simp⟩) ⟨HK3.out.cell 0, HK3.out.cell 1⟩ ?_
   try simp only [Act.put, qz0, qz1, qz2]
   refine H_takeD (k := 16) (v := .int .i64 r) (d := some 52) rfl rfl (by decide +kernel) (fun _ _ _ h => h) (Or.inl ⟨by rfl, fun W hW => by obtain ⟨s0, s1⟩ := hW; go_simp⟩) ⟨HK3.out.cell 0, HK3.out.cell 1⟩ ?_
   try simp only [Act.put, qz0, qz1, qz2]
   refine H_takeD (k := 17) (v := .int .i64 a2) (d := some 53) rfl rfl (by decide +kernel) (fun _ _ _ h => h) (Or.inl ⟨by rfl, fun W hW => by obtain ⟨s0, s1⟩ := hW; go_simp⟩) ⟨HK3.out.cell 0, HK3.out.cell 1⟩ ?_
   try simp only [Act.put, qz0, qz1, qz2]
   refine H_takeD (k := 18) (v := .int .i64 (cx + a2)) (d := some 54) rfl rfl (by decide +kernel) (fun _ _ _ h => h) (Or.inl ⟨by rfl, fun W hW => by obtain ⟨s0, s1⟩ := hW; go_simp⟩) ⟨HK3.out.cell 0, HK3.out.cell 1⟩ ?_
   try simp only [Act.put, qz0, qz1, qz2]
   refine H_takeD (k := 19) (v := .pointer (some ⟨h, 1, none⟩)) (d := some 55) rfl rfl (by decide +kernel) (fun _ _ _ h => h) (Or.inl ⟨by rfl, fun W hW => by obtain ⟨s0, s1⟩ := hW; go_simp⟩) ⟨HK3.out.cell 0, HK3.out.cell 1⟩ ?_
   try simp only [Act.put, qz0, qz1, qz2]
   refine H_takeD (k := 20) (v := .int .i64 cy) (d := some 56) rfl rfl (by decide +kernel) (fun _ _ _ h => h) (Or.inl ⟨by rfl, fun W hW => by obtain ⟨s0, s1⟩ := hW; go_simp⟩) ⟨HK3.out.cell 0, HK3.out.cell 1⟩ ?_
   try simp only [Act.put, qz0, qz1, qz2]
   refine H_takeD (k := 21) (v := .int .i64 r) (d := some 57) rfl rfl (by decide +kernel) (fun _ _ _ h => h) (Or.inl ⟨by rfl, fun W hW => by obtain ⟨s0, s1⟩ := hW; go_simp⟩) ⟨HK3.out.cell 0, HK3.out.cell 1⟩ ?_
   try simp only [Act.put, qz0, qz1, qz2]
   refine H_takeD (k := 22) (v := .int .i64 (cy - r)) (d := some 58) rfl rfl (by decide +kernel) (fun _ _ _ h => h) (Or.inl ⟨by rfl, fun W hW => by obtain ⟨s0, s1⟩ := hW; go_simp⟩) ⟨HK3.out.cell 0, HK3.out.cell 1⟩ ?_
   try simp only [Act.put, qz0, qz1, qz2]
   refine H_takeD (k := 23) (v := .agg #[.int .i64 (cx + a2), .int .i64 (cy - r)]) (d := some 59) rfl rfl (by decide +kernel) (fun _ _ _ h => h) (Or.inl ⟨by rfl, fun W hW => by obtain ⟨s0, s1⟩ := hW; go_simp⟩) ⟨HK3.out.cell 0, HK3.out.cell 1⟩ ?_
   try simp only [Act.put, qz0, qz1, qz2]
   refine H_takeD (k := 24) (v := .pointer (some ⟨h, 0, none⟩)) (d := some 60) rfl rfl (by decide +kernel) (fun _ _ _ h => h) (Or.inl ⟨by rfl, fun W hW => by obtain ⟨s0, s1⟩ := hW; go_simp⟩) ⟨HK3.out.cell 0, HK3.out.cell 1⟩ ?_
   try simp only [Act.put, qz0, qz1, qz2]
   refine H_takeD (k := 25) (v := .int .i64 cx) (d := some 61) rfl rfl (by decide +kernel) (fun _ _ _ h => h) (Or.inl ⟨by rfl, fun W hW => by obtain ⟨s0, s1⟩ := hW; go_simp⟩) ⟨HK3.out.cell 0, HK3.out.cell 1⟩ ?_
   try simp only [Act.put, qz0, qz1, qz2]
   refine H_takeD (k := 26) (v := .int .i64 r) (d := some 62) rfl rfl (by decide +kernel) (fun _ _ _ h => h) (Or.inl ⟨by rfl, fun W hW => by obtain ⟨s0, s1⟩ := hW; go_simp⟩) ⟨HK3.out.cell 0, HK3.out.cell 1⟩ ?_
   try simp only [Act.put, qz0, qz1, qz2]
   refine H_takeD (k := 27) (v := .int .i64 (cx + r)) (d := some 63) rfl rfl (by decide +kernel) (fun _ _ _ h => h) (Or.inl ⟨by rfl, fun W hW => by obtain ⟨s0, s1⟩ := hW; go_simp⟩) ⟨HK3.out.cell 0, HK3.out.cell 1⟩ ?_
   try simp only [Act.put, qz0, qz1, qz2]
   refine H_takeD (k := 28) (v := .pointer (some ⟨h, 1, none⟩)) (d := some 64) rfl rfl (by decide +kernel) (fun _ _ _ h => h) (Or.inl ⟨by rfl, fun W hW => by obtain ⟨s0, s1⟩ := hW; go_simp⟩) ⟨HK3.out.cell 0, HK3.out.cell 1⟩ ?_
   try simp only [Act.put, qz0, qz1, qz2]
   refine H_takeD (k := 29) (v := .int .i64 cy) (d := some 65) rfl rfl (by decide +kernel) (fun _ _ _ h => h) (Or.inl ⟨by rfl, fun W hW => by obtain ⟨s0, s1⟩ := hW; go_simp⟩) ⟨HK3.out.cell 0, HK3.out.cell 1⟩ ?_
   try simp only [Act.put, qz0, qz1, qz2]
   refine H_takeD (k := 30) (v := .int .i64 n) (d := some 66) rfl rfl (by decide +kernel) (fun _ _ _ h => h) (Or.inl ⟨by rfl, fun W hW => by obtain ⟨s0, s1⟩ := hW; go_simp⟩) ⟨HK3.out.cell 0, HK3.out.cell 1⟩ ?_
   try simp only [Act.put, qz0, qz1, qz2]
   refine H_takeD (k := 31) (v := .int .i64 (n / 1728)) (d := some 67) rfl rfl (by decide +kernel) (fun _ _ _ h => h) (Or.inl ⟨by rfl, fun W hW => by obtain ⟨s0, s1⟩ := hW; go_simp⟩) ⟨HK3.out.cell 0, HK3.out.cell 1⟩ ?_
   try simp only [Act.put, qz0, qz1, qz2]
   refine H_takeD (k := 32) (v := .int .i64 r) (d := some 68) rfl rfl (by decide +kernel) (fun _ _ _ h => h) (Or.inl ⟨by rfl, fun W hW => by obtain ⟨s0, s1⟩ := hW; go_simp⟩) ⟨HK3.out.cell 0, HK3.out.cell 1⟩ ?_
   try simp only [Act.put, qz0, qz1, qz2]
   refine H_takeD (k := 33) (v := .int .i64 a3) (d := some 69) rfl rfl (by decide +kernel) (fun _ _ _ h => h) (Or.inl ⟨by rfl, fun W hW => by obtain ⟨s0, s1⟩ := hW; go_simp⟩) ⟨HK3.out.cell 0, HK3.out.cell 1⟩ ?_
   try simp only [Act.put, qz0, qz1, qz2]
   refine H_takeD (k := 34) (v := .int .i64 (cy + a3)) (d := some 70) rfl rfl (by decide +kernel) (fun _ _ _ h => h) (Or.inl ⟨by rfl, fun W hW => by obtain ⟨s0, s1⟩ := hW; go_simp⟩) ⟨HK3.out.cell 0, HK3.out.cell 1⟩ ?_
   try simp only [Act.put, qz0, qz1, qz2]
   refine H_takeD (k := 35) (v := .agg #[.int .i64 (cx + r), .int .i64 (cy + a3)]) (d := some 71) rfl rfl (by decide +kernel) (fun _ _ _ h => h) (Or.inl ⟨by rfl, fun W hW => by obtain ⟨s0, s1⟩ := hW; go_simp⟩) ⟨HK3.out.cell 0, HK3.out.cell 1⟩ ?_
   try simp only [Act.put, qz0, qz1, qz2]
   refine H_takeD (k := 36) (v := .pointer (some ⟨h, 0, none⟩)) (d := some 72) rfl rfl (by decide +kernel) (fun _ _ _ h => h) (Or.inl ⟨by rfl, fun W hW => by obtain ⟨s0, s1⟩ := hW; go_simp⟩) ⟨HK3.out.cell 0, HK3.out.cell 1⟩ ?_
   try simp only [Act.put, qz0, qz1, qz2]
   refine H_takeD (k := 37) (v := .int .i64 cx) (d := some 73) rfl rfl (by decide +kernel) (fun _ _ _ h => h) (Or.inl ⟨by rfl, fun W hW => by obtain ⟨s0, s1⟩ := hW; go_simp⟩) ⟨HK3.out.cell 0, HK3.out.cell 1⟩ ?_
   try simp only [Act.put, qz0, qz1, qz2]
   refine H_takeD (k := 38) (v := .int .i64 n) (d := some 74) rfl rfl (by decide +kernel) (fun _ _ _ h => h) (Or.inl ⟨by rfl, fun W hW => by obtain ⟨s0, s1⟩ := hW; go_simp⟩) ⟨HK3.out.cell 0, HK3.out.cell 1⟩ ?_
   try simp only [Act.put, qz0, qz1, qz2]
   refine H_takeD (k := 39) (v := .int .i64 (n / 36)) (d := some 75) rfl rfl (by decide +kernel) (fun _ _ _ h => h) (Or.inl ⟨by rfl, fun W hW => by obtain ⟨s0, s1⟩ := hW; go_simp⟩) ⟨HK3.out.cell 0, HK3.out.cell 1⟩ ?_
   try simp only [Act.put, qz0, qz1, qz2]
   refine H_takeD (k := 40) (v := .int .i64 r) (d := some 76) rfl rfl (by decide +kernel) (fun _ _ _ h => h) (Or.inl ⟨by rfl, fun W hW => by obtain ⟨s0, s1⟩ := hW; go_simp⟩) ⟨HK3.out.cell 0, HK3.out.cell 1⟩ ?_
   try simp only [Act.put, qz0, qz1, qz2]
   refine H_takeD (k := 41) (v := .int .i64 a4) (d := some 77) rfl rfl (by decide +kernel) (fun _ _ _ h => h) (Or.inl ⟨by rfl, fun W hW => by obtain ⟨s0, s1⟩ := hW; go_simp⟩) ⟨HK3.out.cell 0, HK3.out.cell 1⟩ ?_
   try simp only [Act.put, qz0, qz1, qz2]
   refine H_takeD (k := 42) (v := .int .i64 (cx - a4)) (d := some 78) rfl rfl (by decide +kernel) (fun _ _ _ h => h) (Or.inl ⟨by rfl, fun W hW => by obtain ⟨s0, s1⟩ := hW; go_simp⟩) ⟨HK3.out.cell 0, HK3.out.cell 1⟩ ?_
   try simp only [Act.put, qz0, qz1, qz2]
   refine H_takeD (k := 43) (v := .pointer (some ⟨h, 1, none⟩)) (d := some 79) rfl rfl (by decide +kernel) (fun _ _ _ h => h) (Or.inl ⟨by rfl, fun W hW => by obtain ⟨s0, s1⟩ := hW; go_simp⟩) ⟨HK3.out.cell 0, HK3.out.cell 1⟩ ?_
   try simp only [Act.put, qz0, qz1, qz2]
   refine H_takeD (k := 44) (v := .int .i64 cy) (d := some 80) rfl rfl (by decide +kernel) (fun _ _ _ h => h) (Or.inl ⟨by rfl, fun W hW => by obtain ⟨s0, s1⟩ := hW; go_simp⟩) ⟨HK3.out.cell 0, HK3.out.cell 1⟩ ?_
   try simp only [Act.put, qz0, qz1, qz2]
   refine H_takeD (k := 45) (v := .int .i64 r) (d := some 81) rfl rfl (by decide +kernel) (fun _ _ _ h => h) (Or.inl ⟨by rfl, fun W hW => by obtain ⟨s0, s1⟩ := hW; go_simp⟩) ⟨HK3.out.cell 0, HK3.out.cell 1⟩ ?_
   try simp only [Act.put, qz0, qz1, qz2]
   refine H_takeD (k := 46) (v := .int .i64 (cy + r)) (d := some 82) rfl rfl (by decide +kernel) (fun _ _ _ h => h) (Or.inl ⟨by rfl, fun W hW => by obtain ⟨s0, s1⟩ := hW; go_simp⟩) ⟨HK3.out.cell 0, HK3.out.cell 1⟩ ?_
   try simp only [Act.put, qz0, qz1, qz2]
   refine H_takeD (k := 47) (v := .agg #[.int .i64 (cx - a4), .int .i64 (cy + r)]) (d := some 83) rfl rfl (by decide +kernel) (fun _ _ _ h => h) (Or.inl ⟨by rfl, fun W hW => by obtain ⟨s0, s1⟩ := hW; go_simp⟩) ⟨HK3.out.cell 0, HK3.out.cell 1⟩ ?_
   try simp only [Act.put, qz0, qz1, qz2]
   refine H_takeD (k := 48) (v := .pointer (some ⟨h, 0, none⟩)) (d := some 84) rfl rfl (by decide +kernel) (fun _ _ _ h => h) (Or.inl ⟨by rfl, fun W hW => by obtain ⟨s0, s1⟩ := hW; go_simp⟩) ⟨HK3.out.cell 0, HK3.out.cell 1⟩ ?_
   try simp only [Act.put, qz0, qz1, qz2]
   refine H_takeD (k := 49) (v := .int .i64 cx) (d := some 85) rfl rfl (by decide +kernel) (fun _ _ _ h => h) (Or.inl ⟨by rfl, fun W hW => by obtain ⟨s0, s1⟩ := hW; go_simp⟩) ⟨HK3.out.cell 0, HK3.out.cell 1⟩ ?_
   try simp only [Act.put, qz0, qz1, qz2]
   refine H_takeD (k := 50) (v := .int .i64 r) (d := some 86) rfl rfl (by decide +kernel) (fun _ _ _ h => h) (Or.inl ⟨by rfl, fun W hW => by obtain ⟨s0, s1⟩ := hW; go_simp⟩) ⟨HK3.out.cell 0, HK3.out.cell 1⟩ ?_
   try simp only [Act.put, qz0, qz1, qz2]
   refine H_takeD (k := 51) (v := .int .i64 (cx - r)) (d := some 87) rfl rfl (by decide +kernel) (fun _ _ _ h => h) (Or.inl ⟨by rfl, fun W hW => by obtain ⟨s0, s1⟩ := hW; go_simp⟩) ⟨HK3.out.cell 0, HK3.out.cell 1⟩ ?_
   try simp only [Act.put, qz0, qz1, qz2]
   refine H_takeD (k := 52) (v := .pointer (some ⟨h, 1, none⟩)) (d := some 88) rfl rfl (by decide +kernel) (fun _ _ _ h => h) (Or.inl ⟨by rfl, fun W hW => by obtain ⟨s0, s1⟩ := hW; go_simp⟩) ⟨HK3.out.cell 0, HK3.out.cell 1⟩ ?_
   try simp only [Act.put, qz0, qz1, qz2]
   refine H_takeD (k := 53) (v := .int .i64 cy) (d := some 89) rfl rfl (by decide +kernel) (fun _ _ _ h => h) (Or.inl ⟨by rfl, fun W hW => by obtain ⟨s0, s1⟩ := hW; go_simp⟩) ⟨HK3.out.cell 0, HK3.out.cell 1⟩ ?_
   try simp only [Act.put, qz0, qz1, qz2]
   refine H_takeD (k := 54) (v := .int .i64 n) (d := some 90) rfl rfl (by decide +kernel) (fun _ _ _ h => h) (Or.inl ⟨by rfl, fun W hW => by obtain ⟨s0, s1⟩ := hW; go_simp⟩) ⟨HK3.out.cell 0, HK3.out.cell 1⟩ ?_
   try simp only [Act.put, qz0, qz1, qz2]
   refine H_takeD (k := 55) (v := .int .i64 (n / 500)) (d := some 91) rfl rfl (by decide +kernel) (fun _ _ _ h => h) (Or.inl ⟨by rfl, fun W hW => by obtain ⟨s0, s1⟩ := hW; go_simp⟩) ⟨HK3.out.cell 0, HK3.out.cell 1⟩ ?_
   try simp only [Act.put, qz0, qz1, qz2]
   refine H_takeD (k := 56) (v := .int .i64 r) (d := some 92) rfl rfl (by decide +kernel) (fun _ _ _ h => h) (Or.inl ⟨by rfl, fun W hW => by obtain ⟨s0, s1⟩ := hW; go_simp⟩) ⟨HK3.out.cell 0, HK3.out.cell 1⟩ ?_
   try simp only [Act.put, qz0, qz1, qz2]
   refine H_takeD (k := 57) (v := .int .i64 a5) (d := some 93) rfl rfl (by decide +kernel) (fun _ _ _ h => h) (Or.inl ⟨by rfl, fun W hW => by obtain ⟨s0, s1⟩ := hW; go_simp⟩) ⟨HK3.out.cell 0, HK3.out.cell 1⟩ ?_
   try simp only [Act.put, qz0, qz1, qz2]
   refine H_takeD (k := 58) (v := .int .i64 (cy + a5)) (d := some 94) rfl rfl (by decide +kernel) (fun _ _ _ h => h) (Or.inl ⟨by rfl, fun W hW => by obtain ⟨s0, s1⟩ := hW; go_simp⟩) ⟨HK3.out.cell 0, HK3.out.cell 1⟩ ?_
   try simp only [Act.put, qz0, qz1, qz2]
   refine H_takeD (k := 59) (v := .agg #[.int .i64 (cx - r), .int .i64 (cy + a5)]) (d := some 95) rfl rfl (by decide +kernel) (fun _ _ _ h => h) (Or.inl ⟨by rfl, fun W hW => by obtain ⟨s0, s1⟩ := hW; go_simp⟩) ⟨HK3.out.cell 0, HK3.out.cell 1⟩ ?_
   try simp only [Act.put, qz0, qz1, qz2]
   refine H_one (i := 60) (by decide +kernel) (H_step rfl rfl (fun K hK60 => ?_))
   have hK60 := Lib.hid hK60
   go_simp
   have HB4 := Lib.hid (HB3.out.alloc HB3.out.size (.cells #[.int .i64 (cx - r), .int .i64 (cy - a1), .int .i64 (cx + a2), .int .i64 (cy - r), .int .i64 (cx + r), .int .i64 (cy + a3), .int .i64 (cx - a4), .int .i64 (cy + r), .int .i64 (cx - r), .int .i64 (cy + a5)] 58))
   have HO4 := Lib.hid (HO3.out.alloc (.cells #[.int .i64 (cx - r), .int .i64 (cy - a1), .int .i64 (cx + a2), .int .i64 (cy - r), .int .i64 (cx + r), .int .i64 (cy + a3), .int .i64 (cx - a4), .int .i64 (cy + r), .int .i64 (cx - r), .int .i64 (cy + a5)] 58))
   have HK4 := Lib.hid (Bk.new X0 58 #[.int .i64 (cx - r), .int .i64 (cy - a1), .int .i64 (cx + a2), .int .i64 (cy - r), .int .i64 (cx + r), .int .i64 (cy + a3), .int .i64 (cx - a4), .int .i64 (cy + r), .int .i64 (cx - r), .int .i64 (cy + a5)])
   have HK3b := Lib.hid (HK3.out.alloc (.cells #[.int .i64 (cx - r), .int .i64 (cy - a1), .int .i64 (cx + a2), .int .i64 (cy - r), .int .i64 (cx + r), .int .i64 (cy + a3), .int .i64 (cx - a4), .int .i64 (cy + r), .int .i64 (cx - r), .int .i64 (cy + a5)] 58))
   refine hK60.out _ _ ⟨HK3b.out.cell 0, HK3b.out.cell 1⟩ ?_
   try simp only [Act.put, qz0, qz1, qz2]
   generalize X0.alloc (.cells #[.int .i64 (cx - r), .int .i64 (cy - a1), .int .i64 (cx + a2), .int .i64 (cy - r), .int .i64 (cx + r), .int .i64 (cy + a3), .int .i64 (cx - a4), .int .i64 (cy + r), .int .i64 (cx - r), .int .i64 (cy + a5)] 58) = W4 at *
   generalize X0.heap.size = Q at *
   refine H_takeD (k := 61) (v := .slice (some ⟨Q, 0, none⟩) 5 5) (d := some 8) rfl rfl (by decide +kernel) (fun _ _ _ h => h) (Or.inl ⟨by rfl, fun W hW => by obtain ⟨s0, s1⟩ := hW; go_simp⟩) ⟨HK3b.out.cell 0, HK3b.out.cell 1⟩ ?_
   try simp only [Act.put, qz0, qz1, qz2]
   refine H_end (by decide +kernel) (NoPanic.normal ?_)
   try simp only [Act.put, qz0, qz1, qz2]
   obtain ⟨m, hm⟩ : ∃ m : Nat, Hid (n / 7 % 3 + 3 = (m : Int)) := ⟨(n / 7 % 3 + 3).toNat, Lib.hid (by show _ = _; omega)⟩
   have hmb : 3 ≤ m ∧ m ≤ 5 := by have := hm.out; omega
   have d7 : n.tdiv 7 = n / 7 := Int.tdiv_eq_ediv_of_nonneg (by omega)
   have t7 : (n / 7).tmod 3 = n / 7 % 3 := Int.tmod_eq_emod_of_nonneg (by omega)
   have u7 : IntKind.i64.wrap (n / 7) = n / 7 := IntWalk.i64_in _ ⟨by omega, by omega⟩
   have u73 : IntKind.i64.wrap (n / 7 % 3) = n / 7 % 3 := IntWalk.i64_in _ ⟨by omega, by omega⟩
   have u3 : IntKind.i64.wrap (3 + n / 7 % 3) = (m : Int) := by rw [Int.add_comm, hm.out]; exact IntWalk.i64_in _ ⟨by omega, by omega⟩
   have hm5 : (m : Int) ≤ 5 := by omega
   have hm5n : m ≤ 5 := by omega
   obtain ⟨pts, hpts⟩ : ∃ z : List (Int × Int), Hid ([(cx - r, cy - a1), (cx + a2, cy - r), (cx + r, cy + a3), (cx - a4, cy + r), (cx - r, cy + a5)] = z) := ⟨_, Lib.hid rfl⟩
   have Hpl := Lib.hid (show pts.length = 5 from by rw [← hpts.out]; rfl)
   have Hpb := Lib.hid (show ∀ t ∈ pts, near t.1 ∧ near t.2 from by
    rw [← hpts.out]
    intro t ht
    simp only [List.mem_cons, List.not_mem_nil, or_false] at ht
    unfold near
    rcases ht with rfl | rfl | rfl | rfl | rfl <;> (dsimp only; omega))
   have HQ4 := Lib.hid (fun (W : World) (h : Bk W Q 58 (#[.int .i64 (cx - r), .int .i64 (cy - a1), .int .i64 (cx + a2), .int .i64 (cy - r), .int .i64 (cx + r), .int .i64 (cy + a3), .int .i64 (cx - a4), .int .i64 (cy + r), .int .i64 (cx - r), .int .i64 (cy + a5)] : Array Value)) => (show SR W (some ⟨Q, 0, none⟩) pts from by rw [← hpts.out]; exact sl_bk h))
   obtain ⟨qc, hqc⟩ : ∃ z : Array Value, Hid (#[.int .i64 (cx - r), .int .i64 (cy - a1), .int .i64 (cx + a2), .int .i64 (cy - r), .int .i64 (cx + r), .int .i64 (cy + a3), .int .i64 (cx - a4), .int .i64 (cy + r), .int .i64 (cx - r), .int .i64 (cy + a5)] = z) := ⟨_, Lib.hid rfl⟩
   rw [hqc.out] at HQ4 HK4
   clear ta1 va1 ua1 ba1 d12 ta2 va2 ua2 ba2 d144 ta3 va3 ua3 ba3 d1728 ta4 va4 ua4 ba4 d36 ta5 va5 ua5 ba5 d500 q0_ q1_ q2_ q3_ q4_ q5_ q6_ q7_ q8_ wr1 w12 e12
   go_wp2_with fail
   go_loopw [3, 9] (fun o i wr => ∃ (j : Nat) (sg : List Sg), j ≤ m ∧ i = .int .i64 (j : Int) ∧ Hid (sg.length ≤ j) ∧ Hid (wr.ownsRow w.heap.size 60 4 o sg.length (sgC sg)) ∧ Hid (∀ s ∈ sg, sgOK s) ∧ Hid (Below w.heap.size w wr) ∧ Hid (Bk wr Q 58 qc)) (fun _ i _ => m - (intOf i).toNat)
   case atStart => exact ⟨0, sg, by omega, rfl, Lib.hid (by have := hsl.out; omega), HO4, HP, HB4, HK4⟩
   case round =>
    clear HO4 HB4 HK4 HP hsl HK3 HK3b HB3 HO3
    obtain ⟨j, sg, hj, rfl, hsl, HO, HP, HB, HK⟩ := hrel
    have j0 : (0 : Int) ≤ (j : Int) := by omega
    by_cases hlt : j < m
    ·have hp5 := Hpl.out
     obtain ⟨b1, o1, x1, y1, e1, c0, c1, hx1⟩ := (HQ4.out wr HK.out).get (k := j) (by omega)
     injection e1 with e1
     injection e1 with e1 e2
     subst e1 e2
     obtain ⟨jn, hjn⟩ : ∃ z : Nat, Hid ((j + 1) % m = z) := ⟨_, Lib.hid rfl⟩
     have hjm : jn < m := by rw [← hjn.out]; exact Nat.mod_lt _ (by omega)
     have ej : ((j : Int) + 1).tmod (m : Int) = (jn : Int) := by rw [Int.tmod_eq_emod_of_nonneg (by omega), ← hjn.out]; rfl
     have ew : IntKind.i64.wrap ((j : Int) + 1) = (j : Int) + 1 := IntWalk.i64_in _ ⟨by omega, by omega⟩
     have ewn : IntKind.i64.wrap (jn : Int) = (jn : Int) := IntWalk.i64_in _ ⟨by omega, by omega⟩
     have em0 : ¬ (m : Int) = 0 := by omega
     obtain ⟨b2, o2, x2, y2, e1, c2, c3, hx2⟩ := (HQ4.out (wr.alloc (.cells #[.int .i64 x1, .int .i64 y1] 58)) (HK.out.alloc _)).get (k := jn) (by omega)
     injection e1 with e1
     injection e1 with e1 e2
     subst e1 e2
     rw [Nat.zero_add] at c0 c1 c2 c3
     obtain ⟨z, hz⟩ : ∃ z, Hid ((!(x1 == x2 && y1 == y2)) = z) := ⟨_, Lib.hid rfl⟩
     have heq := fun W => hz.out ▸ neq_point x1 y1 x2 y2 W
     have hn1 := Lib.hid (Hpb.out _ (List.mem_of_getElem? hx1.out))
     have hn2 := Lib.hid (Hpb.out _ (List.mem_of_getElem? hx2.out))
     have HOa := Lib.hid ((HO.out.alloc (.cells #[.int .i64 x1, .int .i64 y1] 58)).alloc (.cells #[.int .i64 x2, .int .i64 y2] 58))
     have HBa := Lib.hid ((HB.out.alloc HB.out.size (.cells #[.int .i64 x1, .int .i64 y1] 58)).alloc (Nat.le_trans HB.out.size (by simp)) (.cells #[.int .i64 x2, .int .i64 y2] 58))
     have HKa := Lib.hid ((HK.out.alloc (.cells #[.int .i64 x1, .int .i64 y1] 58)).alloc (.cells #[.int .i64 x2, .int .i64 y2] 58))
     have hsz := HBa.out.size
     have hsn : sg.length < 1099511627776 := by have := hsl.out; omega
     have hownA := HOa.out
     clear hx1 hx2 HO HB HK
     cases z with
     | true =>
      go_wp2_with (at_builtin; refine wpList_app2 (w := (wr.alloc (.cells #[.int .i64 x1, .int .i64 y1] 58)).alloc (.cells #[.int .i64 x2, .int .i64 y2] 58)) rfl _ _ rfl elt_seg hownA hsz rfl rfl (by simp) rfl rfl hsn ?_; intro v2 w3 hown2 hg2 hz2)
      go_roundw
      case rel =>
       refine ⟨j + 1, sg ++ [⟨x1, y1, x2, y2⟩], by omega, by go_num, Lib.hid (by have := hsl.out; rw [List.length_append]; simp; omega), Lib.hid (by rw [sgC_app, List.length_append]; exact hown2), Lib.hid (fun s hs => ?_), Lib.hid (HBa.out.grown hg2 hsz (fun q hq => (hownA.lt q hq).1)), Lib.hid (HKa.out.grown hg2 (HKa.out.ne_own hownA (by decide)))⟩
       rcases List.mem_append.1 hs with hs | hs
       ·exact HP.out s hs
       ·rw [List.mem_singleton.1 hs]
        exact ⟨hn1.out, hn2.out, by have := hz.out; simp at this; dsimp only; intro h; exact this.elim (fun q => q h.1) (fun q => q h.2)⟩
      case measure => simp [intOf]; omega
     | false =>
      clear hownA hsn
      go_wp2_with fail
      go_roundw
      case rel => exact ⟨j + 1, sg, by omega, by go_num, Lib.hid (by have := hsl.out; omega), HOa, HP, HBa, HKa⟩
      case measure => simp [intOf]; omega
    ·have h5 : sg.length ≤ 5 := by have := hsl.out; omega
     clear HK hsl HQ4
     go_wp2_with fail
     go_roundw
     case rel => exact ⟨1, sg, by omega, by go_num, Lib.hid (by omega), HO, HP, HB⟩
     case measure => simp [intOf]
  ·have HBz := Lib.hid HB.out
   obtain ⟨S, cS, rfl⟩ := own_slice HO.out
   have h5 : sg.length ≤ 5 := by have := hsl.out; omega
   clear hsl HB
   go_wp2_with fail
   go_ret
   exact ⟨sg, S, cS, rfl, h5, HO.out, HP.out, HBz.out⟩
end Go.Proofs.YtnapnkmehnabfaaGreat
