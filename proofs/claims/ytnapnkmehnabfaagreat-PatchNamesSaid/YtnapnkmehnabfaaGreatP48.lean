import Derived.Test.YtnapnkmehnabfaaGreatP47
namespace Go.Proofs.YtnapnkmehnabfaaGreat
open Go.RowKit Go.Maps

def inSq (s : Sg) (B : Int) : Prop := (0 ≤ s.ax ∧ s.ax ≤ B) ∧ (0 ≤ s.ay ∧ s.ay ≤ B) ∧ (0 ≤ s.bx ∧ s.bx ≤ B) ∧ (0 ≤ s.by_ ∧ s.by_ ≤ B) ∧ ¬ (s.ax = s.bx ∧ s.ay = s.by_)
theorem sg_two {w : World} {base c : Nat} {S : Option Addr} {s : Sg} (h : w.ownsRow base 60 4 (.slice S 1 c) 1 (sgC [s])) : ∃ g, S = some ⟨g, 0, none⟩ ∧ w.cell? ⟨g, 0, none⟩ = some (.int .i64 s.ax) ∧ w.cell? ⟨g, 1, none⟩ = some (.int .i64 s.ay) ∧ w.cell? ⟨g, 2, none⟩ = some (.int .i64 s.bx) ∧ w.cell? ⟨g, 3, none⟩ = some (.int .i64 s.by_) := by
 rcases h.2 with ⟨e, _⟩ | ⟨g, cap, cur, e, hb, hg, h1, h2, h3, h4⟩
 ·injection e with e1 e2 e3; cases e2
 ·injection e with e1 e2 e3
  have hc := fun (j : Nat) (v : Value) (hv : (sgC [s])[j]? = some v) => (h.cells (g := g) (by rw [e1]; rfl) j v hv)
  have ha : ∀ j : Nat, (⟨g, 0, none⟩ : Addr).add j = ⟨g, j, none⟩ := fun j => by
   unfold Addr.add
   split
   ·rename_i h; subst h; rfl
   ·simp
  refine ⟨g, e1, ?_, ?_, ?_, ?_⟩
  ·rw [← ha 0]; exact hc 0 _ rfl
  ·rw [← ha 1]; exact hc 1 _ rfl
  ·rw [← ha 2]; exact hc 2 _ rfl
  ·rw [← ha 3]; exact hc 3 _ rfl
set_option linter.unusedSimpArgs false in
set_option maxHeartbeats 16000000 in
set_option maxRecDepth 100000 in
theorem segs_any (A : Option Addr) (c : Nat) (l : List Int) (w : World) (hA : SI w A l) (hl : W64 l) (hl2 : l.length = 2) :
  Calls Tryz.prog 168 #[.slice A 2 c, .int .i64 2] w fun e w' => ∃ (sg : List Sg) (S : Option Addr) (cS : Nat), e = .returned (.slice S sg.length cS) ∧ sg.length ≤ 5 ∧ w'.ownsRow w.heap.size 60 4 (.slice S sg.length cS) sg.length (sgC sg) ∧ (∀ s ∈ sg, sgOK s) ∧ Below w.heap.size w w' := by
 have HAs := Lib.hid (fun (W : World) (h : Below w.heap.size w W) => (show SI W A l from hA.below h))
 have Hl := Lib.hid hl
 have Hl2 := Lib.hid hl2
 clear hA hl hl2
 go_enter Tryz.func168, Tryz.ntmps168
 go_wp2_with fail
 go_loopw [5, 6] (fun o i wr => ∃ (k : Nat) (sg : List Sg), k ≤ 2 ∧ i = .int .i64 (k : Int) ∧ Hid (sg.length = k) ∧ Hid (wr.ownsRow w.heap.size 60 4 o sg.length (sgC sg)) ∧ Hid (∀ s ∈ sg, inSq s (200 * (k : Int))) ∧ Hid (Below w.heap.size w wr)) (fun _ i _ => 2 - (intOf i).toNat)
 case atStart => exact ⟨0, [], by omega, rfl, Lib.hid rfl, Lib.hid (World.ownsRow_nil _ _ _ _), Lib.hid (by simp), Lib.hid (Below.refl _ _)⟩
 case round =>
  obtain ⟨k, sg, hk, rfl, hsl, HO, HP, HB⟩ := hrel
  have hk01 : k = 0 ∨ k = 1 ∨ k = 2 := by omega
  rcases hk01 with rfl | rfl | rfl
  ·have hk0 : l[0]? = some (l.getD 0 0) := by rw [List.getD_eq_getElem?_getD, List.getElem?_eq_getElem (by have := Hl2.out; omega)]; rfl
   obtain ⟨lx, hlx⟩ : ∃ z, Hid (l.getD 0 0 = z) := ⟨_, Lib.hid rfl⟩
   rw [hlx.out] at hk0
   have hlw := Hl.out _ (List.mem_of_getElem? hk0)
   obtain ⟨bA, oA, lx', hae, cA, hx'⟩ := (HAs.out wr HB.out).get (k := 0) (by have := Hl2.out; omega)
   have hxx : lx' = lx := by have h := hx'.out; rw [hk0] at h; injection h with h; exact h.symm
   subst hxx
   have hab := around_bd lx' 1048576 (by decide)
   have HAr := Lib.hid (fun W => around_any lx' 1048576 W hlw.1 hlw.2 (by decide) (by decide))
   obtain ⟨n, hn⟩ : ∃ z, Hid (around lx' 1048576 = z) := ⟨_, Lib.hid rfl⟩
   simp only [hn.out] at hab HAr
   have d16 : n.tdiv 16 = n / 16 := Int.tdiv_eq_ediv_of_nonneg (by omega)
   have m4096 : n.tmod 4096 = n % 4096 := Int.tmod_eq_emod_of_nonneg (by omega)
   have m4 : n.tmod 4 = n % 4 := Int.tmod_eq_emod_of_nonneg (by omega)
   have m16 : n.tmod 16 = n % 16 := Int.tmod_eq_emod_of_nonneg (by omega)
   have m3 : n.tmod 3 = n % 3 := Int.tmod_eq_emod_of_nonneg (by omega)
   have w16 : IntKind.i64.wrap (n / 16) = n / 16 := IntWalk.i64_in _ ⟨by omega, by omega⟩
   have w4096 : IntKind.i64.wrap (n % 4096) = n % 4096 := IntWalk.i64_in _ ⟨by omega, by omega⟩
   have w4 : IntKind.i64.wrap (n % 4) = n % 4 := IntWalk.i64_in _ ⟨by omega, by omega⟩
   have wm16 : IntKind.i64.wrap (n % 16) = n % 16 := IntWalk.i64_in _ ⟨by omega, by omega⟩
   have w3 : IntKind.i64.wrap (n % 3) = n % 3 := IntWalk.i64_in _ ⟨by omega, by omega⟩
   have ws : IntKind.i64.wrap (n / 16 + n % 4096) = n / 16 + n % 4096 := IntWalk.i64_in _ ⟨by omega, by omega⟩
   rw [hae, show ((0 : Nat) : Int) = 0 from rfl]
   try rw [Nat.add_zero] at cA
   clear hk0 hx' hlw hlx
   obtain ⟨S, cS, rfl⟩ := own_slice HO.out
   have HOk := Lib.hid (show wr.ownsRow w.heap.size 60 4 (.slice S 0 cS) 0 (sgC sg) from by have h := HO.out; rw [hsl.out] at h; exact h)
   rw [hsl.out]
   clear HO
   have HO := HOk
   clear HOk
   go_wp2_with fail
   refine (HAr.out wr).mono ?_
   rintro e w1 ⟨rfl, rfl⟩
   go_wp2_with fail
   refine (grid_any (n / 16) wr ⟨by omega, by omega⟩).mono ?_
   rintro e w2 ⟨ax, ay, rfl, hax, hay, hb2⟩
   go_wp2_with fail
   refine (grid_any (n / 16 + n % 4096) _ ⟨by omega, by omega⟩).mono ?_
   rintro e w3 ⟨bx, by_, rfl, hbx, hby, hb3⟩
   have HKa := Lib.hid (((Bk.new w2 58 #[.int .i64 ax, .int .i64 ay]).below hb3 (by simp)).alloc (.cells #[.int .i64 bx, .int .i64 by_] 58))
   have HKb := Lib.hid (Bk.new w3 58 #[.int .i64 bx, .int .i64 by_])
   have hbA := HB.out.trans (hb2.mono HB.out.size)
   have hbB := hbA.alloc hbA.size (.cells #[.int .i64 ax, .int .i64 ay] 58)
   have hbC := hbB.trans (hb3.mono hbB.size)
   have HB4 := Lib.hid (hbC.alloc hbC.size (.cells #[.int .i64 bx, .int .i64 by_] 58))
   have HO4 := Lib.hid ((own_below ((own_below HO.out hb2).alloc (.cells #[.int .i64 ax, .int .i64 ay] 58)) hb3).alloc (.cells #[.int .i64 bx, .int .i64 by_] 58))
   have hgl : w.heap.size ≤ w2.heap.size := hbA.size
   have hgl2 : w.heap.size ≤ w3.heap.size := hbC.size
   have hgh : w2.heap.size ≠ w3.heap.size := by have := hb3.size; simp at this; omega
   clear hb2 hb3 hbA hbB hbC HB HO cA
   go_upto_region 8 with fail
   generalize hGW : w3.alloc (.cells #[.int .i64 bx, .int .i64 by_] 58) = W4 at *
   clear hGW
   generalize w2.heap.size = g at *
   generalize w3.heap.size = h at *
   have ga0 : W4.cell? ⟨g, 0, none⟩ = some (.int .i64 ax) := HKa.out.cell 0
   have ga1 : W4.cell? ⟨g, 1, none⟩ = some (.int .i64 ay) := HKa.out.cell 1
   have gb1 : W4.cell? ⟨h, 1, none⟩ = some (.int .i64 by_) := HKb.out.cell 1
   have fb1 := HKb.out.frozen 1
   have hlh : w.heap.size ≤ h := hgl2
   by_cases h7 : n % 16 = 7
   ·have b7 : (n % 16 == 7) = true := by simp [h7]
    go_upto_region 19 with fail
    have HKa5 := Lib.hid (HKa.out.far (p := ⟨h, 1, none⟩) hgh (.int .i64 ay))
    have HKb5 := Lib.hid (show Bk (W4.setCell ⟨h, 1, none⟩ (.int .i64 ay)) h 58 #[.int .i64 bx, .int .i64 ay] from HKb.out.set_ 1 _)
    have HO5 := Lib.hid (own_set (i := 1) HO4.out (HKb.out.ne_own HO4.out (by decide)) (.int .i64 ay))
    have HB5 := Lib.hid (HB4.out.setCell (p := ⟨h, 1, none⟩) hlh (.int .i64 ay))
    clear ga0 ga1 gb1 fb1 h7 b7 HKa HKb HO4 HB4
    generalize W4.setCell ⟨h, 1, none⟩ (.int .i64 ay) = W5 at *
    have ga0 : W5.cell? ⟨g, 0, none⟩ = some (.int .i64 (ax)) := HKa5.out.cell 0
    have ga1 : W5.cell? ⟨g, 1, none⟩ = some (.int .i64 (ay)) := HKa5.out.cell 1
    have gb0 : W5.cell? ⟨h, 0, none⟩ = some (.int .i64 (bx)) := HKb5.out.cell 0
    have gb1 : W5.cell? ⟨h, 1, none⟩ = some (.int .i64 (ay)) := HKb5.out.cell 1
    have fb0 := HKb5.out.frozen 0
    have fb1 := HKb5.out.frozen 1
    obtain ⟨z, hz⟩ : ∃ z, Hid ((ax == bx && ay == ay) = z) := ⟨_, Lib.hid rfl⟩
    have heq := fun W => hz.out ▸ eql_point (ax) (ay) (bx) (ay) W
    have wa1 : IntKind.i64.wrap (ax + 1) = ax + 1 := IntWalk.i64_in _ ⟨by omega, by omega⟩
    have wa2 : IntKind.i64.wrap (ay + n % 3) = ay + n % 3 := IntWalk.i64_in _ ⟨by omega, by omega⟩
    have hszF : w.heap.size ≤ W5.heap.size := HB5.out.size
    have hownF := HO5.out
    cases z with
    | false =>
     go_wp2_with (at_builtin; refine wpList_app2 (w := W5) rfl _ _ rfl elt_seg hownF hszF rfl rfl rfl rfl rfl (by have := hsl.out; omega) ?_; intro v6 w6 hown6 hg6 hz6)
     go_roundw
     case rel =>
      refine ⟨1, sg ++ [⟨ax, ay, bx, ay⟩], by omega, by go_num, Lib.hid (by rw [List.length_append, hsl.out]; rfl), Lib.hid (by rw [sgC_app, List.length_append, hsl.out]; exact hown6), Lib.hid (fun sX hs => ?_), Lib.hid (HB5.out.grown hg6 hszF (fun q hq => (hownF.lt q hq).1))⟩
      rcases List.mem_append.1 hs with hs | hs
      ·have h := HP.out sX hs; unfold inSq at h ⊢; refine ⟨?_, ?_, ?_, ?_, h.2.2.2.2⟩ <;> omega
      ·rw [List.mem_singleton.1 hs]
       refine ⟨?_, ?_, ?_, ?_, fun q => by have ht : (ax == bx && ay == ay) = true := by { rw [Bool.and_eq_true]; exact ⟨beq_iff_eq.2 q.1, beq_iff_eq.2 q.2⟩ }; rw [hz.out] at ht; cases ht⟩ <;> (dsimp only; omega)
     case measure => simp [intOf]
    | true =>
     have HB6 := Lib.hid ((HB5.out.setCell (p := ⟨h, 0, none⟩) hlh (.int .i64 (ax + 1))).setCell (p := ⟨h, 1, none⟩) hlh (.int .i64 (ay + n % 3)))
     have hne6 := (HKb5.out.set_ 0 (.int .i64 (ax + 1))).ne_own (own_set (i := 0) hownF (HKb5.out.ne_own hownF (by decide)) (.int .i64 (ax + 1))) (by decide)
     have hown7 := own_set (i := 1) (own_set (i := 0) hownF (HKb5.out.ne_own hownF (by decide)) (.int .i64 (ax + 1))) hne6 (.int .i64 (ay + n % 3))
     have hsz7 : w.heap.size ≤ ((W5.setCell ⟨h, 0, none⟩ (.int .i64 (ax + 1))).setCell ⟨h, 1, none⟩ (.int .i64 (ay + n % 3))).heap.size := HB6.out.size
     clear hne6
     go_wp2_with (at_builtin; refine wpList_app2 (w := (W5.setCell ⟨h, 0, none⟩ (.int .i64 (ax + 1))).setCell ⟨h, 1, none⟩ (.int .i64 (ay + n % 3))) rfl _ _ rfl elt_seg hown7 hsz7 rfl rfl (by simp) rfl rfl (by have := hsl.out; omega) ?_; intro v6 w6 hown6 hg6 hz6)
     go_roundw
     case rel =>
      refine ⟨1, sg ++ [⟨ax, ay, ax + 1, ay + n % 3⟩], by omega, by go_num, Lib.hid (by rw [List.length_append, hsl.out]; rfl), Lib.hid (by rw [sgC_app, List.length_append, hsl.out]; exact hown6), Lib.hid (fun sX hs => ?_), Lib.hid (HB6.out.grown hg6 hsz7 (fun q hq => (hown7.lt q hq).1))⟩
      rcases List.mem_append.1 hs with hs | hs
      ·have h := HP.out sX hs; unfold inSq at h ⊢; refine ⟨?_, ?_, ?_, ?_, h.2.2.2.2⟩ <;> omega
      ·rw [List.mem_singleton.1 hs]
       refine ⟨?_, ?_, ?_, ?_, fun q => ?_⟩ <;> (dsimp only at *; omega)
     case measure => simp [intOf]
   ·have b7 : (n % 16 == 7) = false := by simp [h7]
    go_upto_region 19 with fail
    have HKa5 := Lib.hid HKa.out
    have HKb5 := Lib.hid HKb.out
    have HO5 := Lib.hid HO4.out
    have HB5 := Lib.hid HB4.out
    clear ga0 ga1 gb1 fb1 h7 b7 HKa HKb HO4 HB4
    generalize W4 = W5 at *
    have ga0 : W5.cell? ⟨g, 0, none⟩ = some (.int .i64 (ax)) := HKa5.out.cell 0
    have ga1 : W5.cell? ⟨g, 1, none⟩ = some (.int .i64 (ay)) := HKa5.out.cell 1
    have gb0 : W5.cell? ⟨h, 0, none⟩ = some (.int .i64 (bx)) := HKb5.out.cell 0
    have gb1 : W5.cell? ⟨h, 1, none⟩ = some (.int .i64 (by_)) := HKb5.out.cell 1
    have fb0 := HKb5.out.frozen 0
    have fb1 := HKb5.out.frozen 1
    obtain ⟨z, hz⟩ : ∃ z, Hid ((ax == bx && ay == by_) = z) := ⟨_, Lib.hid rfl⟩
    have heq := fun W => hz.out ▸ eql_point (ax) (ay) (bx) (by_) W
    have wa1 : IntKind.i64.wrap (ax + 1) = ax + 1 := IntWalk.i64_in _ ⟨by omega, by omega⟩
    have wa2 : IntKind.i64.wrap (ay + n % 3) = ay + n % 3 := IntWalk.i64_in _ ⟨by omega, by omega⟩
    have hszF : w.heap.size ≤ W5.heap.size := HB5.out.size
    have hownF := HO5.out
    cases z with
    | false =>
     go_wp2_with (at_builtin; refine wpList_app2 (w := W5) rfl _ _ rfl elt_seg hownF hszF rfl rfl rfl rfl rfl (by have := hsl.out; omega) ?_; intro v6 w6 hown6 hg6 hz6)
     go_roundw
     case rel =>
      refine ⟨1, sg ++ [⟨ax, ay, bx, by_⟩], by omega, by go_num, Lib.hid (by rw [List.length_append, hsl.out]; rfl), Lib.hid (by rw [sgC_app, List.length_append, hsl.out]; exact hown6), Lib.hid (fun sX hs => ?_), Lib.hid (HB5.out.grown hg6 hszF (fun q hq => (hownF.lt q hq).1))⟩
      rcases List.mem_append.1 hs with hs | hs
      ·have h := HP.out sX hs; unfold inSq at h ⊢; refine ⟨?_, ?_, ?_, ?_, h.2.2.2.2⟩ <;> omega
      ·rw [List.mem_singleton.1 hs]
       refine ⟨?_, ?_, ?_, ?_, fun q => by have ht : (ax == bx && ay == by_) = true := by { rw [Bool.and_eq_true]; exact ⟨beq_iff_eq.2 q.1, beq_iff_eq.2 q.2⟩ }; rw [hz.out] at ht; cases ht⟩ <;> (dsimp only; omega)
     case measure => simp [intOf]
    | true =>
     have HB6 := Lib.hid ((HB5.out.setCell (p := ⟨h, 0, none⟩) hlh (.int .i64 (ax + 1))).setCell (p := ⟨h, 1, none⟩) hlh (.int .i64 (ay + n % 3)))
     have hne6 := (HKb5.out.set_ 0 (.int .i64 (ax + 1))).ne_own (own_set (i := 0) hownF (HKb5.out.ne_own hownF (by decide)) (.int .i64 (ax + 1))) (by decide)
     have hown7 := own_set (i := 1) (own_set (i := 0) hownF (HKb5.out.ne_own hownF (by decide)) (.int .i64 (ax + 1))) hne6 (.int .i64 (ay + n % 3))
     have hsz7 : w.heap.size ≤ ((W5.setCell ⟨h, 0, none⟩ (.int .i64 (ax + 1))).setCell ⟨h, 1, none⟩ (.int .i64 (ay + n % 3))).heap.size := HB6.out.size
     clear hne6
     go_wp2_with (at_builtin; refine wpList_app2 (w := (W5.setCell ⟨h, 0, none⟩ (.int .i64 (ax + 1))).setCell ⟨h, 1, none⟩ (.int .i64 (ay + n % 3))) rfl _ _ rfl elt_seg hown7 hsz7 rfl rfl (by simp) rfl rfl (by have := hsl.out; omega) ?_; intro v6 w6 hown6 hg6 hz6)
     go_roundw
     case rel =>
      refine ⟨1, sg ++ [⟨ax, ay, ax + 1, ay + n % 3⟩], by omega, by go_num, Lib.hid (by rw [List.length_append, hsl.out]; rfl), Lib.hid (by rw [sgC_app, List.length_append, hsl.out]; exact hown6), Lib.hid (fun sX hs => ?_), Lib.hid (HB6.out.grown hg6 hsz7 (fun q hq => (hown7.lt q hq).1))⟩
      rcases List.mem_append.1 hs with hs | hs
      ·have h := HP.out sX hs; unfold inSq at h ⊢; refine ⟨?_, ?_, ?_, ?_, h.2.2.2.2⟩ <;> omega
      ·rw [List.mem_singleton.1 hs]
       refine ⟨?_, ?_, ?_, ?_, fun q => ?_⟩ <;> (dsimp only at *; omega)
     case measure => simp [intOf]
  ·have hk0 : l[1]? = some (l.getD 1 0) := by rw [List.getD_eq_getElem?_getD, List.getElem?_eq_getElem (by have := Hl2.out; omega)]; rfl
   obtain ⟨lx, hlx⟩ : ∃ z, Hid (l.getD 1 0 = z) := ⟨_, Lib.hid rfl⟩
   rw [hlx.out] at hk0
   have hlw := Hl.out _ (List.mem_of_getElem? hk0)
   obtain ⟨bA, oA, lx', hae, cA, hx'⟩ := (HAs.out wr HB.out).get (k := 1) (by have := Hl2.out; omega)
   have hxx : lx' = lx := by have h := hx'.out; rw [hk0] at h; injection h with h; exact h.symm
   subst hxx
   have hab := around_bd lx' 1048576 (by decide)
   have HAr := Lib.hid (fun W => around_any lx' 1048576 W hlw.1 hlw.2 (by decide) (by decide))
   obtain ⟨n, hn⟩ : ∃ z, Hid (around lx' 1048576 = z) := ⟨_, Lib.hid rfl⟩
   simp only [hn.out] at hab HAr
   have d16 : n.tdiv 16 = n / 16 := Int.tdiv_eq_ediv_of_nonneg (by omega)
   have m4096 : n.tmod 4096 = n % 4096 := Int.tmod_eq_emod_of_nonneg (by omega)
   have m4 : n.tmod 4 = n % 4 := Int.tmod_eq_emod_of_nonneg (by omega)
   have m16 : n.tmod 16 = n % 16 := Int.tmod_eq_emod_of_nonneg (by omega)
   have m3 : n.tmod 3 = n % 3 := Int.tmod_eq_emod_of_nonneg (by omega)
   have w16 : IntKind.i64.wrap (n / 16) = n / 16 := IntWalk.i64_in _ ⟨by omega, by omega⟩
   have w4096 : IntKind.i64.wrap (n % 4096) = n % 4096 := IntWalk.i64_in _ ⟨by omega, by omega⟩
   have w4 : IntKind.i64.wrap (n % 4) = n % 4 := IntWalk.i64_in _ ⟨by omega, by omega⟩
   have wm16 : IntKind.i64.wrap (n % 16) = n % 16 := IntWalk.i64_in _ ⟨by omega, by omega⟩
   have w3 : IntKind.i64.wrap (n % 3) = n % 3 := IntWalk.i64_in _ ⟨by omega, by omega⟩
   have ws : IntKind.i64.wrap (n / 16 + n % 4096) = n / 16 + n % 4096 := IntWalk.i64_in _ ⟨by omega, by omega⟩
   rw [hae, show ((1 : Nat) : Int) = 1 from rfl]
   try rw [Nat.add_zero] at cA
   clear hk0 hx' hlw hlx
   obtain ⟨S, cS, rfl⟩ := own_slice HO.out
   have HOk := Lib.hid (show wr.ownsRow w.heap.size 60 4 (.slice S 1 cS) 1 (sgC sg) from by have h := HO.out; rw [hsl.out] at h; exact h)
   rw [hsl.out]
   clear HO
   have HO := HOk
   clear HOk
   go_wp2_with fail
   refine (HAr.out wr).mono ?_
   rintro e w1 ⟨rfl, rfl⟩
   go_wp2_with fail
   refine (grid_any (n / 16) wr ⟨by omega, by omega⟩).mono ?_
   rintro e w2 ⟨ax, ay, rfl, hax, hay, hb2⟩
   go_wp2_with fail
   refine (grid_any (n / 16 + n % 4096) _ ⟨by omega, by omega⟩).mono ?_
   rintro e w3 ⟨bx, by_, rfl, hbx, hby, hb3⟩
   have HKa := Lib.hid (((Bk.new w2 58 #[.int .i64 ax, .int .i64 ay]).below hb3 (by simp)).alloc (.cells #[.int .i64 bx, .int .i64 by_] 58))
   have HKb := Lib.hid (Bk.new w3 58 #[.int .i64 bx, .int .i64 by_])
   have hbA := HB.out.trans (hb2.mono HB.out.size)
   have hbB := hbA.alloc hbA.size (.cells #[.int .i64 ax, .int .i64 ay] 58)
   have hbC := hbB.trans (hb3.mono hbB.size)
   have HB4 := Lib.hid (hbC.alloc hbC.size (.cells #[.int .i64 bx, .int .i64 by_] 58))
   have HO4 := Lib.hid ((own_below ((own_below HO.out hb2).alloc (.cells #[.int .i64 ax, .int .i64 ay] 58)) hb3).alloc (.cells #[.int .i64 bx, .int .i64 by_] 58))
   have hgl : w.heap.size ≤ w2.heap.size := hbA.size
   have hgl2 : w.heap.size ≤ w3.heap.size := hbC.size
   have hgh : w2.heap.size ≠ w3.heap.size := by have := hb3.size; simp at this; omega
   clear hb2 hb3 hbA hbB hbC HB HO cA
   go_upto_region 8 with fail
   generalize hGW : w3.alloc (.cells #[.int .i64 bx, .int .i64 by_] 58) = W4 at *
   clear hGW
   generalize w2.heap.size = g at *
   generalize w3.heap.size = h at *
   obtain ⟨s, rfl⟩ : ∃ s, sg = [s] := by
    have h := hsl.out
    cases sg with
    | nil => cases h
    | cons s t => exact ⟨s, by rw [List.eq_nil_of_length_eq_zero (l := t) (by simpa using h)]⟩
   obtain ⟨q, rfl, s0, s1, s2, s3⟩ := sg_two HO4.out
   have hsq := HP.out s (by simp)
   unfold inSq at hsq
   have ga0 : W4.cell? ⟨g, 0, none⟩ = some (.int .i64 ax) := HKa.out.cell 0
   have ga1 : W4.cell? ⟨g, 1, none⟩ = some (.int .i64 ay) := HKa.out.cell 1
   have fa0 := HKa.out.frozen 0
   have fa1 := HKa.out.frozen 1
   have gb0 : W4.cell? ⟨h, 0, none⟩ = some (.int .i64 bx) := HKb.out.cell 0
   have gb1 : W4.cell? ⟨h, 1, none⟩ = some (.int .i64 by_) := HKb.out.cell 1
   have fb0 := HKb.out.frozen 0
   have fb1 := HKb.out.frozen 1
   have hlh : w.heap.size ≤ h := hgl2
   have hlg : w.heap.size ≤ g := hgl
   have hc : n % 4 = 1 ∨ n % 16 = 3 ∨ n % 16 = 7 ∨ (¬ n % 4 = 1 ∧ ¬ n % 16 = 3 ∧ ¬ n % 16 = 7) := by omega
   rcases hc with h1 | h3 | h7 | ⟨h1, h3, h7⟩
   ·have b1 : (n % 4 == 1) = true := by simp [h1]
    have b3 : (n % 16 == 3) = false := by simp; omega
    have b7 : (n % 16 == 7) = false := by simp; omega
    go_upto_region 19 with fail
    have xa0 := HKa.out
    have xb0 := HKb.out
    have xo0 := HO4.out
    have xB0 := HB4.out
    have xo1 := own_set (i := 0) xo0 (xa0.ne_own xo0 (by decide)) (.int .i64 (s.bx))
    have xa1 := xa0.set_ 0 (.int .i64 (s.bx))
    have xb1 := xb0.far (p := ⟨g, 0, none⟩) hgh.symm (.int .i64 (s.bx))
    have xB1 := xB0.setCell (p := ⟨g, 0, none⟩) hlg (.int .i64 (s.bx))
    have xo2 := own_set (i := 1) xo1 (xa1.ne_own xo1 (by decide)) (.int .i64 (s.by_))
    have xa2 := xa1.set_ 1 (.int .i64 (s.by_))
    have xb2 := xb1.far (p := ⟨g, 1, none⟩) hgh.symm (.int .i64 (s.by_))
    have xB2 := xB1.setCell (p := ⟨g, 1, none⟩) hlg (.int .i64 (s.by_))
    have HKa5 := Lib.hid (show Bk ((W4.setCell ⟨g, 0, none⟩ (.int .i64 (s.bx))).setCell ⟨g, 1, none⟩ (.int .i64 (s.by_))) g 58 #[.int .i64 (s.bx), .int .i64 (s.by_)] from xa2)
    have HKb5 := Lib.hid (show Bk ((W4.setCell ⟨g, 0, none⟩ (.int .i64 (s.bx))).setCell ⟨g, 1, none⟩ (.int .i64 (s.by_))) h 58 #[.int .i64 (bx), .int .i64 (by_)] from xb2)
    have HO5 := Lib.hid xo2
    have HB5 := Lib.hid xB2
    clear xa2 xb2 xo2 xB2 xa1 xb1 xo1 xB1 xa0 xb0 xo0 xB0
    clear ga0 ga1 gb0 gb1 fb0 fb1 fa0 fa1 HKa HKb HO4 HB4 s0 s1 s2 s3
    generalize ((W4.setCell ⟨g, 0, none⟩ (.int .i64 (s.bx))).setCell ⟨g, 1, none⟩ (.int .i64 (s.by_))) = W5 at *
    have ga0 : W5.cell? ⟨g, 0, none⟩ = some (.int .i64 (s.bx)) := HKa5.out.cell 0
    have ga1 : W5.cell? ⟨g, 1, none⟩ = some (.int .i64 (s.by_)) := HKa5.out.cell 1
    have gb0 : W5.cell? ⟨h, 0, none⟩ = some (.int .i64 (bx)) := HKb5.out.cell 0
    have gb1 : W5.cell? ⟨h, 1, none⟩ = some (.int .i64 (by_)) := HKb5.out.cell 1
    have fb0 := HKb5.out.frozen 0
    have fb1 := HKb5.out.frozen 1
    obtain ⟨z, hz⟩ : ∃ z, Hid ((s.bx == bx && s.by_ == by_) = z) := ⟨_, Lib.hid rfl⟩
    have heq := fun W => hz.out ▸ eql_point (s.bx) (s.by_) (bx) (by_) W
    have wa1 : IntKind.i64.wrap (s.bx + 1) = s.bx + 1 := IntWalk.i64_in _ ⟨by omega, by omega⟩
    have wa2 : IntKind.i64.wrap (s.by_ + n % 3) = s.by_ + n % 3 := IntWalk.i64_in _ ⟨by omega, by omega⟩
    have hszF : w.heap.size ≤ W5.heap.size := HB5.out.size
    have hownF := HO5.out
    cases z with
    | false =>
     go_wp2_with (at_builtin; refine wpList_app2 (w := W5) rfl _ _ rfl elt_seg hownF hszF rfl rfl rfl rfl rfl (by have := hsl.out; omega) ?_; intro v6 w6 hown6 hg6 hz6)
     go_roundw
     case rel =>
      refine ⟨2, [s] ++ [⟨s.bx, s.by_, bx, by_⟩], by omega, by go_num, Lib.hid (by rw [List.length_append, hsl.out]; rfl), Lib.hid (by rw [sgC_app, List.length_append, hsl.out]; exact hown6), Lib.hid (fun sX hs => ?_), Lib.hid (HB5.out.grown hg6 hszF (fun q hq => (hownF.lt q hq).1))⟩
      rcases List.mem_append.1 hs with hs | hs
      ·have h := HP.out sX hs; unfold inSq at h ⊢; refine ⟨?_, ?_, ?_, ?_, h.2.2.2.2⟩ <;> omega
      ·rw [List.mem_singleton.1 hs]
       refine ⟨?_, ?_, ?_, ?_, fun q => by have ht : (s.bx == bx && s.by_ == by_) = true := by { rw [Bool.and_eq_true]; exact ⟨beq_iff_eq.2 q.1, beq_iff_eq.2 q.2⟩ }; rw [hz.out] at ht; cases ht⟩ <;> (dsimp only; omega)
     case measure => simp [intOf]
    | true =>
     have HB6 := Lib.hid ((HB5.out.setCell (p := ⟨h, 0, none⟩) hlh (.int .i64 (s.bx + 1))).setCell (p := ⟨h, 1, none⟩) hlh (.int .i64 (s.by_ + n % 3)))
     have hne6 := (HKb5.out.set_ 0 (.int .i64 (s.bx + 1))).ne_own (own_set (i := 0) hownF (HKb5.out.ne_own hownF (by decide)) (.int .i64 (s.bx + 1))) (by decide)
     have hown7 := own_set (i := 1) (own_set (i := 0) hownF (HKb5.out.ne_own hownF (by decide)) (.int .i64 (s.bx + 1))) hne6 (.int .i64 (s.by_ + n % 3))
     have hsz7 : w.heap.size ≤ ((W5.setCell ⟨h, 0, none⟩ (.int .i64 (s.bx + 1))).setCell ⟨h, 1, none⟩ (.int .i64 (s.by_ + n % 3))).heap.size := HB6.out.size
     clear hne6
     go_wp2_with (at_builtin; refine wpList_app2 (w := (W5.setCell ⟨h, 0, none⟩ (.int .i64 (s.bx + 1))).setCell ⟨h, 1, none⟩ (.int .i64 (s.by_ + n % 3))) rfl _ _ rfl elt_seg hown7 hsz7 rfl rfl (by simp) rfl rfl (by have := hsl.out; omega) ?_; intro v6 w6 hown6 hg6 hz6)
     go_roundw
     case rel =>
      refine ⟨2, [s] ++ [⟨s.bx, s.by_, s.bx + 1, s.by_ + n % 3⟩], by omega, by go_num, Lib.hid (by rw [List.length_append, hsl.out]; rfl), Lib.hid (by rw [sgC_app, List.length_append, hsl.out]; exact hown6), Lib.hid (fun sX hs => ?_), Lib.hid (HB6.out.grown hg6 hsz7 (fun q hq => (hown7.lt q hq).1))⟩
      rcases List.mem_append.1 hs with hs | hs
      ·have h := HP.out sX hs; unfold inSq at h ⊢; refine ⟨?_, ?_, ?_, ?_, h.2.2.2.2⟩ <;> omega
      ·rw [List.mem_singleton.1 hs]
       refine ⟨?_, ?_, ?_, ?_, fun q => ?_⟩ <;> (dsimp only at *; omega)
     case measure => simp [intOf]
   ·have b1 : (n % 4 == 1) = false := by simp; omega
    have b3 : (n % 16 == 3) = true := by simp [h3]
    have b7 : (n % 16 == 7) = false := by simp; omega
    have tm1 : (n / 16).tmod 1 = 0 := Int.tmod_one _
    have wx : IntKind.i64.wrap (s.ax + s.bx) = s.ax + s.bx := IntWalk.i64_in _ ⟨by omega, by omega⟩
    have wy : IntKind.i64.wrap (s.ay + s.by_) = s.ay + s.by_ := IntWalk.i64_in _ ⟨by omega, by omega⟩
    have dx : (s.ax + s.bx).tdiv 2 = (s.ax + s.bx) / 2 := Int.tdiv_eq_ediv_of_nonneg (by omega)
    have dy : (s.ay + s.by_).tdiv 2 = (s.ay + s.by_) / 2 := Int.tdiv_eq_ediv_of_nonneg (by omega)
    have wx2 : IntKind.i64.wrap ((s.ax + s.bx) / 2) = (s.ax + s.bx) / 2 := IntWalk.i64_in _ ⟨by omega, by omega⟩
    have wy2 : IntKind.i64.wrap ((s.ay + s.by_) / 2) = (s.ay + s.by_) / 2 := IntWalk.i64_in _ ⟨by omega, by omega⟩
    have y0 := (HKa.out.alloc (.cells #[.int .i64 s.ax, .int .i64 s.ay, .int .i64 s.bx, .int .i64 s.by_] 60)).cell 0
    have y1 := (HKa.out.alloc (.cells #[.int .i64 s.ax, .int .i64 s.ay, .int .i64 s.bx, .int .i64 s.by_] 60)).cell 1
    have y2 := (HKa.out.alloc (.cells #[.int .i64 s.ax, .int .i64 s.ay, .int .i64 s.bx, .int .i64 s.by_] 60)).frozen 0
    have y3 := (HKa.out.alloc (.cells #[.int .i64 s.ax, .int .i64 s.ay, .int .i64 s.bx, .int .i64 s.by_] 60)).frozen 1
    have y4 := (HKb.out.alloc (.cells #[.int .i64 s.ax, .int .i64 s.ay, .int .i64 s.bx, .int .i64 s.by_] 60)).cell 0
    have y5 := (HKb.out.alloc (.cells #[.int .i64 s.ax, .int .i64 s.ay, .int .i64 s.bx, .int .i64 s.by_] 60)).cell 1
    have y6 := (HKb.out.alloc (.cells #[.int .i64 s.ax, .int .i64 s.ay, .int .i64 s.bx, .int .i64 s.by_] 60)).frozen 0
    have y7 := (HKb.out.alloc (.cells #[.int .i64 s.ax, .int .i64 s.ay, .int .i64 s.bx, .int .i64 s.by_] 60)).frozen 1
    simp only [List.getElem?_toArray, List.getElem?_cons_zero, List.getElem?_cons_succ] at y0 y1 y4 y5
    have hn1 : W4.heap.size ≠ g := by have := HKa.out.lt; omega
    have hSb := ((Bk.new W4 60 #[.int .i64 s.ax, .int .i64 s.ay, .int .i64 s.bx, .int .i64 s.by_]).far (p := ⟨g, 0, none⟩) hn1 (.int .i64 s.ax)).far (p := ⟨g, 1, none⟩) hn1 (.int .i64 s.ay)
    have e0 := hSb.cell 0
    have e1 := hSb.cell 1
    have e2 := hSb.cell 2
    have e3 := hSb.cell 3
    simp only [List.getElem?_toArray, List.getElem?_cons_zero, List.getElem?_cons_succ] at e0 e1 e2 e3
    clear hSb
    go_upto_region 19 with fail
    clear e0 e1 e2 e3 y0 y1 y2 y3 y4 y5 y6 y7
    have xa0 := HKa.out.alloc (.cells #[.int .i64 s.ax, .int .i64 s.ay, .int .i64 s.bx, .int .i64 s.by_] 60)
    have xb0 := HKb.out.alloc (.cells #[.int .i64 s.ax, .int .i64 s.ay, .int .i64 s.bx, .int .i64 s.by_] 60)
    have xo0 := HO4.out.alloc (.cells #[.int .i64 s.ax, .int .i64 s.ay, .int .i64 s.bx, .int .i64 s.by_] 60)
    have xB0 := HB4.out.alloc HB4.out.size (.cells #[.int .i64 s.ax, .int .i64 s.ay, .int .i64 s.bx, .int .i64 s.by_] 60)
    have xo1 := own_set (i := 0) xo0 (xa0.ne_own xo0 (by decide)) (.int .i64 (s.ax))
    have xa1 := xa0.set_ 0 (.int .i64 (s.ax))
    have xb1 := xb0.far (p := ⟨g, 0, none⟩) hgh.symm (.int .i64 (s.ax))
    have xB1 := xB0.setCell (p := ⟨g, 0, none⟩) hlg (.int .i64 (s.ax))
    have xo2 := own_set (i := 1) xo1 (xa1.ne_own xo1 (by decide)) (.int .i64 (s.ay))
    have xa2 := xa1.set_ 1 (.int .i64 (s.ay))
    have xb2 := xb1.far (p := ⟨g, 1, none⟩) hgh.symm (.int .i64 (s.ay))
    have xB2 := xB1.setCell (p := ⟨g, 1, none⟩) hlg (.int .i64 (s.ay))
    have xo3 := own_set (i := 0) xo2 (xb2.ne_own xo2 (by decide)) (.int .i64 (((s.ax + s.bx) / 2)))
    have xb3 := xb2.set_ 0 (.int .i64 (((s.ax + s.bx) / 2)))
    have xa3 := xa2.far (p := ⟨h, 0, none⟩) hgh (.int .i64 (((s.ax + s.bx) / 2)))
    have xB3 := xB2.setCell (p := ⟨h, 0, none⟩) hlh (.int .i64 (((s.ax + s.bx) / 2)))
    have xo4 := own_set (i := 1) xo3 (xb3.ne_own xo3 (by decide)) (.int .i64 (((s.ay + s.by_) / 2)))
    have xb4 := xb3.set_ 1 (.int .i64 (((s.ay + s.by_) / 2)))
    have xa4 := xa3.far (p := ⟨h, 1, none⟩) hgh (.int .i64 (((s.ay + s.by_) / 2)))
    have xB4 := xB3.setCell (p := ⟨h, 1, none⟩) hlh (.int .i64 (((s.ay + s.by_) / 2)))
    have HKa5 := Lib.hid (show Bk (((((W4.alloc (.cells #[.int .i64 s.ax, .int .i64 s.ay, .int .i64 s.bx, .int .i64 s.by_] 60)).setCell ⟨g, 0, none⟩ (.int .i64 (s.ax))).setCell ⟨g, 1, none⟩ (.int .i64 (s.ay))).setCell ⟨h, 0, none⟩ (.int .i64 (((s.ax + s.bx) / 2)))).setCell ⟨h, 1, none⟩ (.int .i64 (((s.ay + s.by_) / 2)))) g 58 #[.int .i64 (s.ax), .int .i64 (s.ay)] from xa4)
    have HKb5 := Lib.hid (show Bk (((((W4.alloc (.cells #[.int .i64 s.ax, .int .i64 s.ay, .int .i64 s.bx, .int .i64 s.by_] 60)).setCell ⟨g, 0, none⟩ (.int .i64 (s.ax))).setCell ⟨g, 1, none⟩ (.int .i64 (s.ay))).setCell ⟨h, 0, none⟩ (.int .i64 (((s.ax + s.bx) / 2)))).setCell ⟨h, 1, none⟩ (.int .i64 (((s.ay + s.by_) / 2)))) h 58 #[.int .i64 (((s.ax + s.bx) / 2)), .int .i64 (((s.ay + s.by_) / 2))] from xb4)
    have HO5 := Lib.hid xo4
    have HB5 := Lib.hid xB4
    clear xa4 xb4 xo4 xB4 xa3 xb3 xo3 xB3 xa2 xb2 xo2 xB2 xa1 xb1 xo1 xB1 xa0 xb0 xo0 xB0
    clear ga0 ga1 gb0 gb1 fb0 fb1 fa0 fa1 HKa HKb HO4 HB4 s0 s1 s2 s3
    generalize (((((W4.alloc (.cells #[.int .i64 s.ax, .int .i64 s.ay, .int .i64 s.bx, .int .i64 s.by_] 60)).setCell ⟨g, 0, none⟩ (.int .i64 (s.ax))).setCell ⟨g, 1, none⟩ (.int .i64 (s.ay))).setCell ⟨h, 0, none⟩ (.int .i64 (((s.ax + s.bx) / 2)))).setCell ⟨h, 1, none⟩ (.int .i64 (((s.ay + s.by_) / 2)))) = W5 at *
    have ga0 : W5.cell? ⟨g, 0, none⟩ = some (.int .i64 (s.ax)) := HKa5.out.cell 0
    have ga1 : W5.cell? ⟨g, 1, none⟩ = some (.int .i64 (s.ay)) := HKa5.out.cell 1
    have gb0 : W5.cell? ⟨h, 0, none⟩ = some (.int .i64 (((s.ax + s.bx) / 2))) := HKb5.out.cell 0
    have gb1 : W5.cell? ⟨h, 1, none⟩ = some (.int .i64 (((s.ay + s.by_) / 2))) := HKb5.out.cell 1
    have fb0 := HKb5.out.frozen 0
    have fb1 := HKb5.out.frozen 1
    obtain ⟨z, hz⟩ : ∃ z, Hid ((s.ax == ((s.ax + s.bx) / 2) && s.ay == ((s.ay + s.by_) / 2)) = z) := ⟨_, Lib.hid rfl⟩
    have heq := fun W => hz.out ▸ eql_point (s.ax) (s.ay) (((s.ax + s.bx) / 2)) (((s.ay + s.by_) / 2)) W
    have wa1 : IntKind.i64.wrap (s.ax + 1) = s.ax + 1 := IntWalk.i64_in _ ⟨by omega, by omega⟩
    have wa2 : IntKind.i64.wrap (s.ay + n % 3) = s.ay + n % 3 := IntWalk.i64_in _ ⟨by omega, by omega⟩
    have hszF : w.heap.size ≤ W5.heap.size := HB5.out.size
    have hownF := HO5.out
    cases z with
    | false =>
     go_wp2_with (at_builtin; refine wpList_app2 (w := W5) rfl _ _ rfl elt_seg hownF hszF rfl rfl rfl rfl rfl (by have := hsl.out; omega) ?_; intro v6 w6 hown6 hg6 hz6)
     go_roundw
     case rel =>
      refine ⟨2, [s] ++ [⟨s.ax, s.ay, ((s.ax + s.bx) / 2), ((s.ay + s.by_) / 2)⟩], by omega, by go_num, Lib.hid (by rw [List.length_append, hsl.out]; rfl), Lib.hid (by rw [sgC_app, List.length_append, hsl.out]; exact hown6), Lib.hid (fun sX hs => ?_), Lib.hid (HB5.out.grown hg6 hszF (fun q hq => (hownF.lt q hq).1))⟩
      rcases List.mem_append.1 hs with hs | hs
      ·have h := HP.out sX hs; unfold inSq at h ⊢; refine ⟨?_, ?_, ?_, ?_, h.2.2.2.2⟩ <;> omega
      ·rw [List.mem_singleton.1 hs]
       refine ⟨?_, ?_, ?_, ?_, fun q => by have ht : (s.ax == ((s.ax + s.bx) / 2) && s.ay == ((s.ay + s.by_) / 2)) = true := by { rw [Bool.and_eq_true]; exact ⟨beq_iff_eq.2 q.1, beq_iff_eq.2 q.2⟩ }; rw [hz.out] at ht; cases ht⟩ <;> (dsimp only; omega)
     case measure => simp [intOf]
    | true =>
     have HB6 := Lib.hid ((HB5.out.setCell (p := ⟨h, 0, none⟩) hlh (.int .i64 (s.ax + 1))).setCell (p := ⟨h, 1, none⟩) hlh (.int .i64 (s.ay + n % 3)))
     have hne6 := (HKb5.out.set_ 0 (.int .i64 (s.ax + 1))).ne_own (own_set (i := 0) hownF (HKb5.out.ne_own hownF (by decide)) (.int .i64 (s.ax + 1))) (by decide)
     have hown7 := own_set (i := 1) (own_set (i := 0) hownF (HKb5.out.ne_own hownF (by decide)) (.int .i64 (s.ax + 1))) hne6 (.int .i64 (s.ay + n % 3))
     have hsz7 : w.heap.size ≤ ((W5.setCell ⟨h, 0, none⟩ (.int .i64 (s.ax + 1))).setCell ⟨h, 1, none⟩ (.int .i64 (s.ay + n % 3))).heap.size := HB6.out.size
     clear hne6
     go_wp2_with (at_builtin; refine wpList_app2 (w := (W5.setCell ⟨h, 0, none⟩ (.int .i64 (s.ax + 1))).setCell ⟨h, 1, none⟩ (.int .i64 (s.ay + n % 3))) rfl _ _ rfl elt_seg hown7 hsz7 rfl rfl (by simp) rfl rfl (by have := hsl.out; omega) ?_; intro v6 w6 hown6 hg6 hz6)
     go_roundw
     case rel =>
      refine ⟨2, [s] ++ [⟨s.ax, s.ay, s.ax + 1, s.ay + n % 3⟩], by omega, by go_num, Lib.hid (by rw [List.length_append, hsl.out]; rfl), Lib.hid (by rw [sgC_app, List.length_append, hsl.out]; exact hown6), Lib.hid (fun sX hs => ?_), Lib.hid (HB6.out.grown hg6 hsz7 (fun q hq => (hown7.lt q hq).1))⟩
      rcases List.mem_append.1 hs with hs | hs
      ·have h := HP.out sX hs; unfold inSq at h ⊢; refine ⟨?_, ?_, ?_, ?_, h.2.2.2.2⟩ <;> omega
      ·rw [List.mem_singleton.1 hs]
       refine ⟨?_, ?_, ?_, ?_, fun q => ?_⟩ <;> (dsimp only at *; omega)
     case measure => simp [intOf]
   ·have b1 : (n % 4 == 1) = false := by simp; omega
    have b3 : (n % 16 == 3) = false := by simp; omega
    have b7 : (n % 16 == 7) = true := by simp [h7]
    go_upto_region 19 with fail
    have xa0 := HKa.out
    have xb0 := HKb.out
    have xo0 := HO4.out
    have xB0 := HB4.out
    have xo1 := own_set (i := 1) xo0 (xb0.ne_own xo0 (by decide)) (.int .i64 (ay))
    have xb1 := xb0.set_ 1 (.int .i64 (ay))
    have xa1 := xa0.far (p := ⟨h, 1, none⟩) hgh (.int .i64 (ay))
    have xB1 := xB0.setCell (p := ⟨h, 1, none⟩) hlh (.int .i64 (ay))
    have HKa5 := Lib.hid (show Bk (W4.setCell ⟨h, 1, none⟩ (.int .i64 (ay))) g 58 #[.int .i64 (ax), .int .i64 (ay)] from xa1)
    have HKb5 := Lib.hid (show Bk (W4.setCell ⟨h, 1, none⟩ (.int .i64 (ay))) h 58 #[.int .i64 (bx), .int .i64 (ay)] from xb1)
    have HO5 := Lib.hid xo1
    have HB5 := Lib.hid xB1
    clear xa1 xb1 xo1 xB1 xa0 xb0 xo0 xB0
    clear ga0 ga1 gb0 gb1 fb0 fb1 fa0 fa1 HKa HKb HO4 HB4 s0 s1 s2 s3
    generalize (W4.setCell ⟨h, 1, none⟩ (.int .i64 (ay))) = W5 at *
    have ga0 : W5.cell? ⟨g, 0, none⟩ = some (.int .i64 (ax)) := HKa5.out.cell 0
    have ga1 : W5.cell? ⟨g, 1, none⟩ = some (.int .i64 (ay)) := HKa5.out.cell 1
    have gb0 : W5.cell? ⟨h, 0, none⟩ = some (.int .i64 (bx)) := HKb5.out.cell 0
    have gb1 : W5.cell? ⟨h, 1, none⟩ = some (.int .i64 (ay)) := HKb5.out.cell 1
    have fb0 := HKb5.out.frozen 0
    have fb1 := HKb5.out.frozen 1
    obtain ⟨z, hz⟩ : ∃ z, Hid ((ax == bx && ay == ay) = z) := ⟨_, Lib.hid rfl⟩
    have heq := fun W => hz.out ▸ eql_point (ax) (ay) (bx) (ay) W
    have wa1 : IntKind.i64.wrap (ax + 1) = ax + 1 := IntWalk.i64_in _ ⟨by omega, by omega⟩
    have wa2 : IntKind.i64.wrap (ay + n % 3) = ay + n % 3 := IntWalk.i64_in _ ⟨by omega, by omega⟩
    have hszF : w.heap.size ≤ W5.heap.size := HB5.out.size
    have hownF := HO5.out
    cases z with
    | false =>
     go_wp2_with (at_builtin; refine wpList_app2 (w := W5) rfl _ _ rfl elt_seg hownF hszF rfl rfl rfl rfl rfl (by have := hsl.out; omega) ?_; intro v6 w6 hown6 hg6 hz6)
     go_roundw
     case rel =>
      refine ⟨2, [s] ++ [⟨ax, ay, bx, ay⟩], by omega, by go_num, Lib.hid (by rw [List.length_append, hsl.out]; rfl), Lib.hid (by rw [sgC_app, List.length_append, hsl.out]; exact hown6), Lib.hid (fun sX hs => ?_), Lib.hid (HB5.out.grown hg6 hszF (fun q hq => (hownF.lt q hq).1))⟩
      rcases List.mem_append.1 hs with hs | hs
      ·have h := HP.out sX hs; unfold inSq at h ⊢; refine ⟨?_, ?_, ?_, ?_, h.2.2.2.2⟩ <;> omega
      ·rw [List.mem_singleton.1 hs]
       refine ⟨?_, ?_, ?_, ?_, fun q => by have ht : (ax == bx && ay == ay) = true := by { rw [Bool.and_eq_true]; exact ⟨beq_iff_eq.2 q.1, beq_iff_eq.2 q.2⟩ }; rw [hz.out] at ht; cases ht⟩ <;> (dsimp only; omega)
     case measure => simp [intOf]
    | true =>
     have HB6 := Lib.hid ((HB5.out.setCell (p := ⟨h, 0, none⟩) hlh (.int .i64 (ax + 1))).setCell (p := ⟨h, 1, none⟩) hlh (.int .i64 (ay + n % 3)))
     have hne6 := (HKb5.out.set_ 0 (.int .i64 (ax + 1))).ne_own (own_set (i := 0) hownF (HKb5.out.ne_own hownF (by decide)) (.int .i64 (ax + 1))) (by decide)
     have hown7 := own_set (i := 1) (own_set (i := 0) hownF (HKb5.out.ne_own hownF (by decide)) (.int .i64 (ax + 1))) hne6 (.int .i64 (ay + n % 3))
     have hsz7 : w.heap.size ≤ ((W5.setCell ⟨h, 0, none⟩ (.int .i64 (ax + 1))).setCell ⟨h, 1, none⟩ (.int .i64 (ay + n % 3))).heap.size := HB6.out.size
     clear hne6
     go_wp2_with (at_builtin; refine wpList_app2 (w := (W5.setCell ⟨h, 0, none⟩ (.int .i64 (ax + 1))).setCell ⟨h, 1, none⟩ (.int .i64 (ay + n % 3))) rfl _ _ rfl elt_seg hown7 hsz7 rfl rfl (by simp) rfl rfl (by have := hsl.out; omega) ?_; intro v6 w6 hown6 hg6 hz6)
     go_roundw
     case rel =>
      refine ⟨2, [s] ++ [⟨ax, ay, ax + 1, ay + n % 3⟩], by omega, by go_num, Lib.hid (by rw [List.length_append, hsl.out]; rfl), Lib.hid (by rw [sgC_app, List.length_append, hsl.out]; exact hown6), Lib.hid (fun sX hs => ?_), Lib.hid (HB6.out.grown hg6 hsz7 (fun q hq => (hown7.lt q hq).1))⟩
      rcases List.mem_append.1 hs with hs | hs
      ·have h := HP.out sX hs; unfold inSq at h ⊢; refine ⟨?_, ?_, ?_, ?_, h.2.2.2.2⟩ <;> omega
      ·rw [List.mem_singleton.1 hs]
       refine ⟨?_, ?_, ?_, ?_, fun q => ?_⟩ <;> (dsimp only at *; omega)
     case measure => simp [intOf]
   ·have b1 : (n % 4 == 1) = false := by simp; omega
    have b3 : (n % 16 == 3) = false := by simp; omega
    have b7 : (n % 16 == 7) = false := by simp; omega
    go_upto_region 19 with fail
    have xa0 := HKa.out
    have xb0 := HKb.out
    have xo0 := HO4.out
    have xB0 := HB4.out
    have HKa5 := Lib.hid (show Bk W4 g 58 #[.int .i64 (ax), .int .i64 (ay)] from xa0)
    have HKb5 := Lib.hid (show Bk W4 h 58 #[.int .i64 (bx), .int .i64 (by_)] from xb0)
    have HO5 := Lib.hid xo0
    have HB5 := Lib.hid xB0
    clear xa0 xb0 xo0 xB0
    clear ga0 ga1 gb0 gb1 fb0 fb1 fa0 fa1 HKa HKb HO4 HB4 s0 s1 s2 s3
    generalize W4 = W5 at *
    have ga0 : W5.cell? ⟨g, 0, none⟩ = some (.int .i64 (ax)) := HKa5.out.cell 0
    have ga1 : W5.cell? ⟨g, 1, none⟩ = some (.int .i64 (ay)) := HKa5.out.cell 1
    have gb0 : W5.cell? ⟨h, 0, none⟩ = some (.int .i64 (bx)) := HKb5.out.cell 0
    have gb1 : W5.cell? ⟨h, 1, none⟩ = some (.int .i64 (by_)) := HKb5.out.cell 1
    have fb0 := HKb5.out.frozen 0
    have fb1 := HKb5.out.frozen 1
    obtain ⟨z, hz⟩ : ∃ z, Hid ((ax == bx && ay == by_) = z) := ⟨_, Lib.hid rfl⟩
    have heq := fun W => hz.out ▸ eql_point (ax) (ay) (bx) (by_) W
    have wa1 : IntKind.i64.wrap (ax + 1) = ax + 1 := IntWalk.i64_in _ ⟨by omega, by omega⟩
    have wa2 : IntKind.i64.wrap (ay + n % 3) = ay + n % 3 := IntWalk.i64_in _ ⟨by omega, by omega⟩
    have hszF : w.heap.size ≤ W5.heap.size := HB5.out.size
    have hownF := HO5.out
    cases z with
    | false =>
     go_wp2_with (at_builtin; refine wpList_app2 (w := W5) rfl _ _ rfl elt_seg hownF hszF rfl rfl rfl rfl rfl (by have := hsl.out; omega) ?_; intro v6 w6 hown6 hg6 hz6)
     go_roundw
     case rel =>
      refine ⟨2, [s] ++ [⟨ax, ay, bx, by_⟩], by omega, by go_num, Lib.hid (by rw [List.length_append, hsl.out]; rfl), Lib.hid (by rw [sgC_app, List.length_append, hsl.out]; exact hown6), Lib.hid (fun sX hs => ?_), Lib.hid (HB5.out.grown hg6 hszF (fun q hq => (hownF.lt q hq).1))⟩
      rcases List.mem_append.1 hs with hs | hs
      ·have h := HP.out sX hs; unfold inSq at h ⊢; refine ⟨?_, ?_, ?_, ?_, h.2.2.2.2⟩ <;> omega
      ·rw [List.mem_singleton.1 hs]
       refine ⟨?_, ?_, ?_, ?_, fun q => by have ht : (ax == bx && ay == by_) = true := by { rw [Bool.and_eq_true]; exact ⟨beq_iff_eq.2 q.1, beq_iff_eq.2 q.2⟩ }; rw [hz.out] at ht; cases ht⟩ <;> (dsimp only; omega)
     case measure => simp [intOf]
    | true =>
     have HB6 := Lib.hid ((HB5.out.setCell (p := ⟨h, 0, none⟩) hlh (.int .i64 (ax + 1))).setCell (p := ⟨h, 1, none⟩) hlh (.int .i64 (ay + n % 3)))
     have hne6 := (HKb5.out.set_ 0 (.int .i64 (ax + 1))).ne_own (own_set (i := 0) hownF (HKb5.out.ne_own hownF (by decide)) (.int .i64 (ax + 1))) (by decide)
     have hown7 := own_set (i := 1) (own_set (i := 0) hownF (HKb5.out.ne_own hownF (by decide)) (.int .i64 (ax + 1))) hne6 (.int .i64 (ay + n % 3))
     have hsz7 : w.heap.size ≤ ((W5.setCell ⟨h, 0, none⟩ (.int .i64 (ax + 1))).setCell ⟨h, 1, none⟩ (.int .i64 (ay + n % 3))).heap.size := HB6.out.size
     clear hne6
     go_wp2_with (at_builtin; refine wpList_app2 (w := (W5.setCell ⟨h, 0, none⟩ (.int .i64 (ax + 1))).setCell ⟨h, 1, none⟩ (.int .i64 (ay + n % 3))) rfl _ _ rfl elt_seg hown7 hsz7 rfl rfl (by simp) rfl rfl (by have := hsl.out; omega) ?_; intro v6 w6 hown6 hg6 hz6)
     go_roundw
     case rel =>
      refine ⟨2, [s] ++ [⟨ax, ay, ax + 1, ay + n % 3⟩], by omega, by go_num, Lib.hid (by rw [List.length_append, hsl.out]; rfl), Lib.hid (by rw [sgC_app, List.length_append, hsl.out]; exact hown6), Lib.hid (fun sX hs => ?_), Lib.hid (HB6.out.grown hg6 hsz7 (fun q hq => (hown7.lt q hq).1))⟩
      rcases List.mem_append.1 hs with hs | hs
      ·have h := HP.out sX hs; unfold inSq at h ⊢; refine ⟨?_, ?_, ?_, ?_, h.2.2.2.2⟩ <;> omega
      ·rw [List.mem_singleton.1 hs]
       refine ⟨?_, ?_, ?_, ?_, fun q => ?_⟩ <;> (dsimp only at *; omega)
     case measure => simp [intOf]
  ·have HBz := Lib.hid HB.out
   obtain ⟨S, cS, rfl⟩ := own_slice HO.out
   have h5 : sg.length = 2 := hsl.out
   have HPz := Lib.hid (show ∀ s ∈ sg, sgOK s from fun s hs => by have h := HP.out s hs; unfold inSq at h; unfold sgOK near; refine ⟨⟨?_, ?_⟩, ⟨?_, ?_⟩, h.2.2.2.2⟩ <;> omega)
   have HOz := Lib.hid HO.out
   rw [h5] at HOz ⊢
   clear hsl HB HO HP
   go_wp2_with fail
   go_ret
   exact ⟨sg, S, cS, by rw [h5]; rfl, by omega, by rw [h5]; exact HOz.out, HPz.out, HBz.out⟩
end Go.Proofs.YtnapnkmehnabfaaGreat
