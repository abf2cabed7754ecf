import Derived.Test.YtaegfljpodhnhaaR24
import Derived.Laws.StructEq
namespace Go.Proofs.Ytaegfljpodhnhaa
open Go.RowKit Go.Maps

@[go_sem] theorem eq_pair (a b c d : Int) (w : World) : (Op.equalIn 10000 47 (.agg #[.int .i64 a, .int .i64 b]) (.agg #[.int .i64 c, .int .i64 d])).run Try.prog w = .ok (a == c && b == d) w := by
  have u3 := Try.underlying3
  have a3 := Try.isAgg3
  have z3 := Try.sizeOf3
  rw [show (10000 : Nat) = 9999 + 1 from rfl, Op.equalIn]
  simp only [Sem.run_bind, run_underlying Try.underlying47, Result.andThen_ok]
  simp only [Std.Legacy.Range.forIn_eq_forIn_range', Std.Legacy.Range.size, Nat.sub_zero, Nat.add_sub_cancel, Nat.div_one, List.range'_succ, List.range'_zero, List.forIn_cons, List.forIn_nil]
  go_simp
  by_cases h1 : a = c <;> by_cases h2 : b = d <;> simp [h1, h2]

theorem sl_bk {w : World} {g : Nat} {t : TypeId} {cs : Array Value} (h : Bk w g t cs) : SL w (some ⟨g, 0, none⟩) cs.toList := fun j u hu => by
  refine ⟨g, 0, rfl, h.lt, ?_⟩
  rw [Nat.zero_add, h.cell j]
  simpa using hu

def exW : List Int := [9, 1, 5, 5]
def exN : List (Int × Int × Int) := [(0, 1, 7), (1, 2, 2), (1, 3, 3)]
set_option maxRecDepth 100000 in
theorem ex_e : ofE exW exN [2] = 0 := by decide +kernel
set_option maxRecDepth 100000 in
theorem ex_l : ofL exW exN [2] = [[0, 1, 2, 1]] := by decide +kernel
set_option maxRecDepth 100000 in
theorem ex_s : stE exW exN [2] 0 = 0 ∧ stL exW exN [2] 0 = [(1, 3)] := by decide +kernel

theorem ex_of (A B C : Option Addr) (w : World) (hA : SI w A exW) (hB : ST w B exN) (hC : SI w C [2]) :
    Calls Try.prog 15 #[.agg #[.slice A 4 4, .slice B 3 3], .slice C 1 1] w fun e w' => ∃ D m, e = .returned (.tuple #[.agg #[.slice D 1 m], .int .i64 0]) ∧ SLL w' D [[0, 1, 2, 1]] ∧ Below w.heap.size w w' := by
  refine (of_any A B C 4 3 1 exW exN [2] w hA hB hC (by decide) (by decide) (by decide)).mono ?_
  rintro e w' ⟨D, m, vs, rfl, hown, hLL, hb⟩
  rw [ex_l] at hown hLL ⊢
  rw [ex_e]
  exact ⟨D, m, rfl, SLL.of_rows hown hLL (by decide), hb⟩

theorem ex_steps (A B C : Option Addr) (w : World) (hA : SI w A exW) (hB : ST w B exN) (hC : SI w C [2]) :
    Calls Try.prog 19 #[.agg #[.slice A 4 4, .slice B 3 3], .slice C 1 1, .int .i64 0] w fun e w' => ∃ D m, e = .returned (.tuple #[.slice D 1 m, .int .i64 0]) ∧ SL w' D [.int .i64 1, .int .i64 3] ∧ Below w.heap.size w w' := by
  refine (steps_any A B C 4 3 1 exW exN [2] 0 w hA hB hC (by decide) (by decide) (by decide) (by decide)).mono ?_
  rintro e w' ⟨D, m, rfl, hown, hb⟩
  rw [ex_s.2] at hown ⊢
  rw [ex_s.1]
  exact ⟨D, m, rfl, SL.of_own hown, hb⟩

theorem ex_init (w W : World) (hW : W = (((w.alloc (.cells #[.int .i64 9, .int .i64 1, .int .i64 5, .int .i64 5] 3)).alloc (.cells #[.int .i64 0, .int .i64 1, .int .i64 7, .int .i64 1, .int .i64 2, .int .i64 2, .int .i64 1, .int .i64 3, .int .i64 3] 52)).alloc
    (.cells #[.slice (some ⟨w.heap.size, 0, none⟩) 4 4, .slice (some ⟨w.heap.size + 1, 0, none⟩) 3 3] 31)).alloc (.cells #[.int .i64 2] 3)) :
    SI W (some ⟨w.heap.size, 0, none⟩) exW ∧ ST W (some ⟨w.heap.size + 1, 0, none⟩) exN ∧ SI W (some ⟨w.heap.size + 1 + 1 + 1, 0, none⟩) [2] ∧ Bk W (w.heap.size + 1 + 1) 31 #[.slice (some ⟨w.heap.size, 0, none⟩) 4 4, .slice (some ⟨w.heap.size + 1, 0, none⟩) 3 3] ∧ Below w.heap.size w W ∧ W.heap.size = w.heap.size + 1 + 1 + 1 + 1 := by
  subst hW
  refine ⟨SL.alloc (SL.alloc (SL.alloc (sl_bk (Bk.new _ _ _)) _) _) _, SL.alloc (SL.alloc (sl_bk (Bk.new' _ _ _ (by simp))) _) _, sl_bk (Bk.new' _ _ _ (by simp)), (Bk.new' _ _ _ (by simp)).alloc _, ?_, by simp⟩
  refine Below.alloc (Below.alloc (Below.alloc (Below.alloc (Below.refl _ _) (Nat.le_refl _) _) ?_ _) ?_ _) ?_ _ <;> simp <;> omega

set_option maxHeartbeats 4000000 in
set_option maxRecDepth 100000 in
theorem lives_any (w : World) : Calls Try.prog 21 #[] w fun e w' => e = .returned (.bool true) ∧ Below w.heap.size w w' := by
  go_enter Try.func21, Try.ntmps21
  go_wp2_with fail
  have h0 := ex_init w _ rfl
  generalize ((((w.alloc (.cells #[.int .i64 9, .int .i64 1, .int .i64 5, .int .i64 5] 3)).alloc (.cells #[.int .i64 0, .int .i64 1, .int .i64 7, .int .i64 1, .int .i64 2, .int .i64 2, .int .i64 1, .int .i64 3, .int .i64 3] 52)).alloc
    (.cells #[.slice (some ⟨w.heap.size, 0, none⟩) 4 4, .slice (some ⟨w.heap.size + 1, 0, none⟩) 3 3] 31)).alloc (.cells #[.int .i64 2] 3)) = W at h0 ⊢
  obtain ⟨hA, hB, hC, hbk, hb, hz⟩ := h0
  have hz0 : w.heap.size ≤ W.heap.size := hb.size
  clear hz
  refine (ex_of _ _ _ _ hA hB hC).mono ?_
  rintro e w1 ⟨D, m, rfl, hS, hb1⟩
  have Hbk := Lib.hid hbk
  have HA := Lib.hid hA
  have HB := Lib.hid hB
  have Hb := Lib.hid hb
  have Hb1 := Lib.hid hb1
  have HS := Lib.hid hS
  clear hbk hA hB hC hb hb1 hS
  generalize w.heap.size + 1 + 1 + 1 = t3 at *
  have hk1 := (Hbk.out.below Hb1.out Hbk.out.lt).alloc (.cells #[.slice D 1 m] 36)
  have hc0 : (w1.alloc (.cells #[.slice D 1 m] 36)).cell? ⟨w.heap.size + 1 + 1, 0, none⟩ = some (.slice (some ⟨w.heap.size, 0, none⟩) 4 4) := hk1.cell 0
  have hc1 : (w1.alloc (.cells #[.slice D 1 m] 36)).cell? ⟨w.heap.size + 1 + 1, 1, none⟩ = some (.slice (some ⟨w.heap.size + 1, 0, none⟩) 3 3) := hk1.cell 1
  have Hk1 := Lib.hid hk1
  clear hk1
  go_wp2_with fail
  have HA2 := Lib.hid (((HA.out.below Hb1.out).alloc (.cells #[.slice D 1 m] 36)).alloc (.cells #[.int .i64 2] 3))
  have HB2 := Lib.hid (((HB.out.below Hb1.out).alloc (.cells #[.slice D 1 m] 36)).alloc (.cells #[.int .i64 2] 3))
  have HC2 : Hid (SI ((w1.alloc (.cells #[.slice D 1 m] 36)).alloc (.cells #[.int .i64 2] 3)) (some ⟨w1.heap.size + 1, 0, none⟩) [2]) := sl_bk (Bk.new' _ 3 #[.int .i64 2] (by simp))
  have Hch := Lib.hid ((Bk.new w1 36 #[.slice D 1 m]).alloc (.cells #[.int .i64 2] 3))
  have hbx := Below.alloc (Below.alloc (Below.refl w1.heap.size w1) (Nat.le_refl _) (.cells #[.slice D 1 m] 36)) (by simp) (.cells #[.int .i64 2] 3)
  have HS2 := Lib.hid (HS.out.below hbx)
  have Hb2 := Lib.hid (Hb.out.trans ((Hb1.out.mono hz0).trans (hbx.mono (Nat.le_trans hz0 Hb1.out.size))))
  clear hbx hc0 hc1 Hk1
  generalize ((w1.alloc (.cells #[.slice D 1 m] 36)).alloc (.cells #[.int .i64 2] 3)) = W2 at *
  refine (ex_steps _ _ _ _ HA2.out HB2.out HC2.out).mono ?_
  rintro e w3 ⟨D2, m2, rfl, hP, hb3⟩
  have hz2 := Hb2.out.size
  have hch3 := Hch.out.below hb3 Hch.out.lt
  have hcc : w3.cell? ⟨w1.heap.size, 0, none⟩ = some (.slice D 1 m) := hch3.cell 0
  have HS3 := Lib.hid (HS2.out.below hb3)
  have Hb3 := Lib.hid (Hb2.out.trans (hb3.mono hz2))
  have hz3 := Hb3.out.size
  have hp0 := hP 0 _ rfl
  obtain ⟨b2, o2, rfl, _, hd0⟩ := hp0
  have hd1 := SL.two hP (j := 0) (k := 1) rfl rfl
  rw [Nat.add_zero] at hd0
  have hd0 := Lib.hid hd0
  have hd1 := Lib.hid hd1
  have Hch3 := Lib.hid hch3
  clear hch3 hb3 hP HS2 Hb2 Hch HA2 HB2 HC2
  have hL1 := Bk.new w3 3 #[.int .i64 0, .int .i64 1, .int .i64 2, .int .i64 1]
  have hL2 := Bk.new' (w3.alloc (.cells #[.int .i64 0, .int .i64 1, .int .i64 2, .int .i64 1] 3)) 22 #[.slice (some ⟨w3.heap.size, 0, none⟩) 4 4] (g := w3.heap.size + 1) (by simp)
  have hbx := Below.alloc (Below.alloc (Below.refl w3.heap.size w3) (Nat.le_refl _) (.cells #[.int .i64 0, .int .i64 1, .int .i64 2, .int .i64 1] 3)) (by simp) (.cells #[.slice (some ⟨w3.heap.size, 0, none⟩) 4 4] 22)
  have hL3 : SI ((w3.alloc (.cells #[.int .i64 0, .int .i64 1, .int .i64 2, .int .i64 1] 3)).alloc (.cells #[.slice (some ⟨w3.heap.size, 0, none⟩) 4 4] 22)) (some ⟨w3.heap.size, 0, none⟩) [0, 1, 2, 1] := SL.alloc (sl_bk hL1) _
  have HL : Hid (SLL ((w3.alloc (.cells #[.int .i64 0, .int .i64 1, .int .i64 2, .int .i64 1] 3)).alloc (.cells #[.slice (some ⟨w3.heap.size, 0, none⟩) 4 4] 22)) (some ⟨w3.heap.size + 1, 0, none⟩) [[0, 1, 2, 1]]) :=
    ⟨[.slice (some ⟨w3.heap.size, 0, none⟩) 4 4], sl_bk hL2, rfl, fun j v l hv hl => by
      obtain rfl : j = 0 := by
        have := (List.getElem?_eq_some_iff.1 hl).1
        simp at this
        omega
      simp at hv hl
      subst hv hl
      exact ⟨_, _, rfl, hL3⟩⟩
  have Hsame := Lib.hid (sameLists_any D (some ⟨w3.heap.size + 1, 0, none⟩) m 1 [[0, 1, 2, 1]] [[0, 1, 2, 1]] _ (HS3.out.below hbx) HL.out (by simp) (by simp) (by simp))
  have hd0' : ((w3.alloc (.cells #[.int .i64 0, .int .i64 1, .int .i64 2, .int .i64 1] 3)).alloc (.cells #[.slice (some ⟨w3.heap.size, 0, none⟩) 4 4] 22)).cell? ⟨b2, o2, none⟩ = some (.int .i64 1) := (hbx.cell (World.block_lt_of_cell? _ _ hd0.out)).trans hd0.out
  have hd1' : ((w3.alloc (.cells #[.int .i64 0, .int .i64 1, .int .i64 2, .int .i64 1] 3)).alloc (.cells #[.slice (some ⟨w3.heap.size, 0, none⟩) 4 4] 22)).cell? ⟨b2, o2 + 1, none⟩ = some (.int .i64 3) := (hbx.cell (World.block_lt_of_cell? _ _ hd1.out)).trans hd1.out
  have Hd := Lib.hid (And.intro hd0' hd1')
  have Hb4 := Lib.hid (Hb3.out.trans (hbx.mono hz3))
  clear hd0' hd1' hbx hL1 hL2 hL3
  go_wp2_with fail
  refine Hsame.out.mono ?_
  rintro e w5 ⟨rfl, n5, rfl⟩
  have hd0' := Hd.out.1
  have hd1' := Hd.out.2
  go_wp2_with fail
  go_ret
  exact ⟨ret_bool (by decide), below_drewN Hb4.out _⟩
end Go.Proofs.Ytaegfljpodhnhaa
