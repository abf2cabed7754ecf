import Derived.Test.YtgeciimakjfnfaaC25
namespace Go.Proofs.Ytgeciimakjfnfaa
open Go.RowKit Go.Maps

theorem six_si (w1 : World) (o : Obj) {g : Nat} (hg : w1.heap.size = g) : SI (((((((w1.alloc (.cells #[.int .i64 0, .int .i64 1] 3)).alloc (.cells #[.int .i64 1, .int .i64 0] 3)).alloc (.cells #[.int .i64 0, .int .i64 1, .int .i64 2] 3)).alloc (.cells #[.int .i64 2, .int .i64 1, .int .i64 0] 3)).alloc (.cells #[.int .i64 1] 3)).alloc (.cells #[.int .i64 2, .int .i64 0] 3)).alloc o) (some ⟨g, 0, none⟩) [0, 1] ∧ SI (((((((w1.alloc (.cells #[.int .i64 0, .int .i64 1] 3)).alloc (.cells #[.int .i64 1, .int .i64 0] 3)).alloc (.cells #[.int .i64 0, .int .i64 1, .int .i64 2] 3)).alloc (.cells #[.int .i64 2, .int .i64 1, .int .i64 0] 3)).alloc (.cells #[.int .i64 1] 3)).alloc (.cells #[.int .i64 2, .int .i64 0] 3)).alloc o) (some ⟨g + 1, 0, none⟩) [1, 0] ∧ SI (((((((w1.alloc (.cells #[.int .i64 0, .int .i64 1] 3)).alloc (.cells #[.int .i64 1, .int .i64 0] 3)).alloc (.cells #[.int .i64 0, .int .i64 1, .int .i64 2] 3)).alloc (.cells #[.int .i64 2, .int .i64 1, .int .i64 0] 3)).alloc (.cells #[.int .i64 1] 3)).alloc (.cells #[.int .i64 2, .int .i64 0] 3)).alloc o) (some ⟨g + 1 + 1, 0, none⟩) [0, 1, 2] ∧ SI (((((((w1.alloc (.cells #[.int .i64 0, .int .i64 1] 3)).alloc (.cells #[.int .i64 1, .int .i64 0] 3)).alloc (.cells #[.int .i64 0, .int .i64 1, .int .i64 2] 3)).alloc (.cells #[.int .i64 2, .int .i64 1, .int .i64 0] 3)).alloc (.cells #[.int .i64 1] 3)).alloc (.cells #[.int .i64 2, .int .i64 0] 3)).alloc o) (some ⟨g + 1 + 1 + 1, 0, none⟩) [2, 1, 0] ∧ SI (((((((w1.alloc (.cells #[.int .i64 0, .int .i64 1] 3)).alloc (.cells #[.int .i64 1, .int .i64 0] 3)).alloc (.cells #[.int .i64 0, .int .i64 1, .int .i64 2] 3)).alloc (.cells #[.int .i64 2, .int .i64 1, .int .i64 0] 3)).alloc (.cells #[.int .i64 1] 3)).alloc (.cells #[.int .i64 2, .int .i64 0] 3)).alloc o) (some ⟨g + 1 + 1 + 1 + 1, 0, none⟩) [1] ∧ SI (((((((w1.alloc (.cells #[.int .i64 0, .int .i64 1] 3)).alloc (.cells #[.int .i64 1, .int .i64 0] 3)).alloc (.cells #[.int .i64 0, .int .i64 1, .int .i64 2] 3)).alloc (.cells #[.int .i64 2, .int .i64 1, .int .i64 0] 3)).alloc (.cells #[.int .i64 1] 3)).alloc (.cells #[.int .i64 2, .int .i64 0] 3)).alloc o) (some ⟨g + 1 + 1 + 1 + 1 + 1, 0, none⟩) [2, 0] ∧ Below g w1 (((((((w1.alloc (.cells #[.int .i64 0, .int .i64 1] 3)).alloc (.cells #[.int .i64 1, .int .i64 0] 3)).alloc (.cells #[.int .i64 0, .int .i64 1, .int .i64 2] 3)).alloc (.cells #[.int .i64 2, .int .i64 1, .int .i64 0] 3)).alloc (.cells #[.int .i64 1] 3)).alloc (.cells #[.int .i64 2, .int .i64 0] 3)).alloc o) := by
  subst hg
  refine ⟨?_, ?_, ?_, ?_, ?_, ?_, ?_⟩
  · exact SL.alloc (SL.alloc (SL.alloc (SL.alloc (SL.alloc (SL.alloc (sl_bk (Bk.new' w1 3 #[.int .i64 0, .int .i64 1] (g := w1.heap.size) (by simp))) _) _) _) _) _) _
  · exact SL.alloc (SL.alloc (SL.alloc (SL.alloc (SL.alloc (sl_bk (Bk.new' (w1.alloc (.cells #[.int .i64 0, .int .i64 1] 3)) 3 #[.int .i64 1, .int .i64 0] (g := w1.heap.size + 1) (by simp))) _) _) _) _) _
  · exact SL.alloc (SL.alloc (SL.alloc (SL.alloc (sl_bk (Bk.new' ((w1.alloc (.cells #[.int .i64 0, .int .i64 1] 3)).alloc (.cells #[.int .i64 1, .int .i64 0] 3)) 3 #[.int .i64 0, .int .i64 1, .int .i64 2] (g := w1.heap.size + 1 + 1) (by simp))) _) _) _) _
  · exact SL.alloc (SL.alloc (SL.alloc (sl_bk (Bk.new' (((w1.alloc (.cells #[.int .i64 0, .int .i64 1] 3)).alloc (.cells #[.int .i64 1, .int .i64 0] 3)).alloc (.cells #[.int .i64 0, .int .i64 1, .int .i64 2] 3)) 3 #[.int .i64 2, .int .i64 1, .int .i64 0] (g := w1.heap.size + 1 + 1 + 1) (by simp))) _) _) _
  · exact SL.alloc (SL.alloc (sl_bk (Bk.new' ((((w1.alloc (.cells #[.int .i64 0, .int .i64 1] 3)).alloc (.cells #[.int .i64 1, .int .i64 0] 3)).alloc (.cells #[.int .i64 0, .int .i64 1, .int .i64 2] 3)).alloc (.cells #[.int .i64 2, .int .i64 1, .int .i64 0] 3)) 3 #[.int .i64 1] (g := w1.heap.size + 1 + 1 + 1 + 1) (by simp))) _) _
  · exact SL.alloc (sl_bk (Bk.new' (((((w1.alloc (.cells #[.int .i64 0, .int .i64 1] 3)).alloc (.cells #[.int .i64 1, .int .i64 0] 3)).alloc (.cells #[.int .i64 0, .int .i64 1, .int .i64 2] 3)).alloc (.cells #[.int .i64 2, .int .i64 1, .int .i64 0] 3)).alloc (.cells #[.int .i64 1] 3)) 3 #[.int .i64 2, .int .i64 0] (g := w1.heap.size + 1 + 1 + 1 + 1 + 1) (by simp))) _
  · exact (((((((Below.refl w1.heap.size w1).alloc (by simp; try omega) (.cells #[.int .i64 0, .int .i64 1] 3)).alloc (by simp; try omega) (.cells #[.int .i64 1, .int .i64 0] 3)).alloc (by simp; try omega) (.cells #[.int .i64 0, .int .i64 1, .int .i64 2] 3)).alloc (by simp; try omega) (.cells #[.int .i64 2, .int .i64 1, .int .i64 0] 3)).alloc (by simp; try omega) (.cells #[.int .i64 1] 3)).alloc (by simp; try omega) (.cells #[.int .i64 2, .int .i64 0] 3)).alloc (by simp; try omega) o

theorem vw_one {a : Int} (h : 0 ≤ a ∧ a ≤ 2) : vwE 0 [a] = 0 := vwE_ok rfl (List.nodup_cons.2 ⟨List.not_mem_nil, List.nodup_nil⟩) (by
  show (badO a || false) = false
  rw [Bool.or_false]; exact badO_iff.2 (by omega))
set_option linter.unusedSimpArgs false in
set_option maxHeartbeats 2000000 in
set_option maxRecDepth 100000 in
theorem view_any (n : Int) (w : World) (hn : i64 n) :
    Calls Try.prog 12 #[.int .i64 n] w fun e w' => ∃ (k : Int) (B : Option Addr) (cb : Nat) (os : List Int), e = .returned (.agg #[.int .i64 k, .slice B os.length cb]) ∧ Hid (vwE k os = 0) ∧ Hid (os.length ≤ 8) ∧ Hid (SI w' B os) ∧ Below w.heap.size w w' := by
  have hbd := around_bd n 1048576 (by decide)
  have HA := Lib.hid (fun W => around_any n 1048576 W hn.1 hn.2 (by decide) (by decide))
  generalize around n 1048576 = k at *
  obtain ⟨j, hj⟩ : ∃ j : Nat, k % 5 = (j : Int) := ⟨(k % 5).toNat, by omega⟩
  have hj5 : j = 0 ∨ j = 1 ∨ j = 2 ∨ j = 3 ∨ j = 4 := by omega
  have e1 : k.tmod 5 = (j : Int) := by rw [Int.tmod_eq_emod_of_nonneg (by omega), hj]
  obtain ⟨a5, ha5⟩ : ∃ z, Hid (k / 5 % 3 = z) := ⟨_, Lib.hid rfl⟩
  obtain ⟨i, hi⟩ : ∃ i : Nat, k / 5 % 6 = (i : Int) := ⟨(k / 5 % 6).toNat, by omega⟩
  have hi6 : i = 0 ∨ i = 1 ∨ i = 2 ∨ i = 3 ∨ i = 4 ∨ i = 5 := by omega
  have e2 : k.tdiv 5 = k / 5 := Int.tdiv_eq_ediv_of_nonneg (by omega)
  have f2 : (k / 5).tmod 3 = a5 := by rw [Int.tmod_eq_emod_of_nonneg (by omega), ha5.out]
  have f3 : (k / 5).tmod 6 = (i : Int) := by rw [Int.tmod_eq_emod_of_nonneg (by omega), hi]
  have r5 : 0 ≤ a5 ∧ a5 ≤ 2 := by have := ha5.out; omega
  have w1_ : ∀ z : Int, 0 ≤ z → z ≤ 1048576 → IntKind.i64.wrap z = z := fun z h1 h2 => IntWalk.i64_in _ ⟨by omega, by omega⟩
  have g1 := w1_ (k / 5) (by omega) (by omega)
  have g2 := w1_ a5 (by omega) (by omega)
  have g3 := w1_ (j : Int) (by omega) (by omega)
  have g4 := w1_ (i : Int) (by omega) (by omega)
  have hz := Lib.hid (show Below w.heap.size w (w.alloc (.cells #[.int .i64 0, .slice none 0 0] 28)) from (Below.refl _ _).alloc (Nat.le_refl _) _)
  have hzk := Lib.hid (Bk.new w 28 #[.int .i64 0, .slice none 0 0])
  clear hj w1_ hi hn hbd
  go_enter Try.func12, Try.ntmps12
  go_wp2_with fail
  refine (HA.out _).mono ?_
  rintro e w1 ⟨rfl, rfl⟩
  clear HA
  rcases hj5 with rfl | rfl | rfl | rfl | rfl
  · clear f3 g4 hi6
    go_wp2_with fail
    exact bodyPost_ret (v := .agg #[.int .i64 0, .slice (some ⟨w.heap.size + 1, 0, none⟩) 1 1]) (by simp [results, Try.results12, go_sem]) rfl ⟨0, _, 1, [a5], rfl, Lib.hid (vw_one r5), Lib.hid (by simp), Lib.hid (sl_bk (Bk.new' _ 3 #[.int .i64 a5] (by simp))), ((Below.refl _ _).alloc (Nat.le_refl _) _).alloc (by simp) _⟩
  · clear f3 g4 hi6
    go_wp2_with fail
    exact bodyPost_ret (v := .agg #[.int .i64 0, .slice (some ⟨w.heap.size + 1, 0, none⟩) 1 1]) (by simp [results, Try.results12, go_sem]) rfl ⟨0, _, 1, [a5], rfl, Lib.hid (vw_one r5), Lib.hid (by simp), Lib.hid (sl_bk (Bk.new' _ 3 #[.int .i64 a5] (by simp))), ((Below.refl _ _).alloc (Nat.le_refl _) _).alloc (by simp) _⟩
  · clear f3 g4 hi6 f2 g2
    go_wp2_with fail
    exact bodyPost_ret (v := .agg #[.int .i64 2, .slice none 0 0]) (by simp [results, Try.results12, go_sem]) rfl ⟨2, _, 0, [], rfl, Lib.hid (by decide), Lib.hid (by decide), Lib.hid SL.nil_, (Below.refl _ _).alloc (Nat.le_refl _) _⟩
  · clear f2 g2
    rcases hi6 with rfl | rfl | rfl | rfl | rfl | rfl
    · go_wp2_with fail
      exact bodyPost_ret (v := .agg #[.int .i64 1, .slice (some ⟨w.heap.size + 1, 0, none⟩) 2 2]) (by simp [results, Try.results12, go_sem]) rfl ⟨1, _, 2, [0, 1], rfl, Lib.hid (by decide), Lib.hid (by decide), Lib.hid (six_si _ _ (by simp)).1, ((Below.refl _ _).alloc (Nat.le_refl _) _).trans ((six_si _ _ (by simp)).2.2.2.2.2.2.mono (Nat.le_succ _))⟩
    · go_wp2_with fail
      exact bodyPost_ret (v := .agg #[.int .i64 1, .slice (some ⟨w.heap.size + 1 + 1, 0, none⟩) 2 2]) (by simp [results, Try.results12, go_sem]) rfl ⟨1, _, 2, [1, 0], rfl, Lib.hid (by decide), Lib.hid (by decide), Lib.hid (six_si _ _ (by simp)).2.1, ((Below.refl _ _).alloc (Nat.le_refl _) _).trans ((six_si _ _ (by simp)).2.2.2.2.2.2.mono (Nat.le_succ _))⟩
    · go_wp2_with fail
      exact bodyPost_ret (v := .agg #[.int .i64 1, .slice (some ⟨w.heap.size + 1 + 1 + 1, 0, none⟩) 3 3]) (by simp [results, Try.results12, go_sem]) rfl ⟨1, _, 3, [0, 1, 2], rfl, Lib.hid (by decide), Lib.hid (by decide), Lib.hid (six_si _ _ (by simp)).2.2.1, ((Below.refl _ _).alloc (Nat.le_refl _) _).trans ((six_si _ _ (by simp)).2.2.2.2.2.2.mono (Nat.le_succ _))⟩
    · go_wp2_with fail
      exact bodyPost_ret (v := .agg #[.int .i64 1, .slice (some ⟨w.heap.size + 1 + 1 + 1 + 1, 0, none⟩) 3 3]) (by simp [results, Try.results12, go_sem]) rfl ⟨1, _, 3, [2, 1, 0], rfl, Lib.hid (by decide), Lib.hid (by decide), Lib.hid (six_si _ _ (by simp)).2.2.2.1, ((Below.refl _ _).alloc (Nat.le_refl _) _).trans ((six_si _ _ (by simp)).2.2.2.2.2.2.mono (Nat.le_succ _))⟩
    · go_wp2_with fail
      exact bodyPost_ret (v := .agg #[.int .i64 1, .slice (some ⟨w.heap.size + 1 + 1 + 1 + 1 + 1, 0, none⟩) 1 1]) (by simp [results, Try.results12, go_sem]) rfl ⟨1, _, 1, [1], rfl, Lib.hid (by decide), Lib.hid (by decide), Lib.hid (six_si _ _ (by simp)).2.2.2.2.1, ((Below.refl _ _).alloc (Nat.le_refl _) _).trans ((six_si _ _ (by simp)).2.2.2.2.2.2.mono (Nat.le_succ _))⟩
    · go_wp2_with fail
      exact bodyPost_ret (v := .agg #[.int .i64 1, .slice (some ⟨w.heap.size + 1 + 1 + 1 + 1 + 1 + 1, 0, none⟩) 2 2]) (by simp [results, Try.results12, go_sem]) rfl ⟨1, _, 2, [2, 0], rfl, Lib.hid (by decide), Lib.hid (by decide), Lib.hid (six_si _ _ (by simp)).2.2.2.2.2.1, ((Below.refl _ _).alloc (Nat.le_refl _) _).trans ((six_si _ _ (by simp)).2.2.2.2.2.2.mono (Nat.le_succ _))⟩
  · clear f2 g2
    rcases hi6 with rfl | rfl | rfl | rfl | rfl | rfl
    · go_wp2_with fail
      exact bodyPost_ret (v := .agg #[.int .i64 1, .slice (some ⟨w.heap.size + 1, 0, none⟩) 2 2]) (by simp [results, Try.results12, go_sem]) rfl ⟨1, _, 2, [0, 1], rfl, Lib.hid (by decide), Lib.hid (by decide), Lib.hid (six_si _ _ (by simp)).1, ((Below.refl _ _).alloc (Nat.le_refl _) _).trans ((six_si _ _ (by simp)).2.2.2.2.2.2.mono (Nat.le_succ _))⟩
    · go_wp2_with fail
      exact bodyPost_ret (v := .agg #[.int .i64 1, .slice (some ⟨w.heap.size + 1 + 1, 0, none⟩) 2 2]) (by simp [results, Try.results12, go_sem]) rfl ⟨1, _, 2, [1, 0], rfl, Lib.hid (by decide), Lib.hid (by decide), Lib.hid (six_si _ _ (by simp)).2.1, ((Below.refl _ _).alloc (Nat.le_refl _) _).trans ((six_si _ _ (by simp)).2.2.2.2.2.2.mono (Nat.le_succ _))⟩
    · go_wp2_with fail
      exact bodyPost_ret (v := .agg #[.int .i64 1, .slice (some ⟨w.heap.size + 1 + 1 + 1, 0, none⟩) 3 3]) (by simp [results, Try.results12, go_sem]) rfl ⟨1, _, 3, [0, 1, 2], rfl, Lib.hid (by decide), Lib.hid (by decide), Lib.hid (six_si _ _ (by simp)).2.2.1, ((Below.refl _ _).alloc (Nat.le_refl _) _).trans ((six_si _ _ (by simp)).2.2.2.2.2.2.mono (Nat.le_succ _))⟩
    · go_wp2_with fail
      exact bodyPost_ret (v := .agg #[.int .i64 1, .slice (some ⟨w.heap.size + 1 + 1 + 1 + 1, 0, none⟩) 3 3]) (by simp [results, Try.results12, go_sem]) rfl ⟨1, _, 3, [2, 1, 0], rfl, Lib.hid (by decide), Lib.hid (by decide), Lib.hid (six_si _ _ (by simp)).2.2.2.1, ((Below.refl _ _).alloc (Nat.le_refl _) _).trans ((six_si _ _ (by simp)).2.2.2.2.2.2.mono (Nat.le_succ _))⟩
    · go_wp2_with fail
      exact bodyPost_ret (v := .agg #[.int .i64 1, .slice (some ⟨w.heap.size + 1 + 1 + 1 + 1 + 1, 0, none⟩) 1 1]) (by simp [results, Try.results12, go_sem]) rfl ⟨1, _, 1, [1], rfl, Lib.hid (by decide), Lib.hid (by decide), Lib.hid (six_si _ _ (by simp)).2.2.2.2.1, ((Below.refl _ _).alloc (Nat.le_refl _) _).trans ((six_si _ _ (by simp)).2.2.2.2.2.2.mono (Nat.le_succ _))⟩
    · go_wp2_with fail
      exact bodyPost_ret (v := .agg #[.int .i64 1, .slice (some ⟨w.heap.size + 1 + 1 + 1 + 1 + 1 + 1, 0, none⟩) 2 2]) (by simp [results, Try.results12, go_sem]) rfl ⟨1, _, 2, [2, 0], rfl, Lib.hid (by decide), Lib.hid (by decide), Lib.hid (six_si _ _ (by simp)).2.2.2.2.2.1, ((Below.refl _ _).alloc (Nat.le_refl _) _).trans ((six_si _ _ (by simp)).2.2.2.2.2.2.mono (Nat.le_succ _))⟩
end Go.Proofs.Ytgeciimakjfnfaa
