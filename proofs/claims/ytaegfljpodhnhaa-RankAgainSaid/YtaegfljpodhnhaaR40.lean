import Derived.Test.YtaegfljpodhnhaaR32
namespace Go.Proofs.Ytaegfljpodhnhaa
open Go.RowKit Go.Maps

theorem triC_zeros (n : Nat) : triC (List.replicate n (0, 0, 0)) = List.replicate (n * 3) (.int .i64 0) := by
  induction n with
  | zero => rfl
  | succ n ih => rw [List.replicate_succ, triC_cons, ih, show (n + 1) * 3 = n * 3 + 3 by omega]; simp [List.replicate_succ]

theorem made_tri (n : Nat) : (madeCells #[.int .i64 0, .int .i64 0, .int .i64 0] n).toList = List.replicate n (.int .i64 0) := by
  apply List.ext_getElem?
  intro j
  by_cases hj : j < n
  · have h3 : j % 3 < 3 := Nat.mod_lt _ (by omega)
    rcases (by omega : j % 3 = 0 ∨ j % 3 = 1 ∨ j % 3 = 2) with h | h | h <;> simp [madeCells, hj, h]
  · simp [madeCells, hj]

theorem make_tri (n : Nat) (hn : n ≤ 1099511627776) (W : World) :
    ∃ cs, (Instr.makeSlice 29 (.int .i64 n) (.int .i64 n)).run Try.prog W = .ok (.slice (some ⟨W.heap.size, 0, none⟩) n n) (W.alloc (.cells cs 52)) ∧ ∀ w', Bk w' W.heap.size 52 cs → ST w' (some ⟨W.heap.size, 0, none⟩) (List.replicate n (0, 0, 0)) := by
  obtain ⟨ht, _, _, hzs, i, hi, hz, hs1, hb1⟩ := elt_tri
  have hr := run_make (P := Try.prog) W 29 52 i _ ht hi hz .i64 .i64 n n (by omega) (Int.le_refl _) (by rw [hb1]; omega) (by omega)
  simp only [Int.toNat_natCast, hs1] at hr
  refine ⟨_, hr, fun w' hb j u hj => ⟨_, 0, rfl, hb.lt, ?_⟩⟩
  rw [triC_zeros, ← made_tri] at hj
  have := hb.cell j
  rw [Nat.zero_add, this]
  exact (by simpa using hj : (madeCells #[.int .i64 0, .int .i64 0, .int .i64 0] (n * 3))[j]? = some u)

theorem zeros_si {w : World} {h n : Nat} (hb : Bk w h 3 (rowI (List.replicate n 0))) {a m : Nat} (hm : a + m ≤ n) : SI w (some ⟨h, a, none⟩) (List.replicate m 0) := fun j u hj => by
  refine ⟨_, a, rfl, hb.lt, ?_⟩
  rw [hb.cell (a + j)]
  have hjm : j < m := by
    have := (List.getElem?_eq_some_iff.1 hj).1
    simpa using this
  have e : u = .int .i64 0 := by simpa [List.getElem?_replicate, hjm] using hj.symm
  rw [e]
  exact rowI_get (by simp [List.getElem?_replicate]; omega)

theorem zeros_big : validE (List.replicate 4097 0) [] = 4 := by rw [validE, if_pos (.inl (by rw [List.length_replicate]; omega))]
theorem zeros_near : validE [] (List.replicate 16385 (0, 0, 0)) = 4 := by rw [validE, if_pos (.inr (by rw [List.length_replicate]; omega))]
theorem zeros_fit : validE (List.replicate 4096 0) [] = 0 :=
  validE_ok (by rw [List.length_replicate]; exact (by decide)) (by rw [List.any_eq_false]; intro x hx; have := List.eq_of_mem_replicate hx; subst this; decide) (fun k hk => by simp at hk)

theorem big_valid (h m : Nat) (w : World) (hb : Bk w h 3 (rowI (List.replicate 4097 0))) :
    Calls Try.prog 12 #[.agg #[.slice (some ⟨h, 0, none⟩) 4097 m, .slice none 0 0]] w fun e w' => e = .returned (.int .i64 4) ∧ Below w.heap.size w w' := by
  have := valid_any (some ⟨h, 0, none⟩) none m 0 (List.replicate 4097 0) [] w (zeros_si hb (by omega)) SL.nil_ (by rw [List.length_replicate]; omega) (by exact (by decide))
  rw [zeros_big, List.length_replicate] at this
  exact this
theorem fit_valid (h m : Nat) (w : World) (hb : Bk w h 3 (rowI (List.replicate 4097 0))) :
    Calls Try.prog 12 #[.agg #[.slice (some ⟨h, 1, none⟩) 4096 m, .slice none 0 0]] w fun e w' => e = .returned (.int .i64 0) ∧ Below w.heap.size w w' := by
  have := valid_any (some ⟨h, 1, none⟩) none m 0 (List.replicate 4096 0) [] w (zeros_si hb (by omega)) SL.nil_ (by rw [List.length_replicate]; omega) (by exact (by decide))
  rw [zeros_fit, List.length_replicate] at this
  exact this
theorem near_valid (B : Option Addr) (m : Nat) (w : World) (hB : ST w B (List.replicate 16385 (0, 0, 0))) :
    Calls Try.prog 12 #[.agg #[.slice none 0 0, .slice B 16385 m]] w fun e w' => e = .returned (.int .i64 4) ∧ Below w.heap.size w w' := by
  have := valid_any none B 0 m [] (List.replicate 16385 (0, 0, 0)) w SL.nil_ hB (by exact (by decide)) (by rw [List.length_replicate]; omega)
  rw [zeros_near, List.length_replicate] at this
  exact this
theorem big_make : ∃ cs, (∀ W, (Instr.makeSlice 22 (.int .i64 4097) (.int .i64 4097)).run Try.prog W = .ok (.slice (some ⟨W.heap.size, 0, none⟩) 4097 4097) (W.alloc (.cells cs 3)))
    ∧ (∀ w h m, Bk w h 3 cs → Calls Try.prog 12 #[.agg #[.slice (some ⟨h, 0, none⟩) 4097 m, .slice none 0 0]] w fun e w' => e = .returned (.int .i64 4) ∧ Below w.heap.size w w')
    ∧ ∀ w h m, Bk w h 3 cs → Calls Try.prog 12 #[.agg #[.slice (some ⟨h, 1, none⟩) 4096 m, .slice none 0 0]] w fun e w' => e = .returned (.int .i64 0) ∧ Below w.heap.size w w' :=
  ⟨_, make_int 4097 (by omega), fun w h m hb => big_valid h m w hb, fun w h m hb => fit_valid h m w hb⟩
theorem near_make (W : World) : ∃ cs, (Instr.makeSlice 29 (.int .i64 16385) (.int .i64 16385)).run Try.prog W = .ok (.slice (some ⟨W.heap.size, 0, none⟩) 16385 16385) (W.alloc (.cells cs 52))
    ∧ ∀ w m, Bk w W.heap.size 52 cs → Calls Try.prog 12 #[.agg #[.slice none 0 0, .slice (some ⟨W.heap.size, 0, none⟩) 16385 m]] w fun e w' => e = .returned (.int .i64 4) ∧ Below w.heap.size w w' := by
  obtain ⟨cs, h1, h2⟩ := make_tri 16385 (by omega) W
  exact ⟨cs, h1, fun w m hb => near_valid _ m w (h2 w hb)⟩
end Go.Proofs.Ytaegfljpodhnhaa
