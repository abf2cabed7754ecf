import Derived.Test.YtmdgdphhedgojaaMaps2
import Derived.Test.YtmdgdphhedgojaaR09
import Derived.DeepKeys4
namespace Go.Proofs.Ytmdgdphhedgojaa
open Go.RowKit Go.Maps
open Go.ChangeMaps (setBlock heap_setBlock_same)

variable {κ α : Type} {ek : κ → Value} {ev : α → Value} {P : Program} {kt : TypeId} {w w' : World} {r n : Nat} {f : κ → Option α}

/-- 'delete' of a key that has come. -/
theorem Iter.delete [DecidableEq κ] {it b c : Nat} {done : List κ} {t e ty : TypeId} {x : κ} (h : Iter ek ev P kt w it b f n done c) (hI : Inj ek) (K : Keyed P kt) (ht : P.underlying t = some (.map kt e)) (hx : Good P kt (ek x)) :
    ∃ w' n' c', (Builtin.delete_ #[t, kt] ty #[.map (some b), ek x]).run P w = .ok (.tuple #[]) w' ∧ Iter ek ev P kt w' it b (delF f x) n' done c' ∧ c' ≤ c ∧ Turn w w' b := by
  have hne := h.ne
  obtain ⟨es, clock, since, seen, c0, g1, g2, g3, F, hold, hsc, hsc2, hdone, hc⟩ := h
  obtain ⟨l, hl⟩ := hx
  rcases F.look hI K w ⟨l, hl⟩ with ⟨h1, h2, h3⟩ | ⟨j, e0, a, h1, h2, h3, h4, h5⟩
  · have hT := Turn.setBlock g2 (.map es clock)
    refine ⟨setBlock w b (.map es clock), n, c, by simp [Builtin.delete_, run_underlying ht, MapKept.run_getObj_map g2, K.check w _ hl, h1, MapKept.run_setObj_map _ g2, Result.andThen, setBlock], ⟨es, clock, since, seen, c0, (hT.block it hne).trans g1, heap_setBlock_same g2 _, g3, ?_, hold, hsc, hsc2, hdone, hc⟩, Nat.le_refl _, hT⟩
    have : delF f x = f := by
      funext y
      unfold delF
      split
      · rename_i h; subst h; exact h2.symm
      · rfl
    rw [this]; exact F
  · have hT := Turn.setBlock g2 (.map (es.eraseIdxIfInBounds j) clock)
    have hjs : j < es.size := by simpa using (List.getElem?_eq_some_iff.1 h3).1
    have hl' : (es.eraseIdxIfInBounds j).toList = es.toList.eraseIdx j := by
      unfold Array.eraseIdxIfInBounds
      rw [dif_pos hjs]
      simp
    have hsub : ∀ e ∈ (es.eraseIdxIfInBounds j).toList, e ∈ es.toList := fun e he => by rw [hl'] at he; exact (List.eraseIdx_sublist _ _).subset he
    refine ⟨setBlock w b (.map (es.eraseIdxIfInBounds j) clock), _, _, by simp [Builtin.delete_, run_underlying ht, MapKept.run_getObj_map g2, K.check w _ hl, h1, MapKept.run_setObj_map _ g2, Result.andThen, setBlock], ⟨_, clock, since, seen, c0, (hT.block it hne).trans g1, heap_setBlock_same g2 _, rfl, F.del hI h3 h4, fun e he => hold e (hsub e he), hsc, hsc2, fun e he => hdone e (hsub e he), rfl⟩, ?_, hT⟩
    rw [hc]
    have hsz : ∀ L : Array MapEntry, (leftOf L seen).size = (L.toList.filter fun x => !seen.contains x.born).length := fun L => by
      have h : (leftOf L seen).toList = L.toList.filter (fun x => !seen.contains x.born) := by simp [leftOf]
      rw [← h, Array.length_toList]
    rw [hsz, hsz, hl']
    exact ((List.eraseIdx_sublist _ _).filter _).length_le

/-- Ints and pairs of ints as keys. -/
def i64 (x : Int) : Prop := -9223372036854775808 ≤ x ∧ x ≤ 9223372036854775807
def iV (x : Int) : Value := .int .i64 x
def pV (p : Int × Int) : Value := .agg #[.int .i64 p.1, .int .i64 p.2]
def bV (x : Bool) : Value := .bool x
theorem inj_iV : Inj iV := fun a b h => by unfold iV at h; injection h
theorem inj_pV : Inj pV := fun a b h => by
  unfold pV at h
  simp at h
  exact Prod.ext h.1 h.2

theorem keyed_int : Keyed Try.prog 3 := int_keyed Try.underlying3
theorem laid_out : laidOutB Try.prog = true := by kernel_rfl
theorem row_pair : (114 : TypeId) < (Try.prog).types.size := of_decide_eq_true (by kernel_rfl)
theorem keyed_pair : Keyed Try.prog 114 := Keyed.of_law (deep_law_laid laid_out (m := 2) (by omega) row_pair (by kernel_rfl) (by rw [Try.underlying114]))

theorem good_int {x : Int} (h : i64 x) : Good Try.prog 3 (iV x) := ⟨_, keyOf_int_mk Try.underlying3 (by unfold i64 at h; exact WalkArith.wf_i64 (by omega))⟩
theorem cells_pair : (Try.prog).cellsOf 114 = 2 := by kernel_rfl
theorem cells_int : (Try.prog).cellsOf 3 = 1 := by kernel_rfl
theorem types_size : (Try.prog).types.size = ((Try.prog).types.size - 1) + 1 := by
  have : 0 < (Try.prog).types.size := Nat.lt_of_le_of_lt (Nat.zero_le _) row_pair
  omega
theorem key_pair : (Try.prog).keyType 114 = true := by kernel_rfl
theorem good_pair {p : Int × Int} (h1 : i64 p.1) (h2 : i64 p.2) : Good Try.prog 114 (pV p) := by
  have w1 : (Lit.int .i64 p.1).wf = true := by unfold i64 at h1; exact WalkArith.wf_i64 (by omega)
  have w2 : (Lit.int .i64 p.2).wf = true := by unfold i64 at h2; exact WalkArith.wf_i64 (by omega)
  unfold Good keyOf pV
  rw [Try.underlying114]
  have hf : Value.formed Try.prog 114 (.agg #[.int .i64 p.1, .int .i64 p.2]) = true := by
    unfold Value.formed
    rw [Try.underlying114]
    simp [cells_pair]
  simp only [key_pair, Bool.true_and, hf, if_true]
  obtain ⟨d, hd⟩ : ∃ d, (Try.prog).types.size = d + 1 := ⟨_, types_size⟩
  rw [hd]
  simp [Program.keyLits, Try.underlying114, Try.underlying3, Value.cells, cells_pair, cells_int, List.range_succ, w1, w2]
theorem zero_int (w : World) : (zeroValue 3).run Try.prog w = .ok (iV 0) w := by kernel_rfl
theorem zero_bool (w : World) : (zeroValue 4).run Try.prog w = .ok (bV false) w := by kernel_rfl
end Go.Proofs.Ytmdgdphhedgojaa
