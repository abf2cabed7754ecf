import Derived.Test.YtgeciimakjfnfaaC24
import Derived.OpenShut
namespace Go.Proofs.Ytgeciimakjfnfaa
open Go.RowKit Go.Maps

/-- A slice that came in, as the walks take it. -/
theorem row_si {w : World} {a : Option Addr} {len cap : Nat} {zs : List Int} (h : (a = none ∧ len = 0 ∧ cap = 0 ∧ zs = []) ∨
    ∃ x, a = some x ∧ len ≤ cap ∧ cap ≤ maxLen ∧ zs.length = cap ∧ (∀ i, i < zs.length → w.cell? (x.add i) = some (.int .i64 (zs.getD i 0))) ∧ ∀ n ∈ zs, (Lit.int .i64 n).wf = true) :
    ∃ l : List Int, l.length = len ∧ SI w a l ∧ W64 l ∧ len ≤ cap ∧ len ≤ maxLen := by
  rcases h with ⟨rfl, rfl, rfl, rfl⟩ | ⟨x, rfl, h1, h2, h3, h4, h5⟩
  · exact ⟨[], rfl, SL.nil_, fun z hz => by simp at hz, Nat.le_refl _, Nat.zero_le _⟩
  · refine ⟨zs.take len, by simp; omega, fun j u hu => ?_, fun z hz => bounds_i64 (h5 z (List.mem_of_mem_take hz)), h1, Nat.le_trans h1 h2⟩
    have hj : j < len := by
      have := (List.getElem?_eq_some_iff.1 hu).1
      simp at this
      omega
    have hu2 : u = .int .i64 (zs.getD j 0) := by
      rw [List.getElem?_map, List.getElem?_take_of_lt hj, List.getElem?_eq_getElem (by omega)] at hu
      simp at hu
      simp [List.getD, show j < zs.length by omega, ← hu]
    have h0 := h4 0 (by omega)
    have hb := World.block_lt_of_cell? w _ h0
    have hc := h4 j (by omega)
    obtain ⟨b, o, sp⟩ := x
    have hsp : sp = none := by
      cases sp with
      | none => rfl
      | some s =>
        have : w.cell? ⟨b, o, some s⟩ = some (.int .i64 (zs.getD 0 0)) := h0
        unfold World.cell? at this
        split at this
        · simp at this
        · cases this
    subst hsp
    refine ⟨b, o, rfl, hb, ?_⟩
    rw [hu2, ← hc]
    unfold Addr.add
    split
    · rename_i h; subst h; rfl
    · rfl
end Go.Proofs.Ytgeciimakjfnfaa
