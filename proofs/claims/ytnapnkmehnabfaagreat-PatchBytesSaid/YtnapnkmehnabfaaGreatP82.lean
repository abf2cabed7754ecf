import Derived.Test.YtnapnkmehnabfaaGreatW1
namespace Go.Proofs.YtnapnkmehnabfaaGreat
open Go.RowKit Go.Maps
theorem bounds_u8 {n : Int} (h : (Lit.int .u8 n).wf = true) : 0 ≤ n ∧ n < 256 := by
 simp [Lit.wf, IntKind.min, IntKind.max, IntKind.signed, IntKind.bits] at h
 omega
theorem row_sb {w : World} {a : Option Addr} {len cap : Nat} {zs : List Int} (h : (a = none ∧ len = 0 ∧ cap = 0 ∧ zs = []) ∨
  ∃ x, a = some x ∧ len ≤ cap ∧ cap ≤ maxLen ∧ zs.length = cap ∧ (∀ i, i < zs.length → w.cell? (x.add i) = some (.int .u8 (zs.getD i 0))) ∧ ∀ n ∈ zs, (Lit.int .u8 n).wf = true) :
  ∃ l : List Nat, l.length = len ∧ SL w a (byV l) ∧ (∀ x ∈ l, x < 256) ∧ len ≤ cap := by
 rcases h with ⟨rfl, rfl, rfl, rfl⟩ | ⟨x, rfl, h1, h2, h3, h4, h5⟩
 ·exact ⟨[], rfl, SL.nil_, fun z hz => by simp at hz, Nat.le_refl _⟩
 refine ⟨(zs.take len).map Int.toNat, by simp; omega, fun j u hu => ?_, fun z hz => ?_, h1⟩
 ·have hj : j < len := by
   have := (List.getElem?_eq_some_iff.1 hu).1;rw [byV_len] at this;simp at this
   omega
  have hjz : j < zs.length := by omega
  have hz := bounds_u8 (h5 zs[j] (List.getElem_mem hjz));have hu2 : u = .int .u8 (zs.getD j 0) := by
   unfold byV at hu;rw [List.getElem?_map, List.getElem?_map, List.getElem?_take_of_lt hj, List.getElem?_eq_getElem hjz] at hu;simp only [Option.map_some, Option.some.injEq] at hu;rw [← hu, List.getD_eq_getElem?_getD, List.getElem?_eq_getElem hjz, Option.getD_some, Int.toNat_of_nonneg hz.1]
  have h0 := h4 0 (by omega);have hb := World.block_lt_of_cell? w _ h0;have hc := h4 j hjz;obtain ⟨b, o, sp⟩ := x;have hsp : sp = none := by
   cases sp with
   | none => rfl
   | some s =>
    have : w.cell? ⟨b, o, some s⟩ = some (.int .u8 (zs.getD 0 0)) := h0;unfold World.cell? at this;split at this
    ·simp at this
    cases this
  subst hsp;refine ⟨b, o, rfl, hb, ?_⟩;rw [hu2, ← hc];unfold Addr.add;split
  ·rename_i h; subst h; rfl
  rfl
 obtain ⟨y, hy, rfl⟩ := List.mem_map.1 hz;have := bounds_u8 (h5 y (List.mem_of_mem_take hy));omega
end Go.Proofs.YtnapnkmehnabfaaGreat
