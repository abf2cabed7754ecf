import Derived.Test.YtmdgdphhedgojaaR21
namespace Go.Proofs.Ytmdgdphhedgojaa
open Go.RowKit Go.Maps

def stE (ws : List Int) (ns : List (Int × Int × Int)) (ls : List Int) (s : Int) : Int := if ofE ws ns ls ≠ 0 then ofE ws ns ls else if s < 0 ∨ (ls.length : Int) ≤ s then 7 else 0
/-- The merges of a scale. -/
def steps (ws : List Int) (ns : List (Int × Int × Int)) (ls : List Int) (s : Nat) : List (Int × Int) := ((chain ws ns (alone ws.length) ls).getD s ([], [])).2
def stL (ws : List Int) (ns : List (Int × Int × Int)) (ls : List Int) (s : Int) : List (Int × Int) := if stE ws ns ls s = 0 then steps ws ns ls s.toNat else []

theorem chain_take (ws : List Int) (ns : List (Int × Int × Int)) : ∀ (ls of : List Int) (k : Nat), chain ws ns of (ls.take k) = (chain ws ns of ls).take k
  | [], _, k => by simp [chain]
  | n :: ls, of, 0 => by simp [chain]
  | n :: ls, of, k + 1 => by simp [chain, chain_take ws ns ls]

theorem SI.take {w : World} {A : Option Addr} {zs : List Int} (h : SI w A zs) (k : Nat) : SI w A (zs.take k) := fun j u hu => by
  refine h j u ?_
  rw [List.map_take] at hu
  obtain ⟨h1, h2⟩ := List.getElem?_eq_some_iff.1 hu
  rw [List.getElem_take] at h2
  rw [← h2]
  exact List.getElem?_eq_getElem _

theorem steps_at {ws : List Int} {ns : List (Int × Int × Int)} {ls : List Int} {k : Nat} (hk : k < ls.length) : ((chain ws ns (alone ws.length) (ls.take (k + 1))).map fun s => s.2)[k]? = some (steps ws ns ls k) := by
  rw [chain_take, List.getElem?_map, List.getElem?_take_of_lt (by omega)]
  have h := chain_len ws ns ls (alone ws.length)
  rw [steps, List.getD, List.getElem?_eq_getElem (by omega)]
  rfl

theorem pair_nil : pairC [] = [] := rfl

end Go.Proofs.Ytmdgdphhedgojaa
