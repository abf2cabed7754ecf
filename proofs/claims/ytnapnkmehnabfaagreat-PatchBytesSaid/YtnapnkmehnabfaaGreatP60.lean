import Derived.Test.YtnapnkmehnabfaaGreatP33
namespace Go.Proofs.YtnapnkmehnabfaaGreat
open Go.RowKit Go.Maps
inductive One {α : Type} : List α → List α → Prop
 | here {x y : α} {l : List α} : x ≠ y → One (x :: l) (y :: l)
 | there {x : α} {l m : List α} : One l m → One (x :: l) (x :: m)
theorem bytesH_lt {lab xs : List Nat} (hlb : lab.length < 1000000) (hz : xs.length < 1000000000) : bytesH lab xs < 18446744073709551616 := by
 unfold bytesH sumH;refine mixN_lt (numH_lt _ _ (mixN_lt (mixN_lt (labH_lt _) (by omega)) ?_)) (by decide);simp only [List.length_append, List.length_map, wordsU, upTo_len, List.length_singleton];omega
theorem idH_u64 {p : Pa} (h : PEn p) : u64 (idH p) := by
 have h1 := paB_len h;have := bytesH_lt (lab := bl ⟨#[112, 97, 116, 99, 104]⟩) (xs := paB p) (by decide) (by omega);unfold idH;exact ⟨by omega, by omega⟩
end Go.Proofs.YtnapnkmehnabfaaGreat
