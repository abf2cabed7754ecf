/-
  No cell of these rows narrows 'for every input' (looked for: loops, veiled, ifaces, maps, wideKeys, modest, calm, conditions, laid).
  DERIVED. THE GIVEN ROWS OF THIS SEAT. 7 by the template 'for every input the law returns true; each argument reads behind the call as it read before'; 0 by the template 'total and deterministic' (their statements: YtaegfljpodhnhaaTotals.lean).
  GIVEN WITH THE SEED: the statements are not yours to turn. If you find one false, say at which input.
  Laid BY PROGRAM, IN A SANDBOX (cutbox-rows.mjs): the forced cells as the released guide's own fill.sh prints them over the translation 84791398e1d197ca… (all of the seat's roots in one cut). By AI agents, Wed Nov 11 2026. No macro, syntax, notation, axiom, sorry.
-/
import Derived.Test.YtaegfljpodhnhaaChecked
import GoSem.Claim
import GoSem.ClaimJoined
import GoSem.ClaimMapViews
import Derived.JoinedTies
import Derived.KernelRfl
namespace Go.Proofs.Ytaegfljpodhnhaa
/- THE CELL 'sum', in the pinned program and in every row, IS THE sha256 OF THE DUMP (.gsa) THAT YtaegfljpodhnhaaProg.lean LOADS. Nothing in Lean hashes anything: it is a label: what it is worth is what the hold of that sum in a sandbox is worth. -/
noncomputable def Try.pinned : Pinned := { name := "ytaegfljpodhnhaa", sum := "84791398e1d197caae9096b25ccd2c82bd3bf4d445b91caeae5c95a40d3fa91c", checked := Try.checked }
namespace Rows
def none {H : Type} : Left H := { results := [], args := [] }

/-- 'meresmanlaw22.RankChains': WHATEVER THE INPUT: true; the input reads as it did. -/
def rankChainsSpec : ChangeSpec := { name := "rankChains", fn := fun _ => fun
  | [d1, d2, d3, d4, d5, d6, d7] => { results := [.lit (.bool true)], args := [d1, d2, d3, d4, d5, d6, d7] }
  | _ => none }
def rankChainsRow : OpenClaim := { program := "ytaegfljpodhnhaa", sum := "84791398e1d197caae9096b25ccd2c82bd3bf4d445b91caeae5c95a40d3fa91c", func := "meresman/meresmanlaw22.RankChains", spec := "rankChains", unfollowed := true, recurses := true, plainKeys := false, apart := false }
def RankChainsSaid : Prop := rankChainsRow.holds Try.pinned (OpenSpec.ofChange rankChainsSpec)

/-- ITS FALSE NEIGHBOUR: 'it returns false'. Refute it at one input. -/
def rankChainsWrong : ChangeSpec := { name := "rankChains", fn := fun _ => fun
  | [d1, d2, d3, d4, d5, d6, d7] => { results := [.lit (.bool false)], args := [d1, d2, d3, d4, d5, d6, d7] }
  | _ => none }
def RankChainsWrongFalsely : Prop := rankChainsRow.holds Try.pinned (OpenSpec.ofChange rankChainsWrong)

/-- 'meresmanlaw22.RankScaled': WHATEVER THE INPUT: true; the input reads as it did. -/
def rankScaledSpec : ChangeSpec := { name := "rankScaled", fn := fun _ => fun
  | [d1, d2, d3, d4, d5] => { results := [.lit (.bool true)], args := [d1, d2, d3, d4, d5] }
  | _ => none }
def rankScaledRow : OpenClaim := { program := "ytaegfljpodhnhaa", sum := "84791398e1d197caae9096b25ccd2c82bd3bf4d445b91caeae5c95a40d3fa91c", func := "meresman/meresmanlaw22.RankScaled", spec := "rankScaled", unfollowed := true, recurses := true, plainKeys := false, apart := false }
def RankScaledSaid : Prop := rankScaledRow.holds Try.pinned (OpenSpec.ofChange rankScaledSpec)

/-- ITS FALSE NEIGHBOUR: 'it returns false'. Refute it at one input. -/
def rankScaledWrong : ChangeSpec := { name := "rankScaled", fn := fun _ => fun
  | [d1, d2, d3, d4, d5] => { results := [.lit (.bool false)], args := [d1, d2, d3, d4, d5] }
  | _ => none }
def RankScaledWrongFalsely : Prop := rankScaledRow.holds Try.pinned (OpenSpec.ofChange rankScaledWrong)

/-- 'meresmanlaw22.RankChecks': WHATEVER THE INPUT: true; the input reads as it did. -/
def rankChecksSpec : ChangeSpec := { name := "rankChecks", fn := fun _ => fun
  | [d1, d2, d3, d4, d5, d6, d7] => { results := [.lit (.bool true)], args := [d1, d2, d3, d4, d5, d6, d7] }
  | _ => none }
def rankChecksRow : OpenClaim := { program := "ytaegfljpodhnhaa", sum := "84791398e1d197caae9096b25ccd2c82bd3bf4d445b91caeae5c95a40d3fa91c", func := "meresman/meresmanlaw22.RankChecks", spec := "rankChecks", unfollowed := true, recurses := true, plainKeys := false, apart := false }
def RankChecksSaid : Prop := rankChecksRow.holds Try.pinned (OpenSpec.ofChange rankChecksSpec)

/-- ITS FALSE NEIGHBOUR: 'it returns false'. Refute it at one input. -/
def rankChecksWrong : ChangeSpec := { name := "rankChecks", fn := fun _ => fun
  | [d1, d2, d3, d4, d5, d6, d7] => { results := [.lit (.bool false)], args := [d1, d2, d3, d4, d5, d6, d7] }
  | _ => none }
def RankChecksWrongFalsely : Prop := rankChecksRow.holds Try.pinned (OpenSpec.ofChange rankChecksWrong)

/-- 'meresmanlaw22.RankBytes': WHATEVER THE INPUT: true; the input reads as it did. -/
def rankBytesSpec : ChangeSpec := { name := "rankBytes", fn := fun _ => fun
  | [d1, d2, d3, d4] => { results := [.lit (.bool true)], args := [d1, d2, d3, d4] }
  | _ => none }
def rankBytesRow : OpenClaim := { program := "ytaegfljpodhnhaa", sum := "84791398e1d197caae9096b25ccd2c82bd3bf4d445b91caeae5c95a40d3fa91c", func := "meresman/meresmanlaw22.RankBytes", spec := "rankBytes", unfollowed := true, recurses := true, plainKeys := false, apart := false }
def RankBytesSaid : Prop := rankBytesRow.holds Try.pinned (OpenSpec.ofChange rankBytesSpec)

/-- ITS FALSE NEIGHBOUR: 'it returns false'. Refute it at one input. -/
def rankBytesWrong : ChangeSpec := { name := "rankBytes", fn := fun _ => fun
  | [d1, d2, d3, d4] => { results := [.lit (.bool false)], args := [d1, d2, d3, d4] }
  | _ => none }
def RankBytesWrongFalsely : Prop := rankBytesRow.holds Try.pinned (OpenSpec.ofChange rankBytesWrong)

/-- 'meresmanlaw22.RankGroups': WHATEVER THE INPUT: true; the input reads as it did. -/
def rankGroupsSpec : ChangeSpec := { name := "rankGroups", fn := fun _ => fun
  | [d1, d2, d3, d4, d5, d6, d7] => { results := [.lit (.bool true)], args := [d1, d2, d3, d4, d5, d6, d7] }
  | _ => none }
def rankGroupsRow : OpenClaim := { program := "ytaegfljpodhnhaa", sum := "84791398e1d197caae9096b25ccd2c82bd3bf4d445b91caeae5c95a40d3fa91c", func := "meresman/meresmanlaw22.RankGroups", spec := "rankGroups", unfollowed := true, recurses := true, plainKeys := false, apart := false }
def RankGroupsSaid : Prop := rankGroupsRow.holds Try.pinned (OpenSpec.ofChange rankGroupsSpec)

/-- ITS FALSE NEIGHBOUR: 'it returns false'. Refute it at one input. -/
def rankGroupsWrong : ChangeSpec := { name := "rankGroups", fn := fun _ => fun
  | [d1, d2, d3, d4, d5, d6, d7] => { results := [.lit (.bool false)], args := [d1, d2, d3, d4, d5, d6, d7] }
  | _ => none }
def RankGroupsWrongFalsely : Prop := rankGroupsRow.holds Try.pinned (OpenSpec.ofChange rankGroupsWrong)

/-- 'meresmanlaw22.RankNests': WHATEVER THE INPUT: true; the input reads as it did. -/
def rankNestsSpec : ChangeSpec := { name := "rankNests", fn := fun _ => fun
  | [d1, d2] => { results := [.lit (.bool true)], args := [d1, d2] }
  | _ => none }
def rankNestsRow : OpenClaim := { program := "ytaegfljpodhnhaa", sum := "84791398e1d197caae9096b25ccd2c82bd3bf4d445b91caeae5c95a40d3fa91c", func := "meresman/meresmanlaw22.RankNests", spec := "rankNests", unfollowed := true, recurses := true, plainKeys := false, apart := false }
def RankNestsSaid : Prop := rankNestsRow.holds Try.pinned (OpenSpec.ofChange rankNestsSpec)

/-- ITS FALSE NEIGHBOUR: 'it returns false'. Refute it at one input. -/
def rankNestsWrong : ChangeSpec := { name := "rankNests", fn := fun _ => fun
  | [d1, d2] => { results := [.lit (.bool false)], args := [d1, d2] }
  | _ => none }
def RankNestsWrongFalsely : Prop := rankNestsRow.holds Try.pinned (OpenSpec.ofChange rankNestsWrong)

/-- 'meresmanlaw22.RankAgain': WHATEVER THE INPUT: true; the input reads as it did. -/
def rankAgainSpec : ChangeSpec := { name := "rankAgain", fn := fun _ => fun
  | [d1, d2, d3] => { results := [.lit (.bool true)], args := [d1, d2, d3] }
  | _ => none }
def rankAgainRow : OpenClaim := { program := "ytaegfljpodhnhaa", sum := "84791398e1d197caae9096b25ccd2c82bd3bf4d445b91caeae5c95a40d3fa91c", func := "meresman/meresmanlaw22.RankAgain", spec := "rankAgain", unfollowed := true, recurses := true, plainKeys := false, apart := false }
def RankAgainSaid : Prop := rankAgainRow.holds Try.pinned (OpenSpec.ofChange rankAgainSpec)

/-- ITS FALSE NEIGHBOUR: 'it returns false'. Refute it at one input. -/
def rankAgainWrong : ChangeSpec := { name := "rankAgain", fn := fun _ => fun
  | [d1, d2, d3] => { results := [.lit (.bool false)], args := [d1, d2, d3] }
  | _ => none }
def RankAgainWrongFalsely : Prop := rankAgainRow.holds Try.pinned (OpenSpec.ofChange rankAgainWrong)

/- THE SECOND FORM. 'bulk': how many values and letters a reading holds, each counted each time it is reached (what is shared counts as often as it is met; a slice's spare places count too). A statement '..UptoSaid' is the law's where the arguments, and the package variables that the reading takes, are together of bulk at most 1048576: NARROWER than '..Said'. Prove '..Said' where nothing that the law and all that it calls make is longer than what came in: it says more and counts as full. Else prove '..UptoSaid'. A law counts once. -/
mutual
def uptoBulk {H : Type} : DataW H → Nat
  | .lit (.string bytes) => bytes.length + 1
  | .lit _ => 1
  | .nil => 1
  | .ptr d => uptoBulk d + 1
  | .slice elems spare => uptoBulkAll elems + uptoBulkAll spare + 1
  | .agg parts => uptoBulkAll parts + 1
  | .iface _ d => uptoBulk d + 1
  | .map entries => uptoBulkEntries entries + 1
  | .held _ => 1
def uptoBulkAll {H : Type} : List (DataW H) → Nat
  | [] => 0
  | d :: r => uptoBulk d + uptoBulkAll r
def uptoBulkEntries {H : Type} : List (Lit × DataW H) → Nat
  | [] => 0
  | x :: r => uptoBulkEntry x + uptoBulkEntries r
def uptoBulkEntry {H : Type} : Lit × DataW H → Nat
  | (.string bytes, d) => bytes.length + uptoBulk d + 1
  | (_, d) => uptoBulk d + 1
 end
def uptoSmall : (H : Type) → List (DataW H) → Bool := fun _ ds => decide (uptoBulkAll ds ≤ 1048576)
def OpenSpec.upto (s : _root_.Go.ChangeSpec) : _root_.Go.OpenSpec := { _root_.Go.OpenSpec.ofChange s with cond := some uptoSmall }

/-- 'meresmanlaw22.RankChains', WHERE WHAT IT READS IS OF BULK AT MOST 1048576: true; the input reads as it did. -/
def rankChainsUptoRow : OpenClaim := { program := "ytaegfljpodhnhaa", sum := "84791398e1d197caae9096b25ccd2c82bd3bf4d445b91caeae5c95a40d3fa91c", func := "meresman/meresmanlaw22.RankChains", spec := "rankChains", unfollowed := true, recurses := true, plainKeys := false, apart := false, narrowed := true }
def RankChainsUptoSaid : Prop := rankChainsUptoRow.holds Try.pinned (OpenSpec.upto rankChainsSpec)

/-- 'meresmanlaw22.RankScaled', WHERE WHAT IT READS IS OF BULK AT MOST 1048576: true; the input reads as it did. -/
def rankScaledUptoRow : OpenClaim := { program := "ytaegfljpodhnhaa", sum := "84791398e1d197caae9096b25ccd2c82bd3bf4d445b91caeae5c95a40d3fa91c", func := "meresman/meresmanlaw22.RankScaled", spec := "rankScaled", unfollowed := true, recurses := true, plainKeys := false, apart := false, narrowed := true }
def RankScaledUptoSaid : Prop := rankScaledUptoRow.holds Try.pinned (OpenSpec.upto rankScaledSpec)

/-- 'meresmanlaw22.RankChecks', WHERE WHAT IT READS IS OF BULK AT MOST 1048576: true; the input reads as it did. -/
def rankChecksUptoRow : OpenClaim := { program := "ytaegfljpodhnhaa", sum := "84791398e1d197caae9096b25ccd2c82bd3bf4d445b91caeae5c95a40d3fa91c", func := "meresman/meresmanlaw22.RankChecks", spec := "rankChecks", unfollowed := true, recurses := true, plainKeys := false, apart := false, narrowed := true }
def RankChecksUptoSaid : Prop := rankChecksUptoRow.holds Try.pinned (OpenSpec.upto rankChecksSpec)

/-- 'meresmanlaw22.RankBytes', WHERE WHAT IT READS IS OF BULK AT MOST 1048576: true; the input reads as it did. -/
def rankBytesUptoRow : OpenClaim := { program := "ytaegfljpodhnhaa", sum := "84791398e1d197caae9096b25ccd2c82bd3bf4d445b91caeae5c95a40d3fa91c", func := "meresman/meresmanlaw22.RankBytes", spec := "rankBytes", unfollowed := true, recurses := true, plainKeys := false, apart := false, narrowed := true }
def RankBytesUptoSaid : Prop := rankBytesUptoRow.holds Try.pinned (OpenSpec.upto rankBytesSpec)

/-- 'meresmanlaw22.RankGroups', WHERE WHAT IT READS IS OF BULK AT MOST 1048576: true; the input reads as it did. -/
def rankGroupsUptoRow : OpenClaim := { program := "ytaegfljpodhnhaa", sum := "84791398e1d197caae9096b25ccd2c82bd3bf4d445b91caeae5c95a40d3fa91c", func := "meresman/meresmanlaw22.RankGroups", spec := "rankGroups", unfollowed := true, recurses := true, plainKeys := false, apart := false, narrowed := true }
def RankGroupsUptoSaid : Prop := rankGroupsUptoRow.holds Try.pinned (OpenSpec.upto rankGroupsSpec)

/-- 'meresmanlaw22.RankNests', WHERE WHAT IT READS IS OF BULK AT MOST 1048576: true; the input reads as it did. -/
def rankNestsUptoRow : OpenClaim := { program := "ytaegfljpodhnhaa", sum := "84791398e1d197caae9096b25ccd2c82bd3bf4d445b91caeae5c95a40d3fa91c", func := "meresman/meresmanlaw22.RankNests", spec := "rankNests", unfollowed := true, recurses := true, plainKeys := false, apart := false, narrowed := true }
def RankNestsUptoSaid : Prop := rankNestsUptoRow.holds Try.pinned (OpenSpec.upto rankNestsSpec)

/-- 'meresmanlaw22.RankAgain', WHERE WHAT IT READS IS OF BULK AT MOST 1048576: true; the input reads as it did. -/
def rankAgainUptoRow : OpenClaim := { program := "ytaegfljpodhnhaa", sum := "84791398e1d197caae9096b25ccd2c82bd3bf4d445b91caeae5c95a40d3fa91c", func := "meresman/meresmanlaw22.RankAgain", spec := "rankAgain", unfollowed := true, recurses := true, plainKeys := false, apart := false, narrowed := true }
def RankAgainUptoSaid : Prop := rankAgainUptoRow.holds Try.pinned (OpenSpec.upto rankAgainSpec)

end Rows
end Go.Proofs.Ytaegfljpodhnhaa
