/-
  No cell of these rows narrows 'for every input' (looked for: loops, veiled, ifaces, maps, wideKeys, modest, calm, conditions, laid).
  DERIVED. THE GIVEN ROWS OF THIS SEAT. 6 by the template 'for every input the law returns true; each argument reads behind the call as it read before'; 0 by the template 'total and deterministic' (their statements: YtmdgdphhedgojaaTotals.lean).
  GIVEN WITH THE SEED: the statements are not yours to turn. If you find one false, say at which input.
  Laid BY PROGRAM, IN A SANDBOX (cutbox-rows.mjs): the forced cells as the released guide's own fill.sh prints them over the translation c7357f1f81f0ca11… (all of the seat's roots in one cut). By AI agents, Wed Nov 11 2026. No macro, syntax, notation, axiom, sorry.
-/
import Derived.Test.YtmdgdphhedgojaaChecked
import GoSem.Claim
import GoSem.ClaimJoined
import GoSem.ClaimMapViews
import Derived.JoinedTies
import Derived.KernelRfl
namespace Go.Proofs.Ytmdgdphhedgojaa
/- THE CELL 'sum', in the pinned program and in every row, IS THE sha256 OF THE DUMP (.gsa) THAT YtmdgdphhedgojaaProg.lean LOADS. Nothing in Lean hashes anything: it is a label: what it is worth is what the hold of that sum in a sandbox is worth. -/
noncomputable def Try.pinned : Pinned := { name := "ytmdgdphhedgojaa", sum := "c7357f1f81f0ca11dbd5a2f3fe153c8462e9e39918ceb3c15154f9f3b862346d", checked := Try.checked }
namespace Rows
def none {H : Type} : Left H := { results := [], args := [] }

/-- 'meresmanlaw26.KeepAnew': WHATEVER THE INPUT: true; the input reads as it did. -/
def keepAnewSpec : ChangeSpec := { name := "keepAnew", fn := fun _ => fun
  | [d1, d2, d3, d4, d5, d6] => { results := [.lit (.bool true)], args := [d1, d2, d3, d4, d5, d6] }
  | _ => none }
def keepAnewRow : OpenClaim := { program := "ytmdgdphhedgojaa", sum := "c7357f1f81f0ca11dbd5a2f3fe153c8462e9e39918ceb3c15154f9f3b862346d", func := "meresman/meresmanlaw26.KeepAnew", spec := "keepAnew", unfollowed := true, recurses := true, plainKeys := false, apart := false }
def KeepAnewSaid : Prop := keepAnewRow.holds Try.pinned (OpenSpec.ofChange keepAnewSpec)

/-- ITS FALSE NEIGHBOUR: 'it returns false'. Refute it at one input. -/
def keepAnewWrong : ChangeSpec := { name := "keepAnew", fn := fun _ => fun
  | [d1, d2, d3, d4, d5, d6] => { results := [.lit (.bool false)], args := [d1, d2, d3, d4, d5, d6] }
  | _ => none }
def KeepAnewWrongFalsely : Prop := keepAnewRow.holds Try.pinned (OpenSpec.ofChange keepAnewWrong)

/-- 'meresmanlaw26.KeepApart': WHATEVER THE INPUT: true; the input reads as it did. -/
def keepApartSpec : ChangeSpec := { name := "keepApart", fn := fun _ => fun
  | [d1, d2, d3] => { results := [.lit (.bool true)], args := [d1, d2, d3] }
  | _ => none }
def keepApartRow : OpenClaim := { program := "ytmdgdphhedgojaa", sum := "c7357f1f81f0ca11dbd5a2f3fe153c8462e9e39918ceb3c15154f9f3b862346d", func := "meresman/meresmanlaw26.KeepApart", spec := "keepApart", unfollowed := true, recurses := true, plainKeys := false, apart := false }
def KeepApartSaid : Prop := keepApartRow.holds Try.pinned (OpenSpec.ofChange keepApartSpec)

/-- ITS FALSE NEIGHBOUR: 'it returns false'. Refute it at one input. -/
def keepApartWrong : ChangeSpec := { name := "keepApart", fn := fun _ => fun
  | [d1, d2, d3] => { results := [.lit (.bool false)], args := [d1, d2, d3] }
  | _ => none }
def KeepApartWrongFalsely : Prop := keepApartRow.holds Try.pinned (OpenSpec.ofChange keepApartWrong)

/-- 'meresmanlaw26.KeepLocal': WHATEVER THE INPUT: true; the input reads as it did. -/
def keepLocalSpec : ChangeSpec := { name := "keepLocal", fn := fun _ => fun
  | [d1, d2, d3, d4] => { results := [.lit (.bool true)], args := [d1, d2, d3, d4] }
  | _ => none }
def keepLocalRow : OpenClaim := { program := "ytmdgdphhedgojaa", sum := "c7357f1f81f0ca11dbd5a2f3fe153c8462e9e39918ceb3c15154f9f3b862346d", func := "meresman/meresmanlaw26.KeepLocal", spec := "keepLocal", unfollowed := true, recurses := true, plainKeys := false, apart := false }
def KeepLocalSaid : Prop := keepLocalRow.holds Try.pinned (OpenSpec.ofChange keepLocalSpec)

/-- ITS FALSE NEIGHBOUR: 'it returns false'. Refute it at one input. -/
def keepLocalWrong : ChangeSpec := { name := "keepLocal", fn := fun _ => fun
  | [d1, d2, d3, d4] => { results := [.lit (.bool false)], args := [d1, d2, d3, d4] }
  | _ => none }
def KeepLocalWrongFalsely : Prop := keepLocalRow.holds Try.pinned (OpenSpec.ofChange keepLocalWrong)

/-- 'meresmanlaw26.KeepNumbers': WHATEVER THE INPUT: true; the input reads as it did. -/
def keepNumbersSpec : ChangeSpec := { name := "keepNumbers", fn := fun _ => fun
  | [d1, d2, d3] => { results := [.lit (.bool true)], args := [d1, d2, d3] }
  | _ => none }
def keepNumbersRow : OpenClaim := { program := "ytmdgdphhedgojaa", sum := "c7357f1f81f0ca11dbd5a2f3fe153c8462e9e39918ceb3c15154f9f3b862346d", func := "meresman/meresmanlaw26.KeepNumbers", spec := "keepNumbers", unfollowed := true, recurses := true, plainKeys := false, apart := false }
def KeepNumbersSaid : Prop := keepNumbersRow.holds Try.pinned (OpenSpec.ofChange keepNumbersSpec)

/-- ITS FALSE NEIGHBOUR: 'it returns false'. Refute it at one input. -/
def keepNumbersWrong : ChangeSpec := { name := "keepNumbers", fn := fun _ => fun
  | [d1, d2, d3] => { results := [.lit (.bool false)], args := [d1, d2, d3] }
  | _ => none }
def KeepNumbersWrongFalsely : Prop := keepNumbersRow.holds Try.pinned (OpenSpec.ofChange keepNumbersWrong)

/-- 'meresmanlaw26.KeepSets': WHATEVER THE INPUT: true; the input reads as it did. -/
def keepSetsSpec : ChangeSpec := { name := "keepSets", fn := fun _ => fun
  | [d1, d2, d3, d4, d5] => { results := [.lit (.bool true)], args := [d1, d2, d3, d4, d5] }
  | _ => none }
def keepSetsRow : OpenClaim := { program := "ytmdgdphhedgojaa", sum := "c7357f1f81f0ca11dbd5a2f3fe153c8462e9e39918ceb3c15154f9f3b862346d", func := "meresman/meresmanlaw26.KeepSets", spec := "keepSets", unfollowed := true, recurses := true, plainKeys := false, apart := false }
def KeepSetsSaid : Prop := keepSetsRow.holds Try.pinned (OpenSpec.ofChange keepSetsSpec)

/-- ITS FALSE NEIGHBOUR: 'it returns false'. Refute it at one input. -/
def keepSetsWrong : ChangeSpec := { name := "keepSets", fn := fun _ => fun
  | [d1, d2, d3, d4, d5] => { results := [.lit (.bool false)], args := [d1, d2, d3, d4, d5] }
  | _ => none }
def KeepSetsWrongFalsely : Prop := keepSetsRow.holds Try.pinned (OpenSpec.ofChange keepSetsWrong)

/-- 'meresmanlaw26.KeepAgain': WHATEVER THE INPUT: true; the input reads as it did. -/
def keepAgainSpec : ChangeSpec := { name := "keepAgain", fn := fun _ => fun
  | [d1, d2, d3] => { results := [.lit (.bool true)], args := [d1, d2, d3] }
  | _ => none }
def keepAgainRow : OpenClaim := { program := "ytmdgdphhedgojaa", sum := "c7357f1f81f0ca11dbd5a2f3fe153c8462e9e39918ceb3c15154f9f3b862346d", func := "meresman/meresmanlaw26.KeepAgain", spec := "keepAgain", unfollowed := true, recurses := true, plainKeys := false, apart := false }
def KeepAgainSaid : Prop := keepAgainRow.holds Try.pinned (OpenSpec.ofChange keepAgainSpec)

/-- ITS FALSE NEIGHBOUR: 'it returns false'. Refute it at one input. -/
def keepAgainWrong : ChangeSpec := { name := "keepAgain", fn := fun _ => fun
  | [d1, d2, d3] => { results := [.lit (.bool false)], args := [d1, d2, d3] }
  | _ => none }
def KeepAgainWrongFalsely : Prop := keepAgainRow.holds Try.pinned (OpenSpec.ofChange keepAgainWrong)

/- THE SECOND FORM. 'bulk': how many values and letters a reading holds, each counted each time it is reached (what is shared counts as often as it is met; a slice's spare places count too). A statement '..UptoSaid' is the law's where the arguments, and the package variables that the reading takes, are together of bulk at most 1048576: NARROWER than '..Said'. Prove '..Said' where nothing that the law and all that it calls make is longer than what came in: it says more and counts as full. Else prove '..UptoSaid'. A law counts once. -/
mutual
def uptoBulk {H : Type} : DataW H → Nat
  | .lit (.string bytes) => bytes.length + 1
  | .lit _ => 1
  | .nil => 1
  | .ptr d => uptoBulk d + 1
  | .slice elems spare => uptoBulkAll elems + uptoBulkAll spare + 1
  | .agg parts => uptoBulkAll parts + 1
  | .iface _ d => uptoBulk d + 1
  | .map entries => uptoBulkEntries entries + 1
  | .held _ => 1
def uptoBulkAll {H : Type} : List (DataW H) → Nat
  | [] => 0
  | d :: r => uptoBulk d + uptoBulkAll r
def uptoBulkEntries {H : Type} : List (Lit × DataW H) → Nat
  | [] => 0
  | x :: r => uptoBulkEntry x + uptoBulkEntries r
def uptoBulkEntry {H : Type} : Lit × DataW H → Nat
  | (.string bytes, d) => bytes.length + uptoBulk d + 1
  | (_, d) => uptoBulk d + 1
 end
def uptoSmall : (H : Type) → List (DataW H) → Bool := fun _ ds => decide (uptoBulkAll ds ≤ 1048576)
def OpenSpec.upto (s : _root_.Go.ChangeSpec) : _root_.Go.OpenSpec := { _root_.Go.OpenSpec.ofChange s with cond := some uptoSmall }

/-- 'meresmanlaw26.KeepAnew', WHERE WHAT IT READS IS OF BULK AT MOST 1048576: true; the input reads as it did. -/
def keepAnewUptoRow : OpenClaim := { program := "ytmdgdphhedgojaa", sum := "c7357f1f81f0ca11dbd5a2f3fe153c8462e9e39918ceb3c15154f9f3b862346d", func := "meresman/meresmanlaw26.KeepAnew", spec := "keepAnew", unfollowed := true, recurses := true, plainKeys := false, apart := false, narrowed := true }
def KeepAnewUptoSaid : Prop := keepAnewUptoRow.holds Try.pinned (OpenSpec.upto keepAnewSpec)

/-- 'meresmanlaw26.KeepApart', WHERE WHAT IT READS IS OF BULK AT MOST 1048576: true; the input reads as it did. -/
def keepApartUptoRow : OpenClaim := { program := "ytmdgdphhedgojaa", sum := "c7357f1f81f0ca11dbd5a2f3fe153c8462e9e39918ceb3c15154f9f3b862346d", func := "meresman/meresmanlaw26.KeepApart", spec := "keepApart", unfollowed := true, recurses := true, plainKeys := false, apart := false, narrowed := true }
def KeepApartUptoSaid : Prop := keepApartUptoRow.holds Try.pinned (OpenSpec.upto keepApartSpec)

/-- 'meresmanlaw26.KeepLocal', WHERE WHAT IT READS IS OF BULK AT MOST 1048576: true; the input reads as it did. -/
def keepLocalUptoRow : OpenClaim := { program := "ytmdgdphhedgojaa", sum := "c7357f1f81f0ca11dbd5a2f3fe153c8462e9e39918ceb3c15154f9f3b862346d", func := "meresman/meresmanlaw26.KeepLocal", spec := "keepLocal", unfollowed := true, recurses := true, plainKeys := false, apart := false, narrowed := true }
def KeepLocalUptoSaid : Prop := keepLocalUptoRow.holds Try.pinned (OpenSpec.upto keepLocalSpec)

/-- 'meresmanlaw26.KeepNumbers', WHERE WHAT IT READS IS OF BULK AT MOST 1048576: true; the input reads as it did. -/
def keepNumbersUptoRow : OpenClaim := { program := "ytmdgdphhedgojaa", sum := "c7357f1f81f0ca11dbd5a2f3fe153c8462e9e39918ceb3c15154f9f3b862346d", func := "meresman/meresmanlaw26.KeepNumbers", spec := "keepNumbers", unfollowed := true, recurses := true, plainKeys := false, apart := false, narrowed := true }
def KeepNumbersUptoSaid : Prop := keepNumbersUptoRow.holds Try.pinned (OpenSpec.upto keepNumbersSpec)

/-- 'meresmanlaw26.KeepSets', WHERE WHAT IT READS IS OF BULK AT MOST 1048576: true; the input reads as it did. -/
def keepSetsUptoRow : OpenClaim := { program := "ytmdgdphhedgojaa", sum := "c7357f1f81f0ca11dbd5a2f3fe153c8462e9e39918ceb3c15154f9f3b862346d", func := "meresman/meresmanlaw26.KeepSets", spec := "keepSets", unfollowed := true, recurses := true, plainKeys := false, apart := false, narrowed := true }
def KeepSetsUptoSaid : Prop := keepSetsUptoRow.holds Try.pinned (OpenSpec.upto keepSetsSpec)

/-- 'meresmanlaw26.KeepAgain', WHERE WHAT IT READS IS OF BULK AT MOST 1048576: true; the input reads as it did. -/
def keepAgainUptoRow : OpenClaim := { program := "ytmdgdphhedgojaa", sum := "c7357f1f81f0ca11dbd5a2f3fe153c8462e9e39918ceb3c15154f9f3b862346d", func := "meresman/meresmanlaw26.KeepAgain", spec := "keepAgain", unfollowed := true, recurses := true, plainKeys := false, apart := false, narrowed := true }
def KeepAgainUptoSaid : Prop := keepAgainUptoRow.holds Try.pinned (OpenSpec.upto keepAgainSpec)

end Rows
end Go.Proofs.Ytmdgdphhedgojaa
