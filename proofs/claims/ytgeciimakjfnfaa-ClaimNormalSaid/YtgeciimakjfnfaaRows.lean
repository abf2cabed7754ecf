/-
  No cell of these rows narrows 'for every input' (looked for: loops, veiled, ifaces, maps, wideKeys, modest, calm, conditions, laid).
  DERIVED. THE GIVEN ROWS OF THIS SEAT. 7 by the template 'for every input the law returns true; each argument reads behind the call as it read before'; 0 by the template 'total and deterministic' (their statements: YtgeciimakjfnfaaTotals.lean).
  GIVEN WITH THE SEED: the statements are not yours to turn. If you find one false, say at which input.
  Laid BY PROGRAM, IN A SANDBOX (cutbox-rows.mjs): the forced cells as the released guide's own fill.sh prints them over the translation 65d8e074f303fcd4… (all of the seat's roots in one cut). By AI agents, Wed Nov 11 2026. No macro, syntax, notation, axiom, sorry.
-/
import Derived.Test.YtgeciimakjfnfaaChecked
import GoSem.Claim
import GoSem.ClaimJoined
import GoSem.ClaimMapViews
import Derived.JoinedTies
import Derived.KernelRfl
namespace Go.Proofs.Ytgeciimakjfnfaa
/- THE CELL 'sum', in the pinned program and in every row, IS THE sha256 OF THE DUMP (.gsa) THAT YtgeciimakjfnfaaProg.lean LOADS. Nothing in Lean hashes anything: it is a label: what it is worth is what the hold of that sum in a sandbox is worth. -/
noncomputable def Try.pinned : Pinned := { name := "ytgeciimakjfnfaa", sum := "65d8e074f303fcd44b1d8b7fe4769391a269ee13b219ee8597b0b79e3884845c", checked := Try.checked }
namespace Rows
def none {H : Type} : Left H := { results := [], args := [] }

/-- 'meresmanlaw14.ClaimValid': WHATEVER THE INPUT: true; the input reads as it did. -/
def claimValidSpec : ChangeSpec := { name := "claimValid", fn := fun _ => fun
  | [d1, d2, d3] => { results := [.lit (.bool true)], args := [d1, d2, d3] }
  | _ => none }
def claimValidRow : OpenClaim := { program := "ytgeciimakjfnfaa", sum := "65d8e074f303fcd44b1d8b7fe4769391a269ee13b219ee8597b0b79e3884845c", func := "meresman/meresmanlaw14.ClaimValid", spec := "claimValid", unfollowed := true, recurses := true, plainKeys := false, apart := false }
def ClaimValidSaid : Prop := claimValidRow.holds Try.pinned (OpenSpec.ofChange claimValidSpec)

/-- ITS FALSE NEIGHBOUR: 'it returns false'. Refute it at one input. -/
def claimValidWrong : ChangeSpec := { name := "claimValid", fn := fun _ => fun
  | [d1, d2, d3] => { results := [.lit (.bool false)], args := [d1, d2, d3] }
  | _ => none }
def ClaimValidWrongFalsely : Prop := claimValidRow.holds Try.pinned (OpenSpec.ofChange claimValidWrong)

/-- 'meresmanlaw14.ClaimNormal': WHATEVER THE INPUT: true; the input reads as it did. -/
def claimNormalSpec : ChangeSpec := { name := "claimNormal", fn := fun _ => fun
  | [d1, d2, d3, d4, d5, d6] => { results := [.lit (.bool true)], args := [d1, d2, d3, d4, d5, d6] }
  | _ => none }
def claimNormalRow : OpenClaim := { program := "ytgeciimakjfnfaa", sum := "65d8e074f303fcd44b1d8b7fe4769391a269ee13b219ee8597b0b79e3884845c", func := "meresman/meresmanlaw14.ClaimNormal", spec := "claimNormal", unfollowed := true, recurses := true, plainKeys := false, apart := false }
def ClaimNormalSaid : Prop := claimNormalRow.holds Try.pinned (OpenSpec.ofChange claimNormalSpec)

/-- ITS FALSE NEIGHBOUR: 'it returns false'. Refute it at one input. -/
def claimNormalWrong : ChangeSpec := { name := "claimNormal", fn := fun _ => fun
  | [d1, d2, d3, d4, d5, d6] => { results := [.lit (.bool false)], args := [d1, d2, d3, d4, d5, d6] }
  | _ => none }
def ClaimNormalWrongFalsely : Prop := claimNormalRow.holds Try.pinned (OpenSpec.ofChange claimNormalWrong)

/-- 'meresmanlaw14.ClaimDays': WHATEVER THE INPUT: true; the input reads as it did. -/
def claimDaysSpec : ChangeSpec := { name := "claimDays", fn := fun _ => fun
  | [d1, d2, d3, d4, d5, d6, d7] => { results := [.lit (.bool true)], args := [d1, d2, d3, d4, d5, d6, d7] }
  | _ => none }
def claimDaysRow : OpenClaim := { program := "ytgeciimakjfnfaa", sum := "65d8e074f303fcd44b1d8b7fe4769391a269ee13b219ee8597b0b79e3884845c", func := "meresman/meresmanlaw14.ClaimDays", spec := "claimDays", unfollowed := true, recurses := true, plainKeys := false, apart := false }
def ClaimDaysSaid : Prop := claimDaysRow.holds Try.pinned (OpenSpec.ofChange claimDaysSpec)

/-- ITS FALSE NEIGHBOUR: 'it returns false'. Refute it at one input. -/
def claimDaysWrong : ChangeSpec := { name := "claimDays", fn := fun _ => fun
  | [d1, d2, d3, d4, d5, d6, d7] => { results := [.lit (.bool false)], args := [d1, d2, d3, d4, d5, d6, d7] }
  | _ => none }
def ClaimDaysWrongFalsely : Prop := claimDaysRow.holds Try.pinned (OpenSpec.ofChange claimDaysWrong)

/-- 'meresmanlaw14.ClaimFirst': WHATEVER THE INPUT: true; the input reads as it did. -/
def claimFirstSpec : ChangeSpec := { name := "claimFirst", fn := fun _ => fun
  | [d1, d2, d3] => { results := [.lit (.bool true)], args := [d1, d2, d3] }
  | _ => none }
def claimFirstRow : OpenClaim := { program := "ytgeciimakjfnfaa", sum := "65d8e074f303fcd44b1d8b7fe4769391a269ee13b219ee8597b0b79e3884845c", func := "meresman/meresmanlaw14.ClaimFirst", spec := "claimFirst", unfollowed := true, recurses := true, plainKeys := false, apart := false }
def ClaimFirstSaid : Prop := claimFirstRow.holds Try.pinned (OpenSpec.ofChange claimFirstSpec)

/-- ITS FALSE NEIGHBOUR: 'it returns false'. Refute it at one input. -/
def claimFirstWrong : ChangeSpec := { name := "claimFirst", fn := fun _ => fun
  | [d1, d2, d3] => { results := [.lit (.bool false)], args := [d1, d2, d3] }
  | _ => none }
def ClaimFirstWrongFalsely : Prop := claimFirstRow.holds Try.pinned (OpenSpec.ofChange claimFirstWrong)

/-- 'meresmanlaw14.ClaimShows': WHATEVER THE INPUT: true; the input reads as it did. -/
def claimShowsSpec : ChangeSpec := { name := "claimShows", fn := fun _ => fun
  | [d1, d2, d3, d4, d5, d6, d7] => { results := [.lit (.bool true)], args := [d1, d2, d3, d4, d5, d6, d7] }
  | _ => none }
def claimShowsRow : OpenClaim := { program := "ytgeciimakjfnfaa", sum := "65d8e074f303fcd44b1d8b7fe4769391a269ee13b219ee8597b0b79e3884845c", func := "meresman/meresmanlaw14.ClaimShows", spec := "claimShows", unfollowed := true, recurses := true, plainKeys := false, apart := false }
def ClaimShowsSaid : Prop := claimShowsRow.holds Try.pinned (OpenSpec.ofChange claimShowsSpec)

/-- ITS FALSE NEIGHBOUR: 'it returns false'. Refute it at one input. -/
def claimShowsWrong : ChangeSpec := { name := "claimShows", fn := fun _ => fun
  | [d1, d2, d3, d4, d5, d6, d7] => { results := [.lit (.bool false)], args := [d1, d2, d3, d4, d5, d6, d7] }
  | _ => none }
def ClaimShowsWrongFalsely : Prop := claimShowsRow.holds Try.pinned (OpenSpec.ofChange claimShowsWrong)

/-- 'meresmanlaw14.ClaimRetires': WHATEVER THE INPUT: true; the input reads as it did. -/
def claimRetiresSpec : ChangeSpec := { name := "claimRetires", fn := fun _ => fun
  | [d1, d2, d3, d4, d5, d6, d7, d8] => { results := [.lit (.bool true)], args := [d1, d2, d3, d4, d5, d6, d7, d8] }
  | _ => none }
def claimRetiresRow : OpenClaim := { program := "ytgeciimakjfnfaa", sum := "65d8e074f303fcd44b1d8b7fe4769391a269ee13b219ee8597b0b79e3884845c", func := "meresman/meresmanlaw14.ClaimRetires", spec := "claimRetires", unfollowed := true, recurses := true, plainKeys := false, apart := false }
def ClaimRetiresSaid : Prop := claimRetiresRow.holds Try.pinned (OpenSpec.ofChange claimRetiresSpec)

/-- ITS FALSE NEIGHBOUR: 'it returns false'. Refute it at one input. -/
def claimRetiresWrong : ChangeSpec := { name := "claimRetires", fn := fun _ => fun
  | [d1, d2, d3, d4, d5, d6, d7, d8] => { results := [.lit (.bool false)], args := [d1, d2, d3, d4, d5, d6, d7, d8] }
  | _ => none }
def ClaimRetiresWrongFalsely : Prop := claimRetiresRow.holds Try.pinned (OpenSpec.ofChange claimRetiresWrong)

/-- 'meresmanlaw14.ClaimHash': WHATEVER THE INPUT: true; the input reads as it did. -/
def claimHashSpec : ChangeSpec := { name := "claimHash", fn := fun _ => fun
  | [d1, d2, d3, d4] => { results := [.lit (.bool true)], args := [d1, d2, d3, d4] }
  | _ => none }
def claimHashRow : OpenClaim := { program := "ytgeciimakjfnfaa", sum := "65d8e074f303fcd44b1d8b7fe4769391a269ee13b219ee8597b0b79e3884845c", func := "meresman/meresmanlaw14.ClaimHash", spec := "claimHash", unfollowed := true, recurses := true, plainKeys := false, apart := false }
def ClaimHashSaid : Prop := claimHashRow.holds Try.pinned (OpenSpec.ofChange claimHashSpec)

/-- ITS FALSE NEIGHBOUR: 'it returns false'. Refute it at one input. -/
def claimHashWrong : ChangeSpec := { name := "claimHash", fn := fun _ => fun
  | [d1, d2, d3, d4] => { results := [.lit (.bool false)], args := [d1, d2, d3, d4] }
  | _ => none }
def ClaimHashWrongFalsely : Prop := claimHashRow.holds Try.pinned (OpenSpec.ofChange claimHashWrong)

/- THE SECOND FORM. 'bulk': how many values and letters a reading holds, each counted each time it is reached (what is shared counts as often as it is met; a slice's spare places count too). A statement '..UptoSaid' is the law's where the arguments, and the package variables that the reading takes, are together of bulk at most 1048576: NARROWER than '..Said'. Prove '..Said' where nothing that the law and all that it calls make is longer than what came in: it says more and counts as full. Else prove '..UptoSaid'. A law counts once. -/
mutual
def uptoBulk {H : Type} : DataW H → Nat
  | .lit (.string bytes) => bytes.length + 1
  | .lit _ => 1
  | .nil => 1
  | .ptr d => uptoBulk d + 1
  | .slice elems spare => uptoBulkAll elems + uptoBulkAll spare + 1
  | .agg parts => uptoBulkAll parts + 1
  | .iface _ d => uptoBulk d + 1
  | .map entries => uptoBulkEntries entries + 1
  | .held _ => 1
def uptoBulkAll {H : Type} : List (DataW H) → Nat
  | [] => 0
  | d :: r => uptoBulk d + uptoBulkAll r
def uptoBulkEntries {H : Type} : List (Lit × DataW H) → Nat
  | [] => 0
  | x :: r => uptoBulkEntry x + uptoBulkEntries r
def uptoBulkEntry {H : Type} : Lit × DataW H → Nat
  | (.string bytes, d) => bytes.length + uptoBulk d + 1
  | (_, d) => uptoBulk d + 1
 end
def uptoSmall : (H : Type) → List (DataW H) → Bool := fun _ ds => decide (uptoBulkAll ds ≤ 1048576)
def OpenSpec.upto (s : _root_.Go.ChangeSpec) : _root_.Go.OpenSpec := { _root_.Go.OpenSpec.ofChange s with cond := some uptoSmall }

/-- 'meresmanlaw14.ClaimValid', WHERE WHAT IT READS IS OF BULK AT MOST 1048576: true; the input reads as it did. -/
def claimValidUptoRow : OpenClaim := { program := "ytgeciimakjfnfaa", sum := "65d8e074f303fcd44b1d8b7fe4769391a269ee13b219ee8597b0b79e3884845c", func := "meresman/meresmanlaw14.ClaimValid", spec := "claimValid", unfollowed := true, recurses := true, plainKeys := false, apart := false, narrowed := true }
def ClaimValidUptoSaid : Prop := claimValidUptoRow.holds Try.pinned (OpenSpec.upto claimValidSpec)

/-- 'meresmanlaw14.ClaimNormal', WHERE WHAT IT READS IS OF BULK AT MOST 1048576: true; the input reads as it did. -/
def claimNormalUptoRow : OpenClaim := { program := "ytgeciimakjfnfaa", sum := "65d8e074f303fcd44b1d8b7fe4769391a269ee13b219ee8597b0b79e3884845c", func := "meresman/meresmanlaw14.ClaimNormal", spec := "claimNormal", unfollowed := true, recurses := true, plainKeys := false, apart := false, narrowed := true }
def ClaimNormalUptoSaid : Prop := claimNormalUptoRow.holds Try.pinned (OpenSpec.upto claimNormalSpec)

/-- 'meresmanlaw14.ClaimDays', WHERE WHAT IT READS IS OF BULK AT MOST 1048576: true; the input reads as it did. -/
def claimDaysUptoRow : OpenClaim := { program := "ytgeciimakjfnfaa", sum := "65d8e074f303fcd44b1d8b7fe4769391a269ee13b219ee8597b0b79e3884845c", func := "meresman/meresmanlaw14.ClaimDays", spec := "claimDays", unfollowed := true, recurses := true, plainKeys := false, apart := false, narrowed := true }
def ClaimDaysUptoSaid : Prop := claimDaysUptoRow.holds Try.pinned (OpenSpec.upto claimDaysSpec)

/-- 'meresmanlaw14.ClaimFirst', WHERE WHAT IT READS IS OF BULK AT MOST 1048576: true; the input reads as it did. -/
def claimFirstUptoRow : OpenClaim := { program := "ytgeciimakjfnfaa", sum := "65d8e074f303fcd44b1d8b7fe4769391a269ee13b219ee8597b0b79e3884845c", func := "meresman/meresmanlaw14.ClaimFirst", spec := "claimFirst", unfollowed := true, recurses := true, plainKeys := false, apart := false, narrowed := true }
def ClaimFirstUptoSaid : Prop := claimFirstUptoRow.holds Try.pinned (OpenSpec.upto claimFirstSpec)

/-- 'meresmanlaw14.ClaimShows', WHERE WHAT IT READS IS OF BULK AT MOST 1048576: true; the input reads as it did. -/
def claimShowsUptoRow : OpenClaim := { program := "ytgeciimakjfnfaa", sum := "65d8e074f303fcd44b1d8b7fe4769391a269ee13b219ee8597b0b79e3884845c", func := "meresman/meresmanlaw14.ClaimShows", spec := "claimShows", unfollowed := true, recurses := true, plainKeys := false, apart := false, narrowed := true }
def ClaimShowsUptoSaid : Prop := claimShowsUptoRow.holds Try.pinned (OpenSpec.upto claimShowsSpec)

/-- 'meresmanlaw14.ClaimRetires', WHERE WHAT IT READS IS OF BULK AT MOST 1048576: true; the input reads as it did. -/
def claimRetiresUptoRow : OpenClaim := { program := "ytgeciimakjfnfaa", sum := "65d8e074f303fcd44b1d8b7fe4769391a269ee13b219ee8597b0b79e3884845c", func := "meresman/meresmanlaw14.ClaimRetires", spec := "claimRetires", unfollowed := true, recurses := true, plainKeys := false, apart := false, narrowed := true }
def ClaimRetiresUptoSaid : Prop := claimRetiresUptoRow.holds Try.pinned (OpenSpec.upto claimRetiresSpec)

/-- 'meresmanlaw14.ClaimHash', WHERE WHAT IT READS IS OF BULK AT MOST 1048576: true; the input reads as it did. -/
def claimHashUptoRow : OpenClaim := { program := "ytgeciimakjfnfaa", sum := "65d8e074f303fcd44b1d8b7fe4769391a269ee13b219ee8597b0b79e3884845c", func := "meresman/meresmanlaw14.ClaimHash", spec := "claimHash", unfollowed := true, recurses := true, plainKeys := false, apart := false, narrowed := true }
def ClaimHashUptoSaid : Prop := claimHashUptoRow.holds Try.pinned (OpenSpec.upto claimHashSpec)

end Rows
end Go.Proofs.Ytgeciimakjfnfaa
