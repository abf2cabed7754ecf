/-
  No cell of these rows narrows 'for every input' (looked for: loops, veiled, ifaces, maps, wideKeys, modest, calm, conditions, laid).
  DERIVED. THE GIVEN ROWS OF THIS SEAT. 7 by the template 'for every input the law returns true; each argument reads behind the call as it read before'; 0 by the template 'total and deterministic' (their statements: YtnapnkmehnabfaaGreatTotals.lean).
  GIVEN WITH THE SEED: the statements are not yours to turn. If you find one false, say at which input.
  Laid BY PROGRAM, IN A SANDBOX (cutbox-rows.mjs): the forced cells as the released guide's own fill.sh prints them over the translation ab1db37b168f97cb… (all of the seat's roots in one cut). By AI agents, Wed Nov 11 2026. No macro, syntax, notation, axiom, sorry.
-/
import Derived.Test.YtnapnkmehnabfaaGreatChecked
import GoSem.Claim
import GoSem.ClaimJoined
import GoSem.ClaimMapViews
import Derived.JoinedTies
import Derived.KernelRfl
namespace Go.Proofs.YtnapnkmehnabfaaGreat
/- THE CELL 'sum', in the pinned program and in every row, IS THE sha256 OF THE DUMP (.gsa) THAT YtnapnkmehnabfaaGreatProg.lean LOADS. Nothing in Lean hashes anything: it is a label: what it is worth is what the hold of that sum in a sandbox is worth. -/
noncomputable def Tryz.pinned : Pinned := { name := "ytnapnkmehnabfaagreat", sum := "ab1db37b168f97cbaeded8d0a1466584870baee937921577d64cdeb5ba38ba08", checked := Tryz.checked }
namespace Rows
def none {H : Type} : Left H := { results := [], args := [] }

/-- 'meresmanlaw15.PatchValid': WHATEVER THE INPUT: true; the input reads as it did. -/
def patchValidSpec : ChangeSpec := { name := "patchValid", fn := fun _ => fun
  | [d1, d2, d3, d4] => { results := [.lit (.bool true)], args := [d1, d2, d3, d4] }
  | _ => none }
def patchValidRow : OpenClaim := { program := "ytnapnkmehnabfaagreat", sum := "ab1db37b168f97cbaeded8d0a1466584870baee937921577d64cdeb5ba38ba08", func := "meresman/meresmanlaw15.PatchValid", spec := "patchValid", unfollowed := true, recurses := true, apart := false }
def PatchValidSaid : Prop := patchValidRow.holds Tryz.pinned (OpenSpec.ofChange patchValidSpec)

/-- ITS FALSE NEIGHBOUR: 'it returns false'. Refute it at one input. -/
def patchValidWrong : ChangeSpec := { name := "patchValid", fn := fun _ => fun
  | [d1, d2, d3, d4] => { results := [.lit (.bool false)], args := [d1, d2, d3, d4] }
  | _ => none }
def PatchValidWrongFalsely : Prop := patchValidRow.holds Tryz.pinned (OpenSpec.ofChange patchValidWrong)

/-- 'meresmanlaw15.PatchLine': WHATEVER THE INPUT: true; the input reads as it did. -/
def patchLineSpec : ChangeSpec := { name := "patchLine", fn := fun _ => fun
  | [d1, d2, d3, d4, d5] => { results := [.lit (.bool true)], args := [d1, d2, d3, d4, d5] }
  | _ => none }
def patchLineRow : OpenClaim := { program := "ytnapnkmehnabfaagreat", sum := "ab1db37b168f97cbaeded8d0a1466584870baee937921577d64cdeb5ba38ba08", func := "meresman/meresmanlaw15.PatchLine", spec := "patchLine", unfollowed := true, recurses := true, apart := false }
def PatchLineSaid : Prop := patchLineRow.holds Tryz.pinned (OpenSpec.ofChange patchLineSpec)

/-- ITS FALSE NEIGHBOUR: 'it returns false'. Refute it at one input. -/
def patchLineWrong : ChangeSpec := { name := "patchLine", fn := fun _ => fun
  | [d1, d2, d3, d4, d5] => { results := [.lit (.bool false)], args := [d1, d2, d3, d4, d5] }
  | _ => none }
def PatchLineWrongFalsely : Prop := patchLineRow.holds Tryz.pinned (OpenSpec.ofChange patchLineWrong)

/-- 'meresmanlaw15.PatchHash': WHATEVER THE INPUT: true; the input reads as it did. -/
def patchHashSpec : ChangeSpec := { name := "patchHash", fn := fun _ => fun
  | [d1, d2] => { results := [.lit (.bool true)], args := [d1, d2] }
  | _ => none }
def patchHashRow : OpenClaim := { program := "ytnapnkmehnabfaagreat", sum := "ab1db37b168f97cbaeded8d0a1466584870baee937921577d64cdeb5ba38ba08", func := "meresman/meresmanlaw15.PatchHash", spec := "patchHash", unfollowed := true, recurses := true, apart := false }
def PatchHashSaid : Prop := patchHashRow.holds Tryz.pinned (OpenSpec.ofChange patchHashSpec)

/-- ITS FALSE NEIGHBOUR: 'it returns false'. Refute it at one input. -/
def patchHashWrong : ChangeSpec := { name := "patchHash", fn := fun _ => fun
  | [d1, d2] => { results := [.lit (.bool false)], args := [d1, d2] }
  | _ => none }
def PatchHashWrongFalsely : Prop := patchHashRow.holds Tryz.pinned (OpenSpec.ofChange patchHashWrong)

/-- 'meresmanlaw15.PatchParts': WHATEVER THE INPUT: true; the input reads as it did. -/
def patchPartsSpec : ChangeSpec := { name := "patchParts", fn := fun _ => fun
  | [d1, d2] => { results := [.lit (.bool true)], args := [d1, d2] }
  | _ => none }
def patchPartsRow : OpenClaim := { program := "ytnapnkmehnabfaagreat", sum := "ab1db37b168f97cbaeded8d0a1466584870baee937921577d64cdeb5ba38ba08", func := "meresman/meresmanlaw15.PatchParts", spec := "patchParts", unfollowed := true, recurses := true, apart := false }
def PatchPartsSaid : Prop := patchPartsRow.holds Tryz.pinned (OpenSpec.ofChange patchPartsSpec)

/-- ITS FALSE NEIGHBOUR: 'it returns false'. Refute it at one input. -/
def patchPartsWrong : ChangeSpec := { name := "patchParts", fn := fun _ => fun
  | [d1, d2] => { results := [.lit (.bool false)], args := [d1, d2] }
  | _ => none }
def PatchPartsWrongFalsely : Prop := patchPartsRow.holds Tryz.pinned (OpenSpec.ofChange patchPartsWrong)

/-- 'meresmanlaw15.PatchBytes': WHATEVER THE INPUT: true; the input reads as it did. -/
def patchBytesSpec : ChangeSpec := { name := "patchBytes", fn := fun _ => fun
  | [d1, d2, d3, d4, d5, d6] => { results := [.lit (.bool true)], args := [d1, d2, d3, d4, d5, d6] }
  | _ => none }
def patchBytesRow : OpenClaim := { program := "ytnapnkmehnabfaagreat", sum := "ab1db37b168f97cbaeded8d0a1466584870baee937921577d64cdeb5ba38ba08", func := "meresman/meresmanlaw15.PatchBytes", spec := "patchBytes", unfollowed := true, recurses := true, apart := false }
def PatchBytesSaid : Prop := patchBytesRow.holds Tryz.pinned (OpenSpec.ofChange patchBytesSpec)

/-- ITS FALSE NEIGHBOUR: 'it returns false'. Refute it at one input. -/
def patchBytesWrong : ChangeSpec := { name := "patchBytes", fn := fun _ => fun
  | [d1, d2, d3, d4, d5, d6] => { results := [.lit (.bool false)], args := [d1, d2, d3, d4, d5, d6] }
  | _ => none }
def PatchBytesWrongFalsely : Prop := patchBytesRow.holds Tryz.pinned (OpenSpec.ofChange patchBytesWrong)

/-- 'meresmanlaw15.PatchUsed': WHATEVER THE INPUT: true; the input reads as it did. -/
def patchUsedSpec : ChangeSpec := { name := "patchUsed", fn := fun _ => fun
  | [d] => { results := [.lit (.bool true)], args := [d] }
  | _ => none }
def patchUsedRow : OpenClaim := { program := "ytnapnkmehnabfaagreat", sum := "ab1db37b168f97cbaeded8d0a1466584870baee937921577d64cdeb5ba38ba08", func := "meresman/meresmanlaw15.PatchUsed", spec := "patchUsed", unfollowed := true, recurses := true, apart := false }
def PatchUsedSaid : Prop := patchUsedRow.holds Tryz.pinned (OpenSpec.ofChange patchUsedSpec)

/-- ITS FALSE NEIGHBOUR: 'it returns false'. Refute it at one input. -/
def patchUsedWrong : ChangeSpec := { name := "patchUsed", fn := fun _ => fun
  | [d] => { results := [.lit (.bool false)], args := [d] }
  | _ => none }
def PatchUsedWrongFalsely : Prop := patchUsedRow.holds Tryz.pinned (OpenSpec.ofChange patchUsedWrong)

/-- 'meresmanlaw15.PatchNames': WHATEVER THE INPUT: true; the input reads as it did. -/
def patchNamesSpec : ChangeSpec := { name := "patchNames", fn := fun _ => fun
  | [d1, d2, d3, d4] => { results := [.lit (.bool true)], args := [d1, d2, d3, d4] }
  | _ => none }
def patchNamesRow : OpenClaim := { program := "ytnapnkmehnabfaagreat", sum := "ab1db37b168f97cbaeded8d0a1466584870baee937921577d64cdeb5ba38ba08", func := "meresman/meresmanlaw15.PatchNames", spec := "patchNames", unfollowed := true, recurses := true, apart := false }
def PatchNamesSaid : Prop := patchNamesRow.holds Tryz.pinned (OpenSpec.ofChange patchNamesSpec)

/-- ITS FALSE NEIGHBOUR: 'it returns false'. Refute it at one input. -/
def patchNamesWrong : ChangeSpec := { name := "patchNames", fn := fun _ => fun
  | [d1, d2, d3, d4] => { results := [.lit (.bool false)], args := [d1, d2, d3, d4] }
  | _ => none }
def PatchNamesWrongFalsely : Prop := patchNamesRow.holds Tryz.pinned (OpenSpec.ofChange patchNamesWrong)

/- THE SECOND FORM. 'bulk': how many values and letters a reading holds, each counted each time it is reached (what is shared counts as often as it is met; a slice's spare places count too). A statement '..UptoSaid' is the law's where the arguments, and the package variables that the reading takes, are together of bulk at most 1048576: NARROWER than '..Said'. Prove '..Said' where nothing that the law and all that it calls make is longer than what came in: it says more and counts as full. Else prove '..UptoSaid'. A law counts once. -/
mutual
def uptoBulk {H : Type} : DataW H → Nat
  | .lit (.string bytes) => bytes.length + 1
  | .lit _ => 1
  | .nil => 1
  | .ptr d => uptoBulk d + 1
  | .slice elems spare => uptoBulkAll elems + uptoBulkAll spare + 1
  | .agg parts => uptoBulkAll parts + 1
  | .iface _ d => uptoBulk d + 1
  | .map entries => uptoBulkEntries entries + 1
  | .held _ => 1
def uptoBulkAll {H : Type} : List (DataW H) → Nat
  | [] => 0
  | d :: r => uptoBulk d + uptoBulkAll r
def uptoBulkEntries {H : Type} : List (Lit × DataW H) → Nat
  | [] => 0
  | x :: r => uptoBulkEntry x + uptoBulkEntries r
def uptoBulkEntry {H : Type} : Lit × DataW H → Nat
  | (.string bytes, d) => bytes.length + uptoBulk d + 1
  | (_, d) => uptoBulk d + 1
 end
def uptoSmall : (H : Type) → List (DataW H) → Bool := fun _ ds => decide (uptoBulkAll ds ≤ 1048576)
def OpenSpec.upto (s : _root_.Go.ChangeSpec) : _root_.Go.OpenSpec := { _root_.Go.OpenSpec.ofChange s with cond := some uptoSmall }

/-- 'meresmanlaw15.PatchValid', WHERE WHAT IT READS IS OF BULK AT MOST 1048576: true; the input reads as it did. -/
def patchValidUptoRow : OpenClaim := { program := "ytnapnkmehnabfaagreat", sum := "ab1db37b168f97cbaeded8d0a1466584870baee937921577d64cdeb5ba38ba08", func := "meresman/meresmanlaw15.PatchValid", spec := "patchValid", unfollowed := true, recurses := true, apart := false, narrowed := true }
def PatchValidUptoSaid : Prop := patchValidUptoRow.holds Tryz.pinned (OpenSpec.upto patchValidSpec)

/-- 'meresmanlaw15.PatchLine', WHERE WHAT IT READS IS OF BULK AT MOST 1048576: true; the input reads as it did. -/
def patchLineUptoRow : OpenClaim := { program := "ytnapnkmehnabfaagreat", sum := "ab1db37b168f97cbaeded8d0a1466584870baee937921577d64cdeb5ba38ba08", func := "meresman/meresmanlaw15.PatchLine", spec := "patchLine", unfollowed := true, recurses := true, apart := false, narrowed := true }
def PatchLineUptoSaid : Prop := patchLineUptoRow.holds Tryz.pinned (OpenSpec.upto patchLineSpec)

/-- 'meresmanlaw15.PatchHash', WHERE WHAT IT READS IS OF BULK AT MOST 1048576: true; the input reads as it did. -/
def patchHashUptoRow : OpenClaim := { program := "ytnapnkmehnabfaagreat", sum := "ab1db37b168f97cbaeded8d0a1466584870baee937921577d64cdeb5ba38ba08", func := "meresman/meresmanlaw15.PatchHash", spec := "patchHash", unfollowed := true, recurses := true, apart := false, narrowed := true }
def PatchHashUptoSaid : Prop := patchHashUptoRow.holds Tryz.pinned (OpenSpec.upto patchHashSpec)

/-- 'meresmanlaw15.PatchParts', WHERE WHAT IT READS IS OF BULK AT MOST 1048576: true; the input reads as it did. -/
def patchPartsUptoRow : OpenClaim := { program := "ytnapnkmehnabfaagreat", sum := "ab1db37b168f97cbaeded8d0a1466584870baee937921577d64cdeb5ba38ba08", func := "meresman/meresmanlaw15.PatchParts", spec := "patchParts", unfollowed := true, recurses := true, apart := false, narrowed := true }
def PatchPartsUptoSaid : Prop := patchPartsUptoRow.holds Tryz.pinned (OpenSpec.upto patchPartsSpec)

/-- 'meresmanlaw15.PatchBytes', WHERE WHAT IT READS IS OF BULK AT MOST 1048576: true; the input reads as it did. -/
def patchBytesUptoRow : OpenClaim := { program := "ytnapnkmehnabfaagreat", sum := "ab1db37b168f97cbaeded8d0a1466584870baee937921577d64cdeb5ba38ba08", func := "meresman/meresmanlaw15.PatchBytes", spec := "patchBytes", unfollowed := true, recurses := true, apart := false, narrowed := true }
def PatchBytesUptoSaid : Prop := patchBytesUptoRow.holds Tryz.pinned (OpenSpec.upto patchBytesSpec)

/-- 'meresmanlaw15.PatchUsed', WHERE WHAT IT READS IS OF BULK AT MOST 1048576: true; the input reads as it did. -/
def patchUsedUptoRow : OpenClaim := { program := "ytnapnkmehnabfaagreat", sum := "ab1db37b168f97cbaeded8d0a1466584870baee937921577d64cdeb5ba38ba08", func := "meresman/meresmanlaw15.PatchUsed", spec := "patchUsed", unfollowed := true, recurses := true, apart := false, narrowed := true }
def PatchUsedUptoSaid : Prop := patchUsedUptoRow.holds Tryz.pinned (OpenSpec.upto patchUsedSpec)

/-- 'meresmanlaw15.PatchNames', WHERE WHAT IT READS IS OF BULK AT MOST 1048576: true; the input reads as it did. -/
def patchNamesUptoRow : OpenClaim := { program := "ytnapnkmehnabfaagreat", sum := "ab1db37b168f97cbaeded8d0a1466584870baee937921577d64cdeb5ba38ba08", func := "meresman/meresmanlaw15.PatchNames", spec := "patchNames", unfollowed := true, recurses := true, apart := false, narrowed := true }
def PatchNamesUptoSaid : Prop := patchNamesUptoRow.holds Tryz.pinned (OpenSpec.upto patchNamesSpec)

end Rows
end Go.Proofs.YtnapnkmehnabfaaGreat
