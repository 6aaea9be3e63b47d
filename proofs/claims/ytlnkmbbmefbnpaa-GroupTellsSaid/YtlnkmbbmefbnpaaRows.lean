/-
  No cell of these rows narrows 'for every input' (looked for: loops, veiled, ifaces, maps, wideKeys, modest, calm, conditions, laid).
  DERIVED. THE GIVEN ROWS OF THIS SEAT. 5 by the template 'for every input the law returns true; each argument reads behind the call as it read before'; 0 by the template 'total and deterministic' (their statements: YtlnkmbbmefbnpaaTotals.lean).
  GIVEN WITH THE SEED: the statements are not yours to turn. If you find one false, say at which input.
  Laid BY PROGRAM, IN A SANDBOX (cutbox-rows.mjs): the forced cells as the released guide's own fill.sh prints them over the translation 144926d9f9d6067f… (all of the seat's roots in one cut). By AI agents, Wed Nov 11 2026. No macro, syntax, notation, axiom, sorry.
-/
import Derived.Test.YtlnkmbbmefbnpaaChecked
import GoSem.Claim
import GoSem.ClaimJoined
import GoSem.ClaimMapViews
import Derived.JoinedTies
import Derived.KernelRfl
namespace Go.Proofs.Ytlnkmbbmefbnpaa
/- THE CELL 'sum', in the pinned program and in every row, IS THE sha256 OF THE DUMP (.gsa) THAT YtlnkmbbmefbnpaaProg.lean LOADS. Nothing in Lean hashes anything: it is a label: what it is worth is what the hold of that sum in a sandbox is worth. -/
noncomputable def Try.pinned : Pinned := { name := "ytlnkmbbmefbnpaa", sum := "144926d9f9d6067f53a7a7340015a78d26da8eccf7d1e251ad53518eedfc825e", checked := Try.checked }
namespace Rows
def none {H : Type} : Left H := { results := [], args := [] }

/-- 'bournelaw04.GroupTells': WHATEVER THE INPUT: true; the input reads as it did. -/
def groupTellsSpec : ChangeSpec := { name := "groupTells", fn := fun _ => fun
  | [d1, d2] => { results := [.lit (.bool true)], args := [d1, d2] }
  | _ => none }
def groupTellsRow : OpenClaim := { program := "ytlnkmbbmefbnpaa", sum := "144926d9f9d6067f53a7a7340015a78d26da8eccf7d1e251ad53518eedfc825e", func := "bourne/bournelaw04.GroupTells", spec := "groupTells", named := ["math/bits.divideError", "math/bits.overflowError"], apart := false }
def GroupTellsSaid : Prop := groupTellsRow.holds Try.pinned (OpenSpec.ofChange groupTellsSpec)

/-- ITS FALSE NEIGHBOUR: 'it returns false'. Refute it at one input. -/
def groupTellsWrong : ChangeSpec := { name := "groupTells", fn := fun _ => fun
  | [d1, d2] => { results := [.lit (.bool false)], args := [d1, d2] }
  | _ => none }
def GroupTellsWrongFalsely : Prop := groupTellsRow.holds Try.pinned (OpenSpec.ofChange groupTellsWrong)

/-- 'bournelaw04.GroupMembers': WHATEVER THE INPUT: true; the input reads as it did. -/
def groupMembersSpec : ChangeSpec := { name := "groupMembers", fn := fun _ => fun
  | [d1, d2, d3] => { results := [.lit (.bool true)], args := [d1, d2, d3] }
  | _ => none }
def groupMembersRow : OpenClaim := { program := "ytlnkmbbmefbnpaa", sum := "144926d9f9d6067f53a7a7340015a78d26da8eccf7d1e251ad53518eedfc825e", func := "bourne/bournelaw04.GroupMembers", spec := "groupMembers", named := ["math/bits.divideError", "math/bits.overflowError"], apart := false }
def GroupMembersSaid : Prop := groupMembersRow.holds Try.pinned (OpenSpec.ofChange groupMembersSpec)

/-- ITS FALSE NEIGHBOUR: 'it returns false'. Refute it at one input. -/
def groupMembersWrong : ChangeSpec := { name := "groupMembers", fn := fun _ => fun
  | [d1, d2, d3] => { results := [.lit (.bool false)], args := [d1, d2, d3] }
  | _ => none }
def GroupMembersWrongFalsely : Prop := groupMembersRow.holds Try.pinned (OpenSpec.ofChange groupMembersWrong)

/-- 'bournelaw04.GroupPowers': WHATEVER THE INPUT: true; the input reads as it did. -/
def groupPowersSpec : ChangeSpec := { name := "groupPowers", fn := fun _ => fun
  | [d1, d2, d3] => { results := [.lit (.bool true)], args := [d1, d2, d3] }
  | _ => none }
def groupPowersRow : OpenClaim := { program := "ytlnkmbbmefbnpaa", sum := "144926d9f9d6067f53a7a7340015a78d26da8eccf7d1e251ad53518eedfc825e", func := "bourne/bournelaw04.GroupPowers", spec := "groupPowers", named := ["math/bits.divideError", "math/bits.overflowError"], apart := false }
def GroupPowersSaid : Prop := groupPowersRow.holds Try.pinned (OpenSpec.ofChange groupPowersSpec)

/-- ITS FALSE NEIGHBOUR: 'it returns false'. Refute it at one input. -/
def groupPowersWrong : ChangeSpec := { name := "groupPowers", fn := fun _ => fun
  | [d1, d2, d3] => { results := [.lit (.bool false)], args := [d1, d2, d3] }
  | _ => none }
def GroupPowersWrongFalsely : Prop := groupPowersRow.holds Try.pinned (OpenSpec.ofChange groupPowersWrong)

/-- 'bournelaw04.GroupOrder': WHATEVER THE INPUT: true; the input reads as it did. -/
def groupOrderSpec : ChangeSpec := { name := "groupOrder", fn := fun _ => fun
  | [d1, d2, d3] => { results := [.lit (.bool true)], args := [d1, d2, d3] }
  | _ => none }
def groupOrderRow : OpenClaim := { program := "ytlnkmbbmefbnpaa", sum := "144926d9f9d6067f53a7a7340015a78d26da8eccf7d1e251ad53518eedfc825e", func := "bourne/bournelaw04.GroupOrder", spec := "groupOrder", named := ["math/bits.divideError", "math/bits.overflowError"], apart := false }
def GroupOrderSaid : Prop := groupOrderRow.holds Try.pinned (OpenSpec.ofChange groupOrderSpec)

/-- ITS FALSE NEIGHBOUR: 'it returns false'. Refute it at one input. -/
def groupOrderWrong : ChangeSpec := { name := "groupOrder", fn := fun _ => fun
  | [d1, d2, d3] => { results := [.lit (.bool false)], args := [d1, d2, d3] }
  | _ => none }
def GroupOrderWrongFalsely : Prop := groupOrderRow.holds Try.pinned (OpenSpec.ofChange groupOrderWrong)

/-- 'bournelaw04.GroupField': WHATEVER THE INPUT: true; the input reads as it did. -/
def groupFieldSpec : ChangeSpec := { name := "groupField", fn := fun _ => fun
  | [d1, d2, d3] => { results := [.lit (.bool true)], args := [d1, d2, d3] }
  | _ => none }
def groupFieldRow : OpenClaim := { program := "ytlnkmbbmefbnpaa", sum := "144926d9f9d6067f53a7a7340015a78d26da8eccf7d1e251ad53518eedfc825e", func := "bourne/bournelaw04.GroupField", spec := "groupField", named := ["math/bits.divideError", "math/bits.overflowError"], apart := false }
def GroupFieldSaid : Prop := groupFieldRow.holds Try.pinned (OpenSpec.ofChange groupFieldSpec)

/-- ITS FALSE NEIGHBOUR: 'it returns false'. Refute it at one input. -/
def groupFieldWrong : ChangeSpec := { name := "groupField", fn := fun _ => fun
  | [d1, d2, d3] => { results := [.lit (.bool false)], args := [d1, d2, d3] }
  | _ => none }
def GroupFieldWrongFalsely : Prop := groupFieldRow.holds Try.pinned (OpenSpec.ofChange groupFieldWrong)

/- THE SECOND FORM. 'bulk': how many values and letters a reading holds, each counted each time it is reached (what is shared counts as often as it is met; a slice's spare places count too). A statement '..UptoSaid' is the law's where the arguments, and the package variables that the reading takes, are together of bulk at most 1048576: NARROWER than '..Said'. Prove '..Said' where nothing that the law and all that it calls make is longer than what came in: it says more and counts as full. Else prove '..UptoSaid'. A law counts once. -/
mutual
def uptoBulk {H : Type} : DataW H → Nat
  | .lit (.string bytes) => bytes.length + 1
  | .lit _ => 1
  | .nil => 1
  | .ptr d => uptoBulk d + 1
  | .slice elems spare => uptoBulkAll elems + uptoBulkAll spare + 1
  | .agg parts => uptoBulkAll parts + 1
  | .iface _ d => uptoBulk d + 1
  | .map entries => uptoBulkEntries entries + 1
  | .held _ => 1
def uptoBulkAll {H : Type} : List (DataW H) → Nat
  | [] => 0
  | d :: r => uptoBulk d + uptoBulkAll r
def uptoBulkEntries {H : Type} : List (Lit × DataW H) → Nat
  | [] => 0
  | x :: r => uptoBulkEntry x + uptoBulkEntries r
def uptoBulkEntry {H : Type} : Lit × DataW H → Nat
  | (.string bytes, d) => bytes.length + uptoBulk d + 1
  | (_, d) => uptoBulk d + 1
 end
def uptoSmall : (H : Type) → List (DataW H) → Bool := fun _ ds => decide (uptoBulkAll ds ≤ 1048576)
def OpenSpec.upto (s : _root_.Go.ChangeSpec) : _root_.Go.OpenSpec := { _root_.Go.OpenSpec.ofChange s with cond := some uptoSmall }

/-- 'bournelaw04.GroupTells', WHERE WHAT IT READS IS OF BULK AT MOST 1048576: true; the input reads as it did. -/
def groupTellsUptoRow : OpenClaim := { program := "ytlnkmbbmefbnpaa", sum := "144926d9f9d6067f53a7a7340015a78d26da8eccf7d1e251ad53518eedfc825e", func := "bourne/bournelaw04.GroupTells", spec := "groupTells", named := ["math/bits.divideError", "math/bits.overflowError"], apart := false, narrowed := true }
def GroupTellsUptoSaid : Prop := groupTellsUptoRow.holds Try.pinned (OpenSpec.upto groupTellsSpec)

/-- 'bournelaw04.GroupMembers', WHERE WHAT IT READS IS OF BULK AT MOST 1048576: true; the input reads as it did. -/
def groupMembersUptoRow : OpenClaim := { program := "ytlnkmbbmefbnpaa", sum := "144926d9f9d6067f53a7a7340015a78d26da8eccf7d1e251ad53518eedfc825e", func := "bourne/bournelaw04.GroupMembers", spec := "groupMembers", named := ["math/bits.divideError", "math/bits.overflowError"], apart := false, narrowed := true }
def GroupMembersUptoSaid : Prop := groupMembersUptoRow.holds Try.pinned (OpenSpec.upto groupMembersSpec)

/-- 'bournelaw04.GroupPowers', WHERE WHAT IT READS IS OF BULK AT MOST 1048576: true; the input reads as it did. -/
def groupPowersUptoRow : OpenClaim := { program := "ytlnkmbbmefbnpaa", sum := "144926d9f9d6067f53a7a7340015a78d26da8eccf7d1e251ad53518eedfc825e", func := "bourne/bournelaw04.GroupPowers", spec := "groupPowers", named := ["math/bits.divideError", "math/bits.overflowError"], apart := false, narrowed := true }
def GroupPowersUptoSaid : Prop := groupPowersUptoRow.holds Try.pinned (OpenSpec.upto groupPowersSpec)

/-- 'bournelaw04.GroupOrder', WHERE WHAT IT READS IS OF BULK AT MOST 1048576: true; the input reads as it did. -/
def groupOrderUptoRow : OpenClaim := { program := "ytlnkmbbmefbnpaa", sum := "144926d9f9d6067f53a7a7340015a78d26da8eccf7d1e251ad53518eedfc825e", func := "bourne/bournelaw04.GroupOrder", spec := "groupOrder", named := ["math/bits.divideError", "math/bits.overflowError"], apart := false, narrowed := true }
def GroupOrderUptoSaid : Prop := groupOrderUptoRow.holds Try.pinned (OpenSpec.upto groupOrderSpec)

/-- 'bournelaw04.GroupField', WHERE WHAT IT READS IS OF BULK AT MOST 1048576: true; the input reads as it did. -/
def groupFieldUptoRow : OpenClaim := { program := "ytlnkmbbmefbnpaa", sum := "144926d9f9d6067f53a7a7340015a78d26da8eccf7d1e251ad53518eedfc825e", func := "bourne/bournelaw04.GroupField", spec := "groupField", named := ["math/bits.divideError", "math/bits.overflowError"], apart := false, narrowed := true }
def GroupFieldUptoSaid : Prop := groupFieldUptoRow.holds Try.pinned (OpenSpec.upto groupFieldSpec)

end Rows
end Go.Proofs.Ytlnkmbbmefbnpaa
