/-
  No cell of these rows narrows 'for every input' (looked for: loops, veiled, ifaces, maps, wideKeys, modest, calm, conditions, laid).
  DERIVED. THE GIVEN ROWS OF THIS SEAT. 9 by the template 'for every input the law returns true; each argument reads behind the call as it read before'; 0 by the template 'total and deterministic' (their statements: YtnljhnckmgpllaaGreatTotals.lean).
  GIVEN WITH THE SEED: the statements are not yours to turn. If you find one false, say at which input.
  Laid BY PROGRAM, IN A SANDBOX (cutbox-rows.mjs): the forced cells as the released guide's own fill.sh prints them over the translation bd1401c4cf35747d… (all of the seat's roots in one cut). By AI agents, Wed Nov 11 2026. No macro, syntax, notation, axiom, sorry.
-/
import Derived.Test.YtnljhnckmgpllaaGreatChecked
import GoSem.Claim
import GoSem.ClaimJoined
import GoSem.ClaimMapViews
import Derived.JoinedTies
import Derived.KernelRfl
namespace Go.Proofs.YtnljhnckmgpllaaGreat
/- THE CELL 'sum', in the pinned program and in every row, IS THE sha256 OF THE DUMP (.gsa) THAT YtnljhnckmgpllaaGreatProg.lean LOADS. Nothing in Lean hashes anything: it is a label: what it is worth is what the hold of that sum in a sandbox is worth. -/
noncomputable def Tryz.pinned : Pinned := { name := "ytnljhnckmgpllaagreat", sum := "bd1401c4cf35747d3ca90fbd226b13d06c0226dc3be06c579ec6d0175f0bad79", checked := Tryz.checked }
namespace Rows
def none {H : Type} : Left H := { results := [], args := [] }

/-- 'varvelaw14.SquashPacks': WHATEVER THE INPUT: true; the input reads as it did. -/
def squashPacksSpec : ChangeSpec := { name := "squashPacks", fn := fun _ => fun
  | [d] => { results := [.lit (.bool true)], args := [d] }
  | _ => none }
def squashPacksRow : OpenClaim := { program := "ytnljhnckmgpllaagreat", sum := "bd1401c4cf35747d3ca90fbd226b13d06c0226dc3be06c579ec6d0175f0bad79", func := "varve/varvelaw14.SquashPacks", spec := "squashPacks", unfollowed := true, recurses := true, apart := false }
def SquashPacksSaid : Prop := squashPacksRow.holds Tryz.pinned (OpenSpec.ofChange squashPacksSpec)

/-- ITS FALSE NEIGHBOUR: 'it returns false'. Refute it at one input. -/
def squashPacksWrong : ChangeSpec := { name := "squashPacks", fn := fun _ => fun
  | [d] => { results := [.lit (.bool false)], args := [d] }
  | _ => none }
def SquashPacksWrongFalsely : Prop := squashPacksRow.holds Tryz.pinned (OpenSpec.ofChange squashPacksWrong)

/-- 'varvelaw14.SquashBack': WHATEVER THE INPUT: true; the input reads as it did. -/
def squashBackSpec : ChangeSpec := { name := "squashBack", fn := fun _ => fun
  | [d1, d2] => { results := [.lit (.bool true)], args := [d1, d2] }
  | _ => none }
def squashBackRow : OpenClaim := { program := "ytnljhnckmgpllaagreat", sum := "bd1401c4cf35747d3ca90fbd226b13d06c0226dc3be06c579ec6d0175f0bad79", func := "varve/varvelaw14.SquashBack", spec := "squashBack", unfollowed := true, recurses := true, apart := false }
def SquashBackSaid : Prop := squashBackRow.holds Tryz.pinned (OpenSpec.ofChange squashBackSpec)

/-- ITS FALSE NEIGHBOUR: 'it returns false'. Refute it at one input. -/
def squashBackWrong : ChangeSpec := { name := "squashBack", fn := fun _ => fun
  | [d1, d2] => { results := [.lit (.bool false)], args := [d1, d2] }
  | _ => none }
def SquashBackWrongFalsely : Prop := squashBackRow.holds Tryz.pinned (OpenSpec.ofChange squashBackWrong)

/-- 'varvelaw14.SquashAgain': WHATEVER THE INPUT: true; the input reads as it did. -/
def squashAgainSpec : ChangeSpec := { name := "squashAgain", fn := fun _ => fun
  | [d] => { results := [.lit (.bool true)], args := [d] }
  | _ => none }
def squashAgainRow : OpenClaim := { program := "ytnljhnckmgpllaagreat", sum := "bd1401c4cf35747d3ca90fbd226b13d06c0226dc3be06c579ec6d0175f0bad79", func := "varve/varvelaw14.SquashAgain", spec := "squashAgain", unfollowed := true, recurses := true, apart := false }
def SquashAgainSaid : Prop := squashAgainRow.holds Tryz.pinned (OpenSpec.ofChange squashAgainSpec)

/-- ITS FALSE NEIGHBOUR: 'it returns false'. Refute it at one input. -/
def squashAgainWrong : ChangeSpec := { name := "squashAgain", fn := fun _ => fun
  | [d] => { results := [.lit (.bool false)], args := [d] }
  | _ => none }
def SquashAgainWrongFalsely : Prop := squashAgainRow.holds Tryz.pinned (OpenSpec.ofChange squashAgainWrong)

/-- 'varvelaw14.SquashRuns': WHATEVER THE INPUT: true; the input reads as it did. -/
def squashRunsSpec : ChangeSpec := { name := "squashRuns", fn := fun _ => fun
  | [d1, d2] => { results := [.lit (.bool true)], args := [d1, d2] }
  | _ => none }
def squashRunsRow : OpenClaim := { program := "ytnljhnckmgpllaagreat", sum := "bd1401c4cf35747d3ca90fbd226b13d06c0226dc3be06c579ec6d0175f0bad79", func := "varve/varvelaw14.SquashRuns", spec := "squashRuns", unfollowed := true, recurses := true, apart := false }
def SquashRunsSaid : Prop := squashRunsRow.holds Tryz.pinned (OpenSpec.ofChange squashRunsSpec)

/-- ITS FALSE NEIGHBOUR: 'it returns false'. Refute it at one input. -/
def squashRunsWrong : ChangeSpec := { name := "squashRuns", fn := fun _ => fun
  | [d1, d2] => { results := [.lit (.bool false)], args := [d1, d2] }
  | _ => none }
def SquashRunsWrongFalsely : Prop := squashRunsRow.holds Tryz.pinned (OpenSpec.ofChange squashRunsWrong)

/-- 'varvelaw17.BlockEncodes': WHATEVER THE INPUT: true; the input reads as it did. -/
def blockEncodesSpec : ChangeSpec := { name := "blockEncodes", fn := fun _ => fun
  | [d] => { results := [.lit (.bool true)], args := [d] }
  | _ => none }
def blockEncodesRow : OpenClaim := { program := "ytnljhnckmgpllaagreat", sum := "bd1401c4cf35747d3ca90fbd226b13d06c0226dc3be06c579ec6d0175f0bad79", func := "varve/varvelaw17.BlockEncodes", spec := "blockEncodes", inPlace := ["internal/abi.NoEscape"], unfollowed := true, recurses := true, apart := false }
def BlockEncodesSaid : Prop := blockEncodesRow.holds Tryz.pinned (OpenSpec.ofChange blockEncodesSpec)

/-- ITS FALSE NEIGHBOUR: 'it returns false'. Refute it at one input. -/
def blockEncodesWrong : ChangeSpec := { name := "blockEncodes", fn := fun _ => fun
  | [d] => { results := [.lit (.bool false)], args := [d] }
  | _ => none }
def BlockEncodesWrongFalsely : Prop := blockEncodesRow.holds Tryz.pinned (OpenSpec.ofChange blockEncodesWrong)

/-- 'varvelaw17.BlockAgain': WHATEVER THE INPUT: true; the input reads as it did. -/
def blockAgainSpec : ChangeSpec := { name := "blockAgain", fn := fun _ => fun
  | [d] => { results := [.lit (.bool true)], args := [d] }
  | _ => none }
def blockAgainRow : OpenClaim := { program := "ytnljhnckmgpllaagreat", sum := "bd1401c4cf35747d3ca90fbd226b13d06c0226dc3be06c579ec6d0175f0bad79", func := "varve/varvelaw17.BlockAgain", spec := "blockAgain", inPlace := ["internal/abi.NoEscape"], unfollowed := true, recurses := true, apart := false }
def BlockAgainSaid : Prop := blockAgainRow.holds Tryz.pinned (OpenSpec.ofChange blockAgainSpec)

/-- ITS FALSE NEIGHBOUR: 'it returns false'. Refute it at one input. -/
def blockAgainWrong : ChangeSpec := { name := "blockAgain", fn := fun _ => fun
  | [d] => { results := [.lit (.bool false)], args := [d] }
  | _ => none }
def BlockAgainWrongFalsely : Prop := blockAgainRow.holds Tryz.pinned (OpenSpec.ofChange blockAgainWrong)

/-- 'varvelaw17.BlockMerge': WHATEVER THE INPUT: true; the input reads as it did. -/
def blockMergeSpec : ChangeSpec := { name := "blockMerge", fn := fun _ => fun
  | [d1, d2] => { results := [.lit (.bool true)], args := [d1, d2] }
  | _ => none }
def blockMergeRow : OpenClaim := { program := "ytnljhnckmgpllaagreat", sum := "bd1401c4cf35747d3ca90fbd226b13d06c0226dc3be06c579ec6d0175f0bad79", func := "varve/varvelaw17.BlockMerge", spec := "blockMerge", inPlace := ["internal/abi.NoEscape"], unfollowed := true, recurses := true, apart := false }
def BlockMergeSaid : Prop := blockMergeRow.holds Tryz.pinned (OpenSpec.ofChange blockMergeSpec)

/-- ITS FALSE NEIGHBOUR: 'it returns false'. Refute it at one input. -/
def blockMergeWrong : ChangeSpec := { name := "blockMerge", fn := fun _ => fun
  | [d1, d2] => { results := [.lit (.bool false)], args := [d1, d2] }
  | _ => none }
def BlockMergeWrongFalsely : Prop := blockMergeRow.holds Tryz.pinned (OpenSpec.ofChange blockMergeWrong)

/-- 'varvelaw17.BlockBack': WHATEVER THE INPUT: true; the input reads as it did. -/
def blockBackSpec : ChangeSpec := { name := "blockBack", fn := fun _ => fun
  | [d] => { results := [.lit (.bool true)], args := [d] }
  | _ => none }
def blockBackRow : OpenClaim := { program := "ytnljhnckmgpllaagreat", sum := "bd1401c4cf35747d3ca90fbd226b13d06c0226dc3be06c579ec6d0175f0bad79", func := "varve/varvelaw17.BlockBack", spec := "blockBack", inPlace := ["internal/abi.NoEscape"], unfollowed := true, recurses := true, apart := false }
def BlockBackSaid : Prop := blockBackRow.holds Tryz.pinned (OpenSpec.ofChange blockBackSpec)

/-- ITS FALSE NEIGHBOUR: 'it returns false'. Refute it at one input. -/
def blockBackWrong : ChangeSpec := { name := "blockBack", fn := fun _ => fun
  | [d] => { results := [.lit (.bool false)], args := [d] }
  | _ => none }
def BlockBackWrongFalsely : Prop := blockBackRow.holds Tryz.pinned (OpenSpec.ofChange blockBackWrong)

/-- 'varvelaw17.BlockSmall': WHATEVER THE INPUT: true; the input reads as it did. -/
def blockSmallSpec : ChangeSpec := { name := "blockSmall", fn := fun _ => fun
  | [d] => { results := [.lit (.bool true)], args := [d] }
  | _ => none }
def blockSmallRow : OpenClaim := { program := "ytnljhnckmgpllaagreat", sum := "bd1401c4cf35747d3ca90fbd226b13d06c0226dc3be06c579ec6d0175f0bad79", func := "varve/varvelaw17.BlockSmall", spec := "blockSmall", inPlace := ["internal/abi.NoEscape"], unfollowed := true, recurses := true, apart := false }
def BlockSmallSaid : Prop := blockSmallRow.holds Tryz.pinned (OpenSpec.ofChange blockSmallSpec)

/-- ITS FALSE NEIGHBOUR: 'it returns false'. Refute it at one input. -/
def blockSmallWrong : ChangeSpec := { name := "blockSmall", fn := fun _ => fun
  | [d] => { results := [.lit (.bool false)], args := [d] }
  | _ => none }
def BlockSmallWrongFalsely : Prop := blockSmallRow.holds Tryz.pinned (OpenSpec.ofChange blockSmallWrong)

/- THE SECOND FORM. 'bulk': how many values and letters a reading holds, each counted each time it is reached (what is shared counts as often as it is met; a slice's spare places count too). A statement '..UptoSaid' is the law's where the arguments, and the package variables that the reading takes, are together of bulk at most 1048576: NARROWER than '..Said'. Prove '..Said' where nothing that the law and all that it calls make is longer than what came in: it says more and counts as full. Else prove '..UptoSaid'. A law counts once. -/
mutual
def uptoBulk {H : Type} : DataW H → Nat
  | .lit (.string bytes) => bytes.length + 1
  | .lit _ => 1
  | .nil => 1
  | .ptr d => uptoBulk d + 1
  | .slice elems spare => uptoBulkAll elems + uptoBulkAll spare + 1
  | .agg parts => uptoBulkAll parts + 1
  | .iface _ d => uptoBulk d + 1
  | .map entries => uptoBulkEntries entries + 1
  | .held _ => 1
def uptoBulkAll {H : Type} : List (DataW H) → Nat
  | [] => 0
  | d :: r => uptoBulk d + uptoBulkAll r
def uptoBulkEntries {H : Type} : List (Lit × DataW H) → Nat
  | [] => 0
  | x :: r => uptoBulkEntry x + uptoBulkEntries r
def uptoBulkEntry {H : Type} : Lit × DataW H → Nat
  | (.string bytes, d) => bytes.length + uptoBulk d + 1
  | (_, d) => uptoBulk d + 1
 end
def uptoSmall : (H : Type) → List (DataW H) → Bool := fun _ ds => decide (uptoBulkAll ds ≤ 1048576)
def OpenSpec.upto (s : _root_.Go.ChangeSpec) : _root_.Go.OpenSpec := { _root_.Go.OpenSpec.ofChange s with cond := some uptoSmall }

/-- 'varvelaw14.SquashPacks', WHERE WHAT IT READS IS OF BULK AT MOST 1048576: true; the input reads as it did. -/
def squashPacksUptoRow : OpenClaim := { program := "ytnljhnckmgpllaagreat", sum := "bd1401c4cf35747d3ca90fbd226b13d06c0226dc3be06c579ec6d0175f0bad79", func := "varve/varvelaw14.SquashPacks", spec := "squashPacks", unfollowed := true, recurses := true, apart := false, narrowed := true }
def SquashPacksUptoSaid : Prop := squashPacksUptoRow.holds Tryz.pinned (OpenSpec.upto squashPacksSpec)

/-- 'varvelaw14.SquashBack', WHERE WHAT IT READS IS OF BULK AT MOST 1048576: true; the input reads as it did. -/
def squashBackUptoRow : OpenClaim := { program := "ytnljhnckmgpllaagreat", sum := "bd1401c4cf35747d3ca90fbd226b13d06c0226dc3be06c579ec6d0175f0bad79", func := "varve/varvelaw14.SquashBack", spec := "squashBack", unfollowed := true, recurses := true, apart := false, narrowed := true }
def SquashBackUptoSaid : Prop := squashBackUptoRow.holds Tryz.pinned (OpenSpec.upto squashBackSpec)

/-- 'varvelaw14.SquashAgain', WHERE WHAT IT READS IS OF BULK AT MOST 1048576: true; the input reads as it did. -/
def squashAgainUptoRow : OpenClaim := { program := "ytnljhnckmgpllaagreat", sum := "bd1401c4cf35747d3ca90fbd226b13d06c0226dc3be06c579ec6d0175f0bad79", func := "varve/varvelaw14.SquashAgain", spec := "squashAgain", unfollowed := true, recurses := true, apart := false, narrowed := true }
def SquashAgainUptoSaid : Prop := squashAgainUptoRow.holds Tryz.pinned (OpenSpec.upto squashAgainSpec)

/-- 'varvelaw14.SquashRuns', WHERE WHAT IT READS IS OF BULK AT MOST 1048576: true; the input reads as it did. -/
def squashRunsUptoRow : OpenClaim := { program := "ytnljhnckmgpllaagreat", sum := "bd1401c4cf35747d3ca90fbd226b13d06c0226dc3be06c579ec6d0175f0bad79", func := "varve/varvelaw14.SquashRuns", spec := "squashRuns", unfollowed := true, recurses := true, apart := false, narrowed := true }
def SquashRunsUptoSaid : Prop := squashRunsUptoRow.holds Tryz.pinned (OpenSpec.upto squashRunsSpec)

/-- 'varvelaw17.BlockEncodes', WHERE WHAT IT READS IS OF BULK AT MOST 1048576: true; the input reads as it did. -/
def blockEncodesUptoRow : OpenClaim := { program := "ytnljhnckmgpllaagreat", sum := "bd1401c4cf35747d3ca90fbd226b13d06c0226dc3be06c579ec6d0175f0bad79", func := "varve/varvelaw17.BlockEncodes", spec := "blockEncodes", inPlace := ["internal/abi.NoEscape"], unfollowed := true, recurses := true, apart := false, narrowed := true }
def BlockEncodesUptoSaid : Prop := blockEncodesUptoRow.holds Tryz.pinned (OpenSpec.upto blockEncodesSpec)

/-- 'varvelaw17.BlockAgain', WHERE WHAT IT READS IS OF BULK AT MOST 1048576: true; the input reads as it did. -/
def blockAgainUptoRow : OpenClaim := { program := "ytnljhnckmgpllaagreat", sum := "bd1401c4cf35747d3ca90fbd226b13d06c0226dc3be06c579ec6d0175f0bad79", func := "varve/varvelaw17.BlockAgain", spec := "blockAgain", inPlace := ["internal/abi.NoEscape"], unfollowed := true, recurses := true, apart := false, narrowed := true }
def BlockAgainUptoSaid : Prop := blockAgainUptoRow.holds Tryz.pinned (OpenSpec.upto blockAgainSpec)

/-- 'varvelaw17.BlockMerge', WHERE WHAT IT READS IS OF BULK AT MOST 1048576: true; the input reads as it did. -/
def blockMergeUptoRow : OpenClaim := { program := "ytnljhnckmgpllaagreat", sum := "bd1401c4cf35747d3ca90fbd226b13d06c0226dc3be06c579ec6d0175f0bad79", func := "varve/varvelaw17.BlockMerge", spec := "blockMerge", inPlace := ["internal/abi.NoEscape"], unfollowed := true, recurses := true, apart := false, narrowed := true }
def BlockMergeUptoSaid : Prop := blockMergeUptoRow.holds Tryz.pinned (OpenSpec.upto blockMergeSpec)

/-- 'varvelaw17.BlockBack', WHERE WHAT IT READS IS OF BULK AT MOST 1048576: true; the input reads as it did. -/
def blockBackUptoRow : OpenClaim := { program := "ytnljhnckmgpllaagreat", sum := "bd1401c4cf35747d3ca90fbd226b13d06c0226dc3be06c579ec6d0175f0bad79", func := "varve/varvelaw17.BlockBack", spec := "blockBack", inPlace := ["internal/abi.NoEscape"], unfollowed := true, recurses := true, apart := false, narrowed := true }
def BlockBackUptoSaid : Prop := blockBackUptoRow.holds Tryz.pinned (OpenSpec.upto blockBackSpec)

/-- 'varvelaw17.BlockSmall', WHERE WHAT IT READS IS OF BULK AT MOST 1048576: true; the input reads as it did. -/
def blockSmallUptoRow : OpenClaim := { program := "ytnljhnckmgpllaagreat", sum := "bd1401c4cf35747d3ca90fbd226b13d06c0226dc3be06c579ec6d0175f0bad79", func := "varve/varvelaw17.BlockSmall", spec := "blockSmall", inPlace := ["internal/abi.NoEscape"], unfollowed := true, recurses := true, apart := false, narrowed := true }
def BlockSmallUptoSaid : Prop := blockSmallUptoRow.holds Tryz.pinned (OpenSpec.upto blockSmallSpec)

end Rows
end Go.Proofs.YtnljhnckmgpllaaGreat
