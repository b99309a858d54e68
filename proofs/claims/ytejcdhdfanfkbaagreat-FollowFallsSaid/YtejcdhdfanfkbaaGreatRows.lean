/-
  No cell of these rows narrows 'for every input' (looked for: loops, veiled, ifaces, maps, wideKeys, modest, calm, conditions, laid).
  DERIVED. THE GIVEN ROWS OF THIS SEAT. 3 by the template 'for every input the law returns true; each argument reads behind the call as it read before'; 0 by the template 'total and deterministic' (their statements: YtejcdhdfanfkbaaGreatTotals.lean).
  GIVEN WITH THE SEED: the statements are not yours to turn. If you find one false, say at which input.
  Laid BY PROGRAM, IN A SANDBOX (cutbox-rows.mjs): the forced cells as the released guide's own fill.sh prints them over the translation 0265d5b85d0055a0… (all of the seat's roots in one cut). By AI agents, Wed Nov 11 2026. No macro, syntax, notation, axiom, sorry.
-/
import Derived.Test.YtejcdhdfanfkbaaGreatChecked
import GoSem.Claim
import GoSem.ClaimJoined
import GoSem.ClaimMapViews
import Derived.JoinedTies
import Derived.KernelRfl
namespace Go.Proofs.YtejcdhdfanfkbaaGreat
/- THE CELL 'sum', in the pinned program and in every row, IS THE sha256 OF THE DUMP (.gsa) THAT YtejcdhdfanfkbaaGreatProg.lean LOADS. Nothing in Lean hashes anything: it is a label: what it is worth is what the hold of that sum in a sandbox is worth. -/
noncomputable def Tryz.pinned : Pinned := { name := "ytejcdhdfanfkbaagreat", sum := "0265d5b85d0055a09d535d469d62e60b4e72bca64d4c7506b8df773ceb90186a", checked := Tryz.checked }
namespace Rows
def none {H : Type} : Left H := { results := [], args := [] }

/-- 'varvelaw42.FollowCodes': WHATEVER THE INPUT: true; the input reads as it did. -/
def followCodesSpec : ChangeSpec := { name := "followCodes", fn := fun _ => fun
  | [d1, d2, d3] => { results := [.lit (.bool true)], args := [d1, d2, d3] }
  | _ => none }
def followCodesRow : OpenClaim := { program := "ytejcdhdfanfkbaagreat", sum := "0265d5b85d0055a09d535d469d62e60b4e72bca64d4c7506b8df773ceb90186a", func := "varve/varvelaw42.FollowCodes", spec := "followCodes", inPlace := ["internal/bytealg.abigen_runtime_cmpstring", "slices.overlaps[varve/follow.Place]", "internal/abi.NoEscape", "maps.clone"], unfollowed := true, recurses := true, apart := false }
def FollowCodesSaid : Prop := followCodesRow.holds Tryz.pinned (OpenSpec.ofChange followCodesSpec)

/-- ITS FALSE NEIGHBOUR: 'it returns false'. Refute it at one input. -/
def followCodesWrong : ChangeSpec := { name := "followCodes", fn := fun _ => fun
  | [d1, d2, d3] => { results := [.lit (.bool false)], args := [d1, d2, d3] }
  | _ => none }
def FollowCodesWrongFalsely : Prop := followCodesRow.holds Tryz.pinned (OpenSpec.ofChange followCodesWrong)

/-- 'varvelaw42.FollowBack': WHATEVER THE INPUT: true; the input reads as it did. -/
def followBackSpec : ChangeSpec := { name := "followBack", fn := fun _ => fun
  | [d1, d2] => { results := [.lit (.bool true)], args := [d1, d2] }
  | _ => none }
def followBackRow : OpenClaim := { program := "ytejcdhdfanfkbaagreat", sum := "0265d5b85d0055a09d535d469d62e60b4e72bca64d4c7506b8df773ceb90186a", func := "varve/varvelaw42.FollowBack", spec := "followBack", inPlace := ["internal/bytealg.abigen_runtime_cmpstring", "slices.overlaps[varve/follow.Place]", "internal/abi.NoEscape", "maps.clone"], unfollowed := true, recurses := true, apart := false }
def FollowBackSaid : Prop := followBackRow.holds Tryz.pinned (OpenSpec.ofChange followBackSpec)

/-- ITS FALSE NEIGHBOUR: 'it returns false'. Refute it at one input. -/
def followBackWrong : ChangeSpec := { name := "followBack", fn := fun _ => fun
  | [d1, d2] => { results := [.lit (.bool false)], args := [d1, d2] }
  | _ => none }
def FollowBackWrongFalsely : Prop := followBackRow.holds Tryz.pinned (OpenSpec.ofChange followBackWrong)

/-- 'varvelaw42.FollowFalls': WHATEVER THE INPUT: true; the input reads as it did. -/
def followFallsSpec : ChangeSpec := { name := "followFalls", fn := fun _ => fun
  | [d1, d2, d3] => { results := [.lit (.bool true)], args := [d1, d2, d3] }
  | _ => none }
def followFallsRow : OpenClaim := { program := "ytejcdhdfanfkbaagreat", sum := "0265d5b85d0055a09d535d469d62e60b4e72bca64d4c7506b8df773ceb90186a", func := "varve/varvelaw42.FollowFalls", spec := "followFalls", inPlace := ["internal/bytealg.abigen_runtime_cmpstring", "slices.overlaps[varve/follow.Place]", "internal/abi.NoEscape", "maps.clone"], unfollowed := true, recurses := true, apart := false }
def FollowFallsSaid : Prop := followFallsRow.holds Tryz.pinned (OpenSpec.ofChange followFallsSpec)

/-- ITS FALSE NEIGHBOUR: 'it returns false'. Refute it at one input. -/
def followFallsWrong : ChangeSpec := { name := "followFalls", fn := fun _ => fun
  | [d1, d2, d3] => { results := [.lit (.bool false)], args := [d1, d2, d3] }
  | _ => none }
def FollowFallsWrongFalsely : Prop := followFallsRow.holds Tryz.pinned (OpenSpec.ofChange followFallsWrong)

/- THE SECOND FORM. 'bulk': how many values and letters a reading holds, each counted each time it is reached (what is shared counts as often as it is met; a slice's spare places count too). A statement '..UptoSaid' is the law's where the arguments, and the package variables that the reading takes, are together of bulk at most 1048576: NARROWER than '..Said'. Prove '..Said' where nothing that the law and all that it calls make is longer than what came in: it says more and counts as full. Else prove '..UptoSaid'. A law counts once. -/
mutual
def uptoBulk {H : Type} : DataW H → Nat
  | .lit (.string bytes) => bytes.length + 1
  | .lit _ => 1
  | .nil => 1
  | .ptr d => uptoBulk d + 1
  | .slice elems spare => uptoBulkAll elems + uptoBulkAll spare + 1
  | .agg parts => uptoBulkAll parts + 1
  | .iface _ d => uptoBulk d + 1
  | .map entries => uptoBulkEntries entries + 1
  | .held _ => 1
def uptoBulkAll {H : Type} : List (DataW H) → Nat
  | [] => 0
  | d :: r => uptoBulk d + uptoBulkAll r
def uptoBulkEntries {H : Type} : List (Lit × DataW H) → Nat
  | [] => 0
  | x :: r => uptoBulkEntry x + uptoBulkEntries r
def uptoBulkEntry {H : Type} : Lit × DataW H → Nat
  | (.string bytes, d) => bytes.length + uptoBulk d + 1
  | (_, d) => uptoBulk d + 1
 end
def uptoSmall : (H : Type) → List (DataW H) → Bool := fun _ ds => decide (uptoBulkAll ds ≤ 1048576)
def OpenSpec.upto (s : _root_.Go.ChangeSpec) : _root_.Go.OpenSpec := { _root_.Go.OpenSpec.ofChange s with cond := some uptoSmall }

/-- 'varvelaw42.FollowCodes', WHERE WHAT IT READS IS OF BULK AT MOST 1048576: true; the input reads as it did. -/
def followCodesUptoRow : OpenClaim := { program := "ytejcdhdfanfkbaagreat", sum := "0265d5b85d0055a09d535d469d62e60b4e72bca64d4c7506b8df773ceb90186a", func := "varve/varvelaw42.FollowCodes", spec := "followCodes", inPlace := ["internal/bytealg.abigen_runtime_cmpstring", "slices.overlaps[varve/follow.Place]", "internal/abi.NoEscape", "maps.clone"], unfollowed := true, recurses := true, apart := false, narrowed := true }
def FollowCodesUptoSaid : Prop := followCodesUptoRow.holds Tryz.pinned (OpenSpec.upto followCodesSpec)

/-- 'varvelaw42.FollowBack', WHERE WHAT IT READS IS OF BULK AT MOST 1048576: true; the input reads as it did. -/
def followBackUptoRow : OpenClaim := { program := "ytejcdhdfanfkbaagreat", sum := "0265d5b85d0055a09d535d469d62e60b4e72bca64d4c7506b8df773ceb90186a", func := "varve/varvelaw42.FollowBack", spec := "followBack", inPlace := ["internal/bytealg.abigen_runtime_cmpstring", "slices.overlaps[varve/follow.Place]", "internal/abi.NoEscape", "maps.clone"], unfollowed := true, recurses := true, apart := false, narrowed := true }
def FollowBackUptoSaid : Prop := followBackUptoRow.holds Tryz.pinned (OpenSpec.upto followBackSpec)

/-- 'varvelaw42.FollowFalls', WHERE WHAT IT READS IS OF BULK AT MOST 1048576: true; the input reads as it did. -/
def followFallsUptoRow : OpenClaim := { program := "ytejcdhdfanfkbaagreat", sum := "0265d5b85d0055a09d535d469d62e60b4e72bca64d4c7506b8df773ceb90186a", func := "varve/varvelaw42.FollowFalls", spec := "followFalls", inPlace := ["internal/bytealg.abigen_runtime_cmpstring", "slices.overlaps[varve/follow.Place]", "internal/abi.NoEscape", "maps.clone"], unfollowed := true, recurses := true, apart := false, narrowed := true }
def FollowFallsUptoSaid : Prop := followFallsUptoRow.holds Tryz.pinned (OpenSpec.upto followFallsSpec)

end Rows
end Go.Proofs.YtejcdhdfanfkbaaGreat
