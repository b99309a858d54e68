/-
  No cell of these rows narrows 'for every input' (looked for: loops, veiled, ifaces, maps, wideKeys, modest, calm, conditions, laid).
  DERIVED. THE GIVEN ROWS OF THIS SEAT. 3 by the template 'for every input the law returns true; each argument reads behind the call as it read before'; 0 by the template 'total and deterministic' (their statements: YtphfmgapiimliaaGreatTotals.lean).
  GIVEN WITH THE SEED: the statements are not yours to turn. If you find one false, say at which input.
  Laid BY PROGRAM, IN A SANDBOX (cutbox-rows.mjs): the forced cells as the released guide's own fill.sh prints them over the translation 62471fa253d64cf2… (all of the seat's roots in one cut). By AI agents, Wed Nov 11 2026. No macro, syntax, notation, axiom, sorry.
-/
import Derived.Test.YtphfmgapiimliaaGreatChecked
import GoSem.Claim
import GoSem.ClaimJoined
import GoSem.ClaimMapViews
import Derived.JoinedTies
import Derived.KernelRfl
namespace Go.Proofs.YtphfmgapiimliaaGreat
/- THE CELL 'sum', in the pinned program and in every row, IS THE sha256 OF THE DUMP (.gsa) THAT YtphfmgapiimliaaGreatProg.lean LOADS. Nothing in Lean hashes anything: it is a label: what it is worth is what the hold of that sum in a sandbox is worth. -/
noncomputable def Tryz.pinned : Pinned := { name := "ytphfmgapiimliaagreat", sum := "62471fa253d64cf226f8f524ac2b1765e858e57624acd26787b1a8d3d3690b3c", checked := Tryz.checked }
namespace Rows
def none {H : Type} : Left H := { results := [], args := [] }

/-- 'varvelaw33.OpenLooks': WHATEVER THE INPUT: true; the input reads as it did. -/
def openLooksSpec : ChangeSpec := { name := "openLooks", fn := fun _ => fun
  | [d1, d2] => { results := [.lit (.bool true)], args := [d1, d2] }
  | _ => none }
def openLooksRow : OpenClaim := { program := "ytphfmgapiimliaagreat", sum := "62471fa253d64cf226f8f524ac2b1765e858e57624acd26787b1a8d3d3690b3c", func := "varve/varvelaw33.OpenLooks", spec := "openLooks", inPlace := ["maps.clone", "internal/abi.NoEscape"], unfollowed := true, recurses := true, apart := false }
def OpenLooksSaid : Prop := openLooksRow.holds Tryz.pinned (OpenSpec.ofChange openLooksSpec)

/-- ITS FALSE NEIGHBOUR: 'it returns false'. Refute it at one input. -/
def openLooksWrong : ChangeSpec := { name := "openLooks", fn := fun _ => fun
  | [d1, d2] => { results := [.lit (.bool false)], args := [d1, d2] }
  | _ => none }
def OpenLooksWrongFalsely : Prop := openLooksRow.holds Tryz.pinned (OpenSpec.ofChange openLooksWrong)

/-- 'varvelaw43.SalvageChains': WHATEVER THE INPUT: true; the input reads as it did. -/
def salvageChainsSpec : ChangeSpec := { name := "salvageChains", fn := fun _ => fun
  | [d] => { results := [.lit (.bool true)], args := [d] }
  | _ => none }
def salvageChainsRow : OpenClaim := { program := "ytphfmgapiimliaagreat", sum := "62471fa253d64cf226f8f524ac2b1765e858e57624acd26787b1a8d3d3690b3c", func := "varve/varvelaw43.SalvageChains", spec := "salvageChains", inPlace := ["internal/abi.NoEscape", "maps.clone"], unfollowed := true, recurses := true, apart := false }
def SalvageChainsSaid : Prop := salvageChainsRow.holds Tryz.pinned (OpenSpec.ofChange salvageChainsSpec)

/-- ITS FALSE NEIGHBOUR: 'it returns false'. Refute it at one input. -/
def salvageChainsWrong : ChangeSpec := { name := "salvageChains", fn := fun _ => fun
  | [d] => { results := [.lit (.bool false)], args := [d] }
  | _ => none }
def SalvageChainsWrongFalsely : Prop := salvageChainsRow.holds Tryz.pinned (OpenSpec.ofChange salvageChainsWrong)

/-- 'varvelaw43.SalvageChain': WHATEVER THE INPUT: true; the input reads as it did. -/
def salvageChainSpec : ChangeSpec := { name := "salvageChain", fn := fun _ => fun
  | [d] => { results := [.lit (.bool true)], args := [d] }
  | _ => none }
def salvageChainRow : OpenClaim := { program := "ytphfmgapiimliaagreat", sum := "62471fa253d64cf226f8f524ac2b1765e858e57624acd26787b1a8d3d3690b3c", func := "varve/varvelaw43.SalvageChain", spec := "salvageChain", inPlace := ["internal/abi.NoEscape", "maps.clone"], unfollowed := true, recurses := true, apart := false }
def SalvageChainSaid : Prop := salvageChainRow.holds Tryz.pinned (OpenSpec.ofChange salvageChainSpec)

/-- ITS FALSE NEIGHBOUR: 'it returns false'. Refute it at one input. -/
def salvageChainWrong : ChangeSpec := { name := "salvageChain", fn := fun _ => fun
  | [d] => { results := [.lit (.bool false)], args := [d] }
  | _ => none }
def SalvageChainWrongFalsely : Prop := salvageChainRow.holds Tryz.pinned (OpenSpec.ofChange salvageChainWrong)

/- THE SECOND FORM. 'bulk': how many values and letters a reading holds, each counted each time it is reached (what is shared counts as often as it is met; a slice's spare places count too). A statement '..UptoSaid' is the law's where the arguments, and the package variables that the reading takes, are together of bulk at most 1048576: NARROWER than '..Said'. Prove '..Said' where nothing that the law and all that it calls make is longer than what came in: it says more and counts as full. Else prove '..UptoSaid'. A law counts once. -/
mutual
def uptoBulk {H : Type} : DataW H → Nat
  | .lit (.string bytes) => bytes.length + 1
  | .lit _ => 1
  | .nil => 1
  | .ptr d => uptoBulk d + 1
  | .slice elems spare => uptoBulkAll elems + uptoBulkAll spare + 1
  | .agg parts => uptoBulkAll parts + 1
  | .iface _ d => uptoBulk d + 1
  | .map entries => uptoBulkEntries entries + 1
  | .held _ => 1
def uptoBulkAll {H : Type} : List (DataW H) → Nat
  | [] => 0
  | d :: r => uptoBulk d + uptoBulkAll r
def uptoBulkEntries {H : Type} : List (Lit × DataW H) → Nat
  | [] => 0
  | x :: r => uptoBulkEntry x + uptoBulkEntries r
def uptoBulkEntry {H : Type} : Lit × DataW H → Nat
  | (.string bytes, d) => bytes.length + uptoBulk d + 1
  | (_, d) => uptoBulk d + 1
 end
def uptoSmall : (H : Type) → List (DataW H) → Bool := fun _ ds => decide (uptoBulkAll ds ≤ 1048576)
def OpenSpec.upto (s : _root_.Go.ChangeSpec) : _root_.Go.OpenSpec := { _root_.Go.OpenSpec.ofChange s with cond := some uptoSmall }

/-- 'varvelaw33.OpenLooks', WHERE WHAT IT READS IS OF BULK AT MOST 1048576: true; the input reads as it did. -/
def openLooksUptoRow : OpenClaim := { program := "ytphfmgapiimliaagreat", sum := "62471fa253d64cf226f8f524ac2b1765e858e57624acd26787b1a8d3d3690b3c", func := "varve/varvelaw33.OpenLooks", spec := "openLooks", inPlace := ["maps.clone", "internal/abi.NoEscape"], unfollowed := true, recurses := true, apart := false, narrowed := true }
def OpenLooksUptoSaid : Prop := openLooksUptoRow.holds Tryz.pinned (OpenSpec.upto openLooksSpec)

/-- 'varvelaw43.SalvageChains', WHERE WHAT IT READS IS OF BULK AT MOST 1048576: true; the input reads as it did. -/
def salvageChainsUptoRow : OpenClaim := { program := "ytphfmgapiimliaagreat", sum := "62471fa253d64cf226f8f524ac2b1765e858e57624acd26787b1a8d3d3690b3c", func := "varve/varvelaw43.SalvageChains", spec := "salvageChains", inPlace := ["internal/abi.NoEscape", "maps.clone"], unfollowed := true, recurses := true, apart := false, narrowed := true }
def SalvageChainsUptoSaid : Prop := salvageChainsUptoRow.holds Tryz.pinned (OpenSpec.upto salvageChainsSpec)

/-- 'varvelaw43.SalvageChain', WHERE WHAT IT READS IS OF BULK AT MOST 1048576: true; the input reads as it did. -/
def salvageChainUptoRow : OpenClaim := { program := "ytphfmgapiimliaagreat", sum := "62471fa253d64cf226f8f524ac2b1765e858e57624acd26787b1a8d3d3690b3c", func := "varve/varvelaw43.SalvageChain", spec := "salvageChain", inPlace := ["internal/abi.NoEscape", "maps.clone"], unfollowed := true, recurses := true, apart := false, narrowed := true }
def SalvageChainUptoSaid : Prop := salvageChainUptoRow.holds Tryz.pinned (OpenSpec.upto salvageChainSpec)

end Rows
end Go.Proofs.YtphfmgapiimliaaGreat
