/-
  No cell of these rows narrows 'for every input' (looked for: loops, veiled, ifaces, maps, wideKeys, modest, calm, conditions, laid).
  DERIVED. THE GIVEN ROWS OF THIS SEAT. 7 by the template 'for every input the law returns true; each argument reads behind the call as it read before'; 0 by the template 'total and deterministic' (their statements: YtjapdfehkoijjaaTotals.lean).
  GIVEN WITH THE SEED: the statements are not yours to turn. If you find one false, say at which input.
  Laid BY PROGRAM, IN A SANDBOX (cutbox-rows.mjs): the forced cells as the released guide's own fill.sh prints them over the translation 958f4017981f39ac… (all of the seat's roots in one cut). By AI agents, Wed Nov 11 2026. No macro, syntax, notation, axiom, sorry.
-/
import Derived.Test.YtjapdfehkoijjaaChecked
import GoSem.Claim
import GoSem.ClaimJoined
import GoSem.ClaimMapViews
import Derived.JoinedTies
import Derived.KernelRfl
namespace Go.Proofs.Ytjapdfehkoijjaa
/- THE CELL 'sum', in the pinned program and in every row, IS THE sha256 OF THE DUMP (.gsa) THAT YtjapdfehkoijjaaProg.lean LOADS. Nothing in Lean hashes anything: it is a label: what it is worth is what the hold of that sum in a sandbox is worth. -/
noncomputable def Try.pinned : Pinned := { name := "ytjapdfehkoijjaa", sum := "958f4017981f39ac3fe41a05d931a6b45dc73d106d9b92ba6ef3d4225792be39", checked := Try.checked }
namespace Rows
def none {H : Type} : Left H := { results := [], args := [] }

/-- 'varvelaw18.NameLooks': WHATEVER THE INPUT: true; the input reads as it did. -/
def nameLooksSpec : ChangeSpec := { name := "nameLooks", fn := fun _ => fun
  | [d1, d2, d3] => { results := [.lit (.bool true)], args := [d1, d2, d3] }
  | _ => none }
def nameLooksRow : OpenClaim := { program := "ytjapdfehkoijjaa", sum := "958f4017981f39ac3fe41a05d931a6b45dc73d106d9b92ba6ef3d4225792be39", func := "varve/varvelaw18.NameLooks", spec := "nameLooks", apart := false }
def NameLooksSaid : Prop := nameLooksRow.holds Try.pinned (OpenSpec.ofChange nameLooksSpec)

/-- ITS FALSE NEIGHBOUR: 'it returns false'. Refute it at one input. -/
def nameLooksWrong : ChangeSpec := { name := "nameLooks", fn := fun _ => fun
  | [d1, d2, d3] => { results := [.lit (.bool false)], args := [d1, d2, d3] }
  | _ => none }
def NameLooksWrongFalsely : Prop := nameLooksRow.holds Try.pinned (OpenSpec.ofChange nameLooksWrong)

/-- 'varvelaw18.NameBack': WHATEVER THE INPUT: true; the input reads as it did. -/
def nameBackSpec : ChangeSpec := { name := "nameBack", fn := fun _ => fun
  | [d1, d2, d3] => { results := [.lit (.bool true)], args := [d1, d2, d3] }
  | _ => none }
def nameBackRow : OpenClaim := { program := "ytjapdfehkoijjaa", sum := "958f4017981f39ac3fe41a05d931a6b45dc73d106d9b92ba6ef3d4225792be39", func := "varve/varvelaw18.NameBack", spec := "nameBack", apart := false }
def NameBackSaid : Prop := nameBackRow.holds Try.pinned (OpenSpec.ofChange nameBackSpec)

/-- ITS FALSE NEIGHBOUR: 'it returns false'. Refute it at one input. -/
def nameBackWrong : ChangeSpec := { name := "nameBack", fn := fun _ => fun
  | [d1, d2, d3] => { results := [.lit (.bool false)], args := [d1, d2, d3] }
  | _ => none }
def NameBackWrongFalsely : Prop := nameBackRow.holds Try.pinned (OpenSpec.ofChange nameBackWrong)

/-- 'varvelaw18.NameOne': WHATEVER THE INPUT: true; the input reads as it did. -/
def nameOneSpec : ChangeSpec := { name := "nameOne", fn := fun _ => fun
  | [d1, d2] => { results := [.lit (.bool true)], args := [d1, d2] }
  | _ => none }
def nameOneRow : OpenClaim := { program := "ytjapdfehkoijjaa", sum := "958f4017981f39ac3fe41a05d931a6b45dc73d106d9b92ba6ef3d4225792be39", func := "varve/varvelaw18.NameOne", spec := "nameOne", apart := false }
def NameOneSaid : Prop := nameOneRow.holds Try.pinned (OpenSpec.ofChange nameOneSpec)

/-- ITS FALSE NEIGHBOUR: 'it returns false'. Refute it at one input. -/
def nameOneWrong : ChangeSpec := { name := "nameOne", fn := fun _ => fun
  | [d1, d2] => { results := [.lit (.bool false)], args := [d1, d2] }
  | _ => none }
def NameOneWrongFalsely : Prop := nameOneRow.holds Try.pinned (OpenSpec.ofChange nameOneWrong)

/-- 'varvelaw07.ZrunPacks': WHATEVER THE INPUT: true; the input reads as it did. -/
def zrunPacksSpec : ChangeSpec := { name := "zrunPacks", fn := fun _ => fun
  | [d1, d2] => { results := [.lit (.bool true)], args := [d1, d2] }
  | _ => none }
def zrunPacksRow : OpenClaim := { program := "ytjapdfehkoijjaa", sum := "958f4017981f39ac3fe41a05d931a6b45dc73d106d9b92ba6ef3d4225792be39", func := "varve/varvelaw07.ZrunPacks", spec := "zrunPacks", unfollowed := true, recurses := true, apart := false }
def ZrunPacksSaid : Prop := zrunPacksRow.holds Try.pinned (OpenSpec.ofChange zrunPacksSpec)

/-- ITS FALSE NEIGHBOUR: 'it returns false'. Refute it at one input. -/
def zrunPacksWrong : ChangeSpec := { name := "zrunPacks", fn := fun _ => fun
  | [d1, d2] => { results := [.lit (.bool false)], args := [d1, d2] }
  | _ => none }
def ZrunPacksWrongFalsely : Prop := zrunPacksRow.holds Try.pinned (OpenSpec.ofChange zrunPacksWrong)

/-- 'varvelaw07.ZrunUnpacks': WHATEVER THE INPUT: true; the input reads as it did. -/
def zrunUnpacksSpec : ChangeSpec := { name := "zrunUnpacks", fn := fun _ => fun
  | [d1, d2] => { results := [.lit (.bool true)], args := [d1, d2] }
  | _ => none }
def zrunUnpacksRow : OpenClaim := { program := "ytjapdfehkoijjaa", sum := "958f4017981f39ac3fe41a05d931a6b45dc73d106d9b92ba6ef3d4225792be39", func := "varve/varvelaw07.ZrunUnpacks", spec := "zrunUnpacks", unfollowed := true, recurses := true, apart := false }
def ZrunUnpacksSaid : Prop := zrunUnpacksRow.holds Try.pinned (OpenSpec.ofChange zrunUnpacksSpec)

/-- ITS FALSE NEIGHBOUR: 'it returns false'. Refute it at one input. -/
def zrunUnpacksWrong : ChangeSpec := { name := "zrunUnpacks", fn := fun _ => fun
  | [d1, d2] => { results := [.lit (.bool false)], args := [d1, d2] }
  | _ => none }
def ZrunUnpacksWrongFalsely : Prop := zrunUnpacksRow.holds Try.pinned (OpenSpec.ofChange zrunUnpacksWrong)

/-- 'varvelaw07.ZrunBack': WHATEVER THE INPUT: true; the input reads as it did. -/
def zrunBackSpec : ChangeSpec := { name := "zrunBack", fn := fun _ => fun
  | [d1, d2] => { results := [.lit (.bool true)], args := [d1, d2] }
  | _ => none }
def zrunBackRow : OpenClaim := { program := "ytjapdfehkoijjaa", sum := "958f4017981f39ac3fe41a05d931a6b45dc73d106d9b92ba6ef3d4225792be39", func := "varve/varvelaw07.ZrunBack", spec := "zrunBack", unfollowed := true, recurses := true, apart := false }
def ZrunBackSaid : Prop := zrunBackRow.holds Try.pinned (OpenSpec.ofChange zrunBackSpec)

/-- ITS FALSE NEIGHBOUR: 'it returns false'. Refute it at one input. -/
def zrunBackWrong : ChangeSpec := { name := "zrunBack", fn := fun _ => fun
  | [d1, d2] => { results := [.lit (.bool false)], args := [d1, d2] }
  | _ => none }
def ZrunBackWrongFalsely : Prop := zrunBackRow.holds Try.pinned (OpenSpec.ofChange zrunBackWrong)

/-- 'varvelaw07.ZrunForms': WHATEVER THE INPUT: true; the input reads as it did. -/
def zrunFormsSpec : ChangeSpec := { name := "zrunForms", fn := fun _ => fun
  | [d] => { results := [.lit (.bool true)], args := [d] }
  | _ => none }
def zrunFormsRow : OpenClaim := { program := "ytjapdfehkoijjaa", sum := "958f4017981f39ac3fe41a05d931a6b45dc73d106d9b92ba6ef3d4225792be39", func := "varve/varvelaw07.ZrunForms", spec := "zrunForms", unfollowed := true, recurses := true, apart := false }
def ZrunFormsSaid : Prop := zrunFormsRow.holds Try.pinned (OpenSpec.ofChange zrunFormsSpec)

/-- ITS FALSE NEIGHBOUR: 'it returns false'. Refute it at one input. -/
def zrunFormsWrong : ChangeSpec := { name := "zrunForms", fn := fun _ => fun
  | [d] => { results := [.lit (.bool false)], args := [d] }
  | _ => none }
def ZrunFormsWrongFalsely : Prop := zrunFormsRow.holds Try.pinned (OpenSpec.ofChange zrunFormsWrong)

/- THE SECOND FORM. 'bulk': how many values and letters a reading holds, each counted each time it is reached (what is shared counts as often as it is met; a slice's spare places count too). A statement '..UptoSaid' is the law's where the arguments, and the package variables that the reading takes, are together of bulk at most 1048576: NARROWER than '..Said'. Prove '..Said' where nothing that the law and all that it calls make is longer than what came in: it says more and counts as full. Else prove '..UptoSaid'. A law counts once. -/
mutual
def uptoBulk {H : Type} : DataW H → Nat
  | .lit (.string bytes) => bytes.length + 1
  | .lit _ => 1
  | .nil => 1
  | .ptr d => uptoBulk d + 1
  | .slice elems spare => uptoBulkAll elems + uptoBulkAll spare + 1
  | .agg parts => uptoBulkAll parts + 1
  | .iface _ d => uptoBulk d + 1
  | .map entries => uptoBulkEntries entries + 1
  | .held _ => 1
def uptoBulkAll {H : Type} : List (DataW H) → Nat
  | [] => 0
  | d :: r => uptoBulk d + uptoBulkAll r
def uptoBulkEntries {H : Type} : List (Lit × DataW H) → Nat
  | [] => 0
  | x :: r => uptoBulkEntry x + uptoBulkEntries r
def uptoBulkEntry {H : Type} : Lit × DataW H → Nat
  | (.string bytes, d) => bytes.length + uptoBulk d + 1
  | (_, d) => uptoBulk d + 1
 end
def uptoSmall : (H : Type) → List (DataW H) → Bool := fun _ ds => decide (uptoBulkAll ds ≤ 1048576)
def OpenSpec.upto (s : _root_.Go.ChangeSpec) : _root_.Go.OpenSpec := { _root_.Go.OpenSpec.ofChange s with cond := some uptoSmall }

/-- 'varvelaw18.NameLooks', WHERE WHAT IT READS IS OF BULK AT MOST 1048576: true; the input reads as it did. -/
def nameLooksUptoRow : OpenClaim := { program := "ytjapdfehkoijjaa", sum := "958f4017981f39ac3fe41a05d931a6b45dc73d106d9b92ba6ef3d4225792be39", func := "varve/varvelaw18.NameLooks", spec := "nameLooks", apart := false, narrowed := true }
def NameLooksUptoSaid : Prop := nameLooksUptoRow.holds Try.pinned (OpenSpec.upto nameLooksSpec)

/-- 'varvelaw18.NameBack', WHERE WHAT IT READS IS OF BULK AT MOST 1048576: true; the input reads as it did. -/
def nameBackUptoRow : OpenClaim := { program := "ytjapdfehkoijjaa", sum := "958f4017981f39ac3fe41a05d931a6b45dc73d106d9b92ba6ef3d4225792be39", func := "varve/varvelaw18.NameBack", spec := "nameBack", apart := false, narrowed := true }
def NameBackUptoSaid : Prop := nameBackUptoRow.holds Try.pinned (OpenSpec.upto nameBackSpec)

/-- 'varvelaw18.NameOne', WHERE WHAT IT READS IS OF BULK AT MOST 1048576: true; the input reads as it did. -/
def nameOneUptoRow : OpenClaim := { program := "ytjapdfehkoijjaa", sum := "958f4017981f39ac3fe41a05d931a6b45dc73d106d9b92ba6ef3d4225792be39", func := "varve/varvelaw18.NameOne", spec := "nameOne", apart := false, narrowed := true }
def NameOneUptoSaid : Prop := nameOneUptoRow.holds Try.pinned (OpenSpec.upto nameOneSpec)

/-- 'varvelaw07.ZrunPacks', WHERE WHAT IT READS IS OF BULK AT MOST 1048576: true; the input reads as it did. -/
def zrunPacksUptoRow : OpenClaim := { program := "ytjapdfehkoijjaa", sum := "958f4017981f39ac3fe41a05d931a6b45dc73d106d9b92ba6ef3d4225792be39", func := "varve/varvelaw07.ZrunPacks", spec := "zrunPacks", unfollowed := true, recurses := true, apart := false, narrowed := true }
def ZrunPacksUptoSaid : Prop := zrunPacksUptoRow.holds Try.pinned (OpenSpec.upto zrunPacksSpec)

/-- 'varvelaw07.ZrunUnpacks', WHERE WHAT IT READS IS OF BULK AT MOST 1048576: true; the input reads as it did. -/
def zrunUnpacksUptoRow : OpenClaim := { program := "ytjapdfehkoijjaa", sum := "958f4017981f39ac3fe41a05d931a6b45dc73d106d9b92ba6ef3d4225792be39", func := "varve/varvelaw07.ZrunUnpacks", spec := "zrunUnpacks", unfollowed := true, recurses := true, apart := false, narrowed := true }
def ZrunUnpacksUptoSaid : Prop := zrunUnpacksUptoRow.holds Try.pinned (OpenSpec.upto zrunUnpacksSpec)

/-- 'varvelaw07.ZrunBack', WHERE WHAT IT READS IS OF BULK AT MOST 1048576: true; the input reads as it did. -/
def zrunBackUptoRow : OpenClaim := { program := "ytjapdfehkoijjaa", sum := "958f4017981f39ac3fe41a05d931a6b45dc73d106d9b92ba6ef3d4225792be39", func := "varve/varvelaw07.ZrunBack", spec := "zrunBack", unfollowed := true, recurses := true, apart := false, narrowed := true }
def ZrunBackUptoSaid : Prop := zrunBackUptoRow.holds Try.pinned (OpenSpec.upto zrunBackSpec)

/-- 'varvelaw07.ZrunForms', WHERE WHAT IT READS IS OF BULK AT MOST 1048576: true; the input reads as it did. -/
def zrunFormsUptoRow : OpenClaim := { program := "ytjapdfehkoijjaa", sum := "958f4017981f39ac3fe41a05d931a6b45dc73d106d9b92ba6ef3d4225792be39", func := "varve/varvelaw07.ZrunForms", spec := "zrunForms", unfollowed := true, recurses := true, apart := false, narrowed := true }
def ZrunFormsUptoSaid : Prop := zrunFormsUptoRow.holds Try.pinned (OpenSpec.upto zrunFormsSpec)

end Rows
end Go.Proofs.Ytjapdfehkoijjaa
