/-
  No cell of these rows narrows 'for every input' (looked for: loops, veiled, ifaces, maps, wideKeys, modest, calm, conditions, laid).
  DERIVED. THE GIVEN ROWS OF THIS SEAT. 5 by the template 'for every input the law returns true; each argument reads behind the call as it read before'; 0 by the template 'total and deterministic' (their statements: YtmfhkgfgphdliaaTotals.lean).
  GIVEN WITH THE SEED: the statements are not yours to turn. If you find one false, say at which input.
  Laid BY PROGRAM, IN A SANDBOX (cutbox-rows.mjs): the forced cells as the released guide's own fill.sh prints them over the translation e6bf1eb31aa38d02… (all of the seat's roots in one cut). By AI agents, Wed Nov 11 2026. No macro, syntax, notation, axiom, sorry.
-/
import Derived.Test.YtmfhkgfgphdliaaChecked
import GoSem.Claim
import GoSem.ClaimJoined
import GoSem.ClaimMapViews
import Derived.JoinedTies
import Derived.KernelRfl
namespace Go.Proofs.Ytmfhkgfgphdliaa
/- THE CELL 'sum', in the pinned program and in every row, IS THE sha256 OF THE DUMP (.gsa) THAT YtmfhkgfgphdliaaProg.lean LOADS. Nothing in Lean hashes anything: it is a label: what it is worth is what the hold of that sum in a sandbox is worth. -/
noncomputable def Try.pinned : Pinned := { name := "ytmfhkgfgphdliaa", sum := "e6bf1eb31aa38d02a6226c0a28ec2ce09e7d7a03ba06c403fee8c371af6601ac", checked := Try.checked }
namespace Rows
def none {H : Type} : Left H := { results := [], args := [] }

/-- 'carryalllaw19.BlobStays': WHATEVER THE INPUT: true; the input reads as it did. -/
def blobStaysSpec : ChangeSpec := { name := "blobStays", fn := fun _ => fun
  | [d] => { results := [.lit (.bool true)], args := [d] }
  | _ => none }
def blobStaysRow : OpenClaim := { program := "ytmfhkgfgphdliaa", sum := "e6bf1eb31aa38d02a6226c0a28ec2ce09e7d7a03ba06c403fee8c371af6601ac", func := "carryall/carryalllaw19.BlobStays", spec := "blobStays", apart := false }
def BlobStaysSaid : Prop := blobStaysRow.holds Try.pinned (OpenSpec.ofChange blobStaysSpec)

/-- ITS FALSE NEIGHBOUR: 'it returns false'. Refute it at one input. -/
def blobStaysWrong : ChangeSpec := { name := "blobStays", fn := fun _ => fun
  | [d] => { results := [.lit (.bool false)], args := [d] }
  | _ => none }
def BlobStaysWrongFalsely : Prop := blobStaysRow.holds Try.pinned (OpenSpec.ofChange blobStaysWrong)

/-- 'carryalllaw19.BlobParts': WHATEVER THE INPUT: true; the input reads as it did. -/
def blobPartsSpec : ChangeSpec := { name := "blobParts", fn := fun _ => fun
  | [d1, d2] => { results := [.lit (.bool true)], args := [d1, d2] }
  | _ => none }
def blobPartsRow : OpenClaim := { program := "ytmfhkgfgphdliaa", sum := "e6bf1eb31aa38d02a6226c0a28ec2ce09e7d7a03ba06c403fee8c371af6601ac", func := "carryall/carryalllaw19.BlobParts", spec := "blobParts", apart := false }
def BlobPartsSaid : Prop := blobPartsRow.holds Try.pinned (OpenSpec.ofChange blobPartsSpec)

/-- ITS FALSE NEIGHBOUR: 'it returns false'. Refute it at one input. -/
def blobPartsWrong : ChangeSpec := { name := "blobParts", fn := fun _ => fun
  | [d1, d2] => { results := [.lit (.bool false)], args := [d1, d2] }
  | _ => none }
def BlobPartsWrongFalsely : Prop := blobPartsRow.holds Try.pinned (OpenSpec.ofChange blobPartsWrong)

/-- 'carryalllaw19.BlobTwice': WHATEVER THE INPUT: true; the input reads as it did. -/
def blobTwiceSpec : ChangeSpec := { name := "blobTwice", fn := fun _ => fun
  | [d1, d2, d3, d4, d5] => { results := [.lit (.bool true)], args := [d1, d2, d3, d4, d5] }
  | _ => none }
def blobTwiceRow : OpenClaim := { program := "ytmfhkgfgphdliaa", sum := "e6bf1eb31aa38d02a6226c0a28ec2ce09e7d7a03ba06c403fee8c371af6601ac", func := "carryall/carryalllaw19.BlobTwice", spec := "blobTwice", apart := false }
def BlobTwiceSaid : Prop := blobTwiceRow.holds Try.pinned (OpenSpec.ofChange blobTwiceSpec)

/-- ITS FALSE NEIGHBOUR: 'it returns false'. Refute it at one input. -/
def blobTwiceWrong : ChangeSpec := { name := "blobTwice", fn := fun _ => fun
  | [d1, d2, d3, d4, d5] => { results := [.lit (.bool false)], args := [d1, d2, d3, d4, d5] }
  | _ => none }
def BlobTwiceWrongFalsely : Prop := blobTwiceRow.holds Try.pinned (OpenSpec.ofChange blobTwiceWrong)

/-- 'carryalllaw19.BlobSlices': WHATEVER THE INPUT: true; the input reads as it did. -/
def blobSlicesSpec : ChangeSpec := { name := "blobSlices", fn := fun _ => fun
  | [d1, d2, d3, d4, d5, d6, d7] => { results := [.lit (.bool true)], args := [d1, d2, d3, d4, d5, d6, d7] }
  | _ => none }
def blobSlicesRow : OpenClaim := { program := "ytmfhkgfgphdliaa", sum := "e6bf1eb31aa38d02a6226c0a28ec2ce09e7d7a03ba06c403fee8c371af6601ac", func := "carryall/carryalllaw19.BlobSlices", spec := "blobSlices", apart := false }
def BlobSlicesSaid : Prop := blobSlicesRow.holds Try.pinned (OpenSpec.ofChange blobSlicesSpec)

/-- ITS FALSE NEIGHBOUR: 'it returns false'. Refute it at one input. -/
def blobSlicesWrong : ChangeSpec := { name := "blobSlices", fn := fun _ => fun
  | [d1, d2, d3, d4, d5, d6, d7] => { results := [.lit (.bool false)], args := [d1, d2, d3, d4, d5, d6, d7] }
  | _ => none }
def BlobSlicesWrongFalsely : Prop := blobSlicesRow.holds Try.pinned (OpenSpec.ofChange blobSlicesWrong)

/-- 'carryalllaw19.BlobNil': WHATEVER THE INPUT: true; the input reads as it did. -/
def blobNilSpec : ChangeSpec := { name := "blobNil", fn := fun _ => fun
  | [d] => { results := [.lit (.bool true)], args := [d] }
  | _ => none }
def blobNilRow : OpenClaim := { program := "ytmfhkgfgphdliaa", sum := "e6bf1eb31aa38d02a6226c0a28ec2ce09e7d7a03ba06c403fee8c371af6601ac", func := "carryall/carryalllaw19.BlobNil", spec := "blobNil", apart := false }
def BlobNilSaid : Prop := blobNilRow.holds Try.pinned (OpenSpec.ofChange blobNilSpec)

/-- ITS FALSE NEIGHBOUR: 'it returns false'. Refute it at one input. -/
def blobNilWrong : ChangeSpec := { name := "blobNil", fn := fun _ => fun
  | [d] => { results := [.lit (.bool false)], args := [d] }
  | _ => none }
def BlobNilWrongFalsely : Prop := blobNilRow.holds Try.pinned (OpenSpec.ofChange blobNilWrong)

/- THE SECOND FORM. 'bulk': how many values and letters a reading holds, each counted each time it is reached (what is shared counts as often as it is met; a slice's spare places count too). A statement '..UptoSaid' is the law's where the arguments, and the package variables that the reading takes, are together of bulk at most 1048576: NARROWER than '..Said'. Prove '..Said' where nothing that the law and all that it calls make is longer than what came in: it says more and counts as full. Else prove '..UptoSaid'. A law counts once. -/
mutual
def uptoBulk {H : Type} : DataW H → Nat
  | .lit (.string bytes) => bytes.length + 1
  | .lit _ => 1
  | .nil => 1
  | .ptr d => uptoBulk d + 1
  | .slice elems spare => uptoBulkAll elems + uptoBulkAll spare + 1
  | .agg parts => uptoBulkAll parts + 1
  | .iface _ d => uptoBulk d + 1
  | .map entries => uptoBulkEntries entries + 1
  | .held _ => 1
def uptoBulkAll {H : Type} : List (DataW H) → Nat
  | [] => 0
  | d :: r => uptoBulk d + uptoBulkAll r
def uptoBulkEntries {H : Type} : List (Lit × DataW H) → Nat
  | [] => 0
  | x :: r => uptoBulkEntry x + uptoBulkEntries r
def uptoBulkEntry {H : Type} : Lit × DataW H → Nat
  | (.string bytes, d) => bytes.length + uptoBulk d + 1
  | (_, d) => uptoBulk d + 1
 end
def uptoSmall : (H : Type) → List (DataW H) → Bool := fun _ ds => decide (uptoBulkAll ds ≤ 1048576)
def OpenSpec.upto (s : _root_.Go.ChangeSpec) : _root_.Go.OpenSpec := { _root_.Go.OpenSpec.ofChange s with cond := some uptoSmall }

/-- 'carryalllaw19.BlobStays', WHERE WHAT IT READS IS OF BULK AT MOST 1048576: true; the input reads as it did. -/
def blobStaysUptoRow : OpenClaim := { program := "ytmfhkgfgphdliaa", sum := "e6bf1eb31aa38d02a6226c0a28ec2ce09e7d7a03ba06c403fee8c371af6601ac", func := "carryall/carryalllaw19.BlobStays", spec := "blobStays", apart := false, narrowed := true }
def BlobStaysUptoSaid : Prop := blobStaysUptoRow.holds Try.pinned (OpenSpec.upto blobStaysSpec)

/-- 'carryalllaw19.BlobParts', WHERE WHAT IT READS IS OF BULK AT MOST 1048576: true; the input reads as it did. -/
def blobPartsUptoRow : OpenClaim := { program := "ytmfhkgfgphdliaa", sum := "e6bf1eb31aa38d02a6226c0a28ec2ce09e7d7a03ba06c403fee8c371af6601ac", func := "carryall/carryalllaw19.BlobParts", spec := "blobParts", apart := false, narrowed := true }
def BlobPartsUptoSaid : Prop := blobPartsUptoRow.holds Try.pinned (OpenSpec.upto blobPartsSpec)

/-- 'carryalllaw19.BlobTwice', WHERE WHAT IT READS IS OF BULK AT MOST 1048576: true; the input reads as it did. -/
def blobTwiceUptoRow : OpenClaim := { program := "ytmfhkgfgphdliaa", sum := "e6bf1eb31aa38d02a6226c0a28ec2ce09e7d7a03ba06c403fee8c371af6601ac", func := "carryall/carryalllaw19.BlobTwice", spec := "blobTwice", apart := false, narrowed := true }
def BlobTwiceUptoSaid : Prop := blobTwiceUptoRow.holds Try.pinned (OpenSpec.upto blobTwiceSpec)

/-- 'carryalllaw19.BlobSlices', WHERE WHAT IT READS IS OF BULK AT MOST 1048576: true; the input reads as it did. -/
def blobSlicesUptoRow : OpenClaim := { program := "ytmfhkgfgphdliaa", sum := "e6bf1eb31aa38d02a6226c0a28ec2ce09e7d7a03ba06c403fee8c371af6601ac", func := "carryall/carryalllaw19.BlobSlices", spec := "blobSlices", apart := false, narrowed := true }
def BlobSlicesUptoSaid : Prop := blobSlicesUptoRow.holds Try.pinned (OpenSpec.upto blobSlicesSpec)

/-- 'carryalllaw19.BlobNil', WHERE WHAT IT READS IS OF BULK AT MOST 1048576: true; the input reads as it did. -/
def blobNilUptoRow : OpenClaim := { program := "ytmfhkgfgphdliaa", sum := "e6bf1eb31aa38d02a6226c0a28ec2ce09e7d7a03ba06c403fee8c371af6601ac", func := "carryall/carryalllaw19.BlobNil", spec := "blobNil", apart := false, narrowed := true }
def BlobNilUptoSaid : Prop := blobNilUptoRow.holds Try.pinned (OpenSpec.upto blobNilSpec)

end Rows
end Go.Proofs.Ytmfhkgfgphdliaa
