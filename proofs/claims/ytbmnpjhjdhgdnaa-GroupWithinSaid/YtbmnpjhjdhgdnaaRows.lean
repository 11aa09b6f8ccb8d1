/-
  No cell of these rows narrows 'for every input' (looked for: loops, veiled, ifaces, maps, wideKeys, modest, calm, conditions, laid).
  DERIVED. THE GIVEN ROWS OF THIS SEAT. 3 by the template 'for every input the law returns true; each argument reads behind the call as it read before'; 0 by the template 'total and deterministic' (their statements: YtbmnpjhjdhgdnaaTotals.lean).
  GIVEN WITH THE SEED: the statements are not yours to turn. If you find one false, say at which input.
  Laid BY PROGRAM, IN A SANDBOX (cutbox-rows.mjs): the forced cells as the released guide's own fill.sh prints them over the translation 8715ca399d1d70cd… (all of the seat's roots in one cut). By AI agents, Wed Nov 11 2026. No macro, syntax, notation, axiom, sorry.
-/
import Derived.Test.YtbmnpjhjdhgdnaaChecked
import GoSem.Claim
import GoSem.ClaimJoined
import GoSem.ClaimMapViews
import Derived.JoinedTies
import Derived.KernelRfl
namespace Go.Proofs.Ytbmnpjhjdhgdnaa
/- THE CELL 'sum', in the pinned program and in every row, IS THE sha256 OF THE DUMP (.gsa) THAT YtbmnpjhjdhgdnaaProg.lean LOADS. Nothing in Lean hashes anything: it is a label: what it is worth is what the hold of that sum in a sandbox is worth. -/
noncomputable def Try.pinned : Pinned := { name := "ytbmnpjhjdhgdnaa", sum := "8715ca399d1d70cd3f44ab76d3bc34ab3bc5658a8b9a6fed4999c7a4ef42e647", checked := Try.checked }
namespace Rows
def none {H : Type} : Left H := { results := [], args := [] }

/-- 'carryalllaw06.GroupWithin': WHATEVER THE INPUT: true; the input reads as it did. -/
def groupWithinSpec : ChangeSpec := { name := "groupWithin", fn := fun _ => fun
  | [d] => { results := [.lit (.bool true)], args := [d] }
  | _ => none }
def groupWithinRow : OpenClaim := { program := "ytbmnpjhjdhgdnaa", sum := "8715ca399d1d70cd3f44ab76d3bc34ab3bc5658a8b9a6fed4999c7a4ef42e647", func := "carryall/carryalllaw06.GroupWithin", spec := "groupWithin", unfollowed := true, recurses := true, apart := false }
def GroupWithinSaid : Prop := groupWithinRow.holds Try.pinned (OpenSpec.ofChange groupWithinSpec)

/-- ITS FALSE NEIGHBOUR: 'it returns false'. Refute it at one input. -/
def groupWithinWrong : ChangeSpec := { name := "groupWithin", fn := fun _ => fun
  | [d] => { results := [.lit (.bool false)], args := [d] }
  | _ => none }
def GroupWithinWrongFalsely : Prop := groupWithinRow.holds Try.pinned (OpenSpec.ofChange groupWithinWrong)

/-- 'carryalllaw06.GroupTells': WHATEVER THE INPUT: true; the input reads as it did. -/
def groupTellsSpec : ChangeSpec := { name := "groupTells", fn := fun _ => fun
  | [d1, d2] => { results := [.lit (.bool true)], args := [d1, d2] }
  | _ => none }
def groupTellsRow : OpenClaim := { program := "ytbmnpjhjdhgdnaa", sum := "8715ca399d1d70cd3f44ab76d3bc34ab3bc5658a8b9a6fed4999c7a4ef42e647", func := "carryall/carryalllaw06.GroupTells", spec := "groupTells", recurses := true, apart := false }
def GroupTellsSaid : Prop := groupTellsRow.holds Try.pinned (OpenSpec.ofChange groupTellsSpec)

/-- ITS FALSE NEIGHBOUR: 'it returns false'. Refute it at one input. -/
def groupTellsWrong : ChangeSpec := { name := "groupTells", fn := fun _ => fun
  | [d1, d2] => { results := [.lit (.bool false)], args := [d1, d2] }
  | _ => none }
def GroupTellsWrongFalsely : Prop := groupTellsRow.holds Try.pinned (OpenSpec.ofChange groupTellsWrong)

/-- 'carryalllaw06.GroupParams': WHATEVER THE INPUT: true; the input reads as it did. -/
def groupParamsSpec : ChangeSpec := { name := "groupParams", fn := fun _ => fun
  | [d1, d2] => { results := [.lit (.bool true)], args := [d1, d2] }
  | _ => none }
def groupParamsRow : OpenClaim := { program := "ytbmnpjhjdhgdnaa", sum := "8715ca399d1d70cd3f44ab76d3bc34ab3bc5658a8b9a6fed4999c7a4ef42e647", func := "carryall/carryalllaw06.GroupParams", spec := "groupParams", recurses := true, apart := false }
def GroupParamsSaid : Prop := groupParamsRow.holds Try.pinned (OpenSpec.ofChange groupParamsSpec)

/-- ITS FALSE NEIGHBOUR: 'it returns false'. Refute it at one input. -/
def groupParamsWrong : ChangeSpec := { name := "groupParams", fn := fun _ => fun
  | [d1, d2] => { results := [.lit (.bool false)], args := [d1, d2] }
  | _ => none }
def GroupParamsWrongFalsely : Prop := groupParamsRow.holds Try.pinned (OpenSpec.ofChange groupParamsWrong)

/- THE SECOND FORM. 'bulk': how many values and letters a reading holds, each counted each time it is reached (what is shared counts as often as it is met; a slice's spare places count too). A statement '..UptoSaid' is the law's where the arguments, and the package variables that the reading takes, are together of bulk at most 1048576: NARROWER than '..Said'. Prove '..Said' where nothing that the law and all that it calls make is longer than what came in: it says more and counts as full. Else prove '..UptoSaid'. A law counts once. -/
mutual
def uptoBulk {H : Type} : DataW H → Nat
  | .lit (.string bytes) => bytes.length + 1
  | .lit _ => 1
  | .nil => 1
  | .ptr d => uptoBulk d + 1
  | .slice elems spare => uptoBulkAll elems + uptoBulkAll spare + 1
  | .agg parts => uptoBulkAll parts + 1
  | .iface _ d => uptoBulk d + 1
  | .map entries => uptoBulkEntries entries + 1
  | .held _ => 1
def uptoBulkAll {H : Type} : List (DataW H) → Nat
  | [] => 0
  | d :: r => uptoBulk d + uptoBulkAll r
def uptoBulkEntries {H : Type} : List (Lit × DataW H) → Nat
  | [] => 0
  | x :: r => uptoBulkEntry x + uptoBulkEntries r
def uptoBulkEntry {H : Type} : Lit × DataW H → Nat
  | (.string bytes, d) => bytes.length + uptoBulk d + 1
  | (_, d) => uptoBulk d + 1
 end
def uptoSmall : (H : Type) → List (DataW H) → Bool := fun _ ds => decide (uptoBulkAll ds ≤ 1048576)
def OpenSpec.upto (s : _root_.Go.ChangeSpec) : _root_.Go.OpenSpec := { _root_.Go.OpenSpec.ofChange s with cond := some uptoSmall }

/-- 'carryalllaw06.GroupWithin', WHERE WHAT IT READS IS OF BULK AT MOST 1048576: true; the input reads as it did. -/
def groupWithinUptoRow : OpenClaim := { program := "ytbmnpjhjdhgdnaa", sum := "8715ca399d1d70cd3f44ab76d3bc34ab3bc5658a8b9a6fed4999c7a4ef42e647", func := "carryall/carryalllaw06.GroupWithin", spec := "groupWithin", unfollowed := true, recurses := true, apart := false, narrowed := true }
def GroupWithinUptoSaid : Prop := groupWithinUptoRow.holds Try.pinned (OpenSpec.upto groupWithinSpec)

/-- 'carryalllaw06.GroupTells', WHERE WHAT IT READS IS OF BULK AT MOST 1048576: true; the input reads as it did. -/
def groupTellsUptoRow : OpenClaim := { program := "ytbmnpjhjdhgdnaa", sum := "8715ca399d1d70cd3f44ab76d3bc34ab3bc5658a8b9a6fed4999c7a4ef42e647", func := "carryall/carryalllaw06.GroupTells", spec := "groupTells", recurses := true, apart := false, narrowed := true }
def GroupTellsUptoSaid : Prop := groupTellsUptoRow.holds Try.pinned (OpenSpec.upto groupTellsSpec)

/-- 'carryalllaw06.GroupParams', WHERE WHAT IT READS IS OF BULK AT MOST 1048576: true; the input reads as it did. -/
def groupParamsUptoRow : OpenClaim := { program := "ytbmnpjhjdhgdnaa", sum := "8715ca399d1d70cd3f44ab76d3bc34ab3bc5658a8b9a6fed4999c7a4ef42e647", func := "carryall/carryalllaw06.GroupParams", spec := "groupParams", recurses := true, apart := false, narrowed := true }
def GroupParamsUptoSaid : Prop := groupParamsUptoRow.holds Try.pinned (OpenSpec.upto groupParamsSpec)

end Rows
end Go.Proofs.Ytbmnpjhjdhgdnaa
