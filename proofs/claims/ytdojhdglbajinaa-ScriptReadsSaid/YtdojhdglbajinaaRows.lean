/-
  No cell of these rows narrows 'for every input' (looked for: loops, veiled, ifaces, maps, wideKeys, modest, calm, conditions, laid).
  DERIVED. THE GIVEN ROWS OF THIS SEAT. 9 by the template 'for every input the law returns true; each argument reads behind the call as it read before'; 0 by the template 'total and deterministic' (their statements: YtdojhdglbajinaaTotals.lean).
  GIVEN WITH THE SEED: the statements are not yours to turn. If you find one false, say at which input.
  Laid BY PROGRAM, IN A SANDBOX (cutbox-rows.mjs): the forced cells as the released guide's own fill.sh prints them over the translation af7138d32395539f… (all of the seat's roots in one cut). By AI agents, Wed Nov 11 2026. No macro, syntax, notation, axiom, sorry.
-/
import Derived.Test.YtdojhdglbajinaaChecked
import GoSem.Claim
import GoSem.ClaimJoined
import GoSem.ClaimMapViews
import Derived.JoinedTies
import Derived.KernelRfl
namespace Go.Proofs.Ytdojhdglbajinaa
/- THE CELL 'sum', in the pinned program and in every row, IS THE sha256 OF THE DUMP (.gsa) THAT YtdojhdglbajinaaProg.lean LOADS. Nothing in Lean hashes anything: it is a label: what it is worth is what the hold of that sum in a sandbox is worth. -/
noncomputable def Try.pinned : Pinned := { name := "ytdojhdglbajinaa", sum := "af7138d32395539fce88d9e52fad698e620e6dea1a002e1fc98c6b0270cfe4ef", checked := Try.checked }
namespace Rows
def none {H : Type} : Left H := { results := [], args := [] }

/-- 'carryalllaw25.AnswerWrites': WHATEVER THE INPUT: true; the input reads as it did. -/
def answerWritesSpec : ChangeSpec := { name := "answerWrites", fn := fun _ => fun
  | [d] => { results := [.lit (.bool true)], args := [d] }
  | _ => none }
def answerWritesRow : OpenClaim := { program := "ytdojhdglbajinaa", sum := "af7138d32395539fce88d9e52fad698e620e6dea1a002e1fc98c6b0270cfe4ef", func := "carryall/carryalllaw25.AnswerWrites", spec := "answerWrites", apart := false }
def AnswerWritesSaid : Prop := answerWritesRow.holds Try.pinned (OpenSpec.ofChange answerWritesSpec)

/-- ITS FALSE NEIGHBOUR: 'it returns false'. Refute it at one input. -/
def answerWritesWrong : ChangeSpec := { name := "answerWrites", fn := fun _ => fun
  | [d] => { results := [.lit (.bool false)], args := [d] }
  | _ => none }
def AnswerWritesWrongFalsely : Prop := answerWritesRow.holds Try.pinned (OpenSpec.ofChange answerWritesWrong)

/-- 'carryalllaw25.AnswerReads': WHATEVER THE INPUT: true; the input reads as it did. -/
def answerReadsSpec : ChangeSpec := { name := "answerReads", fn := fun _ => fun
  | [d] => { results := [.lit (.bool true)], args := [d] }
  | _ => none }
def answerReadsRow : OpenClaim := { program := "ytdojhdglbajinaa", sum := "af7138d32395539fce88d9e52fad698e620e6dea1a002e1fc98c6b0270cfe4ef", func := "carryall/carryalllaw25.AnswerReads", spec := "answerReads", apart := false }
def AnswerReadsSaid : Prop := answerReadsRow.holds Try.pinned (OpenSpec.ofChange answerReadsSpec)

/-- ITS FALSE NEIGHBOUR: 'it returns false'. Refute it at one input. -/
def answerReadsWrong : ChangeSpec := { name := "answerReads", fn := fun _ => fun
  | [d] => { results := [.lit (.bool false)], args := [d] }
  | _ => none }
def AnswerReadsWrongFalsely : Prop := answerReadsRow.holds Try.pinned (OpenSpec.ofChange answerReadsWrong)

/-- 'carryalllaw25.AnswerTakes': WHATEVER THE INPUT: true; the input reads as it did. -/
def answerTakesSpec : ChangeSpec := { name := "answerTakes", fn := fun _ => fun
  | [d1, d2] => { results := [.lit (.bool true)], args := [d1, d2] }
  | _ => none }
def answerTakesRow : OpenClaim := { program := "ytdojhdglbajinaa", sum := "af7138d32395539fce88d9e52fad698e620e6dea1a002e1fc98c6b0270cfe4ef", func := "carryall/carryalllaw25.AnswerTakes", spec := "answerTakes", apart := false }
def AnswerTakesSaid : Prop := answerTakesRow.holds Try.pinned (OpenSpec.ofChange answerTakesSpec)

/-- ITS FALSE NEIGHBOUR: 'it returns false'. Refute it at one input. -/
def answerTakesWrong : ChangeSpec := { name := "answerTakes", fn := fun _ => fun
  | [d1, d2] => { results := [.lit (.bool false)], args := [d1, d2] }
  | _ => none }
def AnswerTakesWrongFalsely : Prop := answerTakesRow.holds Try.pinned (OpenSpec.ofChange answerTakesWrong)

/-- 'carryalllaw25.AnswerPuts': WHATEVER THE INPUT: true; the input reads as it did. -/
def answerPutsSpec : ChangeSpec := { name := "answerPuts", fn := fun _ => fun
  | [d1, d2, d3] => { results := [.lit (.bool true)], args := [d1, d2, d3] }
  | _ => none }
def answerPutsRow : OpenClaim := { program := "ytdojhdglbajinaa", sum := "af7138d32395539fce88d9e52fad698e620e6dea1a002e1fc98c6b0270cfe4ef", func := "carryall/carryalllaw25.AnswerPuts", spec := "answerPuts", apart := false }
def AnswerPutsSaid : Prop := answerPutsRow.holds Try.pinned (OpenSpec.ofChange answerPutsSpec)

/-- ITS FALSE NEIGHBOUR: 'it returns false'. Refute it at one input. -/
def answerPutsWrong : ChangeSpec := { name := "answerPuts", fn := fun _ => fun
  | [d1, d2, d3] => { results := [.lit (.bool false)], args := [d1, d2, d3] }
  | _ => none }
def AnswerPutsWrongFalsely : Prop := answerPutsRow.holds Try.pinned (OpenSpec.ofChange answerPutsWrong)

/-- 'carryalllaw25.AnswerCuts': WHATEVER THE INPUT: true; the input reads as it did. -/
def answerCutsSpec : ChangeSpec := { name := "answerCuts", fn := fun _ => fun
  | [d1, d2, d3] => { results := [.lit (.bool true)], args := [d1, d2, d3] }
  | _ => none }
def answerCutsRow : OpenClaim := { program := "ytdojhdglbajinaa", sum := "af7138d32395539fce88d9e52fad698e620e6dea1a002e1fc98c6b0270cfe4ef", func := "carryall/carryalllaw25.AnswerCuts", spec := "answerCuts", apart := false }
def AnswerCutsSaid : Prop := answerCutsRow.holds Try.pinned (OpenSpec.ofChange answerCutsSpec)

/-- ITS FALSE NEIGHBOUR: 'it returns false'. Refute it at one input. -/
def answerCutsWrong : ChangeSpec := { name := "answerCuts", fn := fun _ => fun
  | [d1, d2, d3] => { results := [.lit (.bool false)], args := [d1, d2, d3] }
  | _ => none }
def AnswerCutsWrongFalsely : Prop := answerCutsRow.holds Try.pinned (OpenSpec.ofChange answerCutsWrong)

/-- 'carryalllaw28.ScriptParts': WHATEVER THE INPUT: true; the input reads as it did. -/
def scriptPartsSpec : ChangeSpec := { name := "scriptParts", fn := fun _ => fun
  | [d1, d2] => { results := [.lit (.bool true)], args := [d1, d2] }
  | _ => none }
def scriptPartsRow : OpenClaim := { program := "ytdojhdglbajinaa", sum := "af7138d32395539fce88d9e52fad698e620e6dea1a002e1fc98c6b0270cfe4ef", func := "carryall/carryalllaw28.ScriptParts", spec := "scriptParts", apart := false }
def ScriptPartsSaid : Prop := scriptPartsRow.holds Try.pinned (OpenSpec.ofChange scriptPartsSpec)

/-- ITS FALSE NEIGHBOUR: 'it returns false'. Refute it at one input. -/
def scriptPartsWrong : ChangeSpec := { name := "scriptParts", fn := fun _ => fun
  | [d1, d2] => { results := [.lit (.bool false)], args := [d1, d2] }
  | _ => none }
def ScriptPartsWrongFalsely : Prop := scriptPartsRow.holds Try.pinned (OpenSpec.ofChange scriptPartsWrong)

/-- 'carryalllaw28.ScriptResults': WHATEVER THE INPUT: true; the input reads as it did. -/
def scriptResultsSpec : ChangeSpec := { name := "scriptResults", fn := fun _ => fun
  | [d] => { results := [.lit (.bool true)], args := [d] }
  | _ => none }
def scriptResultsRow : OpenClaim := { program := "ytdojhdglbajinaa", sum := "af7138d32395539fce88d9e52fad698e620e6dea1a002e1fc98c6b0270cfe4ef", func := "carryall/carryalllaw28.ScriptResults", spec := "scriptResults", apart := false }
def ScriptResultsSaid : Prop := scriptResultsRow.holds Try.pinned (OpenSpec.ofChange scriptResultsSpec)

/-- ITS FALSE NEIGHBOUR: 'it returns false'. Refute it at one input. -/
def scriptResultsWrong : ChangeSpec := { name := "scriptResults", fn := fun _ => fun
  | [d] => { results := [.lit (.bool false)], args := [d] }
  | _ => none }
def ScriptResultsWrongFalsely : Prop := scriptResultsRow.holds Try.pinned (OpenSpec.ofChange scriptResultsWrong)

/-- 'carryalllaw28.ScriptBytes': WHATEVER THE INPUT: true; the input reads as it did. -/
def scriptBytesSpec : ChangeSpec := { name := "scriptBytes", fn := fun _ => fun
  | [d] => { results := [.lit (.bool true)], args := [d] }
  | _ => none }
def scriptBytesRow : OpenClaim := { program := "ytdojhdglbajinaa", sum := "af7138d32395539fce88d9e52fad698e620e6dea1a002e1fc98c6b0270cfe4ef", func := "carryall/carryalllaw28.ScriptBytes", spec := "scriptBytes", apart := false }
def ScriptBytesSaid : Prop := scriptBytesRow.holds Try.pinned (OpenSpec.ofChange scriptBytesSpec)

/-- ITS FALSE NEIGHBOUR: 'it returns false'. Refute it at one input. -/
def scriptBytesWrong : ChangeSpec := { name := "scriptBytes", fn := fun _ => fun
  | [d] => { results := [.lit (.bool false)], args := [d] }
  | _ => none }
def ScriptBytesWrongFalsely : Prop := scriptBytesRow.holds Try.pinned (OpenSpec.ofChange scriptBytesWrong)

/-- 'carryalllaw28.ScriptReads': WHATEVER THE INPUT: true; the input reads as it did. -/
def scriptReadsSpec : ChangeSpec := { name := "scriptReads", fn := fun _ => fun
  | [d] => { results := [.lit (.bool true)], args := [d] }
  | _ => none }
def scriptReadsRow : OpenClaim := { program := "ytdojhdglbajinaa", sum := "af7138d32395539fce88d9e52fad698e620e6dea1a002e1fc98c6b0270cfe4ef", func := "carryall/carryalllaw28.ScriptReads", spec := "scriptReads", apart := false }
def ScriptReadsSaid : Prop := scriptReadsRow.holds Try.pinned (OpenSpec.ofChange scriptReadsSpec)

/-- ITS FALSE NEIGHBOUR: 'it returns false'. Refute it at one input. -/
def scriptReadsWrong : ChangeSpec := { name := "scriptReads", fn := fun _ => fun
  | [d] => { results := [.lit (.bool false)], args := [d] }
  | _ => none }
def ScriptReadsWrongFalsely : Prop := scriptReadsRow.holds Try.pinned (OpenSpec.ofChange scriptReadsWrong)

/- THE SECOND FORM. 'bulk': how many values and letters a reading holds, each counted each time it is reached (what is shared counts as often as it is met; a slice's spare places count too). A statement '..UptoSaid' is the law's where the arguments, and the package variables that the reading takes, are together of bulk at most 1048576: NARROWER than '..Said'. Prove '..Said' where nothing that the law and all that it calls make is longer than what came in: it says more and counts as full. Else prove '..UptoSaid'. A law counts once. -/
mutual
def uptoBulk {H : Type} : DataW H → Nat
  | .lit (.string bytes) => bytes.length + 1
  | .lit _ => 1
  | .nil => 1
  | .ptr d => uptoBulk d + 1
  | .slice elems spare => uptoBulkAll elems + uptoBulkAll spare + 1
  | .agg parts => uptoBulkAll parts + 1
  | .iface _ d => uptoBulk d + 1
  | .map entries => uptoBulkEntries entries + 1
  | .held _ => 1
def uptoBulkAll {H : Type} : List (DataW H) → Nat
  | [] => 0
  | d :: r => uptoBulk d + uptoBulkAll r
def uptoBulkEntries {H : Type} : List (Lit × DataW H) → Nat
  | [] => 0
  | x :: r => uptoBulkEntry x + uptoBulkEntries r
def uptoBulkEntry {H : Type} : Lit × DataW H → Nat
  | (.string bytes, d) => bytes.length + uptoBulk d + 1
  | (_, d) => uptoBulk d + 1
 end
def uptoSmall : (H : Type) → List (DataW H) → Bool := fun _ ds => decide (uptoBulkAll ds ≤ 1048576)
def OpenSpec.upto (s : _root_.Go.ChangeSpec) : _root_.Go.OpenSpec := { _root_.Go.OpenSpec.ofChange s with cond := some uptoSmall }

/-- 'carryalllaw25.AnswerWrites', WHERE WHAT IT READS IS OF BULK AT MOST 1048576: true; the input reads as it did. -/
def answerWritesUptoRow : OpenClaim := { program := "ytdojhdglbajinaa", sum := "af7138d32395539fce88d9e52fad698e620e6dea1a002e1fc98c6b0270cfe4ef", func := "carryall/carryalllaw25.AnswerWrites", spec := "answerWrites", apart := false, narrowed := true }
def AnswerWritesUptoSaid : Prop := answerWritesUptoRow.holds Try.pinned (OpenSpec.upto answerWritesSpec)

/-- 'carryalllaw25.AnswerReads', WHERE WHAT IT READS IS OF BULK AT MOST 1048576: true; the input reads as it did. -/
def answerReadsUptoRow : OpenClaim := { program := "ytdojhdglbajinaa", sum := "af7138d32395539fce88d9e52fad698e620e6dea1a002e1fc98c6b0270cfe4ef", func := "carryall/carryalllaw25.AnswerReads", spec := "answerReads", apart := false, narrowed := true }
def AnswerReadsUptoSaid : Prop := answerReadsUptoRow.holds Try.pinned (OpenSpec.upto answerReadsSpec)

/-- 'carryalllaw25.AnswerTakes', WHERE WHAT IT READS IS OF BULK AT MOST 1048576: true; the input reads as it did. -/
def answerTakesUptoRow : OpenClaim := { program := "ytdojhdglbajinaa", sum := "af7138d32395539fce88d9e52fad698e620e6dea1a002e1fc98c6b0270cfe4ef", func := "carryall/carryalllaw25.AnswerTakes", spec := "answerTakes", apart := false, narrowed := true }
def AnswerTakesUptoSaid : Prop := answerTakesUptoRow.holds Try.pinned (OpenSpec.upto answerTakesSpec)

/-- 'carryalllaw25.AnswerPuts', WHERE WHAT IT READS IS OF BULK AT MOST 1048576: true; the input reads as it did. -/
def answerPutsUptoRow : OpenClaim := { program := "ytdojhdglbajinaa", sum := "af7138d32395539fce88d9e52fad698e620e6dea1a002e1fc98c6b0270cfe4ef", func := "carryall/carryalllaw25.AnswerPuts", spec := "answerPuts", apart := false, narrowed := true }
def AnswerPutsUptoSaid : Prop := answerPutsUptoRow.holds Try.pinned (OpenSpec.upto answerPutsSpec)

/-- 'carryalllaw25.AnswerCuts', WHERE WHAT IT READS IS OF BULK AT MOST 1048576: true; the input reads as it did. -/
def answerCutsUptoRow : OpenClaim := { program := "ytdojhdglbajinaa", sum := "af7138d32395539fce88d9e52fad698e620e6dea1a002e1fc98c6b0270cfe4ef", func := "carryall/carryalllaw25.AnswerCuts", spec := "answerCuts", apart := false, narrowed := true }
def AnswerCutsUptoSaid : Prop := answerCutsUptoRow.holds Try.pinned (OpenSpec.upto answerCutsSpec)

/-- 'carryalllaw28.ScriptParts', WHERE WHAT IT READS IS OF BULK AT MOST 1048576: true; the input reads as it did. -/
def scriptPartsUptoRow : OpenClaim := { program := "ytdojhdglbajinaa", sum := "af7138d32395539fce88d9e52fad698e620e6dea1a002e1fc98c6b0270cfe4ef", func := "carryall/carryalllaw28.ScriptParts", spec := "scriptParts", apart := false, narrowed := true }
def ScriptPartsUptoSaid : Prop := scriptPartsUptoRow.holds Try.pinned (OpenSpec.upto scriptPartsSpec)

/-- 'carryalllaw28.ScriptResults', WHERE WHAT IT READS IS OF BULK AT MOST 1048576: true; the input reads as it did. -/
def scriptResultsUptoRow : OpenClaim := { program := "ytdojhdglbajinaa", sum := "af7138d32395539fce88d9e52fad698e620e6dea1a002e1fc98c6b0270cfe4ef", func := "carryall/carryalllaw28.ScriptResults", spec := "scriptResults", apart := false, narrowed := true }
def ScriptResultsUptoSaid : Prop := scriptResultsUptoRow.holds Try.pinned (OpenSpec.upto scriptResultsSpec)

/-- 'carryalllaw28.ScriptBytes', WHERE WHAT IT READS IS OF BULK AT MOST 1048576: true; the input reads as it did. -/
def scriptBytesUptoRow : OpenClaim := { program := "ytdojhdglbajinaa", sum := "af7138d32395539fce88d9e52fad698e620e6dea1a002e1fc98c6b0270cfe4ef", func := "carryall/carryalllaw28.ScriptBytes", spec := "scriptBytes", apart := false, narrowed := true }
def ScriptBytesUptoSaid : Prop := scriptBytesUptoRow.holds Try.pinned (OpenSpec.upto scriptBytesSpec)

/-- 'carryalllaw28.ScriptReads', WHERE WHAT IT READS IS OF BULK AT MOST 1048576: true; the input reads as it did. -/
def scriptReadsUptoRow : OpenClaim := { program := "ytdojhdglbajinaa", sum := "af7138d32395539fce88d9e52fad698e620e6dea1a002e1fc98c6b0270cfe4ef", func := "carryall/carryalllaw28.ScriptReads", spec := "scriptReads", apart := false, narrowed := true }
def ScriptReadsUptoSaid : Prop := scriptReadsUptoRow.holds Try.pinned (OpenSpec.upto scriptReadsSpec)

end Rows
end Go.Proofs.Ytdojhdglbajinaa
