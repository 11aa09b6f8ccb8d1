/- DERIVED. How an argument of type []byte reads: a list of bytes. -/
import Derived.Test.YtdojhdglbajinaaMem
import Derived.Test.YtdojhdglbajinaaRows
import Derived.WalkKit
import Derived.ProofKit
import Derived.OpenShut
import Derived.ShutString
import Derived.ChangeOld
import Derived.Below
import Derived.SizedLaws
namespace Go.Proofs.Ytdojhdglbajinaa.OpenB
open Go.ChangeShapes Go.WideShapes Go.ChangeAt Go.RowKit Go.Proofs.Ytdojhdglbajinaa.Mem
open Go.ChangeMaps (open_string shut_string)
set_option linter.unusedVariables false
theorem own : ownKnob Try.prog.godebug = none := by kernel_rfl
theorem laidOut : laidOutB Try.prog = true := by kernel_rfl

/-- A byte out of a number. -/
def toB (z : Int) : UInt8 := UInt8.ofNat z.toNat
theorem cell_toB {z : Int} (h : (Lit.int .u8 z).wf = true) : Value.int .u8 z = cellB (toB z) := by
  have hb := bounds_u8 h
  unfold cellB toB
  rw [UInt8.toNat_ofNat']
  congr 1
  omega
section
variable {H : Type} {enc : TypeId × Value → H} {W : World} {base : Nat} {spare : Nat → Bool} {held : Bool}
theorem open_bytes {t : TypeId} (ht : Try.prog.underlying t = some (.slice 5)) {A : Option Addr} {len cap : Nat} {d : DataW H} {p : List MemPlace} (h : DataW.Trod enc Try.prog W base spare held t (.slice A len cap) d p) :
    ∃ l : List UInt8, len = l.length ∧ l.length ≤ cap ∧ Rd W A l ∧ (A = none → cap = 0) ∧ ((DataW.weights Try.prog t d).all (· ≤ reachBytes) = true → l.length ≤ 140737488351232) := by
  obtain ⟨fuel, hf⟩ := h
  rcases open_ints ht Try.underlying5 (by kernel_rfl) hf with ⟨hcs, hx⟩ | ⟨x, l, c, zs, hcs, _, hl, hm, hz, hx, hcell, hwz⟩
  · simp [Value.cells] at hcs
    obtain ⟨rfl, rfl, rfl⟩ := hcs
    exact ⟨[], rfl, by simp, Rd.nil _ _, fun _ => rfl, fun _ => by simp⟩
  · simp [Value.cells] at hcs
    obtain ⟨rfl, rfl, rfl⟩ := hcs
    have hle : len ≤ zs.length := by rw [hz]; split <;> omega
    have hlen : ((zs.take len).map toB).length = len := by
      rw [List.length_map, List.length_take]
      omega
    refine ⟨(zs.take len).map toB, hlen.symm, by omega, ⟨by unfold maxLen at hm; omega, fun _ => ⟨x, rfl, fun j u hj => ?_⟩⟩, (fun h => by cases h), fun hw => ?_⟩
    · rw [List.getElem?_map, List.getElem?_take] at hj
      split at hj
      · obtain ⟨z, hz1, rfl⟩ := Option.map_eq_some_iff.1 hj
        have hjl := (List.getElem?_eq_some_iff.1 hz1).1
        rw [hcell j hjl, List.getD_eq_getElem?_getD, hz1]
        exact congrArg some (cell_toB (hwz z (List.mem_of_getElem? hz1)))
      · cases hj
    · obtain rfl : d = _ := congrArg Prod.fst hx
      have h1 := List.all_eq_true.1 hw (((lits (H := H) .u8 (zs.take len)).length + (lits (H := H) .u8 (zs.drop len)).length) * Try.prog.bytesOf 5) (by simp [DataW.weights, ht])
      have h2 := of_decide_eq_true h1
      rw [show Try.prog.bytesOf 5 = 1 from by kernel_rfl] at h2
      simp only [reachBytes, lits, List.length_map, List.length_take, List.length_drop] at h2
      omega
end
end Go.Proofs.Ytdojhdglbajinaa.OpenB
