/- DERIVED. How an argument of type []uint64 reads. -/
import Derived.Test.YtdojhdglbajinaaOpenB
namespace Go.Proofs.Ytdojhdglbajinaa.OpenU
open Go.ChangeShapes Go.WideShapes Go.ChangeAt Go.RowKit Go.Proofs.Ytdojhdglbajinaa.OpenB Go.Proofs.Ytdojhdglbajinaa.Mem
set_option linter.unusedVariables false
/-- What a slice of uint64 holds. -/
def RdU (w : World) (A : Option Addr) (zs : List Nat) : Prop :=
  zs.length ≤ 9223372036854775807 ∧ (∀ (j z : Nat), zs[j]? = some z → z < 18446744073709551616) ∧ (0 < zs.length → ∃ ad, A = some ad ∧ ∀ (j z : Nat), zs[j]? = some z → w.cell? (ad.add j) = some (.int .u64 (z : Int)))
theorem RdU.below {w w' : World} {A : Option Addr} {zs : List Nat} (h : RdU w A zs) (hb : Below w.heap.size w w') : RdU w' A zs :=
  ⟨h.1, h.2.1, fun hn => by
    obtain ⟨ad, e, hc⟩ := h.2.2 hn
    refine ⟨ad, e, fun j u hj => ?_⟩
    have := hc j u hj
    rw [hb.cell (World.block_lt_of_cell? w _ this)]
    exact this⟩
theorem RdU.at {w : World} {A : Option Addr} {zs : List Nat} (h : RdU w A zs) (k : Nat) (hk : k < zs.length) : ∃ ad, A = some ad ∧ w.cell? (ad.add k) = some (.int .u64 (zs[k] : Int)) ∧ zs[k] < 18446744073709551616 := by
  obtain ⟨ad, e, hc⟩ := h.2.2 (by omega)
  exact ⟨ad, e, hc k _ (List.getElem?_eq_getElem hk), h.2.1 k _ (List.getElem?_eq_getElem hk)⟩
section
variable {H : Type} {enc : TypeId × Value → H} {W : World} {base : Nat} {spare : Nat → Bool} {held : Bool}
theorem open_u64s {t e : TypeId} (ht : Try.prog.underlying t = some (.slice e)) (he : Try.prog.underlying e = some (.int .u64)) (hC : Try.prog.cellsOf e = 1) {A : Option Addr} {len cap : Nat} {d : DataW H} {p : List MemPlace} (h : DataW.Trod enc Try.prog W base spare held t (.slice A len cap) d p) :
    ∃ zs : List Nat, len = zs.length ∧ zs.length ≤ cap ∧ RdU W A zs := by
  obtain ⟨fuel, hf⟩ := h
  rcases open_ints ht he hC hf with ⟨hcs, hx⟩ | ⟨x, l, c, zs, hcs, _, hl, hm, hz, hx, hcell, hwz⟩
  · simp [Value.cells] at hcs
    obtain ⟨rfl, rfl, rfl⟩ := hcs
    exact ⟨[], rfl, by simp, by simp, by simp, fun h => absurd h (by simp)⟩
  · simp [Value.cells] at hcs
    obtain ⟨rfl, rfl, rfl⟩ := hcs
    have hle : len ≤ zs.length := by rw [hz]; split <;> omega
    have hlen : ((zs.take len).map Int.toNat).length = len := by
      rw [List.length_map, List.length_take]
      omega
    have hat : ∀ (j z : Nat), ((zs.take len).map Int.toNat)[j]? = some z → ∃ y : Int, zs[j]? = some y ∧ y = (z : Int) ∧ z < 18446744073709551616 := by
      intro j z hj
      rw [List.getElem?_map, List.getElem?_take] at hj
      split at hj
      · obtain ⟨y, hy, rfl⟩ := Option.map_eq_some_iff.1 hj
        have := bounds_u64 (hwz y (List.mem_of_getElem? hy))
        exact ⟨y, hy, by omega, by omega⟩
      · cases hj
    refine ⟨(zs.take len).map Int.toNat, hlen.symm, by omega, by unfold maxLen at hm; omega, fun j z hj => (hat j z hj).choose_spec.2.2, fun _ => ⟨x, rfl, fun j z hj => ?_⟩⟩
    obtain ⟨y, hy, rfl, hb⟩ := hat j z hj
    have hjl := (List.getElem?_eq_some_iff.1 hy).1
    rw [hcell j hjl, List.getD_eq_getElem?_getD, hy]
    rfl
end
end Go.Proofs.Ytdojhdglbajinaa.OpenU
