/- DERIVED. How an argument of type api.Mime, and one of type []api.Param, reads: its two texts, its list of parameters. -/
import Derived.Test.YtbmnpjhjdhgdnaaRows
import Derived.Test.YtbmnpjhjdhgdnaaWWords
import Derived.WalkKit
import Derived.ProofKit
import Derived.OpenShut
import Derived.ShutString
import Derived.ChangeOld
import Derived.Below
import Derived.SizedLaws
import Derived.Lib.SmallJoins
import Derived.Deep.SlicePairs
namespace Go.Proofs.Ytbmnpjhjdhgdnaa.Open
open Go.ChangeShapes Go.WideShapes Go.ChangeAt Go.RowKit Go.Joins Go.Deep
open Go.ChangeMaps (open_string shut_string)
set_option linter.unusedVariables false

theorem own : ownKnob Try.prog.godebug = none := by kernel_rfl
theorem laidOut : laidOutB Try.prog = true := by kernel_rfl
theorem cells24 : Try.prog.cellsOf 24 = 3 := by kernel_rfl
theorem cells34 : Try.prog.cellsOf 34 = 2 := by kernel_rfl
theorem cells9 : Try.prog.cellsOf 9 = 1 := by kernel_rfl

/-- The cells of a list of parameters. -/
def Params (w : World) (a : Option Addr) (ps : List (ByteArray × ByteArray)) : Prop :=
  ps.length ≤ 9223372036854775807 ∧ (0 < ps.length → ∃ ad, a = some ad ∧ ∀ (j : Nat) p, ps[j]? = some p → w.cell? (ad.add (j * 2)) = some (.string p.1) ∧ w.cell? (ad.add (j * 2 + 1)) = some (.string p.2))

section
variable {H : Type} {enc : TypeId × Value → H} {W : World} {base : Nat} {spare : Nat → Bool} {held : Bool}
theorem open_params {fuel : Nat} {cs : List Value} {x : DataW H × List MemPlace} (h : DataW.trod enc Try.prog W base spare held fuel 22 cs = some x) :
    ∃ a len cap ps, cs = [.slice a len cap] ∧ len = ps.length ∧ len ≤ cap ∧ Params W a ps ∧ (DataW.weights Try.prog 22 x.1).all (· ≤ reachBytes) = ((DataW.weights Try.prog 22 x.1).all (· ≤ reachBytes) && decide ((DataW.weights Try.prog 22 x.1).all (· ≤ reachBytes) = true → len * 32 ≤ 140737488351232)) := by
  rcases open_slice_pairs Try.underlying22 Try.underlying34 cells34 rfl rfl cells9 cells9 h with ⟨rfl, rfl⟩ | ⟨a, len, cap, m, n, V0, V1, D0, D1, P0, P1, rfl, _, hl, hm, hmm, rfl, hc⟩
  · exact ⟨none, 0, 0, [], rfl, rfl, Nat.le_refl _, ⟨by simp, fun h => absurd h (by simp)⟩, by simp⟩
  · have hlm : len ≤ m := by rw [hmm]; split <;> omega
    obtain ⟨f, hf⟩ := choose_lt (α := ByteArray × ByteArray) (n := len) (p := fun i q => V0 i = .string q.1 ∧ V1 i = .string q.2) (fun i hi => by
      obtain ⟨_, _, h0, h1⟩ := hc i (by omega)
      obtain ⟨s0, e0, _⟩ := DataW.trod_string Try.underlying9 h0
      obtain ⟨s1, e1, _⟩ := DataW.trod_string Try.underlying9 h1
      exact ⟨(s0, s1), by simpa using e0, by simpa using e1⟩)
    refine ⟨some a, len, cap, (List.range len).map f, rfl, by simp, hl, ⟨by simp; unfold maxLen at hm; omega, fun _ => ⟨a, rfl, fun j p hj => ?_⟩⟩, ?_⟩
    · have hj' : j < len := by have := (List.getElem?_eq_some_iff.1 hj).1; simpa using this
      rw [List.getElem?_map, List.getElem?_range hj'] at hj
      obtain rfl := Option.some.inj hj
      obtain ⟨c0, c1, _, _⟩ := hc j (by omega)
      exact ⟨by rw [c0, (hf j hj').1], by rw [c1, (hf j hj').2]⟩
    · rw [Bool.eq_iff_iff, Bool.and_eq_true]
      refine ⟨fun h => ⟨h, decide_eq_true fun _ => ?_⟩, fun h => h.1⟩
      have hw := List.all_eq_true.1 h ((len + (m - len)) * Try.prog.bytesOf 34) (by simp [DataW.weights, Try.underlying22])
      rw [show Try.prog.bytesOf 34 = 32 from by kernel_rfl] at hw
      have hw' := of_decide_eq_true hw
      simp only [reachBytes] at hw'
      omega
theorem params_bound {x : DataW H × List MemPlace} {len : Nat} (h : (DataW.weights Try.prog 22 x.1).all (· ≤ reachBytes) = ((DataW.weights Try.prog 22 x.1).all (· ≤ reachBytes) && decide ((DataW.weights Try.prog 22 x.1).all (· ≤ reachBytes) = true → len * 32 ≤ 140737488351232)))
    (hw : (DataW.weights Try.prog 22 x.1).all (· ≤ reachBytes) = true) : len * 32 ≤ 140737488351232 := by
  rw [hw, Bool.true_and] at h
  exact of_decide_eq_true h.symm rfl

/-- A type: its two texts, its parameters. -/
theorem open_mime {r : Reach} {b0 : Nat} {v : Value} {d : DataW H} {p : List MemPlace} (hv : Value.okWide Try.prog W r b0 24 v) (h : DataW.Trod enc Try.prog W base spare held 24 v d p) (hsz : (DataW.weights Try.prog 24 d).all (· ≤ reachBytes) = true) :
    ∃ (t s : ByteArray) (a : Option Addr) (cap : Nat) (ps : List (ByteArray × ByteArray)), v = .agg #[.string t, .string s, .slice a ps.length cap] ∧ ps.length ≤ cap ∧ Params W a ps ∧
      t.size ≤ 140737488351232 ∧ s.size ≤ 140737488351232 ∧ ps.length * 32 ≤ 140737488351232 := by
  obtain ⟨v0, v1, v2, y0, y1, y2, n, rfl, rfl, rfl, h0, h1, h2⟩ := open_agg3 Try.underlying24 (by kernel_rfl) cells24 hv h
  obtain ⟨t, e0, hy0, _⟩ := DataW.trod_string Try.underlying9 h0
  obtain ⟨s, e1, hy1, _⟩ := DataW.trod_string Try.underlying9 h1
  obtain ⟨a, len, cap, ps, e2, rfl, hl, hp, hb⟩ := open_params h2
  simp at e0 e1 e2
  subst e0 e1 e2
  have hw : (DataW.weights Try.prog 24 (.agg [y0.1, y1.1, y2.1])) = DataW.weights Try.prog 9 y0.1 ++ (DataW.weights Try.prog 9 y1.1 ++ (DataW.weights Try.prog 22 y2.1 ++ [])) := by
    simp [DataW.weights, DataW.weightsEach, Try.underlying24]
  rw [hw] at hsz
  simp only [List.all_append, Bool.and_eq_true] at hsz
  refine ⟨t, s, a, cap, ps, rfl, hl, hp, ?_, ?_, params_bound hb hsz.2.2.1⟩
  · have := hsz.1; rw [hy0] at this; simp [DataW.weights] at this; exact this
  · have := hsz.2.1; rw [hy1] at this; simp [DataW.weights] at this; exact this
end
end Go.Proofs.Ytbmnpjhjdhgdnaa.Open
