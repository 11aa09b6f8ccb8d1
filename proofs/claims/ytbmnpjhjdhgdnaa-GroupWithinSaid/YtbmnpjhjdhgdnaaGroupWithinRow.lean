/- GroupWithin: XML and HTML are scriptable; no type is HTML and XML; a zip is an archive, if it is application/zip: whatever type. No condition: every input that can be read as data. -/
import Derived.Test.YtbmnpjhjdhgdnaaOpen
import Derived.Test.YtbmnpjhjdhgdnaaGroupWithinWalk
namespace Go.Proofs.Ytbmnpjhjdhgdnaa.groupWithin
open Go.ChangeShapes Go.WideShapes Go.ChangeAt Go.RowKit Go.Proofs.Ytbmnpjhjdhgdnaa.Open Go.Proofs.Ytbmnpjhjdhgdnaa.PGroupWithin Go.Proofs.YtbmnpjhjdhgdnaaW.PrintWords Go.Proofs.Ytbmnpjhjdhgdnaa.GroupWithinIn Go.Proofs.Ytbmnpjhjdhgdnaa.GroupWithinWalk
set_option linter.unusedVariables false

def toS (p : ByteArray × ByteArray) : S34 := ⟨p.1, p.2⟩
theorem toC {w : World} {a : Option Addr} {ps : List (ByteArray × ByteArray)} (h : Params w a ps) : Kd.C k34 w a (ps.map toS).length (ps.map toS) := by
  refine ⟨rfl, by simpa using h.1, fun hn => ?_⟩
  obtain ⟨ad, e, hc⟩ := h.2 (by simpa using hn)
  refine ⟨ad, e, fun j p hj => ?_⟩
  rw [List.getElem?_map] at hj
  obtain ⟨q, hq, rfl⟩ := Option.map_eq_some_iff.1 hj
  obtain ⟨c0, c1⟩ := hc j q hq
  refine ⟨_, rfl, k34_mk w _, fun i u hu => ?_⟩
  match i, hu with
  | 0, hu => simp [toS] at hu; subst hu; exact c0
  | 1, hu => simp [toS] at hu; subst hu; exact c1

/-! ### The plain law -/
section
variable (t s : ByteArray)
theorem x57 : InB t s 5 = true → InB t s 7 = true := by
  simp only [InB, inB]; simp; grind
theorem x67 : InB t s 6 = true → InB t s 7 = true := by
  simp only [InB, inB]; simp; grind
theorem ends_no {x y : List UInt8} (h : s.toList = y) (hy : y.length < x.length ∨ y.drop (y.length - x.length) ≠ x) : endsB s x = false := by
  unfold endsB
  rw [← size_toList, h]
  rcases hy with hy | hy
  · simp; omega
  · simp [hy]
theorem x56 : InB t s 5 = true → InB t s 6 = false := by
  simp only [InB, inB]
  by_cases h : s.toList = [104, 116, 109, 108]
  · have := ends_no s (x := [43, 120, 109, 108]) h (Or.inr (by decide))
    rw [this, h]; simp
  · simp [h]
theorem x68 : InB t s 6 = true → InB t s 8 = false := by
  simp only [InB, inB]
  by_cases h : s.toList = [104, 116, 109, 108]
  · have := ends_no s (x := [43, 106, 115, 111, 110]) h (Or.inl (by decide))
    rw [this, h]; simp
  · simp [h]
theorem x69 : InB t s 6 = true → InB t s 9 = false := by
  simp only [InB, inB]
  by_cases h : s.toList = [104, 116, 109, 108]
  · rw [h]; simp
  · simp [h]
theorem x02 : InB t s 0 = true → InB t s 2 = false := by
  simp only [InB, inB]; simp
  intro h; simp [h]
theorem x34 : InB t s 3 = true → s.toList = [122, 105, 112] → InB t s 4 = true := by
  intro h3 h
  have := ends_no s (x := [43, 122, 105, 112]) h (Or.inl (by decide))
  simp only [InB, inB] at h3 ⊢
  rw [this, h] at h3
  rw [h]
  simpa using h3
end

set_option maxRecDepth 100000 in
theorem lifted (os : Os) (started : os.Started) (H : Type) (enc : TypeId × Value → H) :
    ReturnsInHanded {} Try.checked os 3 .any (Rows.groupWithinSpec.pre6 enc Try.prog Try.f3 Rows.groupWithinRow.domain false) (Rows.groupWithinSpec.post enc Try.prog Try.f3 false true false false) := by
  refine returnsInHanded_of_change_sized (C := Try.checked) own started (by kernel_rfl) Try.func3
    (ChangeSpec.witness6 (enc := enc) (C := Try.checked) false ⟨#[], #[.agg #[.string ByteArray.empty, .string ByteArray.empty, .slice none 0 0]], []⟩ 8 (by kernel_rfl) (by kernel_rfl) (by kernel_rfl) (by kernel_rfl)) ?_
  intro W base args ds gs before hval0 hW hcnd hsz0 _
  have hsz : (DataW.weightsEach Try.prog (Try.f3.params.toList ++ Rows.groupWithinSpec.plain.varTypes Try.prog) (ds ++ gs)).all (· ≤ reachBytes) = true := hsz0
  have hval : ∀ (j : Nat) t v, Try.f3.params[j]? = some t → args[j]? = some v → Value.okWide Try.prog W .any base t v := hval0
  have hW' := hW
  obtain ⟨p, q, hA0, hV, rfl, hfz, hnd⟩ := hW
  have hA : DataW.TrodAll enc Try.prog W 0 (fun _ => true) true Try.f3.params.toList args.toList ds p := hA0
  rw [Try.params3] at hA hval hsz
  obtain ⟨v0, vs0, d0, ds0, p0, q0, hargs, rfl, rfl, h0, r0⟩ := trodAll_cons hA
  obtain ⟨rfl, rfl, rfl⟩ := trodAll_nil r0
  obtain rfl : args = #[v0] := by cases args; simp_all
  obtain ⟨rfl, rfl⟩ := trodVars_none hV
  have k0 := h0
  have lt0 : ∀ x ∈ p0, x.block < W.heap.size := by obtain ⟨m, hm⟩ := k0; exact DataW.trod_lt m _ _ _ hm
  have hsz1 : (DataW.weights Try.prog 24 d0).all (· ≤ reachBytes) = true := List.all_eq_true.2 fun n hn => List.all_eq_true.1 hsz n (DataW.weights_mem_each (j := 0) rfl rfl n hn)
  obtain ⟨t, s, a, cap, ps, rfl, hl, hp, ht, hs, hb⟩ := open_mime (hval 0 24 v0 rfl rfl) h0 hsz1
  clear hA0 hval0 hsz0 hsz
  have hcall := law_calls t s a cap (ps.map toS) ht hs (by simpa using hl) (by simp; omega) W (toC hp) (x57 t s) (x67 t s) (x56 t s) (x68 t s) (x69 t s) (x02 t s) (x34 t s)
  rw [List.length_map] at hcall
  refine hcall.mono fun e W' ⟨he, bel⟩ => ?_
  subst he
  exact ⟨_, rfl, _, _, _, [], _, [], hW', trodAll_mk1 (shut_bool Try.underlying4 _), (trodAll_cons_mk (Below.trod laidOut (by kernel_rfl) (of_decide_eq_true (by kernel_rfl)) k0 bel lt0) trodAll_mk0), rfl, bel.frame _, fun h => by cases h⟩
theorem over : Rows.groupWithinRow.holds Try.pinned (OpenSpec.ofChange Rows.groupWithinSpec) :=
  OpenClaim.holds_of_wide 3 Try.f3 rfl rfl rfl rfl rfl rfl rfl ⟨rfl, rfl, rfl, rfl, rfl⟩ rfl rfl rfl rfl rfl (by kernel_rfl) Try.func3 (by kernel_rfl)
    (of_decide_eq_true (by kernel_rfl)) (by unfold Func.isWrapper; first | (rw [if_pos (by decide +kernel)]; kernel_rfl) | (rw [if_neg (by decide +kernel)]; exact ⟨rfl, rfl⟩))
    (fun os started H enc _ => lifted os started H enc)
theorem proved : Rows.GroupWithinSaid := over
#print axioms proved
end Go.Proofs.Ytbmnpjhjdhgdnaa.groupWithin
namespace Go.Proofs.Ytbmnpjhjdhgdnaa
/-- The row, under a short name, for the claim. -/
theorem groupWithin_holds : Rows.GroupWithinSaid := groupWithin.proved
end Go.Proofs.Ytbmnpjhjdhgdnaa
