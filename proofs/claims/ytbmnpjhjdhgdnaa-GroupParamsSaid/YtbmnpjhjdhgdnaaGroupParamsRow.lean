/- GroupParams: parameters make no difference to the groups that a type is in: whatever type, whatever parameters. No condition: every input that can be read as data. -/
import Derived.Test.YtbmnpjhjdhgdnaaOpen
import Derived.Test.YtbmnpjhjdhgdnaaGroupParamsPure
namespace Go.Proofs.Ytbmnpjhjdhgdnaa.groupParams
open Go.ChangeShapes Go.WideShapes Go.ChangeAt Go.RowKit Go.Proofs.Ytbmnpjhjdhgdnaa.Open Go.Proofs.Ytbmnpjhjdhgdnaa.PGroupParams Go.Proofs.YtbmnpjhjdhgdnaaW.PrintWords
set_option linter.unusedVariables false

def toS (p : ByteArray × ByteArray) : S34 := ⟨p.1, p.2⟩
theorem toC {w : World} {a : Option Addr} {ps : List (ByteArray × ByteArray)} (h : Params w a ps) : Kd.C k34 w a (ps.map toS).length (ps.map toS) := by
  refine ⟨rfl, by simpa using h.1, fun hn => ?_⟩
  obtain ⟨ad, e, hc⟩ := h.2 (by simpa using hn)
  refine ⟨ad, e, fun j p hj => ?_⟩
  rw [List.getElem?_map] at hj
  obtain ⟨q, hq, rfl⟩ := Option.map_eq_some_iff.1 hj
  obtain ⟨c0, c1⟩ := hc j q hq
  refine ⟨_, rfl, k34_mk w _, fun i u hu => ?_⟩
  match i, hu with
  | 0, hu => simp [toS] at hu; subst hu; exact c0
  | 1, hu => simp [toS] at hu; subst hu; exact c1

set_option maxRecDepth 100000 in
theorem lifted (os : Os) (started : os.Started) (H : Type) (enc : TypeId × Value → H) :
    ReturnsInHanded {} Try.checked os 5 .any (Rows.groupParamsSpec.pre6 enc Try.prog Try.f5 Rows.groupParamsRow.domain false) (Rows.groupParamsSpec.post enc Try.prog Try.f5 false true false false) := by
  refine returnsInHanded_of_change_sized (C := Try.checked) own started (by kernel_rfl) Try.func5
    (ChangeSpec.witness6 (enc := enc) (C := Try.checked) false ⟨#[], #[.agg #[.string ByteArray.empty, .string ByteArray.empty, .slice none 0 0], .slice none 0 0], []⟩ 8 (by kernel_rfl) (by kernel_rfl) (by kernel_rfl) (by kernel_rfl)) ?_
  intro W base args ds gs before hval0 hW hcnd hsz0 _
  have hsz : (DataW.weightsEach Try.prog (Try.f5.params.toList ++ Rows.groupParamsSpec.plain.varTypes Try.prog) (ds ++ gs)).all (· ≤ reachBytes) = true := hsz0
  have hval : ∀ (j : Nat) t v, Try.f5.params[j]? = some t → args[j]? = some v → Value.okWide Try.prog W .any base t v := hval0
  have hW' := hW
  obtain ⟨p, q, hA0, hV, rfl, hfz, hnd⟩ := hW
  have hA : DataW.TrodAll enc Try.prog W 0 (fun _ => true) true Try.f5.params.toList args.toList ds p := hA0
  rw [Try.params5] at hA hval hsz
  obtain ⟨v0, vs0, d0, ds0, p0, q0, hargs, rfl, rfl, h0, r0⟩ := trodAll_cons hA
  obtain ⟨v1, vs1, d1, ds1, p1, q1, rfl, rfl, rfl, h1, r1⟩ := trodAll_cons r0
  obtain ⟨rfl, rfl, rfl⟩ := trodAll_nil r1
  obtain rfl : args = #[v0, v1] := by cases args; simp_all
  obtain ⟨rfl, rfl⟩ := trodVars_none hV
  have k0 := h0
  have lt0 : ∀ x ∈ p0, x.block < W.heap.size := by obtain ⟨m, hm⟩ := k0; exact DataW.trod_lt m _ _ _ hm
  have hsz1 : (DataW.weights Try.prog 24 d0).all (· ≤ reachBytes) = true := List.all_eq_true.2 fun n hn => List.all_eq_true.1 hsz n (DataW.weights_mem_each (j := 0) rfl rfl n hn)
  obtain ⟨t, s, a, cap, ps, rfl, hl, hp, ht, hs, hb⟩ := open_mime (hval 0 24 v0 rfl rfl) h0 hsz1
  have k1 := h1
  have lt1 : ∀ x ∈ p1, x.block < W.heap.size := by obtain ⟨m, hm⟩ := k1; exact DataW.trod_lt m _ _ _ hm
  obtain ⟨a', len', cap', rfl⟩ := okWide_slice Try.underlying22 (hval 1 22 v1 rfl rfl)
  obtain ⟨fuel, hf⟩ := h1
  obtain ⟨a1, len1, cap1, ps1, he1, hn1, hl1, hp1, _⟩ := open_params hf
  simp [Value.cells] at he1
  obtain ⟨rfl, rfl, rfl⟩ := he1
  subst hn1
  clear hA0 hval0 hsz0 hsz
  obtain ⟨k, hk⟩ := GroupParamsPure.pure t s (ps.map toS) (ps1.map toS) ht hs (by simp; omega)
  have hcall := carryalllaw06_GroupParams.calls k t s a cap (ps.map toS) a' cap' (ps1.map toS) true W (toC hp) (by simpa using hl) (toC hp1) (by simpa using hl1) hk
  rw [List.length_map, List.length_map] at hcall
  refine hcall.mono fun e W' ⟨he, bel⟩ => ?_
  subst he
  exact ⟨_, rfl, _, _, _, [], _, [], hW', trodAll_mk1 (shut_bool Try.underlying4 _), (trodAll_cons_mk (Below.trod laidOut (by kernel_rfl) (of_decide_eq_true (by kernel_rfl)) k0 bel lt0) (trodAll_cons_mk (Below.trod laidOut (by kernel_rfl) (of_decide_eq_true (by kernel_rfl)) k1 bel lt1) trodAll_mk0)), rfl, bel.frame _, fun h => by cases h⟩
theorem over : Rows.groupParamsRow.holds Try.pinned (OpenSpec.ofChange Rows.groupParamsSpec) :=
  OpenClaim.holds_of_wide 5 Try.f5 rfl rfl rfl rfl rfl rfl rfl ⟨rfl, rfl, rfl, rfl, rfl⟩ rfl rfl rfl rfl rfl (by kernel_rfl) Try.func5 (by kernel_rfl)
    (of_decide_eq_true (by kernel_rfl)) (by unfold Func.isWrapper; first | (rw [if_pos (by decide +kernel)]; kernel_rfl) | (rw [if_neg (by decide +kernel)]; exact ⟨rfl, rfl⟩))
    (fun os started H enc _ => lifted os started H enc)
theorem proved : Rows.GroupParamsSaid := over
#print axioms proved
end Go.Proofs.Ytbmnpjhjdhgdnaa.groupParams
namespace Go.Proofs.Ytbmnpjhjdhgdnaa
/-- The row, under a short name, for the claim. -/
theorem groupParams_holds : Rows.GroupParamsSaid := groupParams.proved
end Go.Proofs.Ytbmnpjhjdhgdnaa
