/- DERIVED. How an argument of type script.Result reads. -/
import Derived.Test.YtdojhdglbajinaaOpenB
import Derived.Test.YtdojhdglbajinaaScrRes
import Derived.Lib.SmallJoins
import Derived.ChangeArms
namespace Go.Proofs.Ytdojhdglbajinaa.OpenR
open Go.ChangeShapes Go.WideShapes Go.ChangeAt Go.RowKit Go.Joins Go.Proofs.Ytdojhdglbajinaa.OpenB Go.Proofs.Ytdojhdglbajinaa.Mem Go.Proofs.Ytdojhdglbajinaa.Enc Go.Proofs.Ytdojhdglbajinaa.ScrRes
set_option linter.unusedVariables false
theorem cells72n : Try.prog.cellsOf 72 = 9 := by kernel_rfl
section
variable {H : Type} {enc : TypeId × Value → H} {W : World} {base : Nat} {spare : Nat → Bool} {held : Bool}
set_option maxRecDepth 100000 in
theorem open_res {r : Reach} {b0 : Nat} {v : Value} {d : DataW H} {p : List MemPlace} (hv : Value.okWide Try.prog W r b0 72 v) (h : DataW.Trod enc Try.prog W base spare held 72 v d p) (hsz : (DataW.weights Try.prog 72 d).all (· ≤ reachBytes) = true) :
    ∃ (x : ResV) (A : Option Addr) (c : Nat), v = val72 x A c ∧ Rd W A x.a.body ∧ x.s.length ≤ 140737488351232 ∧ x.a.kind.length ≤ 140737488351232 ∧ x.a.body.length ≤ 140737488351232 := by
  obtain ⟨cs, rfl, hn⟩ := okWide_struct Try.underlying72 hv
  obtain ⟨l⟩ := cs
  match l, hn.trans cells72n with
  | [v0, v1, v2, v3, v4, v5, v6, v7, v8], _ =>
    obtain ⟨fuel, hf⟩ := h
    obtain ⟨xs, n, _, hx, _, hlen, hg⟩ := DataW.trod_struct Try.underlying72 hf
    match xs, hlen with
    | [y0, y1, y2, y3], _ =>
      simp only [Prod.mk.injEq] at hx
      obtain ⟨hd, -⟩ := hx
      have g0 : DataW.trod enc Try.prog W base spare held n 28 [v0] = some y0 := hg 0 _ rfl
      have g1 : DataW.trod enc Try.prog W base spare held n 2 [v1] = some y1 := hg 1 _ rfl
      have g2 : DataW.trod enc Try.prog W base spare held n 9 [v2] = some y2 := hg 2 _ rfl
      have g3 : DataW.trod enc Try.prog W base spare held n 24 [v3, v4, v5, v6, v7, v8] = some y3 := hg 3 _ rfl
      obtain ⟨k0, e0, -, w0⟩ := DataW.trod_int Try.underlying28 g0
      obtain ⟨k1, e1, -, w1⟩ := DataW.trod_int Try.underlying2 g1
      obtain ⟨s2, e2, hy2, -⟩ := DataW.trod_string Try.underlying9 g2
      obtain ⟨zs, m, _, hx3, _, hl3, hg3⟩ := DataW.trod_struct Try.underlying24 g3
      match zs, hl3 with
      | [z0, z1, z2, z3, z4, z5], _ =>
        have p0 : DataW.trod enc Try.prog W base spare held m 3 [v3] = some z0 := hg3 0 _ rfl
        have p1 : DataW.trod enc Try.prog W base spare held m 3 [v4] = some z1 := hg3 1 _ rfl
        have p2 : DataW.trod enc Try.prog W base spare held m 2 [v5] = some z2 := hg3 2 _ rfl
        have p3 : DataW.trod enc Try.prog W base spare held m 2 [v6] = some z3 := hg3 3 _ rfl
        have p4 : DataW.trod enc Try.prog W base spare held m 9 [v7] = some z4 := hg3 4 _ rfl
        have p5 : DataW.trod enc Try.prog W base spare held m 22 [v8] = some z5 := hg3 5 _ rfl
        obtain ⟨x3, e3, -, -⟩ := DataW.trod_int Try.underlying3 p0
        obtain ⟨x4, e4, -, -⟩ := DataW.trod_int Try.underlying3 p1
        obtain ⟨x5, e5, -, -⟩ := DataW.trod_int Try.underlying2 p2
        obtain ⟨x6, e6, -, -⟩ := DataW.trod_int Try.underlying2 p3
        obtain ⟨s7, e7, hz7, -⟩ := DataW.trod_string Try.underlying9 p4
        simp at e0 e1 e2 e3 e4 e5 e6 e7
        subst e0 e1 e2 e3 e4 e5 e6 e7
        obtain ⟨A, len, cap, rfl⟩ : ∃ A len cap, v8 = .slice A len cap := by
          rcases open_ints Try.underlying22 Try.underlying5 (by kernel_rfl) p5 with ⟨hcs, -⟩ | ⟨x, l, c, zs, hcs, -⟩
          · simp at hcs; exact ⟨_, _, _, hcs⟩
          · simp at hcs; exact ⟨_, _, _, hcs⟩
        obtain ⟨l, rfl, hc, rd, hnil, hz⟩ := open_bytes (d := z5.1) (p := z5.2) Try.underlying22 ⟨m, by simpa [Value.cells] using p5⟩
        have hw3 : y3.1 = .agg [z0.1, z1.1, z2.1, z3.1, z4.1, z5.1] := by rw [hx3]; rfl
        have hd' : d = .agg [y0.1, y1.1, y2.1, y3.1] := by simpa using hd
        have hw : DataW.weights Try.prog 72 (.agg [y0.1, y1.1, y2.1, y3.1]) = DataW.weights Try.prog 28 y0.1 ++ (DataW.weights Try.prog 2 y1.1 ++ (DataW.weights Try.prog 9 y2.1 ++ (DataW.weights Try.prog 24 y3.1 ++ []))) := by
          simp [DataW.weights, DataW.weightsEach, Try.underlying72]
        have hw2 : DataW.weights Try.prog 24 (.agg [z0.1, z1.1, z2.1, z3.1, z4.1, z5.1]) = DataW.weights Try.prog 3 z0.1 ++ (DataW.weights Try.prog 3 z1.1 ++ (DataW.weights Try.prog 2 z2.1 ++ (DataW.weights Try.prog 2 z3.1 ++ (DataW.weights Try.prog 9 z4.1 ++ (DataW.weights Try.prog 22 z5.1 ++ []))))) := by
          simp [DataW.weights, DataW.weightsEach, Try.underlying24]
        rw [hd', hw, hw3, hw2] at hsz
        simp only [List.all_append, Bool.and_eq_true] at hsz
        obtain ⟨_, _, q2, ⟨_, _, _, _, q7, q8, _⟩, _⟩ := hsz
        rw [hy2] at q2
        rw [hz7] at q7
        simp [DataW.weights, reachBytes] at q2 q7
        refine ⟨⟨k0, k1, s2.data.toList, ⟨x3, x4, x5, x6, s7.data.toList, l⟩⟩, A, cap, ?_, rd, ?_, ?_, hz q8⟩
        · unfold val72
          simp only [str_data]
        · show s2.data.toList.length ≤ _; rw [Array.length_toList]; exact of_decide_eq_true q2
        · show s7.data.toList.length ≤ _; rw [Array.length_toList]; exact of_decide_eq_true q7
end
end Go.Proofs.Ytdojhdglbajinaa.OpenR
