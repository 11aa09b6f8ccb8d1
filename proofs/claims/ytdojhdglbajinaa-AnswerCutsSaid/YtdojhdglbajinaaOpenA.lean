/- DERIVED. How an argument of type answer.Answer reads. -/
import Derived.Test.YtdojhdglbajinaaOpenB
import Derived.Test.YtdojhdglbajinaaEnc
import Derived.Lib.SmallJoins
import Derived.ChangeArms
namespace Go.Proofs.Ytdojhdglbajinaa.OpenA
open Go.ChangeShapes Go.WideShapes Go.ChangeAt Go.RowKit Go.Joins Go.Proofs.Ytdojhdglbajinaa.OpenB Go.Proofs.Ytdojhdglbajinaa.Mem Go.Proofs.Ytdojhdglbajinaa.Enc
set_option linter.unusedVariables false
theorem cells24 : Try.prog.cellsOf 24 = 6 := by kernel_rfl
section
variable {H : Type} {enc : TypeId × Value → H} {W : World} {base : Nat} {spare : Nat → Bool} {held : Bool}
set_option maxRecDepth 100000 in
theorem open_ans {r : Reach} {b0 : Nat} {v : Value} {d : DataW H} {p : List MemPlace} (hv : Value.okWide Try.prog W r b0 24 v) (h : DataW.Trod enc Try.prog W base spare held 24 v d p) (hsz : (DataW.weights Try.prog 24 d).all (· ≤ reachBytes) = true) :
    ∃ (a : Ans) (A : Option Addr) (c : Nat), v = val a A c ∧ Rd W A a.body ∧ a.kind.length ≤ 140737488351232 ∧ a.body.length ≤ 140737488351232 ∧
      -9223372036854775808 ≤ a.first ∧ a.first < 9223372036854775808 ∧ -9223372036854775808 ≤ a.total ∧ a.total < 9223372036854775808 := by
  obtain ⟨cs, rfl, hn⟩ := okWide_struct Try.underlying24 hv
  obtain ⟨l⟩ := cs
  match l, hn.trans cells24 with
  | [v0, v1, v2, v3, v4, v5], _ =>
    obtain ⟨fuel, hf⟩ := h
    obtain ⟨xs, n, _, hx, _, hlen, hg⟩ := DataW.trod_struct Try.underlying24 hf
    match xs, hlen with
    | [y0, y1, y2, y3, y4, y5], _ =>
      simp only [Prod.mk.injEq] at hx
      obtain ⟨hd, -⟩ := hx
      have g0 : DataW.trod enc Try.prog W base spare held n 3 [v0] = some y0 := hg 0 _ rfl
      have g1 : DataW.trod enc Try.prog W base spare held n 3 [v1] = some y1 := hg 1 _ rfl
      have g2 : DataW.trod enc Try.prog W base spare held n 2 [v2] = some y2 := hg 2 _ rfl
      have g3 : DataW.trod enc Try.prog W base spare held n 2 [v3] = some y3 := hg 3 _ rfl
      have g4 : DataW.trod enc Try.prog W base spare held n 9 [v4] = some y4 := hg 4 _ rfl
      have g5 : DataW.trod enc Try.prog W base spare held n 22 [v5] = some y5 := hg 5 _ rfl
      obtain ⟨x0, e0, -, w0⟩ := DataW.trod_int Try.underlying3 g0
      obtain ⟨x1, e1, -, w1⟩ := DataW.trod_int Try.underlying3 g1
      obtain ⟨x2, e2, -, w2⟩ := DataW.trod_int Try.underlying2 g2
      obtain ⟨x3, e3, -, w3⟩ := DataW.trod_int Try.underlying2 g3
      obtain ⟨s4, e4, hy4, -⟩ := DataW.trod_string Try.underlying9 g4
      simp at e0 e1 e2 e3 e4
      subst e0 e1 e2 e3 e4
      obtain ⟨A, len, cap, rfl⟩ : ∃ A len cap, v5 = .slice A len cap := by
        rcases open_ints Try.underlying22 Try.underlying5 (by kernel_rfl) g5 with ⟨hcs, -⟩ | ⟨x, l, c, zs, hcs, -⟩
        · simp at hcs; exact ⟨_, _, _, hcs⟩
        · simp at hcs; exact ⟨_, _, _, hcs⟩
      obtain ⟨l, rfl, hc, rd, hnil, hz⟩ := open_bytes (d := y5.1) (p := y5.2) Try.underlying22 ⟨n, by simpa [Value.cells] using g5⟩
      have hw : (DataW.weights Try.prog 24 (.agg [y0.1, y1.1, y2.1, y3.1, y4.1, y5.1])) = DataW.weights Try.prog 3 y0.1 ++ (DataW.weights Try.prog 3 y1.1 ++ (DataW.weights Try.prog 2 y2.1 ++ (DataW.weights Try.prog 2 y3.1 ++ (DataW.weights Try.prog 9 y4.1 ++ (DataW.weights Try.prog 22 y5.1 ++ []))))) := by
        simp [DataW.weights, DataW.weightsEach, Try.underlying24]
      have hd' : d = .agg [y0.1, y1.1, y2.1, y3.1, y4.1, y5.1] := by simpa using hd
      rw [hd', hw] at hsz
      simp only [List.all_append, Bool.and_eq_true] at hsz
      have k4 : s4.size ≤ 140737488351232 := by
        have := hsz.2.2.2.2.1
        rw [hy4] at this
        simp [DataW.weights] at this
        exact this
      have b2 := bounds_i64 w2
      have b3 := bounds_i64 w3
      refine ⟨⟨x0, x1, x2, x3, s4.data.toList, l⟩, A, cap, ?_, rd, by rw [Array.length_toList]; exact k4, hz hsz.2.2.2.2.2.1, b2.1, by show x2 < _; omega, b3.1, by show x3 < _; omega⟩
      unfold val
      rw [str_data]
end
end Go.Proofs.Ytdojhdglbajinaa.OpenA
