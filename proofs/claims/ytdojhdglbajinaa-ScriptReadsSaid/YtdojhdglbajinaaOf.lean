/- DERIVED. An answer as the document has it: Of (twice in the program). -/
import Derived.Test.YtdojhdglbajinaaRefEnc
namespace Go.Proofs.Ytdojhdglbajinaa.Of
open Go.RowKit Go.Proofs.Ytdojhdglbajinaa.Mem Go.Proofs.Ytdojhdglbajinaa.Writer Go.Proofs.Ytdojhdglbajinaa.Reader Go.Proofs.Ytdojhdglbajinaa.Enc Go.Proofs.Ytdojhdglbajinaa.Dec Go.Proofs.Ytdojhdglbajinaa.Plain Go.Proofs.Ytdojhdglbajinaa.RefEnc
set_option linter.unusedVariables false
set_option linter.unusedSimpArgs false
theorem info33 : (Try.prog.info? 33).map (·.size) = some 6 := by kernel_rfl
set_option maxHeartbeats 4000000 in
set_option maxRecDepth 100000 in
theorem of25 (a : Ans) (A : Option Addr) (c : Nat) (w : World) (hb : Rd w A a.body) :
    Calls Try.prog 17 #[val a A c] w fun e w' => e = .returned (rval a) ∧ Below w.heap.size w w' := by
  have hcv := fun X Y => run_string (P := Try.prog) (src := 22) (dst := 9) (c := c) Try.underlying22 Try.underlying5 Try.underlying9 (hb.below (((Below.refl _ w).alloc (Nat.le_refl _) X).alloc (by simp) Y))
  unfold val
  go_enter Try.func17, Try.ntmps17
  go_wp2
  refine bodyPost_ret (results_c rfl _ _ (w.heap.size + 1) 33 (rcells a) (0, 0) _ (by rfl) ?_ Try.underlying33 rfl info33) rfl ?_
  · show ((w.heap.push _).push _)[w.heap.size + 1]? = _
    rw [Array.getElem?_push, if_pos (by simp)]
    rfl
  · exact ⟨rfl, ((Below.refl _ _).alloc (Nat.le_refl _) _).alloc (by simp) _⟩
set_option maxHeartbeats 4000000 in
set_option maxRecDepth 100000 in
theorem of26 (a : Ans) (A : Option Addr) (c : Nat) (w : World) (hb : Rd w A a.body) :
    Calls Try.prog 51 #[val a A c] w fun e w' => e = .returned (rval a) ∧ Below w.heap.size w w' := by
  have hcv := fun X Y => run_string (P := Try.prog) (src := 22) (dst := 9) (c := c) Try.underlying22 Try.underlying5 Try.underlying9 (hb.below (((Below.refl _ w).alloc (Nat.le_refl _) X).alloc (by simp) Y))
  unfold val
  go_enter Try.func51, Try.ntmps51
  go_wp2
  refine bodyPost_ret (results_c rfl _ _ (w.heap.size + 1) 33 (rcells a) (0, 0) _ (by rfl) ?_ Try.underlying33 rfl info33) rfl ?_
  · show ((w.heap.push _).push _)[w.heap.size + 1]? = _
    rw [Array.getElem?_push, if_pos (by simp)]
    rfl
  · exact ⟨rfl, ((Below.refl _ _).alloc (Nat.le_refl _) _).alloc (by simp) _⟩
end Go.Proofs.Ytdojhdglbajinaa.Of
