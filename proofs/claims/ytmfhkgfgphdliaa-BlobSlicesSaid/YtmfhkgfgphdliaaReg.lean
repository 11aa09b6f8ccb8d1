/- DERIVED. A region that draws its order: what is held may be told anew of the world that stands now. -/
import Derived.Test.YtmfhkgfgphdliaaWLast
import Derived.Test.YtmfhkgfgphdliaaMem
namespace Go.Proofs.Ytmfhkgfgphdliaa.Reg
open Go.RowKit Go.Proofs.YtmfhkgfgphdliaaW.PrintLast
theorem weaken_ {P : Program} {ops : Array Oper} {Q : Exit → Act → World → Prop} {md : Region.Mode} {S S' : World → Prop} (hi : ∀ w, S' w → S w) :
    ∀ (n : Nat) (l : Array Bool) (a : Act) (w : World), S' w → wpAnyLast P md ops Q S' [] n l a w → wpAnyLast P md ops Q S [] n l a w
  | 0, _, _, _, _, h => h
  | n + 1, _, _, _, hS, h => ⟨h.1, fun i hi' => wpOp_mono (fun a' w' h' => ⟨fun _ _ => hi _ (h'.1 (by simp) hS), weaken_ hi n _ a' w' (h'.1 (by simp) hS) h'.2⟩) (h.2 i hi')⟩
/-- The same, its proofs ahead. -/
theorem again_ {P : Program} {ops : Array Oper} {Q : Exit → Act → World → Prop} {md : Region.Mode} {S S' : World → Prop} {n : Nat} {l : Array Bool} {a : Act} {w : World} (hS : S' w) (hi : ∀ w, S' w → S w) (h : wpAnyLast P md ops Q S' [] n l a w) : wpAnyLast P md ops Q S [] n l a w := weaken_ hi n l a w hS h
end Go.Proofs.Ytmfhkgfgphdliaa.Reg
