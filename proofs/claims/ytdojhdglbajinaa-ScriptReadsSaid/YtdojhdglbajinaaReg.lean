/- DERIVED. A region that draws its order: what is held may be told anew of the world that stands now. -/
import Derived.Test.YtdojhdglbajinaaWLast
import Derived.Test.YtdojhdglbajinaaMem
namespace Go.Proofs.Ytdojhdglbajinaa.Reg
open Go.RowKit Go.Proofs.YtdojhdglbajinaaW.PrintLast
theorem weaken_ {P : Program} {ops : Array Oper} {Q : Exit → Act → World → Prop} {md : Region.Mode} {S S' : World → Prop} (hi : ∀ w, S' w → S w) :
    ∀ (n : Nat) (l : Array Bool) (a : Act) (w : World), S' w → wpAnyLast P md ops Q S' [] n l a w → wpAnyLast P md ops Q S [] n l a w
  | 0, _, _, _, _, h => h
  | n + 1, _, _, _, hS, h => ⟨h.1, fun i hi' => wpOp_mono (fun a' w' h' => ⟨fun _ _ => hi _ (h'.1 (by simp) hS), weaken_ hi n _ a' w' (h'.1 (by simp) hS) h'.2⟩) (h.2 i hi')⟩
/-- The same, its proofs ahead. -/
theorem again_ {P : Program} {ops : Array Oper} {Q : Exit → Act → World → Prop} {md : Region.Mode} {S S' : World → Prop} {n : Nat} {l : Array Bool} {a : Act} {w : World} (hS : S' w) (hi : ∀ w, S' w → S w) (h : wpAnyLast P md ops Q S' [] n l a w) : wpAnyLast P md ops Q S [] n l a w := weaken_ hi n l a w hS h
/-- append of bytes onto a row of the call's own, in such a region. -/
theorem append_step {P : Program} {ops : Array Oper} {Q : Exit → Act → World → Prop} {oi : Oper} {N : Option Tmp} {a : Act} {w : World} {K : Act → World → Prop} (hw : Region.wanted oi (yielded ops a.tmps) = true) (hN : oi.dst = N)
    (s x : Operand) (t e : TypeId) (ho : oi.op = .call { callee := .builtin .append, args := #[s, x], argTypes := #[t, t] }) (base : Nat) (ht : P.underlying t = some (.slice e)) (i : TypeInfo)
    (hi : P.info? e = some i) (hz0 : i.zero = some (.int .u8 0)) (hz1 : i.size = 1) (hz2 : i.bytes = 1) (v : Value) (n : Nat) (ys : List UInt8) (hs : a.eval s = v) (hown : w.ownsRow base e 1 v n (ys.map Mem.cellB))
    (ad : Addr) (c : Nat) (xs : List UInt8) (hx : a.eval x = .slice (some ad) xs.length c) (hc : ∀ j u, xs[j]? = some u → w.cell? (ad.add j) = some (Mem.cellB u)) (hlen : n + xs.length ≤ 140737488355328) (hbase : base ≤ w.heap.size)
    (h : ∀ B c' w', w'.ownsRow base e 1 (.slice B (n + xs.length) c') (n + xs.length) ((ys ++ xs).map Mem.cellB) → w.grownBy w' v.ownBlock → K (a.put N (.slice B (n + xs.length) c')) w') :
    if Region.wanted oi (yielded ops a.tmps) = true then Oper.wp P oi a w K Q else K (a.put N undef) w := by
  obtain ⟨v', w', hrun, h1, h2, _⟩ := run_append_own (P := P) w base t oi.type e i (.int .u8 0) 1 1 ht hi hz0 hz1 hz2 rfl (by decide) v n (ys.map Mem.cellB) hown ad xs.length c (xs.map Mem.cellB) (by simp)
    (by
      intro j u hj
      rw [List.getElem?_map] at hj
      obtain ⟨x, hx, rfl⟩ := Option.map_eq_some_iff.1 hj
      exact hc j x hx) (Mem.map_cellB_one xs) (by unfold maxLen; omega) (by omega) hbase
  obtain ⟨B, c', rfl⟩ := Mem.own_form h1
  refine value_ hw hN ?_ (h B c' w' (by rw [List.map_append]; exact h1) h2)
  unfold execOp
  simp [ho, resolve, invoke, builtin, hs, hx, hrun, Result.andThen]
end Go.Proofs.Ytdojhdglbajinaa.Reg
