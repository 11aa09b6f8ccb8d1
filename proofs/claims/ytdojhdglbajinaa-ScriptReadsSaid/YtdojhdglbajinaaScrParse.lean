/- DERIVED. script.Parse. -/
import Derived.Test.YtdojhdglbajinaaScrTake
namespace Go.Proofs.Ytdojhdglbajinaa.ScrParse
open Go.RowKit Go.Proofs.Ytdojhdglbajinaa.Mem Go.Proofs.Ytdojhdglbajinaa.Writer Go.Proofs.Ytdojhdglbajinaa.Reader Go.Proofs.Ytdojhdglbajinaa.Enc Go.Proofs.Ytdojhdglbajinaa.Plain Go.Proofs.Ytdojhdglbajinaa.ScrOp Go.Proofs.Ytdojhdglbajinaa.ScrEnc Go.Proofs.Ytdojhdglbajinaa.ScrTake
set_option linter.unusedVariables false
set_option linter.unusedSimpArgs false

theorem fold_set : ∀ (l : List Value) (k : Nat) (z : Array Value), z.size = k + l.length →
    ((l.zipIdx k).foldl (fun a (x : Value × Nat) => a.setIfInBounds (0 + x.2) x.1) z).toList = z.toList.take k ++ l
  | [], k, z, h => by simp at h ⊢; rw [List.take_of_length_le (by simp [h])]
  | c :: l, k, z, h => by
    rw [List.zipIdx_cons, List.foldl_cons]
    simp only [List.length_cons] at h
    rw [fold_set l (k + 1) _ (by rw [Array.size_setIfInBounds]; omega)]
    simp only [Nat.zero_add, Array.toList_setIfInBounds]
    rw [List.take_add_one, List.getElem?_set_self (by simp; omega), List.take_set_of_le (Nat.le_refl _)]
    simp
theorem fill_one (cs z : Array Value) (n : Nat) (hn : cs.size = n) (h : z.size = n) : Instr.fill (fun i => some (i * n, n)) z [(0, .agg cs)] = some cs := by
  have hf : cs.zipIdx.foldl (fun a (x : Value × Nat) => a.setIfInBounds (0 + x.2) x.1) z = cs := by
    apply Array.toList_inj.1
    rw [← Array.foldl_toList, Array.toList_zipIdx, fold_set _ 0 z (by rw [Nat.zero_add, Array.length_toList]; omega)]
    simp
  have hc : (Value.agg cs).cells = cs := rfl
  unfold Instr.fill
  simp only [hc, Nat.zero_mul]
  rw [if_neg (by simp [hn, h])]
  unfold Instr.fill
  exact congrArg some hf
section
variable {P : Program} {ops : Array Oper} {rest : List Oper} {op : Oper} {a : Act} {w : World} {Q : Exit → Act → World → Prop}
/-- A slice of one struct is made. -/
theorem wpList_slice_one (hg : op.guard = none) (t : TypeId) (x : Operand) (ho : op.op = .buildSlice t 1 #[(0, x)]) (e : TypeId) (ht : P.underlying t = some (.slice e)) {i : TypeInfo} {z : Value} {n : Nat} (hi : P.info? e = some i) (hz : i.zero = some z) (hn : i.size = n) (h0 : 0 < n) (h1 : n ≤ 1000)
    (cs : Array Value) (hx : a.eval x = .agg cs) (hs : cs.size = n)
    (h : wpList P ops Q rest (a.put op.dst (.slice (some ⟨w.heap.size, 0, none⟩) 1 1)) (w.alloc (.cells cs e))) : wpList P ops Q (op :: rest) a w :=
  wpList_plain hg fun K hK => by
    unfold Oper.wp execOp
    have hfl : ∀ zz : Array Value, Instr.fill (fun i => some (i * n, n)) ((Array.range (1 * n)).map (fun k => zz[k % zz.size]!)) [(0, .agg cs)] = some cs := fun zz => fill_one cs _ n hs (by simp)
    have hne : ¬ (n = 0) := by omega
    have hle : ¬ (16777216 < n) := by omega
    subst hn
    simp only [Nat.one_mul] at hfl
    simp [ho, hx, Instr.buildSlice, run_underlying ht, sizeOf, typeInfo, hi, zeroValue, hz, hne, hle, hfl, newRow, Sem.run_bind]
    exact hK _ _ h
end
theorem own_but {w w' : World} {g base : Nat} {e : TypeId} {sz n : Nat} {v : Value} {xs : List Value} (h : w.ownsRow base e sz v n xs) (hb : But g w w') (hg : g < base) : w'.ownsRow base e sz v n xs := by
  refine ⟨h.1, ?_⟩
  rcases h.2 with h0 | ⟨k, cap, cur, hv, hbr, hk, rest⟩
  · exact Or.inl h0
  · exact Or.inr ⟨k, cap, cur, hv, hbr, (hb.other k (Array.getElem?_eq_some_iff.1 hk).1 (by omega)).trans hk, rest⟩
theorem own_form27 {w : World} {base : Nat} {e : TypeId} {sz : Nat} {v : Value} {n : Nat} {ys : List Value} (h : w.ownsRow base e sz v n ys) : ∃ A c, v = .slice A n c ∧ n ≤ c := by
  rcases h.2 with ⟨hv, h0⟩ | ⟨g, cap, cur, hv, _, _, hn, _⟩
  · exact ⟨none, 0, by rw [hv, h0], by omega⟩
  · exact ⟨_, _, hv, hn⟩
theorem flat_at (os : List OpV) (hw : ∀ o ∈ os, o.Wf) : ∀ (j : Nat) (o : OpV), os[j]? = some o → ∀ (i : Nat) (v : Value), (opCells o)[i]? = some v → (os.flatMap opCells)[j * 27 + i]? = some v := by
  induction os with
  | nil => intro j o h; simp at h
  | cons p os ih =>
    intro j o h i v hi
    have hp : (opCells p).length = 27 := opCells_len p (hw p (by simp)).r
    match j, h with
    | 0, h =>
      simp at h; subst h
      have hlt := (List.getElem?_eq_some_iff.1 hi).1
      rw [List.flatMap_cons, List.getElem?_append_left (by omega), Nat.zero_mul, Nat.zero_add]; exact hi
    | j + 1, h =>
      rw [List.flatMap_cons, List.getElem?_append_right (by omega), hp, show (j + 1) * 27 + i - 27 = j * 27 + i by omega]
      exact ih (fun o ho => hw o (by simp [ho])) j o (by simpa using h) i v hi
/-- What the call's own row of operations holds. -/
theorem rdO_own {w : World} {base : Nat} {os : List OpV} {A : Option Addr} {c : Nat} {e : TypeId} (h : w.ownsRow base e 27 (.slice A os.length c) os.length (os.flatMap opCells)) (hw : ∀ o ∈ os, o.Wf) (hl : os.length ≤ 9223372036854775807) : RdO w A os := by
  refine ⟨hl, hw, fun hp => ?_⟩
  rcases h.2 with ⟨hv, h0⟩ | ⟨g, cap, cur, hv, hb, hg, hn, hm, _, _⟩
  · omega
  · injection hv with h1 h2 h3
    subst h1 h3
    refine ⟨g, 0, rfl, fun j o hj i v hi => ?_⟩
    have hc := h.cells (g := g) rfl (j * 27 + i) v (flat_at os hw j o hj i v hi)
    rw [Addr.add_mid, ← Nat.add_assoc] at hc
    exact hc
theorem cells_new (w : World) (cs : List Value) (t : TypeId) : ∀ (j : Nat) (u : Value), cs[j]? = some u → (w.alloc (.cells cs.toArray t)).cell? ((⟨w.heap.size, 0, none⟩ : Addr).add j) = some u := fun j u hj => by
  rw [Addr.add_mid, Nat.zero_add, World.cell?_alloc_new]
  rw [List.getElem?_toArray]; exact hj
def rdm (g : Nat) (w : World) : Nat :=
  match w.cell? ⟨g, 0, none⟩, w.cell? ⟨g, 1, none⟩ with
  | some (.slice _ n _), some (.bool b) => if b then 0 else n + 1
  | _, _ => 0
theorem rdm_rr {w : World} {g : Nat} {l : List UInt8} {b : Bool} (h : Rr w g l b) : rdm g w = if b then 0 else l.length + 1 := by
  obtain ⟨A, c, h1, _⟩ := h.row
  have e0 : w.cell? ⟨g, 0, none⟩ = some (.slice A l.length c) := by simp [World.cell?, h1]
  have e1 : w.cell? ⟨g, 1, none⟩ = some (.bool b) := by simp [World.cell?, h1]
  unfold rdm
  rw [e0, e1]
theorem leftT {w : World} {g : Nat} {l : List UInt8} (h : Rr w g l true) : Calls Try.prog 28 #[.pointer (some ⟨g, 0, none⟩)] w fun e w' => e = .returned (.int .i64 0) ∧ w = w' := Reader.left g l true w h
theorem leftF {w : World} {g : Nat} {l : List UInt8} (h : Rr w g l false) : Calls Try.prog 28 #[.pointer (some ⟨g, 0, none⟩)] w fun e w' => e = .returned (.int .i64 (l.length : Int)) ∧ w = w' := Reader.left g l false w h
/-- Between two rounds. -/
structure PS (w wk : World) (g base : Nat) (l : List UInt8) (out : List OpV) (s : S2) (v : Value) : Prop where
  far : Far l out s
  rr : Rr wk g s.1 s.2
  gt : w.heap.size ≤ g
  lt : g < base
  le : base ≤ wk.heap.size
  row : wk.ownsRow base 88 27 v out.length (out.flatMap opCells)
  below : Below w.heap.size w wk
/-- An operation is taken. -/
structure PT (w wk : World) (g base : Nat) (l : List UInt8) (out : List OpV) (l' : List UInt8) (v : Value) : Prop where
  far : Far l out (l', false)
  rr : Rr wk g (qE l').1 (qE l').2
  gt : w.heap.size ≤ g
  lt : g < base
  le : base ≤ wk.heap.size
  row : wk.ownsRow base 88 27 v out.length (out.flatMap opCells)
  below : Below w.heap.size w wk
theorem PS.took {w wk wl : World} {g base : Nat} {l l' : List UInt8} {out : List OpV} {v : Value} (h : PS w wk g base l out (l', false) v) (h1 : Rr wl g (qE l').1 (qE l').2) (h2 : But g wk wl) : PT w wl g base l out l' v :=
  ⟨h.far, h1, h.gt, h.lt, by have := h.le; have := h2.below.size; omega, own_but h.row h2 h.lt, h.below.trans (h2.below.mono h.gt)⟩
theorem own_alloc {w : World} {base : Nat} {e : TypeId} {sz n : Nat} {v : Value} {xs : List Value} (h : w.ownsRow base e sz v n xs) (X : Obj) : (w.alloc X).ownsRow base e sz v n xs := own_below h (below1 w X)
theorem PT.put {w wk wl : World} {g base : Nat} {l l' : List UInt8} {out : List OpV} {v v' : Value} {X : Obj} (h : PT w wk g base l out l' v) (hl : 0 < l'.length) (h1 : wl.ownsRow base 88 27 v' (out.length + 1) (out.flatMap opCells ++ opCells (opR l'))) (h2 : (wk.alloc X).grownBy wl v.ownBlock) : PS w wl g base l (out ++ [opR l']) (qE l') v' := by
  have hb : Below base wk wl := by
    refine Below.grown ((Below.refl _ _).alloc h.le X) h2 (by have := h.le; simp; omega) (fun k hk => ?_)
    exact (h.row.lt k hk).1
  refine ⟨Far.step h.far hl, rr_low h.rr (fun i hi => hb.block i (by have := h.lt; omega)), h.gt, h.lt, Nat.le_trans h.le hb.size, ?_, h.below.trans (hb.mono (by have := h.gt; have := h.lt; omega))⟩
  rw [List.length_append, List.flatMap_append]
  simpa using h1
theorem PS.start {w w1 : World} {g : Nat} {l : List UInt8} (hg : w.heap.size ≤ g) (h1 : Rr w1 g l false) (h2 : Below w.heap.size w w1) : PS w w1 g w1.heap.size l [] (l, false) (.slice none 0 0) := by
  obtain ⟨A, c, h3, _⟩ := h1.row
  exact ⟨.start, h1, hg, (Array.getElem?_eq_some_iff.1 h3).1, Nat.le_refl _, World.ownsRow_nil _ _ _ _, h2⟩
theorem Far.few {l : List UInt8} {out : List OpV} {l' : List UInt8} (h : Far l out (l', false)) (hl : l.length ≤ 140737488351232) : out.length ≤ l.length := by
  have h1 := (h.good hl).1
  have h2 := ((h.good hl).2 rfl).2
  have h3 : ∀ os : List OpV, os.length ≤ (encOps os).length := by
    intro os
    induction os with
    | nil => simp
    | cons o os ih => rw [encOps_cons, List.length_append, List.length_cons]; have := encOp_pos o; omega
  have h4 := congrArg List.length h2
  rw [List.length_append] at h4
  have := h3 out
  omega
theorem qE_less {l : List UInt8} (h : (qE l).2 = false) : (qE l).1.length < l.length := by
  obtain ⟨h1, _⟩ := enc_opR h
  have h2 := congrArg List.length h1
  rw [List.length_append] at h2
  have := encOp_pos (opR l)
  omega
set_option maxHeartbeats 1000000 in
set_option maxRecDepth 100000 in
theorem parse (A : Option Addr) (c : Nat) (l : List UInt8) (w : World) (h : Rd w A l) (hl : l.length ≤ 1000000) :
    Calls Try.prog 42 #[.slice A l.length c] w fun e w' => ∃ (os : List OpV) (B : Option Addr) (c' : Nat) (err : Int), e = .returned (.tuple #[.slice B os.length c', .int .i64 err]) ∧ Below w.heap.size w w' ∧ os.length ≤ c' ∧
      ((Is os l ∧ err = 0 ∧ RdO w' B os) ∨ ((∀ os', ¬ Is os' l) ∧ err = 2 ∧ os = [])) := by
  have HA := Lib.hid h
  obtain ⟨i0, hi0, hz0, hz1, hz2⟩ := info_parts z88
  clear h
  go_enter Try.func42, Try.ntmps42
  go_wp2_with (go_at_call 20; refine (Reader.new _ _ _ _ HA.out (by omega)).mono ?_; rintro e w1 ⟨g, rfl, hg, h1, h2⟩; have HP0 := Lib.hid (PS.start hg h1 h2); clear hg h1 h2)
  obtain ⟨base, hbase⟩ : ∃ b, b = w1.heap.size := ⟨_, rfl⟩
  rw [← hbase] at HP0
  clear hbase
  go_loopw [4] (fun v wr => ∃ (out : List OpV) (s : S2), Hid (PS w wr g base l out s v)) (fun _ wr => rdm g wr)
  case atStart => exact ⟨[], (l, false), HP0⟩
  case round =>
    clear HP0
    obtain ⟨out, ⟨l', b⟩, HP⟩ := hrel
    rcases Bool.eq_false_or_eq_true b with rfl | rfl
    · have tg : Hid True := trivial
      go_wp2_with (first
        | (go_at_call 28; refine (leftT HP.out.rr).mono ?_; rintro e w2 ⟨rfl, rfl⟩)
        | (go_at_call 27; refine (Reader.bad _ _ _ _ HP.out.rr).mono ?_; rintro e w2 ⟨rfl, rfl⟩))
      go_ret2
      exact ⟨[], none, 0, 2, rfl, HP.out.below, Nat.le_refl _, Or.inr ⟨HP.out.far.none rfl, rfl, rfl⟩⟩
    · by_cases h0 : 0 < l'.length
      · obtain ⟨A', c', rfl, hnc⟩ := own_form27 HP.out.row
        have hfew := Far.few HP.out.far (by omega)
        have hl' : l'.length ≤ l.length := HP.out.far.len
        have h27 := opCells_len (opR l') (opR_wf l' (by omega)).r
        have HR27 := Lib.hid h27
        clear h27
        have HM := Lib.hid (rdm_rr HP.out.rr)
        go_wp2_with (first
          | (go_at_call 28; refine (leftF HP.out.rr).mono ?_; rintro e w2 ⟨rfl, rfl⟩)
          | (go_at_call 52; refine (ScrTake.take g l' _ HP.out.rr (by omega)).mono ?_; rintro e w2 ⟨rfl, h1, h2⟩; have HT := Lib.hid (HP.out.took h1 h2); clear h1 h2 HP)
          | ((with_reducible refine wpList_slice_one rfl 67 (.tmp 13) rfl 88 Try.underlying67 hi0 hz0 hz1 (by decide) (by decide) (opCells (opR l')).toArray ?hx ?hs ?_); (case hx => rfl); (case hs => rw [List.size_toArray]; exact HR27.out))
          | (at_builtin; refine wpList_append_own _ rfl (.tmp 11) (.tmp 14) 67 rfl base 88 i0 _ 27 128 Try.underlying67 hi0 hz0 hz1 hz2 rfl (by decide) _ out.length (out.flatMap opCells) rfl (own_alloc HT.out.row _) ⟨w2.heap.size, 0, none⟩ 1 1 (opCells (opR l')) rfl (by rw [HR27.out]) (cells_new w2 (opCells (opR l')) 88) (opCells_one (opR l')) (by unfold maxLen; omega) (by omega) (Nat.le_trans HT.out.le (by simp)) ?_; intro v3 w3 hown hgrow _; have HP3 := Lib.hid (HT.out.put h0 hown hgrow); clear hown hgrow HT))
        have HM3 := Lib.hid (rdm_rr HP3.out.rr)
        have hless : ((qE l').2 = false → (qE l').1.length < l'.length) := qE_less
        go_roundw
        case rel => exact ⟨out ++ [opR l'], qE l', HP3⟩
        case measure =>
          rw [HM3.out, HM.out]
          cases hq : (qE l').2
          · have := hless hq
            simp; omega
          · simp
      · have h0' : l'.length = 0 := by omega
        have HL0 := Lib.hid h0'
        obtain ⟨A', c', rfl, hnc⟩ := own_form27 HP.out.row
        have hfew := Far.few HP.out.far (by omega)
        have tg : Hid True := trivial
        go_wp2_with (first
          | (go_at_call 28; refine (leftF HP.out.rr).mono ?_; rintro e w2 ⟨rfl, rfl⟩)
          | (go_at_call 27; refine (Reader.bad _ _ _ _ HP.out.rr).mono ?_; rintro e w2 ⟨rfl, rfl⟩))
        go_ret2
        have hi := HP.out.far.end_is (by omega) rfl HL0.out
        exact ⟨out, A', c', 0, rfl, HP.out.below, hnc, Or.inl ⟨hi, rfl, rdO_own HP.out.row hi.wf (by omega)⟩⟩
end Go.Proofs.Ytdojhdglbajinaa.ScrParse
