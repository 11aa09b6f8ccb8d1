/- DERIVED. script.take: an operation is read. -/
import Derived.Test.YtdojhdglbajinaaScrEnc
import Derived.Laws.CopyOwn
namespace Go.Proofs.Ytdojhdglbajinaa.ScrTake
open Go.RowKit Go.Proofs.Ytdojhdglbajinaa.Mem Go.Proofs.Ytdojhdglbajinaa.Writer Go.Proofs.Ytdojhdglbajinaa.Reader Go.Proofs.Ytdojhdglbajinaa.Enc Go.Proofs.Ytdojhdglbajinaa.Plain Go.Proofs.Ytdojhdglbajinaa.ScrOp Go.Proofs.Ytdojhdglbajinaa.ScrEnc
set_option linter.unusedVariables false
set_option linter.unusedSimpArgs false

theorem rr_low {w w' : World} {g : Nat} {l : List UInt8} {b : Bool} (h : Rr w g l b) (hb : ∀ i, i ≤ g → w'.heap[i]? = w.heap[i]?) : Rr w' g l b := by
  obtain ⟨A, c, h1, h2, h3, h4, h5⟩ := h.row
  exact ⟨A, c, (hb g (Nat.le_refl _)).trans h1, h2.keep fun ad e j hs => World.cell?_of_block (w := w) (hb _ (by rw [add_block]; exact Nat.le_of_lt (h5 _ e))), h3, h4, h5⟩
/-- What a call leaves as it was: all that stood but block g. -/
structure But (g : Nat) (w w' : World) : Prop where
  below : Below g w w'
  other : ∀ i, i < w.heap.size → i ≠ g → w'.heap[i]? = w.heap[i]?
theorem But.refl (g : Nat) (w : World) : But g w w := ⟨Below.refl _ _, fun _ _ _ => rfl⟩
theorem But.trans {g : Nat} {a b c : World} (h : But g a b) (k : But g b c) : But g a c :=
  ⟨h.below.trans k.below, fun i hi hg => (k.other i (by have := h.below.size; omega) hg).trans (h.other i hi hg)⟩
theorem But.ch {g : Nat} {a b c : World} (h : But g a b) (k : Ch g b c) : But g a c :=
  ⟨h.below.trans k.below, fun i hi hg => (k.other i hg).trans (h.other i hi hg)⟩
theorem But.on {g : Nat} {a b c : World} (h : But g a b) (hg : g ≤ a.heap.size) (k : Below a.heap.size b c) : But g a c :=
  ⟨h.below.trans (k.mono hg), fun i hi hi2 => (k.block i hi).trans (h.other i hi hi2)⟩

def Z : Array Value := #[.int .u8 0, .int .u8 0, .int .i64 0, .int .i64 0, .int .i64 0, .string ⟨#[]⟩, .string ⟨#[]⟩, .string ⟨#[]⟩, .string ⟨#[]⟩, .int .i64 0, .int .i64 0, .int .u8 0, .int .u8 0, .int .u8 0, .int .u8 0, .int .u8 0, .int .u8 0, .int .u8 0, .int .u8 0, .int .u8 0, .int .u8 0, .int .u8 0, .int .u8 0, .int .u8 0, .int .u8 0, .int .u8 0, .int .u8 0]
/-- Between two reads, ahead of the operation's box. -/
structure T1 (w wk : World) (g : Nat) (s : S2) : Prop where
  rr : Rr wk g s.1 s.2
  gt : g < w.heap.size
  zero : wk.heap[w.heap.size]? = some (.cells Z 88 (0, 0))
  size : wk.heap.size = w.heap.size + 1
  but : But g w wk
  len : s.1.length ≤ 70368744177664
theorem T1.start {w : World} {g : Nat} {l : List UInt8} (h : Rr w g l false) (hl : l.length ≤ 70368744177664) : T1 w (w.alloc (.cells Z 88)) g (q0 l) := by
  have hg : g < w.heap.size := by obtain ⟨A, c, h1, _⟩ := h.row; exact (Array.getElem?_eq_some_iff.1 h1).1
  exact ⟨h.below (below1 w _), hg, heap_alloc_last w _, by simp, (But.refl _ _).on (Nat.le_of_lt hg) (below1 w _), hl⟩
theorem T1.step {w wk wl : World} {g : Nat} {s s' : S2} (h : T1 w wk g s) (h1 : Rr wl g s'.1 s'.2) (h2 : Ch g wk wl) (hl : s'.1.length ≤ s.1.length) : T1 w wl g s' :=
  ⟨h1, h.gt, (h2.other _ (by have := h.gt; omega)).trans h.zero, h2.size.trans h.size, h.but.ch h2, Nat.le_trans hl h.len⟩
section
variable {w wk : World} {g : Nat} {s : S2}
theorem t1u8 (h : T1 w wk g s) : Calls Try.prog 21 #[.pointer (some ⟨g, 0, none⟩)] wk fun e w' => ∃ (v : Nat) (s' : S2), e = .returned (.int .u8 (v : Int)) ∧ Hid (v = nm 1 s ∧ s' = nx 1 s) ∧ Hid (T1 w w' g s') :=
  (Reader.u8 g s.1 s.2 wk h.rr h.len).mono fun e w' ⟨he, h1, h2⟩ => ⟨_, _, he, ⟨rfl, rfl⟩, h.step h1 h2 (nx_len 1 s)⟩
theorem t1i64 (h : T1 w wk g s) : Calls Try.prog 24 #[.pointer (some ⟨g, 0, none⟩)] wk fun e w' => ∃ (v : Int) (s' : S2), e = .returned (.int .i64 v) ∧ Hid (v = nmi s ∧ s' = nx 8 s) ∧ Hid (T1 w w' g s') :=
  (Reader.i64 g s.1 s.2 wk h.rr h.len).mono fun e w' ⟨he, h1, h2⟩ => ⟨_, _, he, ⟨rfl, rfl⟩, h.step h1 h2 (nx_len 8 s)⟩
theorem t1str (h : T1 w wk g s) : Calls Try.prog 25 #[.pointer (some ⟨g, 0, none⟩)] wk fun e w' => ∃ (v : List UInt8) (s' : S2), e = .returned (.string (str v)) ∧ Hid (v = tt s ∧ s' = tx s) ∧ Hid (T1 w w' g s') :=
  (Reader.string g s.1 s.2 wk h.rr h.len).mono fun e w' ⟨he, h1, h2⟩ => ⟨_, _, he, ⟨rfl, rfl⟩, h.step h1 h2 (tx_len s)⟩
end
/-- Between two reads, the operation's box made, at n. -/
structure T2 (w wk : World) (g n : Nat) (s : S2) (C : Array Value) : Prop where
  rr : Rr wk g s.1 s.2
  gt : g < w.heap.size
  zero : wk.heap[w.heap.size]? = some (.cells Z 88 (0, 0))
  nn : w.heap.size < n
  blk : wk.heap[n]? = some (.cells C 88 (0, 0))
  but : But g w wk
  len : s.1.length ≤ 70368744177664
theorem T2.start {w wk : World} {g : Nat} {s : S2} (h : T1 w wk g s) (C : Array Value) : T2 w (wk.alloc (.cells C 88)) g wk.heap.size s C := by
  have hs := h.size
  exact ⟨h.rr.below (below1 wk _), h.gt, ((below1 wk _).block _ (by omega)).trans h.zero, by omega, heap_alloc_last wk _, h.but.on (Nat.le_of_lt h.gt) ((below1 wk _).mono (by omega)), h.len⟩
theorem T2.step {w wk wl : World} {g n : Nat} {s s' : S2} {C : Array Value} (h : T2 w wk g n s C) (h1 : Rr wl g s'.1 s'.2) (h2 : Ch g wk wl) (hl : s'.1.length ≤ s.1.length) : T2 w wl g n s' C :=
  ⟨h1, h.gt, (h2.other _ (by have := h.gt; omega)).trans h.zero, h.nn, (h2.other _ (by have := h.gt; have := h.nn; omega)).trans h.blk, h.but.ch h2, Nat.le_trans hl h.len⟩
theorem T2.store {w wk wl : World} {g n : Nat} {s : S2} {C C' : Array Value} (h : T2 w wk g n s C) (hc : Ch n wk wl) (hb : wl.heap[n]? = some (.cells C' 88 (0, 0))) : T2 w wl g n s C' :=
  ⟨rr_low h.rr (fun i hi => hc.other i (by have := h.gt; have := h.nn; omega)), h.gt, (hc.other _ (by have := h.nn; omega)).trans h.zero, h.nn, hb, h.but.on (Nat.le_of_lt h.gt) (hc.below.mono (by have := h.nn; omega)), h.len⟩
theorem T2.cell {w wk : World} {g n : Nat} {s : S2} {C : Array Value} (h : T2 w wk g n s C) (j : Nat) (v : Value) (hj : C[j]? = some v) : wk.cell? ⟨n, j, none⟩ = some v := by
  simp [World.cell?, h.blk]; exact hj
theorem T2.frozen {w wk : World} {g n : Nat} {s : S2} {C : Array Value} (h : T2 w wk g n s C) (j : Nat) : wk.frozen? ⟨n, j, none⟩ = false := Joins.unfrozen_of_block h.blk j
section
variable {w wk : World} {g n : Nat} {s : S2} {C : Array Value}
theorem t2u8 (h : T2 w wk g n s C) : Calls Try.prog 21 #[.pointer (some ⟨g, 0, none⟩)] wk fun e w' => ∃ (v : Nat) (s' : S2), e = .returned (.int .u8 (v : Int)) ∧ Hid (v = nm 1 s ∧ s' = nx 1 s) ∧ Hid (T2 w w' g n s' C) :=
  (Reader.u8 g s.1 s.2 wk h.rr h.len).mono fun e w' ⟨he, h1, h2⟩ => ⟨_, _, he, ⟨rfl, rfl⟩, h.step h1 h2 (nx_len 1 s)⟩
theorem t2i64 (h : T2 w wk g n s C) : Calls Try.prog 24 #[.pointer (some ⟨g, 0, none⟩)] wk fun e w' => ∃ (v : Int) (s' : S2), e = .returned (.int .i64 v) ∧ Hid (v = nmi s ∧ s' = nx 8 s) ∧ Hid (T2 w w' g n s' C) :=
  (Reader.i64 g s.1 s.2 wk h.rr h.len).mono fun e w' ⟨he, h1, h2⟩ => ⟨_, _, he, ⟨rfl, rfl⟩, h.step h1 h2 (nx_len 8 s)⟩
theorem t2str (h : T2 w wk g n s C) : Calls Try.prog 25 #[.pointer (some ⟨g, 0, none⟩)] wk fun e w' => ∃ (v : List UInt8) (s' : S2), e = .returned (.string (str v)) ∧ Hid (v = tt s ∧ s' = tx s) ∧ Hid (T2 w w' g n s' C) :=
  (Reader.string g s.1 s.2 wk h.rr h.len).mono fun e w' ⟨he, h1, h2⟩ => ⟨_, _, he, ⟨rfl, rfl⟩, h.step h1 h2 (tx_len s)⟩
end
/-- The operation's box when j of the bytes at its end are read; H: the cells ahead of these. -/
def blkAt (H : List Value) (s : S2) (j : Nat) : Array Value := (H ++ ((rBs s j).map cellB ++ List.replicate (16 - j) (Value.int .u8 0))).toArray
theorem blk_at {H : List Value} (hH : H.length = 11) (s : S2) (j : Nat) (hj : j < 16) : (blkAt H s j)[11 + j]? = some (.int .u8 0) := by
  unfold blkAt
  rw [List.getElem?_toArray, List.getElem?_append_right (by omega), hH, List.getElem?_append_right (by rw [List.length_map, rBs_len]; omega), List.length_map, rBs_len, List.getElem?_replicate, if_pos (by omega)]
theorem blk_set {H : List Value} (hH : H.length = 11) (s : S2) (j : Nat) (hj : j < 16) (v : Nat) (hv : v = nm 1 (qb s j)) : (blkAt H s j).setIfInBounds (11 + j) (.int .u8 (v : Int)) = blkAt H s (j + 1) := by
  unfold blkAt
  rw [List.setIfInBounds_toArray, List.set_append_right _ _ (by omega), hH, List.set_append_right _ _ (by rw [List.length_map, rBs_len]; omega), List.length_map, rBs_len, show 11 + j - 11 - j = 0 by omega, show 16 - j = (16 - (j + 1)) + 1 by omega, List.replicate_succ, List.set_cons_zero, rBs_succ, List.map_append, List.append_assoc]
  have e : cellB (rB s j) = .int .u8 (v : Int) := by unfold cellB; rw [rB_nat, hv]
  simp [e]
theorem blk_end {H : List Value} (s : S2) : blkAt H s 16 = (H ++ (rBs s 16).map cellB).toArray := by simp [blkAt]
theorem blk_fin {l : List UInt8} {v0 v1 : Nat} {v2 v3 v4 v9 v10 : Int} {v5 v6 v7 v8 : List UInt8} {s1 s2 s3 s4 s5 s6 s7 s8 s9 s10 s11 : S2} {H : List Value} (hH : H = [.int .u8 (v0 : Int), .int .u8 (v1 : Int), .int .i64 v2, .int .i64 v3, .int .i64 v4, .string (str v5), .string (str v6), .string (str v7), .string (str v8), .int .i64 v9, .int .i64 v10])
    (e0 : v0 = nm 1 (q0 l) ∧ s1 = nx 1 (q0 l)) (e1 : v1 = nm 1 s1 ∧ s2 = nx 1 s1) (e2 : v2 = nmi s2 ∧ s3 = nx 8 s2) (e3 : v3 = nmi s3 ∧ s4 = nx 8 s3) (e4 : v4 = nmi s4 ∧ s5 = nx 8 s4) (e5 : v5 = tt s5 ∧ s6 = tx s5) (e6 : v6 = tt s6 ∧ s7 = tx s6)
    (e7 : v7 = tt s7 ∧ s8 = tx s7) (e8 : v8 = tt s8 ∧ s9 = tx s8) (e9 : v9 = nmi s9 ∧ s10 = nx 8 s9) (e10 : v10 = nmi s10 ∧ s11 = nx 8 s10) : s11 = q11 l ∧ blkAt H s11 16 = (opCells (opR l)).toArray := by
  obtain ⟨rfl, rfl⟩ := e0; obtain ⟨rfl, rfl⟩ := e1; obtain ⟨rfl, rfl⟩ := e2; obtain ⟨rfl, rfl⟩ := e3; obtain ⟨rfl, rfl⟩ := e4; obtain ⟨rfl, rfl⟩ := e5; obtain ⟨rfl, rfl⟩ := e6; obtain ⟨rfl, rfl⟩ := e7; obtain ⟨rfl, rfl⟩ := e8; obtain ⟨rfl, rfl⟩ := e9; obtain ⟨rfl, rfl⟩ := e10
  refine ⟨rfl, ?_⟩
  rw [blk_end, hH]
  rfl
theorem Ch4 (n : Nat) (w : World) (a b c d : Value) : Ch n w ((((w.setCell ⟨n, 7, none⟩ a).setCell ⟨n, 8, none⟩ b).setCell ⟨n, 9, none⟩ c).setCell ⟨n, 10, none⟩ d) :=
  (((Ch.store n 7 _ _).trans (Ch.store n 8 _ _)).trans (Ch.store n 9 _ _)).trans (Ch.store n 10 _ _)
section
variable {P : Program} {ops : Array Oper} {rest : List Oper} {op : Oper} {a : Act} {w : World} {Q : Exit → Act → World → Prop}
theorem wpList_built (hg : op.guard = none) (t : TypeId) (parts : Array (Nat × Operand)) (ho : op.op = .build t parts) (vs : List (Nat × Value)) (hv : (parts.map fun (i, x) => (i, a.eval x)).toList = vs) (cells : Array Value)
    (hb : P.built t vs = some cells) (h : wpList P ops Q rest (a.put op.dst (.agg cells)) w) : wpList P ops Q (op :: rest) a w := by
  have e : P.built t (parts.map fun (i, x) => (i, a.eval x)).toList = some cells := by rw [hv]; exact hb
  refine wpList_build hg t parts ho (by rw [e]; rfl) ?_
  rw [e]
  exact h
end
theorem built88 (v0 v1 v2 v3 v4 : Int) (s5 s6 : ByteArray) : Try.prog.built 88 [(0, .int .u8 v0), (1, .int .u8 v1), (2, .int .i64 v2), (3, .int .i64 v3), (4, .int .i64 v4), (5, .string s5), (6, .string s6)] =
    some #[.int .u8 v0, .int .u8 v1, .int .i64 v2, .int .i64 v3, .int .i64 v4, .string s5, .string s6, .string ⟨#[]⟩, .string ⟨#[]⟩, .int .i64 0, .int .i64 0, .int .u8 0, .int .u8 0, .int .u8 0, .int .u8 0, .int .u8 0, .int .u8 0, .int .u8 0, .int .u8 0, .int .u8 0, .int .u8 0, .int .u8 0, .int .u8 0, .int .u8 0, .int .u8 0, .int .u8 0, .int .u8 0] := by kernel_rfl
theorem one88 (v0 v1 v2 v3 v4 : Int) (s5 s6 : ByteArray) : (#[.int .u8 v0, .int .u8 v1, .int .i64 v2, .int .i64 v3, .int .i64 v4, .string s5, .string s6, .string ⟨#[]⟩, .string ⟨#[]⟩, .int .i64 0, .int .i64 0, .int .u8 0, .int .u8 0, .int .u8 0, .int .u8 0, .int .u8 0, .int .u8 0, .int .u8 0, .int .u8 0, .int .u8 0, .int .u8 0, .int .u8 0, .int .u8 0, .int .u8 0, .int .u8 0, .int .u8 0, .int .u8 0] : Array Value).all (·.oneCell') = true := by simp [Value.oneCell']
theorem built85 (s0 s1 : ByteArray) (v2 v3 : Int) : Try.prog.built 85 [(0, .string s0), (1, .string s1), (2, .int .i64 v2), (3, .int .i64 v3)] = some #[.string s0, .string s1, .int .i64 v2, .int .i64 v3] := by kernel_rfl
set_option maxHeartbeats 1000000 in
set_option maxRecDepth 100000 in
theorem take (g : Nat) (l : List UInt8) (w : World) (hR : Rr w g l false) (hl : l.length ≤ 70368744177664) :
    Calls Try.prog 52 #[.pointer (some ⟨g, 0, none⟩)] w fun e w' => e = .returned (.agg (opCells (opR l)).toArray) ∧ Rr w' g (qE l).1 (qE l).2 ∧ But g w w' := by
  have HT0 := Lib.hid (T1.start hR hl)
  clear hR
  have tk0 : Hid True := trivial
  have tk1 : Hid True := trivial
  have tk2 : Hid True := trivial
  have tk3 : Hid True := trivial
  have tk4 : Hid True := trivial
  have tk5 : Hid True := trivial
  have tk6 : Hid True := trivial
  have tk7 : Hid True := trivial
  have tk8 : Hid True := trivial
  have tk9 : Hid True := trivial
  have tk10 : Hid True := trivial
  go_enter Try.func52, Try.ntmps52
  go_wp2_with (first
    | ((with_reducible refine wpList_built rfl 88 #[(0, .tmp 6), (1, .tmp 8), (2, .tmp 10), (3, .tmp 12), (4, .tmp 14), (5, .tmp 16), (6, .tmp 18)] rfl _ ?hv _ (built88 v0 v1 v2 v3 v4 (str v5) (str v6)) ?_); (case hv => rfl))
    | ((with_reducible refine wpList_built rfl 85 #[(0, .tmp 21), (1, .tmp 23), (2, .tmp 25), (3, .tmp 27)] rfl _ ?hv _ (built85 (str v7) (str v8) v9 v10) ?_); (case hv => rfl))
    | ((with_reducible refine wpList_store_new rfl 88 (.tmp 3) (.tmp 19) rfl _ _ #[.int .u8 (v0 : Int), .int .u8 (v1 : Int), .int .i64 v2, .int .i64 v3, .int .i64 v4, .string (str v5), .string (str v6), .string ⟨#[]⟩, .string ⟨#[]⟩, .int .i64 0, .int .i64 0, .int .u8 0, .int .u8 0, .int .u8 0, .int .u8 0, .int .u8 0, .int .u8 0, .int .u8 0, .int .u8 0, .int .u8 0, .int .u8 0, .int .u8 0, .int .u8 0, .int .u8 0, .int .u8 0, .int .u8 0, .int .u8 0] 88 ?hx ?hy ?hi ?hsz ?h1 ?_); (case hx => rfl); (case hy => rfl); (case hi => exact i88s); (case hsz => rfl); (case h1 => exact one88 _ _ _ _ _ _ _))
    | (clear tk0; go_at_call 21; refine (t1u8 HT0.out).mono ?_; rintro e w1 ⟨v0, s1, rfl, e0, HT1⟩; clear HT0)
    | (clear tk1; go_at_call 21; refine (t1u8 HT1.out).mono ?_; rintro e w2 ⟨v1, s2, rfl, e1, HT2⟩; clear HT1)
    | (clear tk2; go_at_call 24; refine (t1i64 HT2.out).mono ?_; rintro e w3 ⟨v2, s3, rfl, e2, HT3⟩; clear HT2)
    | (clear tk3; go_at_call 24; refine (t1i64 HT3.out).mono ?_; rintro e w4 ⟨v3, s4, rfl, e3, HT4⟩; clear HT3)
    | (clear tk4; go_at_call 24; refine (t1i64 HT4.out).mono ?_; rintro e w5 ⟨v4, s5, rfl, e4, HT5⟩; clear HT4)
    | (clear tk5; go_at_call 25; refine (t1str HT5.out).mono ?_; rintro e w6 ⟨v5, s6, rfl, e5, HT6⟩; clear HT5)
    | (clear tk6; go_at_call 25; refine (t1str HT6.out).mono ?_; rintro e w7 ⟨v6, s7, rfl, e6, HT7⟩; clear HT6)
    | (clear tk7; go_at_call 25; have HTS := Lib.hid (T2.start HT7.out #[.int .u8 (v0 : Int), .int .u8 (v1 : Int), .int .i64 v2, .int .i64 v3, .int .i64 v4, .string (str v5), .string (str v6), .string ⟨#[]⟩, .string ⟨#[]⟩, .int .i64 0, .int .i64 0, .int .u8 0, .int .u8 0, .int .u8 0, .int .u8 0, .int .u8 0, .int .u8 0, .int .u8 0, .int .u8 0, .int .u8 0, .int .u8 0, .int .u8 0, .int .u8 0, .int .u8 0, .int .u8 0, .int .u8 0, .int .u8 0]); obtain ⟨n, hn⟩ : ∃ n, n = w7.heap.size := ⟨_, rfl⟩; rw [← hn] at HTS ⊢; clear hn HT7; refine (t2str HTS.out).mono ?_; rintro e w8 ⟨v7, s8, rfl, e7, HT8⟩; clear HTS)
    | (clear tk8; go_at_call 25; refine (t2str HT8.out).mono ?_; rintro e w9 ⟨v8, s9, rfl, e8, HT9⟩; clear HT8)
    | (clear tk9; go_at_call 24; refine (t2i64 HT9.out).mono ?_; rintro e w10 ⟨v9, s10, rfl, e9, HT10⟩; clear HT9)
    | (clear tk10; go_at_call 24; refine (t2i64 HT10.out).mono ?_; rintro e w11 ⟨v10, s11, rfl, e10, HT11⟩; clear HT10; have c7 := HT11.out.cell 7 _ rfl; have c8 := HT11.out.cell 8 _ rfl; have c9 := HT11.out.cell 9 _ rfl; have c10 := HT11.out.cell 10 _ rfl; have f7 := HT11.out.frozen 7; have f8 := HT11.out.frozen 8; have f9 := HT11.out.frozen 9; have f10 := HT11.out.frozen 10))
  have hb := Joins.block_setCell (Joins.block_setCell (Joins.block_setCell (Joins.block_setCell (i := 7) HT11.out.blk (.string (str v7))) (i := 8) (.string (str v8))) (i := 9) (.int .i64 v9)) (i := 10) (.int .i64 v10)
  have hb2 := Eq.trans hb (show _ = some (Obj.cells (blkAt [.int .u8 (v0 : Int), .int .u8 (v1 : Int), .int .i64 v2, .int .i64 v3, .int .i64 v4, .string (str v5), .string (str v6), .string (str v7), .string (str v8), .int .i64 v9, .int .i64 v10] s11 0) 88 (0, 0)) from rfl)
  have HTL := Lib.hid (HT11.out.store (Ch4 n w11 _ _ _ _) hb2)
  clear hb hb2 c7 c8 c9 c10 f7 f8 f9 f10 HT11
  obtain ⟨wx, hwx⟩ : ∃ x, x = ((((w11.setCell ⟨n, 7, none⟩ (.string (str v7))).setCell ⟨n, 8, none⟩ (.string (str v8))).setCell ⟨n, 9, none⟩ (.int .i64 v9)).setCell ⟨n, 10, none⟩ (.int .i64 v10)) := ⟨_, rfl⟩
  rw [← hwx] at HTL ⊢
  clear hwx
  obtain ⟨H, hH⟩ : ∃ H : List Value, H = [.int .u8 (v0 : Int), .int .u8 (v1 : Int), .int .i64 v2, .int .i64 v3, .int .i64 v4, .string (str v5), .string (str v6), .string (str v7), .string (str v8), .int .i64 v9, .int .i64 v10] := ⟨_, rfl⟩
  rw [← hH] at HTL
  have hHl : H.length = 11 := by rw [hH]; rfl
  have HH := Lib.hid hH
  clear hH
  go_loopw [30] (fun i wr => ∃ (j : Nat) (s : S2), j ≤ 16 ∧ i = .int .i64 j ∧ Hid (s = qb s11 j) ∧ Hid (T2 w wr g n s (blkAt H s11 j))) (fun i _ => 16 - (intOf i).toNat)
  case atStart => exact ⟨0, s11, by omega, rfl, rfl, HTL⟩
  case round =>
    clear HTL
    obtain ⟨j, s, hj, rfl, HS, HT⟩ := hrel
    by_cases hj2 : j < 16
    · go_wp2_with (go_at_call 21; refine (t2u8 HT.out).mono ?_; rintro e wy ⟨v, s', rfl, ey, HTY⟩; clear HT; have cj := HTY.out.cell (11 + j) _ (blk_at hHl s11 j hj2); have fj := HTY.out.frozen (11 + j))
      have hb := Joins.block_setCell (i := 11 + j) HTY.out.blk (.int .u8 (v : Int))
      rw [blk_set hHl s11 j hj2 v (by rw [← HS.out]; exact ey.out.1)] at hb
      have HTZ := Lib.hid (HTY.out.store (Ch.store n (11 + j) wy _) hb)
      clear hb
      go_roundw
      case rel => exact ⟨j + 1, s', by omega, by go_num, by show s' = nx 1 (qb s11 j); rw [← HS.out]; exact ey.out.2, HTZ⟩
      case measure => simp [intOf]; omega
    · obtain rfl : j = 16 := by omega
      obtain ⟨hs11, hfin⟩ := blk_fin HH.out e0.out e1.out e2.out e3.out e4.out e5.out e6.out e7.out e8.out e9.out e10.out
      have HFIN := Lib.hid hfin
      have HS11 := Lib.hid hs11
      clear hfin hs11
      have hl27 : (blkAt H s11 16).size = 27 := by rw [blk_end]; simp [hHl, rBs_len]
      go_wp2_with (first
        | ((with_reducible refine wpList_load_mid rfl 88 (.tmp 3) rfl n 0 ?hx (blkAt H s11 16).toList _ ?hc Try.underlying88 rfl ?hi ?_); (case hx => rfl); (case hc => exact fun j v hv => by rw [Nat.zero_add]; exact HT.out.cell j v (by simpa using hv)); (case hi => rw [Array.length_toList, hl27]; exact i88s))
        | ((with_reducible refine wpList_store_row rfl 88 (.tmp 2) (.tmp 39) rfl w.heap.size (blkAt H s11 16) ?hx ?hy 88 _ HT.out.zero ?hi ?hold ?h1 ?_); (case hx => rfl); (case hy => rfl); (case hi => rw [hl27]; exact i88s); (case hold => rw [hl27]; rfl); (case h1 => rw [HFIN.out]; exact all_oneCell_toArray (opCells_one _))))
      have hz := setRow_heap wr w.heap.size _ (blkAt H s11 16) 88 (0, 0) HT.out.zero
      refine bodyPost_ret (Dec.results_c rfl _ _ w.heap.size 88 _ (0, 0) _ (by rfl) hz Try.underlying88 rfl (by rw [hl27]; exact i88s)) rfl ?_
      have hgt := HT.out.gt
      refine ⟨by rw [HFIN.out], rr_low (w := wr) (by have := HT.out.rr; rw [HS.out, HS11.out] at this; exact this) (fun i hi => setRow_other _ _ _ _ (by omega)), HT.out.but.on (Nat.le_of_lt hgt) (below_setRow (Below.refl _ _) (Nat.le_refl _) _)⟩
end Go.Proofs.Ytdojhdglbajinaa.ScrTake
