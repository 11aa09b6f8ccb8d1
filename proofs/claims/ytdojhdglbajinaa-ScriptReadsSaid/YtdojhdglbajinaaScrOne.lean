/- DERIVED. The document's reader of one operation. -/
import Derived.Test.YtdojhdglbajinaaScrEq
import Derived.Test.YtdojhdglbajinaaScrRef
import Derived.Test.YtdojhdglbajinaaRefD
namespace Go.Proofs.Ytdojhdglbajinaa.ScrOne
open Go.RowKit Go.Proofs.Ytdojhdglbajinaa.Mem Go.Proofs.Ytdojhdglbajinaa.Writer Go.Proofs.Ytdojhdglbajinaa.Reader Go.Proofs.Ytdojhdglbajinaa.Enc Go.Proofs.Ytdojhdglbajinaa.Plain Go.Proofs.Ytdojhdglbajinaa.ScrOp Go.Proofs.Ytdojhdglbajinaa.ScrTake Go.Proofs.Ytdojhdglbajinaa.ScrOf Go.Proofs.Ytdojhdglbajinaa.Reg Go.Proofs.YtdojhdglbajinaaW.PrintLast
set_option linter.unusedVariables false
set_option linter.unusedSimpArgs false

/-- The reader ahead of number k, as the outer loop stands; ahead of text j. -/
def st (l : List UInt8) : Nat → S2 | 0 => q0 l | 1 => q1 l | 2 => q2 l | 3 => q3 l | 4 => q4 l | 5 => q5 l | 6 => q10 l | _ => q11 l
def sn (l : List UInt8) (k : Nat) : S2 := if k = 5 then q9 l else st l k
def ti (l : List UInt8) : Nat → S2 | 0 => q5 l | 1 => q6 l | 2 => q7 l | 3 => q8 l | _ => q9 l
def sz : Nat → Nat | 0 => 1 | 1 => 1 | _ => 8
def nv (l : List UInt8) (k : Nat) : Nat := nm (sz k) (sn l k)
theorem sz_le (k : Nat) : sz k ≤ 8 := by unfold sz; split <;> omega
theorem st_succ (l : List UInt8) (k : Nat) (h : k < 7) : st l (k + 1) = nx (sz k) (sn l k) := by
  match k, h with
  | 0, _ => rfl
  | 1, _ => rfl
  | 2, _ => rfl
  | 3, _ => rfl
  | 4, _ => rfl
  | 5, _ => rfl
  | 6, _ => rfl
theorem ti_succ (l : List UInt8) (j : Nat) (h : j < 4) : ti l (j + 1) = tx (ti l j) := by
  match j, h with
  | 0, _ => rfl
  | 1, _ => rfl
  | 2, _ => rfl
  | 3, _ => rfl
theorem ti_len (l : List UInt8) : ∀ j, j ≤ 4 → (ti l j).1.length ≤ (q5 l).1.length := by
  intro j
  induction j with
  | zero => intro _; exact Nat.le_refl _
  | succ j ih => intro h; rw [ti_succ l j (by omega)]; exact Nat.le_trans (tx_len _) (ih (by omega))
theorem sn_len (l : List UInt8) : ∀ k, k ≤ 7 → (st l k).1.length ≤ l.length ∧ (sn l k).1.length ≤ l.length := by
  intro k
  induction k with
  | zero => intro _; exact ⟨Nat.le_refl _, Nat.le_refl _⟩
  | succ k ih =>
    intro h
    have h1 : (st l (k + 1)).1.length ≤ l.length := by rw [st_succ l k (by omega)]; exact Nat.le_trans (nx_len _ _) (ih (by omega)).2
    refine ⟨h1, ?_⟩
    unfold sn
    split
    · rename_i hk
      obtain rfl : k = 4 := by omega
      exact Nat.le_trans (ti_len l 4 (by omega)) h1
    · exact h1
theorem nx_bad {s : S2} {n : Nat} (h : s.2 = true) : (nx n s).2 = true := by show isBad s.1 s.2 n = true; rw [h]; exact RefD.bad_true _ _
theorem tx_bad {s : S2} (h : s.2 = true) : (tx s).2 = true := by show txtBad s.1 s.2 = true; unfold txtBad; rw [h, RefD.bad_true]; exact RefD.bad_true _ _
theorem qb_bad {s : S2} (h : s.2 = true) : ∀ k, (qb s k).2 = true
  | 0 => h
  | k + 1 => nx_bad (qb_bad h k)
theorem q9_bad {l : List UInt8} (j : Nat) (hj : j ≤ 4) (h : (ti l j).2 = true) : (q9 l).2 = true := by
  match j, hj with
  | 0, _ => exact tx_bad (tx_bad (tx_bad (tx_bad h)))
  | 1, _ => exact tx_bad (tx_bad (tx_bad h))
  | 2, _ => exact tx_bad (tx_bad h)
  | 3, _ => exact tx_bad h
  | 4, _ => exact h
theorem qE9 {l : List UInt8} (h : (q9 l).2 = true) : (qE l).2 = true := qb_bad (nx_bad (nx_bad h)) 16
theorem st_bad {l : List UInt8} (k : Nat) (hk : k ≤ 7) (h : (st l k).2 = true) : (qE l).2 = true := by
  have h5 : (q5 l).2 = true → (qE l).2 = true := fun h => qE9 (q9_bad 0 (by omega) h)
  match k, hk with
  | 0, _ => cases h
  | 1, _ => exact h5 (nx_bad (nx_bad (nx_bad (nx_bad h))))
  | 2, _ => exact h5 (nx_bad (nx_bad (nx_bad h)))
  | 3, _ => exact h5 (nx_bad (nx_bad h))
  | 4, _ => exact h5 (nx_bad h)
  | 5, _ => exact h5 h
  | 6, _ => exact qb_bad (nx_bad h) 16
  | 7, _ => exact qb_bad h 16
theorem ti_bad {l : List UInt8} (j : Nat) (hj : j ≤ 4) (h : (ti l j).2 = true) : (qE l).2 = true := qE9 (q9_bad j hj h)
/-! ### The bytes at the end -/
theorem qb_drop (x : List UInt8) : ∀ j, j ≤ x.length → qb (x, false) j = (x.drop j, false)
  | 0, _ => rfl
  | j + 1, h => by
    show nx 1 (qb (x, false) j) = _
    rw [qb_drop x j (by omega)]
    have hb : isBad (x.drop j) false 1 = false := by simp [isBad]; omega
    unfold nx rest
    simp only [hb]
    simp [List.drop_drop]
theorem qb_short (x : List UInt8) (h : x.length < 16) : (qb (x, false) 16).2 = true := by
  have h1 := qb_drop x x.length (Nat.le_refl _)
  have h2 : (qb (x, false) (x.length + 1)).2 = true := by
    show (nx 1 (qb (x, false) x.length)).2 = true
    rw [h1]
    unfold nx isBad
    simp
  have h3 : ∀ d, (qb (x, false) (x.length + 1 + d)).2 = true := by
    intro d
    induction d with
    | zero => exact h2
    | succ d ih => exact nx_bad ih
  have := h3 (16 - (x.length + 1))
  rwa [show x.length + 1 + (16 - (x.length + 1)) = 16 by omega] at this
theorem rB_at (x : List UInt8) (j : Nat) (h : j < x.length) : nm 1 (qb (x, false) j) = x[j].toNat := by
  rw [qb_drop x j (by omega)]
  have hb : isBad (x.drop j) false 1 = false := by simp [isBad]; omega
  unfold nm got
  simp only [hb]
  show num ((x.drop j).take 1) = _
  rw [List.drop_eq_getElem_cons h, List.take_succ_cons, List.take_zero]
  simp [num]
theorem pair_false {s : S2} (h : s.2 = false) : s = (s.1, false) := by rw [← h]
/-! ### Take and Text, of such a state -/
theorem takeOk (s : S2) (n : Nat) (w : World) (hn : n ≤ 8) (hl : s.1.length ≤ 70368744177664) (hs : s.2 = false) (hb : (nx n s).2 = false) :
    Calls Try.prog 22 #[.string (str s.1), .int .i64 (n : Int)] w fun e w' => e = .returned (.tuple #[.int .u64 (nm n s : Int), .string (str (nx n s).1), .bool true]) ∧ ∃ q, w' = w.drewN q := by
  obtain ⟨x, b⟩ := s
  simp only at hs; subst hs
  have h := RefT.take x n w hn hl
  have hb' : isBad x false n = false := hb
  rw [hb'] at h
  have h3 : RefT.left x n = (nx n (x, false)).1 := by unfold RefT.left nx rest; simp only [hb']; rfl
  rw [h3] at h
  exact h
theorem takeNo (s : S2) (n : Nat) (w : World) (hn : n ≤ 8) (hl : s.1.length ≤ 70368744177664) (hs : s.2 = false) (hb : (nx n s).2 = true) :
    Calls Try.prog 22 #[.string (str s.1), .int .i64 (n : Int)] w fun e w' => e = .returned (.tuple #[.int .u64 0, .string (str []), .bool false]) ∧ ∃ q, w' = w.drewN q := by
  obtain ⟨x, b⟩ := s
  simp only at hs; subst hs
  have h := RefT.take x n w hn hl
  have hb' : isBad x false n = true := hb
  rw [hb'] at h
  have h3 : RefT.left x n = [] := by unfold RefT.left; rw [hb']; rfl
  have h4 : got x false n = [] := by unfold got; rw [hb']; rfl
  rw [h3, h4] at h
  exact h
theorem textOk (s : S2) (w : World) (hl : s.1.length ≤ 70368744177664) (hs : s.2 = false) (hb : (tx s).2 = false) :
    Calls Try.prog 26 #[.string (str s.1)] w fun e w' => e = .returned (.tuple #[.string (str (tt s)), .string (str (tx s).1), .bool true]) ∧ ∃ q, w' = w.drewN q := by
  obtain ⟨x, b⟩ := s
  simp only at hs; subst hs
  exact RefD.textOk x w hl _ _ rfl rfl hb
theorem textNo (s : S2) (w : World) (hl : s.1.length ≤ 70368744177664) (hs : s.2 = false) (hb : (tx s).2 = true) :
    Calls Try.prog 26 #[.string (str s.1)] w fun e w' => ∃ t, e = .returned (.tuple #[.string t, .string (str []), .bool false]) ∧ ∃ q, w' = w.drewN q := by
  obtain ⟨x, b⟩ := s
  simp only at hs; subst hs
  exact RefD.textNo x w hl hb
/-! ### Memory -/
def nr (l : List UInt8) (k : Nat) : Array Value := #[.int .u64 (if 0 < k then nv l 0 else 0 : Nat), .int .u64 (if 1 < k then nv l 1 else 0 : Nat), .int .u64 (if 2 < k then nv l 2 else 0 : Nat), .int .u64 (if 3 < k then nv l 3 else 0 : Nat), .int .u64 (if 4 < k then nv l 4 else 0 : Nat), .int .u64 (if 5 < k then nv l 5 else 0 : Nat), .int .u64 (if 6 < k then nv l 6 else 0 : Nat)]
def tv (l : List UInt8) (j i : Nat) : List UInt8 := if i < j then tt (ti l i) else []
def tr (l : List UInt8) (j : Nat) : Array Value := #[.string (str (tv l j 0)), .string (str (tv l j 1)), .string (str (tv l j 2)), .string (str (tv l j 3))]
theorem nr_set (l : List UInt8) (k : Nat) (h : k < 7) : (nr l k).setIfInBounds k (.int .u64 (nv l k : Int)) = nr l (k + 1) := by
  match k, h with
  | 0, _ => simp [nr]
  | 1, _ => simp [nr]
  | 2, _ => simp [nr]
  | 3, _ => simp [nr]
  | 4, _ => simp [nr]
  | 5, _ => simp [nr]
  | 6, _ => simp [nr]
theorem nr_at (l : List UInt8) (k : Nat) (m : Nat) (h : k < 7) : ∃ v, (nr l m)[k]? = some v := by
  match k, h with
  | 0, _ => exact ⟨_, rfl⟩
  | 1, _ => exact ⟨_, rfl⟩
  | 2, _ => exact ⟨_, rfl⟩
  | 3, _ => exact ⟨_, rfl⟩
  | 4, _ => exact ⟨_, rfl⟩
  | 5, _ => exact ⟨_, rfl⟩
  | 6, _ => exact ⟨_, rfl⟩
theorem tr_set (l : List UInt8) (j : Nat) (h : j < 4) : (tr l j).setIfInBounds j (.string (str (tt (ti l j)))) = tr l (j + 1) := by
  match j, h with
  | 0, _ => simp [tr, tv]
  | 1, _ => simp [tr, tv]
  | 2, _ => simp [tr, tv]
  | 3, _ => simp [tr, tv]
theorem tr_at (l : List UInt8) (j : Nat) (m : Nat) (h : j < 4) : ∃ v, (tr l m)[j]? = some v := by
  match j, h with
  | 0, _ => exact ⟨_, rfl⟩
  | 1, _ => exact ⟨_, rfl⟩
  | 2, _ => exact ⟨_, rfl⟩
  | 3, _ => exact ⟨_, rfl⟩
def szs : Array Value := #[.int .i64 1, .int .i64 1, .int .i64 8, .int .i64 8, .int .i64 8, .int .i64 8, .int .i64 8]
theorem szs_at (k : Nat) (h : k < 7) : szs[k]? = some (.int .i64 (sz k : Int)) := by
  match k, h with
  | 0, _ => rfl
  | 1, _ => rfl
  | 2, _ => rfl
  | 3, _ => rfl
  | 4, _ => rfl
  | 5, _ => rfl
  | 6, _ => rfl
/-- Between two rounds: the result's box, the operation's (at b1), the numbers' (b2), the texts' (b3), the lengths' (b4). -/
structure LP (w wr : World) (b1 b2 b3 b4 : Nat) (l : List UInt8) (k j : Nat) (C : Array Value) : Prop where
  res : wr.heap[w.heap.size]? = some (.cells Z 91 (0, 0))
  box : wr.heap[b1]? = some (.cells C 91 (0, 0))
  arr : wr.heap[b2]? = some (.cells (nr l k) 104 (0, 0))
  txs : wr.heap[b3]? = some (.cells (tr l j) 105 (0, 0))
  szs : wr.heap[b4]? = some (.cells szs 3 (0, 0))
  o1 : w.heap.size < b1
  o2 : b1 < b2
  o3 : b2 < b3
  o4 : b3 < b4
  below : Below w.heap.size w wr
def z104 : Array Value := #[.int .u64 0, .int .u64 0, .int .u64 0, .int .u64 0, .int .u64 0, .int .u64 0, .int .u64 0]
def z105 : Array Value := #[.string ⟨#[]⟩, .string ⟨#[]⟩, .string ⟨#[]⟩, .string ⟨#[]⟩]
def w5of (w : World) : World := ((((w.alloc (.cells Z 91)).alloc (.cells Z 91)).alloc (.cells z104 104)).alloc (.cells z105 105)).alloc (.cells szs 3)
theorem LP.start (w : World) (l : List UInt8) : LP w (w5of w) (w.heap.size + 1) (w.heap.size + 1 + 1) (w.heap.size + 1 + 1 + 1) (w.heap.size + 1 + 1 + 1 + 1) l 0 0 Z := by
  have s1 : (w.alloc (.cells Z 91)).heap.size = w.heap.size + 1 := by simp
  have s2 : ((w.alloc (.cells Z 91)).alloc (.cells Z 91)).heap.size = w.heap.size + 1 + 1 := by simp
  have s3 : (((w.alloc (.cells Z 91)).alloc (.cells Z 91)).alloc (.cells z104 104)).heap.size = w.heap.size + 1 + 1 + 1 := by simp
  have s4 : ((((w.alloc (.cells Z 91)).alloc (.cells Z 91)).alloc (.cells z104 104)).alloc (.cells z105 105)).heap.size = w.heap.size + 1 + 1 + 1 + 1 := by simp
  refine ⟨?_, ?_, ?_, ?_, ?_, by omega, by omega, by omega, by omega, ?_⟩
  · unfold w5of
    rw [Below.heap_alloc _ _ _ (by omega), Below.heap_alloc _ _ _ (by omega), Below.heap_alloc _ _ _ (by omega), Below.heap_alloc _ _ _ (by omega)]
    exact heap_alloc_last w _
  · unfold w5of
    rw [Below.heap_alloc _ _ _ (by omega), Below.heap_alloc _ _ _ (by omega), Below.heap_alloc _ _ _ (by omega)]
    have := heap_alloc_last (w.alloc (.cells Z 91)) (.cells Z 91)
    rw [s1] at this; exact this
  · unfold w5of
    rw [Below.heap_alloc _ _ _ (by omega), Below.heap_alloc _ _ _ (by omega)]
    have := heap_alloc_last ((w.alloc (.cells Z 91)).alloc (.cells Z 91)) (.cells z104 104)
    rw [s2] at this; exact this
  · unfold w5of
    rw [Below.heap_alloc _ _ _ (by omega)]
    have := heap_alloc_last (((w.alloc (.cells Z 91)).alloc (.cells Z 91)).alloc (.cells z104 104)) (.cells z105 105)
    rw [s3] at this; exact this
  · unfold w5of
    have := heap_alloc_last ((((w.alloc (.cells Z 91)).alloc (.cells Z 91)).alloc (.cells z104 104)).alloc (.cells z105 105)) (.cells ScrOne.szs 3)
    rw [s4] at this; exact this
  · unfold w5of
    exact (((((Below.refl _ _).alloc (Nat.le_refl _) _).alloc (by omega) _).alloc (by omega) _).alloc (by omega) _).alloc (by omega) _
theorem LP.num {w wr : World} {b1 b2 b3 b4 : Nat} {l : List UInt8} {k j : Nat} {C : Array Value} (h : LP w wr b1 b2 b3 b4 l k j C) (hk : k < 7) (q : Nat) : LP w ((wr.drewN q).setCell ⟨b2, k, none⟩ (.int .u64 (nv l k : Int))) b1 b2 b3 b4 l (k + 1) j C := by
  have o1 := h.o1
  have o2 := h.o2
  have o3 := h.o3
  have o4 := h.o4
  have h2 := Joins.block_setCell (w := wr.drewN q) (i := k) h.arr (.int .u64 (nv l k : Int))
  rw [nr_set l k hk] at h2
  refine ⟨?_, ?_, h2, ?_, ?_, o1, o2, o3, o4, (Same.dn_below h.below q).setCell (by show _ ≤ b2; omega) _⟩
  · rw [Below.heap_setCell _ _ _ _ (by show w.heap.size ≠ b2; omega)]; exact h.res
  · rw [Below.heap_setCell _ _ _ _ (by show b1 ≠ b2; omega)]; exact h.box
  · rw [Below.heap_setCell _ _ _ _ (by show b3 ≠ b2; omega)]; exact h.txs
  · rw [Below.heap_setCell _ _ _ _ (by show b4 ≠ b2; omega)]; exact h.szs
theorem LP.txt {w wr : World} {b1 b2 b3 b4 : Nat} {l : List UInt8} {k j : Nat} {C : Array Value} (h : LP w wr b1 b2 b3 b4 l k j C) (hj : j < 4) (q : Nat) : LP w ((wr.drewN q).setCell ⟨b3, j, none⟩ (.string (str (tt (ti l j))))) b1 b2 b3 b4 l k (j + 1) C := by
  have o1 := h.o1
  have o2 := h.o2
  have o3 := h.o3
  have o4 := h.o4
  have h2 := Joins.block_setCell (w := wr.drewN q) (i := j) h.txs (.string (str (tt (ti l j))))
  rw [tr_set l j hj] at h2
  refine ⟨?_, ?_, ?_, h2, ?_, o1, o2, o3, o4, (Same.dn_below h.below q).setCell (by show _ ≤ b3; omega) _⟩
  · rw [Below.heap_setCell _ _ _ _ (by show w.heap.size ≠ b3; omega)]; exact h.res
  · rw [Below.heap_setCell _ _ _ _ (by show b1 ≠ b3; omega)]; exact h.box
  · rw [Below.heap_setCell _ _ _ _ (by show b2 ≠ b3; omega)]; exact h.arr
  · rw [Below.heap_setCell _ _ _ _ (by show b4 ≠ b3; omega)]; exact h.szs
theorem LP.ch {w wr wl : World} {b1 b2 b3 b4 : Nat} {l : List UInt8} {k j : Nat} {C C' : Array Value} (h : LP w wr b1 b2 b3 b4 l k j C) (hc : ∀ i, i ≠ b1 → wl.heap[i]? = wr.heap[i]?) (hb : wl.heap[b1]? = some (.cells C' 91 (0, 0))) (hbl : Below b1 wr wl) : LP w wl b1 b2 b3 b4 l k j C' := by
  have o1 := h.o1
  have o2 := h.o2
  have o3 := h.o3
  have o4 := h.o4
  exact ⟨(hc _ (by omega)).trans h.res, hb, (hc _ (by omega)).trans h.arr, (hc _ (by omega)).trans h.txs, (hc _ (by omega)).trans h.szs, o1, o2, o3, o4, h.below.trans (hbl.mono (by omega))⟩
theorem LP.row {w wr : World} {b1 b2 b3 b4 : Nat} {l : List UInt8} {k j : Nat} {C : Array Value} (h : LP w wr b1 b2 b3 b4 l k j C) (C' : Array Value) : LP w (wr.setRow b1 C') b1 b2 b3 b4 l k j C' :=
  h.ch (fun i hi => setRow_other wr b1 i C' hi) (setRow_heap wr b1 _ C' 91 (0, 0) h.box) (below_setRow (Below.refl _ _) (Nat.le_refl _) _)
/-- Where the reader fails: the result's box and the operation's, as they were made. -/
structure LB (w wr : World) (b1 : Nat) : Prop where
  res : wr.heap[w.heap.size]? = some (.cells Z 91 (0, 0))
  box : wr.heap[b1]? = some (.cells Z 91 (0, 0))
  below : Below w.heap.size w wr
theorem LP.lb {w wr : World} {b1 b2 b3 b4 : Nat} {l : List UInt8} {k j : Nat} (h : LP w wr b1 b2 b3 b4 l k j Z) : LB w wr b1 := ⟨h.res, h.box, h.below⟩
theorem LP.lbn {w wr : World} {b1 b2 b3 b4 : Nat} {l : List UInt8} {k j : Nat} (h : LP w wr b1 b2 b3 b4 l k j Z) (q i : Nat) (v : Value) : LB w ((wr.drewN q).setCell ⟨b2, i, none⟩ v) b1 := by
  have o1 := h.o1
  have o2 := h.o2
  refine ⟨?_, ?_, (Same.dn_below h.below q).setCell (by show _ ≤ b2; omega) _⟩
  · rw [Below.heap_setCell _ _ _ _ (by show w.heap.size ≠ b2; omega)]; exact h.res
  · rw [Below.heap_setCell _ _ _ _ (by show b1 ≠ b2; omega)]; exact h.box
theorem LP.lbt {w wr : World} {b1 b2 b3 b4 : Nat} {l : List UInt8} {k j : Nat} (h : LP w wr b1 b2 b3 b4 l k j Z) (q i : Nat) (v : Value) : LB w ((wr.drewN q).setCell ⟨b3, i, none⟩ v) b1 := by
  have o1 := h.o1
  have o2 := h.o2
  have o3 := h.o3
  refine ⟨?_, ?_, (Same.dn_below h.below q).setCell (by show _ ≤ b3; omega) _⟩
  · rw [Below.heap_setCell _ _ _ _ (by show w.heap.size ≠ b3; omega)]; exact h.res
  · rw [Below.heap_setCell _ _ _ _ (by show b1 ≠ b3; omega)]; exact h.box
def Zl : List Value := Z.toList
theorem Zl_len : Zl.length = 27 := rfl
theorem Zl_one : Zl.toArray.all (·.oneCell') = true := by simp [Zl, Z, Value.oneCell']
theorem LB.range {w wr : World} {b1 : Nat} (h : LB w wr b1) : wr.rangeAt b1 0 Zl := fun j v hj => by
  have e : Z[j]? = Zl[j]? := by simp [Zl]
  simp [World.cell?, h.box]; rw [e]; exact hj
theorem LB.done {w wr : World} {b1 : Nat} (h : LB w wr b1) (C : Array Value) : (wr.setRow w.heap.size C).heap[w.heap.size]? = some (.cells C 91 (0, 0)) ∧ Below w.heap.size w (wr.setRow w.heap.size C) :=
  ⟨setRow_heap wr _ _ C 91 (0, 0) h.res, below_setRow h.below (Nat.le_refl _) _⟩
theorem LP.nums {w wr : World} {b1 b2 b3 b4 : Nat} {l : List UInt8} {C : Array Value} (h : LP w wr b1 b2 b3 b4 l 7 4 C) :
    wr.cell? ⟨b2, 0, none⟩ = some (.int .u64 (nv l 0 : Int)) ∧ wr.cell? ⟨b2, 1, none⟩ = some (.int .u64 (nv l 1 : Int)) ∧ wr.cell? ⟨b2, 2, none⟩ = some (.int .u64 (nv l 2 : Int)) ∧ wr.cell? ⟨b2, 3, none⟩ = some (.int .u64 (nv l 3 : Int)) ∧ wr.cell? ⟨b2, 4, none⟩ = some (.int .u64 (nv l 4 : Int)) ∧ wr.cell? ⟨b2, 5, none⟩ = some (.int .u64 (nv l 5 : Int)) ∧ wr.cell? ⟨b2, 6, none⟩ = some (.int .u64 (nv l 6 : Int)) ∧
    wr.cell? ⟨b3, 0, none⟩ = some (.string (str (tt (q5 l)))) ∧ wr.cell? ⟨b3, 1, none⟩ = some (.string (str (tt (q6 l)))) ∧ wr.cell? ⟨b3, 2, none⟩ = some (.string (str (tt (q7 l)))) ∧ wr.cell? ⟨b3, 3, none⟩ = some (.string (str (tt (q8 l)))) := by
  refine ⟨?_, ?_, ?_, ?_, ?_, ?_, ?_, ?_, ?_, ?_, ?_⟩
  iterate 7 (simp [World.cell?, h.arr, nr])
  iterate 4 (simp [World.cell?, h.txs, tr, tv, ti])
theorem LP.cell {w wr : World} {b1 b2 b3 b4 : Nat} {l : List UInt8} {k j : Nat} {C : Array Value} (h : LP w wr b1 b2 b3 b4 l k j C) (i : Nat) (v : Value) (hi : C[i]? = some v) : wr.cell? ⟨b1, i, none⟩ = some v := by
  simp [World.cell?, h.box]; exact hi
theorem LP.frozen {w wr : World} {b1 b2 b3 b4 : Nat} {l : List UInt8} {k j : Nat} {C : Array Value} (h : LP w wr b1 b2 b3 b4 l k j C) (i : Nat) : wr.frozen? ⟨b1, i, none⟩ = false := Joins.unfrozen_of_block h.box i
theorem built91 (v0 v1 v2 v3 v4 : Int) (s5 s6 : ByteArray) : Try.prog.built 91 [(0, .int .u8 v0), (1, .int .u8 v1), (2, .int .i64 v2), (3, .int .i64 v3), (4, .int .i64 v4), (5, .string s5), (6, .string s6)] =
    some #[.int .u8 v0, .int .u8 v1, .int .i64 v2, .int .i64 v3, .int .i64 v4, .string s5, .string s6, .string ⟨#[]⟩, .string ⟨#[]⟩, .int .i64 0, .int .i64 0, .int .u8 0, .int .u8 0, .int .u8 0, .int .u8 0, .int .u8 0, .int .u8 0, .int .u8 0, .int .u8 0, .int .u8 0, .int .u8 0, .int .u8 0, .int .u8 0, .int .u8 0, .int .u8 0, .int .u8 0, .int .u8 0] := by kernel_rfl
theorem blk_fin2 (l : List UInt8) : blkAt [.int .u8 (nm 1 (q0 l) : Int), .int .u8 (nm 1 (q1 l) : Int), .int .i64 (nmi (q2 l)), .int .i64 (nmi (q3 l)), .int .i64 (nmi (q4 l)), .string (str (tt (q5 l))), .string (str (tt (q6 l))), .string (str (tt (q7 l))), .string (str (tt (q8 l))), .int .i64 (nmi (q9 l)), .int .i64 (nmi (q10 l))] (q11 l) 16 = (opCells (opR l)).toArray := by
  rw [blk_end]; rfl
theorem orange2 {w : World} {b t : Nat} {o : OpV} (h : w.heap[b]? = some (.cells (opCells o).toArray t (0, 0))) : w.rangeAt b 0 (opCells o) := fun j v hj => by
  simp [World.cell?, h]; exact hj
theorem results_ctt {P : Program} {fn : Func} {p u v : Tmp} {ty : TypeId} (h : fn.results = #[.cell p ty, .tmp u, .tmp v]) (tmps : Array Value) (w : World) (g : Nat) (t : TypeId) (cs : Array Value) (fr : Nat × Nat) (d : TypeDesc)
    (hp : tmps.getD p undef = .pointer (some ⟨g, 0, none⟩)) (hg : w.heap[g]? = some (.cells cs t fr))
    (hu : P.underlying ty = some d) (hd : (match d with | .struct _ | .array _ _ => true | _ => false) = true) (hi : (P.info? ty).map (·.size) = some cs.size) :
    (results fn tmps).run P w = .ok (.tuple #[.agg cs, tmps.getD u undef, tmps.getD v undef]) w := by
  have hp' : tmps[p]?.getD undef = .pointer (some ⟨g, 0, none⟩) := by simpa using hp
  simp [results, h, hp', asAddr, run_loadVar_row w g t ty cs fr d hg hu hd hi]
set_option maxHeartbeats 1000000 in
set_option maxRecDepth 100000 in
theorem one (l : List UInt8) (w : World) (hl : l.length ≤ 1000000) :
    Calls Try.prog 53 #[.string (str l)] w fun e w' => Below w.heap.size w w' ∧
      (((qE l).2 = false ∧ e = .returned (.tuple #[.agg (opCells (opR l)).toArray, .string (str (qE l).1), .bool true])) ∨ ((qE l).2 = true ∧ e = .returned (.tuple #[.agg Z, .string (str []), .bool false]))) := by
  have HST := Lib.hid (LP.start w l)
  go_enter Try.func53, Try.ntmps53
  go_wp2
  obtain ⟨b1, h1⟩ : ∃ b, b = w.heap.size + 1 := ⟨_, rfl⟩
  rw [← h1] at HST ⊢
  obtain ⟨b2, h2⟩ : ∃ b, b = b1 + 1 := ⟨_, rfl⟩
  rw [← h2] at HST ⊢
  obtain ⟨b3, h3⟩ : ∃ b, b = b2 + 1 := ⟨_, rfl⟩
  rw [← h3] at HST ⊢
  obtain ⟨b4, h4⟩ : ∃ b, b = b3 + 1 := ⟨_, rfl⟩
  rw [← h4] at HST ⊢
  clear h1 h2 h3 h4
  go_loopw [0, 9, 14] (fun s ok i wr => ∃ k : Nat, k ≤ 7 ∧ i = .int .i64 k ∧ s = .string (str (st l k).1) ∧ ok = .bool true ∧ Hid ((st l k).2 = false) ∧ Hid (LP w wr b1 b2 b3 b4 l k (if k ≤ 5 then 0 else 4) Z)) (fun _ _ i _ => 7 - (intOf i).toNat)
  case atStart => exact ⟨0, by omega, rfl, rfl, rfl, rfl, HST.out⟩
  case round =>
    obtain ⟨k, hk, rfl, rfl, rfl, HG, HL⟩ := hrel
    clear HST
    by_cases hk7 : k < 7
    · by_cases hk5 : k = 5
      · subst hk5
        have HL5 : Hid (LP w wr b1 b2 b3 b4 l 5 0 Z) := HL
        clear HL
        go_wp2
        go_loopw [0, 9, 19] (fun s ok i wr => ∃ j : Nat, j ≤ 4 ∧ i = .int .i64 j ∧ s = .string (str (ti l j).1) ∧ ok = .bool true ∧ Hid ((ti l j).2 = false) ∧ Hid (LP w wr b1 b2 b3 b4 l 5 j Z)) (fun _ _ i _ => 4 - (intOf i).toNat)
        case atStart => exact ⟨0, by omega, rfl, rfl, rfl, HG, HL5⟩
        case round =>
          obtain ⟨j, hj, rfl, rfl, rfl, HGt, HL⟩ := hrel
          clear HL5 HG
          have hlen0 := (sn_len l 5 (by omega)).1
          have hlent : (ti l j).1.length ≤ l.length := Nat.le_trans (ti_len l j hj) hlen0
          by_cases hj4 : j < 4
          · obtain ⟨av, hav⟩ := tr_at l j j hj4
            have hca : wr.cell? ⟨b3, j, none⟩ = some av := by
              simp only [World.cell?, HL.out.txs]; exact hav
            have hfa : wr.frozen? ⟨b3, j, none⟩ = false := Joins.unfrozen_of_block HL.out.txs j
            have hss := ti_succ l j hj4
            cases hb : (ti l (j + 1)).2 with
            | false =>
              have HN := Lib.hid (fun q => HL.out.txt hj4 q)
              have HT : Hid (∀ w, Calls Try.prog 26 #[.string (str (ti l j).1)] w fun e w' => e = .returned (.tuple #[.string (str (tt (ti l j))), .string (str (ti l (j + 1)).1), .bool true]) ∧ ∃ q, w' = w.drewN q) := fun w => by
                rw [hss]; exact textOk (ti l j) w (by omega) HGt.out (by rw [← hss]; exact hb)
              have HB := Lib.hid hb
              clear hb hss hav
              go_wp2_with (go_at_call 26; refine (HT.out _).mono ?_; rintro e w1 ⟨rfl, q, rfl⟩)
              go_roundw
              case rel => exact ⟨_, _, _, _, _, _, _, _, _, _, _, _, _, _, _, _, _, _, _, _, ⟨j + 1, by omega, by go_num, rfl, rfl, HB.out, HN.out q⟩, rfl⟩
              case measure => simp [intOf]; omega
            | true =>
              have HBAD : Hid ((qE l).2 = true) := ti_bad (j + 1) (by omega) hb
              have HLB : Hid (∀ q v, LB w ((wr.drewN q).setCell ⟨b3, j, none⟩ v) b1) := fun q v => HL.out.lbt q j v
              have HT : Hid (∀ w, Calls Try.prog 26 #[.string (str (ti l j).1)] w fun e w' => ∃ t, e = .returned (.tuple #[.string t, .string (str []), .bool false]) ∧ ∃ q, w' = w.drewN q) := fun w => textNo (ti l j) w (by omega) HGt.out (by rw [← hss]; exact hb)
              clear hb hss hav
              have tg : Hid True := trivial
              go_wp2_with (first
                | (go_at_call 26; refine (HT.out _).mono ?_; rintro e w1 ⟨t, rfl, q, rfl⟩)
                | ((with_reducible refine wpList_load_mid rfl 91 (.tmp 5) rfl b1 0 ?hx Zl _ ?hc Try.underlying91 rfl ?hi ?_); (case hx => rfl); (case hc => exact (HLB.out q (.string t)).range); (case hi => rw [Zl_len]; exact i91s))
                | ((with_reducible refine wpList_store_row rfl 91 (.tmp 2) (.tmp 32) rfl w.heap.size Zl.toArray ?hx ?hy 91 _ (HLB.out q (.string t)).res ?hi ?hold Zl_one ?_); (case hx => rfl); (case hy => rfl); (case hi => exact i91s); (case hold => rfl)))
              refine bodyPost_ret (results_ctt rfl _ _ w.heap.size 91 Zl.toArray (0, 0) _ (by rfl) ((HLB.out q (.string t)).done Zl.toArray).1 Try.underlying91 rfl i91s) rfl ?_
              exact ⟨((HLB.out q (.string t)).done _).2, Or.inr ⟨HBAD.out, rfl⟩⟩
          · obtain rfl : j = 4 := by omega
            have hcs : wr.cell? ⟨b4, 5, none⟩ = some (.int .i64 8) := by
              simp only [World.cell?, HL.out.szs]; rfl
            have hca : wr.cell? ⟨b2, 5, none⟩ = some (.int .u64 0) := by
              simp only [World.cell?, HL.out.arr]; rfl
            have hfa : wr.frozen? ⟨b2, 5, none⟩ = false := Joins.unfrozen_of_block HL.out.arr 5
            have hss : st l 6 = nx 8 (ti l 4) := rfl
            cases hb : (st l 6).2 with
            | false =>
              have HN := Lib.hid (fun q => HL.out.num (by omega) q)
              have HT : Hid (∀ w, Calls Try.prog 22 #[.string (str (ti l 4).1), .int .i64 8] w fun e w' => e = .returned (.tuple #[.int .u64 (nv l 5 : Int), .string (str (st l 6).1), .bool true]) ∧ ∃ q, w' = w.drewN q) := fun w => by
                rw [hss]; exact takeOk (ti l 4) 8 w (by omega) (by omega) HGt.out (by rw [← hss]; exact hb)
              have HB := Lib.hid hb
              clear hb hss
              go_wp2_with (go_at_call 22; refine (HT.out _).mono ?_; rintro e w1 ⟨rfl, q, rfl⟩)
              go_roundw
              case rel => exact ⟨6, by omega, by go_num, rfl, rfl, HB.out, HN.out q⟩
              case measure => simp [intOf]
            | true =>
              have HBAD : Hid ((qE l).2 = true) := st_bad 6 (by omega) hb
              have HLB : Hid (∀ q, LB w ((wr.drewN q).setCell ⟨b2, 5, none⟩ (.int .u64 0)) b1) := fun q => HL.out.lbn q 5 _
              have HT : Hid (∀ w, Calls Try.prog 22 #[.string (str (ti l 4).1), .int .i64 8] w fun e w' => e = .returned (.tuple #[.int .u64 0, .string (str []), .bool false]) ∧ ∃ q, w' = w.drewN q) := fun w => takeNo (ti l 4) 8 w (by omega) (by omega) HGt.out (by rw [← hss]; exact hb)
              clear hb hss
              have tg : Hid True := trivial
              go_wp2_with (first
                | (go_at_call 22; refine (HT.out _).mono ?_; rintro e w1 ⟨rfl, q, rfl⟩)
                | ((with_reducible refine wpList_load_mid rfl 91 (.tmp 5) rfl b1 0 ?hx Zl _ ?hc Try.underlying91 rfl ?hi ?_); (case hx => rfl); (case hc => exact (HLB.out q).range); (case hi => rw [Zl_len]; exact i91s))
                | ((with_reducible refine wpList_store_row rfl 91 (.tmp 2) (.tmp 48) rfl w.heap.size Zl.toArray ?hx ?hy 91 _ (HLB.out q).res ?hi ?hold Zl_one ?_); (case hx => rfl); (case hy => rfl); (case hi => exact i91s); (case hold => rfl)))
              refine bodyPost_ret (results_ctt rfl _ _ w.heap.size 91 Zl.toArray (0, 0) _ (by rfl) ((HLB.out q).done Zl.toArray).1 Try.underlying91 rfl i91s) rfl ?_
              exact ⟨((HLB.out q).done _).2, Or.inr ⟨HBAD.out, rfl⟩⟩
      · have hcs : wr.cell? ⟨b4, k, none⟩ = some (.int .i64 (sz k : Int)) := by
          simp only [World.cell?, HL.out.szs]; exact szs_at k hk7
        obtain ⟨av, hav⟩ := nr_at l k k hk7
        have hca : wr.cell? ⟨b2, k, none⟩ = some av := by
          simp only [World.cell?, HL.out.arr]; exact hav
        have hfa : wr.frozen? ⟨b2, k, none⟩ = false := Joins.unfrozen_of_block HL.out.arr k
        have hsn : sn l k = st l k := by unfold sn; rw [if_neg hk5]
        have hss := st_succ l k hk7
        have hlen := (sn_len l k hk).1
        have hki : ¬ ((k : Int) = 5) := by omega
        have hkd : decide ((k : Int) = 5) = false := decide_eq_false hki
        rw [hsn] at hss
        cases hb : (st l (k + 1)).2 with
        | false =>
          have HN := Lib.hid (fun q => HL.out.num hk7 q)
          have hnv : nv l k = nm (sz k) (st l k) := by unfold nv; rw [hsn]
          have HT : Hid (∀ w, Calls Try.prog 22 #[.string (str (st l k).1), .int .i64 (sz k : Int)] w fun e w' => e = .returned (.tuple #[.int .u64 (nv l k : Int), .string (str (st l (k + 1)).1), .bool true]) ∧ ∃ q, w' = w.drewN q) := fun w => by
            rw [hss, hnv]; exact takeOk (st l k) (sz k) w (sz_le k) (by omega) HG.out (by rw [← hss]; exact hb)
          have HB := Lib.hid hb
          clear hb hss hsn hav hnv
          go_wp2_with (go_at_call 22; refine (HT.out _).mono ?_; rintro e w1 ⟨rfl, q, rfl⟩)
          go_roundw
          case rel => exact ⟨k + 1, by omega, by go_num, rfl, rfl, HB.out, by have := HN.out q; rw [show (if k + 1 ≤ 5 then 0 else 4) = (if k ≤ 5 then 0 else 4) by (split <;> split <;> omega)]; exact this⟩
          case measure => simp [intOf]; omega
        | true =>
          have HBAD : Hid ((qE l).2 = true) := st_bad (k + 1) (by omega) hb
          have hj0 : Hid (LP w wr b1 b2 b3 b4 l k (if k ≤ 5 then 0 else 4) Z) := HL
          have HLB : Hid (∀ q, LB w ((wr.drewN q).setCell ⟨b2, k, none⟩ (.int .u64 0)) b1) := fun q => HL.out.lbn q k _
          have HT : Hid (∀ w, Calls Try.prog 22 #[.string (str (st l k).1), .int .i64 (sz k : Int)] w fun e w' => e = .returned (.tuple #[.int .u64 0, .string (str []), .bool false]) ∧ ∃ q, w' = w.drewN q) := fun w => takeNo (st l k) (sz k) w (sz_le k) (by omega) HG.out (by rw [← hss]; exact hb)
          clear hb hss hsn hav
          have tg : Hid True := trivial
          go_wp2_with (first
            | (go_at_call 22; refine (HT.out _).mono ?_; rintro e w1 ⟨rfl, q, rfl⟩)
            | ((with_reducible refine wpList_load_mid rfl 91 (.tmp 5) rfl b1 0 ?hx Zl _ ?hc Try.underlying91 rfl ?hi ?_); (case hx => rfl); (case hc => exact (HLB.out q).range); (case hi => rw [Zl_len]; exact i91s))
            | ((with_reducible refine wpList_store_row rfl 91 (.tmp 2) (.tmp 48) rfl w.heap.size Zl.toArray ?hx ?hy 91 _ (HLB.out q).res ?hi ?hold Zl_one ?_); (case hx => rfl); (case hy => rfl); (case hi => exact i91s); (case hold => rfl)))
          refine bodyPost_ret (results_ctt rfl _ _ w.heap.size 91 Zl.toArray (0, 0) _ (by rfl) ((HLB.out q).done Zl.toArray).1 Try.underlying91 rfl i91s) rfl ?_
          exact ⟨((HLB.out q).done _).2, Or.inr ⟨HBAD.out, rfl⟩⟩
    · obtain rfl : k = 7 := by omega
      have HL7 : Hid (LP w wr b1 b2 b3 b4 l 7 4 Z) := HL
      clear HL
      obtain ⟨x, hx⟩ : ∃ x, x = (st l 7).1 := ⟨_, rfl⟩
      have hq : q11 l = (x, false) := by rw [hx]; exact pair_false (s := q11 l) HG.out
      have hxl : x.length ≤ 1000000 := by rw [hx]; have := (sn_len l 7 (by omega)).1; omega
      have hsz := str_size x
      rw [← hx]
      have HQ11 := Lib.hid hq
      clear hx hq HG
      by_cases h16 : x.length < 16
      · have HBAD : Hid ((qE l).2 = true) := by show _ = _; unfold qE; rw [HQ11.out]; exact qb_short x h16
        have HLB := Lib.hid HL7.out.lb
        go_wp2_with (first
          | ((with_reducible refine wpList_load_mid rfl 91 (.tmp 5) rfl b1 0 ?hx Zl _ ?hc Try.underlying91 rfl ?hi ?_); (case hx => rfl); (case hc => exact HLB.out.range); (case hi => rw [Zl_len]; exact i91s))
          | ((with_reducible refine wpList_store_row rfl 91 (.tmp 2) (.tmp 53) rfl w.heap.size Zl.toArray ?hx ?hy 91 _ HLB.out.res ?hi ?hold Zl_one ?_); (case hx => rfl); (case hy => rfl); (case hi => exact i91s); (case hold => rfl)))
        refine bodyPost_ret (results_ctt rfl _ _ w.heap.size 91 Zl.toArray (0, 0) _ (by rfl) (HLB.out.done Zl.toArray).1 Try.underlying91 rfl i91s) rfl ?_
        exact ⟨(HLB.out.done _).2, Or.inr ⟨HBAD.out, rfl⟩⟩
      · obtain ⟨v0, hv0⟩ : ∃ v, v = nm 1 (q0 l) := ⟨_, rfl⟩
        obtain ⟨v1, hv1⟩ : ∃ v, v = nm 1 (q1 l) := ⟨_, rfl⟩
        obtain ⟨v2, hv2⟩ : ∃ v, v = nm 8 (q2 l) := ⟨_, rfl⟩
        obtain ⟨v3, hv3⟩ : ∃ v, v = nm 8 (q3 l) := ⟨_, rfl⟩
        obtain ⟨v4, hv4⟩ : ∃ v, v = nm 8 (q4 l) := ⟨_, rfl⟩
        obtain ⟨v5, hv5⟩ : ∃ v, v = nm 8 (q9 l) := ⟨_, rfl⟩
        obtain ⟨v6, hv6⟩ : ∃ v, v = nm 8 (q10 l) := ⟨_, rfl⟩
        obtain ⟨t0, ht0⟩ : ∃ t, t = tt (q5 l) := ⟨_, rfl⟩
        obtain ⟨t1, ht1⟩ : ∃ t, t = tt (q6 l) := ⟨_, rfl⟩
        obtain ⟨t2, ht2⟩ : ∃ t, t = tt (q7 l) := ⟨_, rfl⟩
        obtain ⟨t3, ht3⟩ : ∃ t, t = tt (q8 l) := ⟨_, rfl⟩
        obtain ⟨y2, hy2⟩ : ∃ y, y = IntKind.i64.wrap (v2 : Int) := ⟨_, rfl⟩
        obtain ⟨y3, hy3⟩ : ∃ y, y = IntKind.i64.wrap (v3 : Int) := ⟨_, rfl⟩
        obtain ⟨y4, hy4⟩ : ∃ y, y = IntKind.i64.wrap (v4 : Int) := ⟨_, rfl⟩
        obtain ⟨y5, hy5⟩ : ∃ y, y = IntKind.i64.wrap (v5 : Int) := ⟨_, rfl⟩
        obtain ⟨y6, hy6⟩ : ∃ y, y = IntKind.i64.wrap (v6 : Int) := ⟨_, rfl⟩
        have NUMS : ∀ (wx : World) (C : Array Value), LP w wx b1 b2 b3 b4 l 7 4 C → wx.cell? ⟨b2, 0, none⟩ = some (.int .u64 (v0 : Int)) ∧ wx.cell? ⟨b2, 1, none⟩ = some (.int .u64 (v1 : Int)) ∧ wx.cell? ⟨b2, 2, none⟩ = some (.int .u64 (v2 : Int)) ∧ wx.cell? ⟨b2, 3, none⟩ = some (.int .u64 (v3 : Int)) ∧ wx.cell? ⟨b2, 4, none⟩ = some (.int .u64 (v4 : Int)) ∧ wx.cell? ⟨b2, 5, none⟩ = some (.int .u64 (v5 : Int)) ∧ wx.cell? ⟨b2, 6, none⟩ = some (.int .u64 (v6 : Int)) ∧
            wx.cell? ⟨b3, 0, none⟩ = some (.string (str t0)) ∧ wx.cell? ⟨b3, 1, none⟩ = some (.string (str t1)) ∧ wx.cell? ⟨b3, 2, none⟩ = some (.string (str t2)) ∧ wx.cell? ⟨b3, 3, none⟩ = some (.string (str t3)) := fun _ _ h => by
          rw [hv0, hv1, hv2, hv3, hv4, hv5, hv6, ht0, ht1, ht2, ht3]; exact h.nums
        have HFIN : Hid (blkAt [.int .u8 (v0 : Int), .int .u8 (v1 : Int), .int .i64 y2, .int .i64 y3, .int .i64 y4, .string (str t0), .string (str t1), .string (str t2), .string (str t3), .int .i64 y5, .int .i64 y6] (q11 l) 16 = (opCells (opR l)).toArray) := by
          show _ = _
          rw [hy2, hy3, hy4, hy5, hy6, hv0, hv1, hv2, hv3, hv4, hv5, hv6, ht0, ht1, ht2, ht3]; exact blk_fin2 l
        have hv0l : v0 < 256 := by rw [hv0]; exact nm1_lt _
        have hv1l : v1 < 256 := by rw [hv1]; exact nm1_lt _
        have x0 : IntKind.u8.wrap (v0 : Int) = (v0 : Int) := by rw [IntKind.wrap_u8]; omega
        have x1 : IntKind.u8.wrap (v1 : Int) = (v1 : Int) := by rw [IntKind.wrap_u8]; omega
        have x2 := hy2.symm
        have x3 := hy3.symm
        have x4 := hy4.symm
        have x5 := hy5.symm
        have x6 := hy6.symm
        obtain ⟨a0, a1, a2, a3, a4, a5, a6, d0, d1, d2, d3⟩ := NUMS _ _ HL7.out
        clear hv0 hv1 hv2 hv3 hv4 hv5 hv6 ht0 ht1 ht2 ht3 hy2 hy3 hy4 hy5 hy6
        have HNUMS := Lib.hid NUMS
        clear NUMS
        go_wp2_with (first
          | ((with_reducible refine wpList_built rfl 91 #[(0, .tmp 56), (1, .tmp 59), (2, .tmp 62), (3, .tmp 65), (4, .tmp 68), (5, .tmp 70), (6, .tmp 72)] rfl _ ?hv _ (built91 v0 v1 y2 y3 y4 (str t0) (str t1)) ?_); (case hv => rfl))
          | ((with_reducible refine wpList_built rfl 85 #[(0, .tmp 75), (1, .tmp 77), (2, .tmp 80), (3, .tmp 83)] rfl _ ?hv _ (built85 (str t2) (str t3) y5 y6) ?_); (case hv => rfl))
          | ((with_reducible refine wpList_store_row rfl 91 (.tmp 5) (.tmp 73) rfl b1 #[.int .u8 (v0 : Int), .int .u8 (v1 : Int), .int .i64 y2, .int .i64 y3, .int .i64 y4, .string (str t0), .string (str t1), .string ⟨#[]⟩, .string ⟨#[]⟩, .int .i64 0, .int .i64 0, .int .u8 0, .int .u8 0, .int .u8 0, .int .u8 0, .int .u8 0, .int .u8 0, .int .u8 0, .int .u8 0, .int .u8 0, .int .u8 0, .int .u8 0, .int .u8 0, .int .u8 0, .int .u8 0, .int .u8 0, .int .u8 0] ?hx ?hy 91 _ HL7.out.box ?hi ?hold ?h1 ?_); (case hx => rfl); (case hy => rfl); (case hi => exact i91s); (case hold => rfl); (case h1 => exact one88 _ _ _ _ _ _ _); have HQ := Lib.hid (HL7.out.row #[.int .u8 (v0 : Int), .int .u8 (v1 : Int), .int .i64 y2, .int .i64 y3, .int .i64 y4, .string (str t0), .string (str t1), .string ⟨#[]⟩, .string ⟨#[]⟩, .int .i64 0, .int .i64 0, .int .u8 0, .int .u8 0, .int .u8 0, .int .u8 0, .int .u8 0, .int .u8 0, .int .u8 0, .int .u8 0, .int .u8 0, .int .u8 0, .int .u8 0, .int .u8 0, .int .u8 0, .int .u8 0, .int .u8 0, .int .u8 0]); obtain ⟨w5, hw5⟩ : ∃ y, y = wr.setRow b1 #[.int .u8 (v0 : Int), .int .u8 (v1 : Int), .int .i64 y2, .int .i64 y3, .int .i64 y4, .string (str t0), .string (str t1), .string ⟨#[]⟩, .string ⟨#[]⟩, .int .i64 0, .int .i64 0, .int .u8 0, .int .u8 0, .int .u8 0, .int .u8 0, .int .u8 0, .int .u8 0, .int .u8 0, .int .u8 0, .int .u8 0, .int .u8 0, .int .u8 0, .int .u8 0, .int .u8 0, .int .u8 0, .int .u8 0, .int .u8 0] := ⟨_, rfl⟩; rw [← hw5] at HQ ⊢; clear hw5 HL7 a0 a1 a2 a3 a4 a5 a6 d0 d1 d2 d3; obtain ⟨a0, a1, a2, a3, a4, a5, a6, d0, d1, d2, d3⟩ := HNUMS.out _ _ HQ.out; have c7 := HQ.out.cell 7 _ rfl; have c8 := HQ.out.cell 8 _ rfl; have c9 := HQ.out.cell 9 _ rfl; have c10 := HQ.out.cell 10 _ rfl; have f7 := HQ.out.frozen 7; have f8 := HQ.out.frozen 8; have f9 := HQ.out.frozen 9; have f10 := HQ.out.frozen 10))
        have hb := Joins.block_setCell (Joins.block_setCell (Joins.block_setCell (Joins.block_setCell (i := 7) HQ.out.box (.string (str t2))) (i := 8) (.string (str t3))) (i := 9) (.int .i64 y5)) (i := 10) (.int .i64 y6)
        have hb2 := Eq.trans hb (show _ = some (Obj.cells (blkAt [.int .u8 (v0 : Int), .int .u8 (v1 : Int), .int .i64 y2, .int .i64 y3, .int .i64 y4, .string (str t0), .string (str t1), .string (str t2), .string (str t3), .int .i64 y5, .int .i64 y6] (q11 l) 0) 91 (0, 0)) from rfl)
        have HTL := Lib.hid (HQ.out.ch (Ch4 b1 w5 _ _ _ _).other hb2 (Ch4 b1 w5 _ _ _ _).below)
        clear hb hb2 c7 c8 c9 c10 f7 f8 f9 f10 HQ a0 a1 a2 a3 a4 a5 a6 d0 d1 d2 d3
        obtain ⟨wx, hwx⟩ : ∃ y, y = ((((w5.setCell ⟨b1, 7, none⟩ (.string (str t2))).setCell ⟨b1, 8, none⟩ (.string (str t3))).setCell ⟨b1, 9, none⟩ (.int .i64 y5)).setCell ⟨b1, 10, none⟩ (.int .i64 y6)) := ⟨_, rfl⟩
        rw [← hwx] at HTL ⊢
        clear hwx
        obtain ⟨H, hH⟩ : ∃ H : List Value, H = [.int .u8 (v0 : Int), .int .u8 (v1 : Int), .int .i64 y2, .int .i64 y3, .int .i64 y4, .string (str t0), .string (str t1), .string (str t2), .string (str t3), .int .i64 y5, .int .i64 y6] := ⟨_, rfl⟩
        rw [← hH] at HTL HFIN
        have hHl : H.length = 11 := by rw [hH]; rfl
        clear hH x0 x1 x2 x3 x4 x5 x6 hv0l hv1l
        go_loopw [86] (fun i wr => ∃ (j : Nat), j ≤ 16 ∧ i = .int .i64 j ∧ Hid (LP w wr b1 b2 b3 b4 l 7 4 (blkAt H (q11 l) j))) (fun i _ => 16 - (intOf i).toNat)
        case atStart => exact ⟨0, by omega, rfl, HTL⟩
        case round =>
          clear HTL
          obtain ⟨j, hj, rfl, HT⟩ := hrel
          by_cases hj2 : j < 16
          · have hjx : j < x.length := by omega
            have hjs : j < (str x).size := by omega
            have hrb : Hid (((str x)[j]'hjs).toNat = nm 1 (qb (q11 l) j)) := by
              show _ = _
              rw [HQ11.out, rB_at x j hjx]
              exact congrArg UInt8.toNat (RefT.str_at x j hjx hjs)
            have cj := HT.out.cell (11 + j) _ (blk_at hHl (q11 l) j hj2)
            have fj := HT.out.frozen (11 + j)
            have hb := Joins.block_setCell (i := 11 + j) HT.out.box (.int .u8 (((str x)[j]'hjs).toNat : Int))
            rw [blk_set hHl (q11 l) j hj2 _ hrb.out] at hb
            have HTN := Lib.hid (HT.out.ch (Ch.store b1 (11 + j) wr (.int .u8 (((str x)[j]'hjs).toNat : Int))).other hb (Ch.store b1 (11 + j) wr _).below)
            clear hb
            go_wp2
            refine ⟨⟨j + 1, by omega, by go_num, HTN⟩, ?_⟩
            simp [intOf]; omega
          · obtain rfl : j = 16 := by omega
            have HBOX := Lib.hid HT.out.box
            rw [HFIN.out] at HBOX
            have HR16 : Hid ((opR l).r.length = 16) := rBs_len _ 16
            have h16' : (16 : Int) ≤ (x.length : Int) := by omega
            have HRES := Lib.hid HT.out.res
            have HLT1 : Hid (b1 < wr.heap.size) := (Array.getElem?_eq_some_iff.1 HBOX.out).1
            have HLT0 : Hid (w.heap.size < wr.heap.size) := (Array.getElem?_eq_some_iff.1 HRES.out).1
            have HB := Lib.hid HT.out.below
            have HI27 : Hid ((Try.prog.info? 91).map (·.size) = some (opCells (opR l)).length) := by show _ = _; rw [opCells_len _ HR16.out]; exact i91s
            have HS27 : Hid (Z.size = (opCells (opR l)).toArray.size) := (opCells_len (opR l) HR16.out).symm
            go_wp2
            refine start_ (n := 6) (S := fun w' => Below wr.heap.size wr w') (ds := [3]) #[false, false, false, false, false, false] (by kernel_rfl) rfl rfl ((Below.refl _ _).drew) (fun hHeld => ?_)
            obtain ⟨wd, hwd⟩ : ∃ wd, wd = World.drew wr := ⟨_, rfl⟩
            rw [← hwd] at hHeld ⊢
            clear hwd
            refine pure_ (i := 1) (N := some 97) (v := ?_) (a' := ?_) #[false, true, false, false, false, false] rfl rfl (by kernel_rfl) (fun _ _ _ h => h) (Or.inl ⟨by rfl, ?_⟩) ?_ ?_
            rotate_left
            · intro w'
              go_simp
              with_reducible rfl
            rotate_left
            · simp only [Act.put, List.setIfInBounds_toArray, List.set_cons_zero, List.set_cons_succ]
              rfl
            refine pure_ (i := 2) (N := some 98) (v := ?_) (a' := ?_) #[false, true, true, false, false, false] rfl rfl (by kernel_rfl) (fun _ _ _ h => h) (Or.inl ⟨by rfl, ?_⟩) ?_ ?_
            rotate_left
            · intro w'
              go_simp
              with_reducible rfl
            rotate_left
            · simp only [Act.put, List.setIfInBounds_toArray, List.set_cons_zero, List.set_cons_succ]
              rfl
            refine take_ (i := 0) (N := some 96) (v := ?_) (a' := ?_) #[true, true, true, false, false, false] rfl rfl (by kernel_rfl) (fun _ _ _ h => h) (Or.inl ⟨by rfl, ?_⟩) hHeld ?_ ?_
            rotate_left
            · intro w' s0
              refine Eq.trans (ScrEq.run_load_mid 91 (.tmp 5) rfl b1 0 (by go_simp) (opCells (opR l)) _ (range_below (orange2 HBOX.out) s0) Try.underlying91 rfl HI27.out) ?_
              with_reducible rfl
            rotate_left
            · simp only [Act.put, List.setIfInBounds_toArray, List.set_cons_zero, List.set_cons_succ]
              rfl
            refine last_ (i := 3) (N := none) #[true, true, true, true, false, false] rfl rfl (by kernel_rfl) (by decide) (fun K hK => ?_)
            refine skip_ (w1 := wd.setRow w.heap.size (opCells (opR l)).toArray) (by rfl) rfl ?_ ?_
            · exact ScrRef.run_store_row 91 (.tmp 2) (.tmp 96) rfl w.heap.size (opCells (opR l)).toArray (by rfl) (by rfl) 91 _ ((hHeld.block _ HLT0.out).trans HRES.out) (by rw [List.size_toArray]; exact HI27.out) HS27.out (all_oneCell_toArray (opCells_one _))
            refine hK.out _ _ ?_
            clear hK K
            refine pure_ (i := 4) (N := some 3) (v := ?_) (a' := ?_) #[true, true, true, true, true, false] rfl rfl (by kernel_rfl) (fun _ _ _ h => h) (Or.inl ⟨by rfl, ?_⟩) ?_ ?_
            rotate_left
            · intro w'
              go_simp
              with_reducible rfl
            rotate_left
            · simp only [Act.put, List.setIfInBounds_toArray, List.set_cons_zero, List.set_cons_succ]
              rfl
            refine pure_ (i := 5) (N := some 4) (v := ?_) (a' := ?_) #[true, true, true, true, true, true] rfl rfl (by kernel_rfl) (fun _ _ _ h => h) (Or.inl ⟨by rfl, ?_⟩) ?_ ?_
            rotate_left
            · intro w'
              go_simp
              with_reducible rfl
            rotate_left
            · simp only [Act.put, List.setIfInBounds_toArray, List.set_cons_zero, List.set_cons_succ]
              rfl
            refine done_ (by kernel_rfl) ?_
            go_wp2
            refine bodyPost_ret (results_ctt rfl _ _ w.heap.size 91 (opCells (opR l)).toArray (0, 0) _ (by rfl) (setRow_heap wd _ _ (opCells (opR l)).toArray 91 (0, 0) ((hHeld.block _ HLT0.out).trans HRES.out)) Try.underlying91 rfl (by rw [List.size_toArray]; exact HI27.out)) rfl ?_
            have hqe : qE l = (x.drop 16, false) := by unfold qE; rw [HQ11.out]; exact qb_drop x 16 (by omega)
            refine ⟨below_setRow (HB.out.trans (hHeld.mono HB.out.size)) (Nat.le_refl _) _, Or.inl ⟨by rw [hqe], ?_⟩⟩
            rw [hqe, show str (x.drop 16) = (str x).extract 16 x.length by rw [RefT.str_ext, List.take_of_length_le (Nat.le_refl _)]]
            rfl
end Go.Proofs.Ytdojhdglbajinaa.ScrOne
