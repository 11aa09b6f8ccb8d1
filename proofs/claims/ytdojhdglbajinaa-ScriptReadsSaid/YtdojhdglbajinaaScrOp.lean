/- DERIVED. Operations: their values in memory, their bytes, what is read of bytes. -/
import Derived.Test.YtdojhdglbajinaaPlain
import Derived.Deep.MidRow
namespace Go.Proofs.Ytdojhdglbajinaa.ScrOp
open Go.RowKit Go.Proofs.Ytdojhdglbajinaa.Mem Go.Proofs.Ytdojhdglbajinaa.Writer Go.Proofs.Ytdojhdglbajinaa.Reader Go.Proofs.Ytdojhdglbajinaa.Enc Go.Proofs.Ytdojhdglbajinaa.Plain
set_option linter.unusedVariables false
set_option linter.unusedSimpArgs false

/-- An operation. -/
structure OpV where
  kind : Nat
  flag : Nat
  h : Int
  fr : Int
  to : Int
  s : List UInt8
  t : List UInt8
  sch : List UInt8
  host : List UInt8
  port : Int
  nonce : Int
  r : List UInt8
instance : Inhabited OpV := ⟨⟨0, 0, 0, 0, 0, [], [], [], [], 0, 0, []⟩⟩
def I64 (x : Int) : Prop := -9223372036854775808 ≤ x ∧ x < 9223372036854775808
/-- Its numbers are of their kinds. -/
structure OpV.Wf (o : OpV) : Prop where
  k : o.kind < 256
  f : o.flag < 256
  h : I64 o.h
  fr : I64 o.fr
  to : I64 o.to
  port : I64 o.port
  nonce : I64 o.nonce
  r : o.r.length = 16
  s : o.s.length ≤ 140737488351232
  t : o.t.length ≤ 140737488351232
  sch : o.sch.length ≤ 140737488351232
  host : o.host.length ≤ 140737488351232
/-- Its cells. -/
def opCells (o : OpV) : List Value := [.int .u8 o.kind, .int .u8 o.flag, .int .i64 o.h, .int .i64 o.fr, .int .i64 o.to, .string (str o.s), .string (str o.t), .string (str o.sch), .string (str o.host), .int .i64 o.port, .int .i64 o.nonce] ++ o.r.map cellB
theorem opCells_len (o : OpV) (h : o.r.length = 16) : (opCells o).length = 27 := by simp [opCells, h]
theorem opCells_one (o : OpV) : ∀ u ∈ opCells o, u.oneCell' = true := by
  intro u hu
  simp only [opCells, List.mem_append, List.mem_cons, List.not_mem_nil, or_false] at hu
  rcases hu with (rfl | rfl | rfl | rfl | rfl | rfl | rfl | rfl | rfl | rfl | rfl) | hu <;> first | rfl | (exact map_cellB_one _ u hu)
/-- The lengths of its texts, together. -/
def texts (o : OpV) : Nat := o.s.length + o.t.length + o.sch.length + o.host.length
/-- Its bytes. -/
def encOp (o : OpV) : List UInt8 := be o.kind 1 ++ (be o.flag 1 ++ (be (u64n o.h) 8 ++ (be (u64n o.fr) 8 ++ (be (u64n o.to) 8 ++ (textB o.s ++ (textB o.t ++ (textB o.sch ++ (textB o.host ++ (be (u64n o.port) 8 ++ (be (u64n o.nonce) 8 ++ o.r))))))))))
theorem encOp_len (o : OpV) (h : o.r.length = 16) : (encOp o).length = 74 + texts o := by
  unfold encOp texts; simp only [List.length_append, be_len, textB_len, h]; omega
def encOps (l : List OpV) : List UInt8 := l.flatMap encOp
theorem encOps_nil : encOps [] = [] := rfl
theorem encOps_cons (o : OpV) (l : List OpV) : encOps (o :: l) = encOp o ++ encOps l := rfl
theorem encOps_append (a b : List OpV) : encOps (a ++ b) = encOps a ++ encOps b := by simp [encOps]
theorem encOps_snoc (a : List OpV) (o : OpV) : encOps (a ++ [o]) = encOps a ++ encOp o := by simp [encOps]
theorem encOps_take (l : List OpV) (k : Nat) (h : k < l.length) : encOps (l.take (k + 1)) = encOps (l.take k) ++ encOp l[k] := by
  rw [List.take_add_one, List.getElem?_eq_getElem h]; exact encOps_snoc _ _

/-! ### Slices of operations -/
/-- What a slice at A holds. -/
structure RdO (w : World) (A : Option Addr) (os : List OpV) : Prop where
  len : os.length ≤ 9223372036854775807
  wf : ∀ o ∈ os, o.Wf
  at' : 0 < os.length → ∃ b f, A = some ⟨b, f, none⟩ ∧ ∀ (j : Nat) (o : OpV), os[j]? = some o → w.rangeAt b (f + j * 27) (opCells o)
theorem RdO.nil (w : World) (A : Option Addr) : RdO w A [] := ⟨by simp, fun o h => by simp at h, fun h => absurd h (by simp)⟩
theorem range_below {w w' : World} {b o : Nat} {cs : List Value} (h : w.rangeAt b o cs) (hb : Below w.heap.size w w') : w'.rangeAt b o cs := fun j v hj => by
  have := h j v hj
  rw [hb.cell (World.block_lt_of_cell? w _ this)]; exact this
theorem RdO.below {w w' : World} {A : Option Addr} {os : List OpV} (h : RdO w A os) (hb : Below w.heap.size w w') : RdO w' A os :=
  ⟨h.len, h.wf, fun hn => by
    obtain ⟨b, f, e, hc⟩ := h.at' hn
    exact ⟨b, f, e, fun j o hj => range_below (hc j o hj) hb⟩⟩
theorem RdO.at {w : World} {A : Option Addr} {os : List OpV} (h : RdO w A os) (k : Nat) (hk : k < os.length) : ∃ b f, A = some ⟨b, f, none⟩ ∧ w.rangeAt b (f + k * 27) (opCells os[k]) ∧ os[k].Wf := by
  obtain ⟨b, f, e, hc⟩ := h.at' (by omega)
  exact ⟨b, f, e, hc k _ (List.getElem?_eq_getElem hk), h.wf _ (List.getElem_mem hk)⟩
theorem RdO.take {w : World} {A : Option Addr} {os : List OpV} (h : RdO w A os) (m : Nat) : RdO w A (os.take m) := by
  have hl : (os.take m).length ≤ os.length := by rw [List.length_take]; omega
  refine ⟨by have := h.len; omega, fun o ho => h.wf o (List.mem_of_mem_take ho), fun hp => ?_⟩
  obtain ⟨b, f, e, hc⟩ := h.at' (by omega)
  refine ⟨b, f, e, fun j p hj => hc j p ?_⟩
  rw [List.getElem?_take] at hj
  split at hj
  · exact hj
  · cases hj
theorem RdO.drop {w : World} {A : Option Addr} {os : List OpV} (h : RdO w A os) (m c : Nat) (hc : os.length ≤ c) : RdO w (if c = m then A else A.map (·.add (m * 27))) (os.drop m) := by
  have hl : (os.drop m).length = os.length - m := List.length_drop
  refine ⟨by have := h.len; omega, fun o ho => h.wf o (List.mem_of_mem_drop ho), fun hp => ?_⟩
  rw [hl] at hp
  obtain ⟨b, f, rfl, hcell⟩ := h.at' (by omega)
  rw [if_neg (by omega)]
  refine ⟨b, f + m * 27, by simp [Addr.add], fun j p hj => ?_⟩
  rw [List.getElem?_drop] at hj
  have := hcell (m + j) p hj
  rw [show f + m * 27 + j * 27 = f + (m + j) * 27 by omega]
  exact this
/-- The cells of one operation, one by one. -/
theorem range_cells {w : World} {b f : Nat} {o : OpV} (h : w.rangeAt b f (opCells o)) :
    w.cell? ⟨b, f, none⟩ = some (.int .u8 o.kind) ∧ w.cell? ⟨b, f + 1, none⟩ = some (.int .u8 o.flag) ∧ w.cell? ⟨b, f + 2, none⟩ = some (.int .i64 o.h) ∧ w.cell? ⟨b, f + 3, none⟩ = some (.int .i64 o.fr) ∧
    w.cell? ⟨b, f + 4, none⟩ = some (.int .i64 o.to) ∧ w.cell? ⟨b, f + 5, none⟩ = some (.string (str o.s)) ∧ w.cell? ⟨b, f + 6, none⟩ = some (.string (str o.t)) ∧ w.cell? ⟨b, f + 7, none⟩ = some (.string (str o.sch)) ∧
    w.cell? ⟨b, f + 8, none⟩ = some (.string (str o.host)) ∧ w.cell? ⟨b, f + 9, none⟩ = some (.int .i64 o.port) ∧ w.cell? ⟨b, f + 10, none⟩ = some (.int .i64 o.nonce) :=
  ⟨h 0 _ rfl, h 1 _ rfl, h 2 _ rfl, h 3 _ rfl, h 4 _ rfl, h 5 _ rfl, h 6 _ rfl, h 7 _ rfl, h 8 _ rfl, h 9 _ rfl, h 10 _ rfl⟩
theorem range_r {w : World} {b f : Nat} {o : OpV} (h : w.rangeAt b f (opCells o)) : w.rangeAt b (f + 11) (o.r.map cellB) := fun j v hj => by
  have := h (11 + j) v (by unfold opCells; rw [List.getElem?_append_right (by simp)]; simpa using hj)
  rw [Nat.add_assoc]; exact this

/-! ### Reading -/
abbrev S2 := List UInt8 × Bool
def nx (n : Nat) (s : S2) : S2 := (rest s.1 s.2 n, isBad s.1 s.2 n)
def tx (s : S2) : S2 := (txtRest s.1 s.2, txtBad s.1 s.2)
def nm (n : Nat) (s : S2) : Nat := num (got s.1 s.2 n)
def nmi (s : S2) : Int := IntKind.i64.wrap (nm 8 s : Int)
def tt (s : S2) : List UInt8 := txt s.1 s.2
theorem nx_len (n : Nat) (s : S2) : (nx n s).1.length ≤ s.1.length := rest_len _ _ _
theorem tx_len (s : S2) : (tx s).1.length ≤ s.1.length := Nat.le_trans (rest_len _ _ _) (rest_len _ _ _)
theorem nm1_lt (s : S2) : nm 1 s < 256 := num_lt8 _ 1 (got_len _ _ _)
theorem nmi_i64 (s : S2) : I64 (nmi s) := by unfold nmi I64; rw [IntKind.wrap_i64]; omega
def q0 (l : List UInt8) : S2 := (l, false)
def q1 (l : List UInt8) := nx 1 (q0 l)
def q2 (l : List UInt8) := nx 1 (q1 l)
def q3 (l : List UInt8) := nx 8 (q2 l)
def q4 (l : List UInt8) := nx 8 (q3 l)
def q5 (l : List UInt8) := nx 8 (q4 l)
def q6 (l : List UInt8) := tx (q5 l)
def q7 (l : List UInt8) := tx (q6 l)
def q8 (l : List UInt8) := tx (q7 l)
def q9 (l : List UInt8) := tx (q8 l)
def q10 (l : List UInt8) := nx 8 (q9 l)
def q11 (l : List UInt8) := nx 8 (q10 l)
/-- Behind j of the bytes at the end. -/
def qb (s : S2) : Nat → S2
  | 0 => s
  | j + 1 => nx 1 (qb s j)
def rB (s : S2) (j : Nat) : UInt8 := UInt8.ofNat (nm 1 (qb s j))
def rBs (s : S2) (k : Nat) : List UInt8 := (List.range k).map (rB s)
theorem rBs_succ (s : S2) (k : Nat) : rBs s (k + 1) = rBs s k ++ [rB s k] := by simp [rBs, List.range_succ]
theorem rBs_len (s : S2) (k : Nat) : (rBs s k).length = k := by simp [rBs]
theorem rB_nat (s : S2) (j : Nat) : ((rB s j).toNat : Int) = (nm 1 (qb s j) : Int) := by
  unfold rB
  rw [UInt8.toNat_ofNat', Nat.mod_eq_of_lt (nm1_lt _)]
theorem qb_len (s : S2) : ∀ k, (qb s k).1.length ≤ s.1.length
  | 0 => Nat.le_refl _
  | k + 1 => Nat.le_trans (nx_len _ _) (qb_len s k)
def opR (l : List UInt8) : OpV := ⟨nm 1 (q0 l), nm 1 (q1 l), nmi (q2 l), nmi (q3 l), nmi (q4 l), tt (q5 l), tt (q6 l), tt (q7 l), tt (q8 l), nmi (q9 l), nmi (q10 l), rBs (q11 l) 16⟩
def qE (l : List UInt8) : S2 := qb (q11 l) 16
theorem q11_len (l : List UInt8) : (q11 l).1.length ≤ l.length := by
  have h1 : (q1 l).1.length ≤ l.length := nx_len 1 (q0 l)
  have h2 : (q2 l).1.length ≤ (q1 l).1.length := nx_len 1 (q1 l)
  have h3 : (q3 l).1.length ≤ (q2 l).1.length := nx_len 8 (q2 l)
  have h4 : (q4 l).1.length ≤ (q3 l).1.length := nx_len 8 (q3 l)
  have h5 : (q5 l).1.length ≤ (q4 l).1.length := nx_len 8 (q4 l)
  have h6 : (q6 l).1.length ≤ (q5 l).1.length := tx_len (q5 l)
  have h7 : (q7 l).1.length ≤ (q6 l).1.length := tx_len (q6 l)
  have h8 : (q8 l).1.length ≤ (q7 l).1.length := tx_len (q7 l)
  have h9 : (q9 l).1.length ≤ (q8 l).1.length := tx_len (q8 l)
  have h10 : (q10 l).1.length ≤ (q9 l).1.length := nx_len 8 (q9 l)
  have h11 : (q11 l).1.length ≤ (q10 l).1.length := nx_len 8 (q10 l)
  omega
theorem qE_len (l : List UInt8) : (qE l).1.length ≤ l.length := Nat.le_trans (qb_len _ 16) (q11_len l)
theorem tt_len (s : S2) : (tt s).length ≤ s.1.length := Nat.le_trans (got_len2 _ _ _) (rest_len _ _ _)
theorem opR_wf (l : List UInt8) (hl : l.length ≤ 140737488351232) : (opR l).Wf := by
  have h1 : (q1 l).1.length ≤ l.length := nx_len 1 (q0 l)
  have h2 : (q2 l).1.length ≤ (q1 l).1.length := nx_len 1 (q1 l)
  have h3 : (q3 l).1.length ≤ (q2 l).1.length := nx_len 8 (q2 l)
  have h4 : (q4 l).1.length ≤ (q3 l).1.length := nx_len 8 (q3 l)
  have h5 : (q5 l).1.length ≤ (q4 l).1.length := nx_len 8 (q4 l)
  have h6 : (q6 l).1.length ≤ (q5 l).1.length := tx_len (q5 l)
  have h7 : (q7 l).1.length ≤ (q6 l).1.length := tx_len (q6 l)
  have h8 : (q8 l).1.length ≤ (q7 l).1.length := tx_len (q7 l)
  have t5 := tt_len (q5 l)
  have t6 := tt_len (q6 l)
  have t7 := tt_len (q7 l)
  have t8 := tt_len (q8 l)
  exact ⟨nm1_lt _, nm1_lt _, nmi_i64 _, nmi_i64 _, nmi_i64 _, nmi_i64 _, nmi_i64 _, rBs_len _ 16, by show (tt (q5 l)).length ≤ _; omega, by show (tt (q6 l)).length ≤ _; omega, by show (tt (q7 l)).length ≤ _; omega, by show (tt (q8 l)).length ≤ _; omega⟩

/-! ### What is written is read as it was -/
theorem nx_app (x y : List UInt8) (n : Nat) (h : x.length = n) : nx n (x ++ y, false) = (y, false) ∧ nm n (x ++ y, false) = num x := by
  obtain ⟨h1, h2, h3⟩ := got_app x y n h
  exact ⟨by unfold nx; rw [h2, h3], by unfold nm; rw [h1]⟩
theorem tx_app (t y : List UInt8) (ht : t.length < 4294967296) : tx (textB t ++ y, false) = (y, false) ∧ tt (textB t ++ y, false) = t := by
  obtain ⟨h1, h2, h3⟩ := txt_app t y ht
  exact ⟨by unfold tx; rw [h2, h3], by unfold tt; rw [h1]⟩
theorem qb_succ' (s : S2) : ∀ k, qb s (k + 1) = qb (nx 1 s) k
  | 0 => rfl
  | k + 1 => by show nx 1 (qb s (k + 1)) = nx 1 (qb (nx 1 s) k); rw [qb_succ' s k]
theorem rBs_succ' (s : S2) (k : Nat) : rBs s (k + 1) = rB s 0 :: rBs (nx 1 s) k := by
  unfold rBs
  rw [List.range_succ_eq_map, List.map_cons, List.map_map]
  congr 1
  apply List.map_congr_left
  intro j hj
  show rB s (j + 1) = rB (nx 1 s) j
  unfold rB
  rw [qb_succ']
theorem qb_app : ∀ (x y : List UInt8), qb (x ++ y, false) x.length = (y, false) ∧ rBs (x ++ y, false) x.length = x
  | [], y => ⟨rfl, rfl⟩
  | b :: x, y => by
    obtain ⟨h1, h2⟩ := nx_app [b] (x ++ y) 1 rfl
    obtain ⟨h3, h4⟩ := qb_app x y
    have e : ((b :: x) ++ y, false) = (([b] ++ (x ++ y), false) : S2) := rfl
    rw [e]
    rw [List.length_cons, qb_succ', rBs_succ', h1]
    refine ⟨h3, ?_⟩
    rw [h4]
    congr 1
    unfold rB qb
    rw [h2]
    simp [num]
theorem qb_app16 (x y : List UInt8) (h : x.length = 16) : qb (x ++ y, false) 16 = (y, false) ∧ rBs (x ++ y, false) 16 = x := by rw [← h]; exact qb_app x y
theorem be1 (n : Nat) (h : n < 256) : num (be n 1) = n := by rw [num_be]; omega
theorem be8i (x : Int) (h : I64 x) : IntKind.i64.wrap (num (be (u64n x) 8) : Int) = x := by
  have := u64n_lt x
  rw [num_be, Nat.mod_eq_of_lt (by omega)]
  exact i64_u64 x h.1 h.2
structure Short (o : OpV) : Prop where
  s : o.s.length < 4294967296
  t : o.t.length < 4294967296
  sch : o.sch.length < 4294967296
  host : o.host.length < 4294967296
theorem short_of {o : OpV} {n : Nat} (h : texts o ≤ n) (hn : n < 4294967296) : Short o := by
  unfold texts at h; exact ⟨by omega, by omega, by omega, by omega⟩
theorem rd_encOp (o : OpV) (y : List UInt8) (hw : o.Wf) (hs : Short o) : opR (encOp o ++ y) = o ∧ qE (encOp o ++ y) = (y, false) := by
  obtain ⟨L, hL⟩ : ∃ L, L = encOp o ++ y := ⟨_, rfl⟩
  have e : L = be o.kind 1 ++ (be o.flag 1 ++ (be (u64n o.h) 8 ++ (be (u64n o.fr) 8 ++ (be (u64n o.to) 8 ++ (textB o.s ++ (textB o.t ++ (textB o.sch ++ (textB o.host ++ (be (u64n o.port) 8 ++ (be (u64n o.nonce) 8 ++ (o.r ++ y))))))))))) := by
    rw [hL]; unfold encOp; simp only [List.append_assoc]
  rw [← hL]
  have a0 : q0 L = (be o.kind 1 ++ (be o.flag 1 ++ (be (u64n o.h) 8 ++ (be (u64n o.fr) 8 ++ (be (u64n o.to) 8 ++ (textB o.s ++ (textB o.t ++ (textB o.sch ++ (textB o.host ++ (be (u64n o.port) 8 ++ (be (u64n o.nonce) 8 ++ (o.r ++ y))))))))))), false) := by unfold q0; rw [e]
  obtain ⟨b1, c1⟩ := nx_app (be o.kind 1) (be o.flag 1 ++ (be (u64n o.h) 8 ++ (be (u64n o.fr) 8 ++ (be (u64n o.to) 8 ++ (textB o.s ++ (textB o.t ++ (textB o.sch ++ (textB o.host ++ (be (u64n o.port) 8 ++ (be (u64n o.nonce) 8 ++ (o.r ++ y)))))))))) ) 1 (be_len _ _)
  have a1 := Eq.trans (show q1 L = _ from by rw [q1, a0]) b1
  obtain ⟨b2, c2⟩ := nx_app (be o.flag 1) (be (u64n o.h) 8 ++ (be (u64n o.fr) 8 ++ (be (u64n o.to) 8 ++ (textB o.s ++ (textB o.t ++ (textB o.sch ++ (textB o.host ++ (be (u64n o.port) 8 ++ (be (u64n o.nonce) 8 ++ (o.r ++ y)))))))))) 1 (be_len _ _)
  have a2 := Eq.trans (show q2 L = _ from by rw [q2, a1]) b2
  obtain ⟨b3, c3⟩ := nx_app (be (u64n o.h) 8) (be (u64n o.fr) 8 ++ (be (u64n o.to) 8 ++ (textB o.s ++ (textB o.t ++ (textB o.sch ++ (textB o.host ++ (be (u64n o.port) 8 ++ (be (u64n o.nonce) 8 ++ (o.r ++ y))))))))) 8 (be_len _ _)
  have a3 := Eq.trans (show q3 L = _ from by rw [q3, a2]) b3
  obtain ⟨b4, c4⟩ := nx_app (be (u64n o.fr) 8) (be (u64n o.to) 8 ++ (textB o.s ++ (textB o.t ++ (textB o.sch ++ (textB o.host ++ (be (u64n o.port) 8 ++ (be (u64n o.nonce) 8 ++ (o.r ++ y)))))))) 8 (be_len _ _)
  have a4 := Eq.trans (show q4 L = _ from by rw [q4, a3]) b4
  obtain ⟨b5, c5⟩ := nx_app (be (u64n o.to) 8) (textB o.s ++ (textB o.t ++ (textB o.sch ++ (textB o.host ++ (be (u64n o.port) 8 ++ (be (u64n o.nonce) 8 ++ (o.r ++ y))))))) 8 (be_len _ _)
  have a5 := Eq.trans (show q5 L = _ from by rw [q5, a4]) b5
  obtain ⟨b6, c6⟩ := tx_app o.s (textB o.t ++ (textB o.sch ++ (textB o.host ++ (be (u64n o.port) 8 ++ (be (u64n o.nonce) 8 ++ (o.r ++ y)))))) hs.s
  have a6 := Eq.trans (show q6 L = _ from by rw [q6, a5]) b6
  obtain ⟨b7, c7⟩ := tx_app o.t (textB o.sch ++ (textB o.host ++ (be (u64n o.port) 8 ++ (be (u64n o.nonce) 8 ++ (o.r ++ y))))) hs.t
  have a7 := Eq.trans (show q7 L = _ from by rw [q7, a6]) b7
  obtain ⟨b8, c8⟩ := tx_app o.sch (textB o.host ++ (be (u64n o.port) 8 ++ (be (u64n o.nonce) 8 ++ (o.r ++ y)))) hs.sch
  have a8 := Eq.trans (show q8 L = _ from by rw [q8, a7]) b8
  obtain ⟨b9, c9⟩ := tx_app o.host (be (u64n o.port) 8 ++ (be (u64n o.nonce) 8 ++ (o.r ++ y))) hs.host
  have a9 := Eq.trans (show q9 L = _ from by rw [q9, a8]) b9
  obtain ⟨b10, c10⟩ := nx_app (be (u64n o.port) 8) (be (u64n o.nonce) 8 ++ (o.r ++ y)) 8 (be_len _ _)
  have a10 := Eq.trans (show q10 L = _ from by rw [q10, a9]) b10
  obtain ⟨b11, c11⟩ := nx_app (be (u64n o.nonce) 8) (o.r ++ y) 8 (be_len _ _)
  have a11 := Eq.trans (show q11 L = _ from by rw [q11, a10]) b11
  obtain ⟨b12, c12⟩ := qb_app16 o.r y hw.r
  refine ⟨?_, by unfold qE; rw [a11]; exact b12⟩
  unfold opR nmi
  rw [a0, a1, a2, a3, a4, a5, a6, a7, a8, a9, a10, a11, c1, c2, c3, c4, c5, c6, c7, c8, c9, c10, c11, c12, be1 _ hw.k, be1 _ hw.f, be8i _ hw.h, be8i _ hw.fr, be8i _ hw.to, be8i _ hw.port, be8i _ hw.nonce]
/-! ### What is read well was written so -/
theorem nx_of {s : S2} {n : Nat} (h : (nx n s).2 = false) : s.2 = false ∧ be (nm n s) n ++ (nx n s).1 = s.1 ∧ nm n s < 256 ^ n := by
  obtain ⟨l, b⟩ := s
  unfold nx at h
  obtain ⟨rfl, -⟩ := bad_of h
  obtain ⟨p1, p2⟩ := got_rest h
  refine ⟨rfl, ?_, by unfold nm; exact num_lt8 _ n (got_len _ _ _)⟩
  unfold nx nm
  rw [be_num_of p2]; exact p1
theorem tx_of {s : S2} (h : (tx s).2 = false) : s.2 = false ∧ textB (tt s) ++ (tx s).1 = s.1 ∧ (tt s).length < 4294967296 := txt_of h
theorem qb_of (s : S2) : ∀ k, (qb s k).2 = false → s.2 = false ∧ rBs s k ++ (qb s k).1 = s.1
  | 0, h => ⟨h, rfl⟩
  | k + 1, h => by
    obtain ⟨h1, h2, h3⟩ := nx_of (n := 1) (s := qb s k) h
    obtain ⟨h4, h5⟩ := qb_of s k h1
    refine ⟨h4, ?_⟩
    rw [rBs_succ, List.append_assoc, ← h5, ← h2]
    congr 2
    unfold rB
    have h3' : nm 1 (qb s k) < 256 := by omega
    simp only [be, byteAt]
    simp [Nat.mod_eq_of_lt h3']
theorem be8_of {s : S2} (h : nm 8 s < 256 ^ 8) : be (u64n (nmi s)) 8 = be (nm 8 s) 8 := by unfold nmi; rw [u64_i64 _ (by omega)]
theorem enc_opR {l : List UInt8} (h : (qE l).2 = false) : encOp (opR l) ++ (qE l).1 = l ∧ Short (opR l) := by
  obtain ⟨h11, e12⟩ := qb_of (q11 l) 16 h
  obtain ⟨h10, e11, n11⟩ := nx_of (s := q10 l) (n := 8) h11
  obtain ⟨h9, e10, n10⟩ := nx_of (s := q9 l) (n := 8) h10
  obtain ⟨h8, e9, n9⟩ := tx_of (s := q8 l) h9
  obtain ⟨h7, e8, n8⟩ := tx_of (s := q7 l) h8
  obtain ⟨h6, e7, n7⟩ := tx_of (s := q6 l) h7
  obtain ⟨h5, e6, n6⟩ := tx_of (s := q5 l) h6
  obtain ⟨h4, e5, n5⟩ := nx_of (s := q4 l) (n := 8) h5
  obtain ⟨h3, e4, n4⟩ := nx_of (s := q3 l) (n := 8) h4
  obtain ⟨h2, e3, n3⟩ := nx_of (s := q2 l) (n := 8) h3
  obtain ⟨h1, e2, n2⟩ := nx_of (s := q1 l) (n := 1) h2
  obtain ⟨h0, e1, n1⟩ := nx_of (s := q0 l) (n := 1) h1
  refine ⟨?_, ⟨n6, n7, n8, n9⟩⟩
  have e : encOp (opR l) = be (nm 1 (q0 l)) 1 ++ (be (nm 1 (q1 l)) 1 ++ (be (nm 8 (q2 l)) 8 ++ (be (nm 8 (q3 l)) 8 ++ (be (nm 8 (q4 l)) 8 ++ (textB (tt (q5 l)) ++ (textB (tt (q6 l)) ++ (textB (tt (q7 l)) ++ (textB (tt (q8 l)) ++ (be (nm 8 (q9 l)) 8 ++ (be (nm 8 (q10 l)) 8 ++ rBs (q11 l) 16)))))))))) := by
    unfold encOp opR
    simp only [be8_of n3, be8_of n4, be8_of n5, be8_of n10, be8_of n11]
  rw [e]
  simp only [List.append_assoc]
  unfold qE
  rw [e12]
  have f11 : be (nm 8 (q10 l)) 8 ++ (q11 l).1 = (q10 l).1 := e11
  have f10 : be (nm 8 (q9 l)) 8 ++ (q10 l).1 = (q9 l).1 := e10
  have f9 : textB (tt (q8 l)) ++ (q9 l).1 = (q8 l).1 := e9
  have f8 : textB (tt (q7 l)) ++ (q8 l).1 = (q7 l).1 := e8
  have f7 : textB (tt (q6 l)) ++ (q7 l).1 = (q6 l).1 := e7
  have f6 : textB (tt (q5 l)) ++ (q6 l).1 = (q5 l).1 := e6
  have f5 : be (nm 8 (q4 l)) 8 ++ (q5 l).1 = (q4 l).1 := e5
  have f4 : be (nm 8 (q3 l)) 8 ++ (q4 l).1 = (q3 l).1 := e4
  have f3 : be (nm 8 (q2 l)) 8 ++ (q3 l).1 = (q2 l).1 := e3
  have f2 : be (nm 1 (q1 l)) 1 ++ (q2 l).1 = (q1 l).1 := e2
  have f1 : be (nm 1 (q0 l)) 1 ++ (q1 l).1 = (q0 l).1 := e1
  rw [f11, f10, f9, f8, f7, f6, f5, f4, f3, f2, f1]
  rfl

/-! ### Scripts -/
/-- Bytes that are these operations'. -/
structure Is (os : List OpV) (l : List UInt8) : Prop where
  wf : ∀ o ∈ os, o.Wf
  short : ∀ o ∈ os, Short o
  eq : encOps os = l
/-- How far a reader of operations has come. -/
inductive Far (l0 : List UInt8) : List OpV → S2 → Prop
  | start : Far l0 [] (l0, false)
  | step {out : List OpV} {l : List UInt8} (h : Far l0 out (l, false)) (hl : 0 < l.length) : Far l0 (out ++ [opR l]) (qE l)
theorem Far.len {l0 : List UInt8} {out : List OpV} {s : S2} (h : Far l0 out s) : s.1.length ≤ l0.length := by
  induction h with
  | start => exact Nat.le_refl _
  | step h hl ih => exact Nat.le_trans (qE_len _) ih
theorem Far.good {l0 : List UInt8} {out : List OpV} {s : S2} (h : Far l0 out s) (hl0 : l0.length ≤ 140737488351232) : (∀ o ∈ out, o.Wf) ∧ (s.2 = false → (∀ o ∈ out, Short o) ∧ encOps out ++ s.1 = l0) := by
  induction h with
  | start => exact ⟨by simp, fun _ => ⟨by simp, rfl⟩⟩
  | @step out l h hl ih =>
    obtain ⟨h1, h2⟩ := ih
    refine ⟨fun o ho => ?_, fun hq => ?_⟩
    · rcases List.mem_append.1 ho with ho | ho
      · exact h1 o ho
      · simp at ho; subst ho; exact opR_wf l (Nat.le_trans h.len hl0)
    · obtain ⟨h3, h4⟩ := h2 rfl
      obtain ⟨e1, e2⟩ := enc_opR hq
      refine ⟨fun o ho => ?_, by rw [encOps_snoc, List.append_assoc, e1]; exact h4⟩
      rcases List.mem_append.1 ho with ho | ho
      · exact h3 o ho
      · simp at ho; subst ho; exact e2
theorem encOp_pos (o : OpV) : 0 < (encOp o).length := by unfold encOp; simp only [List.length_append, be_len]; omega
theorem Far.of_is {l0 : List UInt8} {out : List OpV} {s : S2} (h : Far l0 out s) {os : List OpV} (hi : Is os l0) : s.2 = false ∧ ∃ more, os = out ++ more ∧ s.1 = encOps more := by
  induction h with
  | start => exact ⟨rfl, os, rfl, hi.eq.symm⟩
  | @step out l h hl ih =>
    obtain ⟨_, more, e1, e2⟩ := ih
    match more, e1, e2 with
    | [], _, e2 => simp [encOps] at e2; subst e2; simp at hl
    | o :: more, e1, e2 =>
      have hm : o ∈ os := by rw [e1]; simp
      obtain ⟨r1, r2⟩ := rd_encOp o (encOps more) (hi.wf o hm) (hi.short o hm)
      have e3 : l = encOp o ++ encOps more := e2
      rw [e3, r1, r2]
      exact ⟨rfl, more, by rw [e1]; simp, rfl⟩
theorem Far.end_is {l0 : List UInt8} {out : List OpV} {s : S2} (h : Far l0 out s) (hl0 : l0.length ≤ 140737488351232) (hb : s.2 = false) (he : s.1.length = 0) : Is out l0 := by
  obtain ⟨h1, h2⟩ := h.good hl0
  obtain ⟨h3, h4⟩ := h2 hb
  refine ⟨h1, h3, ?_⟩
  rw [List.eq_nil_of_length_eq_zero he, List.append_nil] at h4
  exact h4
theorem Far.none {l0 : List UInt8} {out : List OpV} {s : S2} (h : Far l0 out s) (hb : s.2 = true) : ∀ os, ¬ Is os l0 := fun os hi => by
  have := (h.of_is hi).1
  rw [hb] at this; cases this
theorem Is.uniq {l0 : List UInt8} : ∀ {a b : List OpV}, Is a l0 → Is b l0 → a = b := by
  have key : ∀ (a b : List OpV), (∀ o ∈ a, o.Wf ∧ Short o) → (∀ o ∈ b, o.Wf ∧ Short o) → encOps a = encOps b → a = b := by
    intro a
    induction a with
    | nil => intro b _ _ e; cases b with
      | nil => rfl
      | cons o b => exfalso; have h1 := congrArg List.length e; rw [encOps_cons, encOps_nil, List.length_append, List.length_nil] at h1; have := encOp_pos o; omega
    | cons o a ih => intro b ha hb e; cases b with
      | nil => exfalso; have h1 := congrArg List.length e; rw [encOps_cons, encOps_nil, List.length_append, List.length_nil] at h1; have := encOp_pos o; omega
      | cons p b =>
        rw [encOps_cons, encOps_cons] at e
        obtain ⟨w1, s1⟩ := ha o (by simp)
        obtain ⟨w2, s2⟩ := hb p (by simp)
        obtain ⟨x1, x2⟩ := rd_encOp o (encOps a) w1 s1
        obtain ⟨y1, y2⟩ := rd_encOp p (encOps b) w2 s2
        rw [e] at x1 x2
        have e1 : o = p := x1.symm.trans y1
        have e2 : (encOps a, false) = ((encOps b, false) : S2) := x2.symm.trans y2
        injection e2 with e2 _
        rw [e1, ih b (fun o h => ha o (by simp [h])) (fun o h => hb o (by simp [h])) e2]
  exact fun {a b} h1 h2 => key a b (fun o ho => ⟨h1.wf o ho, h1.short o ho⟩) (fun o ho => ⟨h2.wf o ho, h2.short o ho⟩) (h1.eq.trans h2.eq.symm)
theorem i88 : (Try.prog.info? 88).map (fun i => (i.size, i.bytes)) = some (27, 128) := by kernel_rfl
theorem i88s : (Try.prog.info? 88).map (·.size) = some 27 := by kernel_rfl
theorem i85s : (Try.prog.info? 85).map (·.size) = some 4 := by kernel_rfl
theorem i86s : (Try.prog.info? 86).map (·.size) = some 16 := by kernel_rfl
end Go.Proofs.Ytdojhdglbajinaa.ScrOp
