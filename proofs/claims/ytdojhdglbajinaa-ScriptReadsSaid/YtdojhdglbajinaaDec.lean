/- DERIVED. answer.Decode. -/
import Derived.Test.YtdojhdglbajinaaEnc
namespace Go.Proofs.Ytdojhdglbajinaa.Dec
open Go.RowKit Go.Proofs.Ytdojhdglbajinaa.Mem Go.Proofs.Ytdojhdglbajinaa.Writer Go.Proofs.Ytdojhdglbajinaa.Reader Go.Proofs.Ytdojhdglbajinaa.Enc
set_option linter.unusedVariables false
set_option linter.unusedSimpArgs false

def R1 (l : List UInt8) := rest l false 1
def D1 (l : List UInt8) := isBad l false 1
def R2 (l : List UInt8) := rest (R1 l) (D1 l) 4
def D2 (l : List UInt8) := isBad (R1 l) (D1 l) 4
def R3 (l : List UInt8) := rest (R2 l) (D2 l) 8
def D3 (l : List UInt8) := isBad (R2 l) (D2 l) 8
def R4 (l : List UInt8) := rest (R3 l) (D3 l) 8
def D4 (l : List UInt8) := isBad (R3 l) (D3 l) 8
def R5 (l : List UInt8) := txtRest (R4 l) (D4 l)
def D5 (l : List UInt8) := txtBad (R4 l) (D4 l)
def R6 (l : List UInt8) := txtRest (R5 l) (D5 l)
def D6 (l : List UInt8) := txtBad (R5 l) (D5 l)
def sortR (l : List UInt8) : Nat := num (got l false 1)
def statR (l : List UInt8) : Nat := num (got (R1 l) (D1 l) 4)
def firstR (l : List UInt8) : Int := IntKind.i64.wrap (num (got (R2 l) (D2 l) 8))
def totalR (l : List UInt8) : Int := IntKind.i64.wrap (num (got (R3 l) (D3 l) 8))
def kindR (l : List UInt8) : List UInt8 := txt (R4 l) (D4 l)
def bodyR (l : List UInt8) : List UInt8 := txt (R5 l) (D5 l)
theorem sortR_lt (l : List UInt8) : sortR l < 256 := num_lt8 _ 1 (got_len _ _ _)
theorem statR_lt (l : List UInt8) : statR l < 4294967296 := num_lt8 _ 4 (got_len _ _ _)
/-- What is read of an answer's bytes. -/
def rdAns (l : List UInt8) : Ans := ⟨sortR l, statR l, firstR l, totalR l, kindR l, bodyR l⟩
def zeroAns : Ans := ⟨0, 0, 0, 0, [], []⟩
def okAns (l : List UInt8) : Bool := !D6 l && (R6 l).length == 0
def resAns (l : List UInt8) : Ans := if okAns l then rdAns l else zeroAns
def errAns (l : List UInt8) : Int := if okAns l then 0 else 2
theorem txt_len (l : List UInt8) (b : Bool) : (txt l b).length ≤ l.length := Nat.le_trans (got_len2 _ _ _) (rest_len _ _ _)
theorem txtRest_len (l : List UInt8) (b : Bool) : (txtRest l b).length ≤ l.length := Nat.le_trans (rest_len _ _ _) (rest_len _ _ _)

theorem bodyR_size (l : List UInt8) (hl : l.length ≤ 70368744177664) : (str (bodyR l)).size ≤ 9223372036854775807 := by
  rw [str_size]
  have h1 := txt_len (R5 l) (D5 l)
  have h2 := txtRest_len (R4 l) (D4 l)
  have h3 := rest_len (R3 l) (D3 l) 8
  have h4 := rest_len (R2 l) (D2 l) 8
  have h5 := rest_len (R1 l) (D1 l) 4
  have h6 := rest_len l false 1
  show (txt (R5 l) (D5 l)).length ≤ _
  unfold R5 R4 R3 R2 R1 at *
  omega

def zcells : Array Value := #[.int .i64 0, .int .i64 0, .int .i64 0, .int .i64 0, .string { data := #[] }, .slice none 0 0]
/-- Between two reads: the reader at g; the result's block; what lay below. -/
structure St (w wk : World) (g : Nat) (l : List UInt8) (bad : Bool) : Prop where
  rr : Rr wk g l bad
  gt : w.heap.size < g
  zero : wk.heap[w.heap.size]? = some (.cells zcells 24 (0, 0))
  below : Below w.heap.size w wk
  len : l.length ≤ 70368744177664
theorem St.step {w wk wl : World} {g : Nat} {l l' : List UInt8} {bad bad' : Bool} (h : St w wk g l bad) (h1 : Rr wl g l' bad') (h2 : Ch g wk wl) (hl : l'.length ≤ l.length) : St w wl g l' bad' :=
  ⟨h1, h.gt, (h2.below.block _ h.gt).trans h.zero, h.below.trans (h2.below.mono (by have := h.gt; omega)), Nat.le_trans hl h.len⟩
theorem St.on {w wk wl : World} {g : Nat} {l : List UInt8} {bad : Bool} (h : St w wk g l bad) (h2 : Below wk.heap.size wk wl) : St w wl g l bad :=
  ⟨h.rr.below h2, h.gt, (h2.block _ (Array.getElem?_eq_some_iff.1 h.zero).1).trans h.zero, h.below.trans (h2.mono h.below.size), h.len⟩
theorem St.start {w w1 : World} {g : Nat} {l : List UInt8} {bad : Bool} (hg : (w.alloc (.cells zcells 24)).heap.size ≤ g) (h1 : Rr w1 g l bad) (h2 : Below (w.alloc (.cells zcells 24)).heap.size (w.alloc (.cells zcells 24)) w1) (hl : l.length ≤ 70368744177664) : St w w1 g l bad := by
  have hsz : (w.alloc (.cells zcells 24)).heap.size = w.heap.size + 1 := by simp
  refine ⟨h1, by omega, (h2.block _ (by omega)).trans ?_, (below1 w _).trans (h2.mono (by omega)), hl⟩
  show (w.heap.push _)[w.heap.size]? = _
  rw [Array.getElem?_push, if_pos rfl]
section
variable {w wk : World} {g : Nat} {l : List UInt8}
theorem s1 (h : St w wk g l false) : Calls Try.prog 21 #[.pointer (some ⟨g, 0, none⟩)] wk fun e w' => e = .returned (.int .u8 (sortR l : Int)) ∧ Hid (St w w' g (R1 l) (D1 l)) :=
  (Reader.u8 g l false wk h.rr h.len).mono fun e w' ⟨he, h1, h2⟩ => ⟨he, h.step h1 h2 (rest_len _ _ _)⟩
theorem s2 (h : St w wk g (R1 l) (D1 l)) : Calls Try.prog 23 #[.pointer (some ⟨g, 0, none⟩)] wk fun e w' => e = .returned (.int .u32 (statR l : Int)) ∧ Hid (St w w' g (R2 l) (D2 l)) :=
  (Reader.u32 g _ _ wk h.rr h.len).mono fun e w' ⟨he, h1, h2⟩ => ⟨he, h.step h1 h2 (rest_len _ _ _)⟩
theorem s3 (h : St w wk g (R2 l) (D2 l)) : Calls Try.prog 24 #[.pointer (some ⟨g, 0, none⟩)] wk fun e w' => e = .returned (.int .i64 (firstR l)) ∧ Hid (St w w' g (R3 l) (D3 l)) :=
  (Reader.i64 g _ _ wk h.rr h.len).mono fun e w' ⟨he, h1, h2⟩ => ⟨he, h.step h1 h2 (rest_len _ _ _)⟩
theorem s4 (h : St w wk g (R3 l) (D3 l)) : Calls Try.prog 24 #[.pointer (some ⟨g, 0, none⟩)] wk fun e w' => e = .returned (.int .i64 (totalR l)) ∧ Hid (St w w' g (R4 l) (D4 l)) :=
  (Reader.i64 g _ _ wk h.rr h.len).mono fun e w' ⟨he, h1, h2⟩ => ⟨he, h.step h1 h2 (rest_len _ _ _)⟩
theorem s5 (h : St w wk g (R4 l) (D4 l)) : Calls Try.prog 25 #[.pointer (some ⟨g, 0, none⟩)] wk fun e w' => e = .returned (.string (str (kindR l))) ∧ Hid (St w w' g (R5 l) (D5 l)) :=
  (Reader.string g _ _ wk h.rr h.len).mono fun e w' ⟨he, h1, h2⟩ => ⟨he, h.step h1 h2 (txtRest_len _ _)⟩
theorem s6 (h : St w wk g (R5 l) (D5 l)) : Calls Try.prog 25 #[.pointer (some ⟨g, 0, none⟩)] wk fun e w' => e = .returned (.string (str (bodyR l))) ∧ Hid (St w w' g (R6 l) (D6 l)) :=
  (Reader.string g _ _ wk h.rr h.len).mono fun e w' ⟨he, h1, h2⟩ => ⟨he, h.step h1 h2 (txtRest_len _ _)⟩
theorem s7 (h : St w wk g (R6 l) (D6 l)) (d : Bool) (hd : D6 l = d) : Calls Try.prog 27 #[.pointer (some ⟨g, 0, none⟩)] wk fun e w' => e = .returned (.bool d) ∧ wk = w' := by
  subst hd; exact Reader.bad g _ _ wk h.rr
theorem s8 (h : St w wk g (R6 l) (D6 l)) (hd : D6 l = false) : Calls Try.prog 28 #[.pointer (some ⟨g, 0, none⟩)] wk fun e w' => e = .returned (.int .i64 ((R6 l).length : Int)) ∧ wk = w' := by
  have := Reader.left g _ _ wk h.rr
  rw [hd] at this
  exact this
/-- Behind the reads: the body's bytes, the answer's box. -/
theorem behind {w3 : World} (h : St w wk g (R6 l) (D6 l)) (s : ByteArray) (X : Obj) (hw : (Lib.bytesWorld wk 5 s).alloc X = w3) (hs : s.size ≤ 9223372036854775807) :
    St w w3 g (R6 l) (D6 l) ∧ w3.heap[(Lib.bytesWorld wk 5 s).heap.size]? = some X ∧ Rd w3 (some ⟨wk.heap.size, 0, none⟩) s.data.toList ∧ w.heap.size < wk.heap.size := by
  subst hw
  refine ⟨h.on ((below_bytes (Below.refl _ _) (Nat.le_refl _) 5 s).alloc (by rw [Lib.bytesWorld_size]; omega) _), ?_, (rd_bytes wk 5 s hs).below (below1 _ _), (Array.getElem?_eq_some_iff.1 h.zero).1⟩
  show ((Lib.bytesWorld wk 5 s).heap.push _)[(Lib.bytesWorld wk 5 s).heap.size]? = _
  rw [Array.getElem?_push, if_pos rfl]
end
section
variable {P : Program}
theorem results_ct {fn : Func} {p u : Tmp} {ty : TypeId} (h : fn.results = #[.cell p ty, .tmp u]) (tmps : Array Value) (w : World) (g : Nat) (t : TypeId) (cs : Array Value) (fr : Nat × Nat) (d : TypeDesc)
    (hp : tmps.getD p undef = .pointer (some ⟨g, 0, none⟩)) (hg : w.heap[g]? = some (.cells cs t fr))
    (hu : P.underlying ty = some d) (hd : (match d with | .struct _ | .array _ _ => true | _ => false) = true) (hi : (P.info? ty).map (·.size) = some cs.size) :
    (results fn tmps).run P w = .ok (.tuple #[.agg cs, tmps.getD u undef]) w := by
  have hp' : tmps[p]?.getD undef = .pointer (some ⟨g, 0, none⟩) := by simpa using hp
  simp [results, h, hp', asAddr, run_loadVar_row w g t ty cs fr d hg hu hd hi]
theorem results_c {fn : Func} {p : Tmp} {ty : TypeId} (h : fn.results = #[.cell p ty]) (tmps : Array Value) (w : World) (g : Nat) (t : TypeId) (cs : Array Value) (fr : Nat × Nat) (d : TypeDesc)
    (hp : tmps.getD p undef = .pointer (some ⟨g, 0, none⟩)) (hg : w.heap[g]? = some (.cells cs t fr))
    (hu : P.underlying ty = some d) (hd : (match d with | .struct _ | .array _ _ => true | _ => false) = true) (hi : (P.info? ty).map (·.size) = some cs.size) :
    (results fn tmps).run P w = .ok (.agg cs) w := by
  have hp' : tmps[p]?.getD undef = .pointer (some ⟨g, 0, none⟩) := by simpa using hp
  simp [results, h, hp', asAddr, run_loadVar_row w g t ty cs fr d hg hu hd hi]
end
theorem set6 {w : World} {b t : Nat} {a0 a1 a2 a3 a4 a5 : Value} (v0 v1 v2 v3 v4 v5 : Value) {fr : Nat × Nat} (h : w.heap[b]? = some (.cells #[a0, a1, a2, a3, a4, a5] t fr)) :
    ((((((w.setCell ⟨b, 0, none⟩ v0).setCell ⟨b, 1, none⟩ v1).setCell ⟨b, 2, none⟩ v2).setCell ⟨b, 3, none⟩ v3).setCell ⟨b, 4, none⟩ v4).setCell ⟨b, 5, none⟩ v5).heap[b]? = some (.cells #[v0, v1, v2, v3, v4, v5] t fr) ∧
    Ch b w ((((((w.setCell ⟨b, 0, none⟩ v0).setCell ⟨b, 1, none⟩ v1).setCell ⟨b, 2, none⟩ v2).setCell ⟨b, 3, none⟩ v3).setCell ⟨b, 4, none⟩ v4).setCell ⟨b, 5, none⟩ v5) := by
  refine ⟨?_, ((((((Ch.store b 0 _ _).trans (Ch.store b 1 _ _)).trans (Ch.store b 2 _ _)).trans (Ch.store b 3 _ _)).trans (Ch.store b 4 _ _)).trans (Ch.store b 5 _ _))⟩
  exact Joins.block_setCell (Joins.block_setCell (Joins.block_setCell (Joins.block_setCell (Joins.block_setCell (Joins.block_setCell h v0) v1) v2) v3) v4) v5
theorem info24 : (Try.prog.info? 24).map (·.size) = some 6 := by kernel_rfl
theorem pfacts {w : World} {b : Nat} {v0 v1 v2 v3 v4 v5 : Value} {fr : Nat × Nat} (h : w.heap[b]? = some (.cells #[v0, v1, v2, v3, v4, v5] 24 fr)) : w.cell? ⟨b, 0, none⟩ = some v0 ∧ w.cell? ⟨b, 1, none⟩ = some v1 ∧ w.cell? ⟨b, 2, none⟩ = some v2 ∧ w.cell? ⟨b, 3, none⟩ = some v3 ∧ w.cell? ⟨b, 4, none⟩ = some v4 ∧ w.cell? ⟨b, 5, none⟩ = some v5 := by
  refine ⟨?_, ?_, ?_, ?_, ?_, ?_⟩ <;> simp [World.cell?, h]
theorem zfacts {w : World} {b : Nat} (h : w.heap[b]? = some (.cells zcells 24 (0, 0))) : (w.cell? ⟨b, 0, none⟩ = some (.int .i64 0) ∧ w.cell? ⟨b, 1, none⟩ = some (.int .i64 0) ∧ w.cell? ⟨b, 2, none⟩ = some (.int .i64 0) ∧ w.cell? ⟨b, 3, none⟩ = some (.int .i64 0) ∧ w.cell? ⟨b, 4, none⟩ = some (.string { data := #[] }) ∧ w.cell? ⟨b, 5, none⟩ = some (.slice none 0 0)) ∧ w.frozen? ⟨b, 0, none⟩ = false ∧ w.frozen? ⟨b, 1, none⟩ = false ∧ w.frozen? ⟨b, 2, none⟩ = false ∧ w.frozen? ⟨b, 3, none⟩ = false ∧ w.frozen? ⟨b, 4, none⟩ = false ∧ w.frozen? ⟨b, 5, none⟩ = false := by
  refine ⟨pfacts h, ?_, ?_, ?_, ?_, ?_, ?_⟩ <;> exact Joins.unfrozen_of_block h _
attribute [irreducible] R1 R2 R3 R4 R5 R6 D1 D2 D3 D4 D5 D6 sortR statR firstR totalR kindR bodyR
set_option maxHeartbeats 4000000 in
set_option maxRecDepth 100000 in
theorem decode (A : Option Addr) (c : Nat) (l : List UInt8) (w : World) (h : Rd w A l) (hl : l.length ≤ 70368744177664) :
    Calls Try.prog 15 #[.slice A l.length c] w fun e w' => ∃ B c', e = .returned (.tuple #[val (resAns l) B c', .int .i64 (errAns l)]) ∧ Rd w' B (resAns l).body ∧ Below w.heap.size w w' := by
  have HA := Lib.hid h
  have k1 := sortR_lt l
  have k2 := statR_lt l
  have kb := fun W => Lib.run_convert_string_bytes (P := Try.prog) W 9 22 5 (str (bodyR l)) Try.underlying9 Try.underlying22 Try.underlying5
  have KS : Hid ((str (bodyR l)).size ≤ 9223372036854775807) := bodyR_size l hl
  clear h
  rcases Bool.eq_false_or_eq_true (D6 l) with hd | hd
  · have HD := Lib.hid hd
    have HO : Hid (okAns l = false) := by show okAns l = false; simp [okAns, hd]
    clear hd
    go_enter Try.func15, Try.ntmps15
    go_wp2_with (first
      | (go_at_call 20; refine (Reader.new _ _ _ _ (HA.out.below (below1 _ _)) (by omega)).mono ?_; rintro e w1 ⟨g, rfl, hg, h1, h2⟩; have HS := Lib.hid (St.start hg h1 h2 hl); clear hg h1 h2)
      | (go_at_call 21; refine (s1 HS.out).mono ?_; rintro e w1 ⟨rfl, HS2⟩; clear HS; have HS := HS2; clear HS2)
      | (go_at_call 23; refine (s2 HS.out).mono ?_; rintro e w1 ⟨rfl, HS2⟩; clear HS; have HS := HS2; clear HS2)
      | (go_at_call 24; refine (s3 HS.out).mono ?_; rintro e w1 ⟨rfl, HS2⟩; clear HS; have HS := HS2; clear HS2)
      | (go_at_call 24; refine (s4 HS.out).mono ?_; rintro e w1 ⟨rfl, HS2⟩; clear HS; have HS := HS2; clear HS2)
      | (go_at_call 25; refine (s5 HS.out).mono ?_; rintro e w1 ⟨rfl, HS2⟩; clear HS; have HS := HS2; clear HS2)
      | (go_at_call 25; refine (s6 HS.out).mono ?_; rintro e w1 ⟨rfl, HS2⟩; clear HS; have HS := HS2; clear HS2)
      | (go_at_call 27; refine (s7 (HS.out.on ((below_bytes (Below.refl _ _) (Nat.le_refl _) 5 _).alloc (by rw [Lib.bytesWorld_size]; omega) _)) _ HD.out).mono ?_; rintro e w3 ⟨rfl, hw⟩; obtain ⟨hs3, hb5, hrd, hne⟩ := behind HS.out _ _ hw KS.out; clear HS hw; have HS := Lib.hid hs3; have HRD := Lib.hid hrd; have HNE := Lib.hid hne; clear hne; obtain ⟨n5, hn5⟩ : ∃ n, n = (Lib.bytesWorld w1 5 (str (bodyR l))).heap.size := ⟨_, rfl⟩; rw [← hn5] at hb5 ⊢; clear hn5 hs3 hrd; have HB5 := Lib.hid hb5; obtain ⟨⟨z0, z1, z2, z3, z4, z5⟩, f0, f1, f2, f3, f4, f5⟩ := zfacts HS.out.zero; obtain ⟨p0, p1, p2, p3, p4, p5⟩ := pfacts hb5; clear hb5)
      | (go_at_call 28; refine (s8 HS.out HD.out).mono ?_; rintro e w4 ⟨rfl, rfl⟩))
    refine bodyPost_ret (results_ct rfl _ _ w.heap.size 24 _ (0, 0) _ (by rfl) (set6 _ _ _ _ _ _ HS.out.zero).1 Try.underlying24 rfl info24) rfl ?_
    refine ⟨none, 0, by unfold resAns errAns; rw [HO.out]; rfl, by unfold resAns; rw [HO.out]; exact Rd.nil _ _, HS.out.below.trans ((set6 _ _ _ _ _ _ HS.out.zero).2.below.mono (Nat.le_refl _))⟩
  · have HD := Lib.hid hd
    by_cases hz : 0 < (R6 l).length
    · have HO : Hid (okAns l = false) := by show okAns l = false; simp [okAns, hd]; intro h0; rw [h0] at hz; simp at hz
      clear hd
      go_enter Try.func15, Try.ntmps15
      go_wp2_with (first
      | (go_at_call 20; refine (Reader.new _ _ _ _ (HA.out.below (below1 _ _)) (by omega)).mono ?_; rintro e w1 ⟨g, rfl, hg, h1, h2⟩; have HS := Lib.hid (St.start hg h1 h2 hl); clear hg h1 h2)
      | (go_at_call 21; refine (s1 HS.out).mono ?_; rintro e w1 ⟨rfl, HS2⟩; clear HS; have HS := HS2; clear HS2)
      | (go_at_call 23; refine (s2 HS.out).mono ?_; rintro e w1 ⟨rfl, HS2⟩; clear HS; have HS := HS2; clear HS2)
      | (go_at_call 24; refine (s3 HS.out).mono ?_; rintro e w1 ⟨rfl, HS2⟩; clear HS; have HS := HS2; clear HS2)
      | (go_at_call 24; refine (s4 HS.out).mono ?_; rintro e w1 ⟨rfl, HS2⟩; clear HS; have HS := HS2; clear HS2)
      | (go_at_call 25; refine (s5 HS.out).mono ?_; rintro e w1 ⟨rfl, HS2⟩; clear HS; have HS := HS2; clear HS2)
      | (go_at_call 25; refine (s6 HS.out).mono ?_; rintro e w1 ⟨rfl, HS2⟩; clear HS; have HS := HS2; clear HS2)
      | (go_at_call 27; refine (s7 (HS.out.on ((below_bytes (Below.refl _ _) (Nat.le_refl _) 5 _).alloc (by rw [Lib.bytesWorld_size]; omega) _)) _ HD.out).mono ?_; rintro e w3 ⟨rfl, hw⟩; obtain ⟨hs3, hb5, hrd, hne⟩ := behind HS.out _ _ hw KS.out; clear HS hw; have HS := Lib.hid hs3; have HRD := Lib.hid hrd; have HNE := Lib.hid hne; clear hne; obtain ⟨n5, hn5⟩ : ∃ n, n = (Lib.bytesWorld w1 5 (str (bodyR l))).heap.size := ⟨_, rfl⟩; rw [← hn5] at hb5 ⊢; clear hn5 hs3 hrd; have HB5 := Lib.hid hb5; obtain ⟨⟨z0, z1, z2, z3, z4, z5⟩, f0, f1, f2, f3, f4, f5⟩ := zfacts HS.out.zero; obtain ⟨p0, p1, p2, p3, p4, p5⟩ := pfacts hb5; clear hb5)
      | (go_at_call 28; refine (s8 HS.out HD.out).mono ?_; rintro e w4 ⟨rfl, rfl⟩))
      refine bodyPost_ret (results_ct rfl _ _ w.heap.size 24 _ (0, 0) _ (by rfl) (set6 _ _ _ _ _ _ HS.out.zero).1 Try.underlying24 rfl info24) rfl ?_
      refine ⟨none, 0, by unfold resAns errAns; rw [HO.out]; rfl, by unfold resAns; rw [HO.out]; exact Rd.nil _ _, HS.out.below.trans ((set6 _ _ _ _ _ _ HS.out.zero).2.below.mono (Nat.le_refl _))⟩
    · have HO : Hid (okAns l = true) := by show okAns l = true; simp [okAns, hd]; exact List.eq_nil_of_length_eq_zero (by omega)
      clear hd
      go_enter Try.func15, Try.ntmps15
      go_wp2_with (first
      | (go_at_call 20; refine (Reader.new _ _ _ _ (HA.out.below (below1 _ _)) (by omega)).mono ?_; rintro e w1 ⟨g, rfl, hg, h1, h2⟩; have HS := Lib.hid (St.start hg h1 h2 hl); clear hg h1 h2)
      | (go_at_call 21; refine (s1 HS.out).mono ?_; rintro e w1 ⟨rfl, HS2⟩; clear HS; have HS := HS2; clear HS2)
      | (go_at_call 23; refine (s2 HS.out).mono ?_; rintro e w1 ⟨rfl, HS2⟩; clear HS; have HS := HS2; clear HS2)
      | (go_at_call 24; refine (s3 HS.out).mono ?_; rintro e w1 ⟨rfl, HS2⟩; clear HS; have HS := HS2; clear HS2)
      | (go_at_call 24; refine (s4 HS.out).mono ?_; rintro e w1 ⟨rfl, HS2⟩; clear HS; have HS := HS2; clear HS2)
      | (go_at_call 25; refine (s5 HS.out).mono ?_; rintro e w1 ⟨rfl, HS2⟩; clear HS; have HS := HS2; clear HS2)
      | (go_at_call 25; refine (s6 HS.out).mono ?_; rintro e w1 ⟨rfl, HS2⟩; clear HS; have HS := HS2; clear HS2)
      | (go_at_call 27; refine (s7 (HS.out.on ((below_bytes (Below.refl _ _) (Nat.le_refl _) 5 _).alloc (by rw [Lib.bytesWorld_size]; omega) _)) _ HD.out).mono ?_; rintro e w3 ⟨rfl, hw⟩; obtain ⟨hs3, hb5, hrd, hne⟩ := behind HS.out _ _ hw KS.out; clear HS hw; have HS := Lib.hid hs3; have HRD := Lib.hid hrd; have HNE := Lib.hid hne; clear hne; obtain ⟨n5, hn5⟩ : ∃ n, n = (Lib.bytesWorld w1 5 (str (bodyR l))).heap.size := ⟨_, rfl⟩; rw [← hn5] at hb5 ⊢; clear hn5 hs3 hrd; have HB5 := Lib.hid hb5; obtain ⟨⟨z0, z1, z2, z3, z4, z5⟩, f0, f1, f2, f3, f4, f5⟩ := zfacts HS.out.zero; obtain ⟨p0, p1, p2, p3, p4, p5⟩ := pfacts hb5; clear hb5)
      | (go_at_call 28; refine (s8 HS.out HD.out).mono ?_; rintro e w4 ⟨rfl, rfl⟩))
      refine bodyPost_ret (results_ct rfl _ _ w.heap.size 24 _ (0, 0) _ (by rfl) (set6 _ _ _ _ _ _ HS.out.zero).1 Try.underlying24 rfl info24) rfl ?_
      refine ⟨some ⟨w1.heap.size, 0, none⟩, _, by unfold resAns errAns; rw [HO.out]; unfold val; rw [if_pos rfl, if_pos rfl, show (rdAns l).body.length = (str (bodyR l)).size from (str_size _).symm]; rfl, ?_, HS.out.below.trans ((set6 _ _ _ _ _ _ HS.out.zero).2.below.mono (Nat.le_refl _))⟩
      unfold resAns
      rw [HO.out, if_pos rfl]
      exact Rd.ch HRD.out (set6 _ _ _ _ _ _ HS.out.zero).2 (fun ad e => by injection e with e; subst e; have := HNE.out; show w1.heap.size ≠ w.heap.size; omega)
end Go.Proofs.Ytdojhdglbajinaa.Dec
