/- DERIVED. answer.Encode. -/
import Derived.Test.YtdojhdglbajinaaReader
namespace Go.Proofs.Ytdojhdglbajinaa.Enc
open Go.RowKit Go.Proofs.Ytdojhdglbajinaa.Mem Go.Proofs.Ytdojhdglbajinaa.Writer
set_option linter.unusedVariables false
set_option linter.unusedSimpArgs false

/-- An answer. -/
structure Ans where
  sort : Int
  status : Int
  first : Int
  total : Int
  kind : List UInt8
  body : List UInt8
def un8 (x : Int) : Nat := (x % 256).toNat
def un32 (x : Int) : Nat := (x % 4294967296).toNat
theorem un8_lt (x : Int) : un8 x < 256 := by unfold un8; omega
theorem un32_lt (x : Int) : un32 x < 4294967296 := by unfold un32; omega
theorem un8_wrap (x : Int) : IntKind.u8.wrap x = (un8 x : Int) := by rw [IntKind.wrap_u8]; unfold un8; omega
theorem un32_wrap (x : Int) : IntKind.u32.wrap x = (un32 x : Int) := by rw [IntKind.wrap_u32]; unfold un32; omega
def enc (a : Ans) : List UInt8 := be (un8 a.sort) 1 ++ be (un32 a.status) 4 ++ be (u64n a.first) 8 ++ be (u64n a.total) 8 ++ textB a.kind ++ textB a.body
theorem textB_len (l : List UInt8) : (textB l).length = 4 + l.length := by unfold textB; rw [List.length_append, be_len]
theorem enc_len (a : Ans) : (enc a).length = 29 + a.kind.length + a.body.length := by
  unfold enc; simp only [List.length_append, be_len, textB_len]; omega
/-- Its value: the body at A. -/
def val (a : Ans) (A : Option Addr) (c : Nat) : Value := .agg #[.int .i64 a.sort, .int .i64 a.status, .int .i64 a.first, .int .i64 a.total, .string (str a.kind), .slice A a.body.length c]
def cells (a : Ans) (A : Option Addr) (c : Nat) : Array Value := #[.int .i64 a.sort, .int .i64 a.status, .int .i64 a.first, .int .i64 a.total, .string (str a.kind), .slice A a.body.length c]
theorem own_mono {w : World} {b b' : Nat} {e : TypeId} {size n : Nat} {v : Value} {ys : List Value} (h : w.ownsRow b e size v n ys) (hb : b' ≤ b) : w.ownsRow b' e size v n ys := by
  refine ⟨h.1, ?_⟩
  rcases h.2 with h0 | ⟨g, cap, cur, hv, hbr, rest⟩
  · exact Or.inl h0
  · exact Or.inr ⟨g, cap, cur, hv, by omega, rest⟩
theorem cells6 {w w' : World} {a : Ans} {A : Option Addr} {c b g : Nat} (h : w.heap[b]? = some (.cells (cells a A c) 24 (0, 0))) (hf : Fr g w w') (hb : b < g) :
    w'.cell? ⟨b, 0, none⟩ = some (.int .i64 a.sort) ∧ w'.cell? ⟨b, 1, none⟩ = some (.int .i64 a.status) ∧ w'.cell? ⟨b, 2, none⟩ = some (.int .i64 a.first) ∧ w'.cell? ⟨b, 3, none⟩ = some (.int .i64 a.total) ∧ w'.cell? ⟨b, 4, none⟩ = some (.string (str a.kind)) ∧ w'.cell? ⟨b, 5, none⟩ = some (.slice A a.body.length c) := by
  have h2 := (hf.below.block b hb).trans h
  refine ⟨?_, ?_, ?_, ?_, ?_, ?_⟩ <;> simp [World.cell?, h2, cells]
theorem wr_start (w : World) (X : Obj) : Wr ((w.alloc X).alloc (.cells #[.slice none 0 0] 55)) (w.heap.size + 1) (w.heap.size + 2) [] := by
  refine ⟨by omega, by simp, none, 0, ?_, World.ownsRow_nil _ _ _ _⟩
  show ((w.heap.push X).push _)[w.heap.size + 1]? = _
  rw [Array.getElem?_push, if_pos (by simp)]; rfl
/-- What stands between two writes. -/
structure St (w wk : World) (a : Ans) (A : Option Addr) (c : Nat) (L : List UInt8) : Prop where
  wr : Wr wk (w.heap.size + 1) (w.heap.size + 2) L
  blk : wk.heap[w.heap.size]? = some (.cells (cells a A c) 24 (0, 0))
  below : Below w.heap.size w wk
theorem St.start (w : World) (a : Ans) (A : Option Addr) (c : Nat) : St w ((w.alloc (.cells (cells a A c) 24)).alloc (.cells #[.slice none 0 0] 55)) a A c [] :=
  ⟨wr_start w _, by rw [Below.heap_alloc _ _ _ (by simp)]; show (w.heap.push _)[w.heap.size]? = _; rw [Array.getElem?_push, if_pos rfl], ((Below.refl _ _).alloc (Nat.le_refl _) _).alloc (by simp) _⟩
theorem St.step {w wk wl : World} {a : Ans} {A : Option Addr} {c : Nat} {L L' : List UInt8} (h : St w wk a A c L) (h1 : Wr wl (w.heap.size + 1) (w.heap.size + 2) L') (h2 : Fr (w.heap.size + 1) wk wl) : St w wl a A c L' :=
  ⟨h1, (h2.below.block _ (by omega)).trans h.blk, h.below.trans (h2.below.mono (by omega))⟩
theorem St.cells {w wk : World} {a : Ans} {A : Option Addr} {c : Nat} {L : List UInt8} (h : St w wk a A c L) :
    wk.cell? ⟨w.heap.size, 0, none⟩ = some (.int .i64 a.sort) ∧ wk.cell? ⟨w.heap.size, 1, none⟩ = some (.int .i64 a.status) ∧ wk.cell? ⟨w.heap.size, 2, none⟩ = some (.int .i64 a.first) ∧ wk.cell? ⟨w.heap.size, 3, none⟩ = some (.int .i64 a.total) ∧ wk.cell? ⟨w.heap.size, 4, none⟩ = some (.string (str a.kind)) ∧ wk.cell? ⟨w.heap.size, 5, none⟩ = some (.slice A a.body.length c) := by
  have h2 := h.blk
  refine ⟨?_, ?_, ?_, ?_, ?_, ?_⟩ <;> simp [World.cell?, h2, Enc.cells]
set_option maxHeartbeats 4000000 in
set_option maxRecDepth 100000 in
theorem encode (a : Ans) (A : Option Addr) (c : Nat) (w : World) (hb : Rd w A a.body) (hk : a.kind.length ≤ 100000) (hl : a.body.length ≤ 100000) :
    Calls Try.prog 14 #[val a A c] w fun e w' => ∃ B c', e = .returned (.slice B (enc a).length c') ∧ w'.ownsRow w.heap.size 5 1 (.slice B (enc a).length c') (enc a).length ((enc a).map cellB) ∧ Below w.heap.size w w' := by
  have e8 := un8_wrap a.sort
  have e32 := un32_wrap a.status
  have HB := Lib.hid hb
  have HL := Lib.hid (enc_len a)
  clear hb
  go_enter Try.func14, Try.ntmps14
  unfold val
  go_wp2_with (first
    | (go_at_call 29; refine (Writer.u8 (w.heap.size + 1) (w.heap.size + 2) [] (un8 a.sort) _ (wr_start w _) (un8_lt _) (by simp)).mono ?_; rintro e w1 ⟨rfl, h1, h2⟩; have HS := Lib.hid ((St.start w a A c).step h1 h2); clear h1 h2; obtain ⟨c0, c1, c2, c3, c4, c5⟩ := HS.out.cells)
    | (go_at_call 31; refine (Writer.u32 _ _ _ (un32 a.status) _ HS.out.wr (un32_lt _) (by simp only [List.length_append, be_len, textB_len, List.length_nil]; omega)).mono ?_; rintro e w1 ⟨rfl, h1, h2⟩; replace HS := Lib.hid (HS.out.step h1 h2); clear h1 h2 c0 c1 c2 c3 c4 c5; obtain ⟨c0, c1, c2, c3, c4, c5⟩ := HS.out.cells)
    | (go_at_call 32; refine (Writer.i64 _ _ _ _ _ HS.out.wr (by simp only [List.length_append, be_len, textB_len, List.length_nil]; omega)).mono ?_; rintro e w1 ⟨rfl, h1, h2⟩; replace HS := Lib.hid (HS.out.step h1 h2); clear h1 h2 c0 c1 c2 c3 c4 c5; obtain ⟨c0, c1, c2, c3, c4, c5⟩ := HS.out.cells)
    | (go_at_call 33; refine (Writer.string _ _ _ _ _ HS.out.wr (by omega) (by simp only [List.length_append, be_len, textB_len, List.length_nil]; omega)).mono ?_; rintro e w1 ⟨rfl, h1, h2⟩; replace HS := Lib.hid (HS.out.step h1 h2); clear h1 h2 c0 c1 c2 c3 c4 c5; obtain ⟨c0, c1, c2, c3, c4, c5⟩ := HS.out.cells; (try clear hcv); have hcv := run_string (P := Try.prog) (src := 22) (dst := 9) (c := c) Try.underlying22 Try.underlying5 Try.underlying9 (HB.out.below HS.out.below))
    | (go_at_call 35; refine (Writer.bytes _ _ (enc a) _ HS.out.wr (by rw [HL.out]; omega)).mono ?_; rintro e w1 ⟨B, c', rfl, h1, h2⟩; have H1 := Lib.hid h1; have H2 := Lib.hid h2; clear h1 h2))

  go_ret
  exact ⟨B, c', rfl, own_mono H1.out (by have := HS.out.below.size; omega), HS.out.below.trans (H2.out.mono HS.out.below.size)⟩
end Go.Proofs.Ytdojhdglbajinaa.Enc
