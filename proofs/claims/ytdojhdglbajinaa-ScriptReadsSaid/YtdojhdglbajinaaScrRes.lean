/- DERIVED. script.Bytes: a result's bytes. -/
import Derived.Test.YtdojhdglbajinaaOf
import Derived.Test.YtdojhdglbajinaaScrEnc
namespace Go.Proofs.Ytdojhdglbajinaa.ScrRes
open Go.RowKit Go.Proofs.Ytdojhdglbajinaa.Mem Go.Proofs.Ytdojhdglbajinaa.Writer Go.Proofs.Ytdojhdglbajinaa.Reader Go.Proofs.Ytdojhdglbajinaa.Enc Go.Proofs.Ytdojhdglbajinaa.Plain Go.Proofs.Ytdojhdglbajinaa.RefEnc
set_option linter.unusedVariables false
set_option linter.unusedSimpArgs false

/-- A result. -/
structure ResV where
  errno : Int
  h : Int
  s : List UInt8
  a : Ans
def cells72 (r : ResV) (A : Option Addr) (c : Nat) : Array Value := #[.int .i64 r.errno, .int .i64 r.h, .string (str r.s), .int .i64 r.a.sort, .int .i64 r.a.status, .int .i64 r.a.first, .int .i64 r.a.total, .string (str r.a.kind), .slice A r.a.body.length c]
def cells76 (r : ResV) : Array Value := #[.int .i64 r.errno, .int .i64 r.h, .string (str r.s), .int .i64 r.a.sort, .int .i64 r.a.status, .int .i64 r.a.first, .int .i64 r.a.total, .string (str r.a.kind), .string (str r.a.body)]
def val72 (r : ResV) (A : Option Addr) (c : Nat) : Value := .agg #[.int .i64 r.errno, .int .i64 r.h, .string (str r.s), .int .i64 r.a.sort, .int .i64 r.a.status, .int .i64 r.a.first, .int .i64 r.a.total, .string (str r.a.kind), .slice A r.a.body.length c]
def val76 (r : ResV) : Value := .agg #[.int .i64 r.errno, .int .i64 r.h, .string (str r.s), .int .i64 r.a.sort, .int .i64 r.a.status, .int .i64 r.a.first, .int .i64 r.a.total, .string (str r.a.kind), .string (str r.a.body)]
/-- Its bytes. -/
def encR (r : ResV) : List UInt8 := be (un8 r.errno) 1 ++ be (u64n r.h) 8 ++ textB r.s ++ textB (enc r.a)
/-- Between two writes. -/
structure St (w wk : World) (r : ResV) (A : Option Addr) (c : Nat) (L : List UInt8) : Prop where
  wr : Wr wk (w.heap.size + 1) (w.heap.size + 2) L
  blk : wk.heap[w.heap.size]? = some (.cells (cells72 r A c) 72 (0, 0))
  below : Below w.heap.size w wk
theorem St.start (w : World) (r : ResV) (A : Option Addr) (c : Nat) : St w ((w.alloc (.cells (cells72 r A c) 72)).alloc (.cells #[.slice none 0 0] 55)) r A c [] :=
  ⟨wr_start w _, by rw [Below.heap_alloc _ _ _ (by simp)]; show (w.heap.push _)[w.heap.size]? = _; rw [Array.getElem?_push, if_pos rfl], ((Below.refl _ _).alloc (Nat.le_refl _) _).alloc (by simp) _⟩
theorem St.step {w wk wl : World} {r : ResV} {A : Option Addr} {c : Nat} {L L' : List UInt8} (h : St w wk r A c L) (h1 : Wr wl (w.heap.size + 1) (w.heap.size + 2) L') (h2 : Fr (w.heap.size + 1) wk wl) : St w wl r A c L' :=
  ⟨h1, (h2.below.block _ (by omega)).trans h.blk, h.below.trans (h2.below.mono (by omega))⟩
theorem St.on {w wk wl : World} {r : ResV} {A : Option Addr} {c : Nat} {L : List UInt8} (h : St w wk r A c L) (h2 : Below wk.heap.size wk wl) : St w wl r A c L :=
  ⟨ScrEnc.wr_below h.wr h2, (h2.block _ (Array.getElem?_eq_some_iff.1 h.blk).1).trans h.blk, h.below.trans (h2.mono h.below.size)⟩
theorem facts72 {w : World} {b : Nat} {r : ResV} {A : Option Addr} {c t : Nat} {fr : Nat × Nat} (h : w.heap[b]? = some (.cells (cells72 r A c) t fr)) :
    w.cell? ⟨b, 0, none⟩ = some (.int .i64 r.errno) ∧ w.cell? ⟨b, 1, none⟩ = some (.int .i64 r.h) ∧ w.cell? ⟨b, 2, none⟩ = some (.string (str r.s)) ∧ w.cell? ⟨b, 3, none⟩ = some (.int .i64 r.a.sort) ∧ w.cell? ⟨b, 4, none⟩ = some (.int .i64 r.a.status) ∧ w.cell? ⟨b, 5, none⟩ = some (.int .i64 r.a.first) ∧ w.cell? ⟨b, 6, none⟩ = some (.int .i64 r.a.total) ∧ w.cell? ⟨b, 7, none⟩ = some (.string (str r.a.kind)) ∧ w.cell? ⟨b, 8, none⟩ = some (.slice A r.a.body.length c) := by
  refine ⟨?_, ?_, ?_, ?_, ?_, ?_, ?_, ?_, ?_⟩ <;> simp [World.cell?, h, cells72]
set_option maxHeartbeats 2000000 in
set_option maxRecDepth 100000 in
theorem bytes (r : ResV) (A : Option Addr) (c : Nat) (w : World) (hb : Rd w A r.a.body) (hs : r.s.length ≤ 100000) (hk : r.a.kind.length ≤ 100000) (hl : r.a.body.length ≤ 100000) :
    Calls Try.prog 39 #[val72 r A c] w fun e w' => ∃ B c', e = .returned (.slice B (encR r).length c') ∧ Rd w' B (encR r) ∧ Below w.heap.size w w' := by
  have e8 := un8_wrap r.errno
  have HBD := Lib.hid hb
  have HLE := Lib.hid (enc_len r.a)
  have hle : (enc r.a).length ≤ 300000 := by rw [enc_len]; omega
  clear hb
  unfold val72
  go_enter Try.func39, Try.ntmps39
  go_wp2_with (first
    | (go_at_call 29; refine (Writer.u8 (w.heap.size + 1) (w.heap.size + 2) [] (un8 r.errno) _ (wr_start w _) (un8_lt _) (by simp)).mono ?_; rintro e w1 ⟨rfl, h1, h2⟩; have HS := Lib.hid ((St.start w r A c).step h1 h2); clear h1 h2; obtain ⟨c0, c1, c2, c3, c4, c5, c6, c7, c8⟩ := facts72 HS.out.blk)
    | (go_at_call 32; refine (Writer.i64 _ _ _ _ _ HS.out.wr (by simp only [List.length_append, be_len, textB_len, List.length_nil]; omega)).mono ?_; rintro e w1 ⟨rfl, h1, h2⟩; replace HS := Lib.hid (HS.out.step h1 h2); clear h1 h2 c0 c1 c2 c3 c4 c5 c6 c7 c8; obtain ⟨c0, c1, c2, c3, c4, c5, c6, c7, c8⟩ := facts72 HS.out.blk)
    | (go_at_call 33; refine (Writer.string _ _ _ _ _ HS.out.wr (by omega) (by simp only [List.length_append, be_len, textB_len, List.length_nil]; omega)).mono ?_; rintro e w1 ⟨rfl, h1, h2⟩; replace HS := Lib.hid (HS.out.step h1 h2); clear h1 h2 c0 c1 c2 c3 c4 c5 c6 c7 c8; obtain ⟨c0, c1, c2, c3, c4, c5, c6, c7, c8⟩ := facts72 HS.out.blk)
    | (go_at_call 14; refine (Enc.encode r.a A c _ (HBD.out.below HS.out.below) hk hl).mono ?_; rintro e w1 ⟨B, c', rfl, h0, h1⟩; replace HS := Lib.hid (HS.out.on h1); have hcv := run_string (P := Try.prog) (src := 22) (dst := 9) (c := c') Try.underlying22 Try.underlying5 Try.underlying9 (rd_own h0).2.2.2; clear h0 h1 c0 c1 c2 c3 c4 c5 c6 c7 c8; obtain ⟨c0, c1, c2, c3, c4, c5, c6, c7, c8⟩ := facts72 HS.out.blk)
    | (go_at_call 35; refine (Writer.bytes _ _ (encR r) _ HS.out.wr (by unfold encR; simp only [List.length_append, be_len, textB_len]; omega)).mono ?_; rintro e w1 ⟨B2, c2', rfl, h1, h2⟩; have H1 := Lib.hid h1; have H2 := Lib.hid h2; clear h1 h2))
  go_ret
  exact ⟨B2, c2', rfl, (rd_own H1.out).2.2.2, HS.out.below.trans (H2.out.mono HS.out.below.size)⟩
end Go.Proofs.Ytdojhdglbajinaa.ScrRes
