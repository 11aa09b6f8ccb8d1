/- DERIVED. script.Encode. -/
import Derived.Test.YtdojhdglbajinaaScrOp
import Derived.Test.YtdojhdglbajinaaRefEnc
import Derived.Deep.WholeRow
namespace Go.Proofs.Ytdojhdglbajinaa.ScrEnc
open Go.RowKit Go.Proofs.Ytdojhdglbajinaa.Mem Go.Proofs.Ytdojhdglbajinaa.Writer Go.Proofs.Ytdojhdglbajinaa.Reader Go.Proofs.Ytdojhdglbajinaa.Enc Go.Proofs.Ytdojhdglbajinaa.Plain Go.Proofs.Ytdojhdglbajinaa.ScrOp
set_option linter.unusedVariables false
set_option linter.unusedSimpArgs false

/-- Between two writes of a round: the writer at g; the operation's box at nb. -/
structure RS (w wk : World) (g nb : Nat) (o : OpV) (L : List UInt8) : Prop where
  wr : Wr wk g (g + 1) L
  blk : wk.heap[nb]? = some (.cells (opCells o).toArray 88 (0, 0))
  ne : g < nb
  below : Below w.heap.size w wk
  le : w.heap.size ≤ g
theorem RS.step {w wk wl : World} {g nb : Nat} {o : OpV} {L L' : List UInt8} (h : RS w wk g nb o L) (h1 : Wr wl g (g + 1) L') (h2 : Fr g wk wl) : RS w wl g nb o L' :=
  ⟨h1, h2.typed nb _ h.blk (by have := h.ne; omega) (fun cs fr e => by injection e with _ e _; cases e), h.ne, h.below.trans (h2.below.mono h.le), h.le⟩
theorem RS.range {w wk : World} {g nb : Nat} {o : OpV} {L : List UInt8} (h : RS w wk g nb o L) : wk.rangeAt nb 0 (opCells o) := fun j v hj => by
  simp [World.cell?, h.blk]; exact hj
section
variable {w wk : World} {g nb : Nat} {o : OpV} {L : List UInt8}
theorem wu8 (h : RS w wk g nb o L) {n : Nat} (hn : n < 256) (hl : L.length ≤ 70368744177664) : Calls Try.prog 29 #[.pointer (some ⟨g, 0, none⟩), .int .u8 (n : Int)] wk fun e w' => e = .returned (.tuple #[]) ∧ RS w w' g nb o (L ++ be n 1) :=
  (Writer.u8 g (g + 1) L n wk h.wr hn hl).mono fun e w' ⟨he, h1, h2⟩ => ⟨he, h.step h1 h2⟩
theorem wi64 (h : RS w wk g nb o L) {x : Int} (hl : L.length ≤ 70368744177664) : Calls Try.prog 32 #[.pointer (some ⟨g, 0, none⟩), .int .i64 x] wk fun e w' => e = .returned (.tuple #[]) ∧ RS w w' g nb o (L ++ be (u64n x) 8) :=
  (Writer.i64 g (g + 1) L x wk h.wr hl).mono fun e w' ⟨he, h1, h2⟩ => ⟨he, h.step h1 h2⟩
theorem wstr (h : RS w wk g nb o L) {t : List UInt8} (ht : t.length < 4294967296) (hl : L.length ≤ 70368744177664) : Calls Try.prog 33 #[.pointer (some ⟨g, 0, none⟩), .string (str t)] wk fun e w' => e = .returned (.tuple #[]) ∧ RS w w' g nb o (L ++ textB t) :=
  (Writer.string g (g + 1) L t wk h.wr ht hl).mono fun e w' ⟨he, h1, h2⟩ => ⟨he, h.step h1 h2⟩
end
theorem z88 : (Try.prog.info? 88).map (fun i => (i.zero, i.size, i.bytes)) = some (some (.agg #[.int .u8 0, .int .u8 0, .int .i64 0, .int .i64 0, .int .i64 0, .string ⟨#[]⟩, .string ⟨#[]⟩, .string ⟨#[]⟩, .string ⟨#[]⟩, .int .i64 0, .int .i64 0, .int .u8 0, .int .u8 0, .int .u8 0, .int .u8 0, .int .u8 0, .int .u8 0, .int .u8 0, .int .u8 0, .int .u8 0, .int .u8 0, .int .u8 0, .int .u8 0, .int .u8 0, .int .u8 0, .int .u8 0, .int .u8 0]), 27, 128) := by kernel_rfl
section
variable {P : Program} {ops : Array Oper} {rest : List Oper} {op : Oper} {a : Act} {Q : Exit → Act → World → Prop}
/-- A whole struct into the block that was made last. -/
theorem wpList_store_new (hgd : op.guard = none) (ty : TypeId) (x y : Operand) (ho : op.op = .store ty x y) (w0 : World) (c c' : Array Value) (t : TypeId)
    (hx : a.eval x = .pointer (some ⟨w0.heap.size, 0, none⟩)) (hy : a.eval y = .agg c') (hi : (P.info? ty).map (·.size) = some c'.size) (hsz : c.size = c'.size) (h1 : c'.all (·.oneCell') = true)
    (h : wpList P ops Q rest (a.put op.dst undef) (w0.alloc (.cells c' t))) : wpList P ops Q (op :: rest) a (w0.alloc (.cells c t)) :=
  wpList_plain hgd fun K hK => by
    unfold Oper.wp execOp
    have hr : (storeVar ty ⟨w0.heap.size, 0, none⟩ (.agg c')).run P (w0.alloc (.cells c t)) = .ok () (w0.alloc (.cells c' t)) := by
      rw [run_storeVar_row _ _ t ty c c' (heap_alloc_last w0 _) hi hsz h1, World.setRow_alloc_new]
    simp only [ho, hx, hy, Instr.storeAt, Instr.sureAddr, Sem.run_bind, Sem.run_pure, Result.andThen_ok, hr]
    exact hK _ _ h
/-- An array's element, one cell. -/
theorem wpList_index_arr {w : World} (hgd : op.guard = none) (ty : TypeId) (x i : Operand) (ho : op.op = .index ty x i) (n : Nat) (e : TypeId) (k : IntKind) (ht : P.underlying ty = some (.array n e)) (he : P.underlying e = some (.int k)) (hs : (P.info? e).map (·.size) = some 1)
    (cs : Array Value) (j : Nat) (v : Value) (hx : a.eval x = .agg cs) (hi : a.eval i = .int .i64 (j : Int)) (hj : j < n) (hv : cs[j]? = some v)
    (h : wpList P ops Q rest (a.put op.dst v) w) : wpList P ops Q (op :: rest) a w :=
  wpList_plain hgd fun K hK => by
    unfold Oper.wp execOp
    have hagg : (isAgg e).run P w = .ok false w := by
      unfold isAgg
      rw [Sem.run_bind, run_underlying he w]; rfl
    cases hq : P.info? e with
    | none => simp [hq] at hs
    | some y =>
      have hsz : y.size = 1 := by simpa [hq] using hs
      simp [ho, hx, hi, Instr.index, asIntOf, run_underlying ht, Sem.run_bind, hj, sizeOf, typeInfo, hq, hsz, part, hagg, hv]
      exact hK _ _ h
end
theorem be_one (u : UInt8) : be u.toNat 1 = [u] := by
  have := u.toNat_lt
  simp [be, byteAt]
theorem i5s : (Try.prog.info? 5).map (·.size) = some 1 := by kernel_rfl
theorem opCells_i88 {o : OpV} (h : o.Wf) : (Try.prog.info? 88).map (·.size) = some (opCells o).length := by rw [opCells_len o h.r]; exact i88s
theorem wr_start1 (w : World) : Wr (w.alloc (.cells #[.slice none 0 0] 55)) w.heap.size (w.heap.size + 1) [] := by
  refine ⟨by omega, by simp, none, 0, ?_, World.ownsRow_nil _ _ _ _⟩
  exact heap_alloc_last w _
theorem wr_below {w w' : World} {g base : Nat} {l : List UInt8} (h : Wr w g base l) (hb : Below w.heap.size w w') : Wr w' g base l := by
  obtain ⟨B, c, h1, h2⟩ := h.row
  exact ⟨h.lt, Nat.le_trans h.le hb.size, B, c, (hb.block g (Array.getElem?_eq_some_iff.1 h1).1).trans h1, own_below h2 hb⟩
theorem RS.start {w wr : World} {g : Nat} {L : List UInt8} (h : Wr wr g (g + 1) L) (hb : Below w.heap.size w wr) (hg : w.heap.size ≤ g) (o : OpV) : RS w (wr.alloc (.cells (opCells o).toArray 88)) g wr.heap.size o L :=
  ⟨wr_below h (below1 wr _), heap_alloc_last wr _, by have := h.lt; have := h.le; omega, hb.alloc (by have := h.le; omega) _, hg⟩
set_option maxHeartbeats 1000000 in
set_option maxRecDepth 100000 in
theorem encode (A : Option Addr) (c : Nat) (os : List OpV) (w : World) (h : RdO w A os) (hn : os.length ≤ 30) (ht : ∀ o ∈ os, texts o ≤ 1000) :
    Calls Try.prog 38 #[.slice A os.length c] w fun e w' => ∃ B c', e = .returned (.slice B (encOps os).length c') ∧ w'.ownsRow w.heap.size 5 1 (.slice B (encOps os).length c') (encOps os).length ((encOps os).map cellB) ∧ Below w.heap.size w w' := by
  have HA := Lib.hid h
  have HT := Lib.hid ht
  clear h ht
  go_enter Try.func38, Try.ntmps38
  go_wp2_with fail
  go_loopw [10] (fun i wr => ∃ (k : Nat) (L : List UInt8), k ≤ os.length ∧ i = .int .i64 k ∧ L.length ≤ 1074 * k ∧ Hid (L = encOps (os.take k)) ∧ Hid (Wr wr w.heap.size (w.heap.size + 1) L) ∧ Hid (Below w.heap.size w wr)) (fun i _ => os.length - (intOf i).toNat)
  case atStart => exact ⟨0, [], Nat.zero_le _, rfl, by simp, rfl, wr_start1 w, below1 w _⟩
  case round =>
    obtain ⟨k, L, hkk, rfl, hLk, HL, HW, HB⟩ := hrel
    by_cases hlt : k < os.length
    · obtain ⟨b, f, rfl, hc, hw⟩ := (HA.out.below HB.out).at k hlt
      have htx := HT.out _ (List.getElem_mem hlt)
      have heq := HL.out ▸ encOps_take os k hlt
      obtain ⟨o, ho⟩ : ∃ o, o = os[k] := ⟨_, rfl⟩
      rw [← ho] at hc hw htx heq
      have HEQ := Lib.hid heq
      clear heq ho
      have h88 := Lib.hid (opCells_i88 hw)
      have h27 := Lib.hid (opCells_len o hw.r)
      have hk0 := hw.k
      have hf0 := hw.f
      have HC := Lib.hid hc
      have HWF := Lib.hid hw
      clear hc hw
      unfold texts at htx
      have tg : Hid True := trivial
      go_wp2_with (first
        | ((with_reducible refine wpList_load_mid rfl 88 (.tmp 12) rfl b (f + k * 27) ?hx (opCells o) _ HC.out Try.underlying88 rfl h88.out ?_); (case hx => rfl))
        | ((with_reducible refine wpList_store_new rfl 88 (.tmp 5) (.tmp 13) rfl _ _ (opCells o).toArray 88 ?hx ?hy ?hi ?hsz ?h1 ?_); (case hx => rfl); (case hy => rfl); (case hi => exact h88.out); (case hsz => exact h27.out.symm); (case h1 => exact all_oneCell_toArray (opCells_one o)); have HRS := Lib.hid (RS.start HW.out HB.out (Nat.le_refl _) o); obtain ⟨nb, hnb⟩ : ∃ n, n = wr.heap.size := ⟨_, rfl⟩; obtain ⟨w2, hw2⟩ : ∃ w2, w2 = wr.alloc (.cells (opCells o).toArray 88) := ⟨_, rfl⟩; (rw [← hw2, ← hnb] at HRS); (rw [← hw2]); (try rw [← hnb]); clear hw2 hnb; obtain ⟨c0, c1, c2, c3, c4, c5, c6, c7, c8, c9, c10⟩ := range_cells HRS.out.range)
        | (go_at_call 29; refine (wu8 HRS.out (by omega) (by (try simp only [List.length_append, be_len, textB_len]); omega)).mono ?_; rintro e w1 ⟨rfl, h1⟩; replace HRS := Lib.hid h1; clear h1 c0 c1 c2 c3 c4 c5 c6 c7 c8 c9 c10; obtain ⟨c0, c1, c2, c3, c4, c5, c6, c7, c8, c9, c10⟩ := range_cells HRS.out.range)
        | (go_at_call 32; refine (wi64 HRS.out (by (try simp only [List.length_append, be_len, textB_len]); omega)).mono ?_; rintro e w1 ⟨rfl, h1⟩; replace HRS := Lib.hid h1; clear h1 c0 c1 c2 c3 c4 c5 c6 c7 c8 c9 c10; obtain ⟨c0, c1, c2, c3, c4, c5, c6, c7, c8, c9, c10⟩ := range_cells HRS.out.range)
        | (go_at_call 33; refine (wstr HRS.out (by omega) (by (try simp only [List.length_append, be_len, textB_len]); omega)).mono ?_; rintro e w1 ⟨rfl, h1⟩; replace HRS := Lib.hid h1; clear h1 c0 c1 c2 c3 c4 c5 c6 c7 c8 c9 c10; obtain ⟨c0, c1, c2, c3, c4, c5, c6, c7, c8, c9, c10⟩ := range_cells HRS.out.range)
        | ((with_reducible refine wpList_load_mid rfl 86 (.tmp 51) rfl nb 11 ?hx (o.r.map cellB) _ ?hc Try.underlying86 rfl ?hi ?_); (case hx => rfl); (case hc => exact range_r HRS.out.range); (case hi => rw [List.length_map, HWF.out.r]; exact i86s)))
      obtain ⟨M, hM⟩ : ∃ M, M = L ++ be o.kind 1 ++ be o.flag 1 ++ be (u64n o.h) 8 ++ be (u64n o.fr) 8 ++ be (u64n o.to) 8 ++ textB o.s ++ textB o.t ++ textB o.sch ++ textB o.host ++ be (u64n o.port) 8 ++ be (u64n o.nonce) 8 := ⟨_, rfl⟩
      rw [← hM] at HRS
      have hMl : M.length ≤ 40000 := by rw [hM]; simp only [List.length_append, be_len, textB_len]; omega
      have HM := Lib.hid hM
      clear hM c0 c1 c2 c3 c4 c5 c6 c7 c8 c9 c10
      have hr16 := HWF.out.r
      go_loopw [53] (fun i wr2 => ∃ (j : Nat), j ≤ 16 ∧ i = .int .i64 j ∧ Hid (RS w wr2 w.heap.size nb o (M ++ o.r.take j))) (fun i _ => 16 - (intOf i).toNat)
      case atStart => exact ⟨0, by omega, rfl, by rw [List.take_zero, List.append_nil]; exact HRS⟩
      case round =>
        clear HRS
        obtain ⟨j, hj, rfl, HRS⟩ := hrel
        by_cases hj2 : j < 16
        · have hjr : j < o.r.length := by omega
          obtain ⟨u, hu⟩ : ∃ u, u = o.r[j] := ⟨_, rfl⟩
          have hut : u.toNat < 256 := u.toNat_lt
          have hat : (o.r.map cellB).toArray[j]? = some (.int .u8 (u.toNat : Int)) := by
            rw [List.getElem?_toArray, List.getElem?_map, List.getElem?_eq_getElem hjr, ← hu]; rfl
          have hnext : o.r.take (j + 1) = o.r.take j ++ be u.toNat 1 := by rw [List.take_add_one, List.getElem?_eq_getElem hjr, ← hu, be_one]; rfl
          have HAT := Lib.hid hat
          have HN := Lib.hid hnext
          have htl : (o.r.take j).length ≤ 16 := by rw [List.length_take]; omega
          clear hat hnext hu
          go_wp2_with (first
            | ((with_reducible refine wpList_index_arr rfl 86 (.tmp 52) (.tmp 53) rfl 16 5 .u8 Try.underlying86 Try.underlying5 i5s _ j _ ?hx ?hi hj2 HAT.out ?_); (case hx => rfl); (case hi => rfl))
            | (go_at_call 29; refine (wu8 HRS.out hut (by rw [List.length_append]; omega)).mono ?_; rintro e w1 ⟨rfl, h1⟩; replace HRS := Lib.hid h1; clear h1))
          go_roundw
          case rel => exact ⟨j + 1, by omega, by go_num, by rw [HN.out, ← List.append_assoc]; exact HRS⟩
          case measure => simp [intOf]; omega
        · obtain rfl : j = 16 := by omega
          go_wp2_with fail
          go_roundw
          case rel =>
            rw [List.take_of_length_le (by omega)] at HRS
            exact ⟨k + 1, M ++ o.r, by omega, by go_num, by rw [List.length_append, HM.out]; simp only [List.length_append, be_len, textB_len]; omega, by show _ = _; rw [HEQ.out, HM.out]; unfold encOp; simp only [List.append_assoc], HRS.out.wr, HRS.out.below⟩
          case measure => simp [intOf]; omega
    · obtain rfl : k = os.length := by omega
      have hL := HL.out
      rw [List.take_of_length_le (Nat.le_refl _)] at hL
      go_wp2_with (go_at_call 35; refine (Writer.bytes _ _ L _ HW.out (by omega)).mono ?_; rintro e w1 ⟨B, c', rfl, h1, h2⟩)
      go_ret
      rw [← hL]
      exact ⟨B, c', rfl, own_mono h1 HB.out.size, HB.out.trans (h2.mono HB.out.size)⟩
end Go.Proofs.Ytdojhdglbajinaa.ScrEnc
