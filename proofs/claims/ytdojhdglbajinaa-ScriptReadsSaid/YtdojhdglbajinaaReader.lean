/- DERIVED. Contracts of package answer's Reader: take, number, U8, U32, I64, String, Left, Bad, NewReader. -/
import Derived.Test.YtdojhdglbajinaaWriter
import Derived.Laws.BitsAllLaws
namespace Go.Proofs.Ytdojhdglbajinaa.Reader
open Go.RowKit Go.Proofs.Ytdojhdglbajinaa.Mem Go.Proofs.Ytdojhdglbajinaa.Writer
set_option linter.unusedVariables false
set_option linter.unusedSimpArgs false

/-- Nothing but block g differs. -/
structure Ch (g : Nat) (w w' : World) : Prop where
  below : Below g w w'
  size : w'.heap.size = w.heap.size
  other : ∀ i : Nat, i ≠ g → w'.heap[i]? = w.heap[i]?
theorem Ch.refl (g : Nat) (w : World) : Ch g w w := ⟨Below.refl _ _, rfl, fun _ _ => rfl⟩
theorem Ch.trans {g : Nat} {a b c : World} (h : Ch g a b) (k : Ch g b c) : Ch g a c := ⟨h.below.trans k.below, k.size.trans h.size, fun i hi => (k.other i hi).trans (h.other i hi)⟩
theorem Ch.store (g j : Nat) (w : World) (v : Value) : Ch g w (w.setCell ⟨g, j, none⟩ v) :=
  ⟨(Below.refl g w).setCell (Nat.le_refl _) v, by simp [World.setCell], fun i hi => Below.heap_setCell _ _ _ _ hi⟩

/-- A reader: its box at block g; what is left of its bytes; whether it is bad. -/
structure Rr (w : World) (g : Nat) (l : List UInt8) (bad : Bool) : Prop where
  row : ∃ A c, w.heap[g]? = some (.cells #[.slice A l.length c, .bool bad] 96 (0, 0)) ∧ Rd w A l ∧ l.length ≤ c ∧ c ≤ 9223372036854775807 ∧ ∀ ad, A = some ad → ad.block < g
theorem Rr.below {w w' : World} {g : Nat} {l : List UInt8} {bad : Bool} (h : Rr w g l bad) (hb : Below w.heap.size w w') : Rr w' g l bad := by
  obtain ⟨A, c, h1, h2, h3, h4, h5⟩ := h.row
  exact ⟨A, c, by rw [hb.block g (Array.getElem?_eq_some_iff.1 h1).1]; exact h1, h2.below hb, h3, h4, h5⟩
theorem add_block (a : Addr) (n : Nat) : (a.add n).block = a.block := by unfold Addr.add; split <;> rfl
theorem Rd.ch {w w' : World} {g : Nat} {A : Option Addr} {l : List UInt8} (h : Rd w A l) (hc : Ch g w w') (ho : ∀ ad, A = some ad → ad.block ≠ g) : Rd w' A l :=
  h.keep fun ad e j hs => World.cell?_of_block (w := w) (hc.other _ (by rw [add_block]; exact ho _ e))
theorem Rd.cut {w : World} {A : Option Addr} {l : List UInt8} (h : Rd w A l) (n : Nat) : Rd w A (l.take n) := h.take n
theorem dropped2 {P : Program} (t e : TypeId) (kl : IntKind) {i : TypeInfo} (ht : P.underlying t = some (.slice e)) (hi : P.info? e = some i) (hsz : i.size = 1) (A : Option Addr) (c : Nat) (xs : List UInt8) (j g : Nat) (hm : j ≤ xs.length) (hc : xs.length ≤ c) (hg : ∀ ad, A = some ad → ad.block < g) :
    ∃ A' : Option Addr, (∀ W : World, (Instr.slice t (.slice A xs.length c) (some (.int kl (j : Int))) none none).run P W = .ok (.slice A' (xs.drop j).length (c - j)) W) ∧
      (∀ w : World, Rd w A xs → Rd w A' (xs.drop j)) ∧ (xs.drop j).length ≤ c - j ∧ ∀ ad, A' = some ad → ad.block < g := by
  have hl : (xs.drop j).length = xs.length - j := List.length_drop
  refine ⟨if c = j then A else A.map (·.add j), fun W => ?_, fun w h => h.drop j c hc, by rw [hl]; omega, fun ad e => ?_⟩
  · have hel : P.elem t = e := by simp [Program.elem, ht]
    have hu : P.underlying t = some (.slice (P.elem t)) := by rw [hel]; exact ht
    rw [run_slice_l W t A xs.length c hu kl j (by omega) (by omega), hel, hl]
    simp [sizeOf, typeInfo, hi, hsz, sliced, Result.andThen]
  · split at e
    · exact hg ad e
    · rcases A with _ | a
      · cases e
      · simp at e; subst e; rw [add_block]; exact hg a rfl

def isBad (l : List UInt8) (bad : Bool) (n : Nat) : Bool := bad || decide (l.length < n)
def got (l : List UInt8) (bad : Bool) (n : Nat) : List UInt8 := if isBad l bad n then [] else l.take n
def rest (l : List UInt8) (bad : Bool) (n : Nat) : List UInt8 := if isBad l bad n then l else l.drop n
theorem got_len (l : List UInt8) (bad : Bool) (n : Nat) : (got l bad n).length ≤ n := by
  unfold got; split
  · simp
  · rw [List.length_take]; omega
theorem got_len2 (l : List UInt8) (bad : Bool) (n : Nat) : (got l bad n).length ≤ l.length := by
  unfold got; split
  · simp
  · rw [List.length_take]; omega
theorem rest_len (l : List UInt8) (bad : Bool) (n : Nat) : (rest l bad n).length ≤ l.length := by
  unfold rest; split
  · simp
  · rw [List.length_drop]; omega

set_option maxHeartbeats 2000000 in
set_option maxRecDepth 100000 in
theorem take (g : Nat) (l : List UInt8) (bad : Bool) (n : Nat) (w : World) (hR : Rr w g l bad) (hl : l.length ≤ 70368744177664) :
    Calls Try.prog 49 #[.pointer (some ⟨g, 0, none⟩), .int .i64 (n : Int)] w fun e w' => ∃ A c, e = .returned (.slice A (got l bad n).length c) ∧ Rd w' A (got l bad n) ∧ Rr w' g (rest l bad n) (isBad l bad n) ∧ Ch g w w' := by
  obtain ⟨i0, hi, hz0, hz1, hz2⟩ := info_parts info5
  obtain ⟨A, c, hblk, hrd, hlc, hcm, hne⟩ := hR.row
  have hc0 : w.cell? ⟨g, 0, none⟩ = some (.slice A l.length c) := by simp [World.cell?, hblk]
  have hc1 : w.cell? ⟨g, 1, none⟩ = some (.bool bad) := by simp [World.cell?, hblk]
  have hf0 : w.frozen? ⟨g, 0, none⟩ = false := Joins.unfrozen_of_block hblk 0
  have hf1 : w.frozen? ⟨g, 1, none⟩ = false := Joins.unfrozen_of_block hblk 1
  have BLK := Lib.hid hblk
  have RD := Lib.hid hrd
  have NE := Lib.hid hne
  clear hblk hrd hne hR
  by_cases h1 : l.length < n
  · have HB : Hid (isBad l bad n = true) := by show _ = _; simp [isBad, h1]
    have HE : Hid (Ch g w (w.setCell ⟨g, 1, none⟩ (.bool true))) := Ch.store _ _ _ _
    have HR2 : Hid (Rr (w.setCell ⟨g, 1, none⟩ (.bool true)) g l true) := ⟨A, c, by rw [Joins.block_setCell BLK.out]; rfl, Rd.ch RD.out (Ch.store _ _ _ _) (fun ad e => Nat.ne_of_lt (NE.out ad e)), hlc, hcm, NE.out⟩
    have hcs : (w.setCell ⟨g, 1, none⟩ (.bool true)).cell? ⟨g, 1, none⟩ = some (.bool true) := World.cell?_setCell_same w _ _ hc1
    have h1' : (n : Int) > l.length := by omega
    go_enter Try.func49, Try.ntmps49
    go_wp2
    go_ret
    refine ⟨none, 0, by unfold got; rw [HB.out]; rfl, by unfold got; rw [HB.out]; exact Rd.nil _ _, by unfold rest; rw [HB.out]; exact HR2.out, HE.out⟩
  · cases bad
    · have HB : Hid (isBad l false n = false) := by show _ = _; simp [isBad]; omega
      obtain ⟨A2, hdr, hrd2, hlc2, hne2⟩ := dropped2 22 5 .i64 Try.underlying22 hi hz1 A c l n g (by omega) hlc NE.out
      obtain ⟨htk, hlt⟩ := taken 22 5 .i64 Try.underlying22 hi A c l n (by omega) (by omega) hlc
      have HRD2 := Lib.hid (hrd2 w RD.out)
      have HNE2 := Lib.hid hne2
      have HDR := Lib.hid hdr
      have HTK := Lib.hid htk
      have HE : Hid (Ch g w (w.setCell ⟨g, 0, none⟩ (.slice A2 (l.drop n).length (c - n)))) := Ch.store _ _ _ _
      have HR2 : Hid (Rr (w.setCell ⟨g, 0, none⟩ (.slice A2 (l.drop n).length (c - n))) g (l.drop n) false) := ⟨A2, c - n, by rw [Joins.block_setCell BLK.out]; rfl, Rd.ch HRD2.out (Ch.store _ _ _ _) (fun ad e => Nat.ne_of_lt (HNE2.out ad e)), hlc2, by omega, HNE2.out⟩
      have HRT : Hid (Rd (w.setCell ⟨g, 0, none⟩ (.slice A2 (l.drop n).length (c - n))) A (l.take n)) := Rd.ch (RD.out.take n) (Ch.store _ _ _ _) (fun ad e => Nat.ne_of_lt (NE.out ad e))
      obtain ⟨ld, hld⟩ : ∃ ld, ld = (l.drop n).length := ⟨_, rfl⟩
      obtain ⟨lt, hltk⟩ : ∃ lt, lt = (l.take n).length := ⟨_, rfl⟩
      have hnn : (n : Int).toNat = n := by omega
      rw [hnn] at HTK
      rw [← hld] at HDR HE HR2 HRT
      rw [← hltk] at HTK
      have HLT := Lib.hid hltk
      clear hdr htk hrd2 hne2 hlt hlc2 hld hltk
      go_enter Try.func49, Try.ntmps49
      go_wp2_with (first | (refine wpList_upto rfl 22 (.tmp 25) (.tmp 26) rfl Try.underlying22 rfl rfl (HTK.out _) ?_) | (refine wpList_from rfl 22 (.tmp 32) (.tmp 33) rfl Try.underlying22 rfl rfl (HDR.out _) ?_))
      go_ret
      refine ⟨A, c, by unfold got; rw [HB.out, HLT.out]; rfl, by unfold got; rw [HB.out]; exact HRT.out, by unfold rest; rw [HB.out]; exact HR2.out, HE.out⟩
    · have HB : Hid (isBad l true n = true) := by show _ = _; simp [isBad]
      go_enter Try.func49, Try.ntmps49
      go_wp2
      go_ret
      refine ⟨none, 0, by unfold got; rw [HB.out]; rfl, by unfold got; rw [HB.out]; exact Rd.nil _ _, by unfold rest; rw [HB.out]; exact ⟨A, c, BLK.out, RD.out, hlc, hcm, NE.out⟩, Ch.refl _ _⟩

/-- The number that bytes are, the highest first. -/
def num (l : List UInt8) : Nat := l.foldl (fun a b => a * 256 + b.toNat) 0
theorem num_snoc (l : List UInt8) (b : UInt8) : num (l ++ [b]) = num l * 256 + b.toNat := by simp [num]
theorem num_from (l : List UInt8) : ∀ a : Nat, l.foldl (fun a b => a * 256 + b.toNat) a < (a + 1) * 256 ^ l.length := by
  induction l with
  | nil => intro a; simp
  | cons b l ih =>
    intro a
    rw [List.foldl_cons, List.length_cons, Nat.pow_succ]
    refine Nat.lt_of_lt_of_le (ih _) ?_
    have := b.toNat_lt
    have h2 : a * 256 + b.toNat + 1 ≤ (a + 1) * 256 := by omega
    calc (a * 256 + b.toNat + 1) * 256 ^ l.length ≤ ((a + 1) * 256) * 256 ^ l.length := Nat.mul_le_mul_right _ h2
      _ = (a + 1) * (256 ^ l.length * 256) := by rw [Nat.mul_assoc, Nat.mul_comm 256]
theorem num_lt (l : List UInt8) : num l < 256 ^ l.length := by simpa [num] using num_from l 0
theorem num_lt8 (l : List UInt8) (k : Nat) (h : l.length ≤ k) : num l < 256 ^ k := Nat.lt_of_lt_of_le (num_lt l) (Nat.pow_le_pow_right (by omega) h)

theorem or_mul (a b i m : Nat) (hm : m = 2 ^ i) (h : a < m) : a ||| (b * m) = b * m + a := by
  subst hm
  rw [Nat.or_comm, ← Nat.shiftLeft_eq, Nat.shiftLeft_add_eq_or_of_lt h]
set_option maxHeartbeats 2000000 in
set_option maxRecDepth 100000 in
theorem number (g : Nat) (l : List UInt8) (bad : Bool) (n : Nat) (w : World) (hR : Rr w g l bad) (hl : l.length ≤ 70368744177664) (hn : n ≤ 8) :
    Calls Try.prog 48 #[.pointer (some ⟨g, 0, none⟩), .int .i64 (n : Int)] w fun e w' => e = .returned (.int .u64 (num (got l bad n) : Int)) ∧ Rr w' g (rest l bad n) (isBad l bad n) ∧ Ch g w w' := by
  have HM := Lib.hid (take g l bad n w hR hl)
  have HG := Lib.hid (got_len l bad n)
  clear hR
  go_enter Try.func48, Try.ntmps48
  go_wp2_with (go_at_call 49; refine HM.out.mono ?_; rintro e w1 ⟨A, c, rfl, h1, h2, h3⟩; obtain ⟨xs, hxs⟩ : ∃ xs, xs = got l bad n := ⟨_, rfl⟩; rw [← hxs] at h1 HG ⊢; have HXS := Lib.hid hxs; have H1 := Lib.hid h1; have H2 := Lib.hid h2; have H3 := Lib.hid h3; clear hxs h1 h2 h3 HM)
  have hx8 : xs.length ≤ 8 := by have := HG.out; omega
  go_loop [5, 12] (fun v i => ∃ k : Nat, k ≤ xs.length ∧ i = .int .i64 k ∧ v = .int .u64 (num (xs.take k) : Int)) (fun _ i => xs.length - (intOf i).toNat)
  case atStart => exact ⟨0, Nat.zero_le _, rfl, rfl⟩
  case round =>
    obtain ⟨k, hk, rfl, rfl⟩ := hrel
    by_cases hlt : k < xs.length
    · obtain ⟨ad, rfl, hcell⟩ := H1.out.2 (by omega)
      obtain ⟨b, hb⟩ : ∃ b : Nat, b = xs[k].toNat := ⟨_, rfl⟩
      obtain ⟨v, hv⟩ : ∃ v : Nat, v = num (xs.take k) := ⟨_, rfl⟩
      have hc : w1.cell? (ad.add k) = some (.int .u8 (b : Int)) := by rw [hcell k xs[k] (List.getElem?_eq_getElem hlt), hb]; rfl
      have hb256 : b < 256 := by rw [hb]; exact (xs[k]).toNat_lt
      have hv56 : v < 72057594037927936 := by
        have := num_lt8 (xs.take k) 7 (by rw [List.length_take]; omega)
        rw [← hv] at this; exact this
      have HN : Hid (num (xs.take (k + 1)) = v * 256 + b) := by
        show _ = _
        rw [List.take_add_one, List.getElem?_eq_getElem hlt, Option.toList_some, num_snoc, ← hv, ← hb]
      rw [← hv]
      have hor : bits .or .u64 ((v : Int) * 256) (b : Int) = ((v * 256 + b : Nat) : Int) := by
        have e : ((v : Int) * 256) = ((v * 256 : Nat) : Int) := by omega
        rw [e, u64_or_nat (v * 256) b (by omega) (by omega), Nat.or_comm]
        have := or_mul b v 8 256 (by decide) hb256
        rw [this]
      clear hcell hv hb
      go_wp2
      go_roundw
      case rel => exact ⟨k + 1, by omega, by go_num, by rw [HN.out]; congr 1⟩
      case measure => simp [intOf]; omega
    · have HT : Hid (xs.take k = xs) := List.take_of_length_le (by omega)
      go_wp2
      go_ret
      exact ⟨by rw [← HXS.out, HT.out]; rfl, H2.out, H3.out⟩
set_option maxHeartbeats 1000000 in
set_option maxRecDepth 100000 in
theorem u8 (g : Nat) (l : List UInt8) (bad : Bool) (w : World) (hR : Rr w g l bad) (hl : l.length ≤ 70368744177664) :
    Calls Try.prog 21 #[.pointer (some ⟨g, 0, none⟩)] w fun e w' => e = .returned (.int .u8 ((num (got l bad 1) : Int))) ∧ Rr w' g (rest l bad 1) (isBad l bad 1) ∧ Ch g w w' := by
  have HM := Lib.hid (number g l bad 1 w hR hl (by omega))
  have HB := Lib.hid (num_lt8 (got l bad 1) 1 (got_len l bad 1))
  obtain ⟨v, hv⟩ : ∃ v, v = num (got l bad 1) := ⟨_, rfl⟩
  rw [← hv] at HM HB ⊢
  clear hR hv
  have hb : v < 256 := HB.out
  go_enter Try.func21, Try.ntmps21
  go_wp2_with (go_at_call 48; refine HM.out.mono ?_; rintro e w1 ⟨rfl, h1, h2⟩)
  go_ret
  exact ⟨rfl, h1, h2⟩
set_option maxHeartbeats 1000000 in
set_option maxRecDepth 100000 in
theorem u32 (g : Nat) (l : List UInt8) (bad : Bool) (w : World) (hR : Rr w g l bad) (hl : l.length ≤ 70368744177664) :
    Calls Try.prog 23 #[.pointer (some ⟨g, 0, none⟩)] w fun e w' => e = .returned (.int .u32 ((num (got l bad 4) : Int))) ∧ Rr w' g (rest l bad 4) (isBad l bad 4) ∧ Ch g w w' := by
  have HM := Lib.hid (number g l bad 4 w hR hl (by omega))
  have HB := Lib.hid (num_lt8 (got l bad 4) 4 (got_len l bad 4))
  obtain ⟨v, hv⟩ : ∃ v, v = num (got l bad 4) := ⟨_, rfl⟩
  rw [← hv] at HM HB ⊢
  clear hR hv
  have hb : v < 4294967296 := HB.out
  go_enter Try.func23, Try.ntmps23
  go_wp2_with (go_at_call 48; refine HM.out.mono ?_; rintro e w1 ⟨rfl, h1, h2⟩)
  go_ret
  exact ⟨rfl, h1, h2⟩
set_option maxHeartbeats 1000000 in
set_option maxRecDepth 100000 in
theorem i64 (g : Nat) (l : List UInt8) (bad : Bool) (w : World) (hR : Rr w g l bad) (hl : l.length ≤ 70368744177664) :
    Calls Try.prog 24 #[.pointer (some ⟨g, 0, none⟩)] w fun e w' => e = .returned (.int .i64 (IntKind.i64.wrap (num (got l bad 8) : Int))) ∧ Rr w' g (rest l bad 8) (isBad l bad 8) ∧ Ch g w w' := by
  have HM := Lib.hid (number g l bad 8 w hR hl (by omega))
  have HB := Lib.hid (num_lt8 (got l bad 8) 8 (got_len l bad 8))
  obtain ⟨v, hv⟩ : ∃ v, v = num (got l bad 8) := ⟨_, rfl⟩
  rw [← hv] at HM HB ⊢
  clear hR hv
  have hb : v < 18446744073709551616 := HB.out
  obtain ⟨x, hx⟩ : ∃ x, x = IntKind.i64.wrap (v : Int) := ⟨_, rfl⟩
  rw [← hx]
  have hxx := hx.symm
  clear hx
  go_enter Try.func24, Try.ntmps24
  go_wp2_with (go_at_call 48; refine HM.out.mono ?_; rintro e w1 ⟨rfl, h1, h2⟩)
  go_ret
  exact ⟨rfl, h1, h2⟩

/-- A text that is read: how it comes, what is left, whether all is bad. -/
def txtN (l : List UInt8) (bad : Bool) : Nat := num (got l bad 4)
def txt (l : List UInt8) (bad : Bool) : List UInt8 := got (rest l bad 4) (isBad l bad 4) (txtN l bad)
def txtRest (l : List UInt8) (bad : Bool) : List UInt8 := rest (rest l bad 4) (isBad l bad 4) (txtN l bad)
def txtBad (l : List UInt8) (bad : Bool) : Bool := isBad (rest l bad 4) (isBad l bad 4) (txtN l bad)
set_option maxHeartbeats 1000000 in
set_option maxRecDepth 100000 in
theorem string (g : Nat) (l : List UInt8) (bad : Bool) (w : World) (hR : Rr w g l bad) (hl : l.length ≤ 70368744177664) :
    Calls Try.prog 25 #[.pointer (some ⟨g, 0, none⟩)] w fun e w' => e = .returned (.string (str (txt l bad))) ∧ Rr w' g (txtRest l bad) (txtBad l bad) ∧ Ch g w w' := by
  have HM := Lib.hid (u32 g l bad w hR hl)
  have hb : txtN l bad < 4294967296 := num_lt8 (got l bad 4) 4 (got_len l bad 4)
  have HT : ∀ w', Rr w' g (rest l bad 4) (isBad l bad 4) → Hid (Calls Try.prog 49 #[.pointer (some ⟨g, 0, none⟩), .int .i64 (txtN l bad : Int)] w' _) := fun w' h => take g (rest l bad 4) (isBad l bad 4) (txtN l bad) w' h (by have := rest_len l bad 4; omega)
  have HTX : Hid (got (rest l bad 4) (isBad l bad 4) (txtN l bad) = txt l bad) := rfl
  have HTR : Hid (rest (rest l bad 4) (isBad l bad 4) (txtN l bad) = txtRest l bad) := rfl
  have HTB : Hid (isBad (rest l bad 4) (isBad l bad 4) (txtN l bad) = txtBad l bad) := rfl
  rw [show num (got l bad 4) = txtN l bad from rfl] at HM
  obtain ⟨v, hv⟩ : ∃ v, v = txtN l bad := ⟨_, rfl⟩
  rw [← hv] at HM HT HTX HTR HTB hb
  clear hR hv
  have HB := Lib.hid hb
  go_enter Try.func25, Try.ntmps25
  go_wp2_with (first | (go_at_call 23; refine HM.out.mono ?_; rintro e w1 ⟨rfl, h1, h2⟩; have H := HT _ h1; clear HT h1; have H2 := Lib.hid h2; clear h2) | (go_at_call 49; refine H.out.mono ?_; rintro e w2 ⟨A, c, rfl, h1, h3, h4⟩; rw [HTX.out] at h1 ⊢; rw [HTR.out, HTB.out] at h3; have hcv := run_string (P := Try.prog) (src := 22) (dst := 9) (c := c) Try.underlying22 Try.underlying5 Try.underlying9 h1; have H3 := Lib.hid h3; have H4 := Lib.hid h4; clear h1 h3 h4 H))
  go_ret
  exact ⟨rfl, H3.out, H2.out.trans H4.out⟩
set_option maxHeartbeats 1000000 in
set_option maxRecDepth 100000 in
theorem bad (g : Nat) (l : List UInt8) (bad : Bool) (w : World) (hR : Rr w g l bad) :
    Calls Try.prog 27 #[.pointer (some ⟨g, 0, none⟩)] w fun e w' => e = .returned (.bool bad) ∧ w = w' := by
  obtain ⟨A, c, hblk, hrd, hlc, hcm, hne⟩ := hR.row
  have hc1 : w.cell? ⟨g, 1, none⟩ = some (.bool bad) := by simp [World.cell?, hblk]
  clear hblk hrd hne hR
  go_enter Try.func27, Try.ntmps27
  go_wp2
  go_ret
  exact ⟨rfl, rfl⟩
set_option maxHeartbeats 1000000 in
set_option maxRecDepth 100000 in
theorem left (g : Nat) (l : List UInt8) (bad : Bool) (w : World) (hR : Rr w g l bad) :
    Calls Try.prog 28 #[.pointer (some ⟨g, 0, none⟩)] w fun e w' => e = .returned (.int .i64 ((if bad then 0 else l.length : Nat) : Int)) ∧ w = w' := by
  obtain ⟨A, c, hblk, hrd, hlc, hcm, hne⟩ := hR.row
  have hc0 : w.cell? ⟨g, 0, none⟩ = some (.slice A l.length c) := by simp [World.cell?, hblk]
  have hc1 : w.cell? ⟨g, 1, none⟩ = some (.bool bad) := by simp [World.cell?, hblk]
  clear hblk hrd hne hR
  cases bad
  · go_enter Try.func28, Try.ntmps28
    go_wp2
    go_ret
    exact ⟨rfl, rfl⟩
  · go_enter Try.func28, Try.ntmps28
    go_wp2
    go_ret
    exact ⟨rfl, rfl⟩
set_option maxHeartbeats 1000000 in
set_option maxRecDepth 100000 in
theorem new (A : Option Addr) (c : Nat) (l : List UInt8) (w : World) (h : Rd w A l) (hl : l.length ≤ 140737488351232) :
    Calls Try.prog 20 #[.slice A l.length c] w fun e w' => ∃ g, e = .returned (.pointer (some ⟨g, 0, none⟩)) ∧ w.heap.size ≤ g ∧ Rr w' g l false ∧ Below w.heap.size w w' := by
  have HM := Lib.hid (clone A c l w h hl)
  clear h
  go_enter Try.func20, Try.ntmps20
  go_wp2_with (go_at_call 47; refine HM.out.mono ?_; rintro e w1 ⟨B, c', rfl, h1, h2⟩; have H1 := Lib.hid h1; have H2 := Lib.hid h2; clear h1 h2 HM)
  go_ret
  have hr := rd_own H1.out
  refine ⟨w1.heap.size, rfl, H2.out.size, ⟨B, c', by show (w1.heap.push _)[w1.heap.size]? = _; rw [Array.getElem?_push, if_pos rfl], hr.2.2.2.below (below1 _ _), hr.2.1, by have := hr.2.2.1; unfold maxLen at this; omega, fun ad e => ?_⟩, H2.out.alloc H2.out.size _⟩
  have hlt : ∀ k, (Value.slice B l.length c').ownBlock = some k → k < w1.heap.size := fun k hk => (H1.out.lt k hk).2
  subst e
  have := hlt ad.block (by rfl)
  omega
end Go.Proofs.Ytdojhdglbajinaa.Reader
