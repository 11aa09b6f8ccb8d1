/- DERIVED. The document's reader: Take, Text. -/
import Derived.Test.YtdojhdglbajinaaOf
import Derived.BigQuiet
import Derived.Deep.QuietTactic
namespace Go.Proofs.Ytdojhdglbajinaa.RefT
open Go.RowKit Go.Proofs.Ytdojhdglbajinaa.Mem Go.Proofs.Ytdojhdglbajinaa.Writer Go.Proofs.Ytdojhdglbajinaa.Reader Go.Proofs.Ytdojhdglbajinaa.Enc Go.Proofs.Ytdojhdglbajinaa.Dec Go.Proofs.Ytdojhdglbajinaa.Plain
set_option linter.unusedVariables false
set_option linter.unusedSimpArgs false

/-- What is left, as the document has it: nothing, where it is bad. -/
def left (l : List UInt8) (n : Nat) : List UInt8 := if isBad l false n then [] else l.drop n
theorem str_at (l : List UInt8) (k : Nat) (h : k < l.length) (h' : k < (str l).size) : (str l)[k] = l[k] := by
  rfl
theorem str_ext (l : List UInt8) (a b : Nat) : (str l).extract a b = str ((l.take b).drop a) := by
  apply ByteArray.ext
  simp [str, ByteArray.data_extract, List.drop_take]
set_option maxHeartbeats 4000000 in
set_option maxRecDepth 100000 in
theorem take (l : List UInt8) (n : Nat) (w : World) (hn : n ≤ 8) (hl : l.length ≤ 70368744177664) :
    Calls Try.prog 22 #[.string (str l), .int .i64 (n : Int)] w fun e w' => e = .returned (.tuple #[.int .u64 (num (got l false n) : Int), .string (str (left l n)), .bool (!isBad l false n)]) ∧ ∃ q, w' = w.drewN q := by
  have hsz : (str l).size = l.length := str_size l
  by_cases hb : l.length < n
  · have h0 : Hid (isBad l false n = true) := by show isBad l false n = true; simp [isBad, hb]
    go_enter Try.func22, Try.ntmps22
    go_wp2
    go_ret3
    exact ⟨by unfold got left; rw [h0.out]; rfl, 0, rfl⟩
  · have h0 : Hid (isBad l false n = false) := by show isBad l false n = false; simp [isBad]; omega
    go_enter Try.func22, Try.ntmps22
    go_wp2
    go_loop [7, 14] (fun v i => ∃ k : Nat, k ≤ n ∧ i = .int .i64 k ∧ v = .int .u64 (num (l.take k) : Int)) (fun _ i => n - (intOf i).toNat)
    case atStart => exact ⟨0, Nat.zero_le _, rfl, rfl⟩
    case round =>
      obtain ⟨k, hk, rfl, rfl⟩ := hrel
      by_cases hlt : k < n
      · have hlt2 : k < l.length := by omega
        obtain ⟨b, hb⟩ : ∃ b : Nat, b = l[k].toNat := ⟨_, rfl⟩
        obtain ⟨v, hv⟩ : ∃ v : Nat, v = num (l.take k) := ⟨_, rfl⟩
        have hlt3 : k < (str l).size := by rw [hsz]; exact hlt2
        have hs : ((str l)[k]'hlt3).toNat = b := by rw [str_at l k hlt2, hb]; rfl
        have hb256 : b < 256 := by rw [hb]; exact (l[k]).toNat_lt
        have hv56 : v < 72057594037927936 := by
          have := num_lt8 (l.take k) 7 (by rw [List.length_take]; omega)
          rw [← hv] at this; exact this
        have HN : Hid (num (l.take (k + 1)) = v * 256 + b) := by
          show _ = _
          rw [List.take_add_one, List.getElem?_eq_getElem hlt2, Option.toList_some, num_snoc, ← hv, ← hb]
        rw [← hv]
        clear hv hb
        go_wp2
        go_roundw
        case rel => exact ⟨k + 1, by omega, by go_num, by rw [HN.out]; congr 1⟩
        case measure => simp [intOf]; omega
      · obtain rfl : k = n := by omega
        go_wp2
        go_quiet (fail)
        go_wp2
        go_ret3
        exact ⟨by unfold got left; rw [h0.out]; rw [str_ext, List.take_of_length_le (Nat.le_refl _)]; rfl, _, rfl⟩

/-- What is left behind a text, as the document has it. -/
def tleft (l : List UInt8) : List UInt8 := if txtBad l false then [] else txtRest l false
theorem take4 (l : List UInt8) (w : World) (hl : l.length ≤ 70368744177664) (N : Nat) (r : List UInt8) (ok : Bool) (hN : num (got l false 4) = N) (hr : left l 4 = r) (hb : isBad l false 4 = !ok) :
    Calls Try.prog 22 #[.string (str l), .int .i64 4] w fun e w' => e = .returned (.tuple #[.int .u64 (N : Int), .string (str r), .bool ok]) ∧ ∃ q, w' = w.drewN q := by
  have := take l 4 w (by omega) hl
  rw [hN, hr, hb, Bool.not_not] at this
  exact this
set_option maxHeartbeats 4000000 in
set_option maxRecDepth 100000 in
theorem text (l : List UInt8) (w : World) (hl : l.length ≤ 70368744177664) :
    Calls Try.prog 26 #[.string (str l)] w fun e w' => e = .returned (.tuple #[.string (str (txt l false)), .string (str (tleft l)), .bool (!txtBad l false)]) ∧ ∃ q, w' = w.drewN q := by
  obtain ⟨N, hN⟩ : ∃ N, N = num (got l false 4) := ⟨_, rfl⟩
  obtain ⟨r, hr⟩ : ∃ r, r = left l 4 := ⟨_, rfl⟩
  have hN32 : N < 4294967296 := by rw [hN]; exact num_lt8 _ 4 (got_len _ _ _)
  have hrl : r.length ≤ 70368744177664 := by
    rw [hr]; unfold left; split
    · simp
    · rw [List.length_drop]; omega
  have hsz : (str r).size = r.length := str_size r
  have HTN : Hid (txtN l false = N) := hN.symm
  cases hA : isBad l false 4 with
  | true =>
    have HM := Lib.hid (take4 l w hl N r false hN.symm hr.symm (by rw [hA]; rfl))
    have HB : Hid (txtBad l false = true) := by show txtBad l false = true; unfold txtBad; rw [hA]; rfl
    have HX : Hid (txt l false = []) := by show txt l false = []; unfold txt got; rw [hA]; rfl
    clear hr hA hN
    go_enter Try.func26, Try.ntmps26
    go_wp2_with (go_at_call 22; refine HM.out.mono ?_; rintro e w1 ⟨rfl, q, rfl⟩)
    go_ret3
    exact ⟨by unfold tleft; rw [HX.out, HB.out]; rfl, q, rfl⟩
  | false =>
    have HM := Lib.hid (take4 l w hl N r true hN.symm hr.symm (by rw [hA]; rfl))
    have hr2 : r = rest l false 4 := by rw [hr]; unfold left rest; rw [hA]; rfl
    have HTB : Hid (txtBad l false = decide (r.length < N)) := by show isBad (rest l false 4) (isBad l false 4) (txtN l false) = _; rw [hA, ← hr2, show txtN l false = N from hN.symm]; simp [isBad]
    by_cases hlt : r.length < N
    · have HB : Hid (txtBad l false = true) := by show txtBad l false = true; rw [HTB.out]; exact decide_eq_true hlt
      have HX : Hid (txt l false = []) := by show txt l false = []; have := HB.out; unfold txtBad at this; unfold txt got; rw [this]; rfl
      clear hr hA hN hr2
      go_enter Try.func26, Try.ntmps26
      go_wp2_with (go_at_call 22; refine HM.out.mono ?_; rintro e w1 ⟨rfl, q, rfl⟩)
      go_ret3
      exact ⟨by unfold tleft; rw [HX.out, HB.out]; rfl, q, rfl⟩
    · have HB : Hid (txtBad l false = false) := by show txtBad l false = false; rw [HTB.out]; exact decide_eq_false hlt
      have HX : Hid (txt l false = r.take N) := by show txt l false = _; have := HB.out; unfold txtBad at this; unfold txt got; rw [this, ← hr2, HTN.out]; rfl
      have HY : Hid (txtRest l false = r.drop N) := by show txtRest l false = _; have := HB.out; unfold txtBad at this; unfold txtRest; rw [rest, this, ← hr2, HTN.out]; rfl
      clear hr hA hN hr2
      go_enter Try.func26, Try.ntmps26
      go_wp2_with (go_at_call 22; refine HM.out.mono ?_; rintro e w1 ⟨rfl, q, rfl⟩)
      go_quiet (fail)
      go_wp2
      go_ret3
      refine ⟨by unfold tleft; rw [HX.out, HB.out, HY.out]; simp only [str_ext, List.take_of_length_le (Nat.le_refl _), List.drop_zero]; rfl, by first | exact ⟨_, rfl⟩ | exact ⟨_, World.drewN_drewN _ _ _⟩⟩
end Go.Proofs.Ytdojhdglbajinaa.RefT
