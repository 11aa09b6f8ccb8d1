/- DERIVED. Contracts of what BlobSlices says by itself: place, kind, and the reference's Lower. -/
import Derived.Test.YtmfhkgfgphdliaaFns
namespace Go.Proofs.Ytmfhkgfgphdliaa.Refs
open Go.RowKit Go.Proofs.Ytmfhkgfgphdliaa.Mem Go.Proofs.Ytmfhkgfgphdliaa.Fns
set_option linter.unusedVariables false
set_option linter.unusedSimpArgs false

set_option maxHeartbeats 1000000 in
theorem placeN (n size d : Int) (w : World) : Calls Try.prog 13 #[.int .i64 n, .bool false, .int .i64 size, .int .i64 d] w fun e w' => e = .returned (.int .i64 d) ∧ w = w' := by
  go_enter Try.func13, Try.ntmps13
  go_wp2
  go_ret
  exact ⟨rfl, rfl⟩
/-- The same, said as the other is. -/
theorem placeO (n : Int) (size : Nat) (d : Int) (w : World) : Calls Try.prog 13 #[.int .i64 n, .bool false, .int .i64 size, .int .i64 d] w fun e w' => e = .returned (.int .i64 (placeI size none d)) ∧ w = w' := placeN n size d w
set_option maxHeartbeats 1000000 in
theorem placeY (n : Int) (size : Nat) (d : Int) (w : World) (h0 : -9223372036854775808 ≤ n) (h1 : n ≤ 9223372036854775807) (hs : size ≤ 140737488351232) :
    Calls Try.prog 13 #[.int .i64 n, .bool true, .int .i64 size, .int .i64 d] w fun e w' => e = .returned (.int .i64 (placeI size (some n) d)) ∧ w = w' := by
  by_cases hx : n < 0
  · by_cases hn : (size : Int) + n < 0
    · have hp : Hid (placeI size (some n) d = 0) := by show placeI size (some n) d = 0; simp [placeI, hx, hn]
      have h2 : (size : Int) ≤ -(n + 1) := by omega
      go_enter Try.func13, Try.ntmps13
      go_wp2
      go_ret
      exact ⟨by rw [hp.out]; rfl, rfl⟩
    · have hp : Hid (placeI size (some n) d = size + n) := by show placeI size (some n) d = _; simp [placeI, hx, hn]
      have h2 : ¬ (size : Int) ≤ -(n + 1) := by omega
      go_enter Try.func13, Try.ntmps13
      go_wp2
      go_ret
      exact ⟨by rw [hp.out]; rfl, rfl⟩
  · by_cases hn : n < (size : Int)
    · have hp : Hid (placeI size (some n) d = n) := by show placeI size (some n) d = _; simp [placeI, hx, hn]
      go_enter Try.func13, Try.ntmps13
      go_wp2
      go_ret
      exact ⟨by rw [hp.out]; rfl, rfl⟩
    · have hp : Hid (placeI size (some n) d = size) := by show placeI size (some n) d = _; simp [placeI, hx, hn]
      go_enter Try.func13, Try.ntmps13
      go_wp2
      all_goals go_ret
      all_goals exact ⟨by rw [hp.out]; first | rfl | (show Ending.returned (Value.int .i64 _) = _; congr 2; omega), rfl⟩

/-- What has been gathered, as cells. -/
def outC (s : ByteArray) (k : Nat) : List Value := ((s.data.toList.take k).map lowB).map cellB
theorem outC_succ (s : ByteArray) (k : Nat) (h : k < s.size) : outC s (k + 1) = outC s k ++ [cellB (lowB (sbyte s k))] := by
  unfold outC
  rw [List.take_add_one, good_at s k h]; simp
theorem outC_all (s : ByteArray) : outC s s.size = (s.data.toList.map lowB).map cellB := by
  have hl : s.data.toList.length = s.size := by rw [Array.length_toList]; rfl
  unfold outC
  rw [List.take_of_length_le (by omega)]
set_option maxHeartbeats 4000000 in
theorem lowerR (s : ByteArray) (w : World) (hs : s.size ≤ 140737488351232) :
    Calls Try.prog 19 #[.string s] w fun e w' => e = .returned (.string (low s)) ∧ Below w.heap.size w w' := by
  obtain ⟨i0, hi, hz0, hz1, hz2⟩ := info_parts info5
  go_enter Try.func19, Try.ntmps19
  go_wp2
  go_loopw [3, 8] (fun v i wr => ∃ (k : Nat) (B : Option Addr) (c : Nat), k ≤ s.size ∧ i = .int .i64 k ∧ v = .slice B k c ∧ Hid (wr.ownsRow w.heap.size 5 1 (.slice B k c) k (outC s k)) ∧ Hid (Below w.heap.size w wr)) (fun _ i _ => s.size - (intOf i).toNat)
  case atStart => exact ⟨0, none, 0, Nat.zero_le _, rfl, rfl, World.ownsRow_nil _ _ _ _, Below.refl _ _⟩
  case round =>
    obtain ⟨k, B, c, hk, rfl, rfl, hO, hB⟩ := hrel
    by_cases hlt : k < s.size
    · obtain ⟨n, hn⟩ : ∃ n : Nat, n = (sbyte s k).toNat := ⟨_, rfl⟩
      have hn2 : s[k].toNat = n := by rw [str_byte hlt, hn]
      have hn256 : n < 256 := by rw [hn]; exact (sbyte s k).toNat_lt
      have HN := Lib.hid hn
      have HT := Lib.hid (outC_succ s k hlt)
      have HSZ := Lib.hid hB.out.size
      clear hn
      by_cases hU : 65 ≤ n ∧ n ≤ 90
      · obtain ⟨h1, h2⟩ := hU
        go_wp2_with (at_builtin; refine wpList_append_own _ rfl _ _ 22 rfl w.heap.size 5 i0 (.int .u8 0) 1 1 Try.underlying22 hi hz0 hz1 hz2 rfl (by decide) _ _ _ rfl (hO.out.alloc _) ⟨wr.heap.size, 0, none⟩ 1 1 [.int .u8 ((n : Int) + 32)] rfl rfl ?c1a ?c2a ?c3a ?c4a ?c5a ?_)
        (try case c1a => exact (cell_one_new _ _ _))
        case c2a => first | rfl | (intro u hu; simp at hu; subst hu; rfl)
        case c3a => unfold maxLen; omega
        case c4a => omega
        case c5a => have := HSZ.out; first | omega | (simp; omega)
        intro v' w1 hown hgrow _
        have hcell : (Value.int .u8 ((n : Int) + 32)) = cellB (lowB (sbyte s k)) := by
          have := low_cell HN.out (Or.inl ⟨h1, h2⟩)
          rw [← this]; congr 1; omega
        rw [hcell, ← HT.out] at hown
        obtain ⟨B', c', rfl⟩ := own_form hown
        have HO := Lib.hid hown
        have HB2 := Lib.hid (((hB.out.alloc HSZ.out _)).grown hgrow (by simp; have := HSZ.out; omega) (fun q hq => (hO.out.lt q hq).1))
        clear hown hgrow hO hB hcell
        go_wp2
        go_roundw
        case rel => exact ⟨k + 1, B', c', by omega, by go_num, rfl, HO.out, HB2.out⟩
        case measure => simp [intOf]; omega
      · by_cases h1 : 65 ≤ n
        · have h2 : ¬ n ≤ 90 := by omega
          clear hU
          go_wp2_with (at_builtin; refine wpList_append_own _ rfl _ _ 22 rfl w.heap.size 5 i0 (.int .u8 0) 1 1 Try.underlying22 hi hz0 hz1 hz2 rfl (by decide) _ _ _ rfl (hO.out.alloc _) ⟨wr.heap.size, 0, none⟩ 1 1 [.int .u8 ((n : Int))] rfl rfl ?c1b ?c2b ?c3b ?c4b ?c5b ?_)
          (try case c1b => exact (cell_one_new _ _ _))
          case c2b => first | rfl | (intro u hu; simp at hu; subst hu; rfl)
          case c3b => unfold maxLen; omega
          case c4b => omega
          case c5b => have := HSZ.out; first | omega | (simp; omega)
          intro v' w1 hown hgrow _
          have hcell : (Value.int .u8 ((n : Int))) = cellB (lowB (sbyte s k)) := by
            rw [low_same HN.out (by omega), HN.out]; rfl
          rw [hcell, ← HT.out] at hown
          obtain ⟨B', c', rfl⟩ := own_form hown
          have HO := Lib.hid hown
          have HB2 := Lib.hid (((hB.out.alloc HSZ.out _)).grown hgrow (by simp; have := HSZ.out; omega) (fun q hq => (hO.out.lt q hq).1))
          clear hown hgrow hO hB hcell
          go_wp2
          go_roundw
          case rel => exact ⟨k + 1, B', c', by omega, by go_num, rfl, HO.out, HB2.out⟩
          case measure => simp [intOf]; omega
        · clear hU
          go_wp2_with (at_builtin; refine wpList_append_own _ rfl _ _ 22 rfl w.heap.size 5 i0 (.int .u8 0) 1 1 Try.underlying22 hi hz0 hz1 hz2 rfl (by decide) _ _ _ rfl (hO.out.alloc _) ⟨wr.heap.size, 0, none⟩ 1 1 [.int .u8 ((n : Int))] rfl rfl ?c1c ?c2c ?c3c ?c4c ?c5c ?_)
          (try case c1c => exact (cell_one_new _ _ _))
          case c2c => first | rfl | (intro u hu; simp at hu; subst hu; rfl)
          case c3c => unfold maxLen; omega
          case c4c => omega
          case c5c => have := HSZ.out; first | omega | (simp; omega)
          intro v' w1 hown hgrow _
          have hcell : (Value.int .u8 ((n : Int))) = cellB (lowB (sbyte s k)) := by
            rw [low_same HN.out (by omega), HN.out]; rfl
          rw [hcell, ← HT.out] at hown
          obtain ⟨B', c', rfl⟩ := own_form hown
          have HO := Lib.hid hown
          have HB2 := Lib.hid (((hB.out.alloc HSZ.out _)).grown hgrow (by simp; have := HSZ.out; omega) (fun q hq => (hO.out.lt q hq).1))
          clear hown hgrow hO hB hcell
          go_wp2
          go_roundw
          case rel => exact ⟨k + 1, B', c', by omega, by go_num, rfl, HO.out, HB2.out⟩
          case measure => simp [intOf]; omega
    · have hl : s.data.toList.length = s.size := by rw [Array.length_toList]; rfl
      obtain rfl : k = s.size := by omega
      have h2 := hO.out
      rw [outC_all] at h2
      have h3 : wr.ownsRow w.heap.size 5 1 (.slice B (s.data.toList.map lowB).length c) (s.data.toList.map lowB).length ((s.data.toList.map lowB).map cellB) := by rw [List.length_map, hl]; exact h2
      have hcv := run_string (P := Try.prog) (src := 22) (dst := 9) (c := c) Try.underlying22 Try.underlying5 Try.underlying9 (rd_own h3).2.2.2
      rw [List.length_map, hl] at hcv
      clear hO h2 h3
      go_wp2
      go_ret
      exact ⟨rfl, hB.out⟩

set_option maxHeartbeats 1000000 in
/-- The law's own kind. -/
theorem kindR (s : ByteArray) (w : World) (hs : s.size ≤ 140737488351232) :
    Calls Try.prog 15 #[.string s] w fun e w' => e = .returned (.string (kindS s)) ∧ Below w.heap.size w w' := by
  go_enter Try.func15, Try.ntmps15
  go_wp2
  go_loop [6] (fun i => ∃ k : Nat, k ≤ s.size ∧ i = .int .i64 k ∧ Hid (∀ j, j < k → good (sbyte s j) = true)) (fun i => s.size - (intOf i).toNat)
  case atStart => exact ⟨0, Nat.zero_le _, rfl, fun j hj => absurd hj (Nat.not_lt_zero _)⟩
  case round =>
    obtain ⟨k, hk, rfl, hG⟩ := hrel
    by_cases hlt : k < s.size
    · obtain ⟨n, hn⟩ : ∃ n : Nat, n = (sbyte s k).toNat := ⟨_, rfl⟩
      have hn2 : s[k].toNat = n := by rw [str_byte hlt, hn]
      have hn256 : n < 256 := by rw [hn]; exact (sbyte s k).toNat_lt
      have HN := Lib.hid hn
      clear hn
      by_cases h1 : n < 32
      · have hz := Lib.hid (kind_bad hlt (show good (sbyte s k) = false by unfold good; rw [← HN.out]; simp; omega))
        go_wp2
        go_ret
        exact ⟨by rw [hz.out]; rfl, Below.refl _ _⟩
      · by_cases h2 : n ≤ 126
        · go_wp2
          go_round
          case rel =>
            refine ⟨k + 1, by omega, by go_num, fun j hj => ?_⟩
            by_cases hj1 : j < k
            · exact hG.out j hj1
            · rw [show j = k by omega]; unfold good; rw [← HN.out]; simp; omega
          case measure => simp [intOf]; omega
        · have hz := Lib.hid (kind_bad hlt (show good (sbyte s k) = false by unfold good; rw [← HN.out]; simp; omega))
          go_wp2
          go_ret
          exact ⟨by rw [hz.out]; rfl, Below.refl _ _⟩
    · have hz := Lib.hid (kind_good (fun j hj => hG.out j (by omega)))
      go_wp2_with (go_at_call 19; refine (lowerR s _ hs).mono ?_; rintro e w1 ⟨rfl, hb⟩)
      go_ret
      exact ⟨by rw [hz.out]; rfl, by assumption⟩
end Go.Proofs.Ytmfhkgfgphdliaa.Refs
