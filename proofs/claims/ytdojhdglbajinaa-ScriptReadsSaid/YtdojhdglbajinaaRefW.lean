/- DERIVED. The document's answer: Number, String, Encode; Of. -/
import Derived.Test.YtdojhdglbajinaaAwake
namespace Go.Proofs.Ytdojhdglbajinaa.RefW
open Go.RowKit Go.Proofs.Ytdojhdglbajinaa.Mem Go.Proofs.Ytdojhdglbajinaa.Writer Go.Proofs.Ytdojhdglbajinaa.Reader Go.Proofs.Ytdojhdglbajinaa.Enc Go.Proofs.Ytdojhdglbajinaa.Dec Go.Proofs.Ytdojhdglbajinaa.Plain
set_option linter.unusedVariables false
set_option linter.unusedSimpArgs false

theorem cell_one_new (w : World) (u : Value) (t : Nat) : ∀ (j : Nat) (v : Value), [u][j]? = some v → (w.alloc (.cells #[u] t)).cell? ((⟨w.heap.size, 0, none⟩ : Addr).add j) = some v := by
  intro j v hj
  match j, hj with
  | 0, hj => simp at hj; subst hj; simp [Addr.add, World.cell?_alloc_new]
  | j + 1, hj => simp at hj
set_option maxHeartbeats 4000000 in
set_option maxRecDepth 100000 in
theorem number (n m : Nat) (w : World) (hn : n < 18446744073709551616) (hm : m ≤ 8) :
    Calls Try.prog 30 #[.int .u64 (n : Int), .int .i64 (m : Int)] w fun e w' => e = .returned (.string (str (be n m))) ∧ Below w.heap.size w w' := by
  obtain ⟨i0, hi, hz0, hz1, hz2⟩ := info_parts info5
  go_enter Try.func30, Try.ntmps30
  go_wp2
  go_loopw [5, 8] (fun v i wr => ∃ (j : Nat) (B : Option Addr) (c : Nat), j ≤ m ∧ i = .int .i64 j ∧ v = .slice B j c ∧ Hid (wr.ownsRow w.heap.size 5 1 (.slice B j c) j (((be n m).take j).map cellB)) ∧ Hid (Below w.heap.size w wr)) (fun _ i _ => m - (intOf i).toNat)
  case atStart => exact ⟨0, none, 0, Nat.zero_le _, rfl, rfl, World.ownsRow_nil _ _ _ _, Below.refl _ _⟩
  case round =>
    obtain ⟨j, B, c, hj, rfl, rfl, hO, hB⟩ := hrel
    by_cases hlt : j < m
    · have HSZ := Lib.hid hB.out.size
      have HT := Lib.hid (be_take n m j hlt)
      obtain ⟨u, hu⟩ : ∃ u, u = byteAt n (m - 1 - j) := ⟨_, rfl⟩
      have HU : Hid ((n : Int) / 2 ^ (8 * (m - 1 - j)) % 256 = (u.toNat : Int)) := by
        show _ = _
        rw [hu, byteAt_nat, ← pow8]
        simp
      rw [← hu] at HT
      clear hu
      go_wp2_with (at_builtin; go_loud (refine wpList_append_own _ rfl _ _ 22 rfl w.heap.size 5 i0 (.int .u8 0) 1 1 Try.underlying22 hi hz0 hz1 hz2 rfl (by decide) _ _ _ rfl (hO.out.alloc _) ⟨wr.heap.size, 0, none⟩ 1 1 [.int .u8 ((n : Int) / 2 ^ (8 * (m - 1 - j)) % 256)] rfl rfl ?c1a ?c2a ?c3a ?c4a ?c5a ?_))
      case c1a => exact (cell_one_new _ _ _)
      case c2a => intro u hu; simp at hu; subst hu; rfl
      case c3a => unfold maxLen; omega
      case c4a => omega
      case c5a => have := HSZ.out; simp; omega
      intro v' w1 hown hgrow _
      have hcell : (Value.int .u8 ((n : Int) / 2 ^ (8 * (m - 1 - j)) % 256)) = cellB u := by rw [HU.out]; rfl
      rw [hcell, show ((be n m).map cellB).take j ++ [cellB u] = ((be n m).take (j + 1)).map cellB from by rw [HT.out, List.map_append, List.map_take]; rfl] at hown
      obtain ⟨B', c', rfl⟩ := own_form hown
      have HO := Lib.hid hown
      have HB2 := Lib.hid (((hB.out.alloc HSZ.out _)).grown hgrow (by simp; have := HSZ.out; omega) (fun q hq => (hO.out.lt q hq).1))
      clear hown hgrow hO hB hcell
      go_wp2
      go_roundw
      case rel => exact ⟨j + 1, B', c', by omega, by go_num, rfl, HO.out, HB2.out⟩
      case measure => simp [intOf]; omega
    · obtain rfl : j = m := by omega
      have h2 := hO.out
      rw [List.take_of_length_le (by rw [be_len]; omega)] at h2
      have h3 : wr.ownsRow w.heap.size 5 1 (.slice B (be n j).length c) (be n j).length ((be n j).map cellB) := by rw [be_len]; exact h2
      have hcv := run_string (P := Try.prog) (src := 22) (dst := 9) (c := c) Try.underlying22 Try.underlying5 Try.underlying9 (rd_own h3).2.2.2
      rw [be_len] at hcv
      clear hO h2 h3
      go_wp2
      go_ret
      exact ⟨rfl, hB.out⟩
set_option maxHeartbeats 1000000 in
set_option maxRecDepth 100000 in
theorem string (t : List UInt8) (w : World) (ht : t.length < 4294967296) :
    Calls Try.prog 34 #[.string (str t)] w fun e w' => e = .returned (.string (str (textB t))) ∧ Below w.heap.size w w' := by
  have HM := Lib.hid (number t.length 4 w (by omega) (by omega))
  have hsz : (str t).size = t.length := str_size t
  have hs2 : (str (be t.length 4)).size = 4 := by rw [str_size, be_len]
  have hap : str (be t.length 4) ++ str t = str (textB t) := str_append _ _
  go_enter Try.func34, Try.ntmps34
  go_wp2_with (go_at_call 30; refine HM.out.mono ?_; rintro e w1 ⟨rfl, h1⟩)
  go_ret
  exact ⟨rfl, h1⟩
end Go.Proofs.Ytdojhdglbajinaa.RefW
