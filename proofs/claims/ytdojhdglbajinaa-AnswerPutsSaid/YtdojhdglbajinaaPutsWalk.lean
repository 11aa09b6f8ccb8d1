/- DERIVED. The walk of AnswerPuts. -/
import Derived.Test.YtdojhdglbajinaaTakesWalk
import Derived.Test.YtdojhdglbajinaaOpenU
namespace Go.Proofs.Ytdojhdglbajinaa.PutsWalk
open Go.RowKit Go.Proofs.Ytdojhdglbajinaa.Mem Go.Proofs.Ytdojhdglbajinaa.Writer Go.Proofs.Ytdojhdglbajinaa.Reader Go.Proofs.Ytdojhdglbajinaa.Enc Go.Proofs.Ytdojhdglbajinaa.Dec Go.Proofs.Ytdojhdglbajinaa.Plain Go.Proofs.Ytdojhdglbajinaa.RefEnc Go.Proofs.Ytdojhdglbajinaa.WritesWalk Go.Proofs.Ytdojhdglbajinaa.OpenU
set_option linter.unusedVariables false
set_option linter.unusedSimpArgs false

theorem wr_below {w w' : World} {g base : Nat} {l : List UInt8} (h : Wr w g base l) (hb : Below w.heap.size w w') : Wr w' g base l := by
  obtain ⟨B, c, h1, h2⟩ := h.row
  exact ⟨h.lt, Nat.le_trans h.le hb.size, B, c, (hb.block g (Array.getElem?_eq_some_iff.1 h1).1).trans h1, own_below h2 hb⟩
theorem wr_new (w : World) : Wr (w.alloc (.cells #[.slice none 0 0] 55)) w.heap.size (w.heap.size + 1) [] := by
  refine ⟨by omega, by simp, none, 0, ?_, World.ownsRow_nil _ _ _ _⟩
  show (w.heap.push _)[w.heap.size]? = _
  rw [Array.getElem?_push, if_pos rfl]; rfl
set_option maxHeartbeats 2000000 in
set_option maxRecDepth 100000 in
theorem law (A : Option Addr) (c : Nat) (zs : List Nat) (B : Option Addr) (d : Nat) (ks : List UInt8) (t : List UInt8) (w : World) (ra : RdU w A zs) (rk : Rd w B ks) (ht : t.length ≤ 140737488351232) :
    Calls Try.prog 6 #[.slice A zs.length c, .slice B ks.length d, .string (str t)] w fun e w' => e = .returned (.bool true) ∧ Below w.heap.size w w' := by
  have hza : zs.length ≤ 9223372036854775807 := ra.1
  have hzk : ks.length ≤ 9223372036854775807 := rk.1
  have hst := str_size t
  have RA0 := Lib.hid ra
  have RK0 := Lib.hid rk
  clear ra rk
  by_cases h1 : zs.length ≤ 60
  · by_cases h2 : zs.length ≤ ks.length
    · by_cases h3 : t.length ≤ 200
      · have hd1 : decide (60 < (zs.length : Int)) = false := decide_eq_false (by omega)
        have hd2 : decide (ks.length < zs.length) = false := decide_eq_false (by omega)
        have hd3 : decide (200 < (t.length : Int)) = false := decide_eq_false (by omega)
        go_enter Try.func6, Try.ntmps6
        go_wp2_with (go_at_call 12; refine (Awake.awake _).mono ?_; rintro e wa ⟨rfl, hb⟩; have HB0 := Lib.hid hb; clear hb)
        go_loopw [9, 33] (fun t9 i wr => ∃ (k : Nat) (W : List UInt8), k ≤ zs.length ∧ i = .int .i64 k ∧ t9 = .string (str W) ∧ W.length ≤ 204 * k ∧ Hid (Wr wr wa.heap.size (wa.heap.size + 1) W) ∧ Hid (Below w.heap.size w wr)) (fun _ i _ => zs.length - (intOf i).toNat)
        case atStart => exact ⟨0, [], Nat.zero_le _, rfl, rfl, by simp, wr_new wa, HB0.out.alloc HB0.out.size _⟩
        case round =>
          obtain ⟨k, W, hkk, rfl, rfl, hW, HR, HB⟩ := hrel
          have HG : Hid (w.heap.size ≤ wa.heap.size) := HB0.out.size
          clear HB0
          obtain ⟨g, hg⟩ : ∃ g, g = wa.heap.size := ⟨_, rfl⟩
          rw [← hg] at HG HR ⊢
          have HGW := Lib.hid hg
          clear hg
          have hsw := str_size W
          by_cases hlt : k < zs.length
          · have hlt2 : k < ks.length := by omega
            obtain ⟨kd, rfl, hkc⟩ := Same.Rd.at (RK0.out.below HB.out) k hlt2
            obtain ⟨ad, rfl, hzc, hz64⟩ := OpenU.RdU.at (RA0.out.below HB.out) k hlt
            obtain ⟨b, hb⟩ : ∃ b : Nat, b = ks[k].toNat := ⟨_, rfl⟩
            obtain ⟨z, hz⟩ : ∃ z : Nat, z = zs[k] := ⟨_, rfl⟩
            rw [← hb] at hkc
            rw [← hz] at hzc hz64
            have HZ := Lib.hid hz
            obtain ⟨x, hx⟩ : ∃ x : Int, x = IntKind.i64.wrap (z : Int) := ⟨_, rfl⟩
            have hxz : u64n x = z := by rw [hx]; exact u64_i64 z hz64
            have hxx := hx.symm
            obtain ⟨z8, hz8d⟩ : ∃ z8 : Nat, z8 = z % 256 := ⟨_, rfl⟩
            obtain ⟨z32, hz32d⟩ : ∃ z32 : Nat, z32 = z % 4294967296 := ⟨_, rfl⟩
            have hz8 : z8 < 256 := by omega
            have hz32 : z32 < 4294967296 := by omega
            have be8 : be z8 1 = be z 1 := by rw [hz8d, be_mod z 1]
            have be32 : be z32 4 = be z 4 := by rw [hz32d, be_mod z 4]
            have hw8 : (z : Int) % 256 = (z8 : Int) := by omega
            have hw32 : (z : Int) % 4294967296 = (z32 : Int) := by omega
            clear hb hz hx hz8d hz32d
            have RA := Lib.hid (RA0.out.below HB.out)
            have RK := Lib.hid (RK0.out.below HB.out)
            have tg : Hid True := trivial
            rcases TakesWalk.four b with hk4 | hk4 | hk4 | hk4
            · have hsx : (str (be z 1)).size = 1 := by rw [str_size]; exact be_len _ _
              have HLX : Hid ((be z 1).length ≤ 204) := by show _ ≤ _; rw [be_len]; omega
              go_wp2_with (first
                | (go_at_call 29; refine (Writer.u8 g (g + 1) W z8 _ HR.out hz8 (by omega)).mono ?_; rw [be8]; rintro e w1 ⟨rfl, h1, h2⟩; replace HB := Lib.hid (HB.out.trans (h2.below.mono HG.out)); replace RA := Lib.hid (RA0.out.below HB.out); replace RK := Lib.hid (RK0.out.below HB.out); clear HR; have HR := Lib.hid h1; clear h1 h2; clear hkc hzc; obtain ⟨_, e1, hzc, _⟩ := OpenU.RdU.at RA.out k hlt; cases e1; rw [← HZ.out] at hzc)
                | (go_at_call 30; refine (RefW.number z 1 _ hz64 (by omega)).mono ?_; rintro e w2 ⟨rfl, h1⟩; replace HR := Lib.hid (wr_below HR.out h1); replace HB := Lib.hid (step2 HB.out HB.out.size h1); replace RA := Lib.hid (RA0.out.below HB.out); clear h1 hzc; obtain ⟨_, e1, hzc, _⟩ := OpenU.RdU.at RA.out k hlt; cases e1; rw [← HZ.out] at hzc)
                | (go_at_call 32; refine (Writer.nil_i64 x _).mono ?_; rintro e w3 ⟨rfl, rfl⟩))
              go_roundw
              case rel => exact ⟨k + 1, W ++ (be z 1), by omega, by go_num, by rw [str_append], by rw [List.length_append]; have := HLX.out; omega, HR.out, HB.out⟩
              case measure => simp [intOf]; omega
            · have hsx : (str (be z 4)).size = 4 := by rw [str_size]; exact be_len _ _
              have HLX : Hid ((be z 4).length ≤ 204) := by show _ ≤ _; rw [be_len]; omega
              go_wp2_with (first
                | (go_at_call 31; refine (Writer.u32 g (g + 1) W z32 _ HR.out hz32 (by omega)).mono ?_; rw [be32]; rintro e w1 ⟨rfl, h1, h2⟩; replace HB := Lib.hid (HB.out.trans (h2.below.mono HG.out)); replace RA := Lib.hid (RA0.out.below HB.out); replace RK := Lib.hid (RK0.out.below HB.out); clear HR; have HR := Lib.hid h1; clear h1 h2; clear hkc hzc; obtain ⟨_, e1, hzc, _⟩ := OpenU.RdU.at RA.out k hlt; cases e1; rw [← HZ.out] at hzc)
                | (go_at_call 30; refine (RefW.number z 4 _ hz64 (by omega)).mono ?_; rintro e w2 ⟨rfl, h1⟩; replace HR := Lib.hid (wr_below HR.out h1); replace HB := Lib.hid (step2 HB.out HB.out.size h1); replace RA := Lib.hid (RA0.out.below HB.out); clear h1 hzc; obtain ⟨_, e1, hzc, _⟩ := OpenU.RdU.at RA.out k hlt; cases e1; rw [← HZ.out] at hzc)
                | (go_at_call 32; refine (Writer.nil_i64 x _).mono ?_; rintro e w3 ⟨rfl, rfl⟩))
              go_roundw
              case rel => exact ⟨k + 1, W ++ (be z 4), by omega, by go_num, by rw [str_append], by rw [List.length_append]; have := HLX.out; omega, HR.out, HB.out⟩
              case measure => simp [intOf]; omega
            · have hsx : (str (be z 8)).size = 8 := by rw [str_size]; exact be_len _ _
              have HLX : Hid ((be z 8).length ≤ 204) := by show _ ≤ _; rw [be_len]; omega
              go_wp2_with (first
                | (clear tg; go_at_call 32; refine (Writer.i64 g (g + 1) W x _ HR.out (by omega)).mono ?_; rw [hxz]; rintro e w1 ⟨rfl, h1, h2⟩; replace HB := Lib.hid (HB.out.trans (h2.below.mono HG.out)); replace RA := Lib.hid (RA0.out.below HB.out); replace RK := Lib.hid (RK0.out.below HB.out); clear HR; have HR := Lib.hid h1; clear h1 h2; clear hkc hzc; obtain ⟨_, e1, hzc, _⟩ := OpenU.RdU.at RA.out k hlt; cases e1; rw [← HZ.out] at hzc)
                | (go_at_call 30; refine (RefW.number z 8 _ hz64 (by omega)).mono ?_; rintro e w2 ⟨rfl, h1⟩; replace HR := Lib.hid (wr_below HR.out h1); replace HB := Lib.hid (step2 HB.out HB.out.size h1); replace RA := Lib.hid (RA0.out.below HB.out); clear h1 hzc; obtain ⟨_, e1, hzc, _⟩ := OpenU.RdU.at RA.out k hlt; cases e1; rw [← HZ.out] at hzc)
                | (go_at_call 32; refine (Writer.nil_i64 x _).mono ?_; rintro e w3 ⟨rfl, rfl⟩))
              go_roundw
              case rel => exact ⟨k + 1, W ++ (be z 8), by omega, by go_num, by rw [str_append], by rw [List.length_append]; have := HLX.out; omega, HR.out, HB.out⟩
              case measure => simp [intOf]; omega
            · have hsx : (str (textB t)).size = 4 + t.length := by rw [str_size]; exact textB_len _
              have HLX : Hid ((textB t).length ≤ 204) := by show _ ≤ _; rw [textB_len]; omega
              go_wp2_with (first
                | (go_at_call 33; refine (Writer.string g (g + 1) W t _ HR.out (by omega) (by omega)).mono ?_; rintro e w1 ⟨rfl, h1, h2⟩; replace HB := Lib.hid (HB.out.trans (h2.below.mono HG.out)); replace RA := Lib.hid (RA0.out.below HB.out); replace RK := Lib.hid (RK0.out.below HB.out); clear HR; have HR := Lib.hid h1; clear h1 h2; clear hkc hzc; obtain ⟨_, e1, hzc, _⟩ := OpenU.RdU.at RA.out k hlt; cases e1; rw [← HZ.out] at hzc)
                | (go_at_call 34; refine (RefW.string t _ (by omega)).mono ?_; rintro e w2 ⟨rfl, h1⟩; replace HR := Lib.hid (wr_below HR.out h1); replace HB := Lib.hid (step2 HB.out HB.out.size h1); replace RA := Lib.hid (RA0.out.below HB.out); clear h1 hzc; obtain ⟨_, e1, hzc, _⟩ := OpenU.RdU.at RA.out k hlt; cases e1; rw [← HZ.out] at hzc)
                | (go_at_call 32; refine (Writer.nil_i64 x _).mono ?_; rintro e w3 ⟨rfl, rfl⟩))
              go_roundw
              case rel => exact ⟨k + 1, W ++ (textB t), by omega, by go_num, by rw [str_append], by rw [List.length_append]; have := HLX.out; omega, HR.out, HB.out⟩
              case measure => simp [intOf]; omega
          · have HWL : Hid (W.length ≤ 140737488351232) := by show _ ≤ _; omega
            have tg : Hid True := trivial
            go_wp2_with (first
              | (go_at_call 33; refine (Writer.nil_string _ _).mono ?_; rintro e w1 ⟨rfl, rfl⟩)
              | (clear tg; go_at_call 35; refine (Writer.bytes g (g + 1) W _ HR.out HWL.out).mono ?_; rintro e w1 ⟨B', c', rfl, h1, h2⟩; replace HB := Lib.hid (step2 HB.out HB.out.size h2); have hcv := run_string (P := Try.prog) (src := 22) (dst := 9) (c := c') Try.underlying22 Try.underlying5 Try.underlying9 (rd_own h1).2.2.2; clear h1 h2)
              | (go_at_call 35; refine (Writer.nil_bytes _).mono ?_; rintro e w1 ⟨rfl, rfl⟩))
            go_ret
            exact ⟨rfl, HB.out⟩
      · have tg : Hid True := trivial
        go_enter Try.func6, Try.ntmps6
        go_wp2_with (first
          | (clear tg; go_at_call 12; refine (Awake.awake _).mono ?_; rintro e w1 ⟨rfl, h1⟩; have HB := Lib.hid h1; clear h1)
          | (go_at_call 12; refine (Awake.awake _).mono ?_; rintro e w1 ⟨rfl, h1⟩; replace HB := Lib.hid (step2 HB.out HB.out.size h1); clear h1))
        go_ret
        exact ⟨rfl, HB.out⟩
    · have tg : Hid True := trivial
      go_enter Try.func6, Try.ntmps6
      go_wp2_with (first
        | (clear tg; go_at_call 12; refine (Awake.awake _).mono ?_; rintro e w1 ⟨rfl, h1⟩; have HB := Lib.hid h1; clear h1)
        | (go_at_call 12; refine (Awake.awake _).mono ?_; rintro e w1 ⟨rfl, h1⟩; replace HB := Lib.hid (step2 HB.out HB.out.size h1); clear h1))
      go_ret
      exact ⟨rfl, HB.out⟩
  · have tg : Hid True := trivial
    go_enter Try.func6, Try.ntmps6
    go_wp2_with (first
      | (clear tg; go_at_call 12; refine (Awake.awake _).mono ?_; rintro e w1 ⟨rfl, h1⟩; have HB := Lib.hid h1; clear h1)
      | (go_at_call 12; refine (Awake.awake _).mono ?_; rintro e w1 ⟨rfl, h1⟩; replace HB := Lib.hid (step2 HB.out HB.out.size h1); clear h1))
    go_ret
    exact ⟨rfl, HB.out⟩
end Go.Proofs.Ytdojhdglbajinaa.PutsWalk
