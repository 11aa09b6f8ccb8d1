/- DERIVED. carryalllaw28.awake. -/
import Derived.Test.YtdojhdglbajinaaScrParse
namespace Go.Proofs.Ytdojhdglbajinaa.ScrAwake
open Go.RowKit Go.Proofs.Ytdojhdglbajinaa.Mem Go.Proofs.Ytdojhdglbajinaa.Writer Go.Proofs.Ytdojhdglbajinaa.Reader Go.Proofs.Ytdojhdglbajinaa.Enc Go.Proofs.Ytdojhdglbajinaa.Plain Go.Proofs.Ytdojhdglbajinaa.ScrOp Go.Proofs.Ytdojhdglbajinaa.ScrEnc Go.Proofs.Ytdojhdglbajinaa.ScrTake Go.Proofs.Ytdojhdglbajinaa.ScrParse
set_option linter.unusedVariables false
set_option linter.unusedSimpArgs false

def op3 : OpV := ⟨3, 0, 0, 0, 0, [], [], [], [], 0, 0, List.replicate 16 0⟩
theorem i64z : I64 0 := by unfold I64; omega
theorem wf3 : op3.Wf := ⟨by decide, by decide, i64z, i64z, i64z, i64z, i64z, by decide, by decide, by decide, by decide, by decide⟩
theorem len3 : (encOps [op3]).length = 74 := by
  rw [encOps_cons, encOps_nil, List.append_nil, encOp_len op3 (by decide)]; rfl
theorem built3 : Try.prog.built 88 [(0, .int .u8 3)] = some (opCells op3).toArray := by kernel_rfl
theorem is3 : Is [op3] (encOps [op3]) := ⟨fun o ho => by simp at ho; subst ho; exact wf3, fun o ho => by simp at ho; subst ho; exact ⟨by decide, by decide, by decide, by decide⟩, rfl⟩
theorem rdO3 (w : World) : RdO (w.alloc (.cells (opCells op3).toArray 88)) (some ⟨w.heap.size, 0, none⟩) [op3] := by
  refine ⟨by decide, fun o ho => by simp at ho; subst ho; exact wf3, fun _ => ⟨_, _, rfl, fun j o hj i v hv => ?_⟩⟩
  match j, hj with
  | 0, hj =>
    simp at hj; subst hj
    have := cells_new w (opCells op3) 88 i v hv
    rw [Addr.add_mid] at this
    simpa using this
  | j + 1, hj => simp at hj
theorem enc3 (w : World) : Calls Try.prog 38 #[.slice (some ⟨w.heap.size, 0, none⟩) 1 1] (w.alloc (.cells (opCells op3).toArray 88)) fun e w' => ∃ B c', e = .returned (.slice B 74 c') ∧ Rd w' B (encOps [op3]) ∧ Below w.heap.size w w' := by
  have := ScrEnc.encode (some ⟨w.heap.size, 0, none⟩) 1 [op3] _ (rdO3 w) (by decide) (fun o ho => by simp at ho; subst ho; decide)
  rw [len3] at this
  exact this.mono fun e w' ⟨B, c', h1, h2, h3⟩ => ⟨B, c', h1, (rd_own h2).2.2.2, (below1 w _).trans (h3.mono (by simp))⟩
theorem parse3 (A : Option Addr) (c : Nat) (w : World) (h : Rd w A (encOps [op3])) : Calls Try.prog 42 #[.slice A 74 c] w fun e w' => ∃ (b f : Nat) (c' : Nat), e = .returned (.tuple #[.slice (some ⟨b, f, none⟩) 1 c', .int .i64 0]) ∧ w'.cell? ⟨b, f, none⟩ = some (.int .u8 3) ∧ Below w.heap.size w w' := by
  have := ScrParse.parse A c (encOps [op3]) w h (by rw [len3]; decide)
  rw [len3] at this
  refine this.mono fun e w' ⟨os, B, c', err, h1, h2, h3, h4⟩ => ?_
  rcases h4 with ⟨hi, he, hr⟩ | ⟨hn, _⟩
  · obtain rfl := hi.uniq is3
    subst he
    obtain ⟨b, f, rfl, hc⟩ := hr.at' (by decide)
    have hcell := (range_cells (hc 0 op3 rfl)).1
    rw [Nat.zero_mul, Nat.add_zero] at hcell
    exact ⟨b, f, c', h1, hcell, h2⟩
  · exact absurd is3 (hn _)
set_option maxHeartbeats 1000000 in
set_option maxRecDepth 100000 in
theorem awake (w : World) : Calls Try.prog 36 #[] w fun e w' => e = .returned (.bool true) ∧ Below w.heap.size w w' := by
  obtain ⟨i0, hi0, hz0, hz1, hz2⟩ := info_parts z88
  have HI := Lib.hid hi0
  have HZ0 := Lib.hid hz0
  clear hi0 hz0
  go_enter Try.func36, Try.ntmps36
  go_wp2_with (first
    | ((with_reducible refine wpList_built rfl 88 #[(0, .const (.int .u8 3))] rfl _ ?hv _ built3 ?_); (case hv => rfl))
    | ((with_reducible refine wpList_slice_one rfl 67 (.tmp 4) rfl 88 Try.underlying67 HI.out HZ0.out hz1 (by decide) (by decide) (opCells op3).toArray ?hx ?hs ?_); (case hx => rfl); (case hs => rfl))
    | (go_at_call 38; refine (enc3 _).mono ?_; rintro e w1 ⟨B, c', rfl, h1, h2⟩; have H1 := Lib.hid h1; have HB := Lib.hid h2; clear h1 h2)
    | (go_at_call 42; refine (parse3 _ _ _ H1.out).mono ?_; rintro e w2 ⟨b, f, c2, rfl, hc, h3⟩; replace HB := Lib.hid (step2 HB.out HB.out.size h3); clear h3))
  go_ret
  exact ⟨rfl, HB.out⟩
end Go.Proofs.Ytdojhdglbajinaa.ScrAwake
