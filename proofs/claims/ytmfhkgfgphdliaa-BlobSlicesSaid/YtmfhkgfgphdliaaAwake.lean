/- DERIVED. The law's own awake answers true. -/
import Derived.Test.YtmfhkgfgphdliaaFns
namespace Go.Proofs.Ytmfhkgfgphdliaa.Awake
open Go.RowKit Go.Proofs.Ytmfhkgfgphdliaa.Mem Go.Proofs.Ytmfhkgfgphdliaa.Fns
set_option linter.unusedVariables false
set_option linter.unusedSimpArgs false

def lit4 : List UInt8 := [97, 98, 99, 100]
def cells4 : Array Value := #[.int .u8 97, .int .u8 98, .int .u8 99, .int .u8 100]
theorem rd_lit (W : World) (n : Nat) (hn : n = W.heap.size) : Rd (W.alloc (.cells cells4 5 (4, 5))) (some ⟨n, 0, none⟩) lit4 := by
  subst hn
  refine ⟨by simp [lit4], fun _ => ⟨_, rfl, fun j u hj => ?_⟩⟩
  rw [Addr.add_lit, Nat.zero_add, World.cell?_alloc_mark]
  match j, hj with
  | 0, hj => simp [lit4] at hj; subst hj; rfl
  | 1, hj => simp [lit4] at hj; subst hj; rfl
  | 2, hj => simp [lit4] at hj; subst hj; rfl
  | 3, hj => simp [lit4] at hj; subst hj; rfl
  | j + 4, hj => simp [lit4] at hj
theorem part4 : portion lit4 (some (-2)) none = [99, 100] := by decide
theorem kind4 : kindS ⟨#[84, 101, 120, 116, 47, 88]⟩ = ⟨#[116, 101, 120, 116, 47, 120]⟩ := by decide

set_option maxHeartbeats 1000000 in
theorem awake (w : World) : Calls Try.prog 8 #[] w fun e w' => e = .returned (.bool true) ∧ Below w.heap.size w w' := by
  have kc := fun (W : World) => Joins.run_convert_bytes_const_at (P := Try.prog) (W.alloc (.cells #[.int .i64 (-2)] 2)) 22 5 cells4 4 4 (W.heap.size + 1) (by simp) Try.underlying22 Try.underlying5
  unfold cells4 at kc
  have h1 : IsPlace ((w.alloc (.cells #[.int .i64 (-2)] 2)).alloc (.cells cells4 5 (4, 5))) (some ⟨w.heap.size, 0, none⟩) (some (-2)) :=
    Or.inr ⟨_, _, rfl, rfl, by simp [World.cell?_alloc_past, World.cell?_alloc_new], by decide, by decide⟩
  have h2 := rd_lit (w.alloc (.cells #[.int .i64 (-2)] 2)) (w.heap.size + 1) (by simp)
  have h3 : Below w.heap.size w ((w.alloc (.cells #[.int .i64 (-2)] 2)).alloc (.cells cells4 5 (4, 5))) := ((Below.refl _ _).alloc (Nat.le_refl _) _).alloc (by simp) _
  obtain ⟨W, hW⟩ : ∃ W, W = (w.alloc (.cells #[.int .i64 (-2)] 2)).alloc (.cells cells4 5 (4, 5)) := ⟨_, rfl⟩
  rw [← hW] at h1 h2 h3
  have HW := Lib.hid hW
  have H1 := Lib.hid h1
  have H2 := Lib.hid h2
  have H3 := Lib.hid h3
  clear h1 h2 h3 hW
  go_enter Try.func8, Try.ntmps8
  go_wp2_with fail
  change Calls Try.prog 9 #[.slice (some ⟨w.heap.size + 1, 0, none⟩) lit4.length 4, .string ⟨#[84, 101, 120, 116, 47, 88]⟩] ((w.alloc (.cells #[.int .i64 (-2)] 2)).alloc (.cells cells4 5 (4, 5))) _
  rw [← HW.out]
  clear kc HW
  refine (new _ 4 lit4 _ W H2.out (by decide) (by decide)).mono ?_
  rintro e w1 ⟨g, rfl, hb, hbl⟩
  have HP := Lib.hid (H1.out.below hbl)
  have HB := Lib.hid hb
  have HBL := Lib.hid (step2 H3.out H3.out.size hbl)
  clear hb hbl H1 H2 H3
  go_wp2_with fail
  refine (slice w1 HB.out (by decide) _ _ (some (-2)) none HP.out (Or.inl ⟨rfl, rfl⟩) _ (by decide)).mono ?_
  rintro e w2 ⟨g2, rfl, hb2, hbl2⟩
  rw [part4] at hb2
  have HB2 := Lib.hid hb2
  have HBL2 := Lib.hid (step2 HBL.out HBL.out.size hbl2)
  clear hb2 hbl2 HB HBL HP
  go_wp2_with fail
  refine (Fns.bytes w2 HB2.out (by decide)).mono ?_
  rintro e w3 ⟨A, c, rfl, hown, hbl3⟩
  have hcv : (convert 22 9 (.slice A 2 c)).run Try.prog w3 = .ok (.string ⟨#[99, 100]⟩) w3 := run_string (P := Try.prog) (src := 22) (dst := 9) (c := c) Try.underlying22 Try.underlying5 Try.underlying9 (rd_own hown).2.2.2
  have HBL3 := Lib.hid (step2 HBL2.out HBL2.out.size hbl3)
  clear hown hbl3 HB2 HBL2
  go_wp2_with fail
  refine (kindF ⟨#[84, 101, 120, 116, 47, 88]⟩ w3 (by decide)).mono ?_
  rintro e w4 ⟨rfl, hbl4⟩
  have HBL4 := Lib.hid (step2 HBL3.out HBL3.out.size hbl4)
  clear hbl4 HBL3 hcv
  rw [kind4]
  go_wp2_with fail
  go_ret
  exact ⟨rfl, HBL4.out⟩
end Go.Proofs.Ytmfhkgfgphdliaa.Awake
