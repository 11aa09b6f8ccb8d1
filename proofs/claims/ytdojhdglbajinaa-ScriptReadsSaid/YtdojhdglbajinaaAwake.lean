/- DERIVED. carryalllaw25.awake. -/
import Derived.Test.YtdojhdglbajinaaPlain
namespace Go.Proofs.Ytdojhdglbajinaa.Awake
open Go.RowKit Go.Proofs.Ytdojhdglbajinaa.Mem Go.Proofs.Ytdojhdglbajinaa.Writer Go.Proofs.Ytdojhdglbajinaa.Reader Go.Proofs.Ytdojhdglbajinaa.Enc Go.Proofs.Ytdojhdglbajinaa.Dec Go.Proofs.Ytdojhdglbajinaa.Plain
set_option linter.unusedVariables false
set_option linter.unusedSimpArgs false

def a5 : Ans := ⟨5, 0, 0, 0, [], []⟩
theorem len5 : (enc a5).length = 29 := by rw [enc_len]; rfl
theorem len0 : (enc zeroAns).length = 29 := by rw [enc_len]; rfl
theorem res5 : resAns (enc a5) = a5 ∧ errAns (enc a5) = 0 := by
  obtain ⟨h1, h2, h3⟩ := rd_enc a5 [] (by decide) (by decide) (by decide) (by decide) (by decide) (by decide)
  have h4 := ok_enc a5 [] (by decide) (by decide) (by decide) (by decide) (by decide) (by decide)
  rw [List.append_nil] at h1 h4
  unfold resAns errAns
  rw [h4, h1]
  exact ⟨rfl, rfl⟩
theorem enc5 (w : World) : Calls Try.prog 14 #[.agg #[.int .i64 5, .int .i64 0, .int .i64 0, .int .i64 0, .string { data := #[] }, .slice none 0 0]] w fun e w' => ∃ B c', e = .returned (.slice B 29 c') ∧ Rd w' B (enc a5) ∧ Below w.heap.size w w' :=
  (Enc.encode a5 none 0 w (Rd.nil _ _) (by decide) (by decide)).mono fun e w' ⟨B, c', h1, h2, h3⟩ => ⟨B, c', by rw [h1, len5], (rd_own h2).2.2.2, h3⟩
theorem enc0 (w : World) : Calls Try.prog 14 #[.agg #[.int .i64 0, .int .i64 0, .int .i64 0, .int .i64 0, .string { data := #[] }, .slice none 0 0]] w fun e w' => ∃ B c', e = .returned (.slice B 29 c') ∧ Below w.heap.size w w' :=
  (Enc.encode zeroAns none 0 w (Rd.nil _ _) (by decide) (by decide)).mono fun e w' ⟨B, c', h1, h2, h3⟩ => ⟨B, c', by rw [h1, len0], h3⟩
theorem dec5 (A : Option Addr) (c : Nat) (w : World) (h : Rd w A (enc a5)) : Calls Try.prog 15 #[.slice A 29 c] w fun e w' => ∃ B c', e = .returned (.tuple #[.agg #[.int .i64 5, .int .i64 0, .int .i64 0, .int .i64 0, .string { data := #[] }, .slice B 0 c'], .int .i64 0]) ∧ Below w.heap.size w w' := by
  have := Dec.decode A c (enc a5) w h (by rw [len5]; decide)
  rw [len5, res5.1, res5.2] at this
  exact this.mono fun e w' ⟨B, c', h1, h2, h3⟩ => ⟨B, c', h1, h3⟩
theorem same5 (A B : Option Addr) (c d : Nat) (w : World) : Calls Try.prog 18 #[.agg #[.int .i64 5, .int .i64 0, .int .i64 0, .int .i64 0, .string { data := #[] }, .slice A 0 c], .agg #[.int .i64 5, .int .i64 0, .int .i64 0, .int .i64 0, .string { data := #[] }, .slice B 0 d]] w fun e w' => e = .returned (.bool true) ∧ Below w.heap.size w w' := by
  have := Same.sameC a5 a5 A B c d w (Rd.nil _ _) (Rd.nil _ _) (by decide) (by decide)
  rw [Same.same_refl] at this
  exact this
theorem box_fact {w w' : World} {X : Obj} (h : Below (w.alloc X).heap.size (w.alloc X) w') : w'.heap[w.heap.size]? = some X := by
  rw [h.block _ (by simp)]
  show (w.heap.push _)[w.heap.size]? = _
  rw [Array.getElem?_push, if_pos rfl]
set_option maxHeartbeats 4000000 in
set_option maxRecDepth 100000 in
theorem awake (w : World) : Calls Try.prog 12 #[] w fun e w' => e = .returned (.bool true) ∧ Below w.heap.size w w' := by
  have t1 : Hid True := trivial
  go_enter Try.func12, Try.ntmps12
  go_wp2_with (first
    | (clear t1; go_at_call 14; refine (enc5 _).mono ?_; rintro e w1 ⟨B, c', rfl, h1, h2⟩; have H1 := Lib.hid h1; have HB := Lib.hid h2; clear h1 h2)
    | (go_at_call 15; refine (dec5 _ _ _ H1.out).mono ?_; rintro e w2 ⟨B2, c2, rfl, h3⟩; replace HB := Lib.hid (step2 HB.out HB.out.size h3); clear h3)
    | (go_at_call 14; refine (enc0 _).mono ?_; rintro e w3 ⟨B3, c3, rfl, h4⟩; obtain ⟨p0, p1, p2, p3, p4, p5⟩ := Dec.pfacts (box_fact h4); replace HB := Lib.hid (step2 (HB.out.alloc HB.out.size _) (HB.out.alloc HB.out.size _).size h4); clear h4)
    | (go_at_call 18; refine (same5 _ _ _ _ _).mono ?_; rintro e w4 ⟨rfl, h5⟩; replace HB := Lib.hid (step2 HB.out HB.out.size h5); clear h5))
  go_ret
  exact ⟨rfl, HB.out⟩
end Go.Proofs.Ytdojhdglbajinaa.Awake
