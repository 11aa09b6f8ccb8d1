/- DERIVED. The walk of ScriptReads. -/
import Derived.Test.YtdojhdglbajinaaScrRefParse
import Derived.Test.YtdojhdglbajinaaScrAwake
import Derived.Test.YtdojhdglbajinaaScrBytesWalk
namespace Go.Proofs.Ytdojhdglbajinaa.ScrReadsWalk
open Go.RowKit Go.Proofs.Ytdojhdglbajinaa.Mem Go.Proofs.Ytdojhdglbajinaa.Writer Go.Proofs.Ytdojhdglbajinaa.Reader Go.Proofs.Ytdojhdglbajinaa.Enc Go.Proofs.Ytdojhdglbajinaa.Plain Go.Proofs.Ytdojhdglbajinaa.ScrOp Go.Proofs.Ytdojhdglbajinaa.ScrEnc Go.Proofs.Ytdojhdglbajinaa.ScrOf Go.Proofs.Ytdojhdglbajinaa.ScrBytesWalk Go.Proofs.Ytdojhdglbajinaa.Reg Go.Proofs.YtdojhdglbajinaaW.PrintLast
set_option linter.unusedVariables false
set_option linter.unusedSimpArgs false

theorem parseN (L : List UInt8) (hn : ∀ os, ¬ Is os L) (hl : L.length ≤ 1000000) (A : Option Addr) (c : Nat) (w : World) (h : Rd w A L) :
    Calls Try.prog 42 #[.slice A L.length c] w fun e w' => ∃ B c', e = .returned (.tuple #[.slice B 0 c', .int .i64 2]) ∧ Below w.heap.size w w' := by
  refine (ScrParse.parse A c L w h hl).mono fun e w' ⟨os', B, c', err, h1, h2, h3, h4⟩ => ?_
  rcases h4 with ⟨hi2, _⟩ | ⟨_, he, ho⟩
  · exact absurd hi2 (hn _)
  · subst he ho
    exact ⟨B, c', h1, h2⟩
theorem rparseE (os : List OpV) (L : List UInt8) (hi : Is os L) (hl : L.length ≤ 1000000) (w : World) :
    Calls Try.prog 45 #[.string (str L)] w fun e w' => ∃ B c', e = .returned (.tuple #[.slice B os.length c', .bool true]) ∧ RdO w' B os ∧ Below w.heap.size w w' := by
  refine (ScrRefParse.parse L w hl).mono fun e w' ⟨os', B, c', ok, h1, h2, h3, h4⟩ => ?_
  rcases h4 with ⟨ho, hi2, hr⟩ | ⟨_, hn⟩
  · obtain rfl := hi2.uniq hi
    subst ho
    exact ⟨B, c', h1, hr, h2⟩
  · exact absurd hi (hn _)
theorem rparseN (L : List UInt8) (hn : ∀ os, ¬ Is os L) (hl : L.length ≤ 1000000) (w : World) :
    Calls Try.prog 45 #[.string (str L)] w fun e w' => ∃ B n c', e = .returned (.tuple #[.slice B n c', .bool false]) ∧ Below w.heap.size w w' := by
  refine (ScrRefParse.parse L w hl).mono fun e w' ⟨os', B, c', ok, h1, h2, h3, h4⟩ => ?_
  rcases h4 with ⟨_, hi2, _⟩ | ⟨ho, _⟩
  · exact absurd hi2 (hn _)
  · subst ho
    exact ⟨B, _, c', h1, h2⟩
set_option maxHeartbeats 2000000 in
set_option maxRecDepth 100000 in
theorem law (A : Option Addr) (c : Nat) (l : List UInt8) (w : World) (ra : Rd w A l) (hz : l.length ≤ 140737488351232) :
    Calls Try.prog 11 #[.slice A l.length c] w fun e w' => e = .returned (.bool true) ∧ Below w.heap.size w w' := by
  have RA := Lib.hid ra
  clear ra
  by_cases hl : l.length ≤ 5000
  · have hlm : l.length ≤ 1000000 := by omega
    have hd : decide (5000 < (l.length : Int)) = false := decide_eq_false (by omega)
    by_cases hI : ∃ os, Is os l
    · obtain ⟨os, hi⟩ := hI
      have HI := Lib.hid hi
      have hln : os.length ≤ 9223372036854775807 := by
        have h1 : os.length ≤ (encOps os).length := by
          clear hi HI RA
          induction os with
          | nil => simp
          | cons o os ih => rw [encOps_cons, List.length_append, List.length_cons]; have := encOp_pos o; omega
        rw [hi.eq] at h1; omega
      clear hi
      go_enter Try.func11, Try.ntmps11
      go_wp2_with (first
        | (go_at_call 36; refine (ScrAwake.awake _).mono ?_; rintro e w1 ⟨rfl, h1⟩; have HB := Lib.hid h1; replace RA := Lib.hid (RA.out.below h1); clear h1)
        | (go_at_call 42; refine (parseE os l HI.out hlm A c _ RA.out).mono ?_; rintro e w4 ⟨B2, c2, rfl, h0, h1⟩; have RM := Lib.hid h0; replace HB := Lib.hid (step2 HB.out HB.out.size h1); replace RA := Lib.hid (RA.out.below h1); have hcv := run_string (P := Try.prog) (src := 22) (dst := 9) (c := c) Try.underlying22 Try.underlying5 Try.underlying9 RA.out; clear h0 h1)
        | (go_at_call 45; refine (rparseE os l HI.out hlm _).mono ?_; rintro e w5 ⟨B3, c3, rfl, h0, h1⟩; have RN := Lib.hid h0; replace RM := Lib.hid (RM.out.below h1); replace HB := Lib.hid (step2 HB.out HB.out.size h1); clear h0 h1 hcv))
      go_loopw [47] (fun i wr => ∃ (k : Nat), k ≤ os.length ∧ i = .int .i64 k ∧ Hid (RdO wr B2 os) ∧ Hid (RdO wr B3 os) ∧ Hid (Below w.heap.size w wr)) (fun i _ => os.length - (intOf i).toNat)
      case atStart => exact ⟨0, Nat.zero_le _, rfl, RM, RN, HB⟩
      case round =>
        clear RM RN HB
        obtain ⟨k, hkk, rfl, RM, RN, HB⟩ := hrel
        by_cases hlt : k < os.length
        · obtain ⟨b, f, rfl, hc1, hw⟩ := RM.out.at k hlt
          obtain ⟨b2, f2, rfl, hc2, -⟩ := RN.out.at k hlt
          obtain ⟨o, ho⟩ : ∃ o, o = os[k] := ⟨_, rfl⟩
          rw [← ho] at hc1 hc2 hw
          clear ho
          have h88 := Lib.hid (opCells_i88 hw)
          have h91 : Hid ((Try.prog.info? 91).map (·.size) = some (opCells o).length) := by show _ = _; rw [opCells_len o hw.r]; exact i91s
          have hr16 := hw.r
          have HC1 := Lib.hid hc1
          have HC2 := Lib.hid hc2
          clear hc1 hc2 hw
          go_wp2
          refine start_ (n := 9) (S := fun w' => Below wr.heap.size wr w') (ds := []) #[false, false, false, false, false, false, false, false, false] (by kernel_rfl) rfl rfl ((Below.refl _ _).drew) (fun hHeld => ?_)
          obtain ⟨wd, hwd⟩ : ∃ wd, wd = World.drew wr := ⟨_, rfl⟩
          rw [← hwd] at hHeld ⊢
          clear hwd
          refine again_ (S' := fun w' => Below wd.heap.size wd w') (Below.refl _ _) (fun w' h => step2 hHeld hHeld.size h) ?_
          replace HC1 := Lib.hid (range_below HC1.out hHeld)
          replace HC2 := Lib.hid (range_below HC2.out hHeld)
          replace RM := Lib.hid (RM.out.below hHeld)
          replace RN := Lib.hid (RN.out.below hHeld)
          replace HB := Lib.hid (HB.out.trans (hHeld.mono HB.out.size))
          clear hHeld
          have hHeld : Below wd.heap.size wd wd := Below.refl _ _
          refine pure_ (i := 0) (N := some 50) (v := ?_) (a' := ?_) #[true, false, false, false, false, false, false, false, false] rfl rfl (by kernel_rfl) (fun _ _ _ h => h) (Or.inl ⟨by rfl, ?_⟩) ?_ ?_
          rotate_left
          · intro w'
            go_simp
            with_reducible rfl
          rotate_left
          · simp only [Act.put, List.setIfInBounds_toArray, List.set_cons_zero, List.set_cons_succ]
            rfl
          refine pure_ (i := 1) (N := some 51) (v := ?_) (a' := ?_) #[true, true, false, false, false, false, false, false, false] rfl rfl (by kernel_rfl) (fun _ _ _ h => h) (Or.inl ⟨by rfl, ?_⟩) ?_ ?_
          rotate_left
          · intro w'
            go_simp
            with_reducible rfl
          rotate_left
          · simp only [Act.put, List.setIfInBounds_toArray, List.set_cons_zero, List.set_cons_succ]
            rfl
          refine pure_ (i := 2) (N := some 52) (v := ?_) (a' := ?_) #[true, true, true, false, false, false, false, false, false] rfl rfl (by kernel_rfl) (fun _ _ _ h => h) (Or.inl ⟨by rfl, ?_⟩) ?_ ?_
          rotate_left
          · intro w'
            go_simp
            with_reducible rfl
          rotate_left
          · simp only [Act.put, List.setIfInBounds_toArray, List.set_cons_zero, List.set_cons_succ]
            rfl
          refine pure_ (i := 4) (N := some 54) (v := ?_) (a' := ?_) #[true, true, true, false, true, false, false, false, false] rfl rfl (by kernel_rfl) (fun _ _ _ h => h) (Or.inl ⟨by rfl, ?_⟩) ?_ ?_
          rotate_left
          · intro w'
            go_simp
            with_reducible rfl
          rotate_left
          · simp only [Act.put, List.setIfInBounds_toArray, List.set_cons_zero, List.set_cons_succ]
            rfl
          refine pure_ (i := 5) (N := some 55) (v := ?_) (a' := ?_) #[true, true, true, false, true, true, false, false, false] rfl rfl (by kernel_rfl) (fun _ _ _ h => h) (Or.inl ⟨by rfl, ?_⟩) ?_ ?_
          rotate_left
          · intro w'
            go_simp
            with_reducible rfl
          rotate_left
          · simp only [Act.put, List.setIfInBounds_toArray, List.set_cons_zero, List.set_cons_succ]
            rfl
          refine pure_ (i := 6) (N := some 56) (v := ?_) (a' := ?_) #[true, true, true, false, true, true, true, false, false] rfl rfl (by kernel_rfl) (fun _ _ _ h => h) (Or.inl ⟨by rfl, ?_⟩) ?_ ?_
          rotate_left
          · intro w'
            go_simp
            with_reducible rfl
          rotate_left
          · simp only [Act.put, List.setIfInBounds_toArray, List.set_cons_zero, List.set_cons_succ]
            rfl
          refine take_ (i := 3) (N := some 53) (v := ?_) (a' := ?_) #[true, true, true, true, true, true, true, false, false] rfl rfl (by kernel_rfl) (fun _ _ _ h => h) (Or.inl ⟨by rfl, ?_⟩) hHeld ?_ ?_
          rotate_left
          · intro w' s0
            refine Eq.trans (ScrEq.run_load_mid 88 (.tmp 52) rfl b (f + k * 27) (by go_simp) (opCells o) _ (range_below HC1.out s0) Try.underlying88 rfl h88.out) ?_
            with_reducible rfl
          rotate_left
          · simp only [Act.put, List.setIfInBounds_toArray, List.set_cons_zero, List.set_cons_succ]
            rfl
          refine take_ (i := 7) (N := some 57) (v := ?_) (a' := ?_) #[true, true, true, true, true, true, true, true, false] rfl rfl (by kernel_rfl) (fun _ _ _ h => h) (Or.inl ⟨by rfl, ?_⟩) hHeld ?_ ?_
          rotate_left
          · intro w' s0
            refine Eq.trans (ScrEq.run_load_mid 91 (.tmp 56) rfl b2 (f2 + k * 27) (by go_simp) (opCells o) _ (range_below HC2.out s0) Try.underlying91 rfl h91.out) ?_
            with_reducible rfl
          rotate_left
          · simp only [Act.put, List.setIfInBounds_toArray, List.set_cons_zero, List.set_cons_succ]
            rfl
          refine pure_ (i := 8) (N := some 58) (v := ?_) (a' := ?_) #[true, true, true, true, true, true, true, true, true] rfl rfl (by kernel_rfl) (fun _ _ _ h => h) (Or.inl ⟨by rfl, ?_⟩) ?_ ?_
          rotate_left
          · intro w'
            refine Eq.trans (ScrEq.run_neq 91 (.tmp 53) (.tmp 57) rfl ScrEq.g91 (opCells o).toArray (ScrEq.eq91 o hr16) (by go_simp) (by go_simp)) ?_
            with_reducible rfl
          rotate_left
          · simp only [Act.put, List.setIfInBounds_toArray, List.set_cons_zero, List.set_cons_succ]
            rfl
          refine done_ (by kernel_rfl) ?_
          go_wp2
          go_roundw
          case rel => exact ⟨k + 1, by omega, by go_num, RM, RN, HB⟩
          case measure => simp [intOf]; omega
        · go_wp2
          go_ret
          exact ⟨rfl, HB.out⟩
    · have HN : Hid (∀ os, ¬ Is os l) := fun os hi => hI ⟨os, hi⟩
      clear hI
      go_enter Try.func11, Try.ntmps11
      go_wp2_with (first
        | (go_at_call 36; refine (ScrAwake.awake _).mono ?_; rintro e w1 ⟨rfl, h1⟩; have HB := Lib.hid h1; replace RA := Lib.hid (RA.out.below h1); clear h1)
        | (go_at_call 42; refine (parseN l HN.out hlm A c _ RA.out).mono ?_; rintro e w4 ⟨B2, c2, rfl, h1⟩; replace HB := Lib.hid (step2 HB.out HB.out.size h1); replace RA := Lib.hid (RA.out.below h1); have hcv := run_string (P := Try.prog) (src := 22) (dst := 9) (c := c) Try.underlying22 Try.underlying5 Try.underlying9 RA.out; clear h1)
        | (go_at_call 45; refine (rparseN l HN.out hlm _).mono ?_; rintro e w5 ⟨B3, n3, c3, rfl, h1⟩; replace HB := Lib.hid (step2 HB.out HB.out.size h1); clear h1 hcv))
      go_ret
      exact ⟨rfl, HB.out⟩
  · have hd : decide (5000 < (l.length : Int)) = true := decide_eq_true (by omega)
    have tg : Hid True := trivial
    go_enter Try.func11, Try.ntmps11
    go_wp2_with (first
      | (clear tg; go_at_call 36; refine (ScrAwake.awake _).mono ?_; rintro e w1 ⟨rfl, h1⟩; have HB := Lib.hid h1; clear h1)
      | (go_at_call 36; refine (ScrAwake.awake _).mono ?_; rintro e w1 ⟨rfl, h1⟩; replace HB := Lib.hid (step2 HB.out HB.out.size h1); clear h1))
    go_ret
    exact ⟨rfl, HB.out⟩
end Go.Proofs.Ytdojhdglbajinaa.ScrReadsWalk
