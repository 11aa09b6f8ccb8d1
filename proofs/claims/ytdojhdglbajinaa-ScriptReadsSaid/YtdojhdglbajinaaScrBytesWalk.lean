/- DERIVED. The walk of ScriptBytes. -/
import Derived.Test.YtdojhdglbajinaaScrRefEnc
import Derived.Test.YtdojhdglbajinaaScrEq
import Derived.Test.YtdojhdglbajinaaScrPartsWalk
namespace Go.Proofs.Ytdojhdglbajinaa.ScrBytesWalk
open Go.RowKit Go.Proofs.Ytdojhdglbajinaa.Mem Go.Proofs.Ytdojhdglbajinaa.Writer Go.Proofs.Ytdojhdglbajinaa.Reader Go.Proofs.Ytdojhdglbajinaa.Enc Go.Proofs.Ytdojhdglbajinaa.Plain Go.Proofs.Ytdojhdglbajinaa.ScrOp Go.Proofs.Ytdojhdglbajinaa.ScrEnc Go.Proofs.Ytdojhdglbajinaa.ScrFew Go.Proofs.Ytdojhdglbajinaa.ScrPartsWalk Go.Proofs.Ytdojhdglbajinaa.Reg Go.Proofs.YtdojhdglbajinaaW.PrintLast
set_option linter.unusedVariables false
set_option linter.unusedSimpArgs false

theorem encE (os : List OpV) (L : List UInt8) (hL : encOps os = L) (A : Option Addr) (c : Nat) (w : World) (h : RdO w A os) (hn : os.length ≤ 30) (ht : ∀ o ∈ os, texts o ≤ 1000) :
    Calls Try.prog 38 #[.slice A os.length c] w fun e w' => ∃ B c', e = .returned (.slice B L.length c') ∧ Rd w' B L ∧ Below w.heap.size w w' := by
  subst hL
  exact (ScrEnc.encode A c os w h hn ht).mono fun e w' ⟨B, c', h1, h2, h3⟩ => ⟨B, c', h1, (rd_own h2).2.2.2, h3⟩
theorem rencE (os : List OpV) (L : List UInt8) (hL : encOps os = L) (A : Option Addr) (c : Nat) (w : World) (h : RdO w A os) (hn : os.length ≤ 30) (ht : ∀ o ∈ os, texts o ≤ 1000) :
    Calls Try.prog 43 #[.slice A os.length c] w fun e w' => e = .returned (.string (str L)) ∧ Below w.heap.size w w' := by
  subst hL
  exact ScrRefEnc.encode A c os w h hn ht
theorem parseE (os : List OpV) (L : List UInt8) (hi : Is os L) (hl : L.length ≤ 1000000) (A : Option Addr) (c : Nat) (w : World) (h : Rd w A L) :
    Calls Try.prog 42 #[.slice A L.length c] w fun e w' => ∃ B c', e = .returned (.tuple #[.slice B os.length c', .int .i64 0]) ∧ RdO w' B os ∧ Below w.heap.size w w' := by
  refine (ScrParse.parse A c L w h hl).mono fun e w' ⟨os', B, c', err, h1, h2, h3, h4⟩ => ?_
  rcases h4 with ⟨hi2, he, hr⟩ | ⟨hn, _⟩
  · obtain rfl := hi2.uniq hi
    subst he
    exact ⟨B, c', h1, hr, h2⟩
  · exact absurd hi (hn _)
set_option maxHeartbeats 2000000 in
set_option maxRecDepth 100000 in
theorem law (A : Option Addr) (c : Nat) (os : List OpV) (w : World) (ra : RdO w A os) :
    Calls Try.prog 10 #[.slice A os.length c] w fun e w' => e = .returned (.bool true) ∧ Below w.heap.size w w' := by
  have RA := Lib.hid ra
  have hln := ra.len
  by_cases hf : fewB os = true
  · obtain ⟨hl30, ht⟩ := (fewB_iff os).1 hf
    have HT := Lib.hid ht
    have hf' := hf
    have hle := encOps_len os ra.wf ht
    obtain ⟨L, hL⟩ : ∃ L, encOps os = L := ⟨_, rfl⟩
    have HI : Hid (Is os L) := ⟨ra.wf, fun o ho => short_of (ht o ho) (by omega), hL⟩
    rw [hL] at hle
    have hlm : L.length ≤ 1000000 := by omega
    have HL := Lib.hid hL
    have hsz := str_size L
    clear ra ht hL hle
    go_enter Try.func10, Try.ntmps10
    go_wp2_with (first
      | (go_at_call 36; refine (ScrAwake.awake _).mono ?_; rintro e w1 ⟨rfl, h1⟩; have HB := Lib.hid h1; replace RA := Lib.hid (RA.out.below h1); clear h1)
      | (go_at_call 37; refine (ScrFew.few A c os _ RA.out).mono ?_; rw [hf']; rintro e w2 ⟨rfl, h1⟩; replace HB := Lib.hid (step2 HB.out HB.out.size h1); replace RA := Lib.hid (RA.out.below h1); clear h1)
      | (go_at_call 38; refine (encE os L HL.out A c _ RA.out hl30 HT.out).mono ?_; rintro e w3 ⟨B1, c1, rfl, h0, h1⟩; have RE := Lib.hid h0; replace HB := Lib.hid (step2 HB.out HB.out.size h1); replace RA := Lib.hid (RA.out.below h1); clear h0 h1)
      | (go_at_call 42; refine (parseE os L HI.out hlm B1 c1 _ RE.out).mono ?_; rintro e w4 ⟨B2, c2, rfl, h0, h1⟩; have RM := Lib.hid h0; replace RE := Lib.hid (RE.out.below h1); replace HB := Lib.hid (step2 HB.out HB.out.size h1); replace RA := Lib.hid (RA.out.below h1); clear h0 h1))
    refine start_ (n := 17) (S := fun w' => Below w4.heap.size w4 w') (ds := []) #[false, false, false, false, false, false, false, false, false, false, false, false, false, false, false, false, false] (by kernel_rfl) rfl rfl ((Below.refl _ _).drew) (fun hHeld => ?_)
    obtain ⟨wd, hwd⟩ : ∃ wd, wd = World.drew w4 := ⟨_, rfl⟩
    rw [← hwd] at hHeld ⊢
    clear hwd
    refine again_ (S' := fun w' => Below wd.heap.size wd w') (Below.refl _ _) (fun w' h => step2 hHeld hHeld.size h) ?_
    replace RA := Lib.hid (RA.out.below hHeld)
    replace RE := Lib.hid (RE.out.below hHeld)
    replace RM := Lib.hid (RM.out.below hHeld)
    replace HB := Lib.hid (HB.out.trans (hHeld.mono HB.out.size))
    clear hHeld
    have hHeld : Below wd.heap.size wd wd := Below.refl _ _
    refine pure_ (i := 0) (N := some 22) (v := ?_) (a' := ?_) #[true, false, false, false, false, false, false, false, false, false, false, false, false, false, false, false, false] rfl rfl (by kernel_rfl) (fun _ _ _ h => h) (Or.inl ⟨by rfl, ?_⟩) ?_ ?_
    rotate_left
    · intro w'
      go_simp
      with_reducible rfl
    rotate_left
    · simp only [Act.put, List.setIfInBounds_toArray, List.set_cons_zero, List.set_cons_succ]
      rfl
    refine pure_ (i := 2) (N := some 24) (v := ?_) (a' := ?_) #[true, false, true, false, false, false, false, false, false, false, false, false, false, false, false, false, false] rfl rfl (by kernel_rfl) (fun _ _ _ h => h) (Or.inl ⟨by rfl, ?_⟩) ?_ ?_
    rotate_left
    · intro w'
      go_simp
      with_reducible rfl
    rotate_left
    · simp only [Act.put, List.setIfInBounds_toArray, List.set_cons_zero, List.set_cons_succ]
      rfl
    refine take_ (i := 1) (N := some 23) (v := ?_) (a' := ?_) #[true, true, true, false, false, false, false, false, false, false, false, false, false, false, false, false, false] rfl rfl (by kernel_rfl) (fun _ _ _ h => h) (Or.inl ⟨by rfl, ?_⟩) hHeld ?_ ?_
    rotate_left
    · intro w' s0
      have e0 := run_string (P := Try.prog) (src := 22) (dst := 9) (c := c1) Try.underlying22 Try.underlying5 Try.underlying9 (RE.out.below s0)
      go_simp
      with_reducible rfl
    rotate_left
    · simp only [Act.put, List.setIfInBounds_toArray, List.set_cons_zero, List.set_cons_succ]
      rfl
    refine one_ (i := 3) (N := some 25) #[true, true, true, true, false, false, false, false, false, false, false, false, false, false, false, false, false] rfl rfl (by kernel_rfl) (by decide) (fun K hK => ?_)
    refine goes_ Try.func44 (by kernel_rfl) rfl #[.slice A os.length c] (by rfl) rfl rfl (by first | rfl | (simp only [List.map_toArray, List.map_cons, List.map_nil]; rfl)) ?_
    refine (ScrOf.ofOps A c os _ (RA.out.below hHeld) (by omega)).mono ?_
    rintro e w3 ⟨B3, c3, rfl, h0, hb⟩
    refine ⟨_, rfl, ?_⟩
    refine hK.out _ _ (step2 hHeld hHeld.size hb) (fun hHeld' => ?_)
    clear hK K hHeld'
    refine norm_ (a' := ?_) ?_ ?_
    rotate_left
    · show Act.put _ (some 25) _ = _
      simp only [Act.put, List.setIfInBounds_toArray, List.set_cons_zero, List.set_cons_succ]
      rfl
    replace hHeld := step2 hHeld hHeld.size hb
    have RO := Lib.hid h0
    clear h0
    clear hb
    refine one_ (i := 4) (N := some 26) #[true, true, true, true, true, false, false, false, false, false, false, false, false, false, false, false, false] rfl rfl (by kernel_rfl) (by decide) (fun K hK => ?_)
    refine goes_ Try.func43 (by kernel_rfl) rfl #[.slice B3 os.length c3] (by rfl) rfl rfl (by first | rfl | (simp only [List.map_toArray, List.map_cons, List.map_nil]; rfl)) ?_
    refine (rencE os L HL.out B3 c3 _ RO.out hl30 HT.out).mono ?_
    rintro e w3 ⟨rfl, hb⟩
    refine ⟨_, rfl, ?_⟩
    refine hK.out _ _ (step2 hHeld hHeld.size hb) (fun hHeld' => ?_)
    clear hK K hHeld'
    refine norm_ (a' := ?_) ?_ ?_
    rotate_left
    · show Act.put _ (some 26) _ = _
      simp only [Act.put, List.setIfInBounds_toArray, List.set_cons_zero, List.set_cons_succ]
      rfl
    replace hHeld := step2 hHeld hHeld.size hb
    clear RO
    clear hb
    refine pure_ (i := 5) (N := some 27) (v := ?_) (a' := ?_) #[true, true, true, true, true, true, false, false, false, false, false, false, false, false, false, false, false] rfl rfl (by kernel_rfl) (fun _ _ _ h => h) (Or.inl ⟨by rfl, ?_⟩) ?_ ?_
    rotate_left
    · intro w'
      go_simp
      with_reducible rfl
    rotate_left
    · simp only [Act.put, List.setIfInBounds_toArray, List.set_cons_zero, List.set_cons_succ]
      rfl
    refine pure_ (i := 6) (N := some 28) (v := ?_) (a' := ?_) #[true, true, true, true, true, true, true, false, false, false, false, false, false, false, false, false, false] rfl rfl (by kernel_rfl) (fun _ _ _ h => h) (Or.inl ⟨by rfl, ?_⟩) ?_ ?_
    rotate_left
    · intro w'
      go_simp
      with_reducible rfl
    rotate_left
    · simp only [Act.put, List.setIfInBounds_toArray, List.set_cons_zero, List.set_cons_succ]
      rfl
    refine pure_ (i := 7) (N := some 29) (v := ?_) (a' := ?_) #[true, true, true, true, true, true, true, true, false, false, false, false, false, false, false, false, false] rfl rfl (by kernel_rfl) (fun _ _ _ h => h) (Or.inl ⟨by rfl, ?_⟩) ?_ ?_
    rotate_left
    · intro w'
      go_simp
      with_reducible rfl
    rotate_left
    · simp only [Act.put, List.setIfInBounds_toArray, List.set_cons_zero, List.set_cons_succ]
      rfl
    refine pure_ (i := 8) (N := some 30) (v := ?_) (a' := ?_) #[true, true, true, true, true, true, true, true, true, false, false, false, false, false, false, false, false] rfl rfl (by kernel_rfl) (fun _ _ _ h => h) (Or.inl ⟨by rfl, ?_⟩) ?_ ?_
    rotate_left
    · intro w'
      go_simp
      with_reducible rfl
    rotate_left
    · simp only [Act.put, List.setIfInBounds_toArray, List.set_cons_zero, List.set_cons_succ]
      rfl
    refine pure_ (i := 9) (N := some 31) (v := ?_) (a' := ?_) #[true, true, true, true, true, true, true, true, true, true, false, false, false, false, false, false, false] rfl rfl (by kernel_rfl) (fun _ _ _ h => h) (Or.inl ⟨by rfl, ?_⟩) ?_ ?_
    rotate_left
    · intro w'
      go_simp
      with_reducible rfl
    rotate_left
    · simp only [Act.put, List.setIfInBounds_toArray, List.set_cons_zero, List.set_cons_succ]
      rfl
    refine pure_ (i := 10) (N := some 32) (v := ?_) (a' := ?_) #[true, true, true, true, true, true, true, true, true, true, true, false, false, false, false, false, false] rfl rfl (by kernel_rfl) (fun _ _ _ h => h) (Or.inl ⟨by rfl, ?_⟩) ?_ ?_
    rotate_left
    · intro w'
      go_simp
      with_reducible rfl
    rotate_left
    · simp only [Act.put, List.setIfInBounds_toArray, List.set_cons_zero, List.set_cons_succ]
      rfl
    refine pure_ (i := 11) (N := some 33) (v := ?_) (a' := ?_) #[true, true, true, true, true, true, true, true, true, true, true, true, false, false, false, false, false] rfl rfl (by kernel_rfl) (fun _ _ _ h => h) (Or.inl ⟨by rfl, ?_⟩) ?_ ?_
    rotate_left
    · intro w'
      go_simp
      with_reducible rfl
    rotate_left
    · simp only [Act.put, List.setIfInBounds_toArray, List.set_cons_zero, List.set_cons_succ]
      rfl
    refine pure_ (i := 12) (N := some 34) (v := ?_) (a' := ?_) #[true, true, true, true, true, true, true, true, true, true, true, true, true, false, false, false, false] rfl rfl (by kernel_rfl) (fun _ _ _ h => h) (Or.inl ⟨by rfl, ?_⟩) ?_ ?_
    rotate_left
    · intro w'
      go_simp
      with_reducible rfl
    rotate_left
    · simp only [Act.put, List.setIfInBounds_toArray, List.set_cons_zero, List.set_cons_succ]
      rfl
    refine pure_ (i := 13) (N := some 35) (v := ?_) (a' := ?_) #[true, true, true, true, true, true, true, true, true, true, true, true, true, true, false, false, false] rfl rfl (by kernel_rfl) (fun _ _ _ h => h) (Or.inl ⟨by rfl, ?_⟩) ?_ ?_
    rotate_left
    · intro w'
      go_simp
      with_reducible rfl
    rotate_left
    · simp only [Act.put, List.setIfInBounds_toArray, List.set_cons_zero, List.set_cons_succ]
      rfl
    refine pure_ (i := 14) (N := some 36) (v := ?_) (a' := ?_) #[true, true, true, true, true, true, true, true, true, true, true, true, true, true, true, false, false] rfl rfl (by kernel_rfl) (fun _ _ _ h => h) (Or.inl ⟨by rfl, ?_⟩) ?_ ?_
    rotate_left
    · intro w'
      go_simp
      with_reducible rfl
    rotate_left
    · simp only [Act.put, List.setIfInBounds_toArray, List.set_cons_zero, List.set_cons_succ]
      rfl
    refine pure_ (i := 15) (N := some 37) (v := ?_) (a' := ?_) #[true, true, true, true, true, true, true, true, true, true, true, true, true, true, true, true, false] rfl rfl (by kernel_rfl) (fun _ _ _ h => h) (Or.inl ⟨by rfl, ?_⟩) ?_ ?_
    rotate_left
    · intro w'
      go_simp
      with_reducible rfl
    rotate_left
    · simp only [Act.put, List.setIfInBounds_toArray, List.set_cons_zero, List.set_cons_succ]
      rfl
    refine pure_ (i := 16) (N := some 38) (v := ?_) (a' := ?_) #[true, true, true, true, true, true, true, true, true, true, true, true, true, true, true, true, true] rfl rfl (by kernel_rfl) (fun _ _ _ h => h) (Or.inl ⟨by rfl, ?_⟩) ?_ ?_
    rotate_left
    · intro w'
      go_simp
      with_reducible rfl
    rotate_left
    · simp only [Act.put, List.setIfInBounds_toArray, List.set_cons_zero, List.set_cons_succ]
      rfl
    refine done_ (by kernel_rfl) ?_
    replace RA := Lib.hid (RA.out.below hHeld)
    replace RM := Lib.hid (RM.out.below hHeld)
    replace HB := Lib.hid (HB.out.trans (hHeld.mono HB.out.size))
    clear hHeld RE
    go_wp2
    go_loopw [41] (fun i wr => ∃ (k : Nat), k ≤ os.length ∧ i = .int .i64 k ∧ Hid (RdO wr A os) ∧ Hid (RdO wr B2 os) ∧ Hid (Below w.heap.size w wr)) (fun i _ => os.length - (intOf i).toNat)
    case atStart => exact ⟨0, Nat.zero_le _, rfl, RA, RM, HB⟩
    case round =>
      clear RA RM HB
      obtain ⟨k, hkk, rfl, RA, RM, HB⟩ := hrel
      by_cases hlt : k < os.length
      · obtain ⟨b, f, rfl, hc1, hw⟩ := RA.out.at k hlt
        obtain ⟨b2, f2, rfl, hc2, -⟩ := RM.out.at k hlt
        obtain ⟨o, ho⟩ : ∃ o, o = os[k] := ⟨_, rfl⟩
        rw [← ho] at hc1 hc2 hw
        clear ho
        have h88 := Lib.hid (opCells_i88 hw)
        have hr16 := hw.r
        have HC1 := Lib.hid hc1
        have HC2 := Lib.hid hc2
        clear hc1 hc2 hw
        go_wp2
        refine start_ (n := 9) (S := fun w' => Below wr.heap.size wr w') (ds := []) #[false, false, false, false, false, false, false, false, false] (by kernel_rfl) rfl rfl ((Below.refl _ _).drew) (fun hHeld => ?_)
        obtain ⟨wd, hwd⟩ : ∃ wd, wd = World.drew wr := ⟨_, rfl⟩
        rw [← hwd] at hHeld ⊢
        clear hwd
        refine again_ (S' := fun w' => Below wd.heap.size wd w') (Below.refl _ _) (fun w' h => step2 hHeld hHeld.size h) ?_
        replace HC1 := Lib.hid (range_below HC1.out hHeld)
        replace HC2 := Lib.hid (range_below HC2.out hHeld)
        replace RA := Lib.hid (RA.out.below hHeld)
        replace RM := Lib.hid (RM.out.below hHeld)
        replace HB := Lib.hid (HB.out.trans (hHeld.mono HB.out.size))
        clear hHeld
        have hHeld : Below wd.heap.size wd wd := Below.refl _ _
        refine pure_ (i := 0) (N := some 44) (v := ?_) (a' := ?_) #[true, false, false, false, false, false, false, false, false] rfl rfl (by kernel_rfl) (fun _ _ _ h => h) (Or.inl ⟨by rfl, ?_⟩) ?_ ?_
        rotate_left
        · intro w'
          go_simp
          with_reducible rfl
        rotate_left
        · simp only [Act.put, List.setIfInBounds_toArray, List.set_cons_zero, List.set_cons_succ]
          rfl
        refine pure_ (i := 1) (N := some 45) (v := ?_) (a' := ?_) #[true, true, false, false, false, false, false, false, false] rfl rfl (by kernel_rfl) (fun _ _ _ h => h) (Or.inl ⟨by rfl, ?_⟩) ?_ ?_
        rotate_left
        · intro w'
          go_simp
          with_reducible rfl
        rotate_left
        · simp only [Act.put, List.setIfInBounds_toArray, List.set_cons_zero, List.set_cons_succ]
          rfl
        refine pure_ (i := 2) (N := some 46) (v := ?_) (a' := ?_) #[true, true, true, false, false, false, false, false, false] rfl rfl (by kernel_rfl) (fun _ _ _ h => h) (Or.inl ⟨by rfl, ?_⟩) ?_ ?_
        rotate_left
        · intro w'
          go_simp
          with_reducible rfl
        rotate_left
        · simp only [Act.put, List.setIfInBounds_toArray, List.set_cons_zero, List.set_cons_succ]
          rfl
        refine pure_ (i := 4) (N := some 48) (v := ?_) (a' := ?_) #[true, true, true, false, true, false, false, false, false] rfl rfl (by kernel_rfl) (fun _ _ _ h => h) (Or.inl ⟨by rfl, ?_⟩) ?_ ?_
        rotate_left
        · intro w'
          go_simp
          with_reducible rfl
        rotate_left
        · simp only [Act.put, List.setIfInBounds_toArray, List.set_cons_zero, List.set_cons_succ]
          rfl
        refine pure_ (i := 5) (N := some 49) (v := ?_) (a' := ?_) #[true, true, true, false, true, true, false, false, false] rfl rfl (by kernel_rfl) (fun _ _ _ h => h) (Or.inl ⟨by rfl, ?_⟩) ?_ ?_
        rotate_left
        · intro w'
          go_simp
          with_reducible rfl
        rotate_left
        · simp only [Act.put, List.setIfInBounds_toArray, List.set_cons_zero, List.set_cons_succ]
          rfl
        refine pure_ (i := 6) (N := some 50) (v := ?_) (a' := ?_) #[true, true, true, false, true, true, true, false, false] rfl rfl (by kernel_rfl) (fun _ _ _ h => h) (Or.inl ⟨by rfl, ?_⟩) ?_ ?_
        rotate_left
        · intro w'
          go_simp
          with_reducible rfl
        rotate_left
        · simp only [Act.put, List.setIfInBounds_toArray, List.set_cons_zero, List.set_cons_succ]
          rfl
        refine take_ (i := 3) (N := some 47) (v := ?_) (a' := ?_) #[true, true, true, true, true, true, true, false, false] rfl rfl (by kernel_rfl) (fun _ _ _ h => h) (Or.inl ⟨by rfl, ?_⟩) hHeld ?_ ?_
        rotate_left
        · intro w' s0
          refine Eq.trans (ScrEq.run_load_mid 88 (.tmp 46) rfl b2 (f2 + k * 27) (by go_simp) (opCells o) _ (range_below HC2.out s0) Try.underlying88 rfl h88.out) ?_
          with_reducible rfl
        rotate_left
        · simp only [Act.put, List.setIfInBounds_toArray, List.set_cons_zero, List.set_cons_succ]
          rfl
        refine take_ (i := 7) (N := some 51) (v := ?_) (a' := ?_) #[true, true, true, true, true, true, true, true, false] rfl rfl (by kernel_rfl) (fun _ _ _ h => h) (Or.inl ⟨by rfl, ?_⟩) hHeld ?_ ?_
        rotate_left
        · intro w' s0
          refine Eq.trans (ScrEq.run_load_mid 88 (.tmp 50) rfl b (f + k * 27) (by go_simp) (opCells o) _ (range_below HC1.out s0) Try.underlying88 rfl h88.out) ?_
          with_reducible rfl
        rotate_left
        · simp only [Act.put, List.setIfInBounds_toArray, List.set_cons_zero, List.set_cons_succ]
          rfl
        refine pure_ (i := 8) (N := some 52) (v := ?_) (a' := ?_) #[true, true, true, true, true, true, true, true, true] rfl rfl (by kernel_rfl) (fun _ _ _ h => h) (Or.inl ⟨by rfl, ?_⟩) ?_ ?_
        rotate_left
        · intro w'
          refine Eq.trans (ScrEq.run_neq 88 (.tmp 47) (.tmp 51) rfl ScrEq.g88 (opCells o).toArray (ScrEq.eq88 o hr16) (by go_simp) (by go_simp)) ?_
          with_reducible rfl
        rotate_left
        · simp only [Act.put, List.setIfInBounds_toArray, List.set_cons_zero, List.set_cons_succ]
          rfl
        refine done_ (by kernel_rfl) ?_
        go_wp2
        go_roundw
        case rel => exact ⟨k + 1, by omega, by go_num, RA, RM, HB⟩
        case measure => simp [intOf]; omega
      · go_wp2
        go_ret
        exact ⟨rfl, HB.out⟩
  · have hf' : fewB os = false := by cases hq : fewB os with
      | false => rfl
      | true => exact absurd hq hf
    clear ra
    have tg : Hid True := trivial
    go_enter Try.func10, Try.ntmps10
    go_wp2_with (first
      | (clear tg; go_at_call 36; refine (ScrAwake.awake _).mono ?_; rintro e w1 ⟨rfl, h1⟩; have HB := Lib.hid h1; replace RA := Lib.hid (RA.out.below h1); clear h1)
      | (go_at_call 37; refine (ScrFew.few A c os _ RA.out).mono ?_; rw [hf']; rintro e w2 ⟨rfl, h1⟩; replace HB := Lib.hid (step2 HB.out HB.out.size h1); clear h1)
      | (go_at_call 36; refine (ScrAwake.awake _).mono ?_; rintro e w1 ⟨rfl, h1⟩; replace HB := Lib.hid (step2 HB.out HB.out.size h1); clear h1))
    go_ret
    exact ⟨rfl, HB.out⟩
end Go.Proofs.Ytdojhdglbajinaa.ScrBytesWalk
