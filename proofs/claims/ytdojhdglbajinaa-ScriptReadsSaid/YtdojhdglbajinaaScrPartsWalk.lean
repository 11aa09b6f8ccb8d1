/- DERIVED. The walk of ScriptParts. -/
import Derived.Test.YtdojhdglbajinaaScrAwake
import Derived.Test.YtdojhdglbajinaaScrFew
import Derived.Test.YtdojhdglbajinaaReg
namespace Go.Proofs.Ytdojhdglbajinaa.ScrPartsWalk
open Go.RowKit Go.Proofs.Ytdojhdglbajinaa.Mem Go.Proofs.Ytdojhdglbajinaa.Writer Go.Proofs.Ytdojhdglbajinaa.Reader Go.Proofs.Ytdojhdglbajinaa.Enc Go.Proofs.Ytdojhdglbajinaa.Plain Go.Proofs.Ytdojhdglbajinaa.ScrOp Go.Proofs.Ytdojhdglbajinaa.ScrEnc Go.Proofs.Ytdojhdglbajinaa.ScrFew Go.Proofs.Ytdojhdglbajinaa.Reg Go.Proofs.YtdojhdglbajinaaW.PrintLast
set_option linter.unusedVariables false
set_option linter.unusedSimpArgs false

section
variable {P : Program} {o : Oper} {a : Act} {w : World}
theorem run_from (t : TypeId) (x lo : Operand) (ho : o.op = .slice t x (some lo) none none) {e : TypeId} (ht : P.underlying t = some (.slice e)) {X L v : Value} (hx : a.eval x = X) (hl : a.eval lo = L)
    (hrun : (Instr.slice t X (some L) none none).run P w = .ok v w) : (execOp a.eval o).run P w = .ok (.value v) w := by
  have hel : P.elem t = e := by simp [Program.elem, ht]
  have hu : P.underlying t = some (.slice (P.elem t)) := by rw [hel]; exact ht
  unfold execOp
  simp only [ho, Option.map_some, Option.map_none, hx, hl, run_sliceAt_slice _ _ _ _ _ _ hu, Sem.run_bind, hrun, Result.andThen_ok, Sem.run_pure]
theorem run_upto (t : TypeId) (x hi : Operand) (ho : o.op = .slice t x none (some hi) none) {e : TypeId} (ht : P.underlying t = some (.slice e)) {X H v : Value} (hx : a.eval x = X) (hh : a.eval hi = H)
    (hrun : (Instr.slice t X none (some H) none).run P w = .ok v w) : (execOp a.eval o).run P w = .ok (.value v) w := by
  have hel : P.elem t = e := by simp [Program.elem, ht]
  have hu : P.underlying t = some (.slice (P.elem t)) := by rw [hel]; exact ht
  unfold execOp
  simp only [ho, Option.map_some, Option.map_none, hx, hh, run_sliceAt_slice _ _ _ _ _ _ hu, Sem.run_bind, hrun, Result.andThen_ok, Sem.run_pure]
theorem takenO (t e : TypeId) (kh : IntKind) {i : TypeInfo} (ht : P.underlying t = some (.slice e)) (hi : P.info? e = some i) (A : Option Addr) (c : Nat) (xs : List OpV) (j : Int) (h0 : 0 ≤ j) (hm : j ≤ xs.length) (hc : xs.length ≤ c) :
    ∀ W : World, (Instr.slice t (.slice A xs.length c) none (some (.int kh j)) none).run P W = .ok (.slice A (xs.take j.toNat).length c) W := by
  have hl : (xs.take j.toNat).length = j.toNat := by rw [List.length_take]; omega
  intro W
  have hel : P.elem t = e := by simp [Program.elem, ht]
  have hu : P.underlying t = some (.slice (P.elem t)) := by rw [hel]; exact ht
  have ha : (A.map fun x => x.add 0) = A := by cases A <;> simp [Addr.add]
  rw [run_slice_h W t A xs.length c hu kh j h0 (by omega), hel, hl]
  simp [sizeOf, typeInfo, hi, sliced, Result.andThen, ha]
theorem droppedO (t e : TypeId) (kl : IntKind) {i : TypeInfo} (ht : P.underlying t = some (.slice e)) (hi : P.info? e = some i) (hsz : i.size = 27) (A : Option Addr) (c : Nat) (xs : List OpV) (j : Int) (h0 : 0 ≤ j) (hm : j ≤ xs.length) (hc : xs.length ≤ c) :
    ∃ A' : Option Addr, (∀ W : World, (Instr.slice t (.slice A xs.length c) (some (.int kl j)) none none).run P W = .ok (.slice A' (xs.drop j.toNat).length (c - j.toNat)) W) ∧
      (∀ w : World, RdO w A xs → RdO w A' (xs.drop j.toNat)) := by
  have hl : (xs.drop j.toNat).length = xs.length - j.toNat := List.length_drop
  refine ⟨if c = j.toNat then A else A.map (·.add (j.toNat * 27)), fun W => ?_, fun w h => h.drop j.toNat c hc⟩
  have hel : P.elem t = e := by simp [Program.elem, ht]
  have hu : P.underlying t = some (.slice (P.elem t)) := by rw [hel]; exact ht
  rw [run_slice_l W t A xs.length c hu kl j h0 hm, hel, hl]
  simp [sizeOf, typeInfo, hi, hsz, sliced, Result.andThen]
end
theorem enc_nil (w : World) : Calls Try.prog 38 #[.slice none 0 0] w fun e w' => ∃ B c', e = .returned (.slice B 0 c') ∧ Below w.heap.size w w' :=
  (ScrEnc.encode none 0 [] w (RdO.nil _ _) (by decide) (by simp)).mono fun e w' ⟨B, c', h1, h2, h3⟩ => ⟨B, c', h1, h3⟩
theorem encOps_cut (os : List OpV) (n : Nat) : str (encOps (os.take n)) ++ str (encOps (os.drop n)) = str (encOps os) := by
  rw [str_append, ← encOps_append, List.take_append_drop]
theorem encOps_len : ∀ (os : List OpV), (∀ o ∈ os, o.Wf) → (∀ o ∈ os, texts o ≤ 1000) → (encOps os).length ≤ 1074 * os.length
  | [], _, _ => by simp [encOps]
  | o :: os, hw, ht => by
    rw [encOps_cons, List.length_append, encOp_len o (hw o (by simp)).r, List.length_cons]
    have := ht o (by simp)
    have := encOps_len os (fun o h => hw o (by simp [h])) (fun o h => ht o (by simp [h]))
    omega
set_option maxHeartbeats 2000000 in
set_option maxRecDepth 100000 in
theorem law (A : Option Addr) (c : Nat) (os : List OpV) (m : Int) (w : World) (ra : RdO w A os) (hc : os.length ≤ c) (hm0 : 0 ≤ m) (hm1 : m ≤ 255) :
    Calls Try.prog 8 #[.slice A os.length c, .int .u8 m] w fun e w' => e = .returned (.bool true) ∧ Below w.heap.size w w' := by
  obtain ⟨i0, hi0, hz0, hz1, hz2⟩ := info_parts z88
  have RA := Lib.hid ra
  have HI0 := Lib.hid hi0
  clear hz0 hi0
  have hln := ra.len
  by_cases hf : fewB os = true
  · obtain ⟨hl30, ht⟩ := (fewB_iff os).1 hf
    have HT := Lib.hid ht
    have hf' := hf
    clear ra ht
    go_enter Try.func8, Try.ntmps8
    go_wp2_with (first
      | (go_at_call 36; refine (ScrAwake.awake _).mono ?_; rintro e w1 ⟨rfl, h1⟩; have HB := Lib.hid h1; replace RA := Lib.hid (RA.out.below h1); clear h1)
      | (go_at_call 37; refine (ScrFew.few A c os _ RA.out).mono ?_; rw [hf']; rintro e w2 ⟨rfl, h1⟩; replace HB := Lib.hid (step2 HB.out HB.out.size h1); replace RA := Lib.hid (RA.out.below h1); clear h1))
    obtain ⟨n, hn⟩ : ∃ n, n = m % ((os.length : Int) + 1) := ⟨_, rfl⟩
    rw [← hn]
    have hn0 : 0 ≤ n := by rw [hn]; exact Int.emod_nonneg _ (by omega)
    have hn1 : n ≤ os.length := by have := Int.emod_lt_of_pos m (show (0 : Int) < (os.length : Int) + 1 by omega); omega
    clear hn hm0 hm1
    have HTK := Lib.hid (takenO 67 88 .i64 Try.underlying67 HI0.out A c os n hn0 hn1 hc)
    obtain ⟨A2, hdr, hrd⟩ := droppedO 67 88 .i64 Try.underlying67 HI0.out hz1 A c os n hn0 hn1 hc
    have HDR := Lib.hid hdr
    have RT := Lib.hid (RA.out.take n.toNat)
    have RD := Lib.hid (hrd _ RA.out)
    have hcat := encOps_cut os n.toNat
    have HTT : Hid (∀ o ∈ os.take n.toNat, texts o ≤ 1000) := fun o h => HT.out o (List.mem_of_mem_take h)
    have HDT : Hid (∀ o ∈ os.drop n.toNat, texts o ≤ 1000) := fun o h => HT.out o (List.mem_of_mem_drop h)
    have htl : (os.take n.toNat).length ≤ 30 := by rw [List.length_take]; omega
    have hdl : (os.drop n.toNat).length ≤ 30 := by rw [List.length_drop]; omega
    have hl1 := encOps_len _ RT.out.wf HTT.out
    have hl2 := encOps_len _ RD.out.wf HDT.out
    clear hdr hrd
    generalize os.take n.toNat = tk at *
    generalize os.drop n.toNat = dr at *
    have hs1 : ¬ 9223372036854775807 < (str (encOps tk)).size + (str (encOps dr)).size := by rw [str_size, str_size]; omega
    refine start_ (n := 13) (S := fun w' => Below w2.heap.size w2 w') (ds := []) #[false, false, false, false, false, false, false, false, false, false, false, false, false] (by kernel_rfl) rfl rfl ((Below.refl _ _).drew) (fun hHeld => ?_)
    obtain ⟨wd, hwd⟩ : ∃ wd, wd = World.drew w2 := ⟨_, rfl⟩
    rw [← hwd] at hHeld ⊢
    clear hwd
    refine again_ (S' := fun w' => Below wd.heap.size wd w') (Below.refl _ _) (fun w' h => step2 hHeld hHeld.size h) ?_
    replace RA := Lib.hid (RA.out.below hHeld)
    replace RT := Lib.hid (RT.out.below hHeld)
    replace RD := Lib.hid (RD.out.below hHeld)
    replace HB := Lib.hid (HB.out.trans (hHeld.mono HB.out.size))
    clear hHeld
    have hHeld : Below wd.heap.size wd wd := Below.refl _ _
    refine pure_ (i := 0) (N := some 23) (v := ?_) (a' := ?_) #[true, false, false, false, false, false, false, false, false, false, false, false, false] rfl rfl (by kernel_rfl) (fun _ _ _ h => h) (Or.inl ⟨by rfl, ?_⟩) ?_ ?_
    rotate_left
    · intro w'
      go_simp
      with_reducible rfl
    rotate_left
    · simp only [Act.put, List.setIfInBounds_toArray, List.set_cons_zero, List.set_cons_succ]
      rfl
    refine pure_ (i := 1) (N := some 24) (v := ?_) (a' := ?_) #[true, true, false, false, false, false, false, false, false, false, false, false, false] rfl rfl (by kernel_rfl) (fun _ _ _ h => h) (Or.inl ⟨by rfl, ?_⟩) ?_ ?_
    rotate_left
    · intro w'
      go_simp
      with_reducible rfl
    rotate_left
    · simp only [Act.put, List.setIfInBounds_toArray, List.set_cons_zero, List.set_cons_succ]
      rfl
    refine pure_ (i := 2) (N := some 25) (v := ?_) (a' := ?_) #[true, true, true, false, false, false, false, false, false, false, false, false, false] rfl rfl (by kernel_rfl) (fun _ _ _ h => h) (Or.inl ⟨by rfl, ?_⟩) ?_ ?_
    rotate_left
    · intro w'
      refine Eq.trans (run_upto 67 (.tmp 23) (.tmp 24) rfl Try.underlying67 (X := .slice A os.length c) (H := .int .i64 n) (by go_simp) (by go_simp) (HTK.out w')) ?_
      with_reducible rfl
    rotate_left
    · simp only [Act.put, List.setIfInBounds_toArray, List.set_cons_zero, List.set_cons_succ]
      rfl
    refine pure_ (i := 4) (N := some 27) (v := ?_) (a' := ?_) #[true, true, true, false, true, false, false, false, false, false, false, false, false] rfl rfl (by kernel_rfl) (fun _ _ _ h => h) (Or.inl ⟨by rfl, ?_⟩) ?_ ?_
    rotate_left
    · intro w'
      go_simp
      with_reducible rfl
    rotate_left
    · simp only [Act.put, List.setIfInBounds_toArray, List.set_cons_zero, List.set_cons_succ]
      rfl
    refine pure_ (i := 5) (N := some 28) (v := ?_) (a' := ?_) #[true, true, true, false, true, true, false, false, false, false, false, false, false] rfl rfl (by kernel_rfl) (fun _ _ _ h => h) (Or.inl ⟨by rfl, ?_⟩) ?_ ?_
    rotate_left
    · intro w'
      go_simp
      with_reducible rfl
    rotate_left
    · simp only [Act.put, List.setIfInBounds_toArray, List.set_cons_zero, List.set_cons_succ]
      rfl
    refine pure_ (i := 6) (N := some 29) (v := ?_) (a' := ?_) #[true, true, true, false, true, true, true, false, false, false, false, false, false] rfl rfl (by kernel_rfl) (fun _ _ _ h => h) (Or.inl ⟨by rfl, ?_⟩) ?_ ?_
    rotate_left
    · intro w'
      refine Eq.trans (run_from 67 (.tmp 27) (.tmp 28) rfl Try.underlying67 (X := .slice A os.length c) (L := .int .i64 n) (by go_simp) (by go_simp) (HDR.out w')) ?_
      with_reducible rfl
    rotate_left
    · simp only [Act.put, List.setIfInBounds_toArray, List.set_cons_zero, List.set_cons_succ]
      rfl
    refine pure_ (i := 8) (N := some 31) (v := ?_) (a' := ?_) #[true, true, true, false, true, true, true, false, true, false, false, false, false] rfl rfl (by kernel_rfl) (fun _ _ _ h => h) (Or.inl ⟨by rfl, ?_⟩) ?_ ?_
    rotate_left
    · intro w'
      go_simp
      with_reducible rfl
    rotate_left
    · simp only [Act.put, List.setIfInBounds_toArray, List.set_cons_zero, List.set_cons_succ]
      rfl
    refine one_ (i := 3) (N := some 26) #[true, true, true, true, true, true, true, false, true, false, false, false, false] rfl rfl (by kernel_rfl) (by decide) (fun K hK => ?_)
    refine goes_ Try.func38 (by kernel_rfl) rfl #[.slice A tk.length c] (by rfl) rfl rfl (by first | rfl | (simp only [List.map_toArray, List.map_cons, List.map_nil]; rfl)) ?_
    refine (ScrEnc.encode A c tk _ (RT.out.below hHeld) htl HTT.out).mono ?_
    rintro e w3 ⟨B1, c1, rfl, h0, hb⟩
    refine ⟨_, rfl, ?_⟩
    refine hK.out _ _ (step2 hHeld hHeld.size hb) (fun hHeld' => ?_)
    clear hK K hHeld'
    refine norm_ (a' := ?_) ?_ ?_
    rotate_left
    · show Act.put _ (some 26) _ = _
      simp only [Act.put, List.setIfInBounds_toArray, List.set_cons_zero, List.set_cons_succ]
      rfl
    replace hHeld := step2 hHeld hHeld.size hb
    have S1 := Lib.hid (rd_own h0).2.2.2
    clear h0 hb
    refine one_ (i := 7) (N := some 30) #[true, true, true, true, true, true, true, true, true, false, false, false, false] rfl rfl (by kernel_rfl) (by decide) (fun K hK => ?_)
    refine goes_ Try.func38 (by kernel_rfl) rfl #[.slice A2 dr.length (c - n.toNat)] (by rfl) rfl rfl (by first | rfl | (simp only [List.map_toArray, List.map_cons, List.map_nil]; rfl)) ?_
    refine (ScrEnc.encode A2 (c - n.toNat) dr _ (RD.out.below hHeld) hdl HDT.out).mono ?_
    rintro e w3 ⟨B2, c2, rfl, h0, hb⟩
    refine ⟨_, rfl, ?_⟩
    refine hK.out _ _ (step2 hHeld hHeld.size hb) (fun hHeld' => ?_)
    clear hK K hHeld'
    refine norm_ (a' := ?_) ?_ ?_
    rotate_left
    · show Act.put _ (some 30) _ = _
      simp only [Act.put, List.setIfInBounds_toArray, List.set_cons_zero, List.set_cons_succ]
      rfl
    replace hHeld := step2 hHeld hHeld.size hb
    have S2 := Lib.hid (rd_own h0).2.2.2
    replace S1 := Lib.hid (S1.out.below hb)
    clear h0 hb
    refine one_ (i := 9) (N := some 32) #[true, true, true, true, true, true, true, true, true, true, false, false, false] rfl rfl (by kernel_rfl) (by decide) (fun K hK => ?_)
    refine goes_ Try.func38 (by kernel_rfl) rfl #[.slice A os.length c] (by rfl) rfl rfl (by first | rfl | (simp only [List.map_toArray, List.map_cons, List.map_nil]; rfl)) ?_
    refine (ScrEnc.encode A c os _ (RA.out.below hHeld) hl30 HT.out).mono ?_
    rintro e w3 ⟨B3, c3, rfl, h0, hb⟩
    refine ⟨_, rfl, ?_⟩
    refine hK.out _ _ (step2 hHeld hHeld.size hb) (fun hHeld' => ?_)
    clear hK K hHeld'
    refine norm_ (a' := ?_) ?_ ?_
    rotate_left
    · show Act.put _ (some 32) _ = _
      simp only [Act.put, List.setIfInBounds_toArray, List.set_cons_zero, List.set_cons_succ]
      rfl
    replace hHeld := step2 hHeld hHeld.size hb
    have S3 := Lib.hid (rd_own h0).2.2.2
    replace S1 := Lib.hid (S1.out.below hb)
    replace S2 := Lib.hid (S2.out.below hb)
    clear h0 hb
    refine pure_ (i := 10) (N := some 6) (v := ?_) (a' := ?_) #[true, true, true, true, true, true, true, true, true, true, true, false, false] rfl rfl (by kernel_rfl) (fun _ _ _ h => h) (Or.inl ⟨by rfl, ?_⟩) ?_ ?_
    rotate_left
    · intro w'
      go_simp
      with_reducible rfl
    rotate_left
    · simp only [Act.put, List.setIfInBounds_toArray, List.set_cons_zero, List.set_cons_succ]
      rfl
    refine pure_ (i := 11) (N := some 7) (v := ?_) (a' := ?_) #[true, true, true, true, true, true, true, true, true, true, true, true, false] rfl rfl (by kernel_rfl) (fun _ _ _ h => h) (Or.inl ⟨by rfl, ?_⟩) ?_ ?_
    rotate_left
    · intro w'
      go_simp
      with_reducible rfl
    rotate_left
    · simp only [Act.put, List.setIfInBounds_toArray, List.set_cons_zero, List.set_cons_succ]
      rfl
    refine pure_ (i := 12) (N := some 8) (v := ?_) (a' := ?_) #[true, true, true, true, true, true, true, true, true, true, true, true, true] rfl rfl (by kernel_rfl) (fun _ _ _ h => h) (Or.inl ⟨by rfl, ?_⟩) ?_ ?_
    rotate_left
    · intro w'
      go_simp
      with_reducible rfl
    rotate_left
    · simp only [Act.put, List.setIfInBounds_toArray, List.set_cons_zero, List.set_cons_succ]
      rfl
    refine done_ (by kernel_rfl) ?_
    replace HB := Lib.hid (HB.out.trans (hHeld.mono HB.out.size))
    have cv1 := run_string (P := Try.prog) (src := 22) (dst := 9) (c := c1) Try.underlying22 Try.underlying5 Try.underlying9 S1.out
    have cv2 := run_string (P := Try.prog) (src := 22) (dst := 9) (c := c2) Try.underlying22 Try.underlying5 Try.underlying9 S2.out
    have cv3 := run_string (P := Try.prog) (src := 22) (dst := 9) (c := c3) Try.underlying22 Try.underlying5 Try.underlying9 S3.out
    go_wp2_with (go_at_call 38; refine (enc_nil _).mono ?_; rintro e w5 ⟨B5, c5, rfl, h1⟩; replace HB := Lib.hid (step2 HB.out HB.out.size h1); clear h1)
    go_ret
    exact ⟨rfl, HB.out⟩
  · have hf' : fewB os = false := by cases hq : fewB os with
      | false => rfl
      | true => exact absurd hq hf
    clear ra
    have tg : Hid True := trivial
    go_enter Try.func8, Try.ntmps8
    go_wp2_with (first
      | (clear tg; go_at_call 36; refine (ScrAwake.awake _).mono ?_; rintro e w1 ⟨rfl, h1⟩; have HB := Lib.hid h1; replace RA := Lib.hid (RA.out.below h1); clear h1)
      | (go_at_call 37; refine (ScrFew.few A c os _ RA.out).mono ?_; rw [hf']; rintro e w2 ⟨rfl, h1⟩; replace HB := Lib.hid (step2 HB.out HB.out.size h1); clear h1)
      | (go_at_call 36; refine (ScrAwake.awake _).mono ?_; rintro e w1 ⟨rfl, h1⟩; replace HB := Lib.hid (step2 HB.out HB.out.size h1); clear h1))
    go_ret
    exact ⟨rfl, HB.out⟩
end Go.Proofs.Ytdojhdglbajinaa.ScrPartsWalk
