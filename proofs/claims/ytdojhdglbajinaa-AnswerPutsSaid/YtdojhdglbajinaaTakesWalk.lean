/- DERIVED. The walk of AnswerTakes. -/
import Derived.Test.YtdojhdglbajinaaReadsWalk
namespace Go.Proofs.Ytdojhdglbajinaa.TakesWalk
open Go.RowKit Go.Proofs.Ytdojhdglbajinaa.Mem Go.Proofs.Ytdojhdglbajinaa.Writer Go.Proofs.Ytdojhdglbajinaa.Reader Go.Proofs.Ytdojhdglbajinaa.Enc Go.Proofs.Ytdojhdglbajinaa.Dec Go.Proofs.Ytdojhdglbajinaa.Plain Go.Proofs.Ytdojhdglbajinaa.Reg Go.Proofs.YtdojhdglbajinaaW.PrintLast Go.Proofs.Ytdojhdglbajinaa.RefEnc Go.Proofs.Ytdojhdglbajinaa.WritesWalk
set_option linter.unusedVariables false
set_option linter.unusedSimpArgs false

theorem i64_back (V : Nat) (h : V < 18446744073709551616) : IntKind.u64.wrap (IntKind.i64.wrap (V : Int)) = (V : Int) := by
  rw [IntKind.wrap_i64, IntKind.wrap_u64]; omega
theorem got_no {l : List UInt8} {b : Bool} {n : Nat} (h : isBad l b n = true) : got l b n = [] ∧ rest l b n = l := by
  unfold got rest; rw [h]; exact ⟨rfl, rfl⟩
theorem txtBad_true (l : List UInt8) : txtBad l true = true := by unfold txtBad; rw [RefD.bad_true]; exact RefD.bad_true _ _
/-- Behind a bad text: nothing was read; the reader is bad. -/
theorem txt_no {l : List UInt8} {b : Bool} (h : txtBad l b = true) : txt l b = [] := by
  unfold txtBad at h
  unfold txt got
  rw [h]; rfl
theorem four (b : Nat) : (b : Int) % 4 = 0 ∨ (b : Int) % 4 = 1 ∨ (b : Int) % 4 = 2 ∨ (b : Int) % 4 = 3 := by omega
section
variable (g : Nat) (RL : List UInt8) (V : Nat) (bd : Bool) (w : World)
theorem rOk0 (h : Rr w g RL false) (hl : RL.length ≤ 400) (hb : isBad RL false 1 = false) (hV : num (got RL false 1) = V) : Calls Try.prog 21 #[.pointer (some ⟨g, 0, none⟩)] w fun e w' => e = .returned (.int .u8 (V : Int)) ∧ Rr w' g (rest RL false 1) false ∧ Ch g w w' := by
  have := Reader.u8 g RL false w h (by omega)
  rw [hV, hb] at this; exact this
theorem rOk1 (h : Rr w g RL false) (hl : RL.length ≤ 400) (hb : isBad RL false 4 = false) (hV : num (got RL false 4) = V) : Calls Try.prog 23 #[.pointer (some ⟨g, 0, none⟩)] w fun e w' => e = .returned (.int .u32 (V : Int)) ∧ Rr w' g (rest RL false 4) false ∧ Ch g w w' := by
  have := Reader.u32 g RL false w h (by omega)
  rw [hV, hb] at this; exact this
theorem rOk2 (h : Rr w g RL false) (hl : RL.length ≤ 400) (hb : isBad RL false 8 = false) (hV : num (got RL false 8) = V) : Calls Try.prog 24 #[.pointer (some ⟨g, 0, none⟩)] w fun e w' => e = .returned (.int .i64 (IntKind.i64.wrap (V : Int))) ∧ Rr w' g (rest RL false 8) false ∧ Ch g w w' := by
  have := Reader.i64 g RL false w h (by omega)
  rw [hV, hb] at this; exact this
theorem rNo0 (h : Rr w g RL bd) (hl : RL.length ≤ 400) (hb : isBad RL bd 1 = true) : Calls Try.prog 21 #[.pointer (some ⟨g, 0, none⟩)] w fun e w' => e = .returned (.int .u8 0) ∧ Rr w' g RL true ∧ Ch g w w' := by
  have := Reader.u8 g RL bd w h (by omega)
  rw [(got_no hb).1, (got_no hb).2, hb] at this; exact this
theorem rNo1 (h : Rr w g RL bd) (hl : RL.length ≤ 400) (hb : isBad RL bd 4 = true) : Calls Try.prog 23 #[.pointer (some ⟨g, 0, none⟩)] w fun e w' => e = .returned (.int .u32 0) ∧ Rr w' g RL true ∧ Ch g w w' := by
  have := Reader.u32 g RL bd w h (by omega)
  rw [(got_no hb).1, (got_no hb).2, hb] at this; exact this
theorem rNo2 (h : Rr w g RL bd) (hl : RL.length ≤ 400) (hb : isBad RL bd 8 = true) : Calls Try.prog 24 #[.pointer (some ⟨g, 0, none⟩)] w fun e w' => e = .returned (.int .i64 0) ∧ Rr w' g RL true ∧ Ch g w w' := by
  have := Reader.i64 g RL bd w h (by omega)
  rw [(got_no hb).1, (got_no hb).2, hb] at this; exact this
theorem rsOk (h : Rr w g RL false) (hl : RL.length ≤ 400) (hb : txtBad RL false = false) : Calls Try.prog 25 #[.pointer (some ⟨g, 0, none⟩)] w fun e w' => e = .returned (.string (str (txt RL false))) ∧ Rr w' g (txtRest RL false) false ∧ Ch g w w' := by
  have := Reader.string g RL false w h (by omega)
  rw [hb] at this; exact this
theorem rsNo (h : Rr w g RL bd) (hl : RL.length ≤ 400) (hb : txtBad RL bd = true) : Calls Try.prog 25 #[.pointer (some ⟨g, 0, none⟩)] w fun e w' => e = .returned (.string { data := #[] }) ∧ (∃ R2 : List UInt8, R2.length ≤ 400 ∧ Rr w' g R2 true) ∧ Ch g w w' := by
  have := Reader.string g RL bd w h (by omega)
  rw [hb, txt_no hb] at this
  exact this.mono fun e w' ⟨h1, h2, h3⟩ => ⟨h1, ⟨_, Nat.le_trans (txtRest_len _ _) hl, h2⟩, h3⟩
theorem tOk (n : Nat) (hn : n ≤ 8) (hl : RL.length ≤ 70368744177664) (hb : isBad RL false n = false) (hV : num (got RL false n) = V) : Calls Try.prog 22 #[.string (str RL), .int .i64 (n : Int)] w fun e w' => e = .returned (.tuple #[.int .u64 (V : Int), .string (str (rest RL false n)), .bool true]) ∧ ∃ q, w' = w.drewN q := by
  have := RefT.take RL n w hn hl
  rw [hV, hb, show RefT.left RL n = rest RL false n by unfold RefT.left rest; rw [hb]; rfl] at this; exact this
theorem tNo (n : Nat) (hn : n ≤ 8) (hl : RL.length ≤ 70368744177664) (hb : isBad RL false n = true) : Calls Try.prog 22 #[.string (str RL), .int .i64 (n : Int)] w fun e w' => e = .returned (.tuple #[.int .u64 0, .string (str []), .bool false]) ∧ ∃ q, w' = w.drewN q := by
  have := RefT.take RL n w hn hl
  rw [(got_no hb).1, hb, show RefT.left RL n = [] by unfold RefT.left; rw [hb]; rfl] at this; exact this
theorem leftOk (h : Rr w g RL false) : Calls Try.prog 28 #[.pointer (some ⟨g, 0, none⟩)] w fun e w' => e = .returned (.int .i64 (RL.length : Int)) ∧ w = w' := Reader.left g RL false w h
theorem leftNo (h : Rr w g RL true) : Calls Try.prog 28 #[.pointer (some ⟨g, 0, none⟩)] w fun e w' => e = .returned (.int .i64 0) ∧ w = w' := Reader.left g RL true w h
end
set_option maxHeartbeats 2000000 in
set_option maxRecDepth 100000 in
theorem law (A : Option Addr) (c : Nat) (l : List UInt8) (B : Option Addr) (d : Nat) (ks : List UInt8) (w : World) (rd : Rd w A l) (rk : Rd w B ks) :
    Calls Try.prog 5 #[.slice A l.length c, .slice B ks.length d] w fun e w' => e = .returned (.bool true) ∧ Below w.heap.size w w' := by
  have hz : l.length ≤ 9223372036854775807 := rd.1
  have hzk : ks.length ≤ 9223372036854775807 := rk.1
  have RA := Lib.hid rd
  have RK := Lib.hid rk
  have RK0 := Lib.hid rk
  clear rd rk
  by_cases h1 : l.length ≤ 400 ∧ ks.length ≤ 40
  · obtain ⟨hl, hk⟩ := h1
    go_enter Try.func5, Try.ntmps5
    go_wp2_with fail
    refine (Awake.awake _).mono ?_
    rintro e wa ⟨rfl, hb⟩
    have HB := Lib.hid hb
    replace RA := Lib.hid (RA.out.below hb)
    replace RK := Lib.hid (RK.out.below hb)
    clear hb
    go_wp2_with fail
    refine start_ (n := 7) (S := fun w' => Below wa.heap.size wa w') (ds := []) #[false, false, false, false, false, false, false] (by kernel_rfl) rfl rfl ((Below.refl _ _).drew) (fun hHeld => ?_)
    obtain ⟨wd, hwd⟩ : ∃ wd, wd = World.drew wa := ⟨_, rfl⟩
    rw [← hwd] at hHeld ⊢
    clear hwd
    refine again_ (S' := fun w' => Below wd.heap.size wd w') (Below.refl _ _) (fun w' h => step2 hHeld hHeld.size h) ?_
    replace RA := Lib.hid (RA.out.below hHeld)
    replace RK := Lib.hid (RK.out.below hHeld)
    replace HB := Lib.hid (HB.out.trans (hHeld.mono HB.out.size))
    clear hHeld
    have hHeld : Below wd.heap.size wd wd := Below.refl _ _
    refine pure_ (i := 0) (N := some 28) (v := ?_) (a' := ?_) #[true, false, false, false, false, false, false] rfl rfl (by kernel_rfl) (fun _ _ _ h => h) (Or.inl ⟨by rfl, ?_⟩) ?_ ?_
    rotate_left
    · intro w'
      go_simp
      with_reducible rfl
    rotate_left
    · simp only [Act.put, List.setIfInBounds_toArray, List.set_cons_zero, List.set_cons_succ]
      rfl
    refine pure_ (i := 2) (N := some 30) (v := ?_) (a' := ?_) #[true, false, true, false, false, false, false] rfl rfl (by kernel_rfl) (fun _ _ _ h => h) (Or.inl ⟨by rfl, ?_⟩) ?_ ?_
    rotate_left
    · intro w'
      go_simp
      with_reducible rfl
    rotate_left
    · simp only [Act.put, List.setIfInBounds_toArray, List.set_cons_zero, List.set_cons_succ]
      rfl
    refine take_ (i := 3) (N := some 31) (v := ?_) (a' := ?_) #[true, false, true, true, false, false, false] rfl rfl (by kernel_rfl) (fun _ _ _ h => h) (Or.inl ⟨by rfl, ?_⟩) hHeld ?_ ?_
    rotate_left
    · intro w' s0
      have e0 := run_string (P := Try.prog) (src := 22) (dst := 9) (c := c) Try.underlying22 Try.underlying5 Try.underlying9 (RA.out.below s0)
      go_simp
      with_reducible rfl
    rotate_left
    · simp only [Act.put, List.setIfInBounds_toArray, List.set_cons_zero, List.set_cons_succ]
      rfl
    refine one_ (i := 1) (N := some 29) #[true, true, true, true, false, false, false] rfl rfl (by kernel_rfl) (by decide) (fun K hK => ?_)
    refine goes_ Try.func20 (by kernel_rfl) rfl #[.slice A l.length c] (by rfl) rfl rfl (by first | rfl | (simp only [List.map_toArray, List.map_cons, List.map_nil]; rfl)) ?_
    refine (Reader.new A c l _ (RA.out.below hHeld) (by omega)).mono ?_
    have hHeld0 := hHeld
    rintro e w3 ⟨g, rfl, hg, hrr, hb⟩
    refine ⟨_, rfl, ?_⟩
    refine hK.out _ _ (step2 hHeld hHeld.size hb) (fun hHeld' => ?_)
    clear hK K hHeld'
    refine norm_ (a' := ?_) ?_ ?_
    rotate_left
    · show Act.put _ (some 29) _ = _
      simp only [Act.put, List.setIfInBounds_toArray, List.set_cons_zero, List.set_cons_succ]
      rfl
    replace hHeld := step2 hHeld hHeld.size hb
    have HRR := Lib.hid hrr
    have HG : Hid (w.heap.size ≤ g) := Nat.le_trans HB.out.size (Nat.le_trans hHeld0.size hg)
    clear hrr hb hg
    refine pure_ (i := 4) (N := some 5) (v := ?_) (a' := ?_) #[true, true, true, true, true, false, false] rfl rfl (by kernel_rfl) (fun _ _ _ h => h) (Or.inl ⟨by rfl, ?_⟩) ?_ ?_
    rotate_left
    · intro w'
      go_simp
      with_reducible rfl
    rotate_left
    · simp only [Act.put, List.setIfInBounds_toArray, List.set_cons_zero, List.set_cons_succ]
      rfl
    refine pure_ (i := 5) (N := some 6) (v := ?_) (a' := ?_) #[true, true, true, true, true, true, false] rfl rfl (by kernel_rfl) (fun _ _ _ h => h) (Or.inl ⟨by rfl, ?_⟩) ?_ ?_
    rotate_left
    · intro w'
      go_simp
      with_reducible rfl
    rotate_left
    · simp only [Act.put, List.setIfInBounds_toArray, List.set_cons_zero, List.set_cons_succ]
      rfl
    refine pure_ (i := 6) (N := some 7) (v := ?_) (a' := ?_) #[true, true, true, true, true, true, true] rfl rfl (by kernel_rfl) (fun _ _ _ h => h) (Or.inl ⟨by rfl, ?_⟩) ?_ ?_
    rotate_left
    · intro w'
      go_simp
      with_reducible rfl
    rotate_left
    · simp only [Act.put, List.setIfInBounds_toArray, List.set_cons_zero, List.set_cons_succ]
      rfl
    refine done_ (by kernel_rfl) ?_
    replace HB := Lib.hid (HB.out.trans (hHeld.mono HB.out.size))
    clear hHeld hHeld0
    go_wp2
    go_loopw [6, 7, 34] (fun t6 t7 i wr => ∃ (k : Nat) (LL RL : List UInt8) (gd : Bool), k ≤ ks.length ∧ i = .int .i64 k ∧ t6 = .string (str LL) ∧ t7 = .bool gd ∧ Hid (Rr wr g RL (!gd)) ∧ Hid (Below w.heap.size w wr) ∧ RL.length ≤ 400 ∧ LL = if gd then RL else []) (fun _ _ i _ => ks.length - (intOf i).toNat)
    case atStart => exact ⟨0, l, l, true, Nat.zero_le _, rfl, rfl, rfl, HRR.out, HB.out, hl, rfl⟩
    case round =>
      clear HB HRR
      obtain ⟨k, LL, RL, gd, hkk, rfl, rfl, rfl, HR, HB, hL, hLL⟩ := hrel
      by_cases hlt : k < ks.length
      · obtain ⟨kd, rfl, hkc⟩ := Same.Rd.at (RK0.out.below HB.out) k hlt
        obtain ⟨b, hb⟩ : ∃ b : Nat, b = ks[k].toNat := ⟨_, rfl⟩
        rw [← hb] at hkc
        clear hb
        rcases four b with hk4 | hk4 | hk4 | hk4
        · cases gd with
        | true =>
          cases hbd : isBad RL false 1 with
          | false =>
            have HBD := Lib.hid hbd
            obtain ⟨V, hV⟩ : ∃ V, V = num (got RL false 1) := ⟨_, rfl⟩
            have hVb : V < 256 := by rw [hV]; exact num_lt8 _ 1 (got_len _ _ _)
            have HV := Lib.hid hV.symm
            obtain ⟨RN, hRN⟩ : ∃ RN, RN = rest RL false 1 := ⟨_, rfl⟩
            have HLN : Hid (RN.length ≤ 400) := by rw [hRN]; exact Nat.le_trans (rest_len _ _ _) hL
            have HRN := Lib.hid hRN
            clear hbd hV hRN
            have hLR : RL = LL := hLL.symm
            clear hLL
            subst hLR
            have hsz := str_size RN
            go_wp2_with (first
              | (go_at_call 21; refine (rOk0 g RL V _ HR.out hL HBD.out HV.out).mono ?_; rw [← HRN.out]; rintro e w1 ⟨rfl, h1, h2⟩; replace HB := Lib.hid (HB.out.trans (h2.below.mono HG.out)); clear HR; have HR := Lib.hid h1; clear h1 h2)
              | (go_at_call 22; refine (tOk RL V _ 1 (by omega) (by omega) HBD.out HV.out).mono ?_; rw [← HRN.out]; rintro e w2 ⟨rfl, q, rfl⟩; replace HR := Lib.hid (HR.out.below (Same.dn_below (Below.refl _ _) q)); replace HB := Lib.hid (Same.dn_below HB.out q))
              | (go_at_call 27; refine (Reader.bad g _ _ _ HR.out).mono ?_; rintro e w5 ⟨rfl, rfl⟩)
              | (go_at_call 28; refine (leftOk g _ _ HR.out).mono ?_; rintro e w6 ⟨rfl, rfl⟩))
            refine ⟨⟨k + 1, RN, RN, true, by omega, by go_num, rfl, rfl, HR.out, HB.out, HLN.out, rfl⟩, ?_⟩
            simp [intOf]; omega
          | true =>
            obtain ⟨bd, hbdd⟩ : ∃ bd, bd = false := ⟨_, rfl⟩
            have HBD : Hid (isBad RL bd 1 = true) := by rw [hbdd]; exact hbd
            have HLL : Hid (LL.length ≤ 70368744177664) := by rw [hLL]; show RL.length ≤ _; omega
            have HBT : Hid (isBad LL false 1 = true) := by rw [hLL]; exact hbd
            replace HR : Hid (Rr wr g RL bd) := by rw [hbdd]; exact HR.out
            clear hbd hbdd hLL
            go_wp2_with (first
              | (go_at_call 21; refine (rNo0 g RL bd _ HR.out hL HBD.out).mono ?_; rintro e w1 ⟨rfl, h1, h2⟩; replace HB := Lib.hid (HB.out.trans (h2.below.mono HG.out)); clear HR; have HR := Lib.hid h1; clear h1 h2)
              | (go_at_call 22; refine (tNo LL _ 1 (by omega) HLL.out HBT.out).mono ?_; rintro e w2 ⟨rfl, q, rfl⟩; replace HR := Lib.hid (HR.out.below (Same.dn_below (Below.refl _ _) q)); replace HB := Lib.hid (Same.dn_below HB.out q))
              | (go_at_call 27; refine (Reader.bad g _ _ _ HR.out).mono ?_; rintro e w5 ⟨rfl, rfl⟩)
              | (go_at_call 28; refine (leftNo g _ _ HR.out).mono ?_; rintro e w6 ⟨rfl, rfl⟩))
            refine ⟨⟨k + 1, [], RL, false, by omega, by go_num, rfl, rfl, HR.out, HB.out, hL, rfl⟩, ?_⟩
            simp [intOf]; omega
        | false =>
          obtain ⟨bd, hbdd⟩ : ∃ bd, bd = true := ⟨_, rfl⟩
          have HBD : Hid (isBad RL bd 1 = true) := by rw [hbdd]; exact RefD.bad_true _ _
          have HLL : Hid (LL.length ≤ 70368744177664) := by rw [hLL]; show ([] : List UInt8).length ≤ _; simp
          have HBT : Hid (isBad LL false 1 = true) := by rw [hLL]; rfl
          replace HR : Hid (Rr wr g RL bd) := by rw [hbdd]; exact HR.out
          clear hbdd hLL
          go_wp2_with (first
            | (go_at_call 21; refine (rNo0 g RL bd _ HR.out hL HBD.out).mono ?_; rintro e w1 ⟨rfl, h1, h2⟩; replace HB := Lib.hid (HB.out.trans (h2.below.mono HG.out)); clear HR; have HR := Lib.hid h1; clear h1 h2)
            | (go_at_call 22; refine (tNo LL _ 1 (by omega) HLL.out HBT.out).mono ?_; rintro e w2 ⟨rfl, q, rfl⟩; replace HR := Lib.hid (HR.out.below (Same.dn_below (Below.refl _ _) q)); replace HB := Lib.hid (Same.dn_below HB.out q))
            | (go_at_call 27; refine (Reader.bad g _ _ _ HR.out).mono ?_; rintro e w5 ⟨rfl, rfl⟩)
            | (go_at_call 28; refine (leftNo g _ _ HR.out).mono ?_; rintro e w6 ⟨rfl, rfl⟩))
          refine ⟨⟨k + 1, [], RL, false, by omega, by go_num, rfl, rfl, HR.out, HB.out, hL, rfl⟩, ?_⟩
          simp [intOf]; omega
        · cases gd with
        | true =>
          cases hbd : isBad RL false 4 with
          | false =>
            have HBD := Lib.hid hbd
            obtain ⟨V, hV⟩ : ∃ V, V = num (got RL false 4) := ⟨_, rfl⟩
            have hVb : V < 4294967296 := by rw [hV]; exact num_lt8 _ 4 (got_len _ _ _)
            have HV := Lib.hid hV.symm
            obtain ⟨RN, hRN⟩ : ∃ RN, RN = rest RL false 4 := ⟨_, rfl⟩
            have HLN : Hid (RN.length ≤ 400) := by rw [hRN]; exact Nat.le_trans (rest_len _ _ _) hL
            have HRN := Lib.hid hRN
            clear hbd hV hRN
            have hLR : RL = LL := hLL.symm
            clear hLL
            subst hLR
            have hsz := str_size RN
            go_wp2_with (first
              | (go_at_call 23; refine (rOk1 g RL V _ HR.out hL HBD.out HV.out).mono ?_; rw [← HRN.out]; rintro e w1 ⟨rfl, h1, h2⟩; replace HB := Lib.hid (HB.out.trans (h2.below.mono HG.out)); clear HR; have HR := Lib.hid h1; clear h1 h2)
              | (go_at_call 22; refine (tOk RL V _ 4 (by omega) (by omega) HBD.out HV.out).mono ?_; rw [← HRN.out]; rintro e w2 ⟨rfl, q, rfl⟩; replace HR := Lib.hid (HR.out.below (Same.dn_below (Below.refl _ _) q)); replace HB := Lib.hid (Same.dn_below HB.out q))
              | (go_at_call 27; refine (Reader.bad g _ _ _ HR.out).mono ?_; rintro e w5 ⟨rfl, rfl⟩)
              | (go_at_call 28; refine (leftOk g _ _ HR.out).mono ?_; rintro e w6 ⟨rfl, rfl⟩))
            refine ⟨⟨k + 1, RN, RN, true, by omega, by go_num, rfl, rfl, HR.out, HB.out, HLN.out, rfl⟩, ?_⟩
            simp [intOf]; omega
          | true =>
            obtain ⟨bd, hbdd⟩ : ∃ bd, bd = false := ⟨_, rfl⟩
            have HBD : Hid (isBad RL bd 4 = true) := by rw [hbdd]; exact hbd
            have HLL : Hid (LL.length ≤ 70368744177664) := by rw [hLL]; show RL.length ≤ _; omega
            have HBT : Hid (isBad LL false 4 = true) := by rw [hLL]; exact hbd
            replace HR : Hid (Rr wr g RL bd) := by rw [hbdd]; exact HR.out
            clear hbd hbdd hLL
            go_wp2_with (first
              | (go_at_call 23; refine (rNo1 g RL bd _ HR.out hL HBD.out).mono ?_; rintro e w1 ⟨rfl, h1, h2⟩; replace HB := Lib.hid (HB.out.trans (h2.below.mono HG.out)); clear HR; have HR := Lib.hid h1; clear h1 h2)
              | (go_at_call 22; refine (tNo LL _ 4 (by omega) HLL.out HBT.out).mono ?_; rintro e w2 ⟨rfl, q, rfl⟩; replace HR := Lib.hid (HR.out.below (Same.dn_below (Below.refl _ _) q)); replace HB := Lib.hid (Same.dn_below HB.out q))
              | (go_at_call 27; refine (Reader.bad g _ _ _ HR.out).mono ?_; rintro e w5 ⟨rfl, rfl⟩)
              | (go_at_call 28; refine (leftNo g _ _ HR.out).mono ?_; rintro e w6 ⟨rfl, rfl⟩))
            refine ⟨⟨k + 1, [], RL, false, by omega, by go_num, rfl, rfl, HR.out, HB.out, hL, rfl⟩, ?_⟩
            simp [intOf]; omega
        | false =>
          obtain ⟨bd, hbdd⟩ : ∃ bd, bd = true := ⟨_, rfl⟩
          have HBD : Hid (isBad RL bd 4 = true) := by rw [hbdd]; exact RefD.bad_true _ _
          have HLL : Hid (LL.length ≤ 70368744177664) := by rw [hLL]; show ([] : List UInt8).length ≤ _; simp
          have HBT : Hid (isBad LL false 4 = true) := by rw [hLL]; rfl
          replace HR : Hid (Rr wr g RL bd) := by rw [hbdd]; exact HR.out
          clear hbdd hLL
          go_wp2_with (first
            | (go_at_call 23; refine (rNo1 g RL bd _ HR.out hL HBD.out).mono ?_; rintro e w1 ⟨rfl, h1, h2⟩; replace HB := Lib.hid (HB.out.trans (h2.below.mono HG.out)); clear HR; have HR := Lib.hid h1; clear h1 h2)
            | (go_at_call 22; refine (tNo LL _ 4 (by omega) HLL.out HBT.out).mono ?_; rintro e w2 ⟨rfl, q, rfl⟩; replace HR := Lib.hid (HR.out.below (Same.dn_below (Below.refl _ _) q)); replace HB := Lib.hid (Same.dn_below HB.out q))
            | (go_at_call 27; refine (Reader.bad g _ _ _ HR.out).mono ?_; rintro e w5 ⟨rfl, rfl⟩)
            | (go_at_call 28; refine (leftNo g _ _ HR.out).mono ?_; rintro e w6 ⟨rfl, rfl⟩))
          refine ⟨⟨k + 1, [], RL, false, by omega, by go_num, rfl, rfl, HR.out, HB.out, hL, rfl⟩, ?_⟩
          simp [intOf]; omega
        · cases gd with
        | true =>
          cases hbd : isBad RL false 8 with
          | false =>
            have HBD := Lib.hid hbd
            obtain ⟨V, hV⟩ : ∃ V, V = num (got RL false 8) := ⟨_, rfl⟩
            have hVb : V < 18446744073709551616 := by rw [hV]; exact num_lt8 _ 8 (got_len _ _ _)
            have hVw : IntKind.u64.wrap (IntKind.i64.wrap (V : Int)) = (V : Int) := i64_back V hVb
            have HV := Lib.hid hV.symm
            obtain ⟨RN, hRN⟩ : ∃ RN, RN = rest RL false 8 := ⟨_, rfl⟩
            have HLN : Hid (RN.length ≤ 400) := by rw [hRN]; exact Nat.le_trans (rest_len _ _ _) hL
            have HRN := Lib.hid hRN
            clear hbd hV hRN
            have hLR : RL = LL := hLL.symm
            clear hLL
            subst hLR
            have hsz := str_size RN
            go_wp2_with (first
              | (go_at_call 24; refine (rOk2 g RL V _ HR.out hL HBD.out HV.out).mono ?_; rw [← HRN.out]; rintro e w1 ⟨rfl, h1, h2⟩; replace HB := Lib.hid (HB.out.trans (h2.below.mono HG.out)); clear HR; have HR := Lib.hid h1; clear h1 h2)
              | (go_at_call 22; refine (tOk RL V _ 8 (by omega) (by omega) HBD.out HV.out).mono ?_; rw [← HRN.out]; rintro e w2 ⟨rfl, q, rfl⟩; replace HR := Lib.hid (HR.out.below (Same.dn_below (Below.refl _ _) q)); replace HB := Lib.hid (Same.dn_below HB.out q))
              | (go_at_call 27; refine (Reader.bad g _ _ _ HR.out).mono ?_; rintro e w5 ⟨rfl, rfl⟩)
              | (go_at_call 28; refine (leftOk g _ _ HR.out).mono ?_; rintro e w6 ⟨rfl, rfl⟩))
            refine ⟨⟨k + 1, RN, RN, true, by omega, by go_num, rfl, rfl, HR.out, HB.out, HLN.out, rfl⟩, ?_⟩
            simp [intOf]; omega
          | true =>
            obtain ⟨bd, hbdd⟩ : ∃ bd, bd = false := ⟨_, rfl⟩
            have HBD : Hid (isBad RL bd 8 = true) := by rw [hbdd]; exact hbd
            have HLL : Hid (LL.length ≤ 70368744177664) := by rw [hLL]; show RL.length ≤ _; omega
            have HBT : Hid (isBad LL false 8 = true) := by rw [hLL]; exact hbd
            replace HR : Hid (Rr wr g RL bd) := by rw [hbdd]; exact HR.out
            clear hbd hbdd hLL
            go_wp2_with (first
              | (go_at_call 24; refine (rNo2 g RL bd _ HR.out hL HBD.out).mono ?_; rintro e w1 ⟨rfl, h1, h2⟩; replace HB := Lib.hid (HB.out.trans (h2.below.mono HG.out)); clear HR; have HR := Lib.hid h1; clear h1 h2)
              | (go_at_call 22; refine (tNo LL _ 8 (by omega) HLL.out HBT.out).mono ?_; rintro e w2 ⟨rfl, q, rfl⟩; replace HR := Lib.hid (HR.out.below (Same.dn_below (Below.refl _ _) q)); replace HB := Lib.hid (Same.dn_below HB.out q))
              | (go_at_call 27; refine (Reader.bad g _ _ _ HR.out).mono ?_; rintro e w5 ⟨rfl, rfl⟩)
              | (go_at_call 28; refine (leftNo g _ _ HR.out).mono ?_; rintro e w6 ⟨rfl, rfl⟩))
            refine ⟨⟨k + 1, [], RL, false, by omega, by go_num, rfl, rfl, HR.out, HB.out, hL, rfl⟩, ?_⟩
            simp [intOf]; omega
        | false =>
          obtain ⟨bd, hbdd⟩ : ∃ bd, bd = true := ⟨_, rfl⟩
          have HBD : Hid (isBad RL bd 8 = true) := by rw [hbdd]; exact RefD.bad_true _ _
          have HLL : Hid (LL.length ≤ 70368744177664) := by rw [hLL]; show ([] : List UInt8).length ≤ _; simp
          have HBT : Hid (isBad LL false 8 = true) := by rw [hLL]; rfl
          replace HR : Hid (Rr wr g RL bd) := by rw [hbdd]; exact HR.out
          clear hbdd hLL
          go_wp2_with (first
            | (go_at_call 24; refine (rNo2 g RL bd _ HR.out hL HBD.out).mono ?_; rintro e w1 ⟨rfl, h1, h2⟩; replace HB := Lib.hid (HB.out.trans (h2.below.mono HG.out)); clear HR; have HR := Lib.hid h1; clear h1 h2)
            | (go_at_call 22; refine (tNo LL _ 8 (by omega) HLL.out HBT.out).mono ?_; rintro e w2 ⟨rfl, q, rfl⟩; replace HR := Lib.hid (HR.out.below (Same.dn_below (Below.refl _ _) q)); replace HB := Lib.hid (Same.dn_below HB.out q))
            | (go_at_call 27; refine (Reader.bad g _ _ _ HR.out).mono ?_; rintro e w5 ⟨rfl, rfl⟩)
            | (go_at_call 28; refine (leftNo g _ _ HR.out).mono ?_; rintro e w6 ⟨rfl, rfl⟩))
          refine ⟨⟨k + 1, [], RL, false, by omega, by go_num, rfl, rfl, HR.out, HB.out, hL, rfl⟩, ?_⟩
          simp [intOf]; omega
        · cases gd with
        | true =>
          cases hbd : txtBad RL false with
          | false =>
            have HBD := Lib.hid hbd
            obtain ⟨RN, hRN⟩ : ∃ RN, RN = txtRest RL false := ⟨_, rfl⟩
            have HLN : Hid (RN.length ≤ 400) := by rw [hRN]; exact Nat.le_trans (txtRest_len _ _) hL
            have HRN := Lib.hid hRN
            clear hbd hRN
            have hLR : RL = LL := hLL.symm
            clear hLL
            subst hLR
            have hsz := str_size RN
            go_wp2_with (first
              | (go_at_call 25; refine (rsOk g RL _ HR.out hL HBD.out).mono ?_; rw [← HRN.out]; rintro e w1 ⟨rfl, h1, h2⟩; replace HB := Lib.hid (HB.out.trans (h2.below.mono HG.out)); clear HR; have HR := Lib.hid h1; clear h1 h2)
              | (go_at_call 26; refine (RefD.textOk RL _ (by omega) _ _ rfl rfl HBD.out).mono ?_; rw [← HRN.out]; rintro e w2 ⟨rfl, q, rfl⟩; replace HR := Lib.hid (HR.out.below (Same.dn_below (Below.refl _ _) q)); replace HB := Lib.hid (Same.dn_below HB.out q))
              | (go_at_call 27; refine (Reader.bad g _ _ _ HR.out).mono ?_; rintro e w5 ⟨rfl, rfl⟩)
              | (go_at_call 28; refine (leftOk g _ _ HR.out).mono ?_; rintro e w6 ⟨rfl, rfl⟩))
            refine ⟨⟨k + 1, RN, RN, true, by omega, by go_num, rfl, rfl, HR.out, HB.out, HLN.out, rfl⟩, ?_⟩
            simp [intOf]; omega
          | true =>
            obtain ⟨bd, hbdd⟩ : ∃ bd, bd = false := ⟨_, rfl⟩
            have HBD : Hid (txtBad RL bd = true) := by rw [hbdd]; exact hbd
            have HLL : Hid (LL.length ≤ 70368744177664) := by rw [hLL]; show RL.length ≤ _; omega
            have HBT : Hid (txtBad LL false = true) := by rw [hLL]; exact hbd
            replace HR : Hid (Rr wr g RL bd) := by rw [hbdd]; exact HR.out
            clear hbd hbdd hLL
            go_wp2_with (first
              | (go_at_call 25; refine (rsNo g RL bd _ HR.out hL HBD.out).mono ?_; rintro e w1 ⟨rfl, ⟨R2, hL2, h1⟩, h2⟩; replace HB := Lib.hid (HB.out.trans (h2.below.mono HG.out)); clear HR; have HR := Lib.hid h1; clear h1 h2)
              | (go_at_call 26; refine (RefD.textNo LL _ HLL.out HBT.out).mono ?_; rintro e w2 ⟨t5, rfl, q, rfl⟩; replace HR := Lib.hid (HR.out.below (Same.dn_below (Below.refl _ _) q)); replace HB := Lib.hid (Same.dn_below HB.out q))
              | (go_at_call 27; refine (Reader.bad g _ _ _ HR.out).mono ?_; rintro e w5 ⟨rfl, rfl⟩)
              | (go_at_call 28; refine (leftNo g _ _ HR.out).mono ?_; rintro e w6 ⟨rfl, rfl⟩))
            refine ⟨⟨k + 1, [], R2, false, by omega, by go_num, rfl, rfl, HR.out, HB.out, hL2, rfl⟩, ?_⟩
            simp [intOf]; omega
        | false =>
          obtain ⟨bd, hbdd⟩ : ∃ bd, bd = true := ⟨_, rfl⟩
          have HBD : Hid (txtBad RL bd = true) := by rw [hbdd]; exact txtBad_true _
          have HLL : Hid (LL.length ≤ 70368744177664) := by rw [hLL]; show ([] : List UInt8).length ≤ _; simp
          have HBT : Hid (txtBad LL false = true) := by rw [hLL]; rfl
          replace HR : Hid (Rr wr g RL bd) := by rw [hbdd]; exact HR.out
          clear hbdd hLL
          go_wp2_with (first
            | (go_at_call 25; refine (rsNo g RL bd _ HR.out hL HBD.out).mono ?_; rintro e w1 ⟨rfl, ⟨R2, hL2, h1⟩, h2⟩; replace HB := Lib.hid (HB.out.trans (h2.below.mono HG.out)); clear HR; have HR := Lib.hid h1; clear h1 h2)
            | (go_at_call 26; refine (RefD.textNo LL _ HLL.out HBT.out).mono ?_; rintro e w2 ⟨t5, rfl, q, rfl⟩; replace HR := Lib.hid (HR.out.below (Same.dn_below (Below.refl _ _) q)); replace HB := Lib.hid (Same.dn_below HB.out q))
            | (go_at_call 27; refine (Reader.bad g _ _ _ HR.out).mono ?_; rintro e w5 ⟨rfl, rfl⟩)
            | (go_at_call 28; refine (leftNo g _ _ HR.out).mono ?_; rintro e w6 ⟨rfl, rfl⟩))
          refine ⟨⟨k + 1, [], R2, false, by omega, by go_num, rfl, rfl, HR.out, HB.out, hL2, rfl⟩, ?_⟩
          simp [intOf]; omega
      · go_wp2
        go_ret
        exact ⟨rfl, HB.out⟩
  · have tg : Hid True := trivial
    by_cases hl : l.length ≤ 400
    · have hk : ¬ ks.length ≤ 40 := fun h => h1 ⟨hl, h⟩
      clear h1
      go_enter Try.func5, Try.ntmps5
      go_wp2_with (first
        | (clear tg; go_at_call 12; refine (Awake.awake _).mono ?_; rintro e w1 ⟨rfl, h1⟩; have HB := Lib.hid h1; clear h1)
        | (go_at_call 12; refine (Awake.awake _).mono ?_; rintro e w1 ⟨rfl, h1⟩; replace HB := Lib.hid (step2 HB.out HB.out.size h1); clear h1))
      go_ret
      exact ⟨rfl, HB.out⟩
    · clear h1
      go_enter Try.func5, Try.ntmps5
      go_wp2_with (first
        | (clear tg; go_at_call 12; refine (Awake.awake _).mono ?_; rintro e w1 ⟨rfl, h1⟩; have HB := Lib.hid h1; clear h1)
        | (go_at_call 12; refine (Awake.awake _).mono ?_; rintro e w1 ⟨rfl, h1⟩; replace HB := Lib.hid (step2 HB.out HB.out.size h1); clear h1))
      go_ret
      exact ⟨rfl, HB.out⟩
end Go.Proofs.Ytdojhdglbajinaa.TakesWalk
