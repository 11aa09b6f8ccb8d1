/- DERIVED. The walk of AnswerReads. -/
import Derived.Test.YtdojhdglbajinaaRefD
import Derived.Test.YtdojhdglbajinaaWritesWalk
import Derived.Laws.StructEq
namespace Go.Proofs.Ytdojhdglbajinaa.ReadsWalk
open Go.RowKit Go.Proofs.Ytdojhdglbajinaa.Mem Go.Proofs.Ytdojhdglbajinaa.Writer Go.Proofs.Ytdojhdglbajinaa.Reader Go.Proofs.Ytdojhdglbajinaa.Enc Go.Proofs.Ytdojhdglbajinaa.Dec Go.Proofs.Ytdojhdglbajinaa.Plain Go.Proofs.Ytdojhdglbajinaa.Reg Go.Proofs.YtdojhdglbajinaaW.PrintLast Go.Proofs.Ytdojhdglbajinaa.RefEnc Go.Proofs.Ytdojhdglbajinaa.WritesWalk
set_option linter.unusedVariables false
set_option linter.unusedSimpArgs false

theorem eq33 (a : Ans) (w : World) : (Op.equalIn 10000 33 (rval a) (rval a)).run Try.prog w = .ok true w := by
  have u2 := Try.underlying2
  have u3 := Try.underlying3
  have u9 := Try.underlying9
  have hS : Try.prog.underlying 33 = some (.struct (Try.prog.fieldsOf 33)) := by kernel_rfl
  have hp : Try.prog.stoodInHeld 33 = false := by kernel_rfl
  unfold rval
  rw [show (10000 : Nat) = 9999 + 1 from rfl, run_equalIn_struct w 9999 33 _ _ hS hp]
  simp only [Program.fieldsOf, Try.underlying33]
  go_simp
theorem eqg33 : Try.prog.eqGuardType Try.prog.depth 33 = false := by kernel_rfl
/-- What is read: an answer. -/
theorem decOk (l : List UInt8) (a : Ans) (A : Option Addr) (c : Nat) (w : World) (h : Rd w A l) (hl : l.length ≤ 1000) (ho : okAns l = true) (ha : rdAns l = a) :
    Calls Try.prog 15 #[.slice A l.length c] w fun e w' => ∃ B c', e = .returned (.tuple #[.agg #[.int .i64 a.sort, .int .i64 a.status, .int .i64 a.first, .int .i64 a.total, .string (str a.kind), .slice B a.body.length c'], .int .i64 0]) ∧ Rd w' B a.body ∧ Below w.heap.size w w' := by
  have h0 := Dec.decode A c l w h (by omega)
  rw [show resAns l = a by unfold resAns; rw [ho, ← ha]; rfl, show errAns l = 0 by unfold errAns; rw [ho]; rfl] at h0
  exact h0
theorem decNo (l : List UInt8) (A : Option Addr) (c : Nat) (w : World) (h : Rd w A l) (hl : l.length ≤ 70368744177664) (ho : okAns l = false) :
    Calls Try.prog 15 #[.slice A l.length c] w fun e w' => ∃ B c', e = .returned (.tuple #[.agg #[.int .i64 0, .int .i64 0, .int .i64 0, .int .i64 0, .string { data := #[] }, .slice B 0 c'], .int .i64 2]) ∧ Below w.heap.size w w' := by
  have h0 := Dec.decode A c l w h (by omega)
  rw [show resAns l = zeroAns by unfold resAns; rw [ho]; rfl, show errAns l = 2 by unfold errAns; rw [ho]; rfl] at h0
  exact h0.mono fun e w' ⟨B, c', h1, _, h2⟩ => ⟨B, c', h1, h2⟩
theorem rdecOk (l : List UInt8) (a : Ans) (w : World) (hl : l.length ≤ 1000) (ho : okAns l = true) (ha : rdAns l = a) :
    Calls Try.prog 19 #[.string (str l)] w fun e w' => e = .returned (.tuple #[.agg #[.int .i64 a.sort, .int .i64 a.status, .int .i64 a.first, .int .i64 a.total, .string (str a.kind), .string (str a.body)], .bool true]) ∧ Below w.heap.size w w' := by
  have h0 := RefD.decode l w (by omega)
  rw [show resAns l = a by unfold resAns; rw [ho, ← ha]; rfl, ho] at h0
  exact h0
theorem rdecNo (l : List UInt8) (w : World) (hl : l.length ≤ 1000) (ho : okAns l = false) :
    Calls Try.prog 19 #[.string (str l)] w fun e w' => e = .returned (.tuple #[.agg #[.int .i64 0, .int .i64 0, .int .i64 0, .int .i64 0, .string { data := #[] }, .string { data := #[] }], .bool false]) ∧ Below w.heap.size w w' := by
  have h0 := RefD.decode l w (by omega)
  rw [show resAns l = zeroAns by unfold resAns; rw [ho]; rfl, ho] at h0
  exact h0
theorem same0 (A B : Option Addr) (c d : Nat) (w : World) : Calls Try.prog 18 #[.agg #[.int .i64 0, .int .i64 0, .int .i64 0, .int .i64 0, .string { data := #[] }, .slice A 0 c], .agg #[.int .i64 0, .int .i64 0, .int .i64 0, .int .i64 0, .string { data := #[] }, .slice B 0 d]] w fun e w' => e = .returned (.bool true) ∧ Below w.heap.size w w' := by
  have := Same.sameC zeroAns zeroAns A B c d w (Rd.nil _ _) (Rd.nil _ _) (by decide) (by decide)
  rw [Same.same_refl] at this
  exact this
theorem encL (l : List UInt8) (a : Ans) (A : Option Addr) (c : Nat) (w : World) (he : enc a = l) (h : Rd w A a.body) (hk : a.kind.length ≤ 100000) (hl : a.body.length ≤ 100000) :
    Calls Try.prog 14 #[val a A c] w fun e w' => ∃ B c', e = .returned (.slice B l.length c') ∧ Rd w' B l ∧ Below w.heap.size w w' := by
  have h0 := Enc.encode a A c w h hk hl
  rw [he] at h0
  exact h0.mono fun e w' ⟨B, c', h1, h2, h3⟩ => ⟨B, c', h1, (rd_own h2).2.2.2, h3⟩
theorem of25E (a : Ans) (A : Option Addr) (c : Nat) (w : World) (hb : Rd w A a.body) :
    Calls Try.prog 17 #[val a A c] w fun e w' => e = .returned (.agg #[.int .i64 a.sort, .int .i64 a.status, .int .i64 a.first, .int .i64 a.total, .string (str a.kind), .string (str a.body)]) ∧ Below w.heap.size w w' := Of.of25 a A c w hb
theorem box_fact {w w' : World} {X : Obj} (h : Below (w.alloc X).heap.size (w.alloc X) w') : w'.heap[w.heap.size]? = some X := Awake.box_fact h
set_option maxHeartbeats 8000000 in
set_option maxRecDepth 100000 in
theorem law (A : Option Addr) (c : Nat) (l : List UInt8) (w : World) (rd : Rd w A l) :
    Calls Try.prog 4 #[.slice A l.length c] w fun e w' => e = .returned (.bool true) ∧ Below w.heap.size w w' := by
  have hz : l.length ≤ 9223372036854775807 := rd.1
  have RA := Lib.hid rd
  clear rd
  have tg : Hid True := trivial
  by_cases hlen : l.length ≤ 1000
  · cases ho : okAns l with
    | false =>
      have HO := Lib.hid ho
      clear ho
      go_enter Try.func4, Try.ntmps4
      go_wp2_with (first
        | (go_at_call 12; refine (Awake.awake _).mono ?_; rintro e w1 ⟨rfl, h1⟩; have HB := Lib.hid h1; replace RA := Lib.hid (RA.out.below h1); clear h1)
        | (go_at_call 15; refine (decNo l A c _ RA.out (by omega) HO.out).mono ?_; rintro e w2 ⟨B, c2, rfl, h1⟩; replace HB := Lib.hid (step2 HB.out HB.out.size h1); replace RA := Lib.hid (RA.out.below h1); have hcv := fun X => run_string (P := Try.prog) (src := 22) (dst := 9) (c := c) Try.underlying22 Try.underlying5 Try.underlying9 (RA.out.below (below1 w2 X)); clear h1)
        | (go_at_call 19; refine (rdecNo l _ hlen HO.out).mono ?_; rintro e w3 ⟨rfl, h1⟩; have h2 := box_fact h1; replace HB := Lib.hid (step2 (HB.out.alloc HB.out.size _) (HB.out.alloc HB.out.size _).size h1); have HB3 := Lib.hid h2; have qf := fun X => blk_on HB3.out (below1 w3 X); have q0 := fun X => (Dec.pfacts (qf X)).1; have q1 := fun X => (Dec.pfacts (qf X)).2.1; have q2 := fun X => (Dec.pfacts (qf X)).2.2.1; have q3 := fun X => (Dec.pfacts (qf X)).2.2.2.1; have q4 := fun X => (Dec.pfacts (qf X)).2.2.2.2.1; have q5 := fun X => (Dec.pfacts (qf X)).2.2.2.2.2; clear qf h1 h2 hcv)
        | (go_at_call 18; refine (same0 _ _ _ _ _).mono ?_; rintro e w4 ⟨rfl, h1⟩; replace HB := Lib.hid (step2 (HB.out.alloc HB.out.size _) (HB.out.alloc HB.out.size _).size h1); clear h1))
      go_ret
      exact ⟨rfl, HB.out⟩
    | true =>
      obtain ⟨a, ha⟩ : ∃ a, a = rdAns l := ⟨_, rfl⟩
      have HE : Hid (enc a = l) := by rw [ha]; exact (enc_rd ho).1
      have hLen : 29 + a.kind.length + a.body.length ≤ 1000 := by rw [← enc_len, HE.out]; exact hlen
      have hk : a.kind.length ≤ 100000 := by omega
      have hl : a.body.length ≤ 100000 := by omega
      have HO := Lib.hid ho
      have HA := Lib.hid ha.symm
      clear ho ha hLen
      go_enter Try.func4, Try.ntmps4
      go_wp2_with (first
        | (go_at_call 12; refine (Awake.awake _).mono ?_; rintro e w1 ⟨rfl, h1⟩; have HB := Lib.hid h1; replace RA := Lib.hid (RA.out.below h1); clear h1)
        | (go_at_call 15; refine (decOk l a A c _ RA.out hlen HO.out HA.out).mono ?_; rintro e w2 ⟨B, c2, rfl, h0, h1⟩; have RB := Lib.hid h0; replace HB := Lib.hid (step2 HB.out HB.out.size h1); replace RA := Lib.hid (RA.out.below h1); have hcv := fun X => run_string (P := Try.prog) (src := 22) (dst := 9) (c := c) Try.underlying22 Try.underlying5 Try.underlying9 (RA.out.below (below1 w2 X)); clear h0 h1)
        | (go_at_call 19; refine (rdecOk l a _ hlen HO.out HA.out).mono ?_; rintro e w3 ⟨rfl, h1⟩; have h2 := box_fact h1; have hS := step2 (below1 w2 _) (by simp) h1; replace RA := Lib.hid (RA.out.below hS); replace RB := Lib.hid (RB.out.below hS); replace HB := Lib.hid (step2 HB.out HB.out.size hS); have HB3 := Lib.hid h2; clear h1 h2 hS hcv))
      obtain ⟨b3, hb3⟩ : ∃ b, b = w2.heap.size := ⟨_, rfl⟩
      obtain ⟨b5, hb5⟩ : ∃ b, b = w3.heap.size := ⟨_, rfl⟩
      obtain ⟨wb, hwb⟩ : ∃ wb, wb = w3.alloc (.cells (rcells a) 33) := ⟨_, rfl⟩
      have hbel : Below w3.heap.size w3 wb := by rw [hwb]; exact below1 _ _
      have HB5 : Hid (wb.heap[b5]? = some (.cells (rcells a) 33 (0, 0))) := by show _ = _; rw [hwb, hb5]; show (w3.heap.push _)[w3.heap.size]? = _; rw [Array.getElem?_push, if_pos rfl]
      rw [← hb3] at HB3
      replace HB3 := Lib.hid (blk_on HB3.out hbel)
      replace RA := Lib.hid (RA.out.below hbel)
      replace RB := Lib.hid (RB.out.below hbel)
      replace HB := Lib.hid (step2 HB.out HB.out.size hbel)
      rw [← hb3, ← hb5]
      rw [show w3.alloc (.cells #[.int .i64 a.sort, .int .i64 a.status, .int .i64 a.first, .int .i64 a.total, .string (str a.kind), .string (str a.body)] 33) = wb from hwb.symm]
      clear hwb hbel hb3 hb5
      refine start_ (n := 17) (S := fun w' => Below wb.heap.size wb w') (ds := []) #[false, false, false, false, false, false, false, false, false, false, false, false, false, false, false, false, false] (by kernel_rfl) rfl rfl ((Below.refl _ _).drew) (fun hHeld => ?_)
      obtain ⟨wd, hwd⟩ : ∃ wd, wd = World.drew wb := ⟨_, rfl⟩
      rw [← hwd] at hHeld ⊢
      clear hwd
      refine again_ (S' := fun w' => Below wd.heap.size wd w') (Below.refl _ _) (fun w' h => step2 hHeld hHeld.size h) ?_
      replace HB3 := Lib.hid (blk_on HB3.out hHeld)
      replace HB5 := Lib.hid (blk_on HB5.out hHeld)
      replace RA := Lib.hid (RA.out.below hHeld)
      replace RB := Lib.hid (RB.out.below hHeld)
      replace HB := Lib.hid (HB.out.trans (hHeld.mono HB.out.size))
      clear hHeld
      have hHeld : Below wd.heap.size wd wd := Below.refl _ _
      refine pure_ (i := 0) (N := some 35) (v := ?_) (a' := ?_) #[true, false, false, false, false, false, false, false, false, false, false, false, false, false, false, false, false] rfl rfl (by kernel_rfl) (fun _ _ _ h => h) (Or.inl ⟨by rfl, ?_⟩) ?_ ?_
      rotate_left
      · intro w'
        go_simp
        with_reducible rfl
      rotate_left
      · simp only [Act.put, List.setIfInBounds_toArray, List.set_cons_zero, List.set_cons_succ]
        rfl
      refine pure_ (i := 1) (N := some 36) (v := ?_) (a' := ?_) #[true, true, false, false, false, false, false, false, false, false, false, false, false, false, false, false, false] rfl rfl (by kernel_rfl) (fun _ _ _ h => h) (Or.inl ⟨by rfl, ?_⟩) ?_ ?_
      rotate_left
      · intro w'
        go_simp
        with_reducible rfl
      rotate_left
      · simp only [Act.put, List.setIfInBounds_toArray, List.set_cons_zero, List.set_cons_succ]
        rfl
      refine pure_ (i := 2) (N := some 37) (v := ?_) (a' := ?_) #[true, true, true, false, false, false, false, false, false, false, false, false, false, false, false, false, false] rfl rfl (by kernel_rfl) (fun _ _ _ h => h) (Or.inl ⟨by rfl, ?_⟩) ?_ ?_
      rotate_left
      · intro w'
        go_simp
        with_reducible rfl
      rotate_left
      · simp only [Act.put, List.setIfInBounds_toArray, List.set_cons_zero, List.set_cons_succ]
        rfl
      refine take_ (i := 3) (N := some 38) (v := ?_) (a' := ?_) #[true, true, true, true, false, false, false, false, false, false, false, false, false, false, false, false, false] rfl rfl (by kernel_rfl) (fun _ _ _ h => h) (Or.inl ⟨by rfl, ?_⟩) hHeld ?_ ?_
      rotate_left
      · intro w' s0
        obtain ⟨e0, e1, e2, e3, e4, e5⟩ := Dec.pfacts ((s0.block b3 (blk_lt HB3.out)).trans HB3.out)
        go_simp
        with_reducible rfl
      rotate_left
      · simp only [Act.put, List.setIfInBounds_toArray, List.set_cons_zero, List.set_cons_succ]
        rfl
      refine take_ (i := 5) (N := some 40) (v := ?_) (a' := ?_) #[true, true, true, true, false, true, false, false, false, false, false, false, false, false, false, false, false] rfl rfl (by kernel_rfl) (fun _ _ _ h => h) (Or.inl ⟨by rfl, ?_⟩) hHeld ?_ ?_
      rotate_left
      · intro w' s0
        obtain ⟨e0, e1, e2, e3, e4, e5⟩ := RefEnc.rfacts ((s0.block b5 (blk_lt HB5.out)).trans HB5.out)
        replace e0 := e0.out
        replace e1 := e1.out
        replace e2 := e2.out
        replace e3 := e3.out
        replace e4 := e4.out
        replace e5 := e5.out
        go_simp
        with_reducible rfl
      rotate_left
      · simp only [Act.put, List.setIfInBounds_toArray, List.set_cons_zero, List.set_cons_succ]
        rfl
      refine one_ (i := 4) (N := some 39) #[true, true, true, true, true, true, false, false, false, false, false, false, false, false, false, false, false] rfl rfl (by kernel_rfl) (by decide) (fun K hK => ?_)
      refine goes_ Try.func17 (by kernel_rfl) rfl #[val a B c2] (by rfl) rfl rfl (by first | rfl | (simp only [List.map_toArray, List.map_cons, List.map_nil]; rfl)) ?_
      refine (of25E a B c2 _ (RB.out.below hHeld)).mono ?_
      rintro e w3 ⟨rfl, hb⟩
      refine ⟨_, rfl, ?_⟩
      refine hK.out _ _ (step2 hHeld hHeld.size hb) (fun hHeld' => ?_)
      clear hK K hHeld'
      refine norm_ (a' := ?_) ?_ ?_
      rotate_left
      · show Act.put _ (some 39) _ = _
        simp only [Act.put, List.setIfInBounds_toArray, List.set_cons_zero, List.set_cons_succ]
        rfl
      replace hHeld := step2 hHeld hHeld.size hb
      clear hb
      refine pure_ (i := 6) (N := some 41) (v := ?_) (a' := ?_) #[true, true, true, true, true, true, true, false, false, false, false, false, false, false, false, false, false] rfl rfl (by kernel_rfl) (fun _ _ _ h => h) (Or.inl ⟨by rfl, ?_⟩) ?_ ?_
      rotate_left
      · intro w'
        have z := eq33 a w'
        have zg := eqg33
        unfold RefEnc.rval at z
        go_simp
        with_reducible rfl
      rotate_left
      · simp only [Act.put, List.setIfInBounds_toArray, List.set_cons_zero, List.set_cons_succ]
        rfl
      refine pure_ (i := 7) (N := some 42) (v := ?_) (a' := ?_) #[true, true, true, true, true, true, true, true, false, false, false, false, false, false, false, false, false] rfl rfl (by kernel_rfl) (fun _ _ _ h => h) (Or.inl ⟨by rfl, ?_⟩) ?_ ?_
      rotate_left
      · intro w'
        go_simp
        with_reducible rfl
      rotate_left
      · simp only [Act.put, List.setIfInBounds_toArray, List.set_cons_zero, List.set_cons_succ]
        rfl
      refine pure_ (i := 8) (N := some 43) (v := ?_) (a' := ?_) #[true, true, true, true, true, true, true, true, true, false, false, false, false, false, false, false, false] rfl rfl (by kernel_rfl) (fun _ _ _ h => h) (Or.inl ⟨by rfl, ?_⟩) ?_ ?_
      rotate_left
      · intro w'
        go_simp
        with_reducible rfl
      rotate_left
      · simp only [Act.put, List.setIfInBounds_toArray, List.set_cons_zero, List.set_cons_succ]
        rfl
      refine pure_ (i := 12) (N := some 47) (v := ?_) (a' := ?_) #[true, true, true, true, true, true, true, true, true, false, false, false, true, false, false, false, false] rfl rfl (by kernel_rfl) (fun _ _ _ h => h) (Or.inl ⟨by rfl, ?_⟩) ?_ ?_
      rotate_left
      · intro w'
        go_simp
        with_reducible rfl
      rotate_left
      · simp only [Act.put, List.setIfInBounds_toArray, List.set_cons_zero, List.set_cons_succ]
        rfl
      refine take_ (i := 9) (N := some 44) (v := ?_) (a' := ?_) #[true, true, true, true, true, true, true, true, true, true, false, false, true, false, false, false, false] rfl rfl (by kernel_rfl) (fun _ _ _ h => h) (Or.inl ⟨by rfl, ?_⟩) hHeld ?_ ?_
      rotate_left
      · intro w' s0
        obtain ⟨e0, e1, e2, e3, e4, e5⟩ := Dec.pfacts ((s0.block b3 (blk_lt HB3.out)).trans HB3.out)
        go_simp
        with_reducible rfl
      rotate_left
      · simp only [Act.put, List.setIfInBounds_toArray, List.set_cons_zero, List.set_cons_succ]
        rfl
      refine take_ (i := 13) (N := some 48) (v := ?_) (a' := ?_) #[true, true, true, true, true, true, true, true, true, true, false, false, true, true, false, false, false] rfl rfl (by kernel_rfl) (fun _ _ _ h => h) (Or.inl ⟨by rfl, ?_⟩) hHeld ?_ ?_
      rotate_left
      · intro w' s0
        have e0 := run_string (P := Try.prog) (src := 22) (dst := 9) (c := c) Try.underlying22 Try.underlying5 Try.underlying9 (RA.out.below s0)
        go_simp
        with_reducible rfl
      rotate_left
      · simp only [Act.put, List.setIfInBounds_toArray, List.set_cons_zero, List.set_cons_succ]
        rfl
      refine one_ (i := 10) (N := some 45) #[true, true, true, true, true, true, true, true, true, true, true, false, true, true, false, false, false] rfl rfl (by kernel_rfl) (by decide) (fun K hK => ?_)
      refine goes_ Try.func14 (by kernel_rfl) rfl #[val a B c2] (by rfl) rfl rfl (by first | rfl | (simp only [List.map_toArray, List.map_cons, List.map_nil]; rfl)) ?_
      refine (encL _ _ _ _ _ HE.out (RB.out.below hHeld) hk hl).mono ?_
      rintro e w3 ⟨B3, c3, rfl, h3, hb⟩
      refine ⟨_, rfl, ?_⟩
      have hAll := step2 hHeld hHeld.size hb
      replace HB3 := Lib.hid (blk_on HB3.out hAll)
      replace HB5 := Lib.hid (blk_on HB5.out hAll)
      replace RA := Lib.hid (RA.out.below hAll)
      replace RB := Lib.hid (RB.out.below hAll)
      replace HB := Lib.hid (HB.out.trans (hAll.mono HB.out.size))
      clear hAll
      refine hK.out _ _ (step2 hHeld hHeld.size hb) (fun hHeld' => ?_)
      clear hK K hHeld'
      refine norm_ (a' := ?_) ?_ ?_
      rotate_left
      · show Act.put _ (some 45) _ = _
        simp only [Act.put, List.setIfInBounds_toArray, List.set_cons_zero, List.set_cons_succ]
        rfl
      refine again_ (S' := fun w' => Below w3.heap.size w3 w') (Below.refl _ _) (fun w' h => step2 (step2 hHeld hHeld.size hb) (Below.size (step2 hHeld hHeld.size hb)) h) ?_
      clear hHeld
      have hHeld : Below w3.heap.size w3 w3 := Below.refl _ _
      have RE := Lib.hid h3
      clear h3
      refine take_ (i := 11) (N := some 46) (v := ?_) (a' := ?_) #[true, true, true, true, true, true, true, true, true, true, true, true, true, true, false, false, false] rfl rfl (by kernel_rfl) (fun _ _ _ h => h) (Or.inl ⟨by rfl, ?_⟩) hHeld ?_ ?_
      rotate_left
      · intro w' s0
        have e0 := run_string (P := Try.prog) (src := 22) (dst := 9) (c := c3) Try.underlying22 Try.underlying5 Try.underlying9 (RE.out.below s0)
        go_simp
        with_reducible rfl
      rotate_left
      · simp only [Act.put, List.setIfInBounds_toArray, List.set_cons_zero, List.set_cons_succ]
        rfl
      refine pure_ (i := 14) (N := some 49) (v := ?_) (a' := ?_) #[true, true, true, true, true, true, true, true, true, true, true, true, true, true, true, false, false] rfl rfl (by kernel_rfl) (fun _ _ _ h => h) (Or.inl ⟨by rfl, ?_⟩) ?_ ?_
      rotate_left
      · intro w'
        go_simp
        with_reducible rfl
      rotate_left
      · simp only [Act.put, List.setIfInBounds_toArray, List.set_cons_zero, List.set_cons_succ]
        rfl
      refine pure_ (i := 15) (N := some 50) (v := ?_) (a' := ?_) #[true, true, true, true, true, true, true, true, true, true, true, true, true, true, true, true, false] rfl rfl (by kernel_rfl) (fun _ _ _ h => h) (Or.inl ⟨by rfl, ?_⟩) ?_ ?_
      rotate_left
      · intro w'
        go_simp
        with_reducible rfl
      rotate_left
      · simp only [Act.put, List.setIfInBounds_toArray, List.set_cons_zero, List.set_cons_succ]
        rfl
      refine pure_ (i := 16) (N := some 2) (v := ?_) (a' := ?_) #[true, true, true, true, true, true, true, true, true, true, true, true, true, true, true, true, true] rfl rfl (by kernel_rfl) (fun _ _ _ h => h) (Or.inl ⟨by rfl, ?_⟩) ?_ ?_
      rotate_left
      · intro w'
        go_simp
        with_reducible rfl
      rotate_left
      · simp only [Act.put, List.setIfInBounds_toArray, List.set_cons_zero, List.set_cons_succ]
        rfl
      refine done_ (by kernel_rfl) ?_
      go_wp2
      go_ret
      exact ⟨rfl, HB.out.trans (hHeld.mono HB.out.size)⟩
  · go_enter Try.func4, Try.ntmps4
    go_wp2_with (first
      | (clear tg; go_at_call 12; refine (Awake.awake _).mono ?_; rintro e w1 ⟨rfl, h1⟩; have HB := Lib.hid h1; clear h1)
      | (go_at_call 12; refine (Awake.awake _).mono ?_; rintro e w1 ⟨rfl, h1⟩; replace HB := Lib.hid (step2 HB.out HB.out.size h1); clear h1))
    go_ret
    exact ⟨rfl, HB.out⟩
end Go.Proofs.Ytdojhdglbajinaa.ReadsWalk
