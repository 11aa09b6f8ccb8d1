/- DERIVED. The walk of ScriptResults. -/
import Derived.Test.YtdojhdglbajinaaScrRef
import Derived.Test.YtdojhdglbajinaaScrAwake
import Derived.Test.YtdojhdglbajinaaWritesWalk
namespace Go.Proofs.Ytdojhdglbajinaa.ScrResWalk
open Go.RowKit Go.Proofs.Ytdojhdglbajinaa.Mem Go.Proofs.Ytdojhdglbajinaa.Writer Go.Proofs.Ytdojhdglbajinaa.Reader Go.Proofs.Ytdojhdglbajinaa.Enc Go.Proofs.Ytdojhdglbajinaa.Plain Go.Proofs.Ytdojhdglbajinaa.ScrRes Go.Proofs.Ytdojhdglbajinaa.ScrRef Go.Proofs.Ytdojhdglbajinaa.WritesWalk Go.Proofs.Ytdojhdglbajinaa.Reg Go.Proofs.YtdojhdglbajinaaW.PrintLast
set_option linter.unusedVariables false
set_option linter.unusedSimpArgs false

theorem wd1 {a b c : World} (h : Below a.heap.size a b) (k : Below b.heap.size b c) : Below a.heap.size a c := step2 h h.size k
theorem sameR (a : Ans) (A : Option Addr) (c : Nat) (w : World) (h1 : Rd w A a.body) (hl : a.body.length ≤ 100000) : Calls Try.prog 18 #[val a A c, val a A c] w fun e w' => e = .returned (.bool true) ∧ Below w.heap.size w w' := by
  have := Same.sameC a a A A c c w h1 h1 (by omega) (by omega)
  rw [Same.same_refl] at this
  exact this
set_option maxHeartbeats 1000000 in
set_option maxRecDepth 100000 in
theorem law (r : ResV) (A : Option Addr) (c : Nat) (w : World) (hb : Rd w A r.a.body) (hs : r.s.length ≤ 140737488351232) (hk : r.a.kind.length ≤ 140737488351232) (hl : r.a.body.length ≤ 140737488351232) :
    Calls Try.prog 9 #[val72 r A c] w fun e w' => e = .returned (.bool true) ∧ Below w.heap.size w w' := by
  have RA := Lib.hid hb
  have s2 := str_size r.s
  have s7 := str_size r.a.kind
  clear hb
  have HX : Hid ((w.alloc (.cells (cells72 r A c) 72)).heap[w.heap.size]? = some (.cells (cells72 r A c) 72 (0, 0))) := heap_alloc_last w _
  unfold val72
  by_cases hf : r.s.length + r.a.kind.length + r.a.body.length ≤ 1000
  · have hs' : r.s.length ≤ 100000 := by omega
    have hk' : r.a.kind.length ≤ 100000 := by omega
    have hb' : r.a.body.length ≤ 100000 := by omega
    have hd : decide (1000 < (r.s.length : Int) + (r.a.kind.length : Int) + (r.a.body.length : Int)) = false := decide_eq_false (by omega)
    go_enter Try.func9, Try.ntmps9
    go_wp2_with (go_at_call 36; refine (ScrAwake.awake _).mono ?_; rintro e w2 ⟨rfl, h1⟩; have HB := Lib.hid (step2 (below1 w _) (by simp) h1); have HB1 := Lib.hid (blk_on HX.out h1); obtain ⟨p0, p1, p2, p3, p4, p5, p6, p7, p8⟩ := facts72 HB1.out; replace RA := Lib.hid (RA.out.below HB.out); clear h1 HX)
    clear p0 p1 p2 p3 p4 p5 p6 p7 p8
    refine start_ (n := 15) (S := fun w' => Below w2.heap.size w2 w') (ds := []) #[false, false, false, false, false, false, false, false, false, false, false, false, false, false, false] (by kernel_rfl) rfl rfl ((Below.refl _ _).drew) (fun hHeld => ?_)
    obtain ⟨wd, hwd⟩ : ∃ wd, wd = World.drew w2 := ⟨_, rfl⟩
    rw [← hwd] at hHeld ⊢
    clear hwd
    refine again_ (S' := fun w' => Below wd.heap.size wd w') (Below.refl _ _) (fun w' h => step2 hHeld hHeld.size h) ?_
    replace HB1 := Lib.hid (blk_on HB1.out hHeld)
    replace RA := Lib.hid (RA.out.below hHeld)
    replace HB := Lib.hid (HB.out.trans (hHeld.mono HB.out.size))
    clear hHeld
    have hHeld : Below wd.heap.size wd wd := Below.refl _ _
    refine take_ (i := 0) (N := some 22) (v := ?_) (a' := ?_) #[true, false, false, false, false, false, false, false, false, false, false, false, false, false, false] rfl rfl (by kernel_rfl) (fun _ _ _ h => h) (Or.inl ⟨by rfl, ?_⟩) hHeld ?_ ?_
    rotate_left
    · intro w' s0
      obtain ⟨e0, e1, e2, e3, e4, e5, e6, e7, e8⟩ := facts72 ((s0.block w.heap.size (blk_lt HB1.out)).trans HB1.out)
      go_simp
      with_reducible rfl
    rotate_left
    · simp only [Act.put, List.setIfInBounds_toArray, List.set_cons_zero, List.set_cons_succ]
      rfl
    refine take_ (i := 3) (N := some 25) (v := ?_) (a' := ?_) #[true, false, false, true, false, false, false, false, false, false, false, false, false, false, false] rfl rfl (by kernel_rfl) (fun _ _ _ h => h) (Or.inl ⟨by rfl, ?_⟩) hHeld ?_ ?_
    rotate_left
    · intro w' s0
      obtain ⟨e0, e1, e2, e3, e4, e5, e6, e7, e8⟩ := facts72 ((s0.block w.heap.size (blk_lt HB1.out)).trans HB1.out)
      go_simp
      with_reducible rfl
    rotate_left
    · simp only [Act.put, List.setIfInBounds_toArray, List.set_cons_zero, List.set_cons_succ]
      rfl
    refine one_ (i := 1) (N := some 23) #[true, true, false, true, false, false, false, false, false, false, false, false, false, false, false] rfl rfl (by kernel_rfl) (by decide) (fun K hK => ?_)
    refine goes_ Try.func39 (by kernel_rfl) rfl #[val72 r A c] (by rfl) rfl rfl (by first | rfl | (simp only [List.map_toArray, List.map_cons, List.map_nil]; rfl)) ?_
    refine (ScrRes.bytes r A c _ (RA.out.below hHeld) hs' hk' hb').mono ?_
    have hb0 := hHeld
    rintro e w3 ⟨B1, c1, rfl, h0, hb⟩
    refine ⟨_, rfl, ?_⟩
    refine hK.out _ _ (step2 hHeld hHeld.size hb) (fun hHeld' => ?_)
    clear hK K hHeld'
    refine norm_ (a' := ?_) ?_ ?_
    rotate_left
    · show Act.put _ (some 23) _ = _
      simp only [Act.put, List.setIfInBounds_toArray, List.set_cons_zero, List.set_cons_succ]
      rfl
    refine again_ (S' := fun w' => Below w3.heap.size w3 w') (Below.refl _ _) (fun w' h => step2 (step2 hHeld hHeld.size hb) (Below.size (step2 hHeld hHeld.size hb)) h) ?_
    clear hHeld
    have hHeld : Below w3.heap.size w3 w3 := Below.refl _ _
    replace HB1 := Lib.hid (blk_on HB1.out (wd1 hb0 hb))
    replace RA := Lib.hid (RA.out.below (wd1 hb0 hb))
    replace HB := Lib.hid (HB.out.trans ((wd1 hb0 hb).mono HB.out.size))
    have RE := Lib.hid h0
    clear h0 hb hb0
    refine take_ (i := 2) (N := some 24) (v := ?_) (a' := ?_) #[true, true, true, true, false, false, false, false, false, false, false, false, false, false, false] rfl rfl (by kernel_rfl) (fun _ _ _ h => h) (Or.inl ⟨by rfl, ?_⟩) hHeld ?_ ?_
    rotate_left
    · intro w' s0
      have e0 := run_string (P := Try.prog) (src := 22) (dst := 9) (c := c1) Try.underlying22 Try.underlying5 Try.underlying9 (RE.out.below s0)
      go_simp
      with_reducible rfl
    rotate_left
    · simp only [Act.put, List.setIfInBounds_toArray, List.set_cons_zero, List.set_cons_succ]
      rfl
    refine one_ (i := 4) (N := some 26) #[true, true, true, true, true, false, false, false, false, false, false, false, false, false, false] rfl rfl (by kernel_rfl) (by decide) (fun K hK => ?_)
    refine goes_ Try.func41 (by kernel_rfl) rfl #[val72 r A c] (by rfl) rfl rfl (by first | rfl | (simp only [List.map_toArray, List.map_cons, List.map_nil]; rfl)) ?_
    refine (ScrRef.result r A c _ (RA.out.below hHeld)).mono ?_
    rintro e w3 ⟨rfl, hb⟩
    refine ⟨_, rfl, ?_⟩
    refine hK.out _ _ (step2 hHeld hHeld.size hb) (fun hHeld' => ?_)
    clear hK K hHeld'
    refine norm_ (a' := ?_) ?_ ?_
    rotate_left
    · show Act.put _ (some 26) _ = _
      simp only [Act.put, List.setIfInBounds_toArray, List.set_cons_zero, List.set_cons_succ]
      rfl
    replace hHeld := step2 hHeld hHeld.size hb
    clear hb
    refine one_ (i := 5) (N := some 27) #[true, true, true, true, true, true, false, false, false, false, false, false, false, false, false] rfl rfl (by kernel_rfl) (by decide) (fun K hK => ?_)
    refine goes_ Try.func40 (by kernel_rfl) rfl #[val76 r] (by rfl) rfl rfl (by first | rfl | (simp only [List.map_toArray, List.map_cons, List.map_nil]; rfl)) ?_
    refine (ScrRef.bytes r _ hs' hk' hb').mono ?_
    rintro e w3 ⟨rfl, hb⟩
    refine ⟨_, rfl, ?_⟩
    refine hK.out _ _ (step2 hHeld hHeld.size hb) (fun hHeld' => ?_)
    clear hK K hHeld'
    refine norm_ (a' := ?_) ?_ ?_
    rotate_left
    · show Act.put _ (some 27) _ = _
      simp only [Act.put, List.setIfInBounds_toArray, List.set_cons_zero, List.set_cons_succ]
      rfl
    replace hHeld := step2 hHeld hHeld.size hb
    clear hb
    refine pure_ (i := 6) (N := some 28) (v := ?_) (a' := ?_) #[true, true, true, true, true, true, true, false, false, false, false, false, false, false, false] rfl rfl (by kernel_rfl) (fun _ _ _ h => h) (Or.inl ⟨by rfl, ?_⟩) ?_ ?_
    rotate_left
    · intro w'
      go_simp
      with_reducible rfl
    rotate_left
    · simp only [Act.put, List.setIfInBounds_toArray, List.set_cons_zero, List.set_cons_succ]
      rfl
    refine pure_ (i := 7) (N := some 29) (v := ?_) (a' := ?_) #[true, true, true, true, true, true, true, true, false, false, false, false, false, false, false] rfl rfl (by kernel_rfl) (fun _ _ _ h => h) (Or.inl ⟨by rfl, ?_⟩) ?_ ?_
    rotate_left
    · intro w'
      go_simp
      with_reducible rfl
    rotate_left
    · simp only [Act.put, List.setIfInBounds_toArray, List.set_cons_zero, List.set_cons_succ]
      rfl
    refine pure_ (i := 8) (N := some 30) (v := ?_) (a' := ?_) #[true, true, true, true, true, true, true, true, true, false, false, false, false, false, false] rfl rfl (by kernel_rfl) (fun _ _ _ h => h) (Or.inl ⟨by rfl, ?_⟩) ?_ ?_
    rotate_left
    · intro w'
      go_simp
      with_reducible rfl
    rotate_left
    · simp only [Act.put, List.setIfInBounds_toArray, List.set_cons_zero, List.set_cons_succ]
      rfl
    refine pure_ (i := 10) (N := some 32) (v := ?_) (a' := ?_) #[true, true, true, true, true, true, true, true, true, false, true, false, false, false, false] rfl rfl (by kernel_rfl) (fun _ _ _ h => h) (Or.inl ⟨by rfl, ?_⟩) ?_ ?_
    rotate_left
    · intro w'
      go_simp
      with_reducible rfl
    rotate_left
    · simp only [Act.put, List.setIfInBounds_toArray, List.set_cons_zero, List.set_cons_succ]
      rfl
    refine take_ (i := 9) (N := some 31) (v := ?_) (a' := ?_) #[true, true, true, true, true, true, true, true, true, true, true, false, false, false, false] rfl rfl (by kernel_rfl) (fun _ _ _ h => h) (Or.inl ⟨by rfl, ?_⟩) hHeld ?_ ?_
    rotate_left
    · intro w' s0
      obtain ⟨e0, e1, e2, e3, e4, e5, e6, e7, e8⟩ := facts72 ((s0.block w.heap.size (blk_lt HB1.out)).trans HB1.out)
      go_simp
      with_reducible rfl
    rotate_left
    · simp only [Act.put, List.setIfInBounds_toArray, List.set_cons_zero, List.set_cons_succ]
      rfl
    refine take_ (i := 11) (N := some 33) (v := ?_) (a' := ?_) #[true, true, true, true, true, true, true, true, true, true, true, true, false, false, false] rfl rfl (by kernel_rfl) (fun _ _ _ h => h) (Or.inl ⟨by rfl, ?_⟩) hHeld ?_ ?_
    rotate_left
    · intro w' s0
      obtain ⟨e0, e1, e2, e3, e4, e5, e6, e7, e8⟩ := facts72 ((s0.block w.heap.size (blk_lt HB1.out)).trans HB1.out)
      go_simp
      with_reducible rfl
    rotate_left
    · simp only [Act.put, List.setIfInBounds_toArray, List.set_cons_zero, List.set_cons_succ]
      rfl
    refine one_ (i := 12) (N := some 34) #[true, true, true, true, true, true, true, true, true, true, true, true, true, false, false] rfl rfl (by kernel_rfl) (by decide) (fun K hK => ?_)
    refine goes_ Try.func18 (by kernel_rfl) rfl #[val r.a A c, val r.a A c] (by rfl) rfl rfl (by first | rfl | (simp only [List.map_toArray, List.map_cons, List.map_nil]; rfl)) ?_
    refine (sameR r.a A c _ (RA.out.below hHeld) hb').mono ?_
    rintro e w3 ⟨rfl, hb⟩
    refine ⟨_, rfl, ?_⟩
    refine hK.out _ _ (step2 hHeld hHeld.size hb) (fun hHeld' => ?_)
    clear hK K hHeld'
    refine norm_ (a' := ?_) ?_ ?_
    rotate_left
    · show Act.put _ (some 34) _ = _
      simp only [Act.put, List.setIfInBounds_toArray, List.set_cons_zero, List.set_cons_succ]
      rfl
    replace hHeld := step2 hHeld hHeld.size hb
    clear hb
    refine pure_ (i := 13) (N := some 35) (v := ?_) (a' := ?_) #[true, true, true, true, true, true, true, true, true, true, true, true, true, true, false] rfl rfl (by kernel_rfl) (fun _ _ _ h => h) (Or.inl ⟨by rfl, ?_⟩) ?_ ?_
    rotate_left
    · intro w'
      go_simp
      with_reducible rfl
    rotate_left
    · simp only [Act.put, List.setIfInBounds_toArray, List.set_cons_zero, List.set_cons_succ]
      rfl
    refine pure_ (i := 14) (N := some 2) (v := ?_) (a' := ?_) #[true, true, true, true, true, true, true, true, true, true, true, true, true, true, true] rfl rfl (by kernel_rfl) (fun _ _ _ h => h) (Or.inl ⟨by rfl, ?_⟩) ?_ ?_
    rotate_left
    · intro w'
      go_simp
      with_reducible rfl
    rotate_left
    · simp only [Act.put, List.setIfInBounds_toArray, List.set_cons_zero, List.set_cons_succ]
      rfl
    refine done_ (by kernel_rfl) ?_
    go_wp2
    go_ret
    exact ⟨rfl, HB.out.trans (hHeld.mono HB.out.size)⟩
  · have hd : decide (1000 < (r.s.length : Int) + (r.a.kind.length : Int) + (r.a.body.length : Int)) = true := decide_eq_true (by omega)
    have tg : Hid True := trivial
    go_enter Try.func9, Try.ntmps9
    go_wp2_with (first
      | (clear tg; go_at_call 36; refine (ScrAwake.awake _).mono ?_; rintro e w2 ⟨rfl, h1⟩; have HB := Lib.hid (step2 (below1 w _) (by simp) h1); have HB1 := Lib.hid (blk_on HX.out h1); obtain ⟨p0, p1, p2, p3, p4, p5, p6, p7, p8⟩ := facts72 HB1.out; clear h1 HX)
      | (go_at_call 36; refine (ScrAwake.awake _).mono ?_; rintro e w1 ⟨rfl, h1⟩; replace HB := Lib.hid (step2 HB.out HB.out.size h1); clear h1))
    go_ret
    exact ⟨rfl, HB.out⟩
end Go.Proofs.Ytdojhdglbajinaa.ScrResWalk
