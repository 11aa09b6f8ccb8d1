/- DERIVED. The walk of AnswerWrites. -/
import Derived.Test.YtdojhdglbajinaaOf
namespace Go.Proofs.Ytdojhdglbajinaa.WritesWalk
open Go.RowKit Go.Proofs.Ytdojhdglbajinaa.Mem Go.Proofs.Ytdojhdglbajinaa.Writer Go.Proofs.Ytdojhdglbajinaa.Reader Go.Proofs.Ytdojhdglbajinaa.Enc Go.Proofs.Ytdojhdglbajinaa.Dec Go.Proofs.Ytdojhdglbajinaa.Plain Go.Proofs.Ytdojhdglbajinaa.Reg Go.Proofs.YtdojhdglbajinaaW.PrintLast
set_option linter.unusedVariables false
set_option linter.unusedSimpArgs false

theorem blk_lt {w : World} {b : Nat} {o : Obj} (h : w.heap[b]? = some o) : b < w.heap.size := (Array.getElem?_eq_some_iff.1 h).1
theorem blk_on {w w' : World} {b : Nat} {o : Obj} (h : w.heap[b]? = some o) (hb : Below w.heap.size w w') : w'.heap[b]? = some o := (hb.block b (blk_lt h)).trans h
theorem and255 (n : Int) : bits .and .i64 n 255 = (un8 n : Int) := by
  have h127 : (BitVec.ofInt 64 255).toNat = 2 ^ 8 - 1 := by decide
  have key : (BitVec.ofInt 64 n &&& BitVec.ofInt 64 255).toNat = (n % ((2 ^ 64 : Nat) : Int)).toNat % 2 ^ 8 := by
    rw [BitVec.toNat_and, BitVec.toNat_ofInt, h127, Nat.and_two_pow_sub_one_eq_mod]
  show IntKind.i64.wrap ((BitVec.ofInt 64 n &&& BitVec.ofInt 64 255).toNat : Nat) = _
  rw [key, IntKind.wrap_i64]
  unfold un8
  omega
theorem and32 (n : Int) : bits .and .i64 n 4294967295 = (un32 n : Int) := by
  have h127 : (BitVec.ofInt 64 4294967295).toNat = 2 ^ 32 - 1 := by decide
  have key : (BitVec.ofInt 64 n &&& BitVec.ofInt 64 4294967295).toNat = (n % ((2 ^ 64 : Nat) : Int)).toNat % 2 ^ 32 := by
    rw [BitVec.toNat_and, BitVec.toNat_ofInt, h127, Nat.and_two_pow_sub_one_eq_mod]
  show IntKind.i64.wrap ((BitVec.ofInt 64 n &&& BitVec.ofInt 64 4294967295).toNat : Nat) = _
  rw [key, IntKind.wrap_i64]
  unfold un32
  omega
theorem enc_trim (a : Ans) : enc (trim a) = enc a := by
  unfold enc trim
  have h1 : un8 (un8 a.sort : Nat) = un8 a.sort := by unfold un8; omega
  have h2 : un32 (un32 a.status : Nat) = un32 a.status := by unfold un32; omega
  simp only [h1, h2]
theorem encT (a : Ans) (w : World) (hk : a.kind.length ≤ 100000) (hl : a.body.length ≤ 100000) : Calls Try.prog 16 #[RefEnc.rval (trim a)] w fun e w' => e = .returned (.string (str (enc a))) ∧ Below w.heap.size w w' := by
  have := RefEnc.encode (trim a) w hk hl
  rw [enc_trim] at this
  exact this
theorem sameT (a : Ans) (A B : Option Addr) (c d : Nat) (w : World) (h1 : Rd w A a.body) (h2 : Rd w B a.body) (hl : a.body.length ≤ 100000) : Calls Try.prog 18 #[val (trim a) A c, val (trim a) B d] w fun e w' => e = .returned (.bool true) ∧ Below w.heap.size w w' := by
  have := Same.sameC (trim a) (trim a) A B c d w h1 h2 (by show a.body.length ≤ _; omega) (by show a.body.length ≤ _; omega)
  rw [Same.same_refl] at this
  exact this
/-- An answer's bytes are read as it was. -/
theorem decE (a : Ans) (A : Option Addr) (c : Nat) (w : World) (h : Rd w A (enc a)) (hk : a.kind.length ≤ 100000) (hl : a.body.length ≤ 100000)
    (f1 : -9223372036854775808 ≤ a.first) (f2 : a.first < 9223372036854775808) (t1 : -9223372036854775808 ≤ a.total) (t2 : a.total < 9223372036854775808) :
    Calls Try.prog 15 #[.slice A (enc a).length c] w fun e w' => ∃ B c', e = .returned (.tuple #[.agg #[.int .i64 (un8 a.sort : Int), .int .i64 (un32 a.status : Int), .int .i64 a.first, .int .i64 a.total, .string (str a.kind), .slice B a.body.length c'], .int .i64 0]) ∧ Rd w' B a.body ∧ Below w.heap.size w w' := by
  have h0 := Dec.decode A c (enc a) w h (by rw [enc_len]; omega)
  have h1 := rd_enc a [] (by omega) (by omega) f1 f2 t1 t2
  have h2 := ok_enc a [] (by omega) (by omega) f1 f2 t1 t2
  rw [List.append_nil] at h1 h2
  have hr : resAns (enc a) = trim a := by unfold resAns; rw [h2, h1.1]; rfl
  have he : errAns (enc a) = 0 := by unfold errAns; rw [h2]; rfl
  rw [hr, he] at h0
  exact h0
theorem frz {w : World} {b : Nat} {cs : Array Value} {t : Nat} (h : w.heap[b]? = some (.cells cs t (0, 0))) : w.frozen? ⟨b, 0, none⟩ = false ∧ w.frozen? ⟨b, 1, none⟩ = false := ⟨Joins.unfrozen_of_block h 0, Joins.unfrozen_of_block h 1⟩
theorem mask {w : World} {b : Nat} {a : Ans} {A : Option Addr} {c : Nat} (h : w.heap[b]? = some (.cells (cells a A c) 24 (0, 0))) :
    ((w.setCell ⟨b, 0, none⟩ (.int .i64 (un8 a.sort : Int))).setCell ⟨b, 1, none⟩ (.int .i64 (un32 a.status : Int))).heap[b]? = some (.cells (cells (trim a) A c) 24 (0, 0)) := Joins.block_setCell (Joins.block_setCell h _) _
theorem rd_set {w : World} {b : Nat} {a : Ans} {A X : Option Addr} {c j : Nat} {l : List UInt8} {v : Value} (h : Rd w X l) (hb : w.heap[b]? = some (.cells (cells a A c) 24 (0, 0))) : Rd (w.setCell ⟨b, j, none⟩ v) X l := by
  refine ⟨h.1, fun hn => ?_⟩
  obtain ⟨ad, e, hc⟩ := h.2 hn
  refine ⟨ad, e, fun i u hi => ?_⟩
  have h1 := hc i u hi
  have hne : (ad.add i).block ≠ b := by
    intro hbk
    unfold World.cell? at h1
    rw [hbk, hb] at h1
    simp only at h1
    split at h1
    · cases h1
    · have hm := Array.mem_of_getElem? h1
      simp [cells, cellB] at hm
  rw [World.cell?_of_block (w := w) (Below.heap_setCell _ _ _ _ hne)]
  exact h1
theorem mask_rd {w : World} {b : Nat} {a : Ans} {A X : Option Addr} {c : Nat} {l : List UInt8} (h : Rd w X l) (hb : w.heap[b]? = some (.cells (cells a A c) 24 (0, 0))) :
    Rd ((w.setCell ⟨b, 0, none⟩ (.int .i64 (un8 a.sort : Int))).setCell ⟨b, 1, none⟩ (.int .i64 (un32 a.status : Int))) X l :=
  rd_set (a := ⟨un8 a.sort, a.status, a.first, a.total, a.kind, a.body⟩) (rd_set h hb) (Joins.block_setCell hb _)
set_option maxHeartbeats 8000000 in
set_option maxRecDepth 100000 in
theorem law (a : Ans) (A : Option Addr) (c : Nat) (w : World) (hb : Rd w A a.body) (hk : a.kind.length ≤ 140737488351232) (hl : a.body.length ≤ 140737488351232)
    (f1 : -9223372036854775808 ≤ a.first) (f2 : a.first < 9223372036854775808) (t1 : -9223372036854775808 ≤ a.total) (t2 : a.total < 9223372036854775808) :
    Calls Try.prog 3 #[val a A c] w fun e w' => e = .returned (.bool true) ∧ Below w.heap.size w w' := by
  have RA := Lib.hid hb
  clear hb
  have HX : Hid ((w.alloc (.cells (cells a A c) 24)).heap[w.heap.size]? = some (.cells (cells a A c) 24 (0, 0))) := by
    show (w.heap.push _)[w.heap.size]? = _
    rw [Array.getElem?_push, if_pos rfl]
  by_cases hf : a.kind.length + a.body.length ≤ 600
  · have hk' : a.kind.length ≤ 100000 := by omega
    have hb' : a.body.length ≤ 100000 := by omega
    have m8 := and255 a.sort
    have m32 := and32 a.status
    have hd : decide (a.kind.length + a.body.length ≤ 600) = true := decide_eq_true hf
    have tg : Hid True := trivial
    unfold val
    go_enter Try.func3, Try.ntmps3
    go_wp2_with (first
      | (go_at_call 12; refine (Awake.awake _).mono ?_; rintro e w1 ⟨rfl, h1⟩; have HB := Lib.hid (step2 (below1 w _) (by simp) h1); have HB1 := Lib.hid (blk_on HX.out h1); obtain ⟨p0, p1, p2, p3, p4, p5⟩ := Dec.pfacts HB1.out; clear h1 HX)
      | (go_at_call 13; refine (Same.few a A c _ hk hl).mono ?_; rw [hd]; rintro e w2 ⟨rfl, h1⟩; replace HB := Lib.hid (step2 HB.out HB.out.size h1); replace HB1 := Lib.hid (blk_on HB1.out h1); clear p0 p1 p2 p3 p4 p5; obtain ⟨p0, p1, p2, p3, p4, p5⟩ := Dec.pfacts HB1.out; clear h1)
      | (go_at_call 14; refine (Enc.encode a A c _ (RA.out.below HB.out) hk' hb').mono ?_; rintro e w2 ⟨B1, c1, rfl, h0, h1⟩; have RE := Lib.hid (rd_own h0).2.2.2; replace HB := Lib.hid (step2 HB.out HB.out.size h1); replace HB1 := Lib.hid (blk_on HB1.out h1); clear h0 h1 p0 p1 p2 p3 p4 p5)
      | (go_at_call 15; refine (decE a B1 c1 _ RE.out hk' hb' f1 f2 t1 t2).mono ?_; rintro e w3 ⟨B2, c2, rfl, h0, h1⟩; have RB2 := Lib.hid h0; replace RE := Lib.hid (RE.out.below h1); replace HB := Lib.hid (step2 HB.out HB.out.size h1); replace HB1 := Lib.hid (blk_on HB1.out h1); have qf := fun X => blk_on HB1.out (below1 w3 X); have q0 := fun X => (Dec.pfacts (qf X)).1; have q1 := fun X => (Dec.pfacts (qf X)).2.1; have fz0 := fun X => (frz (qf X)).1; have fz1 := fun X => (frz (qf X)).2; clear qf h0 h1))
    obtain ⟨b1, hb1⟩ : ∃ b, b = w.heap.size := ⟨_, rfl⟩
    obtain ⟨b4, hb4⟩ : ∃ b, b = w3.heap.size := ⟨_, rfl⟩
    have hlt : b1 < w3.heap.size := by rw [hb1]; exact blk_lt HB1.out
    have hx4 : (w3.alloc (.cells (cells (trim a) B2 c2) 24)).heap[b4]? = some (.cells (cells (trim a) B2 c2) 24 (0, 0)) := by
      rw [hb4]; show (w3.heap.push _)[w3.heap.size]? = _; rw [Array.getElem?_push, if_pos rfl]
    rw [← hb1] at HB1
    have hx1 := blk_on HB1.out (below1 w3 (.cells (cells (trim a) B2 c2) 24))
    obtain ⟨wb, hwb⟩ : ∃ wb, wb = ((w3.alloc (.cells (cells (trim a) B2 c2) 24)).setCell ⟨b1, 0, none⟩ (.int .i64 (un8 a.sort : Int))).setCell ⟨b1, 1, none⟩ (.int .i64 (un32 a.status : Int)) := ⟨_, rfl⟩
    have HB1' : Hid (wb.heap[b1]? = some (.cells (cells (trim a) A c) 24 (0, 0))) := by show _ = _; rw [hwb]; exact mask hx1
    have HB4 : Hid (wb.heap[b4]? = some (.cells (cells (trim a) B2 c2) 24 (0, 0))) := by
      show _ = _
      rw [hwb, Below.heap_setCell _ _ _ _ (by show b4 ≠ b1; omega), Below.heap_setCell _ _ _ _ (by show b4 ≠ b1; omega)]; exact hx4
    replace RE : Hid (Rd wb B1 (enc a)) := by rw [hwb]; exact mask_rd (RE.out.below (below1 _ _)) hx1
    replace RB2 : Hid (Rd wb B2 a.body) := by rw [hwb]; exact mask_rd (RB2.out.below (below1 _ _)) hx1
    replace HB : Hid (Below w.heap.size w wb) := by rw [hwb]; exact ((HB.out.alloc HB.out.size _).setCell (by rw [hb1]; exact Nat.le_refl _) _).setCell (by rw [hb1]; exact Nat.le_refl _) _
    replace RA : Hid (Rd wb A a.body) := RA.out.below HB.out
    rw [← hb1, ← hb4]
    rw [show ((w3.alloc (.cells #[.int .i64 (un8 a.sort : Int), .int .i64 (un32 a.status : Int), .int .i64 a.first, .int .i64 a.total, .string (str a.kind), .slice B2 a.body.length c2] 24)).setCell ⟨b1, 0, none⟩ (.int .i64 (un8 a.sort : Int))).setCell ⟨b1, 1, none⟩ (.int .i64 (un32 a.status : Int)) = wb from hwb.symm]
    clear HB1
    have HB1 := HB1'
    clear HB1' hwb hx1 hx4 hlt hb1 hb4 q0 q1 fz0 fz1
    refine start_ (n := 16) (S := fun w' => Below wb.heap.size wb w') (ds := []) #[false, false, false, false, false, false, false, false, false, false, false, false, false, false, false, false] (by kernel_rfl) rfl rfl ((Below.refl _ _).drew) (fun hHeld => ?_)
    obtain ⟨wd, hwd⟩ : ∃ wd, wd = World.drew wb := ⟨_, rfl⟩
    rw [← hwd] at hHeld ⊢
    clear hwd
    refine again_ (S' := fun w' => Below wd.heap.size wd w') (Below.refl _ _) (fun w' h => step2 hHeld hHeld.size h) ?_
    replace HB1 := Lib.hid (blk_on HB1.out hHeld)
    replace HB4 := Lib.hid (blk_on HB4.out hHeld)
    replace RE := Lib.hid (RE.out.below hHeld)
    replace RA := Lib.hid (RA.out.below hHeld)
    replace RB2 := Lib.hid (RB2.out.below hHeld)
    replace HB := Lib.hid (HB.out.trans (hHeld.mono HB.out.size))
    clear hHeld
    have hHeld : Below wd.heap.size wd wd := Below.refl _ _
    refine pure_ (i := 0) (N := some 29) (v := ?_) (a' := ?_) #[true, false, false, false, false, false, false, false, false, false, false, false, false, false, false, false] rfl rfl (by kernel_rfl) (fun _ _ _ h => h) (Or.inl ⟨by rfl, ?_⟩) ?_ ?_
    rotate_left
    · intro w'
      go_simp
      with_reducible rfl
    rotate_left
    · simp only [Act.put, List.setIfInBounds_toArray, List.set_cons_zero, List.set_cons_succ]
      rfl
    refine take_ (i := 1) (N := some 30) (v := ?_) (a' := ?_) #[true, true, false, false, false, false, false, false, false, false, false, false, false, false, false, false] rfl rfl (by kernel_rfl) (fun _ _ _ h => h) (Or.inl ⟨by rfl, ?_⟩) hHeld ?_ ?_
    rotate_left
    · intro w' s0
      have e0 := run_string (P := Try.prog) (src := 22) (dst := 9) (c := c1) Try.underlying22 Try.underlying5 Try.underlying9 (RE.out.below s0)
      go_simp
      with_reducible rfl
    rotate_left
    · simp only [Act.put, List.setIfInBounds_toArray, List.set_cons_zero, List.set_cons_succ]
      rfl
    refine take_ (i := 2) (N := some 31) (v := ?_) (a' := ?_) #[true, true, true, false, false, false, false, false, false, false, false, false, false, false, false, false] rfl rfl (by kernel_rfl) (fun _ _ _ h => h) (Or.inl ⟨by rfl, ?_⟩) hHeld ?_ ?_
    rotate_left
    · intro w' s0
      obtain ⟨e0, e1, e2, e3, e4, e5⟩ := Dec.pfacts ((s0.block b1 (blk_lt HB1.out)).trans HB1.out)
      go_simp
      with_reducible rfl
    rotate_left
    · simp only [Act.put, List.setIfInBounds_toArray, List.set_cons_zero, List.set_cons_succ]
      rfl
    refine one_ (i := 3) (N := some 32) #[true, true, true, true, false, false, false, false, false, false, false, false, false, false, false, false] rfl rfl (by kernel_rfl) (by decide) (fun K hK => ?_)
    refine goes_ Try.func17 (by kernel_rfl) rfl #[val (trim a) A c] (by rfl) rfl rfl (by first | rfl | (simp only [List.map_toArray, List.map_cons, List.map_nil]; rfl)) ?_
    refine (Of.of25 (trim a) A c _ (RA.out.below hHeld)).mono ?_
    rintro e w3 ⟨rfl, hb⟩
    refine ⟨_, rfl, ?_⟩
    refine hK.out _ _ (step2 hHeld hHeld.size hb) (fun hHeld' => ?_)
    clear hK K hHeld'
    refine norm_ (a' := ?_) ?_ ?_
    rotate_left
    · show Act.put _ (some 32) _ = _
      simp only [Act.put, List.setIfInBounds_toArray, List.set_cons_zero, List.set_cons_succ]
      rfl
    replace hHeld := step2 hHeld hHeld.size hb
    clear hb
    refine one_ (i := 4) (N := some 33) #[true, true, true, true, true, false, false, false, false, false, false, false, false, false, false, false] rfl rfl (by kernel_rfl) (by decide) (fun K hK => ?_)
    refine goes_ Try.func16 (by kernel_rfl) rfl #[RefEnc.rval (trim a)] (by rfl) rfl rfl (by first | rfl | (simp only [List.map_toArray, List.map_cons, List.map_nil]; rfl)) ?_
    refine (encT a _ hk' hb').mono ?_
    rintro e w3 ⟨rfl, hb⟩
    refine ⟨_, rfl, ?_⟩
    refine hK.out _ _ (step2 hHeld hHeld.size hb) (fun hHeld' => ?_)
    clear hK K hHeld'
    refine norm_ (a' := ?_) ?_ ?_
    rotate_left
    · show Act.put _ (some 33) _ = _
      simp only [Act.put, List.setIfInBounds_toArray, List.set_cons_zero, List.set_cons_succ]
      rfl
    replace hHeld := step2 hHeld hHeld.size hb
    clear hb
    refine pure_ (i := 5) (N := some 34) (v := ?_) (a' := ?_) #[true, true, true, true, true, true, false, false, false, false, false, false, false, false, false, false] rfl rfl (by kernel_rfl) (fun _ _ _ h => h) (Or.inl ⟨by rfl, ?_⟩) ?_ ?_
    rotate_left
    · intro w'
      go_simp
      with_reducible rfl
    rotate_left
    · simp only [Act.put, List.setIfInBounds_toArray, List.set_cons_zero, List.set_cons_succ]
      rfl
    refine pure_ (i := 6) (N := some 35) (v := ?_) (a' := ?_) #[true, true, true, true, true, true, true, false, false, false, false, false, false, false, false, false] rfl rfl (by kernel_rfl) (fun _ _ _ h => h) (Or.inl ⟨by rfl, ?_⟩) ?_ ?_
    rotate_left
    · intro w'
      go_simp
      with_reducible rfl
    rotate_left
    · simp only [Act.put, List.setIfInBounds_toArray, List.set_cons_zero, List.set_cons_succ]
      rfl
    refine pure_ (i := 7) (N := some 36) (v := ?_) (a' := ?_) #[true, true, true, true, true, true, true, true, false, false, false, false, false, false, false, false] rfl rfl (by kernel_rfl) (fun _ _ _ h => h) (Or.inl ⟨by rfl, ?_⟩) ?_ ?_
    rotate_left
    · intro w'
      go_simp
      with_reducible rfl
    rotate_left
    · simp only [Act.put, List.setIfInBounds_toArray, List.set_cons_zero, List.set_cons_succ]
      rfl
    refine pure_ (i := 8) (N := some 37) (v := ?_) (a' := ?_) #[true, true, true, true, true, true, true, true, true, false, false, false, false, false, false, false] rfl rfl (by kernel_rfl) (fun _ _ _ h => h) (Or.inl ⟨by rfl, ?_⟩) ?_ ?_
    rotate_left
    · intro w'
      go_simp
      with_reducible rfl
    rotate_left
    · simp only [Act.put, List.setIfInBounds_toArray, List.set_cons_zero, List.set_cons_succ]
      rfl
    refine pure_ (i := 9) (N := some 38) (v := ?_) (a' := ?_) #[true, true, true, true, true, true, true, true, true, true, false, false, false, false, false, false] rfl rfl (by kernel_rfl) (fun _ _ _ h => h) (Or.inl ⟨by rfl, ?_⟩) ?_ ?_
    rotate_left
    · intro w'
      go_simp
      with_reducible rfl
    rotate_left
    · simp only [Act.put, List.setIfInBounds_toArray, List.set_cons_zero, List.set_cons_succ]
      rfl
    refine pure_ (i := 10) (N := some 39) (v := ?_) (a' := ?_) #[true, true, true, true, true, true, true, true, true, true, true, false, false, false, false, false] rfl rfl (by kernel_rfl) (fun _ _ _ h => h) (Or.inl ⟨by rfl, ?_⟩) ?_ ?_
    rotate_left
    · intro w'
      go_simp
      with_reducible rfl
    rotate_left
    · simp only [Act.put, List.setIfInBounds_toArray, List.set_cons_zero, List.set_cons_succ]
      rfl
    refine take_ (i := 11) (N := some 40) (v := ?_) (a' := ?_) #[true, true, true, true, true, true, true, true, true, true, true, true, false, false, false, false] rfl rfl (by kernel_rfl) (fun _ _ _ h => h) (Or.inl ⟨by rfl, ?_⟩) hHeld ?_ ?_
    rotate_left
    · intro w' s0
      obtain ⟨e0, e1, e2, e3, e4, e5⟩ := Dec.pfacts ((s0.block b1 (blk_lt HB1.out)).trans HB1.out)
      go_simp
      with_reducible rfl
    rotate_left
    · simp only [Act.put, List.setIfInBounds_toArray, List.set_cons_zero, List.set_cons_succ]
      rfl
    refine take_ (i := 12) (N := some 41) (v := ?_) (a' := ?_) #[true, true, true, true, true, true, true, true, true, true, true, true, true, false, false, false] rfl rfl (by kernel_rfl) (fun _ _ _ h => h) (Or.inl ⟨by rfl, ?_⟩) hHeld ?_ ?_
    rotate_left
    · intro w' s0
      obtain ⟨e0, e1, e2, e3, e4, e5⟩ := Dec.pfacts ((s0.block b4 (blk_lt HB4.out)).trans HB4.out)
      go_simp
      with_reducible rfl
    rotate_left
    · simp only [Act.put, List.setIfInBounds_toArray, List.set_cons_zero, List.set_cons_succ]
      rfl
    refine one_ (i := 13) (N := some 42) #[true, true, true, true, true, true, true, true, true, true, true, true, true, true, false, false] rfl rfl (by kernel_rfl) (by decide) (fun K hK => ?_)
    refine goes_ Try.func18 (by kernel_rfl) rfl #[val (trim a) A c, val (trim a) B2 c2] (by rfl) rfl rfl (by first | rfl | (simp only [List.map_toArray, List.map_cons, List.map_nil]; rfl)) ?_
    refine (sameT a A B2 c c2 _ (RA.out.below hHeld) (RB2.out.below hHeld) hb').mono ?_
    rintro e w3 ⟨rfl, hb⟩
    refine ⟨_, rfl, ?_⟩
    refine hK.out _ _ (step2 hHeld hHeld.size hb) (fun hHeld' => ?_)
    clear hK K hHeld'
    refine norm_ (a' := ?_) ?_ ?_
    rotate_left
    · show Act.put _ (some 42) _ = _
      simp only [Act.put, List.setIfInBounds_toArray, List.set_cons_zero, List.set_cons_succ]
      rfl
    replace hHeld := step2 hHeld hHeld.size hb
    clear hb
    refine pure_ (i := 14) (N := some 43) (v := ?_) (a' := ?_) #[true, true, true, true, true, true, true, true, true, true, true, true, true, true, true, false] rfl rfl (by kernel_rfl) (fun _ _ _ h => h) (Or.inl ⟨by rfl, ?_⟩) ?_ ?_
    rotate_left
    · intro w'
      go_simp
      with_reducible rfl
    rotate_left
    · simp only [Act.put, List.setIfInBounds_toArray, List.set_cons_zero, List.set_cons_succ]
      rfl
    refine pure_ (i := 15) (N := some 2) (v := ?_) (a' := ?_) #[true, true, true, true, true, true, true, true, true, true, true, true, true, true, true, true] rfl rfl (by kernel_rfl) (fun _ _ _ h => h) (Or.inl ⟨by rfl, ?_⟩) ?_ ?_
    rotate_left
    · intro w'
      go_simp
      with_reducible rfl
    rotate_left
    · simp only [Act.put, List.setIfInBounds_toArray, List.set_cons_zero, List.set_cons_succ]
      rfl
    refine done_ (by kernel_rfl) ?_
    go_wp2
    go_ret
    exact ⟨rfl, HB.out.trans (hHeld.mono HB.out.size)⟩
  · have hd : decide (a.kind.length + a.body.length ≤ 600) = false := decide_eq_false hf
    unfold val
    go_enter Try.func3, Try.ntmps3
    have tg : Hid True := trivial
    go_wp2_with (first
      | (clear tg; go_at_call 12; refine (Awake.awake _).mono ?_; rintro e w1 ⟨rfl, h1⟩; have HB := Lib.hid (step2 (below1 w _) (by simp) h1); have HB1 := Lib.hid (blk_on HX.out h1); obtain ⟨p0, p1, p2, p3, p4, p5⟩ := Dec.pfacts HB1.out; clear h1 HX)
      | (go_at_call 13; refine (Same.few a A c _ hk hl).mono ?_; rw [hd]; rintro e w2 ⟨rfl, h1⟩; replace HB := Lib.hid (step2 HB.out HB.out.size h1); clear h1)
      | (go_at_call 12; refine (Awake.awake _).mono ?_; rintro e w1 ⟨rfl, h1⟩; replace HB := Lib.hid (step2 HB.out HB.out.size h1); clear h1))
    go_ret
    exact ⟨rfl, HB.out⟩
end Go.Proofs.Ytdojhdglbajinaa.WritesWalk
