/- DERIVED. The walk of BlobParts. -/
import Derived.Test.YtmfhkgfgphdliaaAwake
import Derived.Test.YtmfhkgfgphdliaaReg
namespace Go.Proofs.Ytmfhkgfgphdliaa.PartsWalk
open Go.RowKit Go.Proofs.Ytmfhkgfgphdliaa.Mem Go.Proofs.Ytmfhkgfgphdliaa.Fns Go.Proofs.Ytmfhkgfgphdliaa.Reg Go.Proofs.YtmfhkgfgphdliaaW.PrintLast
set_option linter.unusedVariables false
set_option linter.unusedSimpArgs false

theorem portion_to (l : List UInt8) (n : Int) (h0 : 0 ≤ n) (h1 : n ≤ l.length) : portion l none (some n) = l.take n.toNat := by
  unfold portion placeI
  simp only [if_neg (show ¬ n < 0 by omega)]
  rw [show (max (0 : Int) (if n < l.length then n else l.length)) = n by split <;> omega]
  simp
theorem portion_from (l : List UInt8) (n : Int) (h0 : 0 ≤ n) (h1 : n ≤ l.length) : portion l (some n) none = l.drop n.toNat := by
  unfold portion placeI
  simp only [if_neg (show ¬ n < 0 by omega)]
  rw [show (if n < (l.length : Int) then n else (l.length : Int)) = n by split <;> omega, show max n (l.length : Int) = l.length by omega]
  simp
theorem portion_back (l : List UInt8) (n : Int) (h0 : 0 ≤ n) (h1 : n < l.length) : portion l (some (n - l.length)) none = l.drop n.toNat := by
  unfold portion placeI
  simp only [if_pos (show n - (l.length : Int) < 0 by omega)]
  rw [if_neg (by omega), show (l.length : Int) + (n - l.length) = n by omega, show max n (l.length : Int) = l.length by omega]
  simp
theorem str_parts (l : List UInt8) (n : Nat) : str (l.take n) ++ str (l.drop n) = str l := by rw [str_append, List.take_append_drop]

set_option maxHeartbeats 8000000 in
theorem law (A : Option Addr) (c : Nat) (l : List UInt8) (m : Int) (w : World) (rd : Rd w A l) (hc : l.length ≤ c) (hz : l.length ≤ 140737488351232) (hm0 : 0 ≤ m) (hm1 : m ≤ 65535) :
    Calls Try.prog 4 #[.slice A l.length c, .int .u16 m] w fun e w' => e = .returned (.bool true) ∧ Below w.heap.size w w' := by
  have RB := Lib.hid rd
  clear rd
  by_cases hl : 300 < l.length
  · go_enter Try.func4, Try.ntmps4
    go_wp2_with fail
    refine (Awake.awake _).mono ?_
    rintro e w1 ⟨rfl, hb1⟩
    have HB := Lib.hid hb1
    clear hb1
    go_wp2_with fail
    refine (Awake.awake _).mono ?_
    rintro e w2 ⟨rfl, hb2⟩
    replace HB := Lib.hid (step2 HB.out HB.out.size hb2)
    clear hb2
    go_wp2_with fail
    go_ret
    exact ⟨rfl, HB.out⟩
  · have hl' : l.length ≤ 300 := by omega
    clear hl
    go_enter Try.func4, Try.ntmps4
    go_wp2_with fail
    refine (Awake.awake _).mono ?_
    rintro e w1 ⟨rfl, hb1⟩
    have HB := Lib.hid hb1
    replace RB := Lib.hid (RB.out.below hb1)
    clear hb1
    go_wp2_with fail
    obtain ⟨n, hn⟩ : ∃ n, n = m % ((l.length : Int) + 1) := ⟨_, rfl⟩
    rw [← hn]
    have hn0 : 0 ≤ n := by rw [hn]; exact Int.emod_nonneg _ (by omega)
    have hn1 : n ≤ l.length := by have := Int.emod_lt_of_pos m (show (0 : Int) < (l.length : Int) + 1 by omega); omega
    clear hn hm0 hm1
    obtain ⟨W1, hW1⟩ : ∃ W, W = w1.alloc (.cells #[.int .i64 n] 2) := ⟨_, rfl⟩
    have hp : IsPlace W1 (some ⟨w1.heap.size, 0, none⟩) (some n) := Or.inr ⟨_, _, rfl, rfl, by rw [hW1]; simp [World.cell?_alloc_new], by omega, by omega⟩
    have hb1 : Below w1.heap.size w1 W1 := by rw [hW1]; exact below1 _ _
    rw [← hW1]
    have PN := Lib.hid hp
    replace HB := Lib.hid (step2 HB.out HB.out.size hb1)
    replace RB := Lib.hid (RB.out.below hb1)
    clear hb1 hW1 hp
    refine (new A c l ⟨#[]⟩ W1 RB.out hz (by decide)).mono ?_
    rintro e w2 ⟨g1, rfl, hx, hb2⟩
    have XX := Lib.hid hx
    replace PN := Lib.hid (PN.out.below hb2)
    replace HB := Lib.hid (step2 HB.out HB.out.size hb2)
    replace RB := Lib.hid (RB.out.below hb2)
    have hcell : w2.cell? ⟨w1.heap.size, 0, none⟩ = some (.int .i64 n) := by
      rcases PN.out with ⟨h, _⟩ | ⟨a, x, h1, h2, h3, _⟩
      · cases h
      · injection h1 with h1; injection h2 with h2; subst h1 h2; exact h3
    clear hx hb2
    go_wp2_with fail
    obtain ⟨W2, hW2⟩ : ∃ W, W = w2.alloc (.cells #[.int .i64 (n - l.length)] 2) := ⟨_, rfl⟩
    have hp : IsPlace W2 (some ⟨w2.heap.size, 0, none⟩) (some (n - l.length)) := Or.inr ⟨_, _, rfl, rfl, by rw [hW2]; simp [World.cell?_alloc_new], by omega, by omega⟩
    have hb1 : Below w2.heap.size w2 W2 := by rw [hW2]; exact below1 _ _
    rw [← hW2]
    have PB := Lib.hid hp
    replace HB := Lib.hid (step2 HB.out HB.out.size hb1)
    replace RB := Lib.hid (RB.out.below hb1)
    replace PN := Lib.hid (PN.out.below hb1)
    replace XX := Lib.hid (XX.out.below hb1)
    clear hb1 hW2 hp hcell
    refine (slice W2 XX.out hz none _ none (some n) (Or.inl ⟨rfl, rfl⟩) PN.out ⟨#[]⟩ (by decide)).mono ?_
    rintro e w3 ⟨g2, rfl, hx, hb2⟩
    rw [portion_to l n hn0 hn1] at hx
    have HD := Lib.hid hx
    replace HB := Lib.hid (step2 HB.out HB.out.size hb2)
    replace RB := Lib.hid (RB.out.below hb2)
    replace PN := Lib.hid (PN.out.below hb2)
    replace PB := Lib.hid (PB.out.below hb2)
    replace XX := Lib.hid (XX.out.below hb2)
    clear hx hb2
    go_wp2_with fail
    refine (slice w3 XX.out hz _ none (some n) none PN.out (Or.inl ⟨rfl, rfl⟩) ⟨#[]⟩ (by decide)).mono ?_
    rintro e w4 ⟨g3, rfl, hx, hb2⟩
    rw [portion_from l n hn0 hn1] at hx
    have TL := Lib.hid hx
    replace HB := Lib.hid (step2 HB.out HB.out.size hb2)
    replace RB := Lib.hid (RB.out.below hb2)
    replace PN := Lib.hid (PN.out.below hb2)
    replace PB := Lib.hid (PB.out.below hb2)
    replace XX := Lib.hid (XX.out.below hb2)
    replace HD := Lib.hid (HD.out.below hb2)
    clear hx hb2
    go_wp2_with fail
    refine (slice w4 XX.out hz _ none (some (n - l.length)) none PB.out (Or.inl ⟨rfl, rfl⟩) ⟨#[]⟩ (by decide)).mono ?_
    rintro e w8 ⟨g4, rfl, hx, hb2⟩
    replace HB := Lib.hid (step2 HB.out HB.out.size hb2)
    replace RB := Lib.hid (RB.out.below hb2)
    replace PN := Lib.hid (PN.out.below hb2)
    replace XX := Lib.hid (XX.out.below hb2)
    replace HD := Lib.hid (HD.out.below hb2)
    replace TL := Lib.hid (TL.out.below hb2)
    have hcell : w8.cell? ⟨w1.heap.size, 0, none⟩ = some (.int .i64 n) := by
      rcases PN.out with ⟨h, _⟩ | ⟨a, x, h1, h2, h3, _⟩
      · cases h
      · injection h1 with h1; injection h2 with h2; subst h1 h2; exact h3
    clear hb2 PN PB
    have hcat := str_parts l n.toNat
    have hlens : ((l.take n.toNat).length : Int) + ((l.drop n.toNat).length : Int) = (l.length : Int) := by rw [List.length_take, List.length_drop]; omega
    have hlt : (l.take n.toNat).length ≤ 140737488351232 := by omega
    have hld : (l.drop n.toNat).length ≤ 140737488351232 := by omega
    have hs1 : ¬ 9223372036854775807 < (str (l.take n.toNat)).size + (str (l.drop n.toNat)).size := by rw [str_size, str_size]; omega
    have hwr : IntKind.i64.wrap (((l.take n.toNat).length : Int) + ((l.drop n.toNat).length : Int)) = (l.length : Int) := by rw [hlens]; exact IntWalk.i64_in _ (by omega)
    have AGX : n < l.length → Hid (IsBlob w8 w4.heap.size g4 (l.drop n.toNat) (kindS ⟨#[]⟩)) := fun h => by rw [portion_back l n hn0 h] at hx; exact hx
    have hwr2 : IntKind.i64.wrap (l.length : Int) = (l.length : Int) := IntWalk.i64_in _ (by omega)
    clear hx
    generalize l.take n.toNat = hd at *
    generalize l.drop n.toNat = tl at *
    have HL := Lib.hid hlens
    clear hlens
    by_cases hnl : n < l.length
    · have AG := AGX hnl
      clear AGX
      have hne : (n == (l.length : Int)) = false := beq_eq_false_iff_ne.2 (by omega)
      go_wp2_with fail
      refine start_ (n := 30) (S := fun w' => Below w8.heap.size w8 w') (ds := []) #[false, false, false, false, false, false, false, false, false, false, false, false, false, false, false, false, false, false, false, false, false, false, false, false, false, false, false, false, false, false] (by kernel_rfl) rfl rfl ((Below.refl _ _).drew) (fun hHeld => ?_)
      obtain ⟨wd, hwd⟩ : ∃ wd, wd = World.drew w8 := ⟨_, rfl⟩
      rw [← hwd] at hHeld ⊢
      clear hwd
      refine again_ (S' := fun w' => Below wd.heap.size wd w') (Below.refl _ _) (fun w' h => step2 hHeld hHeld.size h) ?_
      replace RB := Lib.hid (RB.out.below (hHeld))
      replace XX := Lib.hid (XX.out.below (hHeld))
      replace HD := Lib.hid (HD.out.below (hHeld))
      replace TL := Lib.hid (TL.out.below (hHeld))
      replace AG := Lib.hid (AG.out.below (hHeld))
      replace HB := Lib.hid (step2 HB.out HB.out.size (hHeld))
      clear hHeld
      have hHeld : Below wd.heap.size wd wd := Below.refl _ _
      refine pure_ (i := 0) (N := some 42) (v := ?_) (a' := ?_) #[true, false, false, false, false, false, false, false, false, false, false, false, false, false, false, false, false, false, false, false, false, false, false, false, false, false, false, false, false, false] rfl rfl (by kernel_rfl) (fun _ _ _ h => h) (Or.inl ⟨by rfl, ?_⟩) ?_ ?_
      rotate_left
      · intro w'
        go_simp
        with_reducible rfl
      rotate_left
      · simp only [Act.put, List.setIfInBounds_toArray, List.set_cons_zero, List.set_cons_succ]
        rfl
      refine pure_ (i := 3) (N := some 45) (v := ?_) (a' := ?_) #[true, false, false, true, false, false, false, false, false, false, false, false, false, false, false, false, false, false, false, false, false, false, false, false, false, false, false, false, false, false] rfl rfl (by kernel_rfl) (fun _ _ _ h => h) (Or.inl ⟨by rfl, ?_⟩) ?_ ?_
      rotate_left
      · intro w'
        go_simp
        with_reducible rfl
      rotate_left
      · simp only [Act.put, List.setIfInBounds_toArray, List.set_cons_zero, List.set_cons_succ]
        rfl
      refine pure_ (i := 7) (N := some 49) (v := ?_) (a' := ?_) #[true, false, false, true, false, false, false, true, false, false, false, false, false, false, false, false, false, false, false, false, false, false, false, false, false, false, false, false, false, false] rfl rfl (by kernel_rfl) (fun _ _ _ h => h) (Or.inl ⟨by rfl, ?_⟩) ?_ ?_
      rotate_left
      · intro w'
        go_simp
        with_reducible rfl
      rotate_left
      · simp only [Act.put, List.setIfInBounds_toArray, List.set_cons_zero, List.set_cons_succ]
        rfl
      refine take_ (i := 8) (N := some 50) (v := ?_) (a' := ?_) #[true, false, false, true, false, false, false, true, true, false, false, false, false, false, false, false, false, false, false, false, false, false, false, false, false, false, false, false, false, false] rfl rfl (by kernel_rfl) (fun _ _ _ h => h) (Or.inl ⟨by rfl, ?_⟩) hHeld ?_ ?_
      rotate_left
      · intro w' s0
        have e0 := run_string (P := Try.prog) (src := 22) (dst := 9) (c := c) Try.underlying22 Try.underlying5 Try.underlying9 (RB.out.below s0)
        go_simp
        with_reducible rfl
      rotate_left
      · simp only [Act.put, List.setIfInBounds_toArray, List.set_cons_zero, List.set_cons_succ]
        rfl
      refine one_ (i := 1) (N := some 43) #[true, true, false, true, false, false, false, true, true, false, false, false, false, false, false, false, false, false, false, false, false, false, false, false, false, false, false, false, false, false] rfl rfl (by kernel_rfl) (by decide) (fun K hK => ?_)
      refine goes_ Try.func11 (by kernel_rfl) rfl #[.pointer (some ⟨g2, 0, none⟩)] (by rfl) rfl rfl (by first | rfl | (simp only [List.map_toArray, List.map_cons, List.map_nil]; rfl)) ?_
      refine (Fns.bytes _ (HD.out) hlt).mono ?_
      rintro e wa ⟨BS1, cS1, rfl, hown, hbl⟩
      refine ⟨_, rfl, ?_⟩
      refine hK.out _ _ (step2 hHeld hHeld.size hbl) (fun hHeld' => ?_)
      clear hK K hHeld'
      refine norm_ (a' := ?_) ?_ ?_
      rotate_left
      · show Act.put _ (some 43) _ = _
        simp only [Act.put, List.setIfInBounds_toArray, List.set_cons_zero, List.set_cons_succ]
        rfl
      refine again_ (S' := fun w' => Below wa.heap.size wa w') (Below.refl _ _) (fun w' h => step2 (step2 hHeld hHeld.size hbl) (Below.size (step2 hHeld hHeld.size hbl)) h) ?_
      clear hHeld
      have hHeld : Below wa.heap.size wa wa := Below.refl _ _
      replace RB := Lib.hid (RB.out.below (hbl))
      replace XX := Lib.hid (XX.out.below (hbl))
      replace HD := Lib.hid (HD.out.below (hbl))
      replace TL := Lib.hid (TL.out.below (hbl))
      replace AG := Lib.hid (AG.out.below (hbl))
      replace HB := Lib.hid (step2 HB.out HB.out.size (hbl))
      have S1 := Lib.hid (rd_own hown).2.2.2
      clear hown hbl
      refine take_ (i := 2) (N := some 44) (v := ?_) (a' := ?_) #[true, true, true, true, false, false, false, true, true, false, false, false, false, false, false, false, false, false, false, false, false, false, false, false, false, false, false, false, false, false] rfl rfl (by kernel_rfl) (fun _ _ _ h => h) (Or.inl ⟨by rfl, ?_⟩) hHeld ?_ ?_
      rotate_left
      · intro w' s0
        have e0 := run_string (P := Try.prog) (src := 22) (dst := 9) (c := cS1) Try.underlying22 Try.underlying5 Try.underlying9 (S1.out.below s0)
        go_simp
        with_reducible rfl
      rotate_left
      · simp only [Act.put, List.setIfInBounds_toArray, List.set_cons_zero, List.set_cons_succ]
        rfl
      refine one_ (i := 4) (N := some 46) #[true, true, true, true, true, false, false, true, true, false, false, false, false, false, false, false, false, false, false, false, false, false, false, false, false, false, false, false, false, false] rfl rfl (by kernel_rfl) (by decide) (fun K hK => ?_)
      refine goes_ Try.func11 (by kernel_rfl) rfl #[.pointer (some ⟨g3, 0, none⟩)] (by rfl) rfl rfl (by first | rfl | (simp only [List.map_toArray, List.map_cons, List.map_nil]; rfl)) ?_
      refine (Fns.bytes _ (TL.out) hld).mono ?_
      rintro e wb ⟨BS2, cS2, rfl, hown, hbl⟩
      refine ⟨_, rfl, ?_⟩
      refine hK.out _ _ (step2 hHeld hHeld.size hbl) (fun hHeld' => ?_)
      clear hK K hHeld'
      refine norm_ (a' := ?_) ?_ ?_
      rotate_left
      · show Act.put _ (some 46) _ = _
        simp only [Act.put, List.setIfInBounds_toArray, List.set_cons_zero, List.set_cons_succ]
        rfl
      refine again_ (S' := fun w' => Below wb.heap.size wb w') (Below.refl _ _) (fun w' h => step2 (step2 hHeld hHeld.size hbl) (Below.size (step2 hHeld hHeld.size hbl)) h) ?_
      clear hHeld
      have hHeld : Below wb.heap.size wb wb := Below.refl _ _
      replace RB := Lib.hid (RB.out.below (hbl))
      replace XX := Lib.hid (XX.out.below (hbl))
      replace HD := Lib.hid (HD.out.below (hbl))
      replace TL := Lib.hid (TL.out.below (hbl))
      replace AG := Lib.hid (AG.out.below (hbl))
      replace HB := Lib.hid (step2 HB.out HB.out.size (hbl))
      replace S1 := Lib.hid (S1.out.below hbl)
      have S2 := Lib.hid (rd_own hown).2.2.2
      clear hown hbl
      refine take_ (i := 5) (N := some 47) (v := ?_) (a' := ?_) #[true, true, true, true, true, true, false, true, true, false, false, false, false, false, false, false, false, false, false, false, false, false, false, false, false, false, false, false, false, false] rfl rfl (by kernel_rfl) (fun _ _ _ h => h) (Or.inl ⟨by rfl, ?_⟩) hHeld ?_ ?_
      rotate_left
      · intro w' s0
        have e0 := run_string (P := Try.prog) (src := 22) (dst := 9) (c := cS2) Try.underlying22 Try.underlying5 Try.underlying9 (S2.out.below s0)
        go_simp
        with_reducible rfl
      rotate_left
      · simp only [Act.put, List.setIfInBounds_toArray, List.set_cons_zero, List.set_cons_succ]
        rfl
      refine pure_ (i := 6) (N := some 48) (v := ?_) (a' := ?_) #[true, true, true, true, true, true, true, true, true, false, false, false, false, false, false, false, false, false, false, false, false, false, false, false, false, false, false, false, false, false] rfl rfl (by kernel_rfl) (fun _ _ _ h => h) (Or.inl ⟨by rfl, ?_⟩) ?_ ?_
      rotate_left
      · intro w'
        go_simp
        with_reducible rfl
      rotate_left
      · simp only [Act.put, List.setIfInBounds_toArray, List.set_cons_zero, List.set_cons_succ]
        rfl
      refine pure_ (i := 9) (N := some 51) (v := ?_) (a' := ?_) #[true, true, true, true, true, true, true, true, true, true, false, false, false, false, false, false, false, false, false, false, false, false, false, false, false, false, false, false, false, false] rfl rfl (by kernel_rfl) (fun _ _ _ h => h) (Or.inl ⟨by rfl, ?_⟩) ?_ ?_
      rotate_left
      · intro w'
        go_simp
        with_reducible rfl
      rotate_left
      · simp only [Act.put, List.setIfInBounds_toArray, List.set_cons_zero, List.set_cons_succ]
        rfl
      refine pure_ (i := 10) (N := some 52) (v := ?_) (a' := ?_) #[true, true, true, true, true, true, true, true, true, true, true, false, false, false, false, false, false, false, false, false, false, false, false, false, false, false, false, false, false, false] rfl rfl (by kernel_rfl) (fun _ _ _ h => h) (Or.inl ⟨by rfl, ?_⟩) ?_ ?_
      rotate_left
      · intro w'
        go_simp
        with_reducible rfl
      rotate_left
      · simp only [Act.put, List.setIfInBounds_toArray, List.set_cons_zero, List.set_cons_succ]
        rfl
      refine pure_ (i := 11) (N := some 53) (v := ?_) (a' := ?_) #[true, true, true, true, true, true, true, true, true, true, true, true, false, false, false, false, false, false, false, false, false, false, false, false, false, false, false, false, false, false] rfl rfl (by kernel_rfl) (fun _ _ _ h => h) (Or.inl ⟨by rfl, ?_⟩) ?_ ?_
      rotate_left
      · intro w'
        go_simp
        with_reducible rfl
      rotate_left
      · simp only [Act.put, List.setIfInBounds_toArray, List.set_cons_zero, List.set_cons_succ]
        rfl
      refine pure_ (i := 13) (N := some 55) (v := ?_) (a' := ?_) #[true, true, true, true, true, true, true, true, true, true, true, true, false, true, false, false, false, false, false, false, false, false, false, false, false, false, false, false, false, false] rfl rfl (by kernel_rfl) (fun _ _ _ h => h) (Or.inl ⟨by rfl, ?_⟩) ?_ ?_
      rotate_left
      · intro w'
        go_simp
        with_reducible rfl
      rotate_left
      · simp only [Act.put, List.setIfInBounds_toArray, List.set_cons_zero, List.set_cons_succ]
        rfl
      refine pure_ (i := 16) (N := some 58) (v := ?_) (a' := ?_) #[true, true, true, true, true, true, true, true, true, true, true, true, false, true, false, false, true, false, false, false, false, false, false, false, false, false, false, false, false, false] rfl rfl (by kernel_rfl) (fun _ _ _ h => h) (Or.inl ⟨by rfl, ?_⟩) ?_ ?_
      rotate_left
      · intro w'
        go_simp
        with_reducible rfl
      rotate_left
      · simp only [Act.put, List.setIfInBounds_toArray, List.set_cons_zero, List.set_cons_succ]
        rfl
      refine one_ (i := 12) (N := some 54) #[true, true, true, true, true, true, true, true, true, true, true, true, true, true, false, false, true, false, false, false, false, false, false, false, false, false, false, false, false, false] rfl rfl (by kernel_rfl) (by decide) (fun K hK => ?_)
      refine goes_ Try.func12 (by kernel_rfl) rfl #[.pointer (some ⟨g2, 0, none⟩)] (by rfl) rfl rfl (by first | rfl | (simp only [List.map_toArray, List.map_cons, List.map_nil]; rfl)) ?_
      refine (Fns.len _ HD.out).mono ?_
      rintro e w3 ⟨rfl, rfl⟩
      refine ⟨_, rfl, ?_⟩
      refine hK.out _ _ (hHeld) (fun hHeld' => ?_)
      clear hK K hHeld'
      refine norm_ (a' := ?_) ?_ ?_
      rotate_left
      · show Act.put _ (some 54) _ = _
        simp only [Act.put, List.setIfInBounds_toArray, List.set_cons_zero, List.set_cons_succ]
        rfl
      refine one_ (i := 14) (N := some 56) #[true, true, true, true, true, true, true, true, true, true, true, true, true, true, true, false, true, false, false, false, false, false, false, false, false, false, false, false, false, false] rfl rfl (by kernel_rfl) (by decide) (fun K hK => ?_)
      refine goes_ Try.func12 (by kernel_rfl) rfl #[.pointer (some ⟨g3, 0, none⟩)] (by rfl) rfl rfl (by first | rfl | (simp only [List.map_toArray, List.map_cons, List.map_nil]; rfl)) ?_
      refine (Fns.len _ TL.out).mono ?_
      rintro e w3 ⟨rfl, rfl⟩
      refine ⟨_, rfl, ?_⟩
      refine hK.out _ _ (hHeld) (fun hHeld' => ?_)
      clear hK K hHeld'
      refine norm_ (a' := ?_) ?_ ?_
      rotate_left
      · show Act.put _ (some 56) _ = _
        simp only [Act.put, List.setIfInBounds_toArray, List.set_cons_zero, List.set_cons_succ]
        rfl
      refine pure_ (i := 15) (N := some 57) (v := ?_) (a' := ?_) #[true, true, true, true, true, true, true, true, true, true, true, true, true, true, true, true, true, false, false, false, false, false, false, false, false, false, false, false, false, false] rfl rfl (by kernel_rfl) (fun _ _ _ h => h) (Or.inl ⟨by rfl, ?_⟩) ?_ ?_
      rotate_left
      · intro w'
        go_simp
        with_reducible rfl
      rotate_left
      · simp only [Act.put, List.setIfInBounds_toArray, List.set_cons_zero, List.set_cons_succ]
        rfl
      refine one_ (i := 17) (N := some 59) #[true, true, true, true, true, true, true, true, true, true, true, true, true, true, true, true, true, true, false, false, false, false, false, false, false, false, false, false, false, false] rfl rfl (by kernel_rfl) (by decide) (fun K hK => ?_)
      refine goes_ Try.func12 (by kernel_rfl) rfl #[.pointer (some ⟨g1, 0, none⟩)] (by rfl) rfl rfl (by first | rfl | (simp only [List.map_toArray, List.map_cons, List.map_nil]; rfl)) ?_
      refine (Fns.len _ XX.out).mono ?_
      rintro e w3 ⟨rfl, rfl⟩
      refine ⟨_, rfl, ?_⟩
      refine hK.out _ _ (hHeld) (fun hHeld' => ?_)
      clear hK K hHeld'
      refine norm_ (a' := ?_) ?_ ?_
      rotate_left
      · show Act.put _ (some 59) _ = _
        simp only [Act.put, List.setIfInBounds_toArray, List.set_cons_zero, List.set_cons_succ]
        rfl
      refine pure_ (i := 18) (N := some 60) (v := ?_) (a' := ?_) #[true, true, true, true, true, true, true, true, true, true, true, true, true, true, true, true, true, true, true, false, false, false, false, false, false, false, false, false, false, false] rfl rfl (by kernel_rfl) (fun _ _ _ h => h) (Or.inl ⟨by rfl, ?_⟩) ?_ ?_
      rotate_left
      · intro w'
        go_simp
        with_reducible rfl
      rotate_left
      · simp only [Act.put, List.setIfInBounds_toArray, List.set_cons_zero, List.set_cons_succ]
        rfl
      refine pure_ (i := 19) (N := some 61) (v := ?_) (a' := ?_) #[true, true, true, true, true, true, true, true, true, true, true, true, true, true, true, true, true, true, true, true, false, false, false, false, false, false, false, false, false, false] rfl rfl (by kernel_rfl) (fun _ _ _ h => h) (Or.inl ⟨by rfl, ?_⟩) ?_ ?_
      rotate_left
      · intro w'
        go_simp
        with_reducible rfl
      rotate_left
      · simp only [Act.put, List.setIfInBounds_toArray, List.set_cons_zero, List.set_cons_succ]
        rfl
      refine pure_ (i := 20) (N := some 62) (v := ?_) (a' := ?_) #[true, true, true, true, true, true, true, true, true, true, true, true, true, true, true, true, true, true, true, true, true, false, false, false, false, false, false, false, false, false] rfl rfl (by kernel_rfl) (fun _ _ _ h => h) (Or.inl ⟨by rfl, ?_⟩) ?_ ?_
      rotate_left
      · intro w'
        go_simp
        with_reducible rfl
      rotate_left
      · simp only [Act.put, List.setIfInBounds_toArray, List.set_cons_zero, List.set_cons_succ]
        rfl
      refine pure_ (i := 21) (N := some 63) (v := ?_) (a' := ?_) #[true, true, true, true, true, true, true, true, true, true, true, true, true, true, true, true, true, true, true, true, true, true, false, false, false, false, false, false, false, false] rfl rfl (by kernel_rfl) (fun _ _ _ h => h) (Or.inl ⟨by rfl, ?_⟩) ?_ ?_
      rotate_left
      · intro w'
        go_simp
        with_reducible rfl
      rotate_left
      · simp only [Act.put, List.setIfInBounds_toArray, List.set_cons_zero, List.set_cons_succ]
        rfl
      refine pure_ (i := 24) (N := some 66) (v := ?_) (a' := ?_) #[true, true, true, true, true, true, true, true, true, true, true, true, true, true, true, true, true, true, true, true, true, true, false, false, true, false, false, false, false, false] rfl rfl (by kernel_rfl) (fun _ _ _ h => h) (Or.inl ⟨by rfl, ?_⟩) ?_ ?_
      rotate_left
      · intro w'
        go_simp
        with_reducible rfl
      rotate_left
      · simp only [Act.put, List.setIfInBounds_toArray, List.set_cons_zero, List.set_cons_succ]
        rfl
      refine one_ (i := 22) (N := some 64) #[true, true, true, true, true, true, true, true, true, true, true, true, true, true, true, true, true, true, true, true, true, true, true, false, true, false, false, false, false, false] rfl rfl (by kernel_rfl) (by decide) (fun K hK => ?_)
      refine goes_ Try.func11 (by kernel_rfl) rfl #[.pointer (some ⟨g4, 0, none⟩)] (by rfl) rfl rfl (by first | rfl | (simp only [List.map_toArray, List.map_cons, List.map_nil]; rfl)) ?_
      refine (Fns.bytes _ (AG.out) hld).mono ?_
      rintro e wc ⟨BS3, cS3, rfl, hown, hbl⟩
      refine ⟨_, rfl, ?_⟩
      refine hK.out _ _ (step2 hHeld hHeld.size hbl) (fun hHeld' => ?_)
      clear hK K hHeld'
      refine norm_ (a' := ?_) ?_ ?_
      rotate_left
      · show Act.put _ (some 64) _ = _
        simp only [Act.put, List.setIfInBounds_toArray, List.set_cons_zero, List.set_cons_succ]
        rfl
      refine again_ (S' := fun w' => Below wc.heap.size wc w') (Below.refl _ _) (fun w' h => step2 (step2 hHeld hHeld.size hbl) (Below.size (step2 hHeld hHeld.size hbl)) h) ?_
      clear hHeld
      have hHeld : Below wc.heap.size wc wc := Below.refl _ _
      replace RB := Lib.hid (RB.out.below (hbl))
      replace XX := Lib.hid (XX.out.below (hbl))
      replace HD := Lib.hid (HD.out.below (hbl))
      replace TL := Lib.hid (TL.out.below (hbl))
      replace AG := Lib.hid (AG.out.below (hbl))
      replace HB := Lib.hid (step2 HB.out HB.out.size (hbl))
      have S3 := Lib.hid (rd_own hown).2.2.2
      clear hown hbl
      refine take_ (i := 23) (N := some 65) (v := ?_) (a' := ?_) #[true, true, true, true, true, true, true, true, true, true, true, true, true, true, true, true, true, true, true, true, true, true, true, true, true, false, false, false, false, false] rfl rfl (by kernel_rfl) (fun _ _ _ h => h) (Or.inl ⟨by rfl, ?_⟩) hHeld ?_ ?_
      rotate_left
      · intro w' s0
        have e0 := run_string (P := Try.prog) (src := 22) (dst := 9) (c := cS3) Try.underlying22 Try.underlying5 Try.underlying9 (S3.out.below s0)
        go_simp
        with_reducible rfl
      rotate_left
      · simp only [Act.put, List.setIfInBounds_toArray, List.set_cons_zero, List.set_cons_succ]
        rfl
      refine one_ (i := 25) (N := some 67) #[true, true, true, true, true, true, true, true, true, true, true, true, true, true, true, true, true, true, true, true, true, true, true, true, true, true, false, false, false, false] rfl rfl (by kernel_rfl) (by decide) (fun K hK => ?_)
      refine goes_ Try.func11 (by kernel_rfl) rfl #[.pointer (some ⟨g3, 0, none⟩)] (by rfl) rfl rfl (by first | rfl | (simp only [List.map_toArray, List.map_cons, List.map_nil]; rfl)) ?_
      refine (Fns.bytes _ (TL.out) hld).mono ?_
      rintro e wd2 ⟨BS4, cS4, rfl, hown, hbl⟩
      refine ⟨_, rfl, ?_⟩
      refine hK.out _ _ (step2 hHeld hHeld.size hbl) (fun hHeld' => ?_)
      clear hK K hHeld'
      refine norm_ (a' := ?_) ?_ ?_
      rotate_left
      · show Act.put _ (some 67) _ = _
        simp only [Act.put, List.setIfInBounds_toArray, List.set_cons_zero, List.set_cons_succ]
        rfl
      refine again_ (S' := fun w' => Below wd2.heap.size wd2 w') (Below.refl _ _) (fun w' h => step2 (step2 hHeld hHeld.size hbl) (Below.size (step2 hHeld hHeld.size hbl)) h) ?_
      clear hHeld
      have hHeld : Below wd2.heap.size wd2 wd2 := Below.refl _ _
      replace RB := Lib.hid (RB.out.below (hbl))
      replace XX := Lib.hid (XX.out.below (hbl))
      replace HD := Lib.hid (HD.out.below (hbl))
      replace TL := Lib.hid (TL.out.below (hbl))
      replace AG := Lib.hid (AG.out.below (hbl))
      replace HB := Lib.hid (step2 HB.out HB.out.size (hbl))
      replace S3 := Lib.hid (S3.out.below hbl)
      have S4 := Lib.hid (rd_own hown).2.2.2
      clear hown hbl
      refine take_ (i := 26) (N := some 68) (v := ?_) (a' := ?_) #[true, true, true, true, true, true, true, true, true, true, true, true, true, true, true, true, true, true, true, true, true, true, true, true, true, true, true, false, false, false] rfl rfl (by kernel_rfl) (fun _ _ _ h => h) (Or.inl ⟨by rfl, ?_⟩) hHeld ?_ ?_
      rotate_left
      · intro w' s0
        have e0 := run_string (P := Try.prog) (src := 22) (dst := 9) (c := cS4) Try.underlying22 Try.underlying5 Try.underlying9 (S4.out.below s0)
        go_simp
        with_reducible rfl
      rotate_left
      · simp only [Act.put, List.setIfInBounds_toArray, List.set_cons_zero, List.set_cons_succ]
        rfl
      refine pure_ (i := 27) (N := some 69) (v := ?_) (a' := ?_) #[true, true, true, true, true, true, true, true, true, true, true, true, true, true, true, true, true, true, true, true, true, true, true, true, true, true, true, true, false, false] rfl rfl (by kernel_rfl) (fun _ _ _ h => h) (Or.inl ⟨by rfl, ?_⟩) ?_ ?_
      rotate_left
      · intro w'
        go_simp
        with_reducible rfl
      rotate_left
      · simp only [Act.put, List.setIfInBounds_toArray, List.set_cons_zero, List.set_cons_succ]
        rfl
      refine pure_ (i := 28) (N := some 70) (v := ?_) (a' := ?_) #[true, true, true, true, true, true, true, true, true, true, true, true, true, true, true, true, true, true, true, true, true, true, true, true, true, true, true, true, true, false] rfl rfl (by kernel_rfl) (fun _ _ _ h => h) (Or.inl ⟨by rfl, ?_⟩) ?_ ?_
      rotate_left
      · intro w'
        go_simp
        with_reducible rfl
      rotate_left
      · simp only [Act.put, List.setIfInBounds_toArray, List.set_cons_zero, List.set_cons_succ]
        rfl
      refine pure_ (i := 29) (N := some 4) (v := ?_) (a' := ?_) #[true, true, true, true, true, true, true, true, true, true, true, true, true, true, true, true, true, true, true, true, true, true, true, true, true, true, true, true, true, true] rfl rfl (by kernel_rfl) (fun _ _ _ h => h) (Or.inl ⟨by rfl, ?_⟩) ?_ ?_
      rotate_left
      · intro w'
        go_simp
        with_reducible rfl
      rotate_left
      · simp only [Act.put, List.setIfInBounds_toArray, List.set_cons_zero, List.set_cons_succ]
        rfl
      refine done_ (by kernel_rfl) ?_
      go_wp2_with fail
      go_ret
      exact ⟨rfl, HB.out⟩
    · clear AGX
      have hne : (n == (l.length : Int)) = true := beq_iff_eq.2 (by omega)
      go_wp2_with fail
      refine start_ (n := 30) (S := fun w' => Below w8.heap.size w8 w') (ds := []) #[false, false, false, false, false, false, false, false, false, false, false, false, false, false, false, false, false, false, false, false, false, false, false, false, false, false, false, false, false, false] (by kernel_rfl) rfl rfl ((Below.refl _ _).drew) (fun hHeld => ?_)
      obtain ⟨wd, hwd⟩ : ∃ wd, wd = World.drew w8 := ⟨_, rfl⟩
      rw [← hwd] at hHeld ⊢
      clear hwd
      refine again_ (S' := fun w' => Below wd.heap.size wd w') (Below.refl _ _) (fun w' h => step2 hHeld hHeld.size h) ?_
      replace RB := Lib.hid (RB.out.below (hHeld))
      replace XX := Lib.hid (XX.out.below (hHeld))
      replace HD := Lib.hid (HD.out.below (hHeld))
      replace TL := Lib.hid (TL.out.below (hHeld))
      replace HB := Lib.hid (step2 HB.out HB.out.size (hHeld))
      clear hHeld
      have hHeld : Below wd.heap.size wd wd := Below.refl _ _
      refine pure_ (i := 0) (N := some 42) (v := ?_) (a' := ?_) #[true, false, false, false, false, false, false, false, false, false, false, false, false, false, false, false, false, false, false, false, false, false, false, false, false, false, false, false, false, false] rfl rfl (by kernel_rfl) (fun _ _ _ h => h) (Or.inl ⟨by rfl, ?_⟩) ?_ ?_
      rotate_left
      · intro w'
        go_simp
        with_reducible rfl
      rotate_left
      · simp only [Act.put, List.setIfInBounds_toArray, List.set_cons_zero, List.set_cons_succ]
        rfl
      refine pure_ (i := 3) (N := some 45) (v := ?_) (a' := ?_) #[true, false, false, true, false, false, false, false, false, false, false, false, false, false, false, false, false, false, false, false, false, false, false, false, false, false, false, false, false, false] rfl rfl (by kernel_rfl) (fun _ _ _ h => h) (Or.inl ⟨by rfl, ?_⟩) ?_ ?_
      rotate_left
      · intro w'
        go_simp
        with_reducible rfl
      rotate_left
      · simp only [Act.put, List.setIfInBounds_toArray, List.set_cons_zero, List.set_cons_succ]
        rfl
      refine pure_ (i := 7) (N := some 49) (v := ?_) (a' := ?_) #[true, false, false, true, false, false, false, true, false, false, false, false, false, false, false, false, false, false, false, false, false, false, false, false, false, false, false, false, false, false] rfl rfl (by kernel_rfl) (fun _ _ _ h => h) (Or.inl ⟨by rfl, ?_⟩) ?_ ?_
      rotate_left
      · intro w'
        go_simp
        with_reducible rfl
      rotate_left
      · simp only [Act.put, List.setIfInBounds_toArray, List.set_cons_zero, List.set_cons_succ]
        rfl
      refine take_ (i := 8) (N := some 50) (v := ?_) (a' := ?_) #[true, false, false, true, false, false, false, true, true, false, false, false, false, false, false, false, false, false, false, false, false, false, false, false, false, false, false, false, false, false] rfl rfl (by kernel_rfl) (fun _ _ _ h => h) (Or.inl ⟨by rfl, ?_⟩) hHeld ?_ ?_
      rotate_left
      · intro w' s0
        have e0 := run_string (P := Try.prog) (src := 22) (dst := 9) (c := c) Try.underlying22 Try.underlying5 Try.underlying9 (RB.out.below s0)
        go_simp
        with_reducible rfl
      rotate_left
      · simp only [Act.put, List.setIfInBounds_toArray, List.set_cons_zero, List.set_cons_succ]
        rfl
      refine one_ (i := 1) (N := some 43) #[true, true, false, true, false, false, false, true, true, false, false, false, false, false, false, false, false, false, false, false, false, false, false, false, false, false, false, false, false, false] rfl rfl (by kernel_rfl) (by decide) (fun K hK => ?_)
      refine goes_ Try.func11 (by kernel_rfl) rfl #[.pointer (some ⟨g2, 0, none⟩)] (by rfl) rfl rfl (by first | rfl | (simp only [List.map_toArray, List.map_cons, List.map_nil]; rfl)) ?_
      refine (Fns.bytes _ (HD.out) hlt).mono ?_
      rintro e wa ⟨BS1, cS1, rfl, hown, hbl⟩
      refine ⟨_, rfl, ?_⟩
      refine hK.out _ _ (step2 hHeld hHeld.size hbl) (fun hHeld' => ?_)
      clear hK K hHeld'
      refine norm_ (a' := ?_) ?_ ?_
      rotate_left
      · show Act.put _ (some 43) _ = _
        simp only [Act.put, List.setIfInBounds_toArray, List.set_cons_zero, List.set_cons_succ]
        rfl
      refine again_ (S' := fun w' => Below wa.heap.size wa w') (Below.refl _ _) (fun w' h => step2 (step2 hHeld hHeld.size hbl) (Below.size (step2 hHeld hHeld.size hbl)) h) ?_
      clear hHeld
      have hHeld : Below wa.heap.size wa wa := Below.refl _ _
      replace RB := Lib.hid (RB.out.below (hbl))
      replace XX := Lib.hid (XX.out.below (hbl))
      replace HD := Lib.hid (HD.out.below (hbl))
      replace TL := Lib.hid (TL.out.below (hbl))
      replace HB := Lib.hid (step2 HB.out HB.out.size (hbl))
      have S1 := Lib.hid (rd_own hown).2.2.2
      clear hown hbl
      refine take_ (i := 2) (N := some 44) (v := ?_) (a' := ?_) #[true, true, true, true, false, false, false, true, true, false, false, false, false, false, false, false, false, false, false, false, false, false, false, false, false, false, false, false, false, false] rfl rfl (by kernel_rfl) (fun _ _ _ h => h) (Or.inl ⟨by rfl, ?_⟩) hHeld ?_ ?_
      rotate_left
      · intro w' s0
        have e0 := run_string (P := Try.prog) (src := 22) (dst := 9) (c := cS1) Try.underlying22 Try.underlying5 Try.underlying9 (S1.out.below s0)
        go_simp
        with_reducible rfl
      rotate_left
      · simp only [Act.put, List.setIfInBounds_toArray, List.set_cons_zero, List.set_cons_succ]
        rfl
      refine one_ (i := 4) (N := some 46) #[true, true, true, true, true, false, false, true, true, false, false, false, false, false, false, false, false, false, false, false, false, false, false, false, false, false, false, false, false, false] rfl rfl (by kernel_rfl) (by decide) (fun K hK => ?_)
      refine goes_ Try.func11 (by kernel_rfl) rfl #[.pointer (some ⟨g3, 0, none⟩)] (by rfl) rfl rfl (by first | rfl | (simp only [List.map_toArray, List.map_cons, List.map_nil]; rfl)) ?_
      refine (Fns.bytes _ (TL.out) hld).mono ?_
      rintro e wb ⟨BS2, cS2, rfl, hown, hbl⟩
      refine ⟨_, rfl, ?_⟩
      refine hK.out _ _ (step2 hHeld hHeld.size hbl) (fun hHeld' => ?_)
      clear hK K hHeld'
      refine norm_ (a' := ?_) ?_ ?_
      rotate_left
      · show Act.put _ (some 46) _ = _
        simp only [Act.put, List.setIfInBounds_toArray, List.set_cons_zero, List.set_cons_succ]
        rfl
      refine again_ (S' := fun w' => Below wb.heap.size wb w') (Below.refl _ _) (fun w' h => step2 (step2 hHeld hHeld.size hbl) (Below.size (step2 hHeld hHeld.size hbl)) h) ?_
      clear hHeld
      have hHeld : Below wb.heap.size wb wb := Below.refl _ _
      replace RB := Lib.hid (RB.out.below (hbl))
      replace XX := Lib.hid (XX.out.below (hbl))
      replace HD := Lib.hid (HD.out.below (hbl))
      replace TL := Lib.hid (TL.out.below (hbl))
      replace HB := Lib.hid (step2 HB.out HB.out.size (hbl))
      replace S1 := Lib.hid (S1.out.below hbl)
      have S2 := Lib.hid (rd_own hown).2.2.2
      clear hown hbl
      refine take_ (i := 5) (N := some 47) (v := ?_) (a' := ?_) #[true, true, true, true, true, true, false, true, true, false, false, false, false, false, false, false, false, false, false, false, false, false, false, false, false, false, false, false, false, false] rfl rfl (by kernel_rfl) (fun _ _ _ h => h) (Or.inl ⟨by rfl, ?_⟩) hHeld ?_ ?_
      rotate_left
      · intro w' s0
        have e0 := run_string (P := Try.prog) (src := 22) (dst := 9) (c := cS2) Try.underlying22 Try.underlying5 Try.underlying9 (S2.out.below s0)
        go_simp
        with_reducible rfl
      rotate_left
      · simp only [Act.put, List.setIfInBounds_toArray, List.set_cons_zero, List.set_cons_succ]
        rfl
      refine pure_ (i := 6) (N := some 48) (v := ?_) (a' := ?_) #[true, true, true, true, true, true, true, true, true, false, false, false, false, false, false, false, false, false, false, false, false, false, false, false, false, false, false, false, false, false] rfl rfl (by kernel_rfl) (fun _ _ _ h => h) (Or.inl ⟨by rfl, ?_⟩) ?_ ?_
      rotate_left
      · intro w'
        go_simp
        with_reducible rfl
      rotate_left
      · simp only [Act.put, List.setIfInBounds_toArray, List.set_cons_zero, List.set_cons_succ]
        rfl
      refine pure_ (i := 9) (N := some 51) (v := ?_) (a' := ?_) #[true, true, true, true, true, true, true, true, true, true, false, false, false, false, false, false, false, false, false, false, false, false, false, false, false, false, false, false, false, false] rfl rfl (by kernel_rfl) (fun _ _ _ h => h) (Or.inl ⟨by rfl, ?_⟩) ?_ ?_
      rotate_left
      · intro w'
        go_simp
        with_reducible rfl
      rotate_left
      · simp only [Act.put, List.setIfInBounds_toArray, List.set_cons_zero, List.set_cons_succ]
        rfl
      refine pure_ (i := 10) (N := some 52) (v := ?_) (a' := ?_) #[true, true, true, true, true, true, true, true, true, true, true, false, false, false, false, false, false, false, false, false, false, false, false, false, false, false, false, false, false, false] rfl rfl (by kernel_rfl) (fun _ _ _ h => h) (Or.inl ⟨by rfl, ?_⟩) ?_ ?_
      rotate_left
      · intro w'
        go_simp
        with_reducible rfl
      rotate_left
      · simp only [Act.put, List.setIfInBounds_toArray, List.set_cons_zero, List.set_cons_succ]
        rfl
      refine pure_ (i := 11) (N := some 53) (v := ?_) (a' := ?_) #[true, true, true, true, true, true, true, true, true, true, true, true, false, false, false, false, false, false, false, false, false, false, false, false, false, false, false, false, false, false] rfl rfl (by kernel_rfl) (fun _ _ _ h => h) (Or.inl ⟨by rfl, ?_⟩) ?_ ?_
      rotate_left
      · intro w'
        go_simp
        with_reducible rfl
      rotate_left
      · simp only [Act.put, List.setIfInBounds_toArray, List.set_cons_zero, List.set_cons_succ]
        rfl
      refine pure_ (i := 13) (N := some 55) (v := ?_) (a' := ?_) #[true, true, true, true, true, true, true, true, true, true, true, true, false, true, false, false, false, false, false, false, false, false, false, false, false, false, false, false, false, false] rfl rfl (by kernel_rfl) (fun _ _ _ h => h) (Or.inl ⟨by rfl, ?_⟩) ?_ ?_
      rotate_left
      · intro w'
        go_simp
        with_reducible rfl
      rotate_left
      · simp only [Act.put, List.setIfInBounds_toArray, List.set_cons_zero, List.set_cons_succ]
        rfl
      refine pure_ (i := 16) (N := some 58) (v := ?_) (a' := ?_) #[true, true, true, true, true, true, true, true, true, true, true, true, false, true, false, false, true, false, false, false, false, false, false, false, false, false, false, false, false, false] rfl rfl (by kernel_rfl) (fun _ _ _ h => h) (Or.inl ⟨by rfl, ?_⟩) ?_ ?_
      rotate_left
      · intro w'
        go_simp
        with_reducible rfl
      rotate_left
      · simp only [Act.put, List.setIfInBounds_toArray, List.set_cons_zero, List.set_cons_succ]
        rfl
      refine one_ (i := 12) (N := some 54) #[true, true, true, true, true, true, true, true, true, true, true, true, true, true, false, false, true, false, false, false, false, false, false, false, false, false, false, false, false, false] rfl rfl (by kernel_rfl) (by decide) (fun K hK => ?_)
      refine goes_ Try.func12 (by kernel_rfl) rfl #[.pointer (some ⟨g2, 0, none⟩)] (by rfl) rfl rfl (by first | rfl | (simp only [List.map_toArray, List.map_cons, List.map_nil]; rfl)) ?_
      refine (Fns.len _ HD.out).mono ?_
      rintro e w3 ⟨rfl, rfl⟩
      refine ⟨_, rfl, ?_⟩
      refine hK.out _ _ (hHeld) (fun hHeld' => ?_)
      clear hK K hHeld'
      refine norm_ (a' := ?_) ?_ ?_
      rotate_left
      · show Act.put _ (some 54) _ = _
        simp only [Act.put, List.setIfInBounds_toArray, List.set_cons_zero, List.set_cons_succ]
        rfl
      refine one_ (i := 14) (N := some 56) #[true, true, true, true, true, true, true, true, true, true, true, true, true, true, true, false, true, false, false, false, false, false, false, false, false, false, false, false, false, false] rfl rfl (by kernel_rfl) (by decide) (fun K hK => ?_)
      refine goes_ Try.func12 (by kernel_rfl) rfl #[.pointer (some ⟨g3, 0, none⟩)] (by rfl) rfl rfl (by first | rfl | (simp only [List.map_toArray, List.map_cons, List.map_nil]; rfl)) ?_
      refine (Fns.len _ TL.out).mono ?_
      rintro e w3 ⟨rfl, rfl⟩
      refine ⟨_, rfl, ?_⟩
      refine hK.out _ _ (hHeld) (fun hHeld' => ?_)
      clear hK K hHeld'
      refine norm_ (a' := ?_) ?_ ?_
      rotate_left
      · show Act.put _ (some 56) _ = _
        simp only [Act.put, List.setIfInBounds_toArray, List.set_cons_zero, List.set_cons_succ]
        rfl
      refine pure_ (i := 15) (N := some 57) (v := ?_) (a' := ?_) #[true, true, true, true, true, true, true, true, true, true, true, true, true, true, true, true, true, false, false, false, false, false, false, false, false, false, false, false, false, false] rfl rfl (by kernel_rfl) (fun _ _ _ h => h) (Or.inl ⟨by rfl, ?_⟩) ?_ ?_
      rotate_left
      · intro w'
        go_simp
        with_reducible rfl
      rotate_left
      · simp only [Act.put, List.setIfInBounds_toArray, List.set_cons_zero, List.set_cons_succ]
        rfl
      refine one_ (i := 17) (N := some 59) #[true, true, true, true, true, true, true, true, true, true, true, true, true, true, true, true, true, true, false, false, false, false, false, false, false, false, false, false, false, false] rfl rfl (by kernel_rfl) (by decide) (fun K hK => ?_)
      refine goes_ Try.func12 (by kernel_rfl) rfl #[.pointer (some ⟨g1, 0, none⟩)] (by rfl) rfl rfl (by first | rfl | (simp only [List.map_toArray, List.map_cons, List.map_nil]; rfl)) ?_
      refine (Fns.len _ XX.out).mono ?_
      rintro e w3 ⟨rfl, rfl⟩
      refine ⟨_, rfl, ?_⟩
      refine hK.out _ _ (hHeld) (fun hHeld' => ?_)
      clear hK K hHeld'
      refine norm_ (a' := ?_) ?_ ?_
      rotate_left
      · show Act.put _ (some 59) _ = _
        simp only [Act.put, List.setIfInBounds_toArray, List.set_cons_zero, List.set_cons_succ]
        rfl
      refine pure_ (i := 18) (N := some 60) (v := ?_) (a' := ?_) #[true, true, true, true, true, true, true, true, true, true, true, true, true, true, true, true, true, true, true, false, false, false, false, false, false, false, false, false, false, false] rfl rfl (by kernel_rfl) (fun _ _ _ h => h) (Or.inl ⟨by rfl, ?_⟩) ?_ ?_
      rotate_left
      · intro w'
        go_simp
        with_reducible rfl
      rotate_left
      · simp only [Act.put, List.setIfInBounds_toArray, List.set_cons_zero, List.set_cons_succ]
        rfl
      refine pure_ (i := 19) (N := some 61) (v := ?_) (a' := ?_) #[true, true, true, true, true, true, true, true, true, true, true, true, true, true, true, true, true, true, true, true, false, false, false, false, false, false, false, false, false, false] rfl rfl (by kernel_rfl) (fun _ _ _ h => h) (Or.inl ⟨by rfl, ?_⟩) ?_ ?_
      rotate_left
      · intro w'
        go_simp
        with_reducible rfl
      rotate_left
      · simp only [Act.put, List.setIfInBounds_toArray, List.set_cons_zero, List.set_cons_succ]
        rfl
      refine pure_ (i := 20) (N := some 62) (v := ?_) (a' := ?_) #[true, true, true, true, true, true, true, true, true, true, true, true, true, true, true, true, true, true, true, true, true, false, false, false, false, false, false, false, false, false] rfl rfl (by kernel_rfl) (fun _ _ _ h => h) (Or.inl ⟨by rfl, ?_⟩) ?_ ?_
      rotate_left
      · intro w'
        go_simp
        with_reducible rfl
      rotate_left
      · simp only [Act.put, List.setIfInBounds_toArray, List.set_cons_zero, List.set_cons_succ]
        rfl
      refine pure_ (i := 21) (N := some 63) (v := ?_) (a' := ?_) #[true, true, true, true, true, true, true, true, true, true, true, true, true, true, true, true, true, true, true, true, true, true, false, false, false, false, false, false, false, false] rfl rfl (by kernel_rfl) (fun _ _ _ h => h) (Or.inl ⟨by rfl, ?_⟩) ?_ ?_
      rotate_left
      · intro w'
        go_simp
        with_reducible rfl
      rotate_left
      · simp only [Act.put, List.setIfInBounds_toArray, List.set_cons_zero, List.set_cons_succ]
        rfl
      refine pure_ (i := 24) (N := some 66) (v := ?_) (a' := ?_) #[true, true, true, true, true, true, true, true, true, true, true, true, true, true, true, true, true, true, true, true, true, true, false, false, true, false, false, false, false, false] rfl rfl (by kernel_rfl) (fun _ _ _ h => h) (Or.inl ⟨by rfl, ?_⟩) ?_ ?_
      rotate_left
      · intro w'
        go_simp
        with_reducible rfl
      rotate_left
      · simp only [Act.put, List.setIfInBounds_toArray, List.set_cons_zero, List.set_cons_succ]
        rfl
      refine one_ (i := 22) (N := some 64) #[true, true, true, true, true, true, true, true, true, true, true, true, true, true, true, true, true, true, true, true, true, true, true, false, true, false, false, false, false, false] rfl rfl (by kernel_rfl) (by decide) (fun K hK => ?_)
      refine goes_ Try.func11 (by kernel_rfl) rfl #[.pointer (some ⟨g3, 0, none⟩)] (by rfl) rfl rfl (by first | rfl | (simp only [List.map_toArray, List.map_cons, List.map_nil]; rfl)) ?_
      refine (Fns.bytes _ (TL.out) hld).mono ?_
      rintro e wc ⟨BS3, cS3, rfl, hown, hbl⟩
      refine ⟨_, rfl, ?_⟩
      refine hK.out _ _ (step2 hHeld hHeld.size hbl) (fun hHeld' => ?_)
      clear hK K hHeld'
      refine norm_ (a' := ?_) ?_ ?_
      rotate_left
      · show Act.put _ (some 64) _ = _
        simp only [Act.put, List.setIfInBounds_toArray, List.set_cons_zero, List.set_cons_succ]
        rfl
      refine again_ (S' := fun w' => Below wc.heap.size wc w') (Below.refl _ _) (fun w' h => step2 (step2 hHeld hHeld.size hbl) (Below.size (step2 hHeld hHeld.size hbl)) h) ?_
      clear hHeld
      have hHeld : Below wc.heap.size wc wc := Below.refl _ _
      replace RB := Lib.hid (RB.out.below (hbl))
      replace XX := Lib.hid (XX.out.below (hbl))
      replace HD := Lib.hid (HD.out.below (hbl))
      replace TL := Lib.hid (TL.out.below (hbl))
      replace HB := Lib.hid (step2 HB.out HB.out.size (hbl))
      have S3 := Lib.hid (rd_own hown).2.2.2
      clear hown hbl
      refine take_ (i := 23) (N := some 65) (v := ?_) (a' := ?_) #[true, true, true, true, true, true, true, true, true, true, true, true, true, true, true, true, true, true, true, true, true, true, true, true, true, false, false, false, false, false] rfl rfl (by kernel_rfl) (fun _ _ _ h => h) (Or.inl ⟨by rfl, ?_⟩) hHeld ?_ ?_
      rotate_left
      · intro w' s0
        have e0 := run_string (P := Try.prog) (src := 22) (dst := 9) (c := cS3) Try.underlying22 Try.underlying5 Try.underlying9 (S3.out.below s0)
        go_simp
        with_reducible rfl
      rotate_left
      · simp only [Act.put, List.setIfInBounds_toArray, List.set_cons_zero, List.set_cons_succ]
        rfl
      refine one_ (i := 25) (N := some 67) #[true, true, true, true, true, true, true, true, true, true, true, true, true, true, true, true, true, true, true, true, true, true, true, true, true, true, false, false, false, false] rfl rfl (by kernel_rfl) (by decide) (fun K hK => ?_)
      refine goes_ Try.func11 (by kernel_rfl) rfl #[.pointer (some ⟨g3, 0, none⟩)] (by rfl) rfl rfl (by first | rfl | (simp only [List.map_toArray, List.map_cons, List.map_nil]; rfl)) ?_
      refine (Fns.bytes _ (TL.out) hld).mono ?_
      rintro e wd2 ⟨BS4, cS4, rfl, hown, hbl⟩
      refine ⟨_, rfl, ?_⟩
      refine hK.out _ _ (step2 hHeld hHeld.size hbl) (fun hHeld' => ?_)
      clear hK K hHeld'
      refine norm_ (a' := ?_) ?_ ?_
      rotate_left
      · show Act.put _ (some 67) _ = _
        simp only [Act.put, List.setIfInBounds_toArray, List.set_cons_zero, List.set_cons_succ]
        rfl
      refine again_ (S' := fun w' => Below wd2.heap.size wd2 w') (Below.refl _ _) (fun w' h => step2 (step2 hHeld hHeld.size hbl) (Below.size (step2 hHeld hHeld.size hbl)) h) ?_
      clear hHeld
      have hHeld : Below wd2.heap.size wd2 wd2 := Below.refl _ _
      replace RB := Lib.hid (RB.out.below (hbl))
      replace XX := Lib.hid (XX.out.below (hbl))
      replace HD := Lib.hid (HD.out.below (hbl))
      replace TL := Lib.hid (TL.out.below (hbl))
      replace HB := Lib.hid (step2 HB.out HB.out.size (hbl))
      replace S3 := Lib.hid (S3.out.below hbl)
      have S4 := Lib.hid (rd_own hown).2.2.2
      clear hown hbl
      refine take_ (i := 26) (N := some 68) (v := ?_) (a' := ?_) #[true, true, true, true, true, true, true, true, true, true, true, true, true, true, true, true, true, true, true, true, true, true, true, true, true, true, true, false, false, false] rfl rfl (by kernel_rfl) (fun _ _ _ h => h) (Or.inl ⟨by rfl, ?_⟩) hHeld ?_ ?_
      rotate_left
      · intro w' s0
        have e0 := run_string (P := Try.prog) (src := 22) (dst := 9) (c := cS4) Try.underlying22 Try.underlying5 Try.underlying9 (S4.out.below s0)
        go_simp
        with_reducible rfl
      rotate_left
      · simp only [Act.put, List.setIfInBounds_toArray, List.set_cons_zero, List.set_cons_succ]
        rfl
      refine pure_ (i := 27) (N := some 69) (v := ?_) (a' := ?_) #[true, true, true, true, true, true, true, true, true, true, true, true, true, true, true, true, true, true, true, true, true, true, true, true, true, true, true, true, false, false] rfl rfl (by kernel_rfl) (fun _ _ _ h => h) (Or.inl ⟨by rfl, ?_⟩) ?_ ?_
      rotate_left
      · intro w'
        go_simp
        with_reducible rfl
      rotate_left
      · simp only [Act.put, List.setIfInBounds_toArray, List.set_cons_zero, List.set_cons_succ]
        rfl
      refine pure_ (i := 28) (N := some 70) (v := ?_) (a' := ?_) #[true, true, true, true, true, true, true, true, true, true, true, true, true, true, true, true, true, true, true, true, true, true, true, true, true, true, true, true, true, false] rfl rfl (by kernel_rfl) (fun _ _ _ h => h) (Or.inl ⟨by rfl, ?_⟩) ?_ ?_
      rotate_left
      · intro w'
        go_simp
        with_reducible rfl
      rotate_left
      · simp only [Act.put, List.setIfInBounds_toArray, List.set_cons_zero, List.set_cons_succ]
        rfl
      refine pure_ (i := 29) (N := some 4) (v := ?_) (a' := ?_) #[true, true, true, true, true, true, true, true, true, true, true, true, true, true, true, true, true, true, true, true, true, true, true, true, true, true, true, true, true, true] rfl rfl (by kernel_rfl) (fun _ _ _ h => h) (Or.inl ⟨by rfl, ?_⟩) ?_ ?_
      rotate_left
      · intro w'
        go_simp
        with_reducible rfl
      rotate_left
      · simp only [Act.put, List.setIfInBounds_toArray, List.set_cons_zero, List.set_cons_succ]
        rfl
      refine done_ (by kernel_rfl) ?_
      go_wp2_with fail
      go_ret
      exact ⟨rfl, HB.out⟩
end Go.Proofs.Ytmfhkgfgphdliaa.PartsWalk
