/- DERIVED. The walk of BlobTwice. -/
import Derived.Test.YtmfhkgfgphdliaaAwake
import Derived.Test.YtmfhkgfgphdliaaReg
namespace Go.Proofs.Ytmfhkgfgphdliaa.TwiceWalk
open Go.RowKit Go.Proofs.Ytmfhkgfgphdliaa.Mem Go.Proofs.Ytmfhkgfgphdliaa.Fns Go.Proofs.Ytmfhkgfgphdliaa.Reg Go.Proofs.YtmfhkgfgphdliaaW.PrintLast
set_option linter.unusedVariables false
set_option linter.unusedSimpArgs false

/-! ### The plain law -/
def mnI (a b : Int) : Int := if b < a then b else a
theorem portion_nn (l : List UInt8) (f t : Int) (hf : 0 ≤ f) (ht : 0 ≤ t) : portion l (some f) (some t) = (l.take (max (mnI f l.length) (mnI t l.length)).toNat).drop (mnI f l.length).toNat := by
  unfold portion placeI
  simp only [if_neg (show ¬ f < 0 by omega), if_neg (show ¬ t < 0 by omega)]
  rw [show (if f < (l.length : Int) then f else (l.length : Int)) = mnI f l.length by unfold mnI; split <;> split <;> omega, show (if t < (l.length : Int) then t else (l.length : Int)) = mnI t l.length by unfold mnI; split <;> split <;> omega]
theorem mnI_bd (a : Int) (n : Nat) (h : 0 ≤ a) : 0 ≤ mnI a n ∧ mnI a n ≤ n ∧ mnI a n ≤ a := by unfold mnI; split <;> omega
theorem twice (l : List UInt8) (f t g u : Int) (hf : 0 ≤ f) (ht : 0 ≤ t) (hg : 0 ≤ g) (hu : 0 ≤ u) :
    portion (portion l (some f) (some t)) (some g) (some u) =
      portion l (some (mnI f l.length + mnI g (portion l (some f) (some t)).length)) (some (mnI f l.length + mnI u (portion l (some f) (some t)).length)) := by
  obtain ⟨f0, f1, _⟩ := mnI_bd f l.length hf
  obtain ⟨t0, t1, _⟩ := mnI_bd t l.length ht
  obtain ⟨g0, g1, _⟩ := mnI_bd g (portion l (some f) (some t)).length hg
  obtain ⟨u0, u1, _⟩ := mnI_bd u (portion l (some f) (some t)).length hu
  have hlen : (portion l (some f) (some t)).length = (max (mnI f l.length) (mnI t l.length)).toNat - (mnI f l.length).toNat := by
    rw [portion_nn l f t hf ht, List.length_drop, List.length_take]; omega
  have hX := portion_nn l f t hf ht
  generalize portion l (some f) (some t) = X at *
  rw [portion_nn l _ _ (by omega) (by omega), portion_nn X g u hg hu]
  rw [show mnI (mnI f l.length + mnI g X.length) l.length = mnI f l.length + mnI g X.length by rw [mnI, if_neg (by omega)],
    show mnI (mnI f l.length + mnI u X.length) l.length = mnI f l.length + mnI u X.length by rw [mnI, if_neg (by omega)]]
  rw [hX, List.take_drop, List.drop_drop, List.take_take, ← hX]
  congr 1
  · omega
  · congr 1; omega
theorem new_place (W : World) (x : Int) (h0 : 0 ≤ x) (h1 : x ≤ 65535) (n : Nat) (hn : n = W.heap.size) : IsPlace (W.alloc (.cells #[.int .i64 x] 2)) (some ⟨n, 0, none⟩) (some x) := by
  subst hn
  exact Or.inr ⟨_, _, rfl, rfl, by simp [World.cell?_alloc_new], by omega, by omega⟩
theorem place_cell {w : World} {a : Addr} {x : Int} (h : IsPlace w (some a) (some x)) : w.cell? a = some (.int .i64 x) := by
  rcases h with ⟨h, _⟩ | ⟨a', x', h1, h2, h3, _⟩
  · cases h
  · injection h1 with h1; injection h2 with h2; subst h1 h2; exact h3
/-- Two new numbers, each in a block of its own. -/
def Two (wd : World) (p q : Nat) (w : World) : Prop := wd.heap.size ≤ p ∧ wd.heap.size ≤ q ∧ p ≠ q ∧ w.cell? ⟨p, 0, none⟩ = some (.int .i64 0) ∧ w.cell? ⟨q, 0, none⟩ = some (.int .i64 0) ∧ w.frozen? ⟨p, 0, none⟩ = false ∧ w.frozen? ⟨q, 0, none⟩ = false
theorem two_up (wd : World) : Two wd wd.heap.size (wd.heap.size + 1) ((wd.alloc (.cells #[.int .i64 0] 2)).alloc (.cells #[.int .i64 0] 2)) := by
  refine ⟨Nat.le_refl _, by omega, by omega, ?_, ?_, ?_, ?_⟩ <;> simp [World.cell?_alloc_past, World.cell?_alloc_new]
theorem two_down (wd : World) : Two wd (wd.heap.size + 1) wd.heap.size ((wd.alloc (.cells #[.int .i64 0] 2)).alloc (.cells #[.int .i64 0] 2)) := by
  obtain ⟨a, b, c, d, e, f, g⟩ := two_up wd
  exact ⟨b, a, Ne.symm c, e, d, g, f⟩

set_option maxHeartbeats 8000000 in
theorem law (A : Option Addr) (c : Nat) (l : List UInt8) (f t g u : Int) (w : World) (rd : Rd w A l) (hc : l.length ≤ c) (hz : l.length ≤ 140737488351232) (hf0 : 0 ≤ f) (hf1 : f ≤ 65535) (ht0 : 0 ≤ t) (ht1 : t ≤ 65535) (hg0 : 0 ≤ g) (hg1 : g ≤ 65535) (hu0 : 0 ≤ u) (hu1 : u ≤ 65535) :
    Calls Try.prog 5 #[.slice A l.length c, .int .u16 f, .int .u16 t, .int .u16 g, .int .u16 u] w fun e w' => e = .returned (.bool true) ∧ Below w.heap.size w w' := by
  have RB := Lib.hid rd
  clear rd
  by_cases hl : 300 < l.length
  · go_enter Try.func5, Try.ntmps5
    go_wp2_with fail
    refine (Awake.awake _).mono ?_
    rintro e w1 ⟨rfl, hb1⟩
    have HB := Lib.hid hb1
    clear hb1
    go_wp2_with fail
    refine (Awake.awake _).mono ?_
    rintro e w2 ⟨rfl, hb2⟩
    replace HB := Lib.hid (step2 HB.out HB.out.size hb2)
    clear hb2
    go_wp2_with fail
    go_ret
    exact ⟨rfl, HB.out⟩
  · have hl' : l.length ≤ 300 := by omega
    clear hl
    go_enter Try.func5, Try.ntmps5
    go_wp2_with fail
    refine (Awake.awake _).mono ?_
    rintro e w1 ⟨rfl, hb1⟩
    have HB := Lib.hid hb1
    replace RB := Lib.hid (RB.out.below hb1)
    clear hb1
    go_wp2_with fail
    obtain ⟨W1, hW1⟩ : ∃ W, W = (((w1.alloc (.cells #[.int .i64 f] 2)).alloc (.cells #[.int .i64 t] 2)).alloc (.cells #[.int .i64 g] 2)).alloc (.cells #[.int .i64 u] 2) := ⟨_, rfl⟩
    have hb1 : Below w1.heap.size w1 W1 := by rw [hW1]; exact (((below1 _ _).alloc (by simp) _).alloc (by simp; omega) _).alloc (by simp; omega) _
    have PF : Hid (IsPlace W1 (some ⟨w1.heap.size, 0, none⟩) (some f)) := by rw [hW1]; exact (((new_place w1 f hf0 hf1 _ rfl).below (below1 _ _)).below (below1 _ _)).below (below1 _ _)
    have PT : Hid (IsPlace W1 (some ⟨w1.heap.size + 1, 0, none⟩) (some t)) := by rw [hW1]; exact ((new_place _ t ht0 ht1 _ (by simp)).below (below1 _ _)).below (below1 _ _)
    have PG : Hid (IsPlace W1 (some ⟨w1.heap.size + 2, 0, none⟩) (some g)) := by rw [hW1]; exact (new_place _ g hg0 hg1 _ (by simp)).below (below1 _ _)
    have PU : Hid (IsPlace W1 (some ⟨w1.heap.size + 3, 0, none⟩) (some u)) := by rw [hW1]; exact new_place _ u hu0 hu1 _ (by simp)
    rw [← hW1]
    replace HB := Lib.hid (step2 HB.out HB.out.size hb1)
    replace RB := Lib.hid (RB.out.below hb1)
    clear hb1 hW1
    refine (new A c l ⟨#[]⟩ W1 RB.out hz (by decide)).mono ?_
    rintro e w2 ⟨g0, rfl, hx, hb2⟩
    have XX := Lib.hid hx
    replace RB := Lib.hid (RB.out.below hb2)
    replace PF := Lib.hid (PF.out.below hb2)
    replace PT := Lib.hid (PT.out.below hb2)
    replace PG := Lib.hid (PG.out.below hb2)
    replace PU := Lib.hid (PU.out.below hb2)
    replace HB := Lib.hid (step2 HB.out HB.out.size hb2)
    clear hx hb2
    go_wp2_with fail
    refine (slice w2 XX.out hz _ _ (some f) (some t) PF.out PT.out ⟨#[]⟩ (by decide)).mono ?_
    rintro e w3 ⟨gx, rfl, hx, hb2⟩
    have hXl := portion_len l (some f) (some t)
    have TW := Lib.hid (twice l f t g u hf0 ht0 hg0 hu0)
    generalize portion l (some f) (some t) = X at *
    have XX := Lib.hid hx
    replace RB := Lib.hid (RB.out.below hb2)
    replace PF := Lib.hid (PF.out.below hb2)
    replace PG := Lib.hid (PG.out.below hb2)
    replace PU := Lib.hid (PU.out.below hb2)
    replace HB := Lib.hid (step2 HB.out HB.out.size hb2)
    clear hx hb2 PT
    go_wp2_with fail
    refine (slice w3 XX.out (by omega) _ _ (some g) (some u) PG.out PU.out ⟨#[]⟩ (by decide)).mono ?_
    rintro e w7 ⟨gy, rfl, hx, hb2⟩
    have hyl : (portion X (some g) (some u)).length ≤ 140737488351232 := by have := portion_len X (some g) (some u); omega
    rw [TW.out] at hx hyl
    have YY := Lib.hid hx
    replace RB := Lib.hid (RB.out.below hb2)
    replace XX := Lib.hid (XX.out.below hb2)
    replace PF := Lib.hid (PF.out.below hb2)
    replace PG := Lib.hid (PG.out.below hb2)
    replace PU := Lib.hid (PU.out.below hb2)
    replace HB := Lib.hid (step2 HB.out HB.out.size hb2)
    clear hx hb2
    obtain ⟨f0, f1, _⟩ := mnI_bd f l.length hf0
    obtain ⟨g0', g1', _⟩ := mnI_bd g X.length hg0
    obtain ⟨u0', u1', _⟩ := mnI_bd u X.length hu0
    have hm1 : (if (l.length : Int) < f then (l.length : Int) else f) = mnI f l.length := rfl
    have hm2 : (if (X.length : Int) < g then (X.length : Int) else g) = mnI g X.length := rfl
    have hm3 : (if (X.length : Int) < u then (X.length : Int) else u) = mnI u X.length := rfl
    clear TW
    generalize mnI f l.length = a1 at *
    generalize mnI g X.length = b1 at *
    generalize mnI u X.length = b2 at *
    have hs1 : IntKind.i64.wrap (a1 + b1) = a1 + b1 := IntWalk.i64_in _ (by omega)
    have hs2 : IntKind.i64.wrap (a1 + b2) = a1 + b2 := IntWalk.i64_in _ (by omega)
    go_wp2_with fail
    refine start_ (n := 22) (S := fun w' => Below w7.heap.size w7 w') (ds := []) #[false, false, false, false, false, false, false, false, false, false, false, false, false, false, false, false, false, false, false, false, false, false] (by kernel_rfl) rfl rfl ((Below.refl _ _).drew) (fun hHeld => ?_)
    obtain ⟨wd, hwd⟩ : ∃ wd, wd = World.drew w7 := ⟨_, rfl⟩
    rw [← hwd] at hHeld ⊢
    clear hwd
    refine again_ (S' := fun w' => Below wd.heap.size wd w') (Below.refl _ _) (fun w' h => step2 hHeld hHeld.size h) ?_
    replace RB := Lib.hid (RB.out.below (hHeld))
    replace XX := Lib.hid (XX.out.below (hHeld))
    replace YY := Lib.hid (YY.out.below (hHeld))
    replace PF := Lib.hid (PF.out.below (hHeld))
    replace PG := Lib.hid (PG.out.below (hHeld))
    replace PU := Lib.hid (PU.out.below (hHeld))
    replace HB := Lib.hid (step2 HB.out HB.out.size (hHeld))
    clear hHeld
    have hHeld : Below wd.heap.size wd wd := Below.refl _ _
    refine pure_ (i := 1) (N := some 42) (v := ?_) (a' := ?_) #[false, true, false, false, false, false, false, false, false, false, false, false, false, false, false, false, false, false, false, false, false, false] rfl rfl (by kernel_rfl) (fun _ _ _ h => h) (Or.inl ⟨by rfl, ?_⟩) ?_ ?_
    rotate_left
    · intro w'
      go_simp
      with_reducible rfl
    rotate_left
    · simp only [Act.put, List.setIfInBounds_toArray, List.set_cons_zero, List.set_cons_succ]
      rfl
    refine pure_ (i := 2) (N := some 43) (v := ?_) (a' := ?_) #[false, true, true, false, false, false, false, false, false, false, false, false, false, false, false, false, false, false, false, false, false, false] rfl rfl (by kernel_rfl) (fun _ _ _ h => h) (Or.inl ⟨by rfl, ?_⟩) ?_ ?_
    rotate_left
    · intro w'
      go_simp
      with_reducible rfl
    rotate_left
    · simp only [Act.put, List.setIfInBounds_toArray, List.set_cons_zero, List.set_cons_succ]
      rfl
    refine pure_ (i := 5) (N := some 46) (v := ?_) (a' := ?_) #[false, true, true, false, false, true, false, false, false, false, false, false, false, false, false, false, false, false, false, false, false, false] rfl rfl (by kernel_rfl) (fun _ _ _ h => h) (Or.inl ⟨by rfl, ?_⟩) ?_ ?_
    rotate_left
    · intro w'
      go_simp
      with_reducible rfl
    rotate_left
    · simp only [Act.put, List.setIfInBounds_toArray, List.set_cons_zero, List.set_cons_succ]
      rfl
    refine pure_ (i := 10) (N := some 51) (v := ?_) (a' := ?_) #[false, true, true, false, false, true, false, false, false, false, true, false, false, false, false, false, false, false, false, false, false, false] rfl rfl (by kernel_rfl) (fun _ _ _ h => h) (Or.inl ⟨by rfl, ?_⟩) ?_ ?_
    rotate_left
    · intro w'
      go_simp
      with_reducible rfl
    rotate_left
    · simp only [Act.put, List.setIfInBounds_toArray, List.set_cons_zero, List.set_cons_succ]
      rfl
    refine pure_ (i := 11) (N := some 52) (v := ?_) (a' := ?_) #[false, true, true, false, false, true, false, false, false, false, true, true, false, false, false, false, false, false, false, false, false, false] rfl rfl (by kernel_rfl) (fun _ _ _ h => h) (Or.inl ⟨by rfl, ?_⟩) ?_ ?_
    rotate_left
    · intro w'
      go_simp
      with_reducible rfl
    rotate_left
    · simp only [Act.put, List.setIfInBounds_toArray, List.set_cons_zero, List.set_cons_succ]
      rfl
    refine pure_ (i := 14) (N := some 55) (v := ?_) (a' := ?_) #[false, true, true, false, false, true, false, false, false, false, true, true, false, false, true, false, false, false, false, false, false, false] rfl rfl (by kernel_rfl) (fun _ _ _ h => h) (Or.inl ⟨by rfl, ?_⟩) ?_ ?_
    rotate_left
    · intro w'
      go_simp
      with_reducible rfl
    rotate_left
    · simp only [Act.put, List.setIfInBounds_toArray, List.set_cons_zero, List.set_cons_succ]
      rfl
    refine take_ (i := 0) (N := some 41) (v := ?_) (a' := ?_) #[true, true, true, false, false, true, false, false, false, false, true, true, false, false, true, false, false, false, false, false, false, false] rfl rfl (by kernel_rfl) (fun _ _ _ h => h) (Or.inl ⟨by rfl, ?_⟩) hHeld ?_ ?_
    rotate_left
    · intro w' s0
      have e0 := (place_cell PF.out)
      rw [← s0.cell (World.block_lt_of_cell? _ _ e0)] at e0
      go_simp
      with_reducible rfl
    rotate_left
    · simp only [Act.put, List.setIfInBounds_toArray, List.set_cons_zero, List.set_cons_succ]
      rfl
    refine pure_ (i := 3) (N := some 44) (v := ?_) (a' := ?_) #[true, true, true, true, false, true, false, false, false, false, true, true, false, false, true, false, false, false, false, false, false, false] rfl rfl (by kernel_rfl) (fun _ _ _ h => h) (Or.inl ⟨by rfl, ?_⟩) ?_ ?_
    rotate_left
    · intro w'
      go_simp
      with_reducible rfl
    rotate_left
    · simp only [Act.put, List.setIfInBounds_toArray, List.set_cons_zero, List.set_cons_succ]
      rfl
    refine take_ (i := 4) (N := some 45) (v := ?_) (a' := ?_) #[true, true, true, true, true, true, false, false, false, false, true, true, false, false, true, false, false, false, false, false, false, false] rfl rfl (by kernel_rfl) (fun _ _ _ h => h) (Or.inl ⟨by rfl, ?_⟩) hHeld ?_ ?_
    rotate_left
    · intro w' s0
      have e0 := (place_cell PG.out)
      rw [← s0.cell (World.block_lt_of_cell? _ _ e0)] at e0
      go_simp
      with_reducible rfl
    rotate_left
    · simp only [Act.put, List.setIfInBounds_toArray, List.set_cons_zero, List.set_cons_succ]
      rfl
    refine take_ (i := 9) (N := some 50) (v := ?_) (a' := ?_) #[true, true, true, true, true, true, false, false, false, true, true, true, false, false, true, false, false, false, false, false, false, false] rfl rfl (by kernel_rfl) (fun _ _ _ h => h) (Or.inl ⟨by rfl, ?_⟩) hHeld ?_ ?_
    rotate_left
    · intro w' s0
      have e0 := (place_cell PF.out)
      rw [← s0.cell (World.block_lt_of_cell? _ _ e0)] at e0
      go_simp
      with_reducible rfl
    rotate_left
    · simp only [Act.put, List.setIfInBounds_toArray, List.set_cons_zero, List.set_cons_succ]
      rfl
    refine pure_ (i := 12) (N := some 53) (v := ?_) (a' := ?_) #[true, true, true, true, true, true, false, false, false, true, true, true, true, false, true, false, false, false, false, false, false, false] rfl rfl (by kernel_rfl) (fun _ _ _ h => h) (Or.inl ⟨by rfl, ?_⟩) ?_ ?_
    rotate_left
    · intro w'
      go_simp
      with_reducible rfl
    rotate_left
    · simp only [Act.put, List.setIfInBounds_toArray, List.set_cons_zero, List.set_cons_succ]
      rfl
    refine take_ (i := 13) (N := some 54) (v := ?_) (a' := ?_) #[true, true, true, true, true, true, false, false, false, true, true, true, true, true, true, false, false, false, false, false, false, false] rfl rfl (by kernel_rfl) (fun _ _ _ h => h) (Or.inl ⟨by rfl, ?_⟩) hHeld ?_ ?_
    rotate_left
    · intro w' s0
      have e0 := (place_cell PU.out)
      rw [← s0.cell (World.block_lt_of_cell? _ _ e0)] at e0
      go_simp
      with_reducible rfl
    rotate_left
    · simp only [Act.put, List.setIfInBounds_toArray, List.set_cons_zero, List.set_cons_succ]
      rfl
    refine join_ (σ := Nat × Nat) 2 #[true, true, true, true, true, true, true, true, true, true, true, true, true, true, true, true, true, true, true, true, false, false] (fun s => [(47, .int .i64 (X.length : Int)), (48, .int .i64 b1), (49, .int .i64 (a1 + b1)), (56, .int .i64 (X.length : Int)), (57, .int .i64 b2), (58, .int .i64 (a1 + b2)), (17, .pointer (some ⟨s.1, 0, none⟩)), (18, .pointer (some ⟨s.2, 0, none⟩))]) (fun s w' => Below wd.heap.size wd w' ∧ Two wd s.1 s.2 w') ?_ ?_
    rotate_left
    · intro hCont
      refine three_ (i := 6) (j := 18) (k := 19) (Ni := some 47) (Nj := some 17) (Nk := some 18) #[true, true, true, true, true, true, true, false, false, true, true, true, true, true, true, false, false, false, false, false, false, false] #[true, true, true, true, true, true, false, false, false, true, true, true, true, true, true, false, false, false, true, false, false, false] #[true, true, true, true, true, true, false, false, false, true, true, true, true, true, true, false, false, false, false, true, false, false] rfl rfl rfl rfl rfl rfl (by kernel_rfl) (by decide) (by decide) (by decide) (fun K hK => ?_) (fun K hK => ?_) (fun K hK => ?_)
      · skip
        refine goes_ Try.func12 (by kernel_rfl) rfl #[.pointer (some ⟨gx, 0, none⟩)] (by rfl) rfl rfl (by first | rfl | (simp only [List.map_toArray, List.map_cons, List.map_nil]; rfl)) ?_
        refine (Fns.len _ (XX.out.below hHeld)).mono ?_
        rintro e w3 ⟨rfl, rfl⟩
        refine ⟨_, rfl, ?_⟩
        refine hK.out _ _ (hHeld) (fun hHeld' => ?_)
        clear hK K hHeld'
        replace hHeld := hHeld
        refine norm_ (a' := ?_) ?_ ?_
        rotate_left
        · show Act.put _ (some 47) _ = _
          simp only [Act.put, List.setIfInBounds_toArray, List.set_cons_zero, List.set_cons_succ]
          rfl
        refine pure_ (i := 7) (N := some 48) (v := ?_) (a' := ?_) #[true, true, true, true, true, true, true, true, false, true, true, true, true, true, true, false, false, false, false, false, false, false] rfl rfl (by kernel_rfl) (fun _ _ _ h => h) (Or.inl ⟨by rfl, ?_⟩) ?_ ?_
        rotate_left
        · intro w'
          go_simp
          with_reducible rfl
        rotate_left
        · simp only [Act.put, List.setIfInBounds_toArray, List.set_cons_zero, List.set_cons_succ]
          rfl
        refine pure_ (i := 8) (N := some 49) (v := ?_) (a' := ?_) #[true, true, true, true, true, true, true, true, true, true, true, true, true, true, true, false, false, false, false, false, false, false] rfl rfl (by kernel_rfl) (fun _ _ _ h => h) (Or.inl ⟨by rfl, ?_⟩) ?_ ?_
        rotate_left
        · intro w'
          go_simp
          with_reducible rfl
        rotate_left
        · simp only [Act.put, List.setIfInBounds_toArray, List.set_cons_zero, List.set_cons_succ]
          rfl
        refine three_ (i := 15) (j := 18) (k := 19) (Ni := some 56) (Nj := some 17) (Nk := some 18) #[true, true, true, true, true, true, true, true, true, true, true, true, true, true, true, true, false, false, false, false, false, false] #[true, true, true, true, true, true, true, true, true, true, true, true, true, true, true, false, false, false, true, false, false, false] #[true, true, true, true, true, true, true, true, true, true, true, true, true, true, true, false, false, false, false, true, false, false] rfl rfl rfl rfl rfl rfl (by kernel_rfl) (by decide) (by decide) (by decide) (fun K hK => ?_) (fun K hK => ?_) (fun K hK => ?_)
        · skip
          refine goes_ Try.func12 (by kernel_rfl) rfl #[.pointer (some ⟨gx, 0, none⟩)] (by rfl) rfl rfl (by first | rfl | (simp only [List.map_toArray, List.map_cons, List.map_nil]; rfl)) ?_
          refine (Fns.len _ (XX.out.below hHeld)).mono ?_
          rintro e w3 ⟨rfl, rfl⟩
          refine ⟨_, rfl, ?_⟩
          refine hK.out _ _ (hHeld) (fun hHeld' => ?_)
          clear hK K hHeld'
          replace hHeld := hHeld
          refine norm_ (a' := ?_) ?_ ?_
          rotate_left
          · show Act.put _ (some 56) _ = _
            simp only [Act.put, List.setIfInBounds_toArray, List.set_cons_zero, List.set_cons_succ]
            rfl
          refine pure_ (i := 16) (N := some 57) (v := ?_) (a' := ?_) #[true, true, true, true, true, true, true, true, true, true, true, true, true, true, true, true, true, false, false, false, false, false] rfl rfl (by kernel_rfl) (fun _ _ _ h => h) (Or.inl ⟨by rfl, ?_⟩) ?_ ?_
          rotate_left
          · intro w'
            go_simp
            with_reducible rfl
          rotate_left
          · simp only [Act.put, List.setIfInBounds_toArray, List.set_cons_zero, List.set_cons_succ]
            rfl
          refine pure_ (i := 17) (N := some 58) (v := ?_) (a' := ?_) #[true, true, true, true, true, true, true, true, true, true, true, true, true, true, true, true, true, true, false, false, false, false] rfl rfl (by kernel_rfl) (fun _ _ _ h => h) (Or.inl ⟨by rfl, ?_⟩) ?_ ?_
          rotate_left
          · intro w'
            go_simp
            with_reducible rfl
          rotate_left
          · simp only [Act.put, List.setIfInBounds_toArray, List.set_cons_zero, List.set_cons_succ]
            rfl
          refine two_ (i := 18) (j := 19) (Ni := some 17) (Nj := some 18) #[true, true, true, true, true, true, true, true, true, true, true, true, true, true, true, true, true, true, true, false, false, false] #[true, true, true, true, true, true, true, true, true, true, true, true, true, true, true, true, true, true, false, true, false, false] rfl rfl rfl rfl (by kernel_rfl) (by decide) (by decide) (fun K hK => ?_) (fun K hK => ?_)
          · skip
            refine value_ (w1 := ?_) (v := ?_) (by rfl) rfl ?_ ?_
            rotate_left 2
            · go_simp
              constructor
              · rfl
              · rfl
            refine hK.out _ _ (Below.alloc hHeld hHeld.size (.cells #[.int .i64 0] 2)) (fun hHeld' => ?_)
            clear hK K hHeld'
            replace hHeld := Below.alloc hHeld hHeld.size (.cells #[.int .i64 0] 2)
            refine norm_ (a' := ?_) ?_ ?_
            rotate_left
            · show Act.put _ (some 17) _ = _
              simp only [Act.put, List.setIfInBounds_toArray, List.set_cons_zero, List.set_cons_succ]
              rfl
            refine one_ (i := 19) (N := some 18) #[true, true, true, true, true, true, true, true, true, true, true, true, true, true, true, true, true, true, true, true, false, false] rfl rfl (by kernel_rfl) (by decide) (fun K hK => ?_)
            refine value_ (w1 := ?_) (v := ?_) (by rfl) rfl ?_ ?_
            rotate_left 2
            · go_simp
              constructor
              · rfl
              · rfl
            refine hK.out _ _ (Below.alloc hHeld hHeld.size (.cells #[.int .i64 0] 2)) (fun hHeld' => ?_)
            clear hK K hHeld'
            replace hHeld := Below.alloc hHeld hHeld.size (.cells #[.int .i64 0] 2)
            refine norm_ (a' := ?_) ?_ ?_
            rotate_left
            · show Act.put _ (some 18) _ = _
              simp only [Act.put, List.setIfInBounds_toArray, List.set_cons_zero, List.set_cons_succ]
              rfl
            exact norm_ (by first | (simp only [putAll, Act.put, List.setIfInBounds_toArray, List.set_cons_zero, List.set_cons_succ]; done) | (simp only [putAll, Act.put, List.setIfInBounds_toArray, List.set_cons_zero, List.set_cons_succ]; rfl)) (hCont (wd.heap.size, wd.heap.size + 1) _ ⟨hHeld, two_up wd⟩)
          · skip
            refine value_ (w1 := ?_) (v := ?_) (by rfl) rfl ?_ ?_
            rotate_left 2
            · go_simp
              constructor
              · rfl
              · rfl
            refine hK.out _ _ (Below.alloc hHeld hHeld.size (.cells #[.int .i64 0] 2)) (fun hHeld' => ?_)
            clear hK K hHeld'
            replace hHeld := Below.alloc hHeld hHeld.size (.cells #[.int .i64 0] 2)
            refine norm_ (a' := ?_) ?_ ?_
            rotate_left
            · show Act.put _ (some 18) _ = _
              simp only [Act.put, List.setIfInBounds_toArray, List.set_cons_zero, List.set_cons_succ]
              rfl
            refine one_ (i := 18) (N := some 17) #[true, true, true, true, true, true, true, true, true, true, true, true, true, true, true, true, true, true, true, true, false, false] rfl rfl (by kernel_rfl) (by decide) (fun K hK => ?_)
            refine value_ (w1 := ?_) (v := ?_) (by rfl) rfl ?_ ?_
            rotate_left 2
            · go_simp
              constructor
              · rfl
              · rfl
            refine hK.out _ _ (Below.alloc hHeld hHeld.size (.cells #[.int .i64 0] 2)) (fun hHeld' => ?_)
            clear hK K hHeld'
            replace hHeld := Below.alloc hHeld hHeld.size (.cells #[.int .i64 0] 2)
            refine norm_ (a' := ?_) ?_ ?_
            rotate_left
            · show Act.put _ (some 17) _ = _
              simp only [Act.put, List.setIfInBounds_toArray, List.set_cons_zero, List.set_cons_succ]
              rfl
            exact norm_ (by first | (simp only [putAll, Act.put, List.setIfInBounds_toArray, List.set_cons_zero, List.set_cons_succ]; done) | (simp only [putAll, Act.put, List.setIfInBounds_toArray, List.set_cons_zero, List.set_cons_succ]; rfl)) (hCont (wd.heap.size + 1, wd.heap.size) _ ⟨hHeld, two_down wd⟩)
        · skip
          refine value_ (w1 := ?_) (v := ?_) (by rfl) rfl ?_ ?_
          rotate_left 2
          · go_simp
            constructor
            · rfl
            · rfl
          refine hK.out _ _ (Below.alloc hHeld hHeld.size (.cells #[.int .i64 0] 2)) (fun hHeld' => ?_)
          clear hK K hHeld'
          replace hHeld := Below.alloc hHeld hHeld.size (.cells #[.int .i64 0] 2)
          refine norm_ (a' := ?_) ?_ ?_
          rotate_left
          · show Act.put _ (some 17) _ = _
            simp only [Act.put, List.setIfInBounds_toArray, List.set_cons_zero, List.set_cons_succ]
            rfl
          refine two_ (i := 15) (j := 19) (Ni := some 56) (Nj := some 18) #[true, true, true, true, true, true, true, true, true, true, true, true, true, true, true, true, false, false, true, false, false, false] #[true, true, true, true, true, true, true, true, true, true, true, true, true, true, true, false, false, false, true, true, false, false] rfl rfl rfl rfl (by kernel_rfl) (by decide) (by decide) (fun K hK => ?_) (fun K hK => ?_)
          · skip
            refine goes_ Try.func12 (by kernel_rfl) rfl #[.pointer (some ⟨gx, 0, none⟩)] (by rfl) rfl rfl (by first | rfl | (simp only [List.map_toArray, List.map_cons, List.map_nil]; rfl)) ?_
            refine (Fns.len _ (XX.out.below hHeld)).mono ?_
            rintro e w3 ⟨rfl, rfl⟩
            refine ⟨_, rfl, ?_⟩
            refine hK.out _ _ (hHeld) (fun hHeld' => ?_)
            clear hK K hHeld'
            replace hHeld := hHeld
            refine norm_ (a' := ?_) ?_ ?_
            rotate_left
            · show Act.put _ (some 56) _ = _
              simp only [Act.put, List.setIfInBounds_toArray, List.set_cons_zero, List.set_cons_succ]
              rfl
            refine pure_ (i := 16) (N := some 57) (v := ?_) (a' := ?_) #[true, true, true, true, true, true, true, true, true, true, true, true, true, true, true, true, true, false, true, false, false, false] rfl rfl (by kernel_rfl) (fun _ _ _ h => h) (Or.inl ⟨by rfl, ?_⟩) ?_ ?_
            rotate_left
            · intro w'
              go_simp
              with_reducible rfl
            rotate_left
            · simp only [Act.put, List.setIfInBounds_toArray, List.set_cons_zero, List.set_cons_succ]
              rfl
            refine pure_ (i := 17) (N := some 58) (v := ?_) (a' := ?_) #[true, true, true, true, true, true, true, true, true, true, true, true, true, true, true, true, true, true, true, false, false, false] rfl rfl (by kernel_rfl) (fun _ _ _ h => h) (Or.inl ⟨by rfl, ?_⟩) ?_ ?_
            rotate_left
            · intro w'
              go_simp
              with_reducible rfl
            rotate_left
            · simp only [Act.put, List.setIfInBounds_toArray, List.set_cons_zero, List.set_cons_succ]
              rfl
            refine one_ (i := 19) (N := some 18) #[true, true, true, true, true, true, true, true, true, true, true, true, true, true, true, true, true, true, true, true, false, false] rfl rfl (by kernel_rfl) (by decide) (fun K hK => ?_)
            refine value_ (w1 := ?_) (v := ?_) (by rfl) rfl ?_ ?_
            rotate_left 2
            · go_simp
              constructor
              · rfl
              · rfl
            refine hK.out _ _ (Below.alloc hHeld hHeld.size (.cells #[.int .i64 0] 2)) (fun hHeld' => ?_)
            clear hK K hHeld'
            replace hHeld := Below.alloc hHeld hHeld.size (.cells #[.int .i64 0] 2)
            refine norm_ (a' := ?_) ?_ ?_
            rotate_left
            · show Act.put _ (some 18) _ = _
              simp only [Act.put, List.setIfInBounds_toArray, List.set_cons_zero, List.set_cons_succ]
              rfl
            exact norm_ (by first | (simp only [putAll, Act.put, List.setIfInBounds_toArray, List.set_cons_zero, List.set_cons_succ]; done) | (simp only [putAll, Act.put, List.setIfInBounds_toArray, List.set_cons_zero, List.set_cons_succ]; rfl)) (hCont (wd.heap.size, wd.heap.size + 1) _ ⟨hHeld, two_up wd⟩)
          · skip
            refine value_ (w1 := ?_) (v := ?_) (by rfl) rfl ?_ ?_
            rotate_left 2
            · go_simp
              constructor
              · rfl
              · rfl
            refine hK.out _ _ (Below.alloc hHeld hHeld.size (.cells #[.int .i64 0] 2)) (fun hHeld' => ?_)
            clear hK K hHeld'
            replace hHeld := Below.alloc hHeld hHeld.size (.cells #[.int .i64 0] 2)
            refine norm_ (a' := ?_) ?_ ?_
            rotate_left
            · show Act.put _ (some 18) _ = _
              simp only [Act.put, List.setIfInBounds_toArray, List.set_cons_zero, List.set_cons_succ]
              rfl
            refine one_ (i := 15) (N := some 56) #[true, true, true, true, true, true, true, true, true, true, true, true, true, true, true, true, false, false, true, true, false, false] rfl rfl (by kernel_rfl) (by decide) (fun K hK => ?_)
            refine goes_ Try.func12 (by kernel_rfl) rfl #[.pointer (some ⟨gx, 0, none⟩)] (by rfl) rfl rfl (by first | rfl | (simp only [List.map_toArray, List.map_cons, List.map_nil]; rfl)) ?_
            refine (Fns.len _ (XX.out.below hHeld)).mono ?_
            rintro e w3 ⟨rfl, rfl⟩
            refine ⟨_, rfl, ?_⟩
            refine hK.out _ _ (hHeld) (fun hHeld' => ?_)
            clear hK K hHeld'
            replace hHeld := hHeld
            refine norm_ (a' := ?_) ?_ ?_
            rotate_left
            · show Act.put _ (some 56) _ = _
              simp only [Act.put, List.setIfInBounds_toArray, List.set_cons_zero, List.set_cons_succ]
              rfl
            refine pure_ (i := 16) (N := some 57) (v := ?_) (a' := ?_) #[true, true, true, true, true, true, true, true, true, true, true, true, true, true, true, true, true, false, true, true, false, false] rfl rfl (by kernel_rfl) (fun _ _ _ h => h) (Or.inl ⟨by rfl, ?_⟩) ?_ ?_
            rotate_left
            · intro w'
              go_simp
              with_reducible rfl
            rotate_left
            · simp only [Act.put, List.setIfInBounds_toArray, List.set_cons_zero, List.set_cons_succ]
              rfl
            refine pure_ (i := 17) (N := some 58) (v := ?_) (a' := ?_) #[true, true, true, true, true, true, true, true, true, true, true, true, true, true, true, true, true, true, true, true, false, false] rfl rfl (by kernel_rfl) (fun _ _ _ h => h) (Or.inl ⟨by rfl, ?_⟩) ?_ ?_
            rotate_left
            · intro w'
              go_simp
              with_reducible rfl
            rotate_left
            · simp only [Act.put, List.setIfInBounds_toArray, List.set_cons_zero, List.set_cons_succ]
              rfl
            exact norm_ (by first | (simp only [putAll, Act.put, List.setIfInBounds_toArray, List.set_cons_zero, List.set_cons_succ]; done) | (simp only [putAll, Act.put, List.setIfInBounds_toArray, List.set_cons_zero, List.set_cons_succ]; rfl)) (hCont (wd.heap.size, wd.heap.size + 1) _ ⟨hHeld, two_up wd⟩)
        · skip
          refine value_ (w1 := ?_) (v := ?_) (by rfl) rfl ?_ ?_
          rotate_left 2
          · go_simp
            constructor
            · rfl
            · rfl
          refine hK.out _ _ (Below.alloc hHeld hHeld.size (.cells #[.int .i64 0] 2)) (fun hHeld' => ?_)
          clear hK K hHeld'
          replace hHeld := Below.alloc hHeld hHeld.size (.cells #[.int .i64 0] 2)
          refine norm_ (a' := ?_) ?_ ?_
          rotate_left
          · show Act.put _ (some 18) _ = _
            simp only [Act.put, List.setIfInBounds_toArray, List.set_cons_zero, List.set_cons_succ]
            rfl
          refine two_ (i := 15) (j := 18) (Ni := some 56) (Nj := some 17) #[true, true, true, true, true, true, true, true, true, true, true, true, true, true, true, true, false, false, false, true, false, false] #[true, true, true, true, true, true, true, true, true, true, true, true, true, true, true, false, false, false, true, true, false, false] rfl rfl rfl rfl (by kernel_rfl) (by decide) (by decide) (fun K hK => ?_) (fun K hK => ?_)
          · skip
            refine goes_ Try.func12 (by kernel_rfl) rfl #[.pointer (some ⟨gx, 0, none⟩)] (by rfl) rfl rfl (by first | rfl | (simp only [List.map_toArray, List.map_cons, List.map_nil]; rfl)) ?_
            refine (Fns.len _ (XX.out.below hHeld)).mono ?_
            rintro e w3 ⟨rfl, rfl⟩
            refine ⟨_, rfl, ?_⟩
            refine hK.out _ _ (hHeld) (fun hHeld' => ?_)
            clear hK K hHeld'
            replace hHeld := hHeld
            refine norm_ (a' := ?_) ?_ ?_
            rotate_left
            · show Act.put _ (some 56) _ = _
              simp only [Act.put, List.setIfInBounds_toArray, List.set_cons_zero, List.set_cons_succ]
              rfl
            refine pure_ (i := 16) (N := some 57) (v := ?_) (a' := ?_) #[true, true, true, true, true, true, true, true, true, true, true, true, true, true, true, true, true, false, false, true, false, false] rfl rfl (by kernel_rfl) (fun _ _ _ h => h) (Or.inl ⟨by rfl, ?_⟩) ?_ ?_
            rotate_left
            · intro w'
              go_simp
              with_reducible rfl
            rotate_left
            · simp only [Act.put, List.setIfInBounds_toArray, List.set_cons_zero, List.set_cons_succ]
              rfl
            refine pure_ (i := 17) (N := some 58) (v := ?_) (a' := ?_) #[true, true, true, true, true, true, true, true, true, true, true, true, true, true, true, true, true, true, false, true, false, false] rfl rfl (by kernel_rfl) (fun _ _ _ h => h) (Or.inl ⟨by rfl, ?_⟩) ?_ ?_
            rotate_left
            · intro w'
              go_simp
              with_reducible rfl
            rotate_left
            · simp only [Act.put, List.setIfInBounds_toArray, List.set_cons_zero, List.set_cons_succ]
              rfl
            refine one_ (i := 18) (N := some 17) #[true, true, true, true, true, true, true, true, true, true, true, true, true, true, true, true, true, true, true, true, false, false] rfl rfl (by kernel_rfl) (by decide) (fun K hK => ?_)
            refine value_ (w1 := ?_) (v := ?_) (by rfl) rfl ?_ ?_
            rotate_left 2
            · go_simp
              constructor
              · rfl
              · rfl
            refine hK.out _ _ (Below.alloc hHeld hHeld.size (.cells #[.int .i64 0] 2)) (fun hHeld' => ?_)
            clear hK K hHeld'
            replace hHeld := Below.alloc hHeld hHeld.size (.cells #[.int .i64 0] 2)
            refine norm_ (a' := ?_) ?_ ?_
            rotate_left
            · show Act.put _ (some 17) _ = _
              simp only [Act.put, List.setIfInBounds_toArray, List.set_cons_zero, List.set_cons_succ]
              rfl
            exact norm_ (by first | (simp only [putAll, Act.put, List.setIfInBounds_toArray, List.set_cons_zero, List.set_cons_succ]; done) | (simp only [putAll, Act.put, List.setIfInBounds_toArray, List.set_cons_zero, List.set_cons_succ]; rfl)) (hCont (wd.heap.size + 1, wd.heap.size) _ ⟨hHeld, two_down wd⟩)
          · skip
            refine value_ (w1 := ?_) (v := ?_) (by rfl) rfl ?_ ?_
            rotate_left 2
            · go_simp
              constructor
              · rfl
              · rfl
            refine hK.out _ _ (Below.alloc hHeld hHeld.size (.cells #[.int .i64 0] 2)) (fun hHeld' => ?_)
            clear hK K hHeld'
            replace hHeld := Below.alloc hHeld hHeld.size (.cells #[.int .i64 0] 2)
            refine norm_ (a' := ?_) ?_ ?_
            rotate_left
            · show Act.put _ (some 17) _ = _
              simp only [Act.put, List.setIfInBounds_toArray, List.set_cons_zero, List.set_cons_succ]
              rfl
            refine one_ (i := 15) (N := some 56) #[true, true, true, true, true, true, true, true, true, true, true, true, true, true, true, true, false, false, true, true, false, false] rfl rfl (by kernel_rfl) (by decide) (fun K hK => ?_)
            refine goes_ Try.func12 (by kernel_rfl) rfl #[.pointer (some ⟨gx, 0, none⟩)] (by rfl) rfl rfl (by first | rfl | (simp only [List.map_toArray, List.map_cons, List.map_nil]; rfl)) ?_
            refine (Fns.len _ (XX.out.below hHeld)).mono ?_
            rintro e w3 ⟨rfl, rfl⟩
            refine ⟨_, rfl, ?_⟩
            refine hK.out _ _ (hHeld) (fun hHeld' => ?_)
            clear hK K hHeld'
            replace hHeld := hHeld
            refine norm_ (a' := ?_) ?_ ?_
            rotate_left
            · show Act.put _ (some 56) _ = _
              simp only [Act.put, List.setIfInBounds_toArray, List.set_cons_zero, List.set_cons_succ]
              rfl
            refine pure_ (i := 16) (N := some 57) (v := ?_) (a' := ?_) #[true, true, true, true, true, true, true, true, true, true, true, true, true, true, true, true, true, false, true, true, false, false] rfl rfl (by kernel_rfl) (fun _ _ _ h => h) (Or.inl ⟨by rfl, ?_⟩) ?_ ?_
            rotate_left
            · intro w'
              go_simp
              with_reducible rfl
            rotate_left
            · simp only [Act.put, List.setIfInBounds_toArray, List.set_cons_zero, List.set_cons_succ]
              rfl
            refine pure_ (i := 17) (N := some 58) (v := ?_) (a' := ?_) #[true, true, true, true, true, true, true, true, true, true, true, true, true, true, true, true, true, true, true, true, false, false] rfl rfl (by kernel_rfl) (fun _ _ _ h => h) (Or.inl ⟨by rfl, ?_⟩) ?_ ?_
            rotate_left
            · intro w'
              go_simp
              with_reducible rfl
            rotate_left
            · simp only [Act.put, List.setIfInBounds_toArray, List.set_cons_zero, List.set_cons_succ]
              rfl
            exact norm_ (by first | (simp only [putAll, Act.put, List.setIfInBounds_toArray, List.set_cons_zero, List.set_cons_succ]; done) | (simp only [putAll, Act.put, List.setIfInBounds_toArray, List.set_cons_zero, List.set_cons_succ]; rfl)) (hCont (wd.heap.size + 1, wd.heap.size) _ ⟨hHeld, two_down wd⟩)
      · skip
        refine value_ (w1 := ?_) (v := ?_) (by rfl) rfl ?_ ?_
        rotate_left 2
        · go_simp
          constructor
          · rfl
          · rfl
        refine hK.out _ _ (Below.alloc hHeld hHeld.size (.cells #[.int .i64 0] 2)) (fun hHeld' => ?_)
        clear hK K hHeld'
        replace hHeld := Below.alloc hHeld hHeld.size (.cells #[.int .i64 0] 2)
        refine norm_ (a' := ?_) ?_ ?_
        rotate_left
        · show Act.put _ (some 17) _ = _
          simp only [Act.put, List.setIfInBounds_toArray, List.set_cons_zero, List.set_cons_succ]
          rfl
        refine two_ (i := 6) (j := 19) (Ni := some 47) (Nj := some 18) #[true, true, true, true, true, true, true, false, false, true, true, true, true, true, true, false, false, false, true, false, false, false] #[true, true, true, true, true, true, false, false, false, true, true, true, true, true, true, false, false, false, true, true, false, false] rfl rfl rfl rfl (by kernel_rfl) (by decide) (by decide) (fun K hK => ?_) (fun K hK => ?_)
        · skip
          refine goes_ Try.func12 (by kernel_rfl) rfl #[.pointer (some ⟨gx, 0, none⟩)] (by rfl) rfl rfl (by first | rfl | (simp only [List.map_toArray, List.map_cons, List.map_nil]; rfl)) ?_
          refine (Fns.len _ (XX.out.below hHeld)).mono ?_
          rintro e w3 ⟨rfl, rfl⟩
          refine ⟨_, rfl, ?_⟩
          refine hK.out _ _ (hHeld) (fun hHeld' => ?_)
          clear hK K hHeld'
          replace hHeld := hHeld
          refine norm_ (a' := ?_) ?_ ?_
          rotate_left
          · show Act.put _ (some 47) _ = _
            simp only [Act.put, List.setIfInBounds_toArray, List.set_cons_zero, List.set_cons_succ]
            rfl
          refine pure_ (i := 7) (N := some 48) (v := ?_) (a' := ?_) #[true, true, true, true, true, true, true, true, false, true, true, true, true, true, true, false, false, false, true, false, false, false] rfl rfl (by kernel_rfl) (fun _ _ _ h => h) (Or.inl ⟨by rfl, ?_⟩) ?_ ?_
          rotate_left
          · intro w'
            go_simp
            with_reducible rfl
          rotate_left
          · simp only [Act.put, List.setIfInBounds_toArray, List.set_cons_zero, List.set_cons_succ]
            rfl
          refine pure_ (i := 8) (N := some 49) (v := ?_) (a' := ?_) #[true, true, true, true, true, true, true, true, true, true, true, true, true, true, true, false, false, false, true, false, false, false] rfl rfl (by kernel_rfl) (fun _ _ _ h => h) (Or.inl ⟨by rfl, ?_⟩) ?_ ?_
          rotate_left
          · intro w'
            go_simp
            with_reducible rfl
          rotate_left
          · simp only [Act.put, List.setIfInBounds_toArray, List.set_cons_zero, List.set_cons_succ]
            rfl
          refine two_ (i := 15) (j := 19) (Ni := some 56) (Nj := some 18) #[true, true, true, true, true, true, true, true, true, true, true, true, true, true, true, true, false, false, true, false, false, false] #[true, true, true, true, true, true, true, true, true, true, true, true, true, true, true, false, false, false, true, true, false, false] rfl rfl rfl rfl (by kernel_rfl) (by decide) (by decide) (fun K hK => ?_) (fun K hK => ?_)
          · skip
            refine goes_ Try.func12 (by kernel_rfl) rfl #[.pointer (some ⟨gx, 0, none⟩)] (by rfl) rfl rfl (by first | rfl | (simp only [List.map_toArray, List.map_cons, List.map_nil]; rfl)) ?_
            refine (Fns.len _ (XX.out.below hHeld)).mono ?_
            rintro e w3 ⟨rfl, rfl⟩
            refine ⟨_, rfl, ?_⟩
            refine hK.out _ _ (hHeld) (fun hHeld' => ?_)
            clear hK K hHeld'
            replace hHeld := hHeld
            refine norm_ (a' := ?_) ?_ ?_
            rotate_left
            · show Act.put _ (some 56) _ = _
              simp only [Act.put, List.setIfInBounds_toArray, List.set_cons_zero, List.set_cons_succ]
              rfl
            refine pure_ (i := 16) (N := some 57) (v := ?_) (a' := ?_) #[true, true, true, true, true, true, true, true, true, true, true, true, true, true, true, true, true, false, true, false, false, false] rfl rfl (by kernel_rfl) (fun _ _ _ h => h) (Or.inl ⟨by rfl, ?_⟩) ?_ ?_
            rotate_left
            · intro w'
              go_simp
              with_reducible rfl
            rotate_left
            · simp only [Act.put, List.setIfInBounds_toArray, List.set_cons_zero, List.set_cons_succ]
              rfl
            refine pure_ (i := 17) (N := some 58) (v := ?_) (a' := ?_) #[true, true, true, true, true, true, true, true, true, true, true, true, true, true, true, true, true, true, true, false, false, false] rfl rfl (by kernel_rfl) (fun _ _ _ h => h) (Or.inl ⟨by rfl, ?_⟩) ?_ ?_
            rotate_left
            · intro w'
              go_simp
              with_reducible rfl
            rotate_left
            · simp only [Act.put, List.setIfInBounds_toArray, List.set_cons_zero, List.set_cons_succ]
              rfl
            refine one_ (i := 19) (N := some 18) #[true, true, true, true, true, true, true, true, true, true, true, true, true, true, true, true, true, true, true, true, false, false] rfl rfl (by kernel_rfl) (by decide) (fun K hK => ?_)
            refine value_ (w1 := ?_) (v := ?_) (by rfl) rfl ?_ ?_
            rotate_left 2
            · go_simp
              constructor
              · rfl
              · rfl
            refine hK.out _ _ (Below.alloc hHeld hHeld.size (.cells #[.int .i64 0] 2)) (fun hHeld' => ?_)
            clear hK K hHeld'
            replace hHeld := Below.alloc hHeld hHeld.size (.cells #[.int .i64 0] 2)
            refine norm_ (a' := ?_) ?_ ?_
            rotate_left
            · show Act.put _ (some 18) _ = _
              simp only [Act.put, List.setIfInBounds_toArray, List.set_cons_zero, List.set_cons_succ]
              rfl
            exact norm_ (by first | (simp only [putAll, Act.put, List.setIfInBounds_toArray, List.set_cons_zero, List.set_cons_succ]; done) | (simp only [putAll, Act.put, List.setIfInBounds_toArray, List.set_cons_zero, List.set_cons_succ]; rfl)) (hCont (wd.heap.size, wd.heap.size + 1) _ ⟨hHeld, two_up wd⟩)
          · skip
            refine value_ (w1 := ?_) (v := ?_) (by rfl) rfl ?_ ?_
            rotate_left 2
            · go_simp
              constructor
              · rfl
              · rfl
            refine hK.out _ _ (Below.alloc hHeld hHeld.size (.cells #[.int .i64 0] 2)) (fun hHeld' => ?_)
            clear hK K hHeld'
            replace hHeld := Below.alloc hHeld hHeld.size (.cells #[.int .i64 0] 2)
            refine norm_ (a' := ?_) ?_ ?_
            rotate_left
            · show Act.put _ (some 18) _ = _
              simp only [Act.put, List.setIfInBounds_toArray, List.set_cons_zero, List.set_cons_succ]
              rfl
            refine one_ (i := 15) (N := some 56) #[true, true, true, true, true, true, true, true, true, true, true, true, true, true, true, true, false, false, true, true, false, false] rfl rfl (by kernel_rfl) (by decide) (fun K hK => ?_)
            refine goes_ Try.func12 (by kernel_rfl) rfl #[.pointer (some ⟨gx, 0, none⟩)] (by rfl) rfl rfl (by first | rfl | (simp only [List.map_toArray, List.map_cons, List.map_nil]; rfl)) ?_
            refine (Fns.len _ (XX.out.below hHeld)).mono ?_
            rintro e w3 ⟨rfl, rfl⟩
            refine ⟨_, rfl, ?_⟩
            refine hK.out _ _ (hHeld) (fun hHeld' => ?_)
            clear hK K hHeld'
            replace hHeld := hHeld
            refine norm_ (a' := ?_) ?_ ?_
            rotate_left
            · show Act.put _ (some 56) _ = _
              simp only [Act.put, List.setIfInBounds_toArray, List.set_cons_zero, List.set_cons_succ]
              rfl
            refine pure_ (i := 16) (N := some 57) (v := ?_) (a' := ?_) #[true, true, true, true, true, true, true, true, true, true, true, true, true, true, true, true, true, false, true, true, false, false] rfl rfl (by kernel_rfl) (fun _ _ _ h => h) (Or.inl ⟨by rfl, ?_⟩) ?_ ?_
            rotate_left
            · intro w'
              go_simp
              with_reducible rfl
            rotate_left
            · simp only [Act.put, List.setIfInBounds_toArray, List.set_cons_zero, List.set_cons_succ]
              rfl
            refine pure_ (i := 17) (N := some 58) (v := ?_) (a' := ?_) #[true, true, true, true, true, true, true, true, true, true, true, true, true, true, true, true, true, true, true, true, false, false] rfl rfl (by kernel_rfl) (fun _ _ _ h => h) (Or.inl ⟨by rfl, ?_⟩) ?_ ?_
            rotate_left
            · intro w'
              go_simp
              with_reducible rfl
            rotate_left
            · simp only [Act.put, List.setIfInBounds_toArray, List.set_cons_zero, List.set_cons_succ]
              rfl
            exact norm_ (by first | (simp only [putAll, Act.put, List.setIfInBounds_toArray, List.set_cons_zero, List.set_cons_succ]; done) | (simp only [putAll, Act.put, List.setIfInBounds_toArray, List.set_cons_zero, List.set_cons_succ]; rfl)) (hCont (wd.heap.size, wd.heap.size + 1) _ ⟨hHeld, two_up wd⟩)
        · skip
          refine value_ (w1 := ?_) (v := ?_) (by rfl) rfl ?_ ?_
          rotate_left 2
          · go_simp
            constructor
            · rfl
            · rfl
          refine hK.out _ _ (Below.alloc hHeld hHeld.size (.cells #[.int .i64 0] 2)) (fun hHeld' => ?_)
          clear hK K hHeld'
          replace hHeld := Below.alloc hHeld hHeld.size (.cells #[.int .i64 0] 2)
          refine norm_ (a' := ?_) ?_ ?_
          rotate_left
          · show Act.put _ (some 18) _ = _
            simp only [Act.put, List.setIfInBounds_toArray, List.set_cons_zero, List.set_cons_succ]
            rfl
          refine one_ (i := 6) (N := some 47) #[true, true, true, true, true, true, true, false, false, true, true, true, true, true, true, false, false, false, true, true, false, false] rfl rfl (by kernel_rfl) (by decide) (fun K hK => ?_)
          refine goes_ Try.func12 (by kernel_rfl) rfl #[.pointer (some ⟨gx, 0, none⟩)] (by rfl) rfl rfl (by first | rfl | (simp only [List.map_toArray, List.map_cons, List.map_nil]; rfl)) ?_
          refine (Fns.len _ (XX.out.below hHeld)).mono ?_
          rintro e w3 ⟨rfl, rfl⟩
          refine ⟨_, rfl, ?_⟩
          refine hK.out _ _ (hHeld) (fun hHeld' => ?_)
          clear hK K hHeld'
          replace hHeld := hHeld
          refine norm_ (a' := ?_) ?_ ?_
          rotate_left
          · show Act.put _ (some 47) _ = _
            simp only [Act.put, List.setIfInBounds_toArray, List.set_cons_zero, List.set_cons_succ]
            rfl
          refine pure_ (i := 7) (N := some 48) (v := ?_) (a' := ?_) #[true, true, true, true, true, true, true, true, false, true, true, true, true, true, true, false, false, false, true, true, false, false] rfl rfl (by kernel_rfl) (fun _ _ _ h => h) (Or.inl ⟨by rfl, ?_⟩) ?_ ?_
          rotate_left
          · intro w'
            go_simp
            with_reducible rfl
          rotate_left
          · simp only [Act.put, List.setIfInBounds_toArray, List.set_cons_zero, List.set_cons_succ]
            rfl
          refine pure_ (i := 8) (N := some 49) (v := ?_) (a' := ?_) #[true, true, true, true, true, true, true, true, true, true, true, true, true, true, true, false, false, false, true, true, false, false] rfl rfl (by kernel_rfl) (fun _ _ _ h => h) (Or.inl ⟨by rfl, ?_⟩) ?_ ?_
          rotate_left
          · intro w'
            go_simp
            with_reducible rfl
          rotate_left
          · simp only [Act.put, List.setIfInBounds_toArray, List.set_cons_zero, List.set_cons_succ]
            rfl
          refine one_ (i := 15) (N := some 56) #[true, true, true, true, true, true, true, true, true, true, true, true, true, true, true, true, false, false, true, true, false, false] rfl rfl (by kernel_rfl) (by decide) (fun K hK => ?_)
          refine goes_ Try.func12 (by kernel_rfl) rfl #[.pointer (some ⟨gx, 0, none⟩)] (by rfl) rfl rfl (by first | rfl | (simp only [List.map_toArray, List.map_cons, List.map_nil]; rfl)) ?_
          refine (Fns.len _ (XX.out.below hHeld)).mono ?_
          rintro e w3 ⟨rfl, rfl⟩
          refine ⟨_, rfl, ?_⟩
          refine hK.out _ _ (hHeld) (fun hHeld' => ?_)
          clear hK K hHeld'
          replace hHeld := hHeld
          refine norm_ (a' := ?_) ?_ ?_
          rotate_left
          · show Act.put _ (some 56) _ = _
            simp only [Act.put, List.setIfInBounds_toArray, List.set_cons_zero, List.set_cons_succ]
            rfl
          refine pure_ (i := 16) (N := some 57) (v := ?_) (a' := ?_) #[true, true, true, true, true, true, true, true, true, true, true, true, true, true, true, true, true, false, true, true, false, false] rfl rfl (by kernel_rfl) (fun _ _ _ h => h) (Or.inl ⟨by rfl, ?_⟩) ?_ ?_
          rotate_left
          · intro w'
            go_simp
            with_reducible rfl
          rotate_left
          · simp only [Act.put, List.setIfInBounds_toArray, List.set_cons_zero, List.set_cons_succ]
            rfl
          refine pure_ (i := 17) (N := some 58) (v := ?_) (a' := ?_) #[true, true, true, true, true, true, true, true, true, true, true, true, true, true, true, true, true, true, true, true, false, false] rfl rfl (by kernel_rfl) (fun _ _ _ h => h) (Or.inl ⟨by rfl, ?_⟩) ?_ ?_
          rotate_left
          · intro w'
            go_simp
            with_reducible rfl
          rotate_left
          · simp only [Act.put, List.setIfInBounds_toArray, List.set_cons_zero, List.set_cons_succ]
            rfl
          exact norm_ (by first | (simp only [putAll, Act.put, List.setIfInBounds_toArray, List.set_cons_zero, List.set_cons_succ]; done) | (simp only [putAll, Act.put, List.setIfInBounds_toArray, List.set_cons_zero, List.set_cons_succ]; rfl)) (hCont (wd.heap.size, wd.heap.size + 1) _ ⟨hHeld, two_up wd⟩)
      · skip
        refine value_ (w1 := ?_) (v := ?_) (by rfl) rfl ?_ ?_
        rotate_left 2
        · go_simp
          constructor
          · rfl
          · rfl
        refine hK.out _ _ (Below.alloc hHeld hHeld.size (.cells #[.int .i64 0] 2)) (fun hHeld' => ?_)
        clear hK K hHeld'
        replace hHeld := Below.alloc hHeld hHeld.size (.cells #[.int .i64 0] 2)
        refine norm_ (a' := ?_) ?_ ?_
        rotate_left
        · show Act.put _ (some 18) _ = _
          simp only [Act.put, List.setIfInBounds_toArray, List.set_cons_zero, List.set_cons_succ]
          rfl
        refine two_ (i := 6) (j := 18) (Ni := some 47) (Nj := some 17) #[true, true, true, true, true, true, true, false, false, true, true, true, true, true, true, false, false, false, false, true, false, false] #[true, true, true, true, true, true, false, false, false, true, true, true, true, true, true, false, false, false, true, true, false, false] rfl rfl rfl rfl (by kernel_rfl) (by decide) (by decide) (fun K hK => ?_) (fun K hK => ?_)
        · skip
          refine goes_ Try.func12 (by kernel_rfl) rfl #[.pointer (some ⟨gx, 0, none⟩)] (by rfl) rfl rfl (by first | rfl | (simp only [List.map_toArray, List.map_cons, List.map_nil]; rfl)) ?_
          refine (Fns.len _ (XX.out.below hHeld)).mono ?_
          rintro e w3 ⟨rfl, rfl⟩
          refine ⟨_, rfl, ?_⟩
          refine hK.out _ _ (hHeld) (fun hHeld' => ?_)
          clear hK K hHeld'
          replace hHeld := hHeld
          refine norm_ (a' := ?_) ?_ ?_
          rotate_left
          · show Act.put _ (some 47) _ = _
            simp only [Act.put, List.setIfInBounds_toArray, List.set_cons_zero, List.set_cons_succ]
            rfl
          refine pure_ (i := 7) (N := some 48) (v := ?_) (a' := ?_) #[true, true, true, true, true, true, true, true, false, true, true, true, true, true, true, false, false, false, false, true, false, false] rfl rfl (by kernel_rfl) (fun _ _ _ h => h) (Or.inl ⟨by rfl, ?_⟩) ?_ ?_
          rotate_left
          · intro w'
            go_simp
            with_reducible rfl
          rotate_left
          · simp only [Act.put, List.setIfInBounds_toArray, List.set_cons_zero, List.set_cons_succ]
            rfl
          refine pure_ (i := 8) (N := some 49) (v := ?_) (a' := ?_) #[true, true, true, true, true, true, true, true, true, true, true, true, true, true, true, false, false, false, false, true, false, false] rfl rfl (by kernel_rfl) (fun _ _ _ h => h) (Or.inl ⟨by rfl, ?_⟩) ?_ ?_
          rotate_left
          · intro w'
            go_simp
            with_reducible rfl
          rotate_left
          · simp only [Act.put, List.setIfInBounds_toArray, List.set_cons_zero, List.set_cons_succ]
            rfl
          refine two_ (i := 15) (j := 18) (Ni := some 56) (Nj := some 17) #[true, true, true, true, true, true, true, true, true, true, true, true, true, true, true, true, false, false, false, true, false, false] #[true, true, true, true, true, true, true, true, true, true, true, true, true, true, true, false, false, false, true, true, false, false] rfl rfl rfl rfl (by kernel_rfl) (by decide) (by decide) (fun K hK => ?_) (fun K hK => ?_)
          · skip
            refine goes_ Try.func12 (by kernel_rfl) rfl #[.pointer (some ⟨gx, 0, none⟩)] (by rfl) rfl rfl (by first | rfl | (simp only [List.map_toArray, List.map_cons, List.map_nil]; rfl)) ?_
            refine (Fns.len _ (XX.out.below hHeld)).mono ?_
            rintro e w3 ⟨rfl, rfl⟩
            refine ⟨_, rfl, ?_⟩
            refine hK.out _ _ (hHeld) (fun hHeld' => ?_)
            clear hK K hHeld'
            replace hHeld := hHeld
            refine norm_ (a' := ?_) ?_ ?_
            rotate_left
            · show Act.put _ (some 56) _ = _
              simp only [Act.put, List.setIfInBounds_toArray, List.set_cons_zero, List.set_cons_succ]
              rfl
            refine pure_ (i := 16) (N := some 57) (v := ?_) (a' := ?_) #[true, true, true, true, true, true, true, true, true, true, true, true, true, true, true, true, true, false, false, true, false, false] rfl rfl (by kernel_rfl) (fun _ _ _ h => h) (Or.inl ⟨by rfl, ?_⟩) ?_ ?_
            rotate_left
            · intro w'
              go_simp
              with_reducible rfl
            rotate_left
            · simp only [Act.put, List.setIfInBounds_toArray, List.set_cons_zero, List.set_cons_succ]
              rfl
            refine pure_ (i := 17) (N := some 58) (v := ?_) (a' := ?_) #[true, true, true, true, true, true, true, true, true, true, true, true, true, true, true, true, true, true, false, true, false, false] rfl rfl (by kernel_rfl) (fun _ _ _ h => h) (Or.inl ⟨by rfl, ?_⟩) ?_ ?_
            rotate_left
            · intro w'
              go_simp
              with_reducible rfl
            rotate_left
            · simp only [Act.put, List.setIfInBounds_toArray, List.set_cons_zero, List.set_cons_succ]
              rfl
            refine one_ (i := 18) (N := some 17) #[true, true, true, true, true, true, true, true, true, true, true, true, true, true, true, true, true, true, true, true, false, false] rfl rfl (by kernel_rfl) (by decide) (fun K hK => ?_)
            refine value_ (w1 := ?_) (v := ?_) (by rfl) rfl ?_ ?_
            rotate_left 2
            · go_simp
              constructor
              · rfl
              · rfl
            refine hK.out _ _ (Below.alloc hHeld hHeld.size (.cells #[.int .i64 0] 2)) (fun hHeld' => ?_)
            clear hK K hHeld'
            replace hHeld := Below.alloc hHeld hHeld.size (.cells #[.int .i64 0] 2)
            refine norm_ (a' := ?_) ?_ ?_
            rotate_left
            · show Act.put _ (some 17) _ = _
              simp only [Act.put, List.setIfInBounds_toArray, List.set_cons_zero, List.set_cons_succ]
              rfl
            exact norm_ (by first | (simp only [putAll, Act.put, List.setIfInBounds_toArray, List.set_cons_zero, List.set_cons_succ]; done) | (simp only [putAll, Act.put, List.setIfInBounds_toArray, List.set_cons_zero, List.set_cons_succ]; rfl)) (hCont (wd.heap.size + 1, wd.heap.size) _ ⟨hHeld, two_down wd⟩)
          · skip
            refine value_ (w1 := ?_) (v := ?_) (by rfl) rfl ?_ ?_
            rotate_left 2
            · go_simp
              constructor
              · rfl
              · rfl
            refine hK.out _ _ (Below.alloc hHeld hHeld.size (.cells #[.int .i64 0] 2)) (fun hHeld' => ?_)
            clear hK K hHeld'
            replace hHeld := Below.alloc hHeld hHeld.size (.cells #[.int .i64 0] 2)
            refine norm_ (a' := ?_) ?_ ?_
            rotate_left
            · show Act.put _ (some 17) _ = _
              simp only [Act.put, List.setIfInBounds_toArray, List.set_cons_zero, List.set_cons_succ]
              rfl
            refine one_ (i := 15) (N := some 56) #[true, true, true, true, true, true, true, true, true, true, true, true, true, true, true, true, false, false, true, true, false, false] rfl rfl (by kernel_rfl) (by decide) (fun K hK => ?_)
            refine goes_ Try.func12 (by kernel_rfl) rfl #[.pointer (some ⟨gx, 0, none⟩)] (by rfl) rfl rfl (by first | rfl | (simp only [List.map_toArray, List.map_cons, List.map_nil]; rfl)) ?_
            refine (Fns.len _ (XX.out.below hHeld)).mono ?_
            rintro e w3 ⟨rfl, rfl⟩
            refine ⟨_, rfl, ?_⟩
            refine hK.out _ _ (hHeld) (fun hHeld' => ?_)
            clear hK K hHeld'
            replace hHeld := hHeld
            refine norm_ (a' := ?_) ?_ ?_
            rotate_left
            · show Act.put _ (some 56) _ = _
              simp only [Act.put, List.setIfInBounds_toArray, List.set_cons_zero, List.set_cons_succ]
              rfl
            refine pure_ (i := 16) (N := some 57) (v := ?_) (a' := ?_) #[true, true, true, true, true, true, true, true, true, true, true, true, true, true, true, true, true, false, true, true, false, false] rfl rfl (by kernel_rfl) (fun _ _ _ h => h) (Or.inl ⟨by rfl, ?_⟩) ?_ ?_
            rotate_left
            · intro w'
              go_simp
              with_reducible rfl
            rotate_left
            · simp only [Act.put, List.setIfInBounds_toArray, List.set_cons_zero, List.set_cons_succ]
              rfl
            refine pure_ (i := 17) (N := some 58) (v := ?_) (a' := ?_) #[true, true, true, true, true, true, true, true, true, true, true, true, true, true, true, true, true, true, true, true, false, false] rfl rfl (by kernel_rfl) (fun _ _ _ h => h) (Or.inl ⟨by rfl, ?_⟩) ?_ ?_
            rotate_left
            · intro w'
              go_simp
              with_reducible rfl
            rotate_left
            · simp only [Act.put, List.setIfInBounds_toArray, List.set_cons_zero, List.set_cons_succ]
              rfl
            exact norm_ (by first | (simp only [putAll, Act.put, List.setIfInBounds_toArray, List.set_cons_zero, List.set_cons_succ]; done) | (simp only [putAll, Act.put, List.setIfInBounds_toArray, List.set_cons_zero, List.set_cons_succ]; rfl)) (hCont (wd.heap.size + 1, wd.heap.size) _ ⟨hHeld, two_down wd⟩)
        · skip
          refine value_ (w1 := ?_) (v := ?_) (by rfl) rfl ?_ ?_
          rotate_left 2
          · go_simp
            constructor
            · rfl
            · rfl
          refine hK.out _ _ (Below.alloc hHeld hHeld.size (.cells #[.int .i64 0] 2)) (fun hHeld' => ?_)
          clear hK K hHeld'
          replace hHeld := Below.alloc hHeld hHeld.size (.cells #[.int .i64 0] 2)
          refine norm_ (a' := ?_) ?_ ?_
          rotate_left
          · show Act.put _ (some 17) _ = _
            simp only [Act.put, List.setIfInBounds_toArray, List.set_cons_zero, List.set_cons_succ]
            rfl
          refine one_ (i := 6) (N := some 47) #[true, true, true, true, true, true, true, false, false, true, true, true, true, true, true, false, false, false, true, true, false, false] rfl rfl (by kernel_rfl) (by decide) (fun K hK => ?_)
          refine goes_ Try.func12 (by kernel_rfl) rfl #[.pointer (some ⟨gx, 0, none⟩)] (by rfl) rfl rfl (by first | rfl | (simp only [List.map_toArray, List.map_cons, List.map_nil]; rfl)) ?_
          refine (Fns.len _ (XX.out.below hHeld)).mono ?_
          rintro e w3 ⟨rfl, rfl⟩
          refine ⟨_, rfl, ?_⟩
          refine hK.out _ _ (hHeld) (fun hHeld' => ?_)
          clear hK K hHeld'
          replace hHeld := hHeld
          refine norm_ (a' := ?_) ?_ ?_
          rotate_left
          · show Act.put _ (some 47) _ = _
            simp only [Act.put, List.setIfInBounds_toArray, List.set_cons_zero, List.set_cons_succ]
            rfl
          refine pure_ (i := 7) (N := some 48) (v := ?_) (a' := ?_) #[true, true, true, true, true, true, true, true, false, true, true, true, true, true, true, false, false, false, true, true, false, false] rfl rfl (by kernel_rfl) (fun _ _ _ h => h) (Or.inl ⟨by rfl, ?_⟩) ?_ ?_
          rotate_left
          · intro w'
            go_simp
            with_reducible rfl
          rotate_left
          · simp only [Act.put, List.setIfInBounds_toArray, List.set_cons_zero, List.set_cons_succ]
            rfl
          refine pure_ (i := 8) (N := some 49) (v := ?_) (a' := ?_) #[true, true, true, true, true, true, true, true, true, true, true, true, true, true, true, false, false, false, true, true, false, false] rfl rfl (by kernel_rfl) (fun _ _ _ h => h) (Or.inl ⟨by rfl, ?_⟩) ?_ ?_
          rotate_left
          · intro w'
            go_simp
            with_reducible rfl
          rotate_left
          · simp only [Act.put, List.setIfInBounds_toArray, List.set_cons_zero, List.set_cons_succ]
            rfl
          refine one_ (i := 15) (N := some 56) #[true, true, true, true, true, true, true, true, true, true, true, true, true, true, true, true, false, false, true, true, false, false] rfl rfl (by kernel_rfl) (by decide) (fun K hK => ?_)
          refine goes_ Try.func12 (by kernel_rfl) rfl #[.pointer (some ⟨gx, 0, none⟩)] (by rfl) rfl rfl (by first | rfl | (simp only [List.map_toArray, List.map_cons, List.map_nil]; rfl)) ?_
          refine (Fns.len _ (XX.out.below hHeld)).mono ?_
          rintro e w3 ⟨rfl, rfl⟩
          refine ⟨_, rfl, ?_⟩
          refine hK.out _ _ (hHeld) (fun hHeld' => ?_)
          clear hK K hHeld'
          replace hHeld := hHeld
          refine norm_ (a' := ?_) ?_ ?_
          rotate_left
          · show Act.put _ (some 56) _ = _
            simp only [Act.put, List.setIfInBounds_toArray, List.set_cons_zero, List.set_cons_succ]
            rfl
          refine pure_ (i := 16) (N := some 57) (v := ?_) (a' := ?_) #[true, true, true, true, true, true, true, true, true, true, true, true, true, true, true, true, true, false, true, true, false, false] rfl rfl (by kernel_rfl) (fun _ _ _ h => h) (Or.inl ⟨by rfl, ?_⟩) ?_ ?_
          rotate_left
          · intro w'
            go_simp
            with_reducible rfl
          rotate_left
          · simp only [Act.put, List.setIfInBounds_toArray, List.set_cons_zero, List.set_cons_succ]
            rfl
          refine pure_ (i := 17) (N := some 58) (v := ?_) (a' := ?_) #[true, true, true, true, true, true, true, true, true, true, true, true, true, true, true, true, true, true, true, true, false, false] rfl rfl (by kernel_rfl) (fun _ _ _ h => h) (Or.inl ⟨by rfl, ?_⟩) ?_ ?_
          rotate_left
          · intro w'
            go_simp
            with_reducible rfl
          rotate_left
          · simp only [Act.put, List.setIfInBounds_toArray, List.set_cons_zero, List.set_cons_succ]
            rfl
          exact norm_ (by first | (simp only [putAll, Act.put, List.setIfInBounds_toArray, List.set_cons_zero, List.set_cons_succ]; done) | (simp only [putAll, Act.put, List.setIfInBounds_toArray, List.set_cons_zero, List.set_cons_succ]; rfl)) (hCont (wd.heap.size + 1, wd.heap.size) _ ⟨hHeld, two_down wd⟩)
    rintro ⟨p17, p18⟩ wj ⟨hHeld', hTwo⟩
    clear hHeld
    have hHeld := hHeld'
    clear hHeld'
    obtain ⟨hq1, hq2, hq3, hq4, hq5, hq6, hq7⟩ := hTwo
    refine norm_ (a' := ?_) ?_ ?_
    rotate_left
    · simp only [putAll, Act.put, List.setIfInBounds_toArray, List.set_cons_zero, List.set_cons_succ]
      rfl
    refine one_ (i := 20) (N := none) #[true, true, true, true, true, true, true, true, true, true, true, true, true, true, true, true, true, true, true, true, true, false] rfl rfl (by kernel_rfl) (by decide) (fun K hK => ?_)
    refine skip_ (w1 := ?_) (by rfl) rfl ?_ ?_
    rotate_left
    · go_simp
      rfl
    refine hK.out _ _ (Below.setCell (p := ⟨p17, 0, none⟩) hHeld hq1 (.int .i64 (a1 + b1))) (fun hHeld' => ?_)
    clear hK K hHeld'
    replace hHeld := Below.setCell (p := ⟨p17, 0, none⟩) hHeld hq1 (.int .i64 (a1 + b1))
    refine one_ (i := 21) (N := none) #[true, true, true, true, true, true, true, true, true, true, true, true, true, true, true, true, true, true, true, true, true, true] rfl rfl (by kernel_rfl) (by decide) (fun K hK => ?_)
    refine skip_ (w1 := ?_) (by rfl) rfl ?_ ?_
    rotate_left
    · go_simp
      rfl
    refine hK.out _ _ (Below.setCell (p := ⟨p18, 0, none⟩) hHeld hq2 (.int .i64 (a1 + b2))) (fun hHeld' => ?_)
    clear hK K hHeld'
    replace hHeld := Below.setCell (p := ⟨p18, 0, none⟩) hHeld hq2 (.int .i64 (a1 + b2))
    refine done_ (by kernel_rfl) ?_
    clear hm1 hm2 hm3 hs1 hs2
    obtain ⟨W2, hW2⟩ : ∃ W, W = (wj.setCell ⟨p17, 0, none⟩ (.int .i64 (a1 + b1))).setCell ⟨p18, 0, none⟩ (.int .i64 (a1 + b2)) := ⟨_, rfl⟩
    have P1 : Hid (IsPlace W2 (some ⟨p17, 0, none⟩) (some (a1 + b1))) := Or.inr ⟨_, _, rfl, rfl, by rw [hW2, World.cell?_setCell_other _ _ _ _ (by simp only [ne_eq, Addr.mk.injEq]; omega), World.cell?_setCell_same _ _ _ hq4], by omega, by omega⟩
    have P2 : Hid (IsPlace W2 (some ⟨p18, 0, none⟩) (some (a1 + b2))) := Or.inr ⟨_, _, rfl, rfl, by rw [hW2, World.cell?_setCell_same _ _ _ (u := .int .i64 0) (by rw [World.cell?_setCell_other _ _ _ _ (by simp only [ne_eq, Addr.mk.injEq]; omega)]; exact hq5)], by omega, by omega⟩
    rw [← hW2] at hHeld
    replace RB := Lib.hid (RB.out.below hHeld)
    replace YY := Lib.hid (YY.out.below hHeld)
    replace HB := Lib.hid (step2 HB.out HB.out.size hHeld)
    clear XX PF PG PU hq1 hq2 hq3 hq4 hq5 hq6 hq7
    go_wp2_with fail
    rw [← hW2]
    clear hHeld hW2
    refine (new A c l ⟨#[]⟩ W2 RB.out hz (by decide)).mono ?_
    rintro e w8 ⟨g0, rfl, hx, hb2⟩
    have XX := Lib.hid hx
    replace RB := Lib.hid (RB.out.below hb2)
    replace YY := Lib.hid (YY.out.below hb2)
    replace P1 := Lib.hid (P1.out.below hb2)
    replace P2 := Lib.hid (P2.out.below hb2)
    replace HB := Lib.hid (step2 HB.out HB.out.size hb2)
    clear hx hb2
    go_wp2_with fail
    refine (slice w8 XX.out hz _ _ (some (a1 + b1)) (some (a1 + b2)) P1.out P2.out ⟨#[]⟩ (by decide)).mono ?_
    rintro e w9 ⟨gz, rfl, hx, hb2⟩
    have ZZ := Lib.hid hx
    replace YY := Lib.hid (YY.out.below hb2)
    replace HB := Lib.hid (step2 HB.out HB.out.size hb2)
    clear hx hb2 RB P1 P2 XX
    generalize portion l (some (a1 + b1)) (some (a1 + b2)) = Y at *
    go_wp2_with fail
    refine start_ (n := 8) (S := fun w' => Below w9.heap.size w9 w') (ds := []) #[false, false, false, false, false, false, false, false] (by kernel_rfl) rfl rfl ((Below.refl _ _).drew) (fun hHeld => ?_)
    obtain ⟨wd, hwd⟩ : ∃ wd, wd = World.drew w9 := ⟨_, rfl⟩
    rw [← hwd] at hHeld ⊢
    clear hwd
    refine again_ (S' := fun w' => Below wd.heap.size wd w') (Below.refl _ _) (fun w' h => step2 hHeld hHeld.size h) ?_
    replace YY := Lib.hid (YY.out.below (hHeld))
    replace ZZ := Lib.hid (ZZ.out.below (hHeld))
    replace HB := Lib.hid (step2 HB.out HB.out.size (hHeld))
    clear hHeld
    have hHeld : Below wd.heap.size wd wd := Below.refl _ _
    refine pure_ (i := 0) (N := some 62) (v := ?_) (a' := ?_) #[true, false, false, false, false, false, false, false] rfl rfl (by kernel_rfl) (fun _ _ _ h => h) (Or.inl ⟨by rfl, ?_⟩) ?_ ?_
    rotate_left
    · intro w'
      go_simp
      with_reducible rfl
    rotate_left
    · simp only [Act.put, List.setIfInBounds_toArray, List.set_cons_zero, List.set_cons_succ]
      rfl
    refine pure_ (i := 3) (N := some 65) (v := ?_) (a' := ?_) #[true, false, false, true, false, false, false, false] rfl rfl (by kernel_rfl) (fun _ _ _ h => h) (Or.inl ⟨by rfl, ?_⟩) ?_ ?_
    rotate_left
    · intro w'
      go_simp
      with_reducible rfl
    rotate_left
    · simp only [Act.put, List.setIfInBounds_toArray, List.set_cons_zero, List.set_cons_succ]
      rfl
    refine one_ (i := 1) (N := some 63) #[true, true, false, true, false, false, false, false] rfl rfl (by kernel_rfl) (by decide) (fun K hK => ?_)
    refine goes_ Try.func11 (by kernel_rfl) rfl #[.pointer (some ⟨gy, 0, none⟩)] (by rfl) rfl rfl (by first | rfl | (simp only [List.map_toArray, List.map_cons, List.map_nil]; rfl)) ?_
    refine (Fns.bytes _ (YY.out) hyl).mono ?_
    rintro e wa ⟨BS1, cS1, rfl, hown, hbl⟩
    refine ⟨_, rfl, ?_⟩
    refine hK.out _ _ (step2 hHeld hHeld.size hbl) (fun hHeld' => ?_)
    clear hK K hHeld'
    refine norm_ (a' := ?_) ?_ ?_
    rotate_left
    · show Act.put _ (some 63) _ = _
      simp only [Act.put, List.setIfInBounds_toArray, List.set_cons_zero, List.set_cons_succ]
      rfl
    refine again_ (S' := fun w' => Below wa.heap.size wa w') (Below.refl _ _) (fun w' h => step2 (step2 hHeld hHeld.size hbl) (Below.size (step2 hHeld hHeld.size hbl)) h) ?_
    clear hHeld
    have hHeld : Below wa.heap.size wa wa := Below.refl _ _
    replace YY := Lib.hid (YY.out.below (hbl))
    replace ZZ := Lib.hid (ZZ.out.below (hbl))
    replace HB := Lib.hid (step2 HB.out HB.out.size (hbl))
    have S1 := Lib.hid (rd_own hown).2.2.2
    clear hown hbl
    refine take_ (i := 2) (N := some 64) (v := ?_) (a' := ?_) #[true, true, true, true, false, false, false, false] rfl rfl (by kernel_rfl) (fun _ _ _ h => h) (Or.inl ⟨by rfl, ?_⟩) hHeld ?_ ?_
    rotate_left
    · intro w' s0
      have e0 := run_string (P := Try.prog) (src := 22) (dst := 9) (c := cS1) Try.underlying22 Try.underlying5 Try.underlying9 (S1.out.below s0)
      go_simp
      with_reducible rfl
    rotate_left
    · simp only [Act.put, List.setIfInBounds_toArray, List.set_cons_zero, List.set_cons_succ]
      rfl
    refine one_ (i := 4) (N := some 66) #[true, true, true, true, true, false, false, false] rfl rfl (by kernel_rfl) (by decide) (fun K hK => ?_)
    refine goes_ Try.func11 (by kernel_rfl) rfl #[.pointer (some ⟨gz, 0, none⟩)] (by rfl) rfl rfl (by first | rfl | (simp only [List.map_toArray, List.map_cons, List.map_nil]; rfl)) ?_
    refine (Fns.bytes _ (ZZ.out) hyl).mono ?_
    rintro e wb ⟨BS2, cS2, rfl, hown, hbl⟩
    refine ⟨_, rfl, ?_⟩
    refine hK.out _ _ (step2 hHeld hHeld.size hbl) (fun hHeld' => ?_)
    clear hK K hHeld'
    refine norm_ (a' := ?_) ?_ ?_
    rotate_left
    · show Act.put _ (some 66) _ = _
      simp only [Act.put, List.setIfInBounds_toArray, List.set_cons_zero, List.set_cons_succ]
      rfl
    refine again_ (S' := fun w' => Below wb.heap.size wb w') (Below.refl _ _) (fun w' h => step2 (step2 hHeld hHeld.size hbl) (Below.size (step2 hHeld hHeld.size hbl)) h) ?_
    clear hHeld
    have hHeld : Below wb.heap.size wb wb := Below.refl _ _
    replace YY := Lib.hid (YY.out.below (hbl))
    replace ZZ := Lib.hid (ZZ.out.below (hbl))
    replace HB := Lib.hid (step2 HB.out HB.out.size (hbl))
    replace S1 := Lib.hid (S1.out.below hbl)
    have S2 := Lib.hid (rd_own hown).2.2.2
    clear hown hbl
    refine take_ (i := 5) (N := some 67) (v := ?_) (a' := ?_) #[true, true, true, true, true, true, false, false] rfl rfl (by kernel_rfl) (fun _ _ _ h => h) (Or.inl ⟨by rfl, ?_⟩) hHeld ?_ ?_
    rotate_left
    · intro w' s0
      have e0 := run_string (P := Try.prog) (src := 22) (dst := 9) (c := cS2) Try.underlying22 Try.underlying5 Try.underlying9 (S2.out.below s0)
      go_simp
      with_reducible rfl
    rotate_left
    · simp only [Act.put, List.setIfInBounds_toArray, List.set_cons_zero, List.set_cons_succ]
      rfl
    refine pure_ (i := 6) (N := some 68) (v := ?_) (a' := ?_) #[true, true, true, true, true, true, true, false] rfl rfl (by kernel_rfl) (fun _ _ _ h => h) (Or.inl ⟨by rfl, ?_⟩) ?_ ?_
    rotate_left
    · intro w'
      go_simp
      with_reducible rfl
    rotate_left
    · simp only [Act.put, List.setIfInBounds_toArray, List.set_cons_zero, List.set_cons_succ]
      rfl
    refine pure_ (i := 7) (N := some 10) (v := ?_) (a' := ?_) #[true, true, true, true, true, true, true, true] rfl rfl (by kernel_rfl) (fun _ _ _ h => h) (Or.inl ⟨by rfl, ?_⟩) ?_ ?_
    rotate_left
    · intro w'
      go_simp
      with_reducible rfl
    rotate_left
    · simp only [Act.put, List.setIfInBounds_toArray, List.set_cons_zero, List.set_cons_succ]
      rfl
    refine done_ (by kernel_rfl) ?_
    go_wp2_with fail
    go_ret
    exact ⟨rfl, HB.out⟩
end Go.Proofs.Ytmfhkgfgphdliaa.TwiceWalk
