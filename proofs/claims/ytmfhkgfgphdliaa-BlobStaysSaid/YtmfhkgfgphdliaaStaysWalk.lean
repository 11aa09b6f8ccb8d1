/- DERIVED. The walk of BlobStays. -/
import Derived.Test.YtmfhkgfgphdliaaAwake
import Derived.Test.YtmfhkgfgphdliaaReg
import Derived.Laws.AppendOwnNone
namespace Go.Proofs.Ytmfhkgfgphdliaa.StaysWalk
open Go.RowKit Go.Proofs.Ytmfhkgfgphdliaa.Mem Go.Proofs.Ytmfhkgfgphdliaa.Fns Go.Proofs.Ytmfhkgfgphdliaa.Reg Go.Proofs.YtmfhkgfgphdliaaW.PrintLast
set_option linter.unusedVariables false
set_option linter.unusedSimpArgs false

theorem portion_all (l : List UInt8) : portion l none none = l := by
  unfold portion placeI
  rw [show max (0 : Int) (l.length : Int) = l.length by omega]
  simp
/-- Two rows of the call's own that are raised, and what lies between them and stays. -/
structure Inv (w4 : World) (n1 n2 n4 : Nat) (go gz co cz : Nat) (m : Nat) (w : World) : Prop where
  own : ∃ ys : List UInt8, w.ownsRow n1 5 1 (.slice (some ⟨go, 0, none⟩) m co) m (ys.map cellB)
  zs : ∃ ys : List UInt8, w.ownsRow n4 5 1 (.slice (some ⟨gz, 0, none⟩) m cz) m (ys.map cellB)
  lo : go < n2
  hi : n4 ≤ gz
  mid : ∀ i, n2 ≤ i → i < n4 → w.heap[i]? = w4.heap[i]?
theorem row_cell {w : World} {b g n c k : Nat} {ys : List UInt8} (h : w.ownsRow b 5 1 (.slice (some ⟨g, 0, none⟩) n c) n (ys.map cellB)) (hk : k < n) : ∃ u, w.cell? ⟨g, k, none⟩ = some (cellB u) ∧ w.frozen? ⟨g, k, none⟩ = false := by
  have hl := h.1
  rw [List.length_map, Nat.mul_one] at hl
  refine ⟨ys[k]'(by omega), ?_, h.frozenAt k⟩
  rw [h.cellAt k (by omega), List.getElem?_map, List.getElem?_eq_getElem (by omega)]; rfl
theorem row_set {w : World} {b g n c k : Nat} {ys : List UInt8} (h : w.ownsRow b 5 1 (.slice (some ⟨g, 0, none⟩) n c) n (ys.map cellB)) (u : UInt8) : (w.setCell ⟨g, k, none⟩ (cellB u)).ownsRow b 5 1 (.slice (some ⟨g, 0, none⟩) n c) n ((ys.set k u).map cellB) := by
  rw [List.map_set]; exact (h.stored k (cellB u)).1
theorem row_other {w : World} {b g n c k q : Nat} {v : Value} {ys : List Value} (h : w.ownsRow b 5 1 (.slice (some ⟨g, 0, none⟩) n c) n ys) (hq : q ≠ g) : (w.setCell ⟨q, k, none⟩ v).ownsRow b 5 1 (.slice (some ⟨g, 0, none⟩) n c) n ys := by
  refine ⟨h.1, ?_⟩
  rcases h.2 with h0 | ⟨g', cap, cur, hv, hbr, hg, rest⟩
  · exact Or.inl h0
  · have e : g' = g := by injection hv with h1; injection h1 with h1; injection h1 with h1; exact h1.symm
    subst e
    refine Or.inr ⟨g', cap, cur, hv, hbr, ?_, rest⟩
    rw [Below.heap_setCell _ _ _ _ (by exact fun e => hq e.symm)]
    exact hg
theorem Inv.set_own {w4 w : World} {n1 n2 n4 go gz co cz m k : Nat} (h : Inv w4 n1 n2 n4 go gz co cz m w) (h24 : n2 ≤ n4) (u : UInt8) : Inv w4 n1 n2 n4 go gz co cz m (w.setCell ⟨go, k, none⟩ (cellB u)) := by
  obtain ⟨⟨ys, h1⟩, ⟨zs, h2⟩, h3, h4, h5⟩ := h
  refine ⟨⟨_, row_set h1 u⟩, ⟨zs, row_other h2 (by omega)⟩, h3, h4, fun i hi hj => ?_⟩
  rw [Below.heap_setCell _ _ _ _ (by show i ≠ go; omega)]
  exact h5 i hi hj
theorem Inv.set_zs {w4 w : World} {n1 n2 n4 go gz co cz m k : Nat} (h : Inv w4 n1 n2 n4 go gz co cz m w) (h24 : n2 ≤ n4) (u : UInt8) : Inv w4 n1 n2 n4 go gz co cz m (w.setCell ⟨gz, k, none⟩ (cellB u)) := by
  obtain ⟨⟨ys, h1⟩, ⟨zs, h2⟩, h3, h4, h5⟩ := h
  refine ⟨⟨ys, row_other h1 (by omega)⟩, ⟨_, row_set h2 u⟩, h3, h4, fun i hi hj => ?_⟩
  rw [Below.heap_setCell _ _ _ _ (by show i ≠ gz; omega)]
  exact h5 i hi hj
theorem up_cell (u : UInt8) : Value.int .u8 (((u.toNat : Int) + 1) % 256) = cellB (UInt8.ofNat (u.toNat + 1)) := by
  unfold cellB
  rw [UInt8.toNat_ofNat']
  congr 1
theorem addr_of {w : World} {b n c : Nat} {B : Option Addr} {ys : List Value} (h : w.ownsRow b 5 1 (.slice B n c) n ys) (hn : 0 < n) : ∃ g, B = some ⟨g, 0, none⟩ ∧ b ≤ g ∧ g < w.heap.size := by
  rcases h.2 with ⟨_, h0⟩ | ⟨g, cap, cur, hv, hbr, hg, rest⟩
  · omega
  · injection hv with h1
    exact ⟨g, h1, hbr, (Array.getElem?_eq_some_iff.1 hg).1⟩

set_option maxHeartbeats 8000000 in
theorem law (A : Option Addr) (c : Nat) (l : List UInt8) (w : World) (rd : Rd w A l) (hc : l.length ≤ c) (hn : A = none → c = 0) (hz : l.length ≤ 140737488351232) :
    Calls Try.prog 3 #[.slice A l.length c] w fun e w' => e = .returned (.bool true) ∧ Below w.heap.size w w' := by
  have RB := Lib.hid rd
  clear rd
  by_cases hl : 300 < l.length
  · clear hn
    go_enter Try.func3, Try.ntmps3
    go_wp2_with fail
    refine (Awake.awake _).mono ?_
    rintro e w1 ⟨rfl, hb1⟩
    have HB := Lib.hid hb1
    clear hb1
    go_wp2_with fail
    refine (Awake.awake _).mono ?_
    rintro e w2 ⟨rfl, hb2⟩
    replace HB := Lib.hid (step2 HB.out HB.out.size hb2)
    clear hb2
    go_wp2_with fail
    go_ret
    exact ⟨rfl, HB.out⟩
  · have hl' : l.length ≤ 300 := by omega
    clear hl
    have HN := Lib.hid hn
    have RW := RB
    clear hn
    obtain ⟨i0, hi, hz0, hz1, hz2⟩ := info_parts info5
    go_enter Try.func3, Try.ntmps3
    go_wp2_with fail
    refine (Awake.awake _).mono ?_
    rintro e w1 ⟨rfl, hb1⟩
    have HB := Lib.hid hb1
    have S0 := Lib.hid hb1.size
    replace RB := Lib.hid (RB.out.below hb1)
    clear hb1
    go_wp2_with (at_builtin; refine wpList_append_rd rfl _ _ 22 5 rfl w1.heap.size Try.underlying22 i0 hi hz0 hz1 hz2 _ 0 [] rfl (World.ownsRow_made w1 #[] 0 (Nat.le_refl _) (Nat.zero_le _) (by simp)) A c l rfl HN.out (RB.out.below (below1 _ _)) ?qlen ?qbase ?_)
    case qlen => omega
    case qbase => simp
    intro Bo co w2 hown hgrow
    have hb1 : Below w1.heap.size w1 w2 := (below1 _ _).grown hgrow (by simp) (by intro k hk; simp [Value.ownBlock] at hk; omega)
    replace HB := Lib.hid (step2 HB.out HB.out.size hb1)
    replace RB := Lib.hid (RB.out.below hb1)
    have RO := rd_own hown
    have OWN := Lib.hid hown
    have R2 := Lib.hid RO.2.2.2
    have hco := RO.2.1
    have LT := Lib.hid hown.lt
    have S1 : Hid (w.heap.size ≤ w1.heap.size) := S0.out
    clear hgrow hb1 hown RO HN
    go_wp2_with fail
    refine (new Bo co l _ w2 R2.out hz (by decide)).mono ?_
    rintro e w3 ⟨g1, rfl, hx, hb2⟩
    have X1 := Lib.hid hx
    replace HB := Lib.hid (step2 HB.out HB.out.size hb2)
    replace RB := Lib.hid (RB.out.below hb2)
    replace OWN := Lib.hid (own_below OWN.out hb2)
    have S2 := Lib.hid hb2.size
    clear hx hb2
    go_wp2_with fail
    refine (slice w3 X1.out hz none none none none (Or.inl ⟨rfl, rfl⟩) (Or.inl ⟨rfl, rfl⟩) _ (by decide)).mono ?_
    rintro e w4 ⟨g2, rfl, hx, hb2⟩
    rw [portion_all] at hx
    have X2 := Lib.hid hx
    replace HB := Lib.hid (step2 HB.out HB.out.size hb2)
    replace X1 := Lib.hid (X1.out.below hb2)
    replace OWN := Lib.hid (own_below OWN.out hb2)
    have S3 := Lib.hid hb2.size
    clear hx hb2
    go_wp2_with fail
    refine (Fns.bytes w4 X1.out hz).mono ?_
    rintro e w5 ⟨Bz, cz, rfl, hz5, hb2⟩
    have ZS := Lib.hid hz5
    replace HB := Lib.hid (step2 HB.out HB.out.size hb2)
    replace OWN := Lib.hid (own_below OWN.out hb2)
    have MID : Hid (∀ i, i < w4.heap.size → w5.heap[i]? = w4.heap[i]?) := hb2.block
    have hcz := (rd_own hz5).2.1
    have hs24 : w2.heap.size ≤ w4.heap.size := Nat.le_trans S2.out S3.out
    clear hz5 hb2 RB R2
    rcases Nat.eq_zero_or_pos l.length with h0 | h0
    · have h0' : l.length ≤ 0 := by omega
      clear h0
      have RB := Lib.hid (RW.out.below (HB.out.mono (Nat.le_refl _)))
      replace X1 := Lib.hid (X1.out.move (w' := w5) (fun i hi hj => MID.out i hj))
      replace X2 := Lib.hid (X2.out.move (w' := w5) (fun i hi hj => MID.out i hj))
      clear OWN ZS MID LT hcz
      go_wp2
      go_loopw [27] (fun i wr => i = .int .i64 0 ∧ w5 = wr) (fun _ _ => 0)
      case atStart => exact ⟨rfl, rfl⟩
      case round =>
        obtain ⟨rfl, rfl⟩ := hrel
        go_wp2_with fail
        refine start_ (n := 15) (S := fun w' => Below w5.heap.size w5 w') (ds := []) #[false, false, false, false, false, false, false, false, false, false, false, false, false, false, false] (by kernel_rfl) rfl rfl ((Below.refl _ _).drew) (fun hHeld => ?_)
        obtain ⟨wd, hwd⟩ : ∃ wd, wd = World.drew w5 := ⟨_, rfl⟩
        rw [← hwd] at hHeld ⊢
        clear hwd
        refine again_ (S' := fun w' => Below wd.heap.size wd w') (Below.refl _ _) (fun w' h => step2 hHeld hHeld.size h) ?_
        replace RB := Lib.hid (RB.out.below (hHeld))
        replace X1 := Lib.hid (X1.out.below (hHeld))
        replace X2 := Lib.hid (X2.out.below (hHeld))
        replace HB := Lib.hid (step2 HB.out HB.out.size (hHeld))
        clear hHeld
        have hHeld : Below wd.heap.size wd wd := Below.refl _ _
        refine pure_ (i := 0) (N := some 43) (v := ?_) (a' := ?_) #[true, false, false, false, false, false, false, false, false, false, false, false, false, false, false] rfl rfl (by kernel_rfl) (fun _ _ _ h => h) (Or.inl ⟨by rfl, ?_⟩) ?_ ?_
        rotate_left
        · intro w'
          go_simp
          with_reducible rfl
        rotate_left
        · simp only [Act.put, List.setIfInBounds_toArray, List.set_cons_zero, List.set_cons_succ]
          rfl
        refine pure_ (i := 3) (N := some 46) (v := ?_) (a' := ?_) #[true, false, false, true, false, false, false, false, false, false, false, false, false, false, false] rfl rfl (by kernel_rfl) (fun _ _ _ h => h) (Or.inl ⟨by rfl, ?_⟩) ?_ ?_
        rotate_left
        · intro w'
          go_simp
          with_reducible rfl
        rotate_left
        · simp only [Act.put, List.setIfInBounds_toArray, List.set_cons_zero, List.set_cons_succ]
          rfl
        refine take_ (i := 4) (N := some 47) (v := ?_) (a' := ?_) #[true, false, false, true, true, false, false, false, false, false, false, false, false, false, false] rfl rfl (by kernel_rfl) (fun _ _ _ h => h) (Or.inl ⟨by rfl, ?_⟩) hHeld ?_ ?_
        rotate_left
        · intro w' s0
          have e0 := run_string (P := Try.prog) (src := 22) (dst := 9) (c := c) Try.underlying22 Try.underlying5 Try.underlying9 (RB.out.below s0)
          go_simp
          with_reducible rfl
        rotate_left
        · simp only [Act.put, List.setIfInBounds_toArray, List.set_cons_zero, List.set_cons_succ]
          rfl
        refine one_ (i := 1) (N := some 44) #[true, true, false, true, true, false, false, false, false, false, false, false, false, false, false] rfl rfl (by kernel_rfl) (by decide) (fun K hK => ?_)
        refine goes_ Try.func11 (by kernel_rfl) rfl #[.pointer (some ⟨g1, 0, none⟩)] (by rfl) rfl rfl (by first | rfl | (simp only [List.map_toArray, List.map_cons, List.map_nil]; rfl)) ?_
        refine (Fns.bytes _ (X1.out) hz).mono ?_
        rintro e wa ⟨BS1, cS1, rfl, hown, hbl⟩
        refine ⟨_, rfl, ?_⟩
        refine hK.out _ _ (step2 hHeld hHeld.size hbl) (fun hHeld' => ?_)
        clear hK K hHeld'
        refine norm_ (a' := ?_) ?_ ?_
        rotate_left
        · show Act.put _ (some 44) _ = _
          simp only [Act.put, List.setIfInBounds_toArray, List.set_cons_zero, List.set_cons_succ]
          rfl
        refine again_ (S' := fun w' => Below wa.heap.size wa w') (Below.refl _ _) (fun w' h => step2 (step2 hHeld hHeld.size hbl) (Below.size (step2 hHeld hHeld.size hbl)) h) ?_
        clear hHeld
        have hHeld : Below wa.heap.size wa wa := Below.refl _ _
        replace RB := Lib.hid (RB.out.below (hbl))
        replace X1 := Lib.hid (X1.out.below (hbl))
        replace X2 := Lib.hid (X2.out.below (hbl))
        replace HB := Lib.hid (step2 HB.out HB.out.size (hbl))
        have S1 := Lib.hid (rd_own hown).2.2.2
        clear hown hbl
        refine take_ (i := 2) (N := some 45) (v := ?_) (a' := ?_) #[true, true, true, true, true, false, false, false, false, false, false, false, false, false, false] rfl rfl (by kernel_rfl) (fun _ _ _ h => h) (Or.inl ⟨by rfl, ?_⟩) hHeld ?_ ?_
        rotate_left
        · intro w' s0
          have e0 := run_string (P := Try.prog) (src := 22) (dst := 9) (c := cS1) Try.underlying22 Try.underlying5 Try.underlying9 (S1.out.below s0)
          go_simp
          with_reducible rfl
        rotate_left
        · simp only [Act.put, List.setIfInBounds_toArray, List.set_cons_zero, List.set_cons_succ]
          rfl
        refine pure_ (i := 5) (N := some 48) (v := ?_) (a' := ?_) #[true, true, true, true, true, true, false, false, false, false, false, false, false, false, false] rfl rfl (by kernel_rfl) (fun _ _ _ h => h) (Or.inl ⟨by rfl, ?_⟩) ?_ ?_
        rotate_left
        · intro w'
          go_simp
          with_reducible rfl
        rotate_left
        · simp only [Act.put, List.setIfInBounds_toArray, List.set_cons_zero, List.set_cons_succ]
          rfl
        refine pure_ (i := 6) (N := some 49) (v := ?_) (a' := ?_) #[true, true, true, true, true, true, true, false, false, false, false, false, false, false, false] rfl rfl (by kernel_rfl) (fun _ _ _ h => h) (Or.inl ⟨by rfl, ?_⟩) ?_ ?_
        rotate_left
        · intro w'
          go_simp
          with_reducible rfl
        rotate_left
        · simp only [Act.put, List.setIfInBounds_toArray, List.set_cons_zero, List.set_cons_succ]
          rfl
        refine pure_ (i := 7) (N := some 50) (v := ?_) (a' := ?_) #[true, true, true, true, true, true, true, true, false, false, false, false, false, false, false] rfl rfl (by kernel_rfl) (fun _ _ _ h => h) (Or.inl ⟨by rfl, ?_⟩) ?_ ?_
        rotate_left
        · intro w'
          go_simp
          with_reducible rfl
        rotate_left
        · simp only [Act.put, List.setIfInBounds_toArray, List.set_cons_zero, List.set_cons_succ]
          rfl
        refine pure_ (i := 10) (N := some 53) (v := ?_) (a' := ?_) #[true, true, true, true, true, true, true, true, false, false, true, false, false, false, false] rfl rfl (by kernel_rfl) (fun _ _ _ h => h) (Or.inl ⟨by rfl, ?_⟩) ?_ ?_
        rotate_left
        · intro w'
          go_simp
          with_reducible rfl
        rotate_left
        · simp only [Act.put, List.setIfInBounds_toArray, List.set_cons_zero, List.set_cons_succ]
          rfl
        refine take_ (i := 11) (N := some 54) (v := ?_) (a' := ?_) #[true, true, true, true, true, true, true, true, false, false, true, true, false, false, false] rfl rfl (by kernel_rfl) (fun _ _ _ h => h) (Or.inl ⟨by rfl, ?_⟩) hHeld ?_ ?_
        rotate_left
        · intro w' s0
          have e0 := run_string (P := Try.prog) (src := 22) (dst := 9) (c := c) Try.underlying22 Try.underlying5 Try.underlying9 (RB.out.below s0)
          go_simp
          with_reducible rfl
        rotate_left
        · simp only [Act.put, List.setIfInBounds_toArray, List.set_cons_zero, List.set_cons_succ]
          rfl
        refine one_ (i := 8) (N := some 51) #[true, true, true, true, true, true, true, true, true, false, true, true, false, false, false] rfl rfl (by kernel_rfl) (by decide) (fun K hK => ?_)
        refine goes_ Try.func11 (by kernel_rfl) rfl #[.pointer (some ⟨g2, 0, none⟩)] (by rfl) rfl rfl (by first | rfl | (simp only [List.map_toArray, List.map_cons, List.map_nil]; rfl)) ?_
        refine (Fns.bytes _ (X2.out) hz).mono ?_
        rintro e wb ⟨BS2, cS2, rfl, hown, hbl⟩
        refine ⟨_, rfl, ?_⟩
        refine hK.out _ _ (step2 hHeld hHeld.size hbl) (fun hHeld' => ?_)
        clear hK K hHeld'
        refine norm_ (a' := ?_) ?_ ?_
        rotate_left
        · show Act.put _ (some 51) _ = _
          simp only [Act.put, List.setIfInBounds_toArray, List.set_cons_zero, List.set_cons_succ]
          rfl
        refine again_ (S' := fun w' => Below wb.heap.size wb w') (Below.refl _ _) (fun w' h => step2 (step2 hHeld hHeld.size hbl) (Below.size (step2 hHeld hHeld.size hbl)) h) ?_
        clear hHeld
        have hHeld : Below wb.heap.size wb wb := Below.refl _ _
        replace RB := Lib.hid (RB.out.below (hbl))
        replace X1 := Lib.hid (X1.out.below (hbl))
        replace X2 := Lib.hid (X2.out.below (hbl))
        replace HB := Lib.hid (step2 HB.out HB.out.size (hbl))
        replace S1 := Lib.hid (S1.out.below hbl)
        have S2 := Lib.hid (rd_own hown).2.2.2
        clear hown hbl
        refine take_ (i := 9) (N := some 52) (v := ?_) (a' := ?_) #[true, true, true, true, true, true, true, true, true, true, true, true, false, false, false] rfl rfl (by kernel_rfl) (fun _ _ _ h => h) (Or.inl ⟨by rfl, ?_⟩) hHeld ?_ ?_
        rotate_left
        · intro w' s0
          have e0 := run_string (P := Try.prog) (src := 22) (dst := 9) (c := cS2) Try.underlying22 Try.underlying5 Try.underlying9 (S2.out.below s0)
          go_simp
          with_reducible rfl
        rotate_left
        · simp only [Act.put, List.setIfInBounds_toArray, List.set_cons_zero, List.set_cons_succ]
          rfl
        refine pure_ (i := 12) (N := some 55) (v := ?_) (a' := ?_) #[true, true, true, true, true, true, true, true, true, true, true, true, true, false, false] rfl rfl (by kernel_rfl) (fun _ _ _ h => h) (Or.inl ⟨by rfl, ?_⟩) ?_ ?_
        rotate_left
        · intro w'
          go_simp
          with_reducible rfl
        rotate_left
        · simp only [Act.put, List.setIfInBounds_toArray, List.set_cons_zero, List.set_cons_succ]
          rfl
        refine pure_ (i := 13) (N := some 56) (v := ?_) (a' := ?_) #[true, true, true, true, true, true, true, true, true, true, true, true, true, true, false] rfl rfl (by kernel_rfl) (fun _ _ _ h => h) (Or.inl ⟨by rfl, ?_⟩) ?_ ?_
        rotate_left
        · intro w'
          go_simp
          with_reducible rfl
        rotate_left
        · simp only [Act.put, List.setIfInBounds_toArray, List.set_cons_zero, List.set_cons_succ]
          rfl
        refine pure_ (i := 14) (N := some 2) (v := ?_) (a' := ?_) #[true, true, true, true, true, true, true, true, true, true, true, true, true, true, true] rfl rfl (by kernel_rfl) (fun _ _ _ h => h) (Or.inl ⟨by rfl, ?_⟩) ?_ ?_
        rotate_left
        · intro w'
          go_simp
          with_reducible rfl
        rotate_left
        · simp only [Act.put, List.setIfInBounds_toArray, List.set_cons_zero, List.set_cons_succ]
          rfl
        refine done_ (by kernel_rfl) ?_
        go_wp2_with fail
        go_ret
        exact ⟨rfl, HB.out⟩
    · obtain ⟨go, rfl, hgo1, hgo2⟩ := addr_of OWN.out h0
      obtain ⟨gz, rfl, hgz1, hgz2⟩ := addr_of ZS.out h0
      have hgo : go < w2.heap.size := (LT.out go rfl).2
      have HGO : Hid (w.heap.size ≤ go) := Nat.le_trans S1.out (LT.out go rfl).1
      have hgg : go < gz := by omega
      have INV : Hid (Inv w4 w1.heap.size w2.heap.size w4.heap.size go gz co cz l.length w5) := ⟨⟨l, OWN.out⟩, ⟨l, ZS.out⟩, hgo, hgz1, fun i _ hj => MID.out i hj⟩
      clear OWN ZS MID LT hgo1 hgo2 hgz1 hgz2
      go_wp2
      go_loopw [27] (fun i wr => ∃ k : Nat, k ≤ l.length ∧ i = .int .i64 k ∧ Inv w4 w1.heap.size w2.heap.size w4.heap.size go gz co cz l.length wr ∧ Below w.heap.size w wr) (fun i _ => l.length - (intOf i).toNat)
      case atStart => exact ⟨0, Nat.zero_le _, rfl, INV.out, HB.out⟩
      case round =>
        obtain ⟨k, hk, rfl, hI, hB⟩ := hrel
        clear INV HB
        by_cases hlt : k < l.length
        · obtain ⟨ys, hys⟩ := hI.own
          obtain ⟨zs, hzs⟩ := hI.zs
          obtain ⟨u, hu1, hu2⟩ := row_cell hys hlt
          obtain ⟨v, hv1, hv2⟩ := row_cell hzs hlt
          have hu : wr.cell? ⟨go, k, none⟩ = some (.int .u8 (u.toNat : Int)) := hu1
          have hv : wr.cell? ⟨gz, k, none⟩ = some (.int .u8 (v.toNat : Int)) := hv1
          have hub := u.toNat_lt
          have hvb := v.toNat_lt
          have HI := Lib.hid hI
          have HBr := Lib.hid hB
          clear hys hzs hu1 hv1 hI hB
          go_wp2
          go_roundw
          case rel =>
            rw [up_cell, up_cell]
            exact ⟨k + 1, by omega, by go_num, (HI.out.set_own hs24 _).set_zs hs24 _, (HBr.out.setCell (by show w.heap.size ≤ go; have := HBr.out.size; have := HGO.out; omega) _).setCell (by show w.heap.size ≤ gz; have := HGO.out; omega) _⟩
          case measure => simp [intOf]; omega
        · have HB := Lib.hid hB
          have RB := Lib.hid (RW.out.below HB.out)
          replace X1 := Lib.hid (X1.out.move (w' := wr) (fun i hi hj => hI.mid i hi hj))
          replace X2 := Lib.hid (X2.out.move (w' := wr) (fun i hi hj => hI.mid i (Nat.le_trans S2.out hi) hj))
          clear hI hB
          go_wp2_with fail
          refine start_ (n := 15) (S := fun w' => Below wr.heap.size wr w') (ds := []) #[false, false, false, false, false, false, false, false, false, false, false, false, false, false, false] (by kernel_rfl) rfl rfl ((Below.refl _ _).drew) (fun hHeld => ?_)
          obtain ⟨wd, hwd⟩ : ∃ wd, wd = World.drew wr := ⟨_, rfl⟩
          rw [← hwd] at hHeld ⊢
          clear hwd
          refine again_ (S' := fun w' => Below wd.heap.size wd w') (Below.refl _ _) (fun w' h => step2 hHeld hHeld.size h) ?_
          replace RB := Lib.hid (RB.out.below (hHeld))
          replace X1 := Lib.hid (X1.out.below (hHeld))
          replace X2 := Lib.hid (X2.out.below (hHeld))
          replace HB := Lib.hid (step2 HB.out HB.out.size (hHeld))
          clear hHeld
          have hHeld : Below wd.heap.size wd wd := Below.refl _ _
          refine pure_ (i := 0) (N := some 43) (v := ?_) (a' := ?_) #[true, false, false, false, false, false, false, false, false, false, false, false, false, false, false] rfl rfl (by kernel_rfl) (fun _ _ _ h => h) (Or.inl ⟨by rfl, ?_⟩) ?_ ?_
          rotate_left
          · intro w'
            go_simp
            with_reducible rfl
          rotate_left
          · simp only [Act.put, List.setIfInBounds_toArray, List.set_cons_zero, List.set_cons_succ]
            rfl
          refine pure_ (i := 3) (N := some 46) (v := ?_) (a' := ?_) #[true, false, false, true, false, false, false, false, false, false, false, false, false, false, false] rfl rfl (by kernel_rfl) (fun _ _ _ h => h) (Or.inl ⟨by rfl, ?_⟩) ?_ ?_
          rotate_left
          · intro w'
            go_simp
            with_reducible rfl
          rotate_left
          · simp only [Act.put, List.setIfInBounds_toArray, List.set_cons_zero, List.set_cons_succ]
            rfl
          refine take_ (i := 4) (N := some 47) (v := ?_) (a' := ?_) #[true, false, false, true, true, false, false, false, false, false, false, false, false, false, false] rfl rfl (by kernel_rfl) (fun _ _ _ h => h) (Or.inl ⟨by rfl, ?_⟩) hHeld ?_ ?_
          rotate_left
          · intro w' s0
            have e0 := run_string (P := Try.prog) (src := 22) (dst := 9) (c := c) Try.underlying22 Try.underlying5 Try.underlying9 (RB.out.below s0)
            go_simp
            with_reducible rfl
          rotate_left
          · simp only [Act.put, List.setIfInBounds_toArray, List.set_cons_zero, List.set_cons_succ]
            rfl
          refine one_ (i := 1) (N := some 44) #[true, true, false, true, true, false, false, false, false, false, false, false, false, false, false] rfl rfl (by kernel_rfl) (by decide) (fun K hK => ?_)
          refine goes_ Try.func11 (by kernel_rfl) rfl #[.pointer (some ⟨g1, 0, none⟩)] (by rfl) rfl rfl (by first | rfl | (simp only [List.map_toArray, List.map_cons, List.map_nil]; rfl)) ?_
          refine (Fns.bytes _ (X1.out) hz).mono ?_
          rintro e wa ⟨BS1, cS1, rfl, hown, hbl⟩
          refine ⟨_, rfl, ?_⟩
          refine hK.out _ _ (step2 hHeld hHeld.size hbl) (fun hHeld' => ?_)
          clear hK K hHeld'
          refine norm_ (a' := ?_) ?_ ?_
          rotate_left
          · show Act.put _ (some 44) _ = _
            simp only [Act.put, List.setIfInBounds_toArray, List.set_cons_zero, List.set_cons_succ]
            rfl
          refine again_ (S' := fun w' => Below wa.heap.size wa w') (Below.refl _ _) (fun w' h => step2 (step2 hHeld hHeld.size hbl) (Below.size (step2 hHeld hHeld.size hbl)) h) ?_
          clear hHeld
          have hHeld : Below wa.heap.size wa wa := Below.refl _ _
          replace RB := Lib.hid (RB.out.below (hbl))
          replace X1 := Lib.hid (X1.out.below (hbl))
          replace X2 := Lib.hid (X2.out.below (hbl))
          replace HB := Lib.hid (step2 HB.out HB.out.size (hbl))
          have S1 := Lib.hid (rd_own hown).2.2.2
          clear hown hbl
          refine take_ (i := 2) (N := some 45) (v := ?_) (a' := ?_) #[true, true, true, true, true, false, false, false, false, false, false, false, false, false, false] rfl rfl (by kernel_rfl) (fun _ _ _ h => h) (Or.inl ⟨by rfl, ?_⟩) hHeld ?_ ?_
          rotate_left
          · intro w' s0
            have e0 := run_string (P := Try.prog) (src := 22) (dst := 9) (c := cS1) Try.underlying22 Try.underlying5 Try.underlying9 (S1.out.below s0)
            go_simp
            with_reducible rfl
          rotate_left
          · simp only [Act.put, List.setIfInBounds_toArray, List.set_cons_zero, List.set_cons_succ]
            rfl
          refine pure_ (i := 5) (N := some 48) (v := ?_) (a' := ?_) #[true, true, true, true, true, true, false, false, false, false, false, false, false, false, false] rfl rfl (by kernel_rfl) (fun _ _ _ h => h) (Or.inl ⟨by rfl, ?_⟩) ?_ ?_
          rotate_left
          · intro w'
            go_simp
            with_reducible rfl
          rotate_left
          · simp only [Act.put, List.setIfInBounds_toArray, List.set_cons_zero, List.set_cons_succ]
            rfl
          refine pure_ (i := 6) (N := some 49) (v := ?_) (a' := ?_) #[true, true, true, true, true, true, true, false, false, false, false, false, false, false, false] rfl rfl (by kernel_rfl) (fun _ _ _ h => h) (Or.inl ⟨by rfl, ?_⟩) ?_ ?_
          rotate_left
          · intro w'
            go_simp
            with_reducible rfl
          rotate_left
          · simp only [Act.put, List.setIfInBounds_toArray, List.set_cons_zero, List.set_cons_succ]
            rfl
          refine pure_ (i := 7) (N := some 50) (v := ?_) (a' := ?_) #[true, true, true, true, true, true, true, true, false, false, false, false, false, false, false] rfl rfl (by kernel_rfl) (fun _ _ _ h => h) (Or.inl ⟨by rfl, ?_⟩) ?_ ?_
          rotate_left
          · intro w'
            go_simp
            with_reducible rfl
          rotate_left
          · simp only [Act.put, List.setIfInBounds_toArray, List.set_cons_zero, List.set_cons_succ]
            rfl
          refine pure_ (i := 10) (N := some 53) (v := ?_) (a' := ?_) #[true, true, true, true, true, true, true, true, false, false, true, false, false, false, false] rfl rfl (by kernel_rfl) (fun _ _ _ h => h) (Or.inl ⟨by rfl, ?_⟩) ?_ ?_
          rotate_left
          · intro w'
            go_simp
            with_reducible rfl
          rotate_left
          · simp only [Act.put, List.setIfInBounds_toArray, List.set_cons_zero, List.set_cons_succ]
            rfl
          refine take_ (i := 11) (N := some 54) (v := ?_) (a' := ?_) #[true, true, true, true, true, true, true, true, false, false, true, true, false, false, false] rfl rfl (by kernel_rfl) (fun _ _ _ h => h) (Or.inl ⟨by rfl, ?_⟩) hHeld ?_ ?_
          rotate_left
          · intro w' s0
            have e0 := run_string (P := Try.prog) (src := 22) (dst := 9) (c := c) Try.underlying22 Try.underlying5 Try.underlying9 (RB.out.below s0)
            go_simp
            with_reducible rfl
          rotate_left
          · simp only [Act.put, List.setIfInBounds_toArray, List.set_cons_zero, List.set_cons_succ]
            rfl
          refine one_ (i := 8) (N := some 51) #[true, true, true, true, true, true, true, true, true, false, true, true, false, false, false] rfl rfl (by kernel_rfl) (by decide) (fun K hK => ?_)
          refine goes_ Try.func11 (by kernel_rfl) rfl #[.pointer (some ⟨g2, 0, none⟩)] (by rfl) rfl rfl (by first | rfl | (simp only [List.map_toArray, List.map_cons, List.map_nil]; rfl)) ?_
          refine (Fns.bytes _ (X2.out) hz).mono ?_
          rintro e wb ⟨BS2, cS2, rfl, hown, hbl⟩
          refine ⟨_, rfl, ?_⟩
          refine hK.out _ _ (step2 hHeld hHeld.size hbl) (fun hHeld' => ?_)
          clear hK K hHeld'
          refine norm_ (a' := ?_) ?_ ?_
          rotate_left
          · show Act.put _ (some 51) _ = _
            simp only [Act.put, List.setIfInBounds_toArray, List.set_cons_zero, List.set_cons_succ]
            rfl
          refine again_ (S' := fun w' => Below wb.heap.size wb w') (Below.refl _ _) (fun w' h => step2 (step2 hHeld hHeld.size hbl) (Below.size (step2 hHeld hHeld.size hbl)) h) ?_
          clear hHeld
          have hHeld : Below wb.heap.size wb wb := Below.refl _ _
          replace RB := Lib.hid (RB.out.below (hbl))
          replace X1 := Lib.hid (X1.out.below (hbl))
          replace X2 := Lib.hid (X2.out.below (hbl))
          replace HB := Lib.hid (step2 HB.out HB.out.size (hbl))
          replace S1 := Lib.hid (S1.out.below hbl)
          have S2 := Lib.hid (rd_own hown).2.2.2
          clear hown hbl
          refine take_ (i := 9) (N := some 52) (v := ?_) (a' := ?_) #[true, true, true, true, true, true, true, true, true, true, true, true, false, false, false] rfl rfl (by kernel_rfl) (fun _ _ _ h => h) (Or.inl ⟨by rfl, ?_⟩) hHeld ?_ ?_
          rotate_left
          · intro w' s0
            have e0 := run_string (P := Try.prog) (src := 22) (dst := 9) (c := cS2) Try.underlying22 Try.underlying5 Try.underlying9 (S2.out.below s0)
            go_simp
            with_reducible rfl
          rotate_left
          · simp only [Act.put, List.setIfInBounds_toArray, List.set_cons_zero, List.set_cons_succ]
            rfl
          refine pure_ (i := 12) (N := some 55) (v := ?_) (a' := ?_) #[true, true, true, true, true, true, true, true, true, true, true, true, true, false, false] rfl rfl (by kernel_rfl) (fun _ _ _ h => h) (Or.inl ⟨by rfl, ?_⟩) ?_ ?_
          rotate_left
          · intro w'
            go_simp
            with_reducible rfl
          rotate_left
          · simp only [Act.put, List.setIfInBounds_toArray, List.set_cons_zero, List.set_cons_succ]
            rfl
          refine pure_ (i := 13) (N := some 56) (v := ?_) (a' := ?_) #[true, true, true, true, true, true, true, true, true, true, true, true, true, true, false] rfl rfl (by kernel_rfl) (fun _ _ _ h => h) (Or.inl ⟨by rfl, ?_⟩) ?_ ?_
          rotate_left
          · intro w'
            go_simp
            with_reducible rfl
          rotate_left
          · simp only [Act.put, List.setIfInBounds_toArray, List.set_cons_zero, List.set_cons_succ]
            rfl
          refine pure_ (i := 14) (N := some 2) (v := ?_) (a' := ?_) #[true, true, true, true, true, true, true, true, true, true, true, true, true, true, true] rfl rfl (by kernel_rfl) (fun _ _ _ h => h) (Or.inl ⟨by rfl, ?_⟩) ?_ ?_
          rotate_left
          · intro w'
            go_simp
            with_reducible rfl
          rotate_left
          · simp only [Act.put, List.setIfInBounds_toArray, List.set_cons_zero, List.set_cons_succ]
            rfl
          refine done_ (by kernel_rfl) ?_
          go_wp2_with fail
          go_ret
          exact ⟨rfl, HB.out⟩
end Go.Proofs.Ytmfhkgfgphdliaa.StaysWalk
