/- DERIVED. The walk of GroupWithin: its closure, called nine times, and the law over it. -/
import Derived.Test.YtbmnpjhjdhgdnaaOpen
import Derived.Test.YtbmnpjhjdhgdnaaGroupWithinIn
import Derived.Outline
import Derived.Lib.Hide
namespace Go.Proofs.Ytbmnpjhjdhgdnaa.GroupWithinWalk
open Go.RowKit Go.Proofs.Ytbmnpjhjdhgdnaa.Open Go.Proofs.Ytbmnpjhjdhgdnaa.PGroupWithin Go.Proofs.YtbmnpjhjdhgdnaaW.PrintWords Go.Proofs.Ytbmnpjhjdhgdnaa.GroupWithinIn
set_option linter.unusedVariables false
set_option linter.unusedSimpArgs false

/-- The box of the captured type. -/
structure Ok (bm : Nat) (t s : ByteArray) (a : Option Addr) (c : Nat) (l : List S34) (w : World) : Prop where
  box : w.heap[bm]? = some (.cells #[.string t, .string s, .slice a l.length c] 24 (0, 0))
  row : Kd.C k34 w a l.length l
theorem Ok.below {bm : Nat} {t s : ByteArray} {a : Option Addr} {c : Nat} {l : List S34} {w w' : World} (h : Ok bm t s a c l w) (hb : Below w.heap.size w w') : Ok bm t s a c l w' :=
  ⟨(hb.block bm (Array.getElem?_eq_some_iff.1 h.box).1).trans h.box, Kd.C_below h.row hb⟩
theorem Ok.cells {bm : Nat} {t s : ByteArray} {a : Option Addr} {c : Nat} {l : List S34} {w : World} (h : Ok bm t s a c l w) :
    w.cell? ⟨bm, 0, none⟩ = some (.string t) ∧ w.cell? ⟨bm, 1, none⟩ = some (.string s) ∧ w.cell? ⟨bm, 2, none⟩ = some (.slice a l.length c) := by
  have := h.box
  simp [World.cell?, this]

/-- Is the type in group g? -/
def InB (t s : ByteArray) (g : Int) : Bool := inB g t.toList s.toList (endsB s)

set_option maxHeartbeats 1000000 in
theorem in_calls (bm : Nat) (t s : ByteArray) (a : Option Addr) (c : Nat) (l : List S34) (ht : t.size ≤ 140737488351232) (hs : s.size ≤ 140737488351232) (hl : l.length ≤ c) (g : Int) (w : World) (ok : Ok bm t s a c l w) :
    Calls Try.prog 8 #[.int .i64 g, .pointer (some ⟨bm, 0, none⟩)] w fun e w' => e = .returned (.bool (InB t s g)) ∧ Ok bm t s a c l w' ∧ Below w.heap.size w w' := by
  obtain ⟨c0, c1, c2⟩ := ok.cells
  have OK := Lib.hid ok
  clear ok
  go_enter Try.func8, Try.ntmps8
  go_wp2_with fail
  refine (group_In.calls 20 g t s a c l (InB t s g) _ OK.out.row hl (in_f 20 (by decide) g t s l ht hs)).mono ?_
  rintro e w' ⟨rfl, hbel⟩
  have OK' := Lib.hid (OK.out.below hbel)
  have HBel := Lib.hid hbel
  clear hbel
  go_wp2_with fail
  go_ret
  exact ⟨rfl, OK'.out, HBel.out⟩

theorem below_step2 {B : Nat} {w w1 w2 : World} (h : Below B w w1) (hB : B ≤ w1.heap.size) (k : Below w1.heap.size w1 w2) : Below B w w2 := h.trans (k.mono hB)

/-- .. and what lay below stands. -/
def Inv (w : World) (t s : ByteArray) (a : Option Addr) (c : Nat) (l : List S34) (w1 : World) : Prop := Ok w.heap.size t s a c l w1 ∧ Below w.heap.size w w1
theorem in_inv (w : World) (t s : ByteArray) (a : Option Addr) (c : Nat) (l : List S34) (ht : t.size ≤ 140737488351232) (hs : s.size ≤ 140737488351232) (hl : l.length ≤ c) (g : Int) (w1 : World) (h : Inv w t s a c l w1) :
    Calls Try.prog 8 #[.int .i64 g, .pointer (some ⟨w.heap.size, 0, none⟩)] w1 fun e w' => e = .returned (.bool (InB t s g)) ∧ Inv w t s a c l w' :=
  (in_calls _ t s a c l ht hs hl g w1 h.1).mono fun _ _ ⟨he, hok, hb⟩ => ⟨he, hok, below_step2 h.2 h.2.size hb⟩

set_option maxHeartbeats 4000000 in
theorem law_calls (t s : ByteArray) (a : Option Addr) (c : Nat) (l : List S34) (ht : t.size ≤ 140737488351232) (hs : s.size ≤ 140737488351232) (hl : l.length ≤ c) (hl2 : l.length ≤ 140737488351232) (w : World) (row : Kd.C k34 w a l.length l)
    (x57 : InB t s 5 = true → InB t s 7 = true) (x67 : InB t s 6 = true → InB t s 7 = true) (x56 : InB t s 5 = true → InB t s 6 = false) (x68 : InB t s 6 = true → InB t s 8 = false) (x69 : InB t s 6 = true → InB t s 9 = false) (x02 : InB t s 0 = true → InB t s 2 = false)
    (x34 : InB t s 3 = true → s.toList = [122, 105, 112] → InB t s 4 = true) :
    Calls Try.prog 3 #[.agg #[.string t, .string s, .slice a l.length c]] w fun e w' => e = .returned (.bool true) ∧ Below w.heap.size w w' := by
  have ok0 : Ok w.heap.size t s a c l (w.alloc (.cells #[.string t, .string s, .slice a l.length c] 24)) := ⟨heap_alloc_new w _, Kd.C_alloc row _⟩
  have hb0 : Below w.heap.size w (w.alloc (.cells #[.string t, .string s, .slice a l.length c] 24)) := (Below.refl _ _).alloc (Nat.le_refl _) _
  have OK0 := Lib.hid ok0
  have HB0 := Lib.hid hb0
  obtain ⟨r, hr⟩ := few_some t s l hl2 (l.length + 41) (by omega)
  have HR := Lib.hid hr
  clear row ok0 hb0 hr
  go_enter Try.func3, Try.ntmps3
  go_wp2_with fail
  refine (carryalllaw06_awake.calls 20 true _ (awake_f 20 (by decide))).mono ?_
  rintro e w1 ⟨rfl, hb1⟩
  have ok1 := OK0.out.below hb1
  have HB1 := Lib.hid (below_step2 HB0.out (by simp) hb1)
  clear HB0 OK0 hb1
  obtain ⟨c0, c1, c2⟩ := ok1.cells
  go_wp2_with fail
  refine (carryallref05_Few.calls (l.length + 41) t s a c l r _ ok1.row hl HR.out).mono ?_
  rintro e w2 ⟨rfl, hb2⟩
  have ok2 := ok1.below hb2
  have HB2 := Lib.hid (below_step2 HB1.out HB1.out.size hb2)
  clear HB1 ok1 hb2 c0 c1 c2 HR
  cases r
  · go_wp2_with fail
    refine (carryalllaw06_awake.calls 20 true _ (awake_f 20 (by decide))).mono ?_
    rintro e w3 ⟨rfl, hb3⟩
    have HB3 := Lib.hid (below_step2 HB2.out HB2.out.size hb3)
    clear hb3
    go_wp2_with fail
    go_ret
    exact ⟨rfl, HB3.out⟩
  · have inv2 : Inv w t s a c l w2 := ⟨ok2, HB2.out⟩
    clear ok2 HB2
    go_upto_region 4 with (fail)
    go_cut [51] (fun v51 wx => v51 = .bool false ∧ Inv w t s a c l wx)
    case first =>
      clear x34
      cases h5 : InB t s 5
      · cases h6 : InB t s 6
        · clear x57 x67 x56 x68 x69
          cases h0 : InB t s 0
          · clear x02
            go_wp2_with (first | (go_at_call 8; refine (in_inv w t s a c l ht hs hl _ _ (by assumption)).mono ?_; rintro e w3 ⟨rfl, hinv⟩))
            go_meet
            exact ⟨rfl, by assumption⟩
          · have h2 := x02 h0; clear x02
            go_wp2_with (first | (go_at_call 8; refine (in_inv w t s a c l ht hs hl _ _ (by assumption)).mono ?_; rintro e w3 ⟨rfl, hinv⟩))
            go_meet
            exact ⟨rfl, by assumption⟩
        · have h7 := x67 h6; have h8 := x68 h6; have h9 := x69 h6; clear x57 x67 x56 x68 x69
          cases h0 : InB t s 0
          · clear x02
            go_wp2_with (first | (go_at_call 8; refine (in_inv w t s a c l ht hs hl _ _ (by assumption)).mono ?_; rintro e w3 ⟨rfl, hinv⟩))
            go_meet
            exact ⟨rfl, by assumption⟩
          · have h2 := x02 h0; clear x02
            go_wp2_with (first | (go_at_call 8; refine (in_inv w t s a c l ht hs hl _ _ (by assumption)).mono ?_; rintro e w3 ⟨rfl, hinv⟩))
            go_meet
            exact ⟨rfl, by assumption⟩
      · have h7 := x57 h5; have h6 := x56 h5; clear x57 x67 x56 x68 x69
        cases h0 : InB t s 0
        · clear x02
          go_wp2_with (first | (go_at_call 8; refine (in_inv w t s a c l ht hs hl _ _ (by assumption)).mono ?_; rintro e w3 ⟨rfl, hinv⟩))
          go_meet
          exact ⟨rfl, by assumption⟩
        · have h2 := x02 h0; clear x02
          go_wp2_with (first | (go_at_call 8; refine (in_inv w t s a c l ht hs hl _ _ (by assumption)).mono ?_; rintro e w3 ⟨rfl, hinv⟩))
          go_meet
          exact ⟨rfl, by assumption⟩
    case rest =>
      obtain ⟨rfl, hinv⟩ := hcut
      clear x57 x67 x56 x68 x69 x02 inv2
      have hcell := hinv.1.cells.2.1
      cases h3 : InB t s 3
      · clear x34
        go_wp2_with (first | (go_at_call 8; refine (in_inv w t s a c l ht hs hl _ _ (by assumption)).mono ?_; rintro e w3 ⟨rfl, hinv⟩; have hcell := hinv.1.cells.2.1))
        go_ret
        exact ⟨rfl, (by assumption : Inv w t s a c l _).2⟩
      · by_cases hz : s.toList = [122, 105, 112]
        · have h4 := x34 h3 hz; clear x34
          go_wp2_with (first | (go_at_call 8; refine (in_inv w t s a c l ht hs hl _ _ (by assumption)).mono ?_; rintro e w3 ⟨rfl, hinv⟩; have hcell := hinv.1.cells.2.1))
          go_ret
          exact ⟨rfl, (by assumption : Inv w t s a c l _).2⟩
        · clear x34
          go_wp2_with (first | (go_at_call 8; refine (in_inv w t s a c l ht hs hl _ _ (by assumption)).mono ?_; rintro e w3 ⟨rfl, hinv⟩; have hcell := hinv.1.cells.2.1))
          go_ret
          exact ⟨rfl, (by assumption : Inv w t s a c l _).2⟩
end Go.Proofs.Ytbmnpjhjdhgdnaa.GroupWithinWalk
