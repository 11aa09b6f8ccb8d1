/- DERIVED. Contracts of package answer's Writer: number, U8, U32, I64, String, Bytes. -/
import Derived.Test.YtdojhdglbajinaaProg
import Derived.Test.YtdojhdglbajinaaReg
import Derived.Outline
import Derived.WalkSpells
import Derived.WalkLawsBesides
import Derived.Lib.SliceRun
import Derived.OwnWalk
import Derived.IntWalk
import Derived.KernelRfl
namespace Go.Proofs.Ytdojhdglbajinaa.Writer
open Go.RowKit Go.Proofs.Ytdojhdglbajinaa.Mem Go.Proofs.Ytdojhdglbajinaa.Reg Go.Proofs.YtdojhdglbajinaaW.PrintLast
set_option linter.unusedVariables false
set_option linter.unusedSimpArgs false

theorem info5 : (Try.prog.info? 5).map (fun i => (i.zero, i.size, i.bytes)) = some (some (.int .u8 0), 1, 1) := by kernel_rfl

/-- A number's bytes, the highest first. -/
def byteAt (n k : Nat) : UInt8 := UInt8.ofNat (n / 2 ^ (8 * k) % 256)
def be (n m : Nat) : List UInt8 := (List.range m).map fun j => byteAt n (m - 1 - j)
theorem be_len (n m : Nat) : (be n m).length = m := by simp [be]
theorem be_take (n m j : Nat) (h : j < m) : (be n m).take (j + 1) = (be n m).take j ++ [byteAt n (m - 1 - j)] := by
  rw [List.take_add_one]
  simp [be, h]

/-- A writer: its box at block g, its row from base on. -/
structure Wr (w : World) (g base : Nat) (l : List UInt8) : Prop where
  lt : g < base
  le : base ≤ w.heap.size
  row : ∃ B c, w.heap[g]? = some (.cells #[.slice B l.length c] 55 (0, 0)) ∧ w.ownsRow base 5 1 (.slice B l.length c) l.length (l.map cellB)
/-- What a writer's method leaves: what lay below its box; every block that is no row of bytes. -/
structure Fr (g : Nat) (w w' : World) : Prop where
  below : Below g w w'
  typed : ∀ (i : Nat) (o : Obj), w.heap[i]? = some o → i ≠ g → (∀ cs fr, o ≠ .cells cs 5 fr) → w'.heap[i]? = some o
theorem Fr.refl (g : Nat) (w : World) : Fr g w w := ⟨Below.refl _ _, fun _ _ h _ _ => h⟩
theorem Fr.trans {g : Nat} {a b c : World} (h : Fr g a b) (k : Fr g b c) : Fr g a c := ⟨h.below.trans k.below, fun i o ho hg ht => k.typed i o (h.typed i o ho hg ht) hg ht⟩
theorem ne_row {w : World} {base g n c : Nat} {B : Option Addr} {ys : List Value} (h : w.ownsRow base 5 1 (.slice B n c) n ys) (hg : g < base) : (Value.slice B n c).ownBlock ≠ some g := by
  intro e
  have := (h.lt g e).1
  omega
theorem row_type {w : World} {base n c k : Nat} {B : Option Addr} {ys : List Value} (h : w.ownsRow base 5 1 (.slice B n c) n ys) (e : (Value.slice B n c).ownBlock = some k) : ∃ cs fr, w.heap[k]? = some (.cells cs 5 fr) := by
  rcases h.2 with ⟨h0, _⟩ | ⟨g, cap, cur, hv, hb, hg, _⟩
  · rw [h0] at e; simp [Value.ownBlock] at e
  · rw [hv] at e; simp [Value.ownBlock] at e; subst e; exact ⟨_, _, hg⟩
/-- An append onto the row. -/
theorem Fr.grown {g base n c : Nat} {B : Option Addr} {ys : List Value} {w w1 w' : World} (h : Fr g w w1) (hr : w1.ownsRow base 5 1 (.slice B n c) n ys) (hg : w1.grownBy w' (Value.slice B n c).ownBlock) (hb : g < base) (hle : base ≤ w1.heap.size) : Fr g w w' := by
  refine ⟨h.below.grown hg (by omega) (fun k hk => by have := (hr.lt k hk).1; omega), fun i o ho hi ht => ?_⟩
  have h1 := h.typed i o ho hi ht
  have hlt := (Array.getElem?_eq_some_iff.1 h1).1
  rw [hg.block i hlt (fun e => ?_)]
  · exact h1
  · obtain ⟨cs, fr, h2⟩ := row_type hr e.symm
    rw [h1] at h2
    exact ht cs fr (Option.some.inj h2)
theorem Fr.alloc {g : Nat} {w w1 : World} (h : Fr g w w1) (hg : g ≤ w1.heap.size) (o : Obj) : Fr g w (w1.alloc o) :=
  ⟨h.below.alloc hg o, fun i o' ho hi ht => by
    have h1 := h.typed i o' ho hi ht
    rw [Below.heap_alloc _ _ _ (Array.getElem?_eq_some_iff.1 h1).1]; exact h1⟩
theorem Fr.store {g j : Nat} {w w1 : World} (h : Fr g w w1) (v : Value) : Fr g w (w1.setCell ⟨g, j, none⟩ v) :=
  ⟨h.below.setCell (Nat.le_refl _) v, fun i o' ho hi ht => by
    rw [Below.heap_setCell _ _ _ _ hi]; exact h.typed i o' ho hi ht⟩
theorem setCell_one {w : World} {g t : Nat} {x v : Value} (h : w.heap[g]? = some (.cells #[x] t (0, 0))) : (w.setCell ⟨g, 0, none⟩ v).heap[g]? = some (.cells #[v] t (0, 0)) := by
  rw [Joins.block_setCell h]; rfl
/-- The box is written anew. -/
theorem Wr.store {w2 : World} {g base n c c' : Nat} {B B' : Option Addr} {l : List UInt8} (hb : w2.heap[g]? = some (.cells #[.slice B n c] 55 (0, 0))) (hg : g < base) (hle : base ≤ w2.heap.size) (ho : w2.ownsRow base 5 1 (.slice B' l.length c') l.length (l.map cellB)) : Wr (w2.setCell ⟨g, 0, none⟩ (.slice B' l.length c')) g base l :=
  ⟨hg, by simpa [World.setCell] using hle, B', c', setCell_one hb, ownsRow_setCell_below ho hg _⟩

theorem byte_val (n m j : Nat) (h : j < m) : IntKind.u8.wrap ((n : Int) / 2 ^ (8 * ((m : Int) - 1 - j)).toNat) = ((byteAt n (m - 1 - j)).toNat : Int) := by
  have e : (8 * ((m : Int) - 1 - j)).toNat = 8 * (m - 1 - j) := by omega
  have e2 : (2 : Int) ^ (8 * (m - 1 - j)) = ((2 ^ (8 * (m - 1 - j)) : Nat) : Int) := by simp
  rw [e, e2]
  unfold byteAt
  rw [UInt8.toNat_ofNat']
  generalize 2 ^ (8 * (m - 1 - j)) = d
  rw [IntKind.wrap_u8]
  have : (n : Int) / (d : Int) = ((n / d : Nat) : Int) := by simp
  rw [this]
  omega
theorem one_cell (w : World) (u : UInt8) (x : Int) (hx : x = (u.toNat : Int)) : ∀ (j : Nat) (u' : UInt8), [u][j]? = some u' → (w.alloc (.cells #[.int .u8 x] 5)).cell? ((⟨w.heap.size, 0, none⟩ : Addr).add j) = some (cellB u') := by
  intro j u' hj
  subst hx
  match j, hj with
  | 0, hj => simp at hj; subst hj; simp [Addr.add, cellB, World.cell?_alloc_new]
  | j + 1, hj => simp at hj
set_option maxHeartbeats 4000000 in
set_option maxRecDepth 100000 in
theorem number (g base : Nat) (l : List UInt8) (n m : Nat) (w : World) (hW : Wr w g base l) (hn : n < 18446744073709551616) (hm : m ≤ 8) (hl : l.length ≤ 70368744177664) :
    Calls Try.prog 50 #[.pointer (some ⟨g, 0, none⟩), .int .u64 (n : Int), .int .i64 (m : Int)] w fun e w' => e = .returned (.tuple #[]) ∧ Wr w' g base (l ++ be n m) ∧ Fr g w w' := by
  obtain ⟨i0, hi, hz0, hz1, hz2⟩ := info_parts info5
  have HW := Lib.hid hW
  have HNN := Lib.hid hn
  clear hW hn
  go_enter Try.func50, Try.ntmps50
  go_wp2
  go_loopw [6] (fun i wr => ∃ j : Nat, j ≤ m ∧ i = .int .i64 ((m : Int) - 1 - j) ∧ Hid (Wr wr g base (l ++ (be n m).take j)) ∧ Hid (Fr g w wr)) (fun i _ => (intOf i + 1).toNat)
  case atStart => exact ⟨0, Nat.zero_le _, by go_num, by show Wr _ _ _ _; simpa using HW.out, Fr.refl _ _⟩
  case round =>
    obtain ⟨j, hj, rfl, HR, HF⟩ := hrel
    clear HW
    by_cases hlt : j < m
    · obtain ⟨B, c, hblk, hown⟩ := HR.out.row
      have hgb := HR.out.lt
      have HBS := Lib.hid HR.out.le
      have HT := Lib.hid (be_take n m j hlt)
      have HL : Hid ((l ++ (be n m).take j).length ≤ 70368744177672) := by show _ ≤ _; rw [List.length_append, List.length_take]; omega
      obtain ⟨L, hL⟩ : ∃ L, L = l ++ (be n m).take j := ⟨_, rfl⟩
      rw [← hL] at hblk hown HL
      have HL2 := Lib.hid hL
      have OW := Lib.hid hown
      have BLK := Lib.hid hblk
      have hcell : wr.cell? ⟨g, 0, none⟩ = some (.slice B L.length c) := by simp [World.cell?, hblk]
      clear hL hown hblk
      have HBLK2 : Hid (wr.heap[g]? = some (.cells #[.slice B L.length c] 55 (0, 0))) := BLK.out
      go_wp2_with fail
      obtain ⟨u, hu⟩ : ∃ u, u = byteAt n (m - 1 - j) := ⟨_, rfl⟩
      have HU : Hid (IntKind.u8.wrap ((n : Int) / 2 ^ (8 * ((m : Int) - 1 - j)).toNat) = (u.toNat : Int)) := by rw [hu]; exact byte_val n m j hlt
      rw [← hu] at HT
      clear hu
      have hmul : IntKind.i64.wrap (8 * ((m : Int) - 1 - j)) = 8 * ((m : Int) - 1 - j) := IntWalk.i64_in _ (by omega)
      refine start_ (n := 15) (S := fun w' => w'.cell? ⟨g, 0, none⟩ = some (.slice B L.length c)) (ds := [14]) #[false, false, false, false, false, false, false, false, false, false, false, false, false, false, false] (by kernel_rfl) rfl rfl hcell (fun hHeld => ?_)
      obtain ⟨wd, hwd⟩ : ∃ wd, wd = World.drew wr := ⟨_, rfl⟩
      rw [← hwd] at hHeld ⊢
      replace OW : Hid (wd.ownsRow base 5 1 (.slice B L.length c) L.length (L.map cellB)) := by rw [hwd]; exact OW.out.drew
      replace HF : Hid (Fr g w wd) := by rw [hwd]; exact ⟨HF.out.below.drew, HF.out.typed⟩
      replace BLK : Hid (wd.heap[g]? = some (.cells #[.slice B L.length c] 55 (0, 0))) := by rw [hwd]; exact BLK.out
      replace HBS : Hid (base ≤ wd.heap.size) := by rw [hwd]; exact HBS.out
      clear hwd
      refine pure_ (i := 0) (N := some 15) (v := ?_) (a' := ?_) #[true, false, false, false, false, false, false, false, false, false, false, false, false, false, false] rfl rfl (by kernel_rfl) (fun _ _ _ h => h) (Or.inl ⟨by rfl, ?_⟩) ?_ ?_
      rotate_left
      · intro w'
        go_simp
        with_reducible rfl
      rotate_left
      · simp only [Act.put, List.setIfInBounds_toArray, List.set_cons_zero, List.set_cons_succ]
        rfl
      refine pure_ (i := 1) (N := some 16) (v := ?_) (a' := ?_) #[true, true, false, false, false, false, false, false, false, false, false, false, false, false, false] rfl rfl (by kernel_rfl) (fun _ _ _ h => h) (Or.inl ⟨by rfl, ?_⟩) ?_ ?_
      rotate_left
      · intro w'
        go_simp
        with_reducible rfl
      rotate_left
      · simp only [Act.put, List.setIfInBounds_toArray, List.set_cons_zero, List.set_cons_succ]
        rfl
      refine pure_ (i := 2) (N := some 17) (v := ?_) (a' := ?_) #[true, true, true, false, false, false, false, false, false, false, false, false, false, false, false] rfl rfl (by kernel_rfl) (fun _ _ _ h => h) (Or.inl ⟨by rfl, ?_⟩) ?_ ?_
      rotate_left
      · intro w'
        go_simp
        with_reducible rfl
      rotate_left
      · simp only [Act.put, List.setIfInBounds_toArray, List.set_cons_zero, List.set_cons_succ]
        rfl
      refine pure_ (i := 3) (N := some 18) (v := ?_) (a' := ?_) #[true, true, true, true, false, false, false, false, false, false, false, false, false, false, false] rfl rfl (by kernel_rfl) (fun _ _ _ h => h) (Or.inl ⟨by rfl, ?_⟩) ?_ ?_
      rotate_left
      · intro w'
        go_simp
        with_reducible rfl
      rotate_left
      · simp only [Act.put, List.setIfInBounds_toArray, List.set_cons_zero, List.set_cons_succ]
        rfl
      refine pure_ (i := 5) (N := some 20) (v := ?_) (a' := ?_) #[true, true, true, true, false, true, false, false, false, false, false, false, false, false, false] rfl rfl (by kernel_rfl) (fun _ _ _ h => h) (Or.inl ⟨by rfl, ?_⟩) ?_ ?_
      rotate_left
      · intro w'
        go_simp
        with_reducible rfl
      rotate_left
      · simp only [Act.put, List.setIfInBounds_toArray, List.set_cons_zero, List.set_cons_succ]
        rfl
      refine pure_ (i := 6) (N := some 21) (v := ?_) (a' := ?_) #[true, true, true, true, false, true, true, false, false, false, false, false, false, false, false] rfl rfl (by kernel_rfl) (fun _ _ _ h => h) (Or.inl ⟨by rfl, ?_⟩) ?_ ?_
      rotate_left
      · intro w'
        go_simp
        with_reducible rfl
      rotate_left
      · simp only [Act.put, List.setIfInBounds_toArray, List.set_cons_zero, List.set_cons_succ]
        rfl
      refine pure_ (i := 7) (N := some 22) (v := ?_) (a' := ?_) #[true, true, true, true, false, true, true, true, false, false, false, false, false, false, false] rfl rfl (by kernel_rfl) (fun _ _ _ h => h) (Or.inl ⟨by rfl, ?_⟩) ?_ ?_
      rotate_left
      · intro w'
        go_simp
        with_reducible rfl
      rotate_left
      · simp only [Act.put, List.setIfInBounds_toArray, List.set_cons_zero, List.set_cons_succ]
        rfl
      refine pure_ (i := 8) (N := some 23) (v := ?_) (a' := ?_) #[true, true, true, true, false, true, true, true, true, false, false, false, false, false, false] rfl rfl (by kernel_rfl) (fun _ _ _ h => h) (Or.inl ⟨by rfl, ?_⟩) ?_ ?_
      rotate_left
      · intro w'
        go_simp
        with_reducible rfl
      rotate_left
      · simp only [Act.put, List.setIfInBounds_toArray, List.set_cons_zero, List.set_cons_succ]
        rfl
      refine pure_ (i := 9) (N := some 24) (v := ?_) (a' := ?_) #[true, true, true, true, false, true, true, true, true, true, false, false, false, false, false] rfl rfl (by kernel_rfl) (fun _ _ _ h => h) (Or.inl ⟨by rfl, ?_⟩) ?_ ?_
      rotate_left
      · intro w'
        go_simp
        with_reducible rfl
      rotate_left
      · simp only [Act.put, List.setIfInBounds_toArray, List.set_cons_zero, List.set_cons_succ]
        rfl
      refine take_ (i := 4) (N := some 19) (v := ?_) (a' := ?_) #[true, true, true, true, true, true, true, true, true, true, false, false, false, false, false] rfl rfl (by kernel_rfl) (fun _ _ _ h => h) (Or.inl ⟨by rfl, ?_⟩) hHeld ?_ ?_
      rotate_left
      · intro w' s0
        go_simp
        with_reducible rfl
      rotate_left
      · simp only [Act.put, List.setIfInBounds_toArray, List.set_cons_zero, List.set_cons_succ]
        rfl
      refine one_ (i := 10) (N := some 25) #[true, true, true, true, true, true, true, true, true, true, true, false, false, false, false] rfl rfl (by kernel_rfl) (by decide) (fun K hK => ?_)
      refine value_ (w1 := ?_) (v := ?_) (by rfl) rfl ?_ ?_
      rotate_left 2
      · go_simp
        constructor
        · rfl
        · rfl
      refine hK.out _ _ (Lib.cell?_alloc_some _ hHeld) (fun hHeld' => ?_)
      clear hK K hHeld
      have hHeld := hHeld'
      clear hHeld'
      refine norm_ (a' := ?_) ?_ ?_
      rotate_left
      · show Act.put _ (some 25) _ = _
        simp only [Act.put, List.setIfInBounds_toArray, List.set_cons_zero, List.set_cons_succ]
        rfl
      refine one_ (i := 11) (N := some 26) #[true, true, true, true, true, true, true, true, true, true, true, true, false, false, false] rfl rfl (by kernel_rfl) (by decide) (fun K hK => ?_)
      refine append_step (by rfl) rfl (.tmp 19) (.tmp 25) 22 5 rfl base Try.underlying22 i0 hi hz0 hz1 hz2 (.slice B L.length c) L.length L (by rfl) (OW.out.alloc _) ⟨wd.heap.size, 0, none⟩ 1 [u] (by rfl) (one_cell _ _ _ HU.out) (by have := HL.out; show _ + 1 ≤ _; omega) (by have := HBS.out; simp; omega) ?_
      intro B' c' w2 hown hgrow
      refine hK.out _ _ (hgrow.cell hHeld (Ne.symm (ne_row OW.out hgb))) (fun hHeld' => ?_)
      clear hK K hHeld
      have hHeld := hHeld'
      clear hHeld'
      refine norm_ (a' := ?_) ?_ ?_
      rotate_left
      · show Act.put _ (some 26) _ = _
        simp only [Act.put, List.setIfInBounds_toArray, List.set_cons_zero, List.set_cons_succ]
        rfl
      have hb2 : w2.heap[g]? = some (.cells #[.slice B L.length c] 55 (0, 0)) := by
        rw [hgrow.block g (by have := HBS.out; simp; omega) (Ne.symm (ne_row OW.out hgb)), Below.heap_alloc _ _ _ (by have := HBS.out; omega)]
        exact BLK.out
      have hfz : w2.frozen? ⟨g, 0, none⟩ = false := Joins.unfrozen_of_block hb2 0
      refine pure_ (i := 12) (N := some 27) (v := ?_) (a' := ?_) #[true, true, true, true, true, true, true, true, true, true, true, true, true, false, false] rfl rfl (by kernel_rfl) (fun _ _ _ h => h) (Or.inl ⟨by rfl, ?_⟩) ?_ ?_
      rotate_left
      · intro w'
        go_simp
        with_reducible rfl
      rotate_left
      · simp only [Act.put, List.setIfInBounds_toArray, List.set_cons_zero, List.set_cons_succ]
        rfl
      refine pure_ (i := 13) (N := some 28) (v := ?_) (a' := ?_) #[true, true, true, true, true, true, true, true, true, true, true, true, true, true, false] rfl rfl (by kernel_rfl) (fun _ _ _ h => h) (Or.inl ⟨by rfl, ?_⟩) ?_ ?_
      rotate_left
      · intro w'
        go_simp
        with_reducible rfl
      rotate_left
      · simp only [Act.put, List.setIfInBounds_toArray, List.set_cons_zero, List.set_cons_succ]
        rfl
      refine last_ (i := 14) (N := none) #[true, true, true, true, true, true, true, true, true, true, true, true, true, true, true] rfl rfl (by kernel_rfl) (by decide) (fun K hK => ?_)
      refine skip_ (w1 := ?_) (by rfl) rfl ?_ ?_
      rotate_left
      · go_simp
        rfl
      refine hK.out _ _ ?_
      clear hK K
      refine done_ (by kernel_rfl) ?_
      have hle2 : base ≤ w2.heap.size := by have h1 := hgrow.size; have := HBS.out; simp at h1; omega
      have HW2 : Hid (Wr (w2.setCell ⟨g, 0, none⟩ (.slice B' (L.length + 1) c')) g base (L ++ [u])) := by
        have h := Wr.store (l := L ++ [u]) hb2 hgb hle2 (by rw [List.length_append]; exact hown)
        rw [List.length_append] at h
        exact h
      have HF2 : Hid (Fr g w (w2.setCell ⟨g, 0, none⟩ (.slice B' (L.length + 1) c'))) := (((HF.out.alloc (by have := HBS.out; omega) _).grown (OW.out.alloc _) hgrow hgb (by have := HBS.out; simp; omega)).store _)
      have HE : Hid (L ++ [u] = l ++ (be n m).take (j + 1)) := by show _ = _; rw [HT.out, HL2.out, List.append_assoc]
      clear hown hgrow hb2 hle2 HF HR HBS
      go_wp2
      go_roundw
      case rel => exact ⟨j + 1, by omega, by go_num, by rw [← HE.out]; exact HW2, HF2⟩
      case measure => simp [intOf]; omega
    · have HE : Hid ((be n m).take j = be n m) := List.take_of_length_le (by rw [be_len]; omega)
      go_wp2
      go_end0
      exact ⟨rfl, by rw [← HE.out]; exact HR.out, HF.out⟩

/-- An int64's bits. -/
def u64n (x : Int) : Nat := (x % 18446744073709551616).toNat
theorem u64n_lt (x : Int) : u64n x < 18446744073709551616 := by unfold u64n; omega
theorem u64n_wrap (x : Int) : IntKind.u64.wrap x = (u64n x : Int) := by rw [IntKind.wrap_u64]; unfold u64n; omega
set_option maxHeartbeats 1000000 in
set_option maxRecDepth 100000 in
theorem u8 (g base : Nat) (l : List UInt8) (n : Nat) (w : World) (hW : Wr w g base l) (hn : n < 256) (hl : l.length ≤ 70368744177664) :
    Calls Try.prog 29 #[.pointer (some ⟨g, 0, none⟩), .int .u8 (n : Int)] w fun e w' => e = .returned (.tuple #[]) ∧ Wr w' g base (l ++ be n 1) ∧ Fr g w w' := by
  have HM := Lib.hid (number g base l n 1 w hW (by omega) (by omega) hl)
  clear hW
  go_enter Try.func29, Try.ntmps29
  go_wp2_with (go_at_call 50; refine HM.out.mono ?_; rintro e w1 ⟨rfl, h1, h2⟩)
  go_end0
  exact ⟨rfl, h1, h2⟩
set_option maxHeartbeats 1000000 in
set_option maxRecDepth 100000 in
theorem u32 (g base : Nat) (l : List UInt8) (n : Nat) (w : World) (hW : Wr w g base l) (hn : n < 4294967296) (hl : l.length ≤ 70368744177664) :
    Calls Try.prog 31 #[.pointer (some ⟨g, 0, none⟩), .int .u32 (n : Int)] w fun e w' => e = .returned (.tuple #[]) ∧ Wr w' g base (l ++ be n 4) ∧ Fr g w w' := by
  have HM := Lib.hid (number g base l n 4 w hW (by omega) (by omega) hl)
  clear hW
  go_enter Try.func31, Try.ntmps31
  go_wp2_with (go_at_call 50; refine HM.out.mono ?_; rintro e w1 ⟨rfl, h1, h2⟩)
  go_end0
  exact ⟨rfl, h1, h2⟩
set_option maxHeartbeats 1000000 in
set_option maxRecDepth 100000 in
theorem i64 (g base : Nat) (l : List UInt8) (x : Int) (w : World) (hW : Wr w g base l) (hl : l.length ≤ 70368744177664) :
    Calls Try.prog 32 #[.pointer (some ⟨g, 0, none⟩), .int .i64 x] w fun e w' => e = .returned (.tuple #[]) ∧ Wr w' g base (l ++ be (u64n x) 8) ∧ Fr g w w' := by
  have HM := Lib.hid (number g base l (u64n x) 8 w hW (u64n_lt x) (by omega) hl)
  have hx := u64n_wrap x
  clear hW
  go_enter Try.func32, Try.ntmps32
  go_wp2_with (go_at_call 50; refine HM.out.mono ?_; rintro e w1 ⟨rfl, h1, h2⟩)
  go_end0
  exact ⟨rfl, h1, h2⟩
set_option maxHeartbeats 1000000 in
set_option maxRecDepth 100000 in
/-- slices.Clone: a row of the call's own, of the same bytes (nil of nil). -/
theorem clone (A : Option Addr) (c : Nat) (l : List UInt8) (w : World) (h : Rd w A l) (hl : l.length ≤ 140737488351232) :
    Calls Try.prog 47 #[.slice A l.length c] w fun e w' => ∃ B c', e = .returned (.slice B l.length c') ∧ w'.ownsRow w.heap.size 5 1 (.slice B l.length c') l.length (l.map cellB) ∧ Below w.heap.size w w' := by
  obtain ⟨i0, hi, hz0, hz1, hz2⟩ := info_parts info5
  have q22 : ∀ (w : World) (a : Option Addr) (n c n' c' : Nat), (binOp .eql 22 (.slice a n c) (.slice none n' c')).run Try.prog w = .ok (.bool a.isNone) w := fun w a n c n' c' => Lib.run_eql_slice_nil w _ _ a n c n' c' Try.underlying22
  rcases A with _ | ad
  · have h0 : l = [] := by
      rcases Nat.eq_zero_or_pos l.length with h0 | h0
      · exact List.eq_nil_of_length_eq_zero h0
      · obtain ⟨ad, h', _⟩ := h.2 h0
        cases h'
    subst h0
    go_enter Try.func47, Try.ntmps47
    go_wp2
    go_ret
    exact ⟨none, 0, rfl, World.ownsRow_nil _ _ _ _, Below.refl _ _⟩
  · have HC := Lib.hid h
    clear h
    go_enter Try.func47, Try.ntmps47
    go_wp2_with (at_builtin; refine wpList_append_own _ rfl _ _ 22 rfl w.heap.size 5 i0 (.int .u8 0) 1 1 Try.underlying22 hi hz0 hz1 hz2 rfl (by decide) _ _ _ rfl (World.ownsRow_made w #[] 0 (Nat.le_refl _) (Nat.zero_le _) (by simp)) ad l.length c (l.map cellB) rfl ?qc1 ?qc2 ?qc3 ?qc4 ?qc5 ?qc6 ?_)
    case qc1 => simp
    case qc2 =>
      intro j u hj
      have hj0 : 0 < l.length := by
        rcases Nat.eq_zero_or_pos l.length with h0 | h0
        · rw [List.eq_nil_of_length_eq_zero h0] at hj; simp at hj
        · exact h0
      obtain ⟨ad', e, hc⟩ := HC.out.2 hj0
      injection e with e
      subst e
      rw [List.getElem?_map] at hj
      obtain ⟨x, hx, rfl⟩ := Option.map_eq_some_iff.1 hj
      exact Lib.cell?_alloc_some _ (hc j x hx)
    case qc3 => exact map_cellB_one l
    case qc4 => rw [Nat.zero_add]; unfold maxLen; omega
    case qc5 => rw [Nat.zero_add]; omega
    case qc6 => simp
    intro v' w1 hown hgrow hnil
    go_wp2
    go_ret
    have hown2 : w1.ownsRow w.heap.size 5 1 v' l.length (l.map cellB) := by simpa using hown
    obtain ⟨B, c', hv⟩ := own_form hown2
    refine ⟨B, c', by rw [← hv]; rfl, by rw [← hv]; exact hown2, ?_⟩
    exact ((Below.refl _ w).alloc (Nat.le_refl _) _).grown hgrow (by simp) (by intro k hk; simp [Value.ownBlock] at hk; omega)


theorem str_cells (s : ByteArray) : Lib.strCells s = s.data.toList.map cellB := rfl
theorem string_mid {w w1 : World} {g base : Nat} {l : List UInt8} {k : Nat} (h1 : Wr w1 g base (l ++ be k 4)) (h2 : Fr g w w1) (hl : l.length ≤ 70368744177664) : ∃ L B c, Hid (L = l ++ be k 4) ∧ Hid (L.length ≤ 70368744177672) ∧ Hid (w1.ownsRow base 5 1 (.slice B L.length c) L.length (L.map cellB)) ∧ Hid (w1.heap[g]? = some (.cells #[.slice B L.length c] 55 (0, 0))) ∧ Hid (Fr g w w1) ∧ Hid (base ≤ w1.heap.size) ∧ g < base ∧ w1.cell? ⟨g, 0, none⟩ = some (.slice B L.length c) := by
  obtain ⟨B, c, hblk, hown⟩ := h1.row
  exact ⟨_, B, c, rfl, by show _ ≤ _; rw [List.length_append, be_len]; omega, hown, hblk, h2, h1.le, h1.lt, by simp [World.cell?, hblk]⟩
def textB (l : List UInt8) : List UInt8 := be l.length 4 ++ l
set_option maxHeartbeats 2000000 in
set_option maxRecDepth 100000 in
theorem string (g base : Nat) (l t : List UInt8) (w : World) (hW : Wr w g base l) (ht : t.length < 4294967296) (hl : l.length ≤ 70368744177664) :
    Calls Try.prog 33 #[.pointer (some ⟨g, 0, none⟩), .string (str t)] w fun e w' => e = .returned (.tuple #[]) ∧ Wr w' g base (l ++ textB t) ∧ Fr g w w' := by
  obtain ⟨i0, hi, hz0, hz1, hz2⟩ := info_parts info5
  have HM := Lib.hid (u32 g base l t.length w hW ht hl)
  have hsz : (str t).size = t.length := str_size t
  have hcv : IntKind.u32.wrap (t.length : Int) = (t.length : Int) := by rw [IntKind.wrap_u32]; omega
  clear hW
  go_enter Try.func33, Try.ntmps33
  go_wp2_with (first | (go_at_call 31; refine HM.out.mono ?_; rintro e w1 ⟨rfl, h1, h2⟩; obtain ⟨L, B, c, HL2, HLL, OW, BLK, HF, HBS, hgb, hcell⟩ := string_mid h1 h2 hl; clear h1 h2 HM) | (at_builtin; refine Lib.wpList_append_own_string _ rfl _ _ 22 9 rfl base 5 i0 Try.underlying22 Try.underlying9 hi hz0 hz1 hz2 _ _ _ rfl OW.out (str t) rfl ?qs1 ?qs2 ?qs3 ?_))
  case qs1 => have := HLL.out; rw [hsz]; unfold maxLen; omega
  case qs2 => have := HLL.out; rw [hsz]; omega
  case qs3 => exact HBS.out
  intro v' w2 hown hgrow hnil
  obtain ⟨B', c', rfl⟩ := own_form hown
  have hb2 : w2.heap[g]? = some (.cells #[.slice B L.length c] 55 (0, 0)) := by
    rw [hgrow.block g (by have := HBS.out; omega) (Ne.symm (ne_row OW.out hgb))]
    exact BLK.out
  have hfz : w2.frozen? ⟨g, 0, none⟩ = false := Joins.unfrozen_of_block hb2 0
  have hc2 : w2.cell? ⟨g, 0, none⟩ = some (.slice B L.length c) := by simp [World.cell?, hb2]
  have hle2 : base ≤ w2.heap.size := by have h1 := hgrow.size; have := HBS.out; omega
  have HW2 : Hid (Wr (w2.setCell ⟨g, 0, none⟩ (.slice B' (L.length + t.length) c')) g base (L ++ t)) := by
    have h := Wr.store (l := L ++ t) (c' := c') (B' := B') hb2 hgb hle2 (by rw [List.length_append, List.map_append]; exact hown)
    rw [List.length_append] at h
    exact h
  have HF2 : Hid (Fr g w (w2.setCell ⟨g, 0, none⟩ (.slice B' (L.length + t.length) c'))) := ((HF.out.grown OW.out hgrow hgb HBS.out).store _)
  have HE : Hid (L ++ t = l ++ textB t) := by show _ = _; rw [HL2.out, List.append_assoc]; rfl
  clear hown hgrow hnil hb2 hle2 HF HBS OW BLK hcell
  go_wp2
  go_end0
  exact ⟨rfl, by rw [← HE.out]; exact HW2.out, HF2.out⟩
set_option maxHeartbeats 1000000 in
set_option maxRecDepth 100000 in
/-- What is in a writer: a row of the call's own. -/
theorem bytes (g base : Nat) (l : List UInt8) (w : World) (hW : Wr w g base l) (hl : l.length ≤ 140737488351232) :
    Calls Try.prog 35 #[.pointer (some ⟨g, 0, none⟩)] w fun e w' => ∃ B c, e = .returned (.slice B l.length c) ∧ w'.ownsRow w.heap.size 5 1 (.slice B l.length c) l.length (l.map cellB) ∧ Below w.heap.size w w' := by
  obtain ⟨B, c, hblk, hown⟩ := hW.row
  have hcell : w.cell? ⟨g, 0, none⟩ = some (.slice B l.length c) := by simp [World.cell?, hblk]
  have HM := Lib.hid (clone B c l w (rd_own hown).2.2.2 hl)
  clear hW hblk hown
  go_enter Try.func35, Try.ntmps35
  go_wp2_with (go_at_call 47; refine HM.out.mono ?_; rintro e w1 ⟨B', c', rfl, h1, h2⟩)
  go_ret
  exact ⟨B', c', rfl, h1, h2⟩
set_option maxHeartbeats 1000000 in
set_option maxRecDepth 100000 in
theorem nil_number (a b : Value) (w : World) : Calls Try.prog 50 #[.pointer none, a, b] w fun e w' => e = .returned (.tuple #[]) ∧ w = w' := by
  go_enter Try.func50, Try.ntmps50
  go_wp2
  refine bodyPost_ret (results_none rfl _ _ _) rfl ?_
  exact ⟨rfl, rfl⟩
set_option maxHeartbeats 1000000 in
set_option maxRecDepth 100000 in
theorem nil_i64 (x : Int) (w : World) : Calls Try.prog 32 #[.pointer none, .int .i64 x] w fun e w' => e = .returned (.tuple #[]) ∧ w = w' := by
  go_enter Try.func32, Try.ntmps32
  go_wp2_with (go_at_call 50; refine (nil_number _ _ _).mono ?_; rintro e w1 ⟨rfl, rfl⟩)
  go_end0
  exact ⟨rfl, rfl⟩
set_option maxHeartbeats 1000000 in
set_option maxRecDepth 100000 in
theorem nil_string (s : ByteArray) (w : World) : Calls Try.prog 33 #[.pointer none, .string s] w fun e w' => e = .returned (.tuple #[]) ∧ w = w' := by
  go_enter Try.func33, Try.ntmps33
  go_wp2
  go_end0
  exact ⟨rfl, rfl⟩
set_option maxHeartbeats 1000000 in
set_option maxRecDepth 100000 in
theorem nil_bytes (w : World) : Calls Try.prog 35 #[.pointer none] w fun e w' => e = .returned (.slice none 0 0) ∧ w = w' := by
  go_enter Try.func35, Try.ntmps35
  go_wp2
  go_ret
  exact ⟨rfl, rfl⟩
end Go.Proofs.Ytdojhdglbajinaa.Writer
