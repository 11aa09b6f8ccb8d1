/- DERIVED. Contracts of package blob's functions: Clone, Lower, Kind, New, Len, place, Slice, Bytes. -/
import Derived.Test.YtmfhkgfgphdliaaProg
import Derived.Test.YtmfhkgfgphdliaaMem
import Derived.Outline
import Derived.WalkSpells
import Derived.WalkLawsBesides
import Derived.Lib.SliceRun
import Derived.OwnWalk
import Derived.IntWalk
import Derived.KernelRfl
namespace Go.Proofs.Ytmfhkgfgphdliaa.Fns
open Go.RowKit Go.Proofs.Ytmfhkgfgphdliaa.Mem
set_option linter.unusedVariables false
set_option linter.unusedSimpArgs false

theorem info5 : (Try.prog.info? 5).map (fun i => (i.zero, i.size, i.bytes)) = some (some (.int .u8 0), 1, 1) := by kernel_rfl

set_option maxHeartbeats 1000000 in
/-- slices.Clone: a row of the call's own, of the same bytes (nil of nil). -/
theorem clone (A : Option Addr) (c : Nat) (l : List UInt8) (w : World) (h : Rd w A l) (hl : l.length ≤ 140737488351232) :
    Calls Try.prog 17 #[.slice A l.length c] w fun e w' => ∃ B c', e = .returned (.slice B l.length c') ∧ w'.ownsRow w.heap.size 5 1 (.slice B l.length c') l.length (l.map cellB) ∧ Below w.heap.size w w' := by
  obtain ⟨i0, hi, hz0, hz1, hz2⟩ := info_parts info5
  have q22 : ∀ (w : World) (a : Option Addr) (n c n' c' : Nat), (binOp .eql 22 (.slice a n c) (.slice none n' c')).run Try.prog w = .ok (.bool a.isNone) w := fun w a n c n' c' => Lib.run_eql_slice_nil w _ _ a n c n' c' Try.underlying22
  rcases A with _ | ad
  · have h0 : l = [] := by
      rcases Nat.eq_zero_or_pos l.length with h0 | h0
      · exact List.eq_nil_of_length_eq_zero h0
      · obtain ⟨ad, h', _⟩ := h.2 h0
        cases h'
    subst h0
    go_enter Try.func17, Try.ntmps17
    go_wp2
    go_ret
    exact ⟨none, 0, rfl, World.ownsRow_nil _ _ _ _, Below.refl _ _⟩
  · have HC := Lib.hid h
    clear h
    go_enter Try.func17, Try.ntmps17
    go_wp2_with (at_builtin; refine wpList_append_own _ rfl _ _ 22 rfl w.heap.size 5 i0 (.int .u8 0) 1 1 Try.underlying22 hi hz0 hz1 hz2 rfl (by decide) _ _ _ rfl (World.ownsRow_made w #[] 0 (Nat.le_refl _) (Nat.zero_le _) (by simp)) ad l.length c (l.map cellB) rfl ?qc1 ?qc2 ?qc3 ?qc4 ?qc5 ?qc6 ?_)
    case qc1 => simp
    case qc2 =>
      intro j u hj
      have hj0 : 0 < l.length := by
        rcases Nat.eq_zero_or_pos l.length with h0 | h0
        · rw [List.eq_nil_of_length_eq_zero h0] at hj; simp at hj
        · exact h0
      obtain ⟨ad', e, hc⟩ := HC.out.2 hj0
      injection e with e
      subst e
      rw [List.getElem?_map] at hj
      obtain ⟨x, hx, rfl⟩ := Option.map_eq_some_iff.1 hj
      exact Lib.cell?_alloc_some _ (hc j x hx)
    case qc3 => exact map_cellB_one l
    case qc4 => rw [Nat.zero_add]; unfold maxLen; omega
    case qc5 => rw [Nat.zero_add]; omega
    case qc6 => simp
    intro v' w1 hown hgrow hnil
    go_wp2
    go_ret
    have hown2 : w1.ownsRow w.heap.size 5 1 v' l.length (l.map cellB) := by simpa using hown
    obtain ⟨B, c', hv⟩ := own_form hown2
    refine ⟨B, c', by rw [← hv]; rfl, by rw [← hv]; exact hown2, ?_⟩
    exact ((Below.refl _ w).alloc (Nat.le_refl _) _).grown hgrow (by simp) (by intro k hk; simp [Value.ownBlock] at hk; omega)

/-- A letter, small. -/
def lowB (u : UInt8) : UInt8 := if 65 ≤ u.toNat ∧ u.toNat ≤ 90 then UInt8.ofNat (u.toNat + 32) else u
def low (s : ByteArray) : ByteArray := str (s.data.toList.map lowB)
def sbyte (s : ByteArray) (j : Nat) : UInt8 := s.data.toList.getD j 0

/-- What the block of the call's own holds behind k rounds. -/
def Half (w : World) (B : Nat) (s : ByteArray) (k : Nat) : Prop :=
  ∀ j, j < s.size → w.cell? ⟨B, j, none⟩ = some (cellB (if j < k then lowB (sbyte s j) else sbyte s j)) ∧ w.frozen? ⟨B, j, none⟩ = false
theorem half_start (w : World) (s : ByteArray) : Half (Lib.bytesWorld w 5 s) w.heap.size s 0 := by
  intro j hj
  refine ⟨by rw [Lib.bytesWorld_cell w 5 s j hj]; rfl, ?_⟩
  have hsz : (Lib.bytesCells w 5 s).size = s.size + (grownCap w s.size 0 5 - s.size) := by simp [Lib.bytesCells]
  simp [World.frozen?, Lib.bytesWorld_at_new]
  omega
theorem half_keep {w : World} {B : Nat} {s : ByteArray} {k : Nat} (h : Half w B s k) (hk : k < s.size) (hsm : lowB (sbyte s k) = sbyte s k) : Half w B s (k + 1) := by
  intro j hj
  refine ⟨?_, (h j hj).2⟩
  rw [(h j hj).1]
  by_cases hjk : j < k
  · rw [if_pos hjk, if_pos (by omega)]
  · rw [if_neg hjk]
    by_cases hj1 : j < k + 1
    · rw [if_pos hj1, show j = k by omega, hsm]
    · rw [if_neg hj1]
theorem half_set {w : World} {B : Nat} {s : ByteArray} {k : Nat} (h : Half w B s k) (hk : k < s.size) {x : Value} (hx : x = cellB (lowB (sbyte s k))) : Half (w.setCell ⟨B, k, none⟩ x) B s (k + 1) := by
  subst hx
  intro j hj
  have hfr : (w.setCell ⟨B, k, none⟩ (cellB (lowB (sbyte s k)))).frozen? ⟨B, j, none⟩ = w.frozen? ⟨B, j, none⟩ := by simp
  rw [hfr]
  refine ⟨?_, (h j hj).2⟩
  by_cases hjk : j = k
  · subst hjk
    rw [if_pos (by omega)]
    exact World.cell?_setCell_same w _ _ (h j hj).1
  · rw [World.cell?_setCell_other w _ _ _ (by simp only [ne_eq, Addr.mk.injEq]; omega), (h j hj).1]
    by_cases h1 : j < k
    · rw [if_pos h1, if_pos (by omega)]
    · rw [if_neg h1, if_neg (by omega)]
theorem half_done {w : World} {B : Nat} {s : ByteArray} {k : Nat} (h : Half w B s k) (hk : s.size ≤ k) (hs : s.size ≤ 140737488351232) : Rd w (some ⟨B, 0, none⟩) (s.data.toList.map lowB) := by
  have hl : s.data.toList.length = s.size := by rw [Array.length_toList]; rfl
  refine ⟨by rw [List.length_map]; omega, fun _ => ⟨_, rfl, fun j u hj => ?_⟩⟩
  rw [List.getElem?_map] at hj
  obtain ⟨x, hx, rfl⟩ := Option.map_eq_some_iff.1 hj
  have hj' : j < s.data.toList.length := (List.getElem?_eq_some_iff.1 hx).1
  rw [Addr.add_lit, Nat.zero_add, (h j (by omega)).1, if_pos (by omega)]
  have : sbyte s j = x := by simp [sbyte, List.getD_eq_getElem?_getD, hx]
  rw [this]
theorem low_cell {n : Nat} {x : UInt8} (h : n = x.toNat) (hu : (65 ≤ n ∧ n ≤ 90) ∨ False) : (Value.int .u8 ((n : Int) + 97 - 65)) = cellB (lowB x) := by
  subst h
  have hu' := hu.elim id False.elim
  unfold lowB cellB
  rw [if_pos hu']
  have : (UInt8.ofNat (x.toNat + 32)).toNat = x.toNat + 32 := by rw [UInt8.toNat_ofNat']; omega
  rw [this]
  congr 1
  omega
theorem low_same {n : Nat} {x : UInt8} (h : n = x.toNat) (hu : ¬ (65 ≤ n ∧ n ≤ 90)) : lowB x = x := by
  subst h
  unfold lowB
  rw [if_neg hu]
set_option maxHeartbeats 2000000 in
theorem lower (s : ByteArray) (w : World) (hs : s.size ≤ 140737488351232) :
    Calls Try.prog 20 #[.string s] w fun e w' => e = .returned (.string (low s)) ∧ Below w.heap.size w w' := by
  have kb := fun W => Lib.run_convert_string_bytes (P := Try.prog) W 9 22 5 s Try.underlying9 Try.underlying22 Try.underlying5
  have hst := Lib.hid (half_start w s)
  have hb0 := Lib.hid (below_bytes (Below.refl w.heap.size w) (Nat.le_refl _) 5 s)
  have hsz0 : (Lib.bytesWorld w 5 s).heap.size = w.heap.size + 1 := Lib.bytesWorld_size w 5 s
  have HSZ := Lib.hid hsz0
  clear hsz0
  go_enter Try.func20, Try.ntmps20
  go_wp2
  go_loopw [10] (fun i wr => ∃ k : Nat, k ≤ s.size ∧ i = .int .i64 k ∧ Half wr w.heap.size s k ∧ Below w.heap.size w wr ∧ w.heap.size < wr.heap.size) (fun i _ => s.size - (intOf i).toNat)
  case atStart => exact ⟨0, Nat.zero_le _, rfl, hst.out, hb0.out, by rw [HSZ.out]; omega⟩
  case round =>
    obtain ⟨k, hk, rfl, hH, hB, hS⟩ := hrel
    by_cases hlt : k < s.size
    · have hc := (hH k hlt).1
      have hf := (hH k hlt).2
      rw [if_neg (Nat.lt_irrefl k)] at hc
      obtain ⟨n, hn⟩ : ∃ n : Nat, n = (sbyte s k).toNat := ⟨_, rfl⟩
      have hc' : wr.cell? ⟨w.heap.size, k, none⟩ = some (.int .u8 (n : Int)) := by rw [hc, hn]; rfl
      have hn256 : n < 256 := by rw [hn]; exact (sbyte s k).toNat_lt
      have HN := Lib.hid hn
      have HH := Lib.hid hH
      have HB := Lib.hid hB
      clear hst hb0 kb hH hB hc hn
      by_cases hU : 65 ≤ n ∧ n ≤ 90
      · obtain ⟨h1, h2⟩ := hU
        go_wp2
        go_roundw
        case rel =>
          refine ⟨k + 1, by omega, by go_num, half_set HH.out hlt ?_, HB.out.setCell (by simp) _, by simpa [World.setCell] using hS⟩
          exact low_cell HN.out (Or.inl ⟨h1, h2⟩)
        case measure => simp [intOf]; omega
      · by_cases h1 : 65 ≤ n
        · have h2 : ¬ n ≤ 90 := by omega
          clear hU
          go_wp2
          go_roundw
          case rel => exact ⟨k + 1, by omega, by go_num, half_keep HH.out hlt (low_same HN.out (by omega)), HB.out, hS⟩
          case measure => simp [intOf]; omega
        · clear hU
          go_wp2
          go_roundw
          case rel => exact ⟨k + 1, by omega, by go_num, half_keep HH.out hlt (low_same HN.out (by omega)), HB.out, hS⟩
          case measure => simp [intOf]; omega
    · have hd := half_done hH (by omega) hs
      have hcv := run_string (P := Try.prog) (src := 22) (dst := 9) (c := grownCap w s.size 0 5) Try.underlying22 Try.underlying5 Try.underlying9 hd
      rw [List.length_map, show s.data.toList.length = s.size from by rw [Array.length_toList]; rfl] at hcv
      have HB := Lib.hid hB
      clear hd hH hst hb0 kb hB
      go_wp2
      go_ret
      exact ⟨rfl, HB.out⟩

/-- The kind that a text is. -/
def good (u : UInt8) : Bool := decide (32 ≤ u.toNat ∧ u.toNat ≤ 126)
def kindS (s : ByteArray) : ByteArray := if s.data.toList.all good then low s else ⟨#[]⟩
theorem good_at (s : ByteArray) (k : Nat) (h : k < s.size) : s.data.toList[k]? = some (sbyte s k) := by
  have hl : s.data.toList.length = s.size := by rw [Array.length_toList]; rfl
  unfold sbyte
  rw [List.getD_eq_getElem?_getD, List.getElem?_eq_getElem (by omega)]; rfl
theorem kind_bad {s : ByteArray} {k : Nat} (h : k < s.size) (hb : good (sbyte s k) = false) : kindS s = ⟨#[]⟩ := by
  unfold kindS
  rw [if_neg]
  intro hall
  have := List.all_eq_true.1 hall _ (List.mem_of_getElem? (good_at s k h))
  rw [hb] at this; cases this
theorem kind_good {s : ByteArray} (h : ∀ j, j < s.size → good (sbyte s j) = true) : kindS s = low s := by
  have hl : s.data.toList.length = s.size := by rw [Array.length_toList]; rfl
  unfold kindS
  rw [if_pos]
  rw [List.all_eq_true]
  intro x hx
  obtain ⟨j, hj, rfl⟩ := List.getElem_of_mem hx
  have := h j (by omega)
  rwa [show sbyte s j = s.data.toList[j] from by unfold sbyte; rw [List.getD_eq_getElem?_getD, List.getElem?_eq_getElem hj]; rfl] at this
theorem str_byte {s : ByteArray} {k : Nat} (h : k < s.size) : s[k] = sbyte s k := by
  have hl : s.data.toList.length = s.size := by rw [Array.length_toList]; rfl
  unfold sbyte
  rw [List.getD_eq_getElem?_getD, List.getElem?_eq_getElem (by omega)]
  simp
  rfl

set_option maxHeartbeats 1000000 in
/-- blob.Kind. -/
theorem kindF (s : ByteArray) (w : World) (hs : s.size ≤ 140737488351232) :
    Calls Try.prog 16 #[.string s] w fun e w' => e = .returned (.string (kindS s)) ∧ Below w.heap.size w w' := by
  go_enter Try.func16, Try.ntmps16
  go_wp2
  go_loop [6] (fun i => ∃ k : Nat, k ≤ s.size ∧ i = .int .i64 k ∧ Hid (∀ j, j < k → good (sbyte s j) = true)) (fun i => s.size - (intOf i).toNat)
  case atStart => exact ⟨0, Nat.zero_le _, rfl, fun j hj => absurd hj (Nat.not_lt_zero _)⟩
  case round =>
    obtain ⟨k, hk, rfl, hG⟩ := hrel
    by_cases hlt : k < s.size
    · obtain ⟨n, hn⟩ : ∃ n : Nat, n = (sbyte s k).toNat := ⟨_, rfl⟩
      have hn2 : s[k].toNat = n := by rw [str_byte hlt, hn]
      have hn256 : n < 256 := by rw [hn]; exact (sbyte s k).toNat_lt
      have HN := Lib.hid hn
      clear hn
      by_cases h1 : n < 32
      · have hz := Lib.hid (kind_bad hlt (show good (sbyte s k) = false by unfold good; rw [← HN.out]; simp; omega))
        go_wp2
        go_ret
        exact ⟨by rw [hz.out]; rfl, Below.refl _ _⟩
      · by_cases h2 : n ≤ 126
        · go_wp2
          go_round
          case rel =>
            refine ⟨k + 1, by omega, by go_num, fun j hj => ?_⟩
            by_cases hj1 : j < k
            · exact hG.out j hj1
            · rw [show j = k by omega]; unfold good; rw [← HN.out]; simp; omega
          case measure => simp [intOf]; omega
        · have hz := Lib.hid (kind_bad hlt (show good (sbyte s k) = false by unfold good; rw [← HN.out]; simp; omega))
          go_wp2
          go_ret
          exact ⟨by rw [hz.out]; rfl, Below.refl _ _⟩
    · have hz := Lib.hid (kind_good (fun j hj => hG.out j (by omega)))
      go_wp2_with (go_at_call 20; refine (lower s _ hs).mono ?_; rintro e w1 ⟨rfl, hb⟩)
      go_ret
      exact ⟨by rw [hz.out]; rfl, by assumption⟩

/-- A blob: its box at block g, its row from base on. -/
structure IsBlob (w : World) (base g : Nat) (l : List UInt8) (k : ByteArray) : Prop where
  low : base ≤ g
  row : ∃ v, w.heap[g]? = some (.cells #[v, .string k] 41 (0, 0)) ∧ w.ownsRow base 5 1 v l.length (l.map cellB)
theorem IsBlob.move {w w' : World} {base g : Nat} {l : List UInt8} {k : ByteArray} (h : IsBlob w base g l k) (hm : ∀ i, base ≤ i → i < w.heap.size → w'.heap[i]? = w.heap[i]?) : IsBlob w' base g l k := by
  obtain ⟨v, hb, hr⟩ := h.row
  refine ⟨h.low, v, (hm g h.low (Array.getElem?_eq_some_iff.1 hb).1).trans hb, hr.1, ?_⟩
  rcases hr.2 with h0 | ⟨r, cap, cur, hv, hbr, hg, rest⟩
  · exact Or.inl h0
  · exact Or.inr ⟨r, cap, cur, hv, hbr, (hm r hbr (Array.getElem?_eq_some_iff.1 hg).1).trans hg, rest⟩
theorem IsBlob.below {w w' : World} {base g : Nat} {l : List UInt8} {k : ByteArray} (h : IsBlob w base g l k) (hb : Below w.heap.size w w') : IsBlob w' base g l k := h.move fun i _ hi => hb.block i hi
/-- What a walk reads. -/
theorem IsBlob.reads {w : World} {base g : Nat} {l : List UInt8} {k : ByteArray} (h : IsBlob w base g l k) : ∃ A c, w.cell? ⟨g, 0, none⟩ = some (.slice A l.length c) ∧ w.cell? ⟨g, 1, none⟩ = some (.string k) ∧ l.length ≤ c ∧ c ≤ maxLen ∧ Rd w A l ∧ g < w.heap.size := by
  obtain ⟨v, hb, hr⟩ := h.row
  obtain ⟨A, c, rfl⟩ := own_form hr
  obtain ⟨_, h1, h2, h3⟩ := rd_own hr
  refine ⟨A, c, ?_, ?_, h1, h2, h3, (Array.getElem?_eq_some_iff.1 hb).1⟩ <;> simp [World.cell?, hb]

set_option maxHeartbeats 1000000 in
theorem new (A : Option Addr) (c : Nat) (l : List UInt8) (s : ByteArray) (w : World) (h : Rd w A l) (hl : l.length ≤ 140737488351232) (hs : s.size ≤ 140737488351232) :
    Calls Try.prog 9 #[.slice A l.length c, .string s] w fun e w' => ∃ g, e = .returned (.pointer (some ⟨g, 0, none⟩)) ∧ IsBlob w' w.heap.size g l (kindS s) ∧ Below w.heap.size w w' := by
  have HR := Lib.hid h
  clear h
  go_enter Try.func9, Try.ntmps9
  go_wp2_with fail
  refine (clone A c l w HR.out hl).mono ?_
  rintro e w1 ⟨B, c1, rfl, hown, hb1⟩
  have HO := Lib.hid hown
  have HB1 := Lib.hid hb1
  clear hown hb1 HR
  go_wp2_with fail
  refine (kindF s w1 hs).mono ?_
  rintro e w2 ⟨rfl, hb2⟩
  have HB2 := Lib.hid hb2
  clear hb2
  go_wp2_with fail
  go_ret
  refine ⟨w2.heap.size, rfl, ⟨Nat.le_trans HB1.out.size HB2.out.size, .slice B l.length c1, heap_alloc_new w2 _, ?_⟩, (step2 HB1.out HB1.out.size HB2.out).alloc (Nat.le_trans HB1.out.size HB2.out.size) _⟩
  refine World.ownsRow.alloc ?_ _
  exact own_below HO.out HB2.out

theorem len_nil (w : World) : Calls Try.prog 12 #[.pointer none] w fun e w' => e = .returned (.int .i64 0) ∧ w = w' := by
  go_enter Try.func12, Try.ntmps12
  go_wp2
  go_ret
  exact ⟨rfl, rfl⟩
theorem len {base g : Nat} {l : List UInt8} {k : ByteArray} (w : World) (h : IsBlob w base g l k) : Calls Try.prog 12 #[.pointer (some ⟨g, 0, none⟩)] w fun e w' => e = .returned (.int .i64 l.length) ∧ w = w' := by
  obtain ⟨A, c, c0, c1, hl, hm, hr, hg⟩ := h.reads
  have : (l.length : Int) ≤ 9223372036854775807 := by unfold maxLen at hm; omega
  clear h hr hm
  go_enter Try.func12, Try.ntmps12
  go_wp2
  go_ret
  exact ⟨rfl, rfl⟩
theorem kindM_nil (w : World) : Calls Try.prog 14 #[.pointer none] w fun e w' => e = .returned (.string ⟨#[]⟩) ∧ w = w' := by
  go_enter Try.func14, Try.ntmps14
  go_wp2
  go_ret
  exact ⟨rfl, rfl⟩
theorem kindM {base g : Nat} {l : List UInt8} {k : ByteArray} (w : World) (h : IsBlob w base g l k) : Calls Try.prog 14 #[.pointer (some ⟨g, 0, none⟩)] w fun e w' => e = .returned (.string k) ∧ w = w' := by
  obtain ⟨A, c, c0, c1, hl, hm, hr, hg⟩ := h.reads
  clear h hr hm
  go_enter Try.func14, Try.ntmps14
  go_wp2
  go_ret
  exact ⟨rfl, rfl⟩
theorem bytes_nil (w : World) : Calls Try.prog 11 #[.pointer none] w fun e w' => e = .returned (.slice none 0 0) ∧ w = w' := by
  go_enter Try.func11, Try.ntmps11
  go_wp2
  go_ret
  exact ⟨rfl, rfl⟩
theorem bytes {base g : Nat} {l : List UInt8} {k : ByteArray} (w : World) (h : IsBlob w base g l k) (hl : l.length ≤ 140737488351232) : Calls Try.prog 11 #[.pointer (some ⟨g, 0, none⟩)] w fun e w' =>
    ∃ B c', e = .returned (.slice B l.length c') ∧ w'.ownsRow w.heap.size 5 1 (.slice B l.length c') l.length (l.map cellB) ∧ Below w.heap.size w w' := by
  obtain ⟨A, c, c0, c1, hlc, hm, hr, hg⟩ := h.reads
  have HR := Lib.hid hr
  clear h hr hm
  go_enter Try.func11, Try.ntmps11
  go_wp2_with fail
  refine (clone A c l w HR.out hl).mono ?_
  rintro e w1 ⟨B, c1, rfl, hown, hb1⟩
  have HO := Lib.hid hown
  have HB1 := Lib.hid hb1
  clear hown hb1 HR
  go_wp2_with fail
  go_ret
  exact ⟨B, c1, rfl, HO.out, HB1.out⟩
theorem slice_nil (w : World) (a b : Option Addr) (s : ByteArray) : Calls Try.prog 10 #[.pointer none, .pointer a, .pointer b, .string s] w fun e w' => e = .returned (.pointer none) ∧ w = w' := by
  go_enter Try.func10, Try.ntmps10
  go_wp2
  go_ret
  exact ⟨rfl, rfl⟩

/-- Where a slice begins, or ends. -/
def placeI (n : Int) : Option Int → Int → Int
  | none, d => d
  | some x, _ => if x < 0 then (if n + x < 0 then 0 else n + x) else if x < n then x else n
/-- A place that is there, or not: a pointer to a number. -/
def IsPlace (w : World) (p : Option Addr) (o : Option Int) : Prop :=
  (p = none ∧ o = none) ∨ ∃ a x, p = some a ∧ o = some x ∧ w.cell? a = some (.int .i64 x) ∧ -9223372036854775808 ≤ x ∧ x ≤ 9223372036854775807
theorem IsPlace.below {w w' : World} {p : Option Addr} {o : Option Int} (h : IsPlace w p o) (hb : Below w.heap.size w w') : IsPlace w' p o := by
  rcases h with h | ⟨a, x, h1, h2, h3, h4⟩
  · exact Or.inl h
  · exact Or.inr ⟨a, x, h1, h2, by rw [hb.cell (World.block_lt_of_cell? w _ h3)]; exact h3, h4⟩
set_option maxHeartbeats 1000000 in
theorem place {base g : Nat} {l : List UInt8} {k : ByteArray} (w : World) (h : IsBlob w base g l k) (hl : l.length ≤ 140737488351232) (p : Option Addr) (o : Option Int) (hp : IsPlace w p o) (d : Int) :
    Calls Try.prog 18 #[.pointer (some ⟨g, 0, none⟩), .pointer p, .int .i64 d] w fun e w' => e = .returned (.int .i64 (placeI l.length o d)) ∧ w = w' := by
  have HL := Lib.hid (len w h)
  clear h
  rcases hp with ⟨rfl, rfl⟩ | ⟨a, x, rfl, rfl, hc, h1, h2⟩
  · go_enter Try.func18, Try.ntmps18
    go_wp2_with fail
    refine HL.out.mono ?_
    rintro e w1 ⟨rfl, rfl⟩
    clear HL
    go_wp2_with fail
    go_ret
    exact ⟨rfl, rfl⟩
  · by_cases hx : x < 0
    · by_cases hn : (l.length : Int) + x < 0
      · have hp : Hid (placeI l.length (some x) d = 0) := by show placeI l.length (some x) d = 0; simp [placeI, hx, hn]
        go_enter Try.func18, Try.ntmps18
        go_wp2_with fail
        refine HL.out.mono ?_
        rintro e w1 ⟨rfl, rfl⟩
        clear HL
        go_wp2_with fail
        go_ret
        exact ⟨by rw [hp.out]; rfl, rfl⟩
      · have hp : Hid (placeI l.length (some x) d = l.length + x) := by show placeI l.length (some x) d = _; simp [placeI, hx, hn]
        go_enter Try.func18, Try.ntmps18
        go_wp2_with fail
        refine HL.out.mono ?_
        rintro e w1 ⟨rfl, rfl⟩
        clear HL
        go_wp2_with fail
        go_ret
        exact ⟨by rw [hp.out]; rfl, rfl⟩
    · by_cases hn : x < (l.length : Int)
      · have hp : Hid (placeI l.length (some x) d = x) := by show placeI l.length (some x) d = _; simp [placeI, hx, hn]
        go_enter Try.func18, Try.ntmps18
        go_wp2_with fail
        refine HL.out.mono ?_
        rintro e w1 ⟨rfl, rfl⟩
        clear HL
        go_wp2_with fail
        go_ret
        exact ⟨by rw [hp.out]; rfl, rfl⟩
      · have hp : Hid (placeI l.length (some x) d = l.length) := by show placeI l.length (some x) d = _; simp [placeI, hx, hn]
        go_enter Try.func18, Try.ntmps18
        go_wp2_with fail
        refine HL.out.mono ?_
        rintro e w1 ⟨rfl, rfl⟩
        clear HL
        go_wp2_with fail
        all_goals go_ret
        all_goals exact ⟨by rw [hp.out]; first | rfl | (show Ending.returned (Value.int .i64 _) = _; congr 2; omega), rfl⟩

theorem placeI_bd (n : Nat) (o : Option Int) (d : Int) (h0 : 0 ≤ d) (h1 : d ≤ n) : 0 ≤ placeI n o d ∧ placeI n o d ≤ n := by
  unfold placeI
  cases o with
  | none => exact ⟨h0, h1⟩
  | some x => simp only; split <;> split <;> omega
/-- The part that a slice is. -/
def portion (l : List UInt8) (f t : Option Int) : List UInt8 :=
  (l.take (max (placeI l.length f 0) (placeI l.length t l.length)).toNat).drop (placeI l.length f 0).toNat
theorem portion_len (l : List UInt8) (f t : Option Int) : (portion l f t).length ≤ l.length := by
  unfold portion; rw [List.length_drop, List.length_take]; omega

theorem info5s : ∃ i, Try.prog.info? 5 = some i ∧ i.size = 1 := by
  obtain ⟨i0, hi, hz0, hz1, hz2⟩ := info_parts info5
  exact ⟨i0, hi, hz1⟩
set_option maxHeartbeats 1000000 in
theorem slice {base g : Nat} {l : List UInt8} {k : ByteArray} (w : World) (h : IsBlob w base g l k) (hl : l.length ≤ 140737488351232) (pf pt : Option Addr) (f t : Option Int) (hf : IsPlace w pf f) (ht : IsPlace w pt t) (s : ByteArray) (hs : s.size ≤ 140737488351232) :
    Calls Try.prog 10 #[.pointer (some ⟨g, 0, none⟩), .pointer pf, .pointer pt, .string s] w fun e w' => ∃ g', e = .returned (.pointer (some ⟨g', 0, none⟩)) ∧ IsBlob w' w.heap.size g' (portion l f t) (kindS s) ∧ Below w.heap.size w w' := by
  have P1 := Lib.hid (place w h hl pf f hf 0)
  have P2 := Lib.hid (len w h)
  have P3 := Lib.hid (place w h hl pt t ht l.length)
  obtain ⟨A, c, c0, c1, hlc, hm, hr, hg⟩ := h.reads
  have HR := Lib.hid hr
  obtain ⟨a0, a1⟩ := placeI_bd l.length f 0 (by omega) (by omega)
  obtain ⟨b0, b1⟩ := placeI_bd l.length t l.length (by omega) (by omega)
  have hpart := portion_len l f t
  have hpd : Hid (portion l f t = (l.take (max (placeI l.length f 0) (placeI l.length t l.length)).toNat).drop (placeI l.length f 0).toNat) := rfl
  obtain ⟨i0, hi, hz1⟩ := info5s
  generalize placeI l.length f 0 = x at *
  generalize placeI l.length t l.length = y at *
  obtain ⟨A', hcut, hA, hlen⟩ := mid (P := Try.prog) 22 5 .i64 .i64 Try.underlying22 hi hz1 A c l x (max x y) a0 (by omega) (by omega) hlc
  rw [← hpd.out] at hcut hA hlen
  have HA := Lib.hid (hA w HR.out)
  clear h hm hr hi hA HR
  by_cases hxy : x < y
  · have hmx : max x y = y := by omega
    rw [hmx] at hcut
    clear hmx hpd
    go_enter Try.func10, Try.ntmps10
    go_wp2_with fail
    refine P1.out.mono ?_
    rintro e w1 ⟨rfl, rfl⟩
    go_wp2_with fail
    refine P2.out.mono ?_
    rintro e w1 ⟨rfl, rfl⟩
    go_wp2_with fail
    refine P3.out.mono ?_
    rintro e w1 ⟨rfl, rfl⟩
    clear P1 P2 P3
    go_wp2_with (refine wpList_mid (o := ⟨some 29, _, _, _, _, _⟩) rfl 22 _ _ _ rfl Try.underlying22 rfl rfl rfl (hcut _) ?_)
    refine (new A' _ (portion l f t) s w HA.out (by omega) hs).mono ?_
    rintro e w1 ⟨g', rfl, hb, hbl⟩
    have HBL := Lib.hid hb
    have HBB := Lib.hid hbl
    clear hb hbl hcut
    go_wp2_with fail
    go_ret
    exact ⟨g', rfl, HBL.out, HBB.out⟩
  · have hmx : max x y = x := by omega
    rw [hmx] at hcut
    clear hmx hpd
    go_enter Try.func10, Try.ntmps10
    go_wp2_with fail
    refine P1.out.mono ?_
    rintro e w1 ⟨rfl, rfl⟩
    go_wp2_with fail
    refine P2.out.mono ?_
    rintro e w1 ⟨rfl, rfl⟩
    go_wp2_with fail
    refine P3.out.mono ?_
    rintro e w1 ⟨rfl, rfl⟩
    clear P1 P2 P3
    go_wp2_with (refine wpList_mid (o := ⟨some 29, _, _, _, _, _⟩) rfl 22 _ _ _ rfl Try.underlying22 rfl rfl rfl (hcut _) ?_)
    refine (new A' _ (portion l f t) s w HA.out (by omega) hs).mono ?_
    rintro e w1 ⟨g', rfl, hb, hbl⟩
    have HBL := Lib.hid hb
    have HBB := Lib.hid hbl
    clear hb hbl hcut
    go_wp2_with fail
    go_ret
    exact ⟨g', rfl, HBL.out, HBB.out⟩
end Go.Proofs.Ytmfhkgfgphdliaa.Fns
