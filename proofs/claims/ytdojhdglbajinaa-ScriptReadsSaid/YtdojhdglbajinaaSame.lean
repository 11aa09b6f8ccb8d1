/- DERIVED. slices.Equal, answer.Same, few. -/
import Derived.Test.YtdojhdglbajinaaDec
import Derived.BigQuiet
import Derived.Deep.QuietTactic
namespace Go.Proofs.Ytdojhdglbajinaa.Same
open Go.RowKit Go.Proofs.Ytdojhdglbajinaa.Mem Go.Proofs.Ytdojhdglbajinaa.Writer Go.Proofs.Ytdojhdglbajinaa.Reader Go.Proofs.Ytdojhdglbajinaa.Enc
set_option linter.unusedVariables false
set_option linter.unusedSimpArgs false

theorem Rd.at {w : World} {A : Option Addr} {l : List UInt8} (h : Rd w A l) (k : Nat) (hk : k < l.length) : ∃ ad, A = some ad ∧ w.cell? (ad.add k) = some (.int .u8 (l[k].toNat : Int)) := by
  obtain ⟨ad, e, hc⟩ := h.2 (by omega)
  exact ⟨ad, e, hc k _ (List.getElem?_eq_getElem hk)⟩
theorem take_succ {l m : List UInt8} {k : Nat} (h : l.take k = m.take k) (h1 : k < l.length) (h2 : k < m.length) (e : l[k] = m[k]) : l.take (k + 1) = m.take (k + 1) := by
  rw [List.take_add_one, List.take_add_one, List.getElem?_eq_getElem h1, List.getElem?_eq_getElem h2, h, e]
set_option maxHeartbeats 2000000 in
set_option maxRecDepth 100000 in
theorem equal (A B : Option Addr) (c d : Nat) (l m : List UInt8) (w : World) (h1 : Rd w A l) (h2 : Rd w B m) (hl : l.length ≤ 70368744177664) (hm : m.length ≤ 70368744177664) :
    Calls Try.prog 46 #[.slice A l.length c, .slice B m.length d] w fun e w' => e = .returned (.bool (decide (l = m))) ∧ ∃ n, w' = w.drewN n := by
  by_cases hne : l.length = m.length
  · have H1 := Lib.hid h1
    have H2 := Lib.hid h2
    have HNE := Lib.hid hne
    rw [← hne]
    clear h1 h2 hne hm
    go_enter Try.func46, Try.ntmps46
    go_wp2
    go_loopw [13] (fun i wr => ∃ k : Nat, k ≤ l.length ∧ i = .int .i64 k ∧ Hid (l.take k = m.take k) ∧ ∃ n, wr = w.drewN n) (fun i _ => l.length - (intOf i).toNat)
    case atStart => exact ⟨0, Nat.zero_le _, rfl, rfl, 0, rfl⟩
    case round =>
      obtain ⟨k, hk, rfl, HT, q, rfl⟩ := hrel
      by_cases hlt : k < l.length
      · have hlt2 : k < m.length := by have := HNE.out; omega
        obtain ⟨ad, rfl, hc1⟩ := Rd.at H1.out k hlt
        obtain ⟨bd, rfl, hc2⟩ := Rd.at H2.out k hlt2
        obtain ⟨x, hx⟩ : ∃ x : Nat, x = l[k].toNat := ⟨_, rfl⟩
        obtain ⟨y, hy⟩ : ∃ y : Nat, y = m[k].toNat := ⟨_, rfl⟩
        rw [← hx] at hc1
        rw [← hy] at hc2
        have HX := Lib.hid hx
        have HY := Lib.hid hy
        clear hx hy
        by_cases hxy : x = y
        · go_wp2
          go_quiet (fail)
          go_wp2
          go_roundw
          case rel => exact ⟨k + 1, by omega, by go_num, take_succ HT.out hlt hlt2 (by have := HX.out; have := HY.out; exact UInt8.toNat_inj.1 (by omega)), by first | exact ⟨_, rfl⟩ | exact ⟨_, World.drewN_drewN _ _ _⟩⟩
          case measure => simp [intOf]; omega
        · go_wp2
          go_quiet (fail)
          go_wp2
          go_ret
          exact ⟨by rw [decide_eq_false (fun h => hxy (by rw [HX.out, HY.out]; simp only [h]))]; rfl, by first | exact ⟨_, rfl⟩ | exact ⟨_, World.drewN_drewN _ _ _⟩⟩
      · have HE : Hid (l = m) := by have h1 := HT.out; rw [List.take_of_length_le (by omega), List.take_of_length_le (by have := HNE.out; omega)] at h1; exact h1
        go_wp2
        go_ret
        exact ⟨by rw [decide_eq_true HE.out]; rfl, _, rfl⟩
  · go_enter Try.func46, Try.ntmps46
    go_wp2
    go_ret
    refine ⟨by rw [decide_eq_false (fun h => hne (by rw [h]))]; rfl, 0, rfl⟩
theorem dn_below {B : Nat} {a w : World} (h : Below B a w) (n : Nat) : Below B a (w.drewN n) := h.trans ⟨rfl, rfl, rfl, Nat.le_refl _, fun _ _ => rfl⟩
/-- Two answers are the same. -/
def same (a b : Ans) : Bool := decide (a.sort = b.sort ∧ a.status = b.status ∧ a.first = b.first ∧ a.total = b.total ∧ a.kind = b.kind ∧ a.body = b.body)
theorem same_refl (a : Ans) : same a a = true := by simp [same]
theorem same_iff (a b : Ans) : same a b = true ↔ a = b := by
  cases a; cases b; simp [same]
theorem same_no (a b : Ans) (h : ¬ (a.sort = b.sort ∧ a.status = b.status ∧ a.first = b.first ∧ a.total = b.total ∧ str a.kind = str b.kind)) : same a b = false := by
  unfold same; rw [decide_eq_false]; intro h'; exact h ⟨h'.1, h'.2.1, h'.2.2.1, h'.2.2.2.1, by rw [h'.2.2.2.2.1]⟩
set_option maxHeartbeats 4000000 in
set_option maxRecDepth 100000 in
theorem sameC (a b : Ans) (A B : Option Addr) (c d : Nat) (w : World) (h1 : Rd w A a.body) (h2 : Rd w B b.body) (hl : a.body.length ≤ 70368744177664) (hm : b.body.length ≤ 70368744177664) :
    Calls Try.prog 18 #[val a A c, val b B d] w fun e w' => e = .returned (.bool (same a b)) ∧ Below w.heap.size w w' := by
  have H1 := Lib.hid h1
  have H2 := Lib.hid h2
  clear h1 h2
  unfold val
  by_cases e0 : a.sort = b.sort
  rotate_left
  · have HS : Hid (same a b = false) := same_no a b (fun h => e0 h.1)
    go_enter Try.func18, Try.ntmps18
    go_wp2
    go_ret
    exact ⟨by rw [HS.out]; rfl, ((Below.refl _ _).alloc (Nat.le_refl _) _).alloc (by simp) _⟩
  by_cases e1 : a.status = b.status
  rotate_left
  · have HS : Hid (same a b = false) := same_no a b (fun h => e1 h.2.1)
    go_enter Try.func18, Try.ntmps18
    go_wp2
    go_ret
    exact ⟨by rw [HS.out]; rfl, ((Below.refl _ _).alloc (Nat.le_refl _) _).alloc (by simp) _⟩
  by_cases e2 : a.first = b.first
  rotate_left
  · have HS : Hid (same a b = false) := same_no a b (fun h => e2 h.2.2.1)
    go_enter Try.func18, Try.ntmps18
    go_wp2
    go_ret
    exact ⟨by rw [HS.out]; rfl, ((Below.refl _ _).alloc (Nat.le_refl _) _).alloc (by simp) _⟩
  by_cases e3 : a.total = b.total
  rotate_left
  · have HS : Hid (same a b = false) := same_no a b (fun h => e3 h.2.2.2.1)
    go_enter Try.func18, Try.ntmps18
    go_wp2
    go_ret
    exact ⟨by rw [HS.out]; rfl, ((Below.refl _ _).alloc (Nat.le_refl _) _).alloc (by simp) _⟩
  by_cases e4 : (str a.kind).toList = (str b.kind).toList
  rotate_left
  · have HS : Hid (same a b = false) := same_no a b (fun h => e4 (by rw [h.2.2.2.2]))
    go_enter Try.func18, Try.ntmps18
    go_wp2
    go_ret
    exact ⟨by rw [HS.out]; rfl, ((Below.refl _ _).alloc (Nat.le_refl _) _).alloc (by simp) _⟩
  have HS : Hid (same a b = decide (a.body = b.body)) := by
    show same a b = _
    have e5 : a.kind = b.kind := by have := e4; rwa [str_toList, str_toList] at this
    unfold same
    simp [e0, e1, e2, e3, e5]
  go_enter Try.func18, Try.ntmps18
  go_wp2_with (go_at_call 46; refine (equal A B c d _ _ _ (H1.out.below (((Below.refl _ _).alloc (Nat.le_refl _) _).alloc (by simp) _)) (H2.out.below (((Below.refl _ _).alloc (Nat.le_refl _) _).alloc (by simp) _)) hl hm).mono ?_; rintro e w1 ⟨rfl, n, rfl⟩)
  go_ret
  exact ⟨by rw [HS.out]; rfl, dn_below (((Below.refl _ _).alloc (Nat.le_refl _) _).alloc (by simp) _) _⟩

set_option maxHeartbeats 1000000 in
set_option maxRecDepth 100000 in
theorem few (a : Ans) (A : Option Addr) (c : Nat) (w : World) (hk : a.kind.length ≤ 140737488351232) (hl : a.body.length ≤ 140737488351232) :
    Calls Try.prog 13 #[val a A c] w fun e w' => e = .returned (.bool (decide (a.kind.length + a.body.length ≤ 600))) ∧ Below w.heap.size w w' := by
  have hz := str_size a.kind
  unfold val
  go_enter Try.func13, Try.ntmps13
  go_wp2
  go_ret
  refine ⟨?_, (Below.refl _ _).alloc (Nat.le_refl _) _⟩
  show Ending.returned (Value.bool _) = _
  congr 2
  simp
  omega
end Go.Proofs.Ytdojhdglbajinaa.Same
