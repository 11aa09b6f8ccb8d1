/- DERIVED. carryalllaw28.Few. -/
import Derived.Test.YtdojhdglbajinaaScrOp
import Derived.BigQuiet
import Derived.Deep.QuietTactic
namespace Go.Proofs.Ytdojhdglbajinaa.ScrFew
open Go.RowKit Go.Proofs.Ytdojhdglbajinaa.Mem Go.Proofs.Ytdojhdglbajinaa.Writer Go.Proofs.Ytdojhdglbajinaa.Reader Go.Proofs.Ytdojhdglbajinaa.Enc Go.Proofs.Ytdojhdglbajinaa.Plain Go.Proofs.Ytdojhdglbajinaa.ScrOp
set_option linter.unusedVariables false
set_option linter.unusedSimpArgs false

def fewB (os : List OpV) : Bool := decide (os.length ≤ 30) && os.all fun o => decide (texts o ≤ 1000)
theorem fewB_iff (os : List OpV) : fewB os = true ↔ os.length ≤ 30 ∧ ∀ o ∈ os, texts o ≤ 1000 := by simp [fewB]
set_option maxHeartbeats 1000000 in
set_option maxRecDepth 100000 in
theorem few (A : Option Addr) (c : Nat) (os : List OpV) (w : World) (h : RdO w A os) :
    Calls Try.prog 37 #[.slice A os.length c] w fun e w' => e = .returned (.bool (fewB os)) ∧ Below w.heap.size w w' := by
  have HA := Lib.hid h
  have hln := h.len
  clear h
  go_enter Try.func37, Try.ntmps37
  go_wp2_with fail
  go_loopw [6] (fun i wr => ∃ (k : Nat), k ≤ os.length ∧ i = .int .i64 k ∧ Hid (∀ o ∈ os.take k, texts o ≤ 1000) ∧ Hid (Below w.heap.size w wr)) (fun i _ => os.length - (intOf i).toNat)
  case atStart => exact ⟨0, Nat.zero_le _, rfl, by intro o ho; simp at ho, Below.refl _ _⟩
  case round =>
    obtain ⟨k, hkk, rfl, HK, HB⟩ := hrel
    by_cases hlt : k < os.length
    · obtain ⟨b, f, rfl, hc, hw⟩ := (HA.out.below HB.out).at k hlt
      have hmem := List.getElem_mem hlt
      obtain ⟨o, ho⟩ : ∃ o, o = os[k] := ⟨_, rfl⟩
      rw [← ho] at hc hw hmem
      have HO := Lib.hid ho
      have HMEM := Lib.hid hmem
      clear ho hmem
      obtain ⟨_, _, _, _, _, c5, c6, c7, c8, _, _⟩ := range_cells hc
      have s5 := str_size o.s
      have s6 := str_size o.t
      have s7 := str_size o.sch
      have s8 := str_size o.host
      have l5 := hw.s
      have l6 := hw.t
      have l7 := hw.sch
      have l8 := hw.host
      clear hc hw
      by_cases ht : texts o ≤ 1000
      · have HT := Lib.hid ht
        unfold texts at ht
        go_wp2
        go_quiet (fail)
        go_wp2
        go_roundw
        case rel =>
          refine ⟨k + 1, by omega, by go_num, ?_, Same.dn_below HB.out _⟩
          intro p hp
          rw [List.take_add_one, List.getElem?_eq_getElem hlt, List.mem_append] at hp
          rcases hp with hp | hp
          · exact HK.out p hp
          · simp at hp; subst hp; rw [← HO.out]; exact HT.out
        case measure => simp [intOf]; omega
      · have HT := Lib.hid ht
        unfold texts at ht
        go_wp2
        go_quiet (fail)
        go_wp2
        go_ret
        have hf : fewB os = false := by
          cases hq : fewB os with
          | false => rfl
          | true => exact absurd (((fewB_iff os).1 hq).2 o HMEM.out) HT.out
        exact ⟨by rw [hf]; rfl, Same.dn_below HB.out _⟩
    · obtain rfl : k = os.length := by omega
      go_wp2_with fail
      go_ret
      have hk := HK.out
      rw [List.take_of_length_le (Nat.le_refl _)] at hk
      refine ⟨?_, HB.out⟩
      by_cases hz : os.length ≤ 30
      · rw [(fewB_iff os).2 ⟨hz, hk⟩, decide_eq_true (by omega)]; rfl
      · have hf : fewB os = false := by unfold fewB; rw [decide_eq_false hz]; rfl
        rw [hf, decide_eq_false (by omega)]; rfl
end Go.Proofs.Ytdojhdglbajinaa.ScrFew
