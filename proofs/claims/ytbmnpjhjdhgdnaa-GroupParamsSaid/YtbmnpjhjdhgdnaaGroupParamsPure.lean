/- DERIVED. The pure statement of GroupParams: at whatever type, whatever two lists of parameters, the printed law answers true. -/
import Derived.Test.YtbmnpjhjdhgdnaaGroupParamsIn
namespace Go.Proofs.Ytbmnpjhjdhgdnaa.GroupParamsPure
open Go.RowKit Go.Proofs.Ytbmnpjhjdhgdnaa.PGroupParams Go.Proofs.YtbmnpjhjdhgdnaaW.PrintWords Go.Proofs.YtbmnpjhjdhgdnaaW.PrintLast Go.Proofs.Ytbmnpjhjdhgdnaa.GroupParamsIn
set_option linter.unusedSimpArgs false
set_option linter.unusedVariables false

/-- The groups from g on, d of them. -/
def fl (p : Int → Bool) : Nat → Nat → List Int
  | _, 0 => []
  | g, d + 1 => if p (g : Int) then (g : Int) :: fl p (g + 1) d else fl p (g + 1) d
theorem fl_len (p : Int → Bool) (d : Nat) : ∀ g, (fl p g d).length ≤ d := by
  induction d with
  | zero => intro g; simp [fl]
  | succ d ih => intro g; have := ih (g + 1); simp only [fl]; split <;> simp <;> omega
theorem all_l (t s : ByteArray) (l : List S34) (ht : t.size ≤ 140737488351232) (hs : s.size ≤ 140737488351232) (d : Nat) : ∀ (k g : Nat) (acc : List Int), g + d = 10 → d + 20 < k → acc.length ≤ g →
    group_All.l0 k acc (g : Int) t s l = some (acc ++ fl (fun g => inB g t.toList s.toList (endsB s)) g d) := by
  induction d with
  | zero =>
    intro k g acc hg hk _
    obtain ⟨k, rfl⟩ : ∃ m, k = m + 1 := ⟨k - 1, by omega⟩
    simp only [group_All.l0]; rw [if_neg (by omega)]; simp [fl]
  | succ d ih =>
    intro k g acc hg hk ha
    obtain ⟨k, rfl⟩ : ∃ m, k = m + 1 := ⟨k - 1, by omega⟩
    have hw : wrap64 ((g : Int) + 1) = ((g + 1 : Nat) : Int) := by unfold wrap64; omega
    simp only [group_All.l0]; rw [if_pos (by omega), in_f k (by omega) _ t s l ht hs, Option.bind_some, hw]
    simp only [fl]
    by_cases hp : inB (g : Int) t.toList s.toList (endsB s) = true
    · rw [if_pos hp, if_pos hp, if_pos (by omega), ih k (g + 1) _ (by omega) (by omega) (by simp; omega)]; simp
    · rw [if_neg hp, if_neg hp, ih k (g + 1) _ (by omega) (by omega) (by omega)]
theorem all_f (t s : ByteArray) (l : List S34) (ht : t.size ≤ 140737488351232) (hs : s.size ≤ 140737488351232) (k : Nat) (hk : 31 ≤ k) : group_All.f k t s l = some (fl (fun g => inB g t.toList s.toList (endsB s)) 0 10) :=
  all_l t s l ht hs 10 k 0 [] (by omega) (by omega) (by simp)

theorem same_l (x : List Int) (hx : x.length ≤ 10) (d : Nat) : ∀ (k i : Nat), i + d = x.length → d < k → carryalllaw06_GroupParams.l0 k x x (x.length : Int) (i : Int) = some true := by
  induction d with
  | zero =>
    intro k i hi hk
    obtain ⟨k, rfl⟩ : ∃ m, k = m + 1 := ⟨k - 1, by omega⟩
    simp only [carryalllaw06_GroupParams.l0]; rw [if_neg (by omega)]
  | succ d ih =>
    intro k i hi hk
    obtain ⟨k, rfl⟩ : ∃ m, k = m + 1 := ⟨k - 1, by omega⟩
    have hw : wrap64 ((i : Int) + 1) = ((i + 1 : Nat) : Int) := by unfold wrap64; omega
    simp only [carryalllaw06_GroupParams.l0]; rw [if_pos (by omega), if_pos (by omega), if_pos (by omega), if_pos (by omega), if_pos trivial, hw]
    exact ih k (i + 1) (by omega) (by omega)

theorem pure (t s : ByteArray) (l m : List S34) (ht : t.size ≤ 140737488351232) (hs : s.size ≤ 140737488351232) (hl : l.length ≤ 140737488351232) : ∃ k, carryalllaw06_GroupParams.f k t s l m = some true := by
  obtain ⟨b, hb⟩ := few_some t s l hl (l.length + 41) (by omega)
  refine ⟨l.length + 41, ?_⟩
  have tail : ∀ c, carryalllaw06_GroupParams.j0 (l.length + 41) m c t s l = some true := by
    intro c
    have hk : l.length + 41 = (l.length + 40) + 1 := by omega
    rw [hk]
    simp only [carryalllaw06_GroupParams.j0]
    cases c
    · rw [if_neg (by simp), all_f t s l ht hs _ (by omega), all_f t s m ht hs _ (by omega), Option.bind_some, Option.bind_some, if_pos rfl]
      have h10 := fl_len (fun g => inB g t.toList s.toList (endsB s)) 10 0
      exact same_l _ h10 _ _ 0 (Nat.zero_add _) (by omega)
    · rw [if_pos rfl, awake_f _ (by omega), Option.bind_some]
  unfold carryalllaw06_GroupParams.f
  rw [awake_f _ (by omega), Option.bind_some, if_pos rfl, hb, Option.bind_some]
  cases b
  · rw [if_neg (by simp)]; exact tail true
  · rw [if_pos rfl]; exact tail _
end Go.Proofs.Ytbmnpjhjdhgdnaa.GroupParamsPure
