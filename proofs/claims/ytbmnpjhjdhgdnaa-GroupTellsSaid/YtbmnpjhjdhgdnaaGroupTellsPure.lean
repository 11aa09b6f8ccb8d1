/- DERIVED. The pure statement of GroupTells: at whatever type whose texts are within the reach, whatever group, the printed law answers true. -/
import Derived.Test.YtbmnpjhjdhgdnaaGroupTellsIn
namespace Go.Proofs.Ytbmnpjhjdhgdnaa.GroupTellsPure
open Go.RowKit Go.Proofs.Ytbmnpjhjdhgdnaa.PGroupTells Go.Proofs.YtbmnpjhjdhgdnaaW.PrintWords Go.Proofs.YtbmnpjhjdhgdnaaW.PrintLast Go.Proofs.Ytbmnpjhjdhgdnaa.GroupTellsIn
set_option linter.unusedSimpArgs false
set_option linter.unusedVariables false

theorem one_l (l : List ByteArray) (a p : ByteArray) (hn : l.length ≤ 1000) (hp : p.size ≤ 1000) (hl : ∀ x ∈ l, x.size ≤ 1000) (d : Nat) : ∀ (k i : Nat), i + d = l.length → d < k →
    carryallref06_one.l0 k a p l (l.length : Int) (i : Int) = some ((l.drop i).any (fun x => a.toList == p.toList ++ x.toList)) := by
  induction d with
  | zero =>
    intro k i hi hk
    obtain ⟨k, rfl⟩ : ∃ m, k = m + 1 := ⟨k - 1, by omega⟩
    simp only [carryallref06_one.l0]; rw [if_neg (by omega), List.drop_eq_nil_of_le (by omega)]; rfl
  | succ d ih =>
    intro k i hi hk
    obtain ⟨k, rfl⟩ : ∃ m, k = m + 1 := ⟨k - 1, by omega⟩
    have hlt : i < l.length := by omega
    have hd : l.drop i = l[i] :: l.drop (i + 1) := List.drop_eq_getElem_cons hlt
    have hr : rdOf ByteArray.empty l (i : Int) = l[i] := by simp [rdOf, hlt]
    have hw : wrap64 ((i : Int) + 1) = ((i + 1 : Nat) : Int) := by unfold wrap64; omega
    have hs := hl l[i] (List.getElem_mem hlt)
    simp only [carryallref06_one.l0]; rw [if_pos (by omega), if_pos (by omega), if_pos (by omega), hr, if_pos (by omega), toList_app, hd, List.any_cons, hw, ih k (i + 1) (by omega) (by omega)]
    by_cases hc : a.toList = p.toList ++ (l[i]).toList
    · rw [if_pos hc, hc]; simp
    · rw [if_neg hc]; simp [hc]
theorem one (l : List ByteArray) (a p : ByteArray) (hn : l.length ≤ 1000) (hp : p.size ≤ 1000) (hl : l.all (fun x => decide (x.size ≤ 1000)) = true) (k : Nat) (hk : l.length < k) :
    carryallref06_one.f k a p l = some (l.any (fun x => a.toList == p.toList ++ x.toList)) :=
  one_l l a p hn hp (fun x hx => by simpa using List.all_eq_true.1 hl x hx) l.length k 0 (by omega) hk
theorem ends (s x : ByteArray) (hs : s.size ≤ 140737488351232) (hx : x.size ≤ 1000) : carryallref06_ends.f s x = some (endsB s x.toList) := ends_raw s x hs hx

theorem dec_beq (x y : List UInt8) : decide (x = y) = (x == y) := by by_cases h : x = y <;> simp [h]
theorem ref_low (k : Nat) (hk : 18 ≤ k) (g : Int) (hg : g ≠ 7) (t s : ByteArray) (l : List S34) (ht : t.size ≤ 140737488351232) (hs : s.size ≤ 140737488351232) :
    carryallref06_In.f k g t s l = some (inB g t.toList s.toList (endsB s)) := by
  obtain ⟨k, rfl⟩ : ∃ m, k = m + 1 := ⟨k - 1, by omega⟩
  obtain ⟨k, rfl⟩ : ∃ m, k = m + 1 := ⟨k - 1, by omega⟩
  have h1 : (t ++ (⟨#[47]⟩ : ByteArray)).size = t.size + 1 := by rw [ByteArray.size_append]; rfl
  simp only [carryallref06_In.f]
  rw [if_pos (by omega), if_pos (by rw [h1]; omega)]
  have q1 := one [⟨#[48]⟩, ⟨#[49]⟩, ⟨#[50]⟩, ⟨#[51]⟩, ⟨#[52]⟩, ⟨#[53]⟩] s ⟨#[106, 97, 118, 97, 115, 99, 114, 105, 112, 116, 49, 46]⟩ (by decide) (by decide) (by decide) k (by simp; omega)
  have q2 := one [⟨#[106, 115, 99, 114, 105, 112, 116]⟩, ⟨#[108, 105, 118, 101, 115, 99, 114, 105, 112, 116]⟩] s ⟨#[]⟩ (by decide) (by decide) (by decide) k (by simp; omega)
  simp only [carryallref06_In.j0, q1, q2]
  rw [one _ _ _ (by decide) (by decide) (by decide) (k + 1) (by simp; omega), one _ _ _ (by decide) (by decide) (by decide) (k + 1) (by simp; omega), one _ _ _ (by decide) (by decide) (by decide) (k + 1) (by simp; omega), one _ _ _ (by decide) (by decide) (by decide) (k + 1) (by simp; omega), one _ _ _ (by decide) (by decide) (by decide) (k + 1) (by simp; omega), ends _ _ hs (by decide), ends _ _ hs (by decide), ends _ _ hs (by decide)]
  simp only [Option.bind_some, List.any_cons, List.any_nil, Bool.or_false, toList_lit, essL, ite_eq, ess0, ess1, ess2, ess3, ess4, ess5, ess6, ess7, List.cons_append, List.nil_append]
  unfold inB
  by_cases h0 : g = 0
  · subst h0; simp
  by_cases h1 : g = 1
  · subst h1; simp only [ite_true_bool]; simp [Bool.or_assoc]
  by_cases h2 : g = 2
  · subst h2; simp only [ite_true_bool, ite_false_bool]; simp [Bool.or_assoc]
  by_cases h3 : g = 3
  · subst h3; simp only [ite_true_bool, ite_false_bool]; simp
  by_cases h4 : g = 4
  · subst h4; simp only [ite_true_bool, ite_false_bool]; simp [Bool.or_assoc]
  by_cases h5 : g = 5
  · subst h5; simp only [ite_true_bool, ite_false_bool]; simp
  by_cases h6 : g = 6
  · subst h6; simp only [ite_true_bool, ite_false_bool]; simp
  by_cases h8 : g = 8
  · subst h8; simp only [ite_true_bool, ite_false_bool]; simp
  by_cases h9 : g = 9
  · subst h9
    have hx := apptxt t.toList
    simp only [ite_true_bool, ite_false_bool, ite_bool]
    simp only [show ¬ ((9 : Int) = 7) by decide, show ¬ ((9 : Int) = 0) by decide, show ¬ ((9 : Int) = 1) by decide, show ¬ ((9 : Int) = 2) by decide, show ¬ ((9 : Int) = 3) by decide, show ¬ ((9 : Int) = 4) by decide, show ¬ ((9 : Int) = 5) by decide, show ¬ ((9 : Int) = 6) by decide, show ¬ ((9 : Int) = 8) by decide, if_true, if_false]
    generalize (t.toList == ([97, 112, 112, 108, 105, 99, 97, 116, 105, 111, 110] : List UInt8)) = A at *
    generalize (t.toList == ([116, 101, 120, 116] : List UInt8)) = B at *
    generalize (s.toList == ([101, 99, 109, 97, 115, 99, 114, 105, 112, 116] : List UInt8)) = V
    generalize (s.toList == ([106, 97, 118, 97, 115, 99, 114, 105, 112, 116] : List UInt8)) = W
    generalize (s.toList == ([120, 45, 101, 99, 109, 97, 115, 99, 114, 105, 112, 116] : List UInt8)) = X
    generalize (s.toList == ([120, 45, 106, 97, 118, 97, 115, 99, 114, 105, 112, 116] : List UInt8)) = Y
    cases A <;> cases B <;> cases V <;> cases W <;> cases X <;> cases Y <;> first | (simp [Bool.or_assoc] at hx ⊢; done) | (simp [Bool.or_assoc] at hx ⊢; simp only [dec_beq])
  simp [h0, h1, h2, h3, h4, h5, h6, h8, h9, hg]

theorem ref_f (k : Nat) (hk : 20 ≤ k) (g : Int) (t s : ByteArray) (l : List S34) (ht : t.size ≤ 140737488351232) (hs : s.size ≤ 140737488351232) :
    carryallref06_In.f k g t s l = some (inB g t.toList s.toList (endsB s)) := by
  by_cases hg : g = 7
  · subst hg
    obtain ⟨k, rfl⟩ : ∃ m, k = m + 1 := ⟨k - 1, by omega⟩
    have h1 : (t ++ (⟨#[47]⟩ : ByteArray)).size = t.size + 1 := by rw [ByteArray.size_append]; rfl
    simp only [carryallref06_In.f]
    rw [if_pos (by omega), if_pos (by rw [h1]; omega), ref_low k (by omega) 5 (by decide) t s l ht hs, ref_low k (by omega) 6 (by decide) t s l ht hs]
    simp only [Option.bind_some, toList_lit, essL, ite_eq, ess5, if_true]
    rw [show inB 7 t.toList s.toList (endsB s) = (inB 5 t.toList s.toList (endsB s) || inB 6 t.toList s.toList (endsB s) || (t.toList == ([97, 112, 112, 108, 105, 99, 97, 116, 105, 111, 110] : List UInt8) && s.toList == ([112, 100, 102] : List UInt8))) from by simp [inB]]
    generalize inB 5 t.toList s.toList (endsB s) = X
    generalize inB 6 t.toList s.toList (endsB s) = Y
    cases X <;> cases Y <;> simp
  · exact ref_low k (by omega) g hg t s l ht hs

/-- The groups from g on, d of them. -/
def fl (p : Int → Bool) : Nat → Nat → List Int
  | _, 0 => []
  | g, d + 1 => if p (g : Int) then (g : Int) :: fl p (g + 1) d else fl p (g + 1) d
theorem fl_len (p : Int → Bool) (d : Nat) : ∀ g, (fl p g d).length ≤ d := by
  induction d with
  | zero => intro g; simp [fl]
  | succ d ih => intro g; have := ih (g + 1); simp only [fl]; split <;> simp <;> omega
theorem all_l (t s : ByteArray) (l : List S34) (ht : t.size ≤ 140737488351232) (hs : s.size ≤ 140737488351232) (d : Nat) : ∀ (k g : Nat) (acc : List Int), g + d = 10 → d + 20 < k → acc.length ≤ g →
    group_All.l0 k acc (g : Int) t s l = some (acc ++ fl (fun g => inB g t.toList s.toList (endsB s)) g d) := by
  induction d with
  | zero =>
    intro k g acc hg hk _
    obtain ⟨k, rfl⟩ : ∃ m, k = m + 1 := ⟨k - 1, by omega⟩
    simp only [group_All.l0]; rw [if_neg (by omega)]; simp [fl]
  | succ d ih =>
    intro k g acc hg hk ha
    obtain ⟨k, rfl⟩ : ∃ m, k = m + 1 := ⟨k - 1, by omega⟩
    have hw : wrap64 ((g : Int) + 1) = ((g + 1 : Nat) : Int) := by unfold wrap64; omega
    simp only [group_All.l0]; rw [if_pos (by omega), in_f k (by omega) _ t s l ht hs, Option.bind_some, hw]
    simp only [fl]
    by_cases hp : inB (g : Int) t.toList s.toList (endsB s) = true
    · rw [if_pos hp, if_pos hp, if_pos (by omega), ih k (g + 1) _ (by omega) (by omega) (by simp; omega)]; simp
    · rw [if_neg hp, if_neg hp, ih k (g + 1) _ (by omega) (by omega) (by omega)]
theorem all_f (t s : ByteArray) (l : List S34) (ht : t.size ≤ 140737488351232) (hs : s.size ≤ 140737488351232) (k : Nat) (hk : 31 ≤ k) : group_All.f k t s l = some (fl (fun g => inB g t.toList s.toList (endsB s)) 0 10) :=
  all_l t s l ht hs 10 k 0 [] (by omega) (by omega) (by simp)

theorem tells_l (t s : ByteArray) (l : List S34) (n : Int) (ht : t.size ≤ 140737488351232) (hs : s.size ≤ 140737488351232) (d : Nat) : ∀ (k g : Nat) (acc : List Int), g + d = 10 → d + 20 < k → acc.length ≤ g →
    carryalllaw06_GroupTells.l0 k n (acc ++ fl (fun g => inB g t.toList s.toList (endsB s)) g d) (acc.length : Int) (g : Int) t s l = some true := by
  induction d with
  | zero =>
    intro k g acc hg hk _
    obtain ⟨k, rfl⟩ : ∃ m, k = m + 1 := ⟨k - 1, by omega⟩
    simp only [carryalllaw06_GroupTells.l0]; rw [if_neg (by omega), if_pos (by simp [fl]), in_f k (by omega) _ t s l ht hs, ref_f k (by omega) _ t s l ht hs]; simp
  | succ d ih =>
    intro k g acc hg hk ha
    obtain ⟨k, rfl⟩ : ∃ m, k = m + 1 := ⟨k - 1, by omega⟩
    have hw : wrap64 ((g : Int) + 1) = ((g + 1 : Nat) : Int) := by unfold wrap64; omega
    have hw2 : wrap64 ((acc.length : Int) + 1) = ((acc ++ [(g : Int)]).length : Int) := by simp; unfold wrap64; omega
    by_cases hp : inB (g : Int) t.toList s.toList (endsB s) = true
    · have hfl : fl (fun g => inB g t.toList s.toList (endsB s)) g (d + 1) = (g : Int) :: fl (fun g => inB g t.toList s.toList (endsB s)) (g + 1) d := by simp [fl, hp]
      rw [hfl]
      simp only [carryalllaw06_GroupTells.l0]; rw [if_pos (by omega), ref_f k (by omega) _ t s l ht hs, in_f k (by omega) _ t s l ht hs, Option.bind_some, Option.bind_some, hw]
      rw [if_neg (by simp), if_pos hp, if_neg (by simp; omega), if_pos (by omega), if_pos (by simp; omega), if_pos (by simp [rd]), hw2]
      have := ih k (g + 1) (acc ++ [(g : Int)]) (by omega) (by omega) (by simp; omega)
      simpa using this
    · have hfl : fl (fun g => inB g t.toList s.toList (endsB s)) g (d + 1) = fl (fun g => inB g t.toList s.toList (endsB s)) (g + 1) d := by simp [fl, hp]
      rw [hfl]
      simp only [carryalllaw06_GroupTells.l0]; rw [if_pos (by omega), ref_f k (by omega) _ t s l ht hs, in_f k (by omega) _ t s l ht hs, Option.bind_some, Option.bind_some, hw]
      rw [if_neg (by simp), if_neg hp]
      exact ih k (g + 1) acc (by omega) (by omega) (by omega)

theorem pure (t s : ByteArray) (l : List S34) (n : Int) (ht : t.size ≤ 140737488351232) (hs : s.size ≤ 140737488351232) (hl : l.length ≤ 140737488351232) : ∃ k, carryalllaw06_GroupTells.f k t s l n = some true := by
  obtain ⟨b, hb⟩ := few_some t s l hl (l.length + 41) (by omega)
  refine ⟨l.length + 41, ?_⟩
  unfold carryalllaw06_GroupTells.f
  rw [awake_f _ (by omega), Option.bind_some, if_pos rfl, hb, Option.bind_some]
  have hk : l.length + 41 = (l.length + 40) + 1 := by omega
  rw [hk]
  simp only [carryalllaw06_GroupTells.j0]
  cases b
  · rw [if_pos (by rfl), awake_f _ (by omega), Option.bind_some]
  · rw [if_neg (by simp), all_f t s l ht hs _ (by omega), Option.bind_some]
    exact tells_l t s l n ht hs 10 _ 0 [] (by omega) (by omega) (by simp)
end Go.Proofs.Ytbmnpjhjdhgdnaa.GroupTellsPure
