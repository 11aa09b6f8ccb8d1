/- DERIVED. Plain facts for GroupWithin: what the printed group.In answers. No condition but the sizes of the two texts. -/
import Derived.Lib.Strings
import Derived.Test.YtbmnpjhjdhgdnaaPGroupWithinx2
import Derived.Test.YtbmnpjhjdhgdnaaPGroupWithinx3
namespace Go.Proofs.Ytbmnpjhjdhgdnaa.GroupWithinIn
open Go.RowKit Go.Proofs.Ytbmnpjhjdhgdnaa.PGroupWithin Go.Proofs.YtbmnpjhjdhgdnaaW.PrintWords Go.Proofs.YtbmnpjhjdhgdnaaW.PrintLast
set_option linter.unusedSimpArgs false
set_option linter.unusedVariables false

theorem toList_app (a c : ByteArray) : (a ++ c).toList = a.toList ++ c.toList := by
  rw [ByteArray.toList_eq, ByteArray.toList_eq, ByteArray.toList_eq]
  obtain ⟨a⟩ := a
  obtain ⟨c⟩ := c
  simp
theorem toList_lit (x : Array UInt8) : (⟨x⟩ : ByteArray).toList = x.toList := ByteArray.toList_eq _
theorem size_toList (a : ByteArray) : a.toList.length = a.size := by rw [ByteArray.toList_eq, Array.length_toList]; rfl

/-- One slash on each side: the parts are the same. -/
theorem slash {t s A B L : List UInt8} (hL : L = A ++ 47 :: B) (hA : (47 : UInt8) ∉ A) (hB : (47 : UInt8) ∉ B) : (t ++ 47 :: s == L) = (t == A && s == B) := by
  subst hL
  rw [Bool.eq_iff_iff]
  simp only [beq_iff_eq, Bool.and_eq_true]
  constructor
  · intro h
    rcases List.append_eq_append_iff.1 h with ⟨x, h1, h2⟩ | ⟨x, h1, h2⟩
    · cases x with
      | nil => simp at h1 h2; exact ⟨h1.symm, h2⟩
      | cons c x => simp at h2; exact absurd (by rw [h1, ← h2.1]; simp) hA
    · cases x with
      | nil => simp at h1 h2; exact ⟨h1, h2.symm⟩
      | cons c x => simp at h2; exact absurd (by rw [h2.2]; simp) hB
  · rintro ⟨rfl, rfl⟩; rfl

/-- Which groups a type is in: by its two texts. -/
def inB (g : Int) (t s : List UInt8) (ends : List UInt8 → Bool) : Bool :=
  if g = 0 then t == ([105, 109, 97, 103, 101] : List UInt8)
  else if g = 1 then t == ([97, 117, 100, 105, 111] : List UInt8) || t == ([118, 105, 100, 101, 111] : List UInt8) || (t == ([97, 112, 112, 108, 105, 99, 97, 116, 105, 111, 110] : List UInt8) && s == ([111, 103, 103] : List UInt8))
  else if g = 2 then t == ([102, 111, 110, 116] : List UInt8) || (t == ([97, 112, 112, 108, 105, 99, 97, 116, 105, 111, 110] : List UInt8) && (s == ([102, 111, 110, 116, 45, 99, 102, 102] : List UInt8) || s == ([102, 111, 110, 116, 45, 111, 102, 102] : List UInt8) || s == ([102, 111, 110, 116, 45, 115, 102, 110, 116] : List UInt8) || s == ([102, 111, 110, 116, 45, 116, 116, 102] : List UInt8) || s == ([102, 111, 110, 116, 45, 119, 111, 102, 102] : List UInt8) || s == ([118, 110, 100, 46, 109, 115, 45, 102, 111, 110, 116, 111, 98, 106, 101, 99, 116] : List UInt8) || s == ([118, 110, 100, 46, 109, 115, 45, 111, 112, 101, 110, 116, 121, 112, 101] : List UInt8)))
  else if g = 3 then ends ([43, 122, 105, 112] : List UInt8) || (t == ([97, 112, 112, 108, 105, 99, 97, 116, 105, 111, 110] : List UInt8) && s == ([122, 105, 112] : List UInt8))
  else if g = 4 then t == ([97, 112, 112, 108, 105, 99, 97, 116, 105, 111, 110] : List UInt8) && (s == ([120, 45, 114, 97, 114, 45, 99, 111, 109, 112, 114, 101, 115, 115, 101, 100] : List UInt8) || s == ([122, 105, 112] : List UInt8) || s == ([120, 45, 103, 122, 105, 112] : List UInt8))
  else if g = 5 then ends ([43, 120, 109, 108] : List UInt8) || (s == ([120, 109, 108] : List UInt8) && (t == ([116, 101, 120, 116] : List UInt8) || t == ([97, 112, 112, 108, 105, 99, 97, 116, 105, 111, 110] : List UInt8)))
  else if g = 6 then t == ([116, 101, 120, 116] : List UInt8) && s == ([104, 116, 109, 108] : List UInt8)
  else if g = 7 then (ends ([43, 120, 109, 108] : List UInt8) || (s == ([120, 109, 108] : List UInt8) && (t == ([116, 101, 120, 116] : List UInt8) || t == ([97, 112, 112, 108, 105, 99, 97, 116, 105, 111, 110] : List UInt8)))) || (t == ([116, 101, 120, 116] : List UInt8) && s == ([104, 116, 109, 108] : List UInt8)) || (t == ([97, 112, 112, 108, 105, 99, 97, 116, 105, 111, 110] : List UInt8) && s == ([112, 100, 102] : List UInt8))
  else if g = 8 then ends ([43, 106, 115, 111, 110] : List UInt8) || (s == ([106, 115, 111, 110] : List UInt8) && (t == ([116, 101, 120, 116] : List UInt8) || t == ([97, 112, 112, 108, 105, 99, 97, 116, 105, 111, 110] : List UInt8)))
  else if g = 9 then (t == ([97, 112, 112, 108, 105, 99, 97, 116, 105, 111, 110] : List UInt8) && (s == ([101, 99, 109, 97, 115, 99, 114, 105, 112, 116] : List UInt8) || s == ([106, 97, 118, 97, 115, 99, 114, 105, 112, 116] : List UInt8) || s == ([120, 45, 101, 99, 109, 97, 115, 99, 114, 105, 112, 116] : List UInt8) || s == ([120, 45, 106, 97, 118, 97, 115, 99, 114, 105, 112, 116] : List UInt8))) || (t == ([116, 101, 120, 116] : List UInt8) && ((s == ([101, 99, 109, 97, 115, 99, 114, 105, 112, 116] : List UInt8) || s == ([106, 97, 118, 97, 115, 99, 114, 105, 112, 116] : List UInt8) || s == ([120, 45, 101, 99, 109, 97, 115, 99, 114, 105, 112, 116] : List UInt8) || s == ([120, 45, 106, 97, 118, 97, 115, 99, 114, 105, 112, 116] : List UInt8)) || (s == ([106, 97, 118, 97, 115, 99, 114, 105, 112, 116, 49, 46, 48] : List UInt8) || s == ([106, 97, 118, 97, 115, 99, 114, 105, 112, 116, 49, 46, 49] : List UInt8) || s == ([106, 97, 118, 97, 115, 99, 114, 105, 112, 116, 49, 46, 50] : List UInt8) || s == ([106, 97, 118, 97, 115, 99, 114, 105, 112, 116, 49, 46, 51] : List UInt8) || s == ([106, 97, 118, 97, 115, 99, 114, 105, 112, 116, 49, 46, 52] : List UInt8) || s == ([106, 97, 118, 97, 115, 99, 114, 105, 112, 116, 49, 46, 53] : List UInt8) || s == ([106, 115, 99, 114, 105, 112, 116] : List UInt8) || s == ([108, 105, 118, 101, 115, 99, 114, 105, 112, 116] : List UInt8))))
  else false


/-- Does a text end with these bytes? -/
def endsB (s : ByteArray) (x : List UInt8) : Bool := decide (x.length ≤ s.size) && ((s.toList.drop (s.size - x.length)) == x)

theorem ess0 (t s : List UInt8) : (t ++ 47 :: s == ([97, 112, 112, 108, 105, 99, 97, 116, 105, 111, 110, 47, 111, 103, 103] : List UInt8)) = (t == ([97, 112, 112, 108, 105, 99, 97, 116, 105, 111, 110] : List UInt8) && s == ([111, 103, 103] : List UInt8)) := slash rfl (by decide) (by decide)
theorem essp0 (t s : List UInt8) : (t ++ 47 :: s = ([97, 112, 112, 108, 105, 99, 97, 116, 105, 111, 110, 47, 111, 103, 103] : List UInt8)) = ((t == ([97, 112, 112, 108, 105, 99, 97, 116, 105, 111, 110] : List UInt8) && s == ([111, 103, 103] : List UInt8)) = true) := by rw [← ess0]; simp
theorem ess1 (t s : List UInt8) : (t ++ 47 :: s == ([97, 112, 112, 108, 105, 99, 97, 116, 105, 111, 110, 47, 122, 105, 112] : List UInt8)) = (t == ([97, 112, 112, 108, 105, 99, 97, 116, 105, 111, 110] : List UInt8) && s == ([122, 105, 112] : List UInt8)) := slash rfl (by decide) (by decide)
theorem essp1 (t s : List UInt8) : (t ++ 47 :: s = ([97, 112, 112, 108, 105, 99, 97, 116, 105, 111, 110, 47, 122, 105, 112] : List UInt8)) = ((t == ([97, 112, 112, 108, 105, 99, 97, 116, 105, 111, 110] : List UInt8) && s == ([122, 105, 112] : List UInt8)) = true) := by rw [← ess1]; simp
theorem ess2 (t s : List UInt8) : (t ++ 47 :: s == ([116, 101, 120, 116, 47, 120, 109, 108] : List UInt8)) = (t == ([116, 101, 120, 116] : List UInt8) && s == ([120, 109, 108] : List UInt8)) := slash rfl (by decide) (by decide)
theorem essp2 (t s : List UInt8) : (t ++ 47 :: s = ([116, 101, 120, 116, 47, 120, 109, 108] : List UInt8)) = ((t == ([116, 101, 120, 116] : List UInt8) && s == ([120, 109, 108] : List UInt8)) = true) := by rw [← ess2]; simp
theorem ess3 (t s : List UInt8) : (t ++ 47 :: s == ([97, 112, 112, 108, 105, 99, 97, 116, 105, 111, 110, 47, 120, 109, 108] : List UInt8)) = (t == ([97, 112, 112, 108, 105, 99, 97, 116, 105, 111, 110] : List UInt8) && s == ([120, 109, 108] : List UInt8)) := slash rfl (by decide) (by decide)
theorem essp3 (t s : List UInt8) : (t ++ 47 :: s = ([97, 112, 112, 108, 105, 99, 97, 116, 105, 111, 110, 47, 120, 109, 108] : List UInt8)) = ((t == ([97, 112, 112, 108, 105, 99, 97, 116, 105, 111, 110] : List UInt8) && s == ([120, 109, 108] : List UInt8)) = true) := by rw [← ess3]; simp
theorem ess4 (t s : List UInt8) : (t ++ 47 :: s == ([116, 101, 120, 116, 47, 104, 116, 109, 108] : List UInt8)) = (t == ([116, 101, 120, 116] : List UInt8) && s == ([104, 116, 109, 108] : List UInt8)) := slash rfl (by decide) (by decide)
theorem essp4 (t s : List UInt8) : (t ++ 47 :: s = ([116, 101, 120, 116, 47, 104, 116, 109, 108] : List UInt8)) = ((t == ([116, 101, 120, 116] : List UInt8) && s == ([104, 116, 109, 108] : List UInt8)) = true) := by rw [← ess4]; simp
theorem ess5 (t s : List UInt8) : (t ++ 47 :: s == ([97, 112, 112, 108, 105, 99, 97, 116, 105, 111, 110, 47, 112, 100, 102] : List UInt8)) = (t == ([97, 112, 112, 108, 105, 99, 97, 116, 105, 111, 110] : List UInt8) && s == ([112, 100, 102] : List UInt8)) := slash rfl (by decide) (by decide)
theorem essp5 (t s : List UInt8) : (t ++ 47 :: s = ([97, 112, 112, 108, 105, 99, 97, 116, 105, 111, 110, 47, 112, 100, 102] : List UInt8)) = ((t == ([97, 112, 112, 108, 105, 99, 97, 116, 105, 111, 110] : List UInt8) && s == ([112, 100, 102] : List UInt8)) = true) := by rw [← ess5]; simp
theorem ess6 (t s : List UInt8) : (t ++ 47 :: s == ([97, 112, 112, 108, 105, 99, 97, 116, 105, 111, 110, 47, 106, 115, 111, 110] : List UInt8)) = (t == ([97, 112, 112, 108, 105, 99, 97, 116, 105, 111, 110] : List UInt8) && s == ([106, 115, 111, 110] : List UInt8)) := slash rfl (by decide) (by decide)
theorem essp6 (t s : List UInt8) : (t ++ 47 :: s = ([97, 112, 112, 108, 105, 99, 97, 116, 105, 111, 110, 47, 106, 115, 111, 110] : List UInt8)) = ((t == ([97, 112, 112, 108, 105, 99, 97, 116, 105, 111, 110] : List UInt8) && s == ([106, 115, 111, 110] : List UInt8)) = true) := by rw [← ess6]; simp
theorem ess7 (t s : List UInt8) : (t ++ 47 :: s == ([116, 101, 120, 116, 47, 106, 115, 111, 110] : List UInt8)) = (t == ([116, 101, 120, 116] : List UInt8) && s == ([106, 115, 111, 110] : List UInt8)) := slash rfl (by decide) (by decide)
theorem essp7 (t s : List UInt8) : (t ++ 47 :: s = ([116, 101, 120, 116, 47, 106, 115, 111, 110] : List UInt8)) = ((t == ([116, 101, 120, 116] : List UInt8) && s == ([106, 115, 111, 110] : List UInt8)) = true) := by rw [← ess7]; simp
theorem ess8 (t s : List UInt8) : (t ++ 47 :: s == ([97, 112, 112, 108, 105, 99, 97, 116, 105, 111, 110, 47, 101, 99, 109, 97, 115, 99, 114, 105, 112, 116] : List UInt8)) = (t == ([97, 112, 112, 108, 105, 99, 97, 116, 105, 111, 110] : List UInt8) && s == ([101, 99, 109, 97, 115, 99, 114, 105, 112, 116] : List UInt8)) := slash rfl (by decide) (by decide)
theorem essp8 (t s : List UInt8) : (t ++ 47 :: s = ([97, 112, 112, 108, 105, 99, 97, 116, 105, 111, 110, 47, 101, 99, 109, 97, 115, 99, 114, 105, 112, 116] : List UInt8)) = ((t == ([97, 112, 112, 108, 105, 99, 97, 116, 105, 111, 110] : List UInt8) && s == ([101, 99, 109, 97, 115, 99, 114, 105, 112, 116] : List UInt8)) = true) := by rw [← ess8]; simp
theorem ess9 (t s : List UInt8) : (t ++ 47 :: s == ([97, 112, 112, 108, 105, 99, 97, 116, 105, 111, 110, 47, 106, 97, 118, 97, 115, 99, 114, 105, 112, 116] : List UInt8)) = (t == ([97, 112, 112, 108, 105, 99, 97, 116, 105, 111, 110] : List UInt8) && s == ([106, 97, 118, 97, 115, 99, 114, 105, 112, 116] : List UInt8)) := slash rfl (by decide) (by decide)
theorem essp9 (t s : List UInt8) : (t ++ 47 :: s = ([97, 112, 112, 108, 105, 99, 97, 116, 105, 111, 110, 47, 106, 97, 118, 97, 115, 99, 114, 105, 112, 116] : List UInt8)) = ((t == ([97, 112, 112, 108, 105, 99, 97, 116, 105, 111, 110] : List UInt8) && s == ([106, 97, 118, 97, 115, 99, 114, 105, 112, 116] : List UInt8)) = true) := by rw [← ess9]; simp
theorem ess10 (t s : List UInt8) : (t ++ 47 :: s == ([97, 112, 112, 108, 105, 99, 97, 116, 105, 111, 110, 47, 120, 45, 101, 99, 109, 97, 115, 99, 114, 105, 112, 116] : List UInt8)) = (t == ([97, 112, 112, 108, 105, 99, 97, 116, 105, 111, 110] : List UInt8) && s == ([120, 45, 101, 99, 109, 97, 115, 99, 114, 105, 112, 116] : List UInt8)) := slash rfl (by decide) (by decide)
theorem essp10 (t s : List UInt8) : (t ++ 47 :: s = ([97, 112, 112, 108, 105, 99, 97, 116, 105, 111, 110, 47, 120, 45, 101, 99, 109, 97, 115, 99, 114, 105, 112, 116] : List UInt8)) = ((t == ([97, 112, 112, 108, 105, 99, 97, 116, 105, 111, 110] : List UInt8) && s == ([120, 45, 101, 99, 109, 97, 115, 99, 114, 105, 112, 116] : List UInt8)) = true) := by rw [← ess10]; simp
theorem ess11 (t s : List UInt8) : (t ++ 47 :: s == ([97, 112, 112, 108, 105, 99, 97, 116, 105, 111, 110, 47, 120, 45, 106, 97, 118, 97, 115, 99, 114, 105, 112, 116] : List UInt8)) = (t == ([97, 112, 112, 108, 105, 99, 97, 116, 105, 111, 110] : List UInt8) && s == ([120, 45, 106, 97, 118, 97, 115, 99, 114, 105, 112, 116] : List UInt8)) := slash rfl (by decide) (by decide)
theorem essp11 (t s : List UInt8) : (t ++ 47 :: s = ([97, 112, 112, 108, 105, 99, 97, 116, 105, 111, 110, 47, 120, 45, 106, 97, 118, 97, 115, 99, 114, 105, 112, 116] : List UInt8)) = ((t == ([97, 112, 112, 108, 105, 99, 97, 116, 105, 111, 110] : List UInt8) && s == ([120, 45, 106, 97, 118, 97, 115, 99, 114, 105, 112, 116] : List UInt8)) = true) := by rw [← ess11]; simp
theorem ess12 (t s : List UInt8) : (t ++ 47 :: s == ([116, 101, 120, 116, 47, 101, 99, 109, 97, 115, 99, 114, 105, 112, 116] : List UInt8)) = (t == ([116, 101, 120, 116] : List UInt8) && s == ([101, 99, 109, 97, 115, 99, 114, 105, 112, 116] : List UInt8)) := slash rfl (by decide) (by decide)
theorem essp12 (t s : List UInt8) : (t ++ 47 :: s = ([116, 101, 120, 116, 47, 101, 99, 109, 97, 115, 99, 114, 105, 112, 116] : List UInt8)) = ((t == ([116, 101, 120, 116] : List UInt8) && s == ([101, 99, 109, 97, 115, 99, 114, 105, 112, 116] : List UInt8)) = true) := by rw [← ess12]; simp
theorem ess13 (t s : List UInt8) : (t ++ 47 :: s == ([116, 101, 120, 116, 47, 106, 97, 118, 97, 115, 99, 114, 105, 112, 116] : List UInt8)) = (t == ([116, 101, 120, 116] : List UInt8) && s == ([106, 97, 118, 97, 115, 99, 114, 105, 112, 116] : List UInt8)) := slash rfl (by decide) (by decide)
theorem essp13 (t s : List UInt8) : (t ++ 47 :: s = ([116, 101, 120, 116, 47, 106, 97, 118, 97, 115, 99, 114, 105, 112, 116] : List UInt8)) = ((t == ([116, 101, 120, 116] : List UInt8) && s == ([106, 97, 118, 97, 115, 99, 114, 105, 112, 116] : List UInt8)) = true) := by rw [← ess13]; simp
theorem ess14 (t s : List UInt8) : (t ++ 47 :: s == ([116, 101, 120, 116, 47, 106, 97, 118, 97, 115, 99, 114, 105, 112, 116, 49, 46, 48] : List UInt8)) = (t == ([116, 101, 120, 116] : List UInt8) && s == ([106, 97, 118, 97, 115, 99, 114, 105, 112, 116, 49, 46, 48] : List UInt8)) := slash rfl (by decide) (by decide)
theorem essp14 (t s : List UInt8) : (t ++ 47 :: s = ([116, 101, 120, 116, 47, 106, 97, 118, 97, 115, 99, 114, 105, 112, 116, 49, 46, 48] : List UInt8)) = ((t == ([116, 101, 120, 116] : List UInt8) && s == ([106, 97, 118, 97, 115, 99, 114, 105, 112, 116, 49, 46, 48] : List UInt8)) = true) := by rw [← ess14]; simp
theorem ess15 (t s : List UInt8) : (t ++ 47 :: s == ([116, 101, 120, 116, 47, 106, 97, 118, 97, 115, 99, 114, 105, 112, 116, 49, 46, 49] : List UInt8)) = (t == ([116, 101, 120, 116] : List UInt8) && s == ([106, 97, 118, 97, 115, 99, 114, 105, 112, 116, 49, 46, 49] : List UInt8)) := slash rfl (by decide) (by decide)
theorem essp15 (t s : List UInt8) : (t ++ 47 :: s = ([116, 101, 120, 116, 47, 106, 97, 118, 97, 115, 99, 114, 105, 112, 116, 49, 46, 49] : List UInt8)) = ((t == ([116, 101, 120, 116] : List UInt8) && s == ([106, 97, 118, 97, 115, 99, 114, 105, 112, 116, 49, 46, 49] : List UInt8)) = true) := by rw [← ess15]; simp
theorem ess16 (t s : List UInt8) : (t ++ 47 :: s == ([116, 101, 120, 116, 47, 106, 97, 118, 97, 115, 99, 114, 105, 112, 116, 49, 46, 50] : List UInt8)) = (t == ([116, 101, 120, 116] : List UInt8) && s == ([106, 97, 118, 97, 115, 99, 114, 105, 112, 116, 49, 46, 50] : List UInt8)) := slash rfl (by decide) (by decide)
theorem essp16 (t s : List UInt8) : (t ++ 47 :: s = ([116, 101, 120, 116, 47, 106, 97, 118, 97, 115, 99, 114, 105, 112, 116, 49, 46, 50] : List UInt8)) = ((t == ([116, 101, 120, 116] : List UInt8) && s == ([106, 97, 118, 97, 115, 99, 114, 105, 112, 116, 49, 46, 50] : List UInt8)) = true) := by rw [← ess16]; simp
theorem ess17 (t s : List UInt8) : (t ++ 47 :: s == ([116, 101, 120, 116, 47, 106, 97, 118, 97, 115, 99, 114, 105, 112, 116, 49, 46, 51] : List UInt8)) = (t == ([116, 101, 120, 116] : List UInt8) && s == ([106, 97, 118, 97, 115, 99, 114, 105, 112, 116, 49, 46, 51] : List UInt8)) := slash rfl (by decide) (by decide)
theorem essp17 (t s : List UInt8) : (t ++ 47 :: s = ([116, 101, 120, 116, 47, 106, 97, 118, 97, 115, 99, 114, 105, 112, 116, 49, 46, 51] : List UInt8)) = ((t == ([116, 101, 120, 116] : List UInt8) && s == ([106, 97, 118, 97, 115, 99, 114, 105, 112, 116, 49, 46, 51] : List UInt8)) = true) := by rw [← ess17]; simp
theorem ess18 (t s : List UInt8) : (t ++ 47 :: s == ([116, 101, 120, 116, 47, 106, 97, 118, 97, 115, 99, 114, 105, 112, 116, 49, 46, 52] : List UInt8)) = (t == ([116, 101, 120, 116] : List UInt8) && s == ([106, 97, 118, 97, 115, 99, 114, 105, 112, 116, 49, 46, 52] : List UInt8)) := slash rfl (by decide) (by decide)
theorem essp18 (t s : List UInt8) : (t ++ 47 :: s = ([116, 101, 120, 116, 47, 106, 97, 118, 97, 115, 99, 114, 105, 112, 116, 49, 46, 52] : List UInt8)) = ((t == ([116, 101, 120, 116] : List UInt8) && s == ([106, 97, 118, 97, 115, 99, 114, 105, 112, 116, 49, 46, 52] : List UInt8)) = true) := by rw [← ess18]; simp
theorem ess19 (t s : List UInt8) : (t ++ 47 :: s == ([116, 101, 120, 116, 47, 106, 97, 118, 97, 115, 99, 114, 105, 112, 116, 49, 46, 53] : List UInt8)) = (t == ([116, 101, 120, 116] : List UInt8) && s == ([106, 97, 118, 97, 115, 99, 114, 105, 112, 116, 49, 46, 53] : List UInt8)) := slash rfl (by decide) (by decide)
theorem essp19 (t s : List UInt8) : (t ++ 47 :: s = ([116, 101, 120, 116, 47, 106, 97, 118, 97, 115, 99, 114, 105, 112, 116, 49, 46, 53] : List UInt8)) = ((t == ([116, 101, 120, 116] : List UInt8) && s == ([106, 97, 118, 97, 115, 99, 114, 105, 112, 116, 49, 46, 53] : List UInt8)) = true) := by rw [← ess19]; simp
theorem ess20 (t s : List UInt8) : (t ++ 47 :: s == ([116, 101, 120, 116, 47, 106, 115, 99, 114, 105, 112, 116] : List UInt8)) = (t == ([116, 101, 120, 116] : List UInt8) && s == ([106, 115, 99, 114, 105, 112, 116] : List UInt8)) := slash rfl (by decide) (by decide)
theorem essp20 (t s : List UInt8) : (t ++ 47 :: s = ([116, 101, 120, 116, 47, 106, 115, 99, 114, 105, 112, 116] : List UInt8)) = ((t == ([116, 101, 120, 116] : List UInt8) && s == ([106, 115, 99, 114, 105, 112, 116] : List UInt8)) = true) := by rw [← ess20]; simp
theorem ess21 (t s : List UInt8) : (t ++ 47 :: s == ([116, 101, 120, 116, 47, 108, 105, 118, 101, 115, 99, 114, 105, 112, 116] : List UInt8)) = (t == ([116, 101, 120, 116] : List UInt8) && s == ([108, 105, 118, 101, 115, 99, 114, 105, 112, 116] : List UInt8)) := slash rfl (by decide) (by decide)
theorem essp21 (t s : List UInt8) : (t ++ 47 :: s = ([116, 101, 120, 116, 47, 108, 105, 118, 101, 115, 99, 114, 105, 112, 116] : List UInt8)) = ((t == ([116, 101, 120, 116] : List UInt8) && s == ([108, 105, 118, 101, 115, 99, 114, 105, 112, 116] : List UInt8)) = true) := by rw [← ess21]; simp
theorem ess22 (t s : List UInt8) : (t ++ 47 :: s == ([116, 101, 120, 116, 47, 120, 45, 101, 99, 109, 97, 115, 99, 114, 105, 112, 116] : List UInt8)) = (t == ([116, 101, 120, 116] : List UInt8) && s == ([120, 45, 101, 99, 109, 97, 115, 99, 114, 105, 112, 116] : List UInt8)) := slash rfl (by decide) (by decide)
theorem essp22 (t s : List UInt8) : (t ++ 47 :: s = ([116, 101, 120, 116, 47, 120, 45, 101, 99, 109, 97, 115, 99, 114, 105, 112, 116] : List UInt8)) = ((t == ([116, 101, 120, 116] : List UInt8) && s == ([120, 45, 101, 99, 109, 97, 115, 99, 114, 105, 112, 116] : List UInt8)) = true) := by rw [← ess22]; simp
theorem ess23 (t s : List UInt8) : (t ++ 47 :: s == ([116, 101, 120, 116, 47, 120, 45, 106, 97, 118, 97, 115, 99, 114, 105, 112, 116] : List UInt8)) = (t == ([116, 101, 120, 116] : List UInt8) && s == ([120, 45, 106, 97, 118, 97, 115, 99, 114, 105, 112, 116] : List UInt8)) := slash rfl (by decide) (by decide)
theorem essp23 (t s : List UInt8) : (t ++ 47 :: s = ([116, 101, 120, 116, 47, 120, 45, 106, 97, 118, 97, 115, 99, 114, 105, 112, 116] : List UInt8)) = ((t == ([116, 101, 120, 116] : List UInt8) && s == ([120, 45, 106, 97, 118, 97, 115, 99, 114, 105, 112, 116] : List UInt8)) = true) := by rw [← ess23]; simp

theorem essence (t s : ByteArray) (l : List S34) (ht : t.size ≤ 140737488351232) (hs : s.size ≤ 140737488351232) : mime_Essence.f t s l = some ((t ++ (⟨#[47]⟩ : ByteArray)) ++ s) := by
  unfold mime_Essence.f
  have h1 : (t ++ (⟨#[47]⟩ : ByteArray)).size = t.size + 1 := by rw [ByteArray.size_append]; rfl
  rw [if_pos (by omega), if_pos (by rw [h1]; omega)]
theorem essL (t s : ByteArray) : ((t ++ (⟨#[47]⟩ : ByteArray)) ++ s).toList = t.toList ++ 47 :: s.toList := by
  rw [toList_app, toList_app, toList_lit]; simp

theorem idx (l : List ByteArray) (a : ByteArray) (hn : l.length ≤ 1000) (d : Nat) : ∀ (k i : Nat), i + d = l.length → d < k →
    ∃ r, slices_Index_string_string.l0 k l a (l.length : Int) (i : Int) = some r ∧ decide (r ≥ 0) = (l.drop i).any (fun x => a.toList == x.toList) := by
  induction d with
  | zero =>
    intro k i hi hk
    obtain ⟨k, rfl⟩ : ∃ m, k = m + 1 := ⟨k - 1, by omega⟩
    refine ⟨-1, ?_, ?_⟩
    · simp only [slices_Index_string_string.l0]; rw [if_neg (by omega)]
    · rw [List.drop_eq_nil_of_le (by omega)]; rfl
  | succ d ih =>
    intro k i hi hk
    obtain ⟨k, rfl⟩ : ∃ m, k = m + 1 := ⟨k - 1, by omega⟩
    have hlt : i < l.length := by omega
    have hd : l.drop i = l[i] :: l.drop (i + 1) := List.drop_eq_getElem_cons hlt
    have hr : rdOf ByteArray.empty l (i : Int) = l[i] := by simp [rdOf, hlt]
    have hw : wrap64 ((i : Int) + 1) = ((i + 1 : Nat) : Int) := by unfold wrap64; omega
    by_cases hc : a.toList = (l[i]).toList
    · refine ⟨i, ?_, ?_⟩
      · simp only [slices_Index_string_string.l0]; rw [if_pos (by omega), if_pos (by omega), if_pos (by omega), hr, if_pos hc]
      · rw [hd, List.any_cons, hc]; simp
    · obtain ⟨r, h1, h2⟩ := ih k (i + 1) (by omega) (by omega)
      refine ⟨r, ?_, ?_⟩
      · simp only [slices_Index_string_string.l0]; rw [if_pos (by omega), if_pos (by omega), if_pos (by omega), hr, if_neg hc, hw]; exact h1
      · rw [hd, List.any_cons, h2]; simp [hc]
theorem contains (l : List ByteArray) (a : ByteArray) (hn : l.length ≤ 1000) (k : Nat) (hk : l.length < k) : slices_Contains_string_string.f k l a = some (l.any (fun x => a.toList == x.toList)) := by
  obtain ⟨r, h1, h2⟩ := idx l a hn l.length k 0 (by omega) hk
  unfold slices_Contains_string_string.f slices_Index_string_string.f
  have h1' : slices_Index_string_string.l0 k l a (l.length : Int) 0 = some r := h1
  rw [h1', Option.bind_some, h2]; simp

theorem ends_raw (s : ByteArray) (x : ByteArray) (hs : s.size ≤ 140737488351232) (hx : x.size ≤ 1000) :
    (if (s.size : Int) ≥ (x.size : Int) then (if 0 ≤ (wrap64 ((s.size : Int) - (x.size : Int))) then (if (wrap64 ((s.size : Int) - (x.size : Int))) ≤ (s.size : Int) then (some ((s.extract ((wrap64 ((s.size : Int) - (x.size : Int))) : Int).toNat s.size).toList == x.toList)) else (none)) else (none)) else (some false) : Option Bool)
      = some (endsB s x.toList) := by
  unfold endsB
  rw [size_toList]
  by_cases h : (s.size : Int) ≥ (x.size : Int)
  · have hw : wrap64 ((s.size : Int) - (x.size : Int)) = ((s.size - x.size : Nat) : Int) := by unfold wrap64; omega
    rw [if_pos h, hw, if_pos (by omega), if_pos (by omega), Int.toNat_natCast, Go.Lib.extract_toList]
    have : decide (x.size ≤ s.size) = true := by simp; omega
    rw [this, Bool.true_and, ByteArray.toList_eq s, List.take_of_length_le]
    rw [List.length_drop, Array.length_toList]; show s.size - (s.size - x.size) ≤ _; omega
  · have : decide (x.size ≤ s.size) = false := by simp; omega
    rw [if_neg h, this]; rfl
theorem suffix (s x : ByteArray) (hs : s.size ≤ 140737488351232) (hx : x.size ≤ 1000) : strings_HasSuffix.f s x = some (endsB s x.toList) := by
  unfold strings_HasSuffix.f stringslite_HasSuffix.f
  rw [ends_raw s x hs hx]; rfl
theorem hold {α : Type} (P : α → Prop) (x : α) (h : P x) : P x := h
theorem ite_true_bool (a b : Bool) : (if a = true then some true else some b) = some (a || b) := by cases a <;> rfl
theorem ite_false_bool (a b : Bool) : (if a = true then some b else some false) = some (a && b) := by cases a <;> rfl
theorem ite_bool (a b c : Bool) : (if a = true then some b else some c) = some (if a then b else c) := by cases a <;> rfl
theorem ite_eq {β : Type} (x y : List UInt8) (u v : β) : (if x = y then u else v) = (if (x == y) = true then u else v) := by
  by_cases h : x = y <;> simp [h]
theorem apptxt (t : List UInt8) : (t == ([97, 112, 112, 108, 105, 99, 97, 116, 105, 111, 110] : List UInt8) && t == ([116, 101, 120, 116] : List UInt8)) = false := by
  by_cases h : t = ([97, 112, 112, 108, 105, 99, 97, 116, 105, 111, 110] : List UInt8)
  · subst h; rfl
  · simp [h]

theorem in_low (k : Nat) (hk : 18 ≤ k) (g : Int) (hg : g ≠ 7) (t s : ByteArray) (l : List S34) (ht : t.size ≤ 140737488351232) (hs : s.size ≤ 140737488351232) :
    group_In.f k g t s l = some (inB g t.toList s.toList (endsB s)) := by
  obtain ⟨k, rfl⟩ : ∃ m, k = m + 1 := ⟨k - 1, by omega⟩
  simp only [group_In.f]
  rw [essence t s l ht hs]
  simp only [Option.bind_some, group_fonts.f, group_archives.f, group_scripts.f]
  rw [contains _ _ (by decide) k (by simp; omega), contains _ _ (by decide) k (by simp; omega), contains _ _ (by decide) k (by simp; omega), suffix _ _ hs (by decide), suffix _ _ hs (by decide), suffix _ _ hs (by decide)]
  simp only [Option.bind_some, List.any_cons, List.any_nil, Bool.or_false, toList_lit, essL, ite_eq, ess0, essp0, ess1, essp1, ess2, essp2, ess3, essp3, ess4, essp4, ess5, essp5, ess6, essp6, ess7, essp7, ess8, ess9, ess10, ess11, ess12, ess13, ess14, ess15, ess16, ess17, ess18, ess19, ess20, ess21, ess22, ess23]
  unfold inB
  by_cases h0 : g = 0
  · simp only [h0, if_true, beq_self_eq_true]
  by_cases h1 : g = 1
  · subst h1; simp only [ite_true_bool]; simp [Bool.or_assoc]
  by_cases h2 : g = 2
  · subst h2; simp only [ite_true_bool, ite_false_bool]; simp [Bool.or_assoc]
  by_cases h3 : g = 3
  · subst h3; simp only [ite_true_bool, ite_false_bool]; simp
  by_cases h4 : g = 4
  · subst h4; simp only [ite_true_bool, ite_false_bool]; simp [Bool.or_assoc]
  by_cases h5 : g = 5
  · subst h5; simp only [ite_true_bool, ite_false_bool]; simp [Bool.and_or_distrib_left, Bool.and_comm]
  by_cases h6 : g = 6
  · subst h6; simp
  by_cases h8 : g = 8
  · subst h8; simp only [ite_true_bool, ite_false_bool]; simp [Bool.and_or_distrib_left, Bool.and_comm, Bool.or_comm]
  by_cases h9 : g = 9
  · subst h9
    simp
    generalize (t.toList == ([97, 112, 112, 108, 105, 99, 97, 116, 105, 111, 110] : List UInt8)) = A
    generalize (t.toList == ([116, 101, 120, 116] : List UInt8)) = B
    generalize (s.toList == ([120, 45, 101, 99, 109, 97, 115, 99, 114, 105, 112, 116] : List UInt8)) = X
    generalize (s.toList == ([120, 45, 106, 97, 118, 97, 115, 99, 114, 105, 112, 116] : List UInt8)) = Y
    cases A <;> cases B <;> cases X <;> cases Y <;> simp [Bool.or_assoc]
  simp [h0, h1, h2, h3, h4, h5, h6, h8, h9, hg]

theorem in_f (k : Nat) (hk : 20 ≤ k) (g : Int) (t s : ByteArray) (l : List S34) (ht : t.size ≤ 140737488351232) (hs : s.size ≤ 140737488351232) :
    group_In.f k g t s l = some (inB g t.toList s.toList (endsB s)) := by
  by_cases hg : g = 7
  · subst hg
    obtain ⟨k, rfl⟩ : ∃ m, k = m + 1 := ⟨k - 1, by omega⟩
    simp only [group_In.f]
    rw [essence t s l ht hs, in_low k (by omega) 5 (by decide) t s l ht hs, in_low k (by omega) 6 (by decide) t s l ht hs]
    simp only [Option.bind_some, toList_lit, essL, ite_eq, ess0, essp0, ess1, essp1, ess2, essp2, ess3, essp3, ess4, essp4, ess5, essp5, ess6, essp6, ess7, essp7, ess8, ess9, ess10, ess11, ess12, ess13, ess14, ess15, ess16, ess17, ess18, ess19, ess20, ess21, ess22, ess23]
    rw [show inB 7 t.toList s.toList (endsB s) = (inB 5 t.toList s.toList (endsB s) || inB 6 t.toList s.toList (endsB s) || (t.toList == ([97, 112, 112, 108, 105, 99, 97, 116, 105, 111, 110] : List UInt8) && s.toList == ([112, 100, 102] : List UInt8))) from by simp [inB]]
    generalize inB 5 t.toList s.toList (endsB s) = X
    generalize inB 6 t.toList s.toList (endsB s) = Y
    cases X <;> cases Y <;> simp
  · exact in_low k (by omega) g hg t s l ht hs

theorem awake_f (k : Nat) (hk : 20 ≤ k) : carryalllaw06_awake.f k = some true := by
  unfold carryalllaw06_awake.f
  rw [in_f k hk _ _ _ _ (by decide) (by decide), Option.bind_some, toList_lit]
  rfl
theorem few_f (t s : ByteArray) (l : List S34) (hn : l.length ≤ 140737488351232) (d : Nat) : ∀ (k i : Nat), i + d = l.length → d < k → ∃ r, carryallref05_Few.l0 k (l.length : Int) (i : Int) t s l = some r := by
  induction d with
  | zero =>
    intro k i hi hk
    obtain ⟨k, rfl⟩ : ∃ m, k = m + 1 := ⟨k - 1, by omega⟩
    simp only [carryallref05_Few.l0]
    rw [if_neg (by omega)]
    split <;> exact ⟨_, rfl⟩
  | succ d ih =>
    intro k i hi hk
    obtain ⟨k, rfl⟩ : ∃ m, k = m + 1 := ⟨k - 1, by omega⟩
    simp only [carryallref05_Few.l0]
    rw [if_pos (by omega), if_pos (by omega), if_pos (by omega)]
    split
    · exact ⟨_, rfl⟩
    · have hw : wrap64 ((i : Int) + 1) = ((i + 1 : Nat) : Int) := by unfold wrap64; omega
      rw [hw]
      exact ih k (i + 1) (by omega) (by omega)
theorem few_some (t s : ByteArray) (l : List S34) (hn : l.length ≤ 140737488351232) (k : Nat) (hk : l.length < k) : ∃ r, carryallref05_Few.f k t s l = some r := few_f t s l hn l.length k 0 (by omega) hk

end Go.Proofs.Ytbmnpjhjdhgdnaa.GroupWithinIn
