/- Walks of types.Name, types.Named. -/
import Derived.Test.YtgpjhbaehhjdhaaTm
namespace Go.Proofs.Ytgpjhbaehhjdhaa
open Go.RowKit Go.Maps
set_option linter.unusedVariables false
set_option linter.unusedSimpArgs false
set_option maxRecDepth 100000

/-- The name of a type. -/
def W.tn (b : Int) (s : Bool) : List UInt8 :=
  if b = 8 then (if s then [105, 56] else [117, 56]) else if b = 16 then (if s then [105, 49, 54] else [117, 49, 54]) else if b = 32 then (if s then [105, 51, 50] else [117, 51, 50]) else (if s then [105, 54, 52] else [117, 54, 52])
/-- The type of a name. -/
def W.nt (l : List UInt8) : Int × Bool × Bool :=
  if l = [105, 56] then (8, true, true) else if l = [117, 56] then (8, false, true) else if l = [105, 49, 54] then (16, true, true) else if l = [117, 49, 54] then (16, false, true)
  else if l = [105, 51, 50] then (32, true, true) else if l = [117, 51, 50] then (32, false, true) else if l = [105, 54, 52] then (64, true, true) else if l = [117, 54, 52] then (64, false, true) else (0, false, false)
theorem W.names_list : W.names = .map [(.string [105, 49, 54], W.tyD 16 true), (.string [105, 51, 50], W.tyD 32 true), (.string [105, 54, 52], W.tyD 64 true), (.string [105, 56], W.tyD 8 true),
    (.string [117, 49, 54], W.tyD 16 false), (.string [117, 51, 50], W.tyD 32 false), (.string [117, 54, 52], W.tyD 64 false), (.string [117, 56], W.tyD 8 false)] := by
  rfl
theorem W.names_at (l : List UInt8) (z : DataW Unit) : W.names.atKey (.string l) z = if (W.nt l).2.2 then W.tyD (W.nt l).1 (W.nt l).2.1 else z := by
  rw [W.names_list]
  unfold W.nt
  by_cases h1 : l = [105, 56]
  · subst h1; rfl
  by_cases h2 : l = [117, 56]
  · subst h2; rfl
  by_cases h3 : l = [105, 49, 54]
  · subst h3; rfl
  by_cases h4 : l = [117, 49, 54]
  · subst h4; rfl
  by_cases h5 : l = [105, 51, 50]
  · subst h5; rfl
  by_cases h6 : l = [117, 51, 50]
  · subst h6; rfl
  by_cases h7 : l = [105, 54, 52]
  · subst h7; rfl
  by_cases h8 : l = [117, 54, 52]
  · subst h8; rfl
  have g : ∀ m : List UInt8, l ≠ m → (Lit.string m).sameKey (.string l) = false := fun m h => by simp [Lit.sameKey]; exact fun e => h e.symm
  simp [h1, h2, h3, h4, h5, h6, h7, h8, DataW.atKey, List.find?, g]
theorem W.names_has (l : List UInt8) : Maps.has W.names (.string l) = (W.nt l).2.2 := by
  rw [W.names_list]
  unfold W.nt
  by_cases h1 : l = [105, 56]
  · subst h1; rfl
  by_cases h2 : l = [117, 56]
  · subst h2; rfl
  by_cases h3 : l = [105, 49, 54]
  · subst h3; rfl
  by_cases h4 : l = [117, 49, 54]
  · subst h4; rfl
  by_cases h5 : l = [105, 51, 50]
  · subst h5; rfl
  by_cases h6 : l = [117, 51, 50]
  · subst h6; rfl
  by_cases h7 : l = [105, 54, 52]
  · subst h7; rfl
  by_cases h8 : l = [117, 54, 52]
  · subst h8; rfl
  have g : ∀ m : List UInt8, l ≠ m → (Lit.string m).sameKey (.string l) = false := fun m h => by simp [Lit.sameKey]; exact fun e => h e.symm
  simp [h1, h2, h3, h4, h5, h6, h7, h8, Maps.has, g]
theorem W.nt_tn (b : Int) (s : Bool) (h : W.ok b) : W.nt (W.tn b s) = (b, s, true) := by
  rcases h with rfl | rfl | rfl | rfl <;> cases s <;> rfl
theorem W.nt_ok (l : List UInt8) (h : (W.nt l).2.2 = true) : W.ok (W.nt l).1 ∧ W.tn (W.nt l).1 (W.nt l).2.1 = l := by
  unfold W.nt at *
  by_cases h1 : l = [105, 56]
  · subst h1; exact ⟨by simp [W.ok], rfl⟩
  by_cases h2 : l = [117, 56]
  · subst h2; exact ⟨by simp [W.ok], rfl⟩
  by_cases h3 : l = [105, 49, 54]
  · subst h3; exact ⟨by simp [W.ok], rfl⟩
  by_cases h4 : l = [117, 49, 54]
  · subst h4; exact ⟨by simp [W.ok], rfl⟩
  by_cases h5 : l = [105, 51, 50]
  · subst h5; exact ⟨by simp [W.ok], rfl⟩
  by_cases h6 : l = [117, 51, 50]
  · subst h6; exact ⟨by simp [W.ok], rfl⟩
  by_cases h7 : l = [105, 54, 52]
  · subst h7; exact ⟨by simp [W.ok], rfl⟩
  by_cases h8 : l = [117, 54, 52]
  · subst h8; exact ⟨by simp [W.ok], rfl⟩
  simp [h1, h2, h3, h4, h5, h6, h7, h8] at h
end Go.Proofs.Ytgpjhbaehhjdhaa
