/- Plain: who has more time comes to the same. No condition. -/
import Derived.Test.YtfjgnhmmakeaeaaB2
namespace Go.Proofs.Ytfjgnhmmakeaeaa
open Go.RowKit
set_option linter.unusedVariables false
set_option linter.unusedSimpArgs false
set_option maxRecDepth 100000
namespace Mc
/-- A run alone. -/
def goA (cd inp : List Int) : Nat → St → St
  | 0, s => { s with how := 3 }
  | n + 1, s => if (tick cd inp s).how = 0 then goA cd inp n (tick cd inp s) else tick cd inp s
theorem go_alone (E : Env Unit) (hE : ∀ g p, E.sB g p = false) (cd inp : List Int) : ∀ (n : Nat) (s : St) (g : Unit), (go E cd inp n s g).1 = goA cd inp n s
  | 0, s, g => by show (if E.sB g s.pc then _ else _ : St × Unit).1 = _; rw [hE, if_neg (by decide)]; rfl
  | n + 1, s, g => by
    show (if E.sB g s.pc then _ else (if (tick cd inp s).how = 0 then go E cd inp n (tick cd inp s) _ else _) : St × Unit).1 = (if (tick cd inp s).how = 0 then _ else _)
    rw [hE, if_neg (by decide)]
    split
    · exact go_alone E hE cd inp n _ _
    · rfl
theorem n03 : (0 : Int) ≠ 3 := by decide
theorem n13 : (1 : Int) ≠ 3 := by decide
theorem n23 : (2 : Int) ≠ 3 := by decide
theorem n43 : (4 : Int) ≠ 3 := by decide
theorem n53 : (5 : Int) ≠ 3 := by decide
/-- An instruction ends otherwise than by time. -/
theorem exec_how (inp : List Int) (op : Int) (d e : Nat) (imm next : Int) (s : St) : (exec inp op d e imm next s).2 ≠ 3 := by
  unfold exec
  iterate 16 (refine ite_ind (M := fun r : St × Int => r.2 ≠ 3) (fun hyp => ?_) (fun hyp => ?_); (· first | exact n13 | exact n23 | exact n03 | exact n53))
  exact n03
theorem tick_how (cd inp : List Int) (s : St) : (tick cd inp s).how ≠ 3 := by
  show (step cd inp _).2 ≠ 3
  unfold step
  split
  · exact n43
  · exact exec_how _ _ _ _ _ _ _
/-- With more time: the same, if it ended. -/
theorem goA_more (cd inp : List Int) : ∀ (n m : Nat) (s : St), n ≤ m → (goA cd inp n s).how ≠ 3 → goA cd inp m s = goA cd inp n s
  | 0, m, s, _, h => absurd rfl h
  | n + 1, 0, s, hm, _ => by omega
  | n + 1, m + 1, s, hm, h => by
    unfold goA at h ⊢
    split at h
    · rename_i h0; rw [if_pos h0, if_pos h0]; exact goA_more cd inp n m _ (by omega) h
    · rename_i h0; rw [if_neg h0, if_neg h0]
/-- Cut anywhere. -/
theorem goA_split (cd inp : List Int) : ∀ (n m : Nat) (s : St), (goA cd inp n s).how = 3 → ∃ t, goA cd inp n s = { t with how := 3 } ∧ goA cd inp (n + m) s = goA cd inp m t
  | 0, m, s, _ => ⟨s, rfl, by rw [Nat.zero_add]⟩
  | n + 1, m, s, h => by
    unfold goA at h
    split at h
    · rename_i h0
      obtain ⟨t, h1, h2⟩ := goA_split cd inp n m _ h
      refine ⟨t, ?_, ?_⟩
      · show (if _ then _ else _) = _; rw [if_pos h0]; exact h1
      · rw [show n + 1 + m = (n + m) + 1 by omega]; show (if _ then _ else _) = _; rw [if_pos h0]; exact h2
    · exact absurd h (tick_how cd inp s)
/-- What was told is told first; nothing is unread; time goes on. -/
def Le (s t : St) : Prop := (∃ r, t.out = s.out ++ r) ∧ s.read ≤ t.read ∧ s.steps ≤ t.steps
theorem Le.refl (s : St) : Le s s := ⟨⟨[], by simp⟩, Nat.le_refl _, Int.le_refl _⟩
theorem Le.trans {a b c : St} (h : Le a b) (k : Le b c) : Le a c := by
  obtain ⟨⟨r, hr⟩, h2, h3⟩ := h
  obtain ⟨⟨q, hq⟩, k2, k3⟩ := k
  exact ⟨⟨r ++ q, by rw [hq, hr, List.append_assoc]⟩, Nat.le_trans h2 k2, Int.le_trans h3 k3⟩
theorem exec_le (inp : List Int) (op : Int) (d e : Nat) (imm next : Int) (s : St) : Le s (exec inp op d e imm next s).1 := by
  have hs := (exec_steps inp op d e imm next s).1
  suffices h : (∃ r, (exec inp op d e imm next s).1.out = s.out ++ r) ∧ s.read ≤ (exec inp op d e imm next s).1.read from ⟨h.1, h.2, by rw [hs]; exact Int.le_refl _⟩
  clear hs
  have same : ∀ t : St, t.out = s.out → t.read = s.read → (∃ r, t.out = s.out ++ r) ∧ s.read ≤ t.read := fun t h1 h2 => ⟨⟨[], by rw [h1]; simp⟩, by rw [h2]; exact Nat.le_refl _⟩
  unfold exec
  iterate 14 (refine ite_ind (M := fun r : St × Int => (∃ q, r.1.out = s.out ++ q) ∧ s.read ≤ r.1.read) (fun hyp => ?_) (fun hyp => ?_); (· first | exact same _ rfl rfl | exact same _ (two_out _ _ _ _) (two_read _ _ _ _)))
  refine ite_ind (M := fun r : St × Int => (∃ q, r.1.out = s.out ++ q) ∧ s.read ≤ r.1.read) (fun hyp => ?_) (fun hyp => ?_)
  · show (∃ q, (came inp d s).out = s.out ++ q) ∧ s.read ≤ (came inp d s).read
    unfold came; split
    · exact same _ rfl rfl
    · exact ⟨⟨[], by simp⟩, Nat.le_succ _⟩
  refine ite_ind (M := fun r : St × Int => (∃ q, r.1.out = s.out ++ q) ∧ s.read ≤ r.1.read) (fun hyp => ?_) (fun hyp => ?_)
  · exact same _ rfl rfl
  · exact ⟨⟨[s.r e % 256], rfl⟩, Nat.le_refl _⟩
theorem tick_le (cd inp : List Int) (s : St) : Le s (tick cd inp s) := by
  have h : Le { s with steps := s.steps + 1 } (step cd inp { s with steps := s.steps + 1 }).1 := by
    unfold step; split
    · exact Le.refl _
    · exact exec_le _ _ _ _ _ _ _
  obtain ⟨h1, h2, h3⟩ := h
  exact ⟨h1, h2, by rw [tick_steps]; omega⟩
theorem goA_le (cd inp : List Int) : ∀ (n : Nat) (s : St), Le s (goA cd inp n s)
  | 0, s => ⟨⟨[], by show s.out = _; simp⟩, Nat.le_refl _, Int.le_refl _⟩
  | n + 1, s => by
    unfold goA; split
    · exact (tick_le cd inp s).trans (goA_le cd inp n _)
    · exact tick_le cd inp s
/-- More time tells more. -/
theorem goA_grows (cd inp : List Int) (n m : Nat) (s : St) (h : n ≤ m) : Le (goA cd inp n s) (goA cd inp m s) := by
  by_cases h3 : (goA cd inp n s).how = 3
  · obtain ⟨t, h1, h2⟩ := goA_split cd inp n (m - n) s h3
    rw [show n + (m - n) = m by omega] at h2
    rw [h1, h2]
    exact goA_le cd inp (m - n) t
  · rw [goA_more cd inp n m s h h3]; exact Le.refl _
/-- Who ran out of time took it all. -/
theorem goA_steps (cd inp : List Int) : ∀ (n : Nat) (s : St), (goA cd inp n s).how = 3 → (goA cd inp n s).steps = s.steps + n
  | 0, s, _ => by show s.steps = s.steps + 0; omega
  | n + 1, s, h => by
    unfold goA at h ⊢
    split at h
    · rename_i h0; rw [if_pos h0, goA_steps cd inp n _ h, tick_steps]; omega
    · exact absurd h (tick_how cd inp s)
end Mc
end Go.Proofs.Ytfjgnhmmakeaeaa
