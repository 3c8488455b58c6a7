/- Two runs that tell the same. No condition. -/
import Derived.Test.YtfjgnhmmakeaeaaB9
namespace Go.Proofs.Ytfjgnhmmakeaeaa
open Go.RowKit
set_option linter.unusedVariables false
set_option linter.unusedSimpArgs false
set_option maxRecDepth 100000
open Mc
/-- What a run gave, in its cells. -/
def RunL (E1 : Int) (F : St) (w : World) (l : List Value) : Prop :=
  (E1 ≠ 0 ∧ l = ranZc.toList) ∨ (E1 = 0 ∧ ∃ ov mv n1 n2, l = ranL F ov mv ∧ Rd w 1 ov n1 (F.out.map (Value.int .u8)) ∧ Rd w 1 mv n2 ((left F.mem).map (Value.int .i64)))
theorem RunL.keep {E1 : Int} {F : St} {w w' : World} {l : List Value} (h : RunL E1 F w l) (hb : Below w.heap.size w w') : RunL E1 F w' l := by
  rcases h with ⟨h1, h2⟩ | ⟨h1, ov, mv, n1, n2, h2, h3, h4⟩
  · exact .inl ⟨h1, h2⟩
  · exact .inr ⟨h1, ov, mv, n1, n2, h2, h3.below hb, h4.below hb⟩
theorem RunL.of {E1 : Int} {F : St} {w w' : World} {e : Ending} (h : RunR E1 F w e w') : ∃ l, e = .returned (.tuple #[.agg l.toArray, .int .i64 E1]) ∧ RunL E1 F w' l ∧ Below w.heap.size w w' := by
  by_cases h0 : E1 = 0
  · subst h0
    obtain ⟨oa, oc, xa, xn, xc, he, q1, q2, q3⟩ := runR_ok h
    exact ⟨_, he, .inr ⟨rfl, _, _, _, _, rfl, q1, q2⟩, q3⟩
  · rcases h with ⟨_, he, hb⟩ | ⟨h, _⟩
    · exact ⟨ranZc.toList, he, .inl ⟨h0, rfl⟩, hb⟩
    · exact absurd h h0
theorem RunL.one {E1 : Int} {F : St} {w : World} {l : List Value} (h : RunL E1 F w l) : l.toArray.all (·.oneCell') = true ∧ l.length = 19 := by
  rcases h with ⟨_, rfl⟩ | ⟨_, ov, mv, n1, n2, rfl, h3, h4⟩
  · exact ⟨ranZ_one, rfl⟩
  · obtain ⟨_, _, a1, c1, rfl, _⟩ := h3.ints
    obtain ⟨_, _, a2, c2, rfl, _⟩ := h4.ints
    exact ⟨ranL_one _ _ _ _ _ _ _, rfl⟩
def Mc.none : St := ⟨fun _ => 0, false, false, false, false, 0, fun _ => 0, 0, 0, [], 0, 0⟩
theorem top_none : ∀ n, top (fun _ => 0) n = 0
  | 0 => rfl
  | n + 1 => by rw [top_zero (mem := fun _ => 0) (n := n) rfl]; exact top_none n
theorem left_none : left Mc.none.mem = [] := by
  unfold left
  rw [show top Mc.none.mem MS = 0 from top_none MS]; rfl
theorem RunL.same {E1 : Int} {F : St} {w : World} {l l' : List Value} (h : RunL E1 F w l) (h' : RunL E1 F w l') :
    Calls Try.prog 19 #[.agg l.toArray, .agg l'.toArray] w fun e w' => e = .returned (.bool true) ∧ Below w.heap.size w w' := by
  rcases h with ⟨h1, rfl⟩ | ⟨h1, ov, mv, n1, n2, rfl, h3, h4⟩
  · rcases h' with ⟨_, rfl⟩ | ⟨h2, _⟩
    · exact sameRan_self Mc.none (.slice none 0 0) (.slice none 0 0) (.slice none 0 0) (.slice none 0 0) 0 0 0 0 w (Rd.nil w 1) (Rd.nil w 1) (by rw [left_none]; exact Rd.nil w 1) (by rw [left_none]; exact Rd.nil w 1)
    · exact absurd h2 h1
  · rcases h' with ⟨h2, _⟩ | ⟨_, ov', mv', n1', n2', rfl, h3', h4'⟩
    · exact absurd h1 h2
    · exact sameRan_self F _ _ _ _ _ _ _ _ w h3 h3' h4 h4'
end Go.Proofs.Ytfjgnhmmakeaeaa
