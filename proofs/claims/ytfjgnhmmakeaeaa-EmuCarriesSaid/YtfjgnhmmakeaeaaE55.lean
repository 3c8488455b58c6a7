/- EmuCarries: plain law. -/
import Derived.Test.YtfjgnhmmakeaeaaE46
import Derived.Test.YtfjgnhmmakeaeaaW6
namespace Go.Proofs.Ytfjgnhmmakeaeaa
open Go.RowKit
set_option linter.unusedVariables false
set_option linter.unusedSimpArgs false
set_option maxRecDepth 100000
open Mc
namespace Mc
/-- A state with four registers set. -/
abbrev rc (x0 x1 y0 y1 : Int) : St := Mc.begin (reg8 x0 x1 y0 y1 0 0 0 0) false false false false 0 []
/-- The three pairs. -/
def prs : List (Int × Int) := [(5, 6), (7, 8), (12, 13)]
def caL (p q : Int) (n : Nat) : List U.In := (List.range n).map fun i : Nat => ⟨if 0 < i then q else p, (i : Int), (2 + i : Nat), 0⟩
theorem doI_two (op d e : Int) (s : St) (h : 5 ≤ op ∧ op ≤ 11) : ∃ t, doI [] ⟨op, d, e, 0⟩ s = t ∧ t.r = upd s.r d.toNat (twoR op (s.r d.toNat) (s.r e.toNat) s.c) ∧ t.c = (two op (s.r d.toNat) (s.r e.toNat) s).c ∧ t.out = s.out := by
  refine ⟨_, rfl, ?_, ?_, ?_⟩
  · unfold doI
    show (exec [] op d.toNat e.toNat 0 _ _).1.r = _
    rw [exec_two _ _ _ _ _ _ _ h]; rfl
  · unfold doI
    show (exec [] op d.toNat e.toNat 0 _ _).1.c = _
    rw [exec_two _ _ _ _ _ _ _ h]
    show (two op _ _ { s with steps := s.steps + 1 }).c = (two op _ _ s).c
    unfold two; (repeat' split) <;> rfl
  · unfold doI
    show (exec [] op d.toNat e.toNat 0 _ _).1.out = _
    rw [exec_two _ _ _ _ _ _ _ h]
    show (two op _ _ { s with steps := s.steps + 1 }).out = _
    rw [two_out]
theorem exec_cmp (inp : List Int) (op : Int) (d e : Nat) (imm next : Int) (s : St) (h : op = 12 ∨ op = 13) : exec inp op d e imm next s = (goOn (two op (s.r d) (s.r e) s) next, 0) := by
  rcases h with rfl | rfl <;> rfl
theorem doI_cmp (op d e : Int) (s : St) (h : op = 12 ∨ op = 13) : ∃ t, doI [] ⟨op, d, e, 0⟩ s = t ∧ t.r = s.r ∧ t.c = (two op (s.r d.toNat) (s.r e.toNat) s).c ∧ t.z = (two op (s.r d.toNat) (s.r e.toNat) s).z ∧ t.n = (two op (s.r d.toNat) (s.r e.toNat) s).n ∧ t.v = (two op (s.r d.toNat) (s.r e.toNat) s).v ∧ t.out = s.out := by
  have e0 : doI [] ⟨op, d, e, 0⟩ s = { goOn (two op (s.r d.toNat) (s.r e.toNat) { s with steps := s.steps + 1 }) (s.pc + (U.enc ⟨op, d, e, 0⟩).length) with how := 0 } := by
    unfold doI
    show ({ (exec [] op d.toNat e.toNat 0 _ _).1 with how := (exec [] op d.toNat e.toNat 0 _ _).2 } : St) = _
    rw [exec_cmp _ _ _ _ _ _ _ h]
  refine ⟨_, rfl, ?_, ?_, ?_, ?_, ?_, ?_⟩ <;> rw [e0] <;> rcases h with rfl | rfl <;> rfl
theorem prs_in {p q : Int} (h : (p, q) ∈ prs) : (p = 5 ∧ q = 6) ∨ (p = 7 ∧ q = 8) ∨ (p = 12 ∧ q = 13) := by
  simp only [prs, List.mem_cons, List.not_mem_nil, or_false, Prod.mk.injEq] at h; exact h
theorem ca_in {p q : Int} (h : (p, q) ∈ prs) {n : Nat} (hn : n = 1 ∨ n = 2) : ∀ i ∈ caL p q n, i.Ok ∧ i.Tidy ∧ Plain i := by
  rcases prs_in h with ⟨rfl, rfl⟩ | ⟨rfl, rfl⟩ | ⟨rfl, rfl⟩ <;> rcases hn with rfl | rfl <;> intro i hi <;> simp only [caL, List.range, List.range.loop, List.map_cons, List.map_nil, List.mem_cons, List.not_mem_nil, or_false] at hi
  all_goals first | (subst hi; exact U.in_full _ _ _ _ rfl ⟨fun h => absurd h (by decide), fun _ => rfl⟩) | (rcases hi with rfl | rfl <;> exact U.in_full _ _ _ _ rfl ⟨fun h => absurd h (by decide), fun _ => rfl⟩)
/-- Sums and differences, word by word. -/
theorem add_1 (x0 y0 : Int) (hx0 : 0 ≤ x0 ∧ x0 < 65536) (hy0 : 0 ≤ y0 ∧ y0 < 65536) : W.sR x0 y0 false = (x0 + y0) % 65536 := by
  unfold W.sR W.cy; simp
theorem add_2 (x0 x1 y0 y1 : Int) (hx0 : 0 ≤ x0 ∧ x0 < 65536) (hx1 : 0 ≤ x1 ∧ x1 < 65536) (hy0 : 0 ≤ y0 ∧ y0 < 65536) (hy1 : 0 ≤ y1 ∧ y1 < 65536) :
    W.sR x0 y0 false + 65536 * W.sR x1 y1 (W.sC x0 y0 false) = (x0 + 65536 * x1 + (y0 + 65536 * y1)) % 4294967296 := by
  unfold W.sR W.sC W.cy
  by_cases h : 65536 ≤ x0 % 65536 + y0 % 65536 + 0
  · simp [h]; omega
  · simp [h]; omega
theorem sub_1 (x0 y0 : Int) (hx0 : 0 ≤ x0 ∧ x0 < 65536) (hy0 : 0 ≤ y0 ∧ y0 < 65536) : W.dR x0 y0 false = (x0 - y0) % 65536 := by
  unfold W.dR W.cy; simp
theorem sub_2 (x0 x1 y0 y1 : Int) (hx0 : 0 ≤ x0 ∧ x0 < 65536) (hx1 : 0 ≤ x1 ∧ x1 < 65536) (hy0 : 0 ≤ y0 ∧ y0 < 65536) (hy1 : 0 ≤ y1 ∧ y1 < 65536) :
    W.dR x0 y0 false + 65536 * W.dR x1 y1 (W.dC x0 y0 false) = (x0 + 65536 * x1 - (y0 + 65536 * y1)) % 4294967296 := by
  unfold W.dR W.dC W.cy
  by_cases h : x0 % 65536 - y0 % 65536 - 0 < 0
  · simp [h]; omega
  · simp [h]; omega
/-- What the flags of a difference tell: one word. -/
theorem less_1 (x0 y0 : Int) (hx0 : 0 ≤ x0 ∧ x0 < 65536) (hy0 : 0 ≤ y0 ∧ y0 < 65536) :
    W.dC x0 y0 false = decide (x0 < y0) ∧ (W.fN (W.dR x0 y0 false) != W.dV x0 y0 false) = decide (W.view x0 < W.view y0) ∧ W.fZ (W.dR x0 y0 false) = decide ((x0 - y0) % 65536 = 0) := by
  have e0 : x0 % 65536 = x0 := by omega
  have e1 : y0 % 65536 = y0 := by omega
  refine ⟨?_, ?_, ?_⟩
  · unfold W.dC W.cy; simp [e0, e1]; omega
  · unfold W.dV W.fN W.dR W.cy W.view
    simp only [e0, e1, Bool.false_eq_true, if_false, Int.sub_zero]
    rw [Bool.eq_iff_iff]
    simp only [bne_iff_ne, ne_eq, decide_eq_decide, decide_eq_true_eq]
    by_cases hx : 32768 ≤ x0 <;> by_cases hy : 32768 ≤ y0 <;> by_cases hr : 32768 ≤ (x0 - y0) % 65536 <;> simp only [hx, hy, hr, if_true, if_false, true_iff, false_iff, Classical.not_not] <;> omega
  · unfold W.fZ W.dR W.cy; simp [e0, e1]
/-- Two words. -/
theorem less_2 (x0 x1 y0 y1 : Int) (hx0 : 0 ≤ x0 ∧ x0 < 65536) (hx1 : 0 ≤ x1 ∧ x1 < 65536) (hy0 : 0 ≤ y0 ∧ y0 < 65536) (hy1 : 0 ≤ y1 ∧ y1 < 65536) :
    W.dC x1 y1 (W.dC x0 y0 false) = decide (x0 + 65536 * x1 < y0 + 65536 * y1) ∧ (W.fN (W.dR x1 y1 (W.dC x0 y0 false)) != W.dV x1 y1 (W.dC x0 y0 false)) = decide (x0 + 65536 * W.view x1 < y0 + 65536 * W.view y1) ∧
      (W.fZ (W.dR x1 y1 (W.dC x0 y0 false)) && W.fZ (W.dR x0 y0 false)) = decide ((x0 + 65536 * x1 - (y0 + 65536 * y1)) % 4294967296 = 0) := by
  have e0 : x0 % 65536 = x0 := by omega
  have e1 : y0 % 65536 = y0 := by omega
  have f0 : x1 % 65536 = x1 := by omega
  have f1 : y1 % 65536 = y1 := by omega
  have hc : W.dC x0 y0 false = decide (x0 < y0) := (less_1 x0 y0 hx0 hy0).1
  rw [hc]
  by_cases h : x0 < y0
  · rw [decide_eq_true h]
    refine ⟨?_, ?_, ?_⟩
    · unfold W.dC W.cy; simp only [f0, f1, if_true, decide_eq_decide]; omega
    · unfold W.dV W.fN W.dR W.cy W.view
      simp only [f0, f1, if_true]
      rw [Bool.eq_iff_iff]
      simp only [bne_iff_ne, ne_eq, decide_eq_decide, decide_eq_true_eq]
      by_cases hx : 32768 ≤ x1 <;> by_cases hy : 32768 ≤ y1 <;> by_cases hr : 32768 ≤ (x1 - y1 - 1) % 65536 <;> simp only [hx, hy, hr, if_true, if_false, true_iff, false_iff, Classical.not_not] <;> omega
    · unfold W.fZ W.dR W.cy
      simp only [e0, e1, f0, f1, if_true, Bool.false_eq_true, if_false, Int.sub_zero]
      rw [Bool.eq_iff_iff]
      simp only [Bool.and_eq_true, decide_eq_true_eq]; omega
  · rw [decide_eq_false h]
    refine ⟨?_, ?_, ?_⟩
    · unfold W.dC W.cy; simp only [f0, f1, Bool.false_eq_true, if_false, decide_eq_decide]; omega
    · unfold W.dV W.fN W.dR W.cy W.view
      simp only [f0, f1, Bool.false_eq_true, if_false, Int.sub_zero]
      rw [Bool.eq_iff_iff]
      simp only [bne_iff_ne, ne_eq, decide_eq_decide, decide_eq_true_eq]
      by_cases hx : 32768 ≤ x1 <;> by_cases hy : 32768 ≤ y1 <;> by_cases hr : 32768 ≤ (x1 - y1) % 65536 <;> simp only [hx, hy, hr, if_true, if_false, true_iff, false_iff, Classical.not_not] <;> omega
    · unfold W.fZ W.dR W.cy
      simp only [e0, e1, f0, f1, Bool.false_eq_true, if_false, Int.sub_zero]
      rw [Bool.eq_iff_iff]
      simp only [Bool.and_eq_true, decide_eq_true_eq]; omega
end Mc
end Go.Proofs.Ytfjgnhmmakeaeaa
