/- Walks of instr.of, wordly, register; what an instruction has. -/
import Derived.Test.YtfjgnhmmakeaeaaB0
import Derived.Test.YtfjgnhmmakeaeaaRows
import Derived.WalkSpells
import Derived.WalkLawsBesides
namespace Go.Proofs.Ytfjgnhmmakeaeaa
open Go.RowKit
set_option linter.unusedVariables false
set_option linter.unusedSimpArgs false
set_option maxRecDepth 100000

namespace U
/-- Which of D, S and Imm an instruction has, and whether it is known. -/
def hd (op : Int) : Bool := decide ((1 ≤ op ∧ op ≤ 18) ∨ op = 29 ∨ op = 31)
def hs (op : Int) : Bool := decide (op = 1 ∨ (3 ≤ op ∧ op ≤ 13) ∨ op = 28 ∨ op = 30)
def hi (op : Int) : Bool := decide ((2 ≤ op ∧ op ≤ 4) ∨ (19 ≤ op ∧ op ≤ 26) ∨ op = 32)
def hk (op : Int) : Bool := decide (0 ≤ op ∧ op ≤ 32)
end U
abbrev usV (d s i k : Bool) : Value := .agg #[.bool d, .bool s, .bool i, .bool k]
theorem cases33 {op : Int} (h0 : 0 ≤ op) (h1 : op ≤ 32) : op = 0 ∨ op = 1 ∨ op = 2 ∨ op = 3 ∨ op = 4 ∨ op = 5 ∨ op = 6 ∨ op = 7 ∨ op = 8 ∨ op = 9 ∨ op = 10 ∨ op = 11 ∨ op = 12 ∨ op = 13 ∨ op = 14 ∨ op = 15 ∨ op = 16 ∨ op = 17 ∨ op = 18 ∨ op = 19 ∨ op = 20 ∨ op = 21 ∨ op = 22 ∨ op = 23 ∨ op = 24 ∨ op = 25 ∨ op = 26 ∨ op = 27 ∨ op = 28 ∨ op = 29 ∨ op = 30 ∨ op = 31 ∨ op = 32 := by omega
set_option maxHeartbeats 20000000 in
theorem of_in (op : Int) (h0 : 0 ≤ op) (h1 : op ≤ 32) (w : World) : Calls Try.prog 47 #[.int .i64 op] w fun e w' => e = .returned (usV (U.hd op) (U.hs op) (U.hi op) (U.hk op)) ∧ Below w.heap.size w w' := by
  rcases cases33 h0 h1 with rfl | rfl | rfl | rfl | rfl | rfl | rfl | rfl | rfl | rfl | rfl | rfl | rfl | rfl | rfl | rfl | rfl | rfl | rfl | rfl | rfl | rfl | rfl | rfl | rfl | rfl | rfl | rfl | rfl | rfl | rfl | rfl | rfl
  all_goals
    clear h0 h1
    go_enter Try.func47, Try.ntmps47
    go_wp2
    exact bodyPost_ret (v := usV _ _ _ _) (by simp [results, Try.results47, go_sem]; exact ⟨rfl, rfl, rfl, rfl⟩) rfl ⟨rfl, by repeat (first | exact Below.refl _ _ | refine Ext.setCell ?_ (by simp) _ | refine Ext.alloc ?_ _)⟩
end Go.Proofs.Ytfjgnhmmakeaeaa
/- Walks of instr.of (all), wordly, One. -/
namespace Go.Proofs.Ytfjgnhmmakeaeaa
open Go.RowKit
set_option linter.unusedVariables false
set_option linter.unusedSimpArgs false
set_option maxRecDepth 100000

set_option maxHeartbeats 4000000 in
theorem of_low (op : Int) (h : op < 0) (w : World) : Calls Try.prog 47 #[.int .i64 op] w fun e w' => e = .returned (usV false false false false) ∧ Below w.heap.size w w' := by
  have e0 : (op == 0) = false := by simp; omega
  have e27 : (op == 27) = false := by simp; omega
  have e1 : (op == 1) = false := by simp; omega
  have e2 : (op == 2) = false := by simp; omega
  have e3 : (op == 3) = false := by simp; omega
  have e4 : (op == 4) = false := by simp; omega
  have e29 : (op == 29) = false := by simp; omega
  have e31 : (op == 31) = false := by simp; omega
  have e28 : (op == 28) = false := by simp; omega
  have e30 : (op == 30) = false := by simp; omega
  have e32 : (op == 32) = false := by simp; omega
  have g5 : decide (op ≥ 5) = false := by simp; omega
  have g14 : decide (op ≥ 14) = false := by simp; omega
  have g19 : decide (op ≥ 19) = false := by simp; omega
  go_enter Try.func47, Try.ntmps47
  go_wp2
  exact bodyPost_ret (v := usV false false false false) (by simp [results, Try.results47, go_sem]) rfl ⟨rfl, by repeat (first | exact Below.refl _ _ | refine Ext.setCell ?_ (by simp) _ | refine Ext.alloc ?_ _)⟩
set_option maxHeartbeats 4000000 in
theorem of_high (op : Int) (h : 32 < op) (w : World) : Calls Try.prog 47 #[.int .i64 op] w fun e w' => e = .returned (usV false false false false) ∧ Below w.heap.size w w' := by
  have e0 : (op == 0) = false := by simp; omega
  have e27 : (op == 27) = false := by simp; omega
  have e1 : (op == 1) = false := by simp; omega
  have e2 : (op == 2) = false := by simp; omega
  have e3 : (op == 3) = false := by simp; omega
  have e4 : (op == 4) = false := by simp; omega
  have e29 : (op == 29) = false := by simp; omega
  have e31 : (op == 31) = false := by simp; omega
  have e28 : (op == 28) = false := by simp; omega
  have e30 : (op == 30) = false := by simp; omega
  have e32 : (op == 32) = false := by simp; omega
  have g5 : decide (op ≤ 13) = false := by simp; omega
  have g14 : decide (op ≤ 18) = false := by simp; omega
  have g19 : decide (op ≤ 26) = false := by simp; omega
  have i5 : decide (op ≥ 5) = true := by simp; omega
  have i14 : decide (op ≥ 14) = true := by simp; omega
  have i19 : decide (op ≥ 19) = true := by simp; omega
  go_enter Try.func47, Try.ntmps47
  go_wp2
  exact bodyPost_ret (v := usV false false false false) (by simp [results, Try.results47, go_sem]) rfl ⟨rfl, by repeat (first | exact Below.refl _ _ | refine Ext.setCell ?_ (by simp) _ | refine Ext.alloc ?_ _)⟩
theorem of_any (op : Int) (w : World) : Calls Try.prog 47 #[.int .i64 op] w fun e w' => e = .returned (usV (U.hd op) (U.hs op) (U.hi op) (U.hk op)) ∧ Below w.heap.size w w' := by
  by_cases h0 : op < 0
  · have e : U.hd op = false ∧ U.hs op = false ∧ U.hi op = false ∧ U.hk op = false := by
      refine ⟨?_, ?_, ?_, ?_⟩ <;> simp [U.hd, U.hs, U.hi, U.hk] <;> omega
    rw [e.1, e.2.1, e.2.2.1, e.2.2.2]; exact of_low op h0 w
  by_cases h1 : 32 < op
  · have e : U.hd op = false ∧ U.hs op = false ∧ U.hi op = false ∧ U.hk op = false := by
      refine ⟨?_, ?_, ?_, ?_⟩ <;> simp [U.hd, U.hs, U.hi, U.hk] <;> omega
    rw [e.1, e.2.1, e.2.2.1, e.2.2.2]; exact of_high op h1 w
  · exact of_in op (by omega) (by omega) w
/-- A word of sixteen bits. -/
def U.wd (x : Int) : Bool := decide (0 ≤ x ∧ x ≤ 65535)
theorem wordly_ok (x : Int) (w : World) : Calls Try.prog 60 #[.int .i64 x] w fun e w' => e = .returned (.bool (U.wd x)) ∧ w = w' := by
  unfold U.wd
  by_cases h0 : 0 ≤ x
  · by_cases h1 : x ≤ 65535
    · have e : decide (0 ≤ x ∧ x ≤ 65535) = true := by simp [h0, h1]
      rw [e]; clear e
      go_enter Try.func60, Try.ntmps60
      go_wp2
      go_ret
      exact ⟨rfl, rfl⟩
    · have e : decide (0 ≤ x ∧ x ≤ 65535) = false := by simp; omega
      rw [e]; clear e
      have h2 : decide (x ≤ 65535) = false := by simp; omega
      clear h1
      go_enter Try.func60, Try.ntmps60
      go_wp2
      go_ret
      exact ⟨rfl, rfl⟩
  · have e : decide (0 ≤ x ∧ x ≤ 65535) = false := by simp; omega
    rw [e]; clear e
    have h2 : decide (x ≥ 0) = false := by simp; omega
    clear h0
    go_enter Try.func60, Try.ntmps60
    go_wp2
    go_ret
    exact ⟨rfl, rfl⟩
end Go.Proofs.Ytfjgnhmmakeaeaa
