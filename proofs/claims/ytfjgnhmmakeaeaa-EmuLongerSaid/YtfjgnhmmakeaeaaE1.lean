/- Walks of instr.of, wordly, register; what an instruction has. -/
import Derived.Test.YtfjgnhmmakeaeaaSm
import Derived.Test.YtfjgnhmmakeaeaaWq
import Derived.Test.YtfjgnhmmakeaeaaRows
import Derived.WalkSpells
import Derived.WalkLawsBesides
namespace Go.Proofs.Ytfjgnhmmakeaeaa
open Go.RowKit
set_option linter.unusedVariables false
set_option linter.unusedSimpArgs false
set_option maxRecDepth 100000

namespace U
/-- Which of D, S and Imm an instruction has, and whether it is known. -/
def hd (op : Int) : Bool := decide ((1 ≤ op ∧ op ≤ 18) ∨ op = 29 ∨ op = 31)
def hs (op : Int) : Bool := decide (op = 1 ∨ (3 ≤ op ∧ op ≤ 13) ∨ op = 28 ∨ op = 30)
def hi (op : Int) : Bool := decide ((2 ≤ op ∧ op ≤ 4) ∨ (19 ≤ op ∧ op ≤ 26) ∨ op = 32)
def hk (op : Int) : Bool := decide (0 ≤ op ∧ op ≤ 32)
end U
abbrev usV (d s i k : Bool) : Value := .agg #[.bool d, .bool s, .bool i, .bool k]
theorem cases33 {op : Int} (h0 : 0 ≤ op) (h1 : op ≤ 32) : op = 0 ∨ op = 1 ∨ op = 2 ∨ op = 3 ∨ op = 4 ∨ op = 5 ∨ op = 6 ∨ op = 7 ∨ op = 8 ∨ op = 9 ∨ op = 10 ∨ op = 11 ∨ op = 12 ∨ op = 13 ∨ op = 14 ∨ op = 15 ∨ op = 16 ∨ op = 17 ∨ op = 18 ∨ op = 19 ∨ op = 20 ∨ op = 21 ∨ op = 22 ∨ op = 23 ∨ op = 24 ∨ op = 25 ∨ op = 26 ∨ op = 27 ∨ op = 28 ∨ op = 29 ∨ op = 30 ∨ op = 31 ∨ op = 32 := by omega
set_option maxHeartbeats 20000000 in
theorem of_in (op : Int) (h0 : 0 ≤ op) (h1 : op ≤ 32) (w : World) : Calls Try.prog 47 #[.int .i64 op] w fun e w' => e = .returned (usV (U.hd op) (U.hs op) (U.hi op) (U.hk op)) ∧ Below w.heap.size w w' := by
  rcases cases33 h0 h1 with rfl | rfl | rfl | rfl | rfl | rfl | rfl | rfl | rfl | rfl | rfl | rfl | rfl | rfl | rfl | rfl | rfl | rfl | rfl | rfl | rfl | rfl | rfl | rfl | rfl | rfl | rfl | rfl | rfl | rfl | rfl | rfl | rfl
  all_goals
    clear h0 h1
    go_enter Try.func47, Try.ntmps47
    go_wp2
    exact bodyPost_ret (v := usV _ _ _ _) (by simp [results, Try.results47, go_sem]; exact ⟨rfl, rfl, rfl, rfl⟩) rfl ⟨rfl, by repeat (first | exact Below.refl _ _ | refine Ext.setCell ?_ (by simp) _ | refine Ext.alloc ?_ _)⟩
end Go.Proofs.Ytfjgnhmmakeaeaa
