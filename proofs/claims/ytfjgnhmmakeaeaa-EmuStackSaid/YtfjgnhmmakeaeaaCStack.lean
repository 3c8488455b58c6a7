/- EmuStack: what is pushed last is popped first, and the stack is where it was, at every input. No condition. -/
import Derived.Test.YtfjgnhmmakeaeaaE50
import Derived.Test.YtfjgnhmmakeaeaaOs
import Derived.Test.YtfjgnhmmakeaeaaB0
namespace Go.Proofs.Ytfjgnhmmakeaeaa.emuStack
open Go.ChangeShapes Go.WideShapes Go.ChangeAt Go.RowKit
set_option linter.unusedVariables false
set_option maxRecDepth 100000

theorem walks : Walks 6 Try.f6 := by
  intro H enc W base args ds ps hval hA hsz
  have hA0 := hA
  rw [Try.params6] at hA hval
  obtain ⟨v0, vs0, d0, ds0, p0, q0, hargs, rfl, rfl, h0, r0⟩ := trodAll_cons hA
  obtain ⟨v1, vs1, d1, ds1, p1, q1, rfl, rfl, rfl, h1, r1⟩ := trodAll_cons r0
  obtain ⟨rfl, rfl, rfl⟩ := trodAll_nil r1
  obtain rfl : args = #[v0, v1] := by cases args; simp_all
  obtain ⟨s0r0, s0r1, s0r2, s0r3, s0r4, s0r5, s0r6, s0r7, s0c, s0z, s0n, s0v, s0pc, s0m, s0mn, s0ms, rfl, s0h⟩ := op_state (hval 0 27 v0 rfl rfl) h0
  obtain ⟨n1, x1, w1⟩ := op_ints (hval 1 22 v1 rfl rfl) h1
  exact stack_ok s0m v1 s0mn n1 s0r0 s0r1 s0r2 s0r3 s0r4 s0r5 s0r6 s0r7 s0pc s0c s0z s0n s0v s0ms x1 W s0h w1.1

theorem lifted (os : Os) (started : os.Started) (H : Type) (enc : TypeId × Value → H) :
    ReturnsInHanded {} Try.checked os 6 .any (Rows.emuStackSpec.pre6 enc Try.prog Try.f6 Rows.emuStackRow.domain false) (Rows.emuStackSpec.post enc Try.prog Try.f6 false true false false) :=
  law_lifted 6 Try.f6 Rows.emuStackSpec Try.func6 (by kernel_rfl) rfl rfl (all_of_B (by kernel_rfl)) (fun H ds h => by match ds, h with | [d0, d1], _ => exact ⟨rfl, rfl, rfl⟩) os started H enc
    (ChangeSpec.witness6 (enc := enc) (C := Try.checked) false ⟨#[], #[.agg #[.int .i64 0, .int .i64 0, .int .i64 0, .int .i64 0, .int .i64 0, .int .i64 0, .int .i64 0, .int .i64 0, .bool false, .bool false, .bool false, .bool false, .int .i64 0, .slice none 0 0], .slice none 0 0], []⟩ 8 (by kernel_rfl) (by kernel_rfl) (by kernel_rfl) (by kernel_rfl)) walks

theorem kNamed : Try.pinned.checked.prog.funcNamed Rows.emuStackRow.func = some 6 := by kernel_rfl
theorem kJoined : joinedFacts Try.pinned.checked.prog 6 Try.f6 Rows.emuStackSpec Rows.emuStackRow = true := by kernel_rfl
theorem kInst : Try.f6.isInstance Try.pinned.checked.prog Rows.emuStackRow.origin Rows.emuStackRow.targs := of_decide_eq_true (by kernel_rfl)
theorem kWrap : Try.f6.isWrapper Try.pinned.checked.prog Rows.emuStackRow.wrapper Rows.emuStackRow.mainSum := by
  unfold Func.isWrapper; first | (rw [if_pos (by decide +kernel)]; kernel_rfl) | (rw [if_neg (by decide +kernel)]; exact ⟨rfl, rfl⟩)
theorem over : Rows.emuStackRow.holds Try.pinned (OpenSpec.ofChange Rows.emuStackSpec) :=
  OpenClaim.holds_of_wide 6 Try.f6 rfl rfl rfl rfl rfl rfl rfl ⟨rfl, rfl, rfl, rfl, rfl⟩ rfl rfl rfl rfl rfl kNamed Try.func6 kJoined kInst kWrap
    (fun os started H enc _ => lifted os started H enc)

/-- THE STATEMENT. -/
theorem proved : Rows.EmuStackSaid := over
#print axioms proved
end Go.Proofs.Ytfjgnhmmakeaeaa.emuStack
