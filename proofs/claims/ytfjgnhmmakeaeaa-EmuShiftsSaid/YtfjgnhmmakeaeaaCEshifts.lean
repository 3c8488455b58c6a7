/- EmuShifts: it shifts numbers of any width by one place, at every input. No condition. -/
import Derived.Test.YtfjgnhmmakeaeaaE54
import Derived.Test.YtfjgnhmmakeaeaaB0
namespace Go.Proofs.Ytfjgnhmmakeaeaa.emuShifts
open Go.ChangeShapes Go.WideShapes Go.ChangeAt Go.RowKit
set_option linter.unusedVariables false
set_option maxRecDepth 100000

theorem walks : Walks 9 Try.f9 := by
  intro H enc W base args ds ps hval hA hsz
  have hA0 := hA
  rw [Try.params9] at hA hval
  obtain ⟨v0, vs0, d0, ds0, p0, q0, hargs, rfl, rfl, h0, r0⟩ := trodAll_cons hA
  obtain ⟨v1, vs1, d1, ds1, p1, q1, rfl, rfl, rfl, h1, r1⟩ := trodAll_cons r0
  obtain ⟨v2, vs2, d2, ds2, p2, q2, rfl, rfl, rfl, h2, r2⟩ := trodAll_cons r1
  obtain ⟨rfl, rfl, rfl⟩ := trodAll_nil r2
  obtain rfl : args = #[v0, v1, v2] := by cases args; simp_all
  obtain ⟨a0, rfl, rfl, rfl, w0⟩ := open_int Try.underlying55 (hval 0 55 v0 rfl rfl) h0
  obtain ⟨a1, rfl, rfl, rfl, w1⟩ := open_int Try.underlying3 (hval 1 3 v1 rfl rfl) h1
  obtain ⟨a2, rfl, rfl, rfl⟩ := open_bool Try.underlying4 (hval 2 4 v2 rfl rfl) h2
  exact shifts_ok a0 a1 a2 W (Go.Proofs.Ytfjgnhmmakeaeaa.W.U_wf w0)

theorem lifted (os : Os) (started : os.Started) (H : Type) (enc : TypeId × Value → H) :
    ReturnsInHanded {} Try.checked os 9 .any (Rows.emuShiftsSpec.pre6 enc Try.prog Try.f9 Rows.emuShiftsRow.domain false) (Rows.emuShiftsSpec.post enc Try.prog Try.f9 false true false false) :=
  law_lifted 9 Try.f9 Rows.emuShiftsSpec Try.func9 (by kernel_rfl) rfl rfl (all_of_B (by kernel_rfl)) (fun H ds h => by match ds, h with | [d0, d1, d2], _ => exact ⟨rfl, rfl, rfl⟩) os started H enc
    (ChangeSpec.witness6 (enc := enc) (C := Try.checked) false ⟨#[], #[.int .u64 0, .int .i64 0, .bool false], []⟩ 8 (by kernel_rfl) (by kernel_rfl) (by kernel_rfl) (by kernel_rfl)) walks

theorem kNamed : Try.pinned.checked.prog.funcNamed Rows.emuShiftsRow.func = some 9 := by kernel_rfl
theorem kJoined : joinedFacts Try.pinned.checked.prog 9 Try.f9 Rows.emuShiftsSpec Rows.emuShiftsRow = true := by kernel_rfl
theorem kInst : Try.f9.isInstance Try.pinned.checked.prog Rows.emuShiftsRow.origin Rows.emuShiftsRow.targs := of_decide_eq_true (by kernel_rfl)
theorem kWrap : Try.f9.isWrapper Try.pinned.checked.prog Rows.emuShiftsRow.wrapper Rows.emuShiftsRow.mainSum := by
  unfold Func.isWrapper; first | (rw [if_pos (by decide +kernel)]; kernel_rfl) | (rw [if_neg (by decide +kernel)]; exact ⟨rfl, rfl⟩)
theorem over : Rows.emuShiftsRow.holds Try.pinned (OpenSpec.ofChange Rows.emuShiftsSpec) :=
  OpenClaim.holds_of_wide 9 Try.f9 rfl rfl rfl rfl rfl rfl rfl ⟨rfl, rfl, rfl, rfl, rfl⟩ rfl rfl rfl rfl rfl kNamed Try.func9 kJoined kInst kWrap
    (fun os started H enc _ => lifted os started H enc)

/-- THE STATEMENT. -/
theorem proved : Rows.EmuShiftsSaid := over
#print axioms proved
end Go.Proofs.Ytfjgnhmmakeaeaa.emuShifts
