/- EmuTells: what comes in is told, at every input. No condition. -/
import Derived.Test.YtfjgnhmmakeaeaaE43
import Derived.Test.YtfjgnhmmakeaeaaOs
import Derived.Test.YtfjgnhmmakeaeaaB0
namespace Go.Proofs.Ytfjgnhmmakeaeaa.emuTells
open Go.ChangeShapes Go.WideShapes Go.ChangeAt Go.RowKit
set_option linter.unusedVariables false
set_option maxRecDepth 100000

theorem walks : Walks 8 Try.f8 := by
  intro H enc W base args ds ps hval hA hsz
  have hA0 := hA
  rw [Try.params8] at hA hval
  obtain ⟨v0, vs0, d0, ds0, p0, q0, hargs, rfl, rfl, h0, r0⟩ := trodAll_cons hA
  obtain ⟨rfl, rfl, rfl⟩ := trodAll_nil r0
  obtain rfl : args = #[v0] := by cases args; simp_all
  obtain ⟨n0, x0, w0⟩ := op_bytes (hval 0 28 v0 rfl rfl) h0
  exact tells_ok v0 n0 x0 W w0.1 w0.2

theorem lifted (os : Os) (started : os.Started) (H : Type) (enc : TypeId × Value → H) :
    ReturnsInHanded {} Try.checked os 8 .any (Rows.emuTellsSpec.pre6 enc Try.prog Try.f8 Rows.emuTellsRow.domain false) (Rows.emuTellsSpec.post enc Try.prog Try.f8 false true false false) :=
  law_lifted 8 Try.f8 Rows.emuTellsSpec Try.func8 (by kernel_rfl) rfl rfl (all_of_B (by kernel_rfl)) (fun H ds h => by match ds, h with | [d0], _ => exact ⟨rfl, rfl, rfl⟩) os started H enc
    (ChangeSpec.witness6 (enc := enc) (C := Try.checked) false ⟨#[], #[.slice none 0 0], []⟩ 8 (by kernel_rfl) (by kernel_rfl) (by kernel_rfl) (by kernel_rfl)) walks

theorem kNamed : Try.pinned.checked.prog.funcNamed Rows.emuTellsRow.func = some 8 := by kernel_rfl
theorem kJoined : joinedFacts Try.pinned.checked.prog 8 Try.f8 Rows.emuTellsSpec Rows.emuTellsRow = true := by kernel_rfl
theorem kInst : Try.f8.isInstance Try.pinned.checked.prog Rows.emuTellsRow.origin Rows.emuTellsRow.targs := of_decide_eq_true (by kernel_rfl)
theorem kWrap : Try.f8.isWrapper Try.pinned.checked.prog Rows.emuTellsRow.wrapper Rows.emuTellsRow.mainSum := by
  unfold Func.isWrapper; first | (rw [if_pos (by decide +kernel)]; kernel_rfl) | (rw [if_neg (by decide +kernel)]; exact ⟨rfl, rfl⟩)
theorem over : Rows.emuTellsRow.holds Try.pinned (OpenSpec.ofChange Rows.emuTellsSpec) :=
  OpenClaim.holds_of_wide 8 Try.f8 rfl rfl rfl rfl rfl rfl rfl ⟨rfl, rfl, rfl, rfl, rfl⟩ rfl rfl rfl rfl rfl kNamed Try.func8 kJoined kInst kWrap
    (fun os started H enc _ => lifted os started H enc)

/-- THE STATEMENT. -/
theorem proved : Rows.EmuTellsSaid := over
#print axioms proved
end Go.Proofs.Ytfjgnhmmakeaeaa.emuTells
