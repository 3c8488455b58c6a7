/- EmuRuns: the run tells what the document says, at every input. No condition. -/
import Derived.Test.YtfjgnhmmakeaeaaQ6
import Derived.Test.YtfjgnhmmakeaeaaOs
import Derived.Test.YtfjgnhmmakeaeaaB0
namespace Go.Proofs.Ytfjgnhmmakeaeaa.emuRuns
open Go.ChangeShapes Go.WideShapes Go.ChangeAt Go.RowKit
set_option linter.unusedVariables false
set_option maxRecDepth 100000

theorem walks : Walks 3 Try.f3 := by
  intro H enc W base args ds ps hval hA hsz
  have hA0 := hA
  rw [Try.params3] at hA hval
  obtain ⟨v0, vs0, d0, ds0, p0, q0, hargs, rfl, rfl, h0, r0⟩ := trodAll_cons hA
  obtain ⟨v1, vs1, d1, ds1, p1, q1, rfl, rfl, rfl, h1, r1⟩ := trodAll_cons r0
  obtain ⟨v2, vs2, d2, ds2, p2, q2, rfl, rfl, rfl, h2, r2⟩ := trodAll_cons r1
  obtain ⟨v3, vs3, d3, ds3, p3, q3, rfl, rfl, rfl, h3, r3⟩ := trodAll_cons r2
  obtain ⟨rfl, rfl, rfl⟩ := trodAll_nil r3
  obtain rfl : args = #[v0, v1, v2, v3] := by cases args; simp_all
  obtain ⟨n0, x0, w0⟩ := op_ints (hval 0 22 v0 rfl rfl) h0
  obtain ⟨s1r0, s1r1, s1r2, s1r3, s1r4, s1r5, s1r6, s1r7, s1c, s1z, s1n, s1v, s1pc, s1m, s1mn, s1ms, rfl, s1h⟩ := op_state (hval 1 27 v1 rfl rfl) h1
  obtain ⟨n2, x2, w2⟩ := op_bytes (hval 2 28 v2 rfl rfl) h2
  obtain ⟨a3, rfl, rfl, rfl, w3⟩ := open_int Try.underlying3 (hval 3 3 v3 rfl rfl) h3
  exact eruns_ok v0 v2 s1m n0 n2 s1mn s1r0 s1r1 s1r2 s1r3 s1r4 s1r5 s1r6 s1r7 s1pc a3 s1c s1z s1n s1v x0 x2 s1ms W w0.1 w2.1 s1h w2.2

theorem lifted (os : Os) (started : os.Started) (H : Type) (enc : TypeId × Value → H) :
    ReturnsInHanded {} Try.checked os 3 .any (Rows.emuRunsSpec.pre6 enc Try.prog Try.f3 Rows.emuRunsRow.domain false) (Rows.emuRunsSpec.post enc Try.prog Try.f3 false true false false) :=
  law_lifted 3 Try.f3 Rows.emuRunsSpec Try.func3 (by kernel_rfl) rfl rfl (all_of_B (by kernel_rfl)) (fun H ds h => by match ds, h with | [d0, d1, d2, d3], _ => exact ⟨rfl, rfl, rfl⟩) os started H enc
    (ChangeSpec.witness6 (enc := enc) (C := Try.checked) false ⟨#[], #[.slice none 0 0, .agg #[.int .i64 0, .int .i64 0, .int .i64 0, .int .i64 0, .int .i64 0, .int .i64 0, .int .i64 0, .int .i64 0, .bool false, .bool false, .bool false, .bool false, .int .i64 0, .slice none 0 0], .slice none 0 0, .int .i64 0], []⟩ 8 (by kernel_rfl) (by kernel_rfl) (by kernel_rfl) (by kernel_rfl)) walks

theorem kNamed : Try.pinned.checked.prog.funcNamed Rows.emuRunsRow.func = some 3 := by kernel_rfl
theorem kJoined : joinedFacts Try.pinned.checked.prog 3 Try.f3 Rows.emuRunsSpec Rows.emuRunsRow = true := by kernel_rfl
theorem kInst : Try.f3.isInstance Try.pinned.checked.prog Rows.emuRunsRow.origin Rows.emuRunsRow.targs := of_decide_eq_true (by kernel_rfl)
theorem kWrap : Try.f3.isWrapper Try.pinned.checked.prog Rows.emuRunsRow.wrapper Rows.emuRunsRow.mainSum := by
  unfold Func.isWrapper; first | (rw [if_pos (by decide +kernel)]; kernel_rfl) | (rw [if_neg (by decide +kernel)]; exact ⟨rfl, rfl⟩)
theorem over : Rows.emuRunsRow.holds Try.pinned (OpenSpec.ofChange Rows.emuRunsSpec) :=
  OpenClaim.holds_of_wide 3 Try.f3 rfl rfl rfl rfl rfl rfl rfl ⟨rfl, rfl, rfl, rfl, rfl⟩ rfl rfl rfl rfl rfl kNamed Try.func3 kJoined kInst kWrap
    (fun os started H enc _ => lifted os started H enc)

/-- THE STATEMENT. -/
theorem proved : Rows.EmuRunsSaid := over
#print axioms proved
end Go.Proofs.Ytfjgnhmmakeaeaa.emuRuns
