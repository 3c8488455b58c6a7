/- TypesTell: the answers of chapter 7 are the reference's, at every input. No condition. -/
import Derived.Test.YtgpjhbaehhjdhaaM7
import Derived.Test.YtgpjhbaehhjdhaaOq
import Derived.Test.YtgpjhbaehhjdhaaOp
namespace Go.Proofs.Ytgpjhbaehhjdhaa.typesTell
open Go.ChangeShapes Go.WideShapes Go.ChangeAt Go.RowKit
set_option linter.unusedVariables false
set_option maxRecDepth 100000

theorem walks : Walks 14 Try.f14 := by
  intro H enc W base args ds ps hval hA hsz
  have hA0 := hA
  rw [Try.params14] at hA hval
  obtain ⟨v0, vs0, d0, ds0, p0, q0, hargs, rfl, rfl, h0, r0⟩ := trodAll_cons hA
  obtain ⟨v1, vs1, d1, ds1, p1, q1, rfl, rfl, rfl, h1, r1⟩ := trodAll_cons r0
  obtain ⟨v2, vs2, d2, ds2, p2, q2, rfl, rfl, rfl, h2, r2⟩ := trodAll_cons r1
  obtain ⟨v3, vs3, d3, ds3, p3, q3, rfl, rfl, rfl, h3, r3⟩ := trodAll_cons r2
  obtain ⟨v4, vs4, d4, ds4, p4, q4, rfl, rfl, rfl, h4, r4⟩ := trodAll_cons r3
  obtain ⟨v5, vs5, d5, ds5, p5, q5, rfl, rfl, rfl, h5, r5⟩ := trodAll_cons r4
  obtain ⟨rfl, rfl, rfl⟩ := trodAll_nil r5
  obtain rfl : args = #[v0, v1, v2, v3, v4, v5] := by cases args; simp_all
  obtain ⟨a0, b0, rfl, w0⟩ := op_type (hval 0 66 v0 rfl rfl) h0
  obtain ⟨a1, b1, rfl, w1⟩ := op_type (hval 1 66 v1 rfl rfl) h1
  obtain ⟨a2, rfl, rfl, rfl, w2⟩ := Go.ChangeMaps.open_string Try.underlying9 (hval 2 9 v2 rfl rfl) h2
  obtain ⟨a3, rfl, rfl, rfl, w3⟩ := open_int Try.underlying3 (hval 3 3 v3 rfl rfl) h3
  obtain ⟨a4, rfl, rfl, rfl, w4⟩ := open_int Try.underlying22 (hval 4 22 v4 rfl rfl) h4
  obtain ⟨a5, rfl, rfl, rfl⟩ := open_bool Try.underlying4 (hval 5 4 v5 rfl rfl) h5
  exact tell_walk a0 b0 w0 a1 b1 w1 a2 w2 a3 w3 a4 w4 a5 W

theorem lifted (os : Os) (started : os.Started) (H : Type) (enc : TypeId × Value → H) :
    ReturnsInHanded {} Try.checked os 14 .any (Rows.typesTellSpec.pre6 enc Try.prog Try.f14 Rows.typesTellRow.domain false) (Rows.typesTellSpec.post enc Try.prog Try.f14 false true false false) :=
  law_lifted 14 Try.f14 Rows.typesTellSpec Try.func14 (by kernel_rfl) rfl rfl (all_of_B (by kernel_rfl)) (fun H ds h => by match ds, h with | [d0, d1, d2, d3, d4, d5], _ => exact ⟨rfl, rfl, rfl⟩) os started H enc
    (ChangeSpec.witness6 (enc := enc) (C := Try.checked) false ⟨#[], #[.agg #[.int .i64 0, .bool false], .agg #[.int .i64 0, .bool false], .string ByteArray.empty, .int .i64 0, .int .u64 0, .bool false], []⟩ 8 (by kernel_rfl) (by kernel_rfl) (by kernel_rfl) (by kernel_rfl)) walks

theorem kNamed : Try.pinned.checked.prog.funcNamed Rows.typesTellRow.func = some 14 := by kernel_rfl
theorem kJoined : joinedFacts Try.pinned.checked.prog 14 Try.f14 Rows.typesTellSpec Rows.typesTellRow = true := by kernel_rfl
theorem kInst : Try.f14.isInstance Try.pinned.checked.prog Rows.typesTellRow.origin Rows.typesTellRow.targs := of_decide_eq_true (by kernel_rfl)
theorem kWrap : Try.f14.isWrapper Try.pinned.checked.prog Rows.typesTellRow.wrapper Rows.typesTellRow.mainSum := by
  unfold Func.isWrapper; first | (rw [if_pos (by decide +kernel)]; kernel_rfl) | (rw [if_neg (by decide +kernel)]; exact ⟨rfl, rfl⟩)
theorem over : Rows.typesTellRow.holds Try.pinned (OpenSpec.ofChange Rows.typesTellSpec) :=
  OpenClaim.holds_of_wide 14 Try.f14 rfl rfl rfl rfl rfl rfl rfl ⟨rfl, rfl, rfl, rfl, rfl⟩ rfl rfl rfl rfl rfl kNamed Try.func14 kJoined kInst kWrap
    (fun os started H enc _ => lifted os started H enc)

/-- THE STATEMENT. -/
theorem proved : Rows.TypesTellSaid := over
#print axioms proved
end Go.Proofs.Ytgpjhbaehhjdhaa.typesTell
