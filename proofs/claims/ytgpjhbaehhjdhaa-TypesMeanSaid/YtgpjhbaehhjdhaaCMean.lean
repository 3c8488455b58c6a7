/- TypesMean: what fits is meant, at every input. No condition. -/
import Derived.Test.YtgpjhbaehhjdhaaL18
import Derived.Test.YtgpjhbaehhjdhaaOq
import Derived.Test.YtgpjhbaehhjdhaaOp
namespace Go.Proofs.Ytgpjhbaehhjdhaa.typesMean
open Go.ChangeShapes Go.WideShapes Go.ChangeAt Go.RowKit
set_option linter.unusedVariables false
set_option maxRecDepth 100000

theorem walks : Walks 15 Try.f15 := by
  intro H enc W base args ds ps hval hA hsz
  have hA0 := hA
  rw [Try.params15] at hA hval
  obtain ⟨v0, vs0, d0, ds0, p0, q0, hargs, rfl, rfl, h0, r0⟩ := trodAll_cons hA
  obtain ⟨v1, vs1, d1, ds1, p1, q1, rfl, rfl, rfl, h1, r1⟩ := trodAll_cons r0
  obtain ⟨v2, vs2, d2, ds2, p2, q2, rfl, rfl, rfl, h2, r2⟩ := trodAll_cons r1
  obtain ⟨rfl, rfl, rfl⟩ := trodAll_nil r2
  obtain rfl : args = #[v0, v1, v2] := by cases args; simp_all
  obtain ⟨a0, rfl, rfl, rfl, w0⟩ := open_int Try.underlying22 (hval 0 22 v0 rfl rfl) h0
  obtain ⟨a1, b1, rfl, w1⟩ := op_type (hval 1 66 v1 rfl rfl) h1
  obtain ⟨a2, b2, rfl, w2⟩ := op_type (hval 2 66 v2 rfl rfl) h2
  exact mean_all a0 w0 a1 b1 w1 a2 b2 w2 W

theorem lifted (os : Os) (started : os.Started) (H : Type) (enc : TypeId × Value → H) :
    ReturnsInHanded {} Try.checked os 15 .any (Rows.typesMeanSpec.pre6 enc Try.prog Try.f15 Rows.typesMeanRow.domain false) (Rows.typesMeanSpec.post enc Try.prog Try.f15 false true false false) :=
  law_lifted 15 Try.f15 Rows.typesMeanSpec Try.func15 (by kernel_rfl) rfl rfl (all_of_B (by kernel_rfl)) (fun H ds h => by match ds, h with | [d0, d1, d2], _ => exact ⟨rfl, rfl, rfl⟩) os started H enc
    (ChangeSpec.witness6 (enc := enc) (C := Try.checked) false ⟨#[], #[.int .u64 0, .agg #[.int .i64 0, .bool false], .agg #[.int .i64 0, .bool false]], []⟩ 8 (by kernel_rfl) (by kernel_rfl) (by kernel_rfl) (by kernel_rfl)) walks

theorem over : Rows.typesMeanRow.holds Try.pinned (OpenSpec.ofChange Rows.typesMeanSpec) :=
  OpenClaim.holds_of_wide 15 Try.f15 rfl rfl rfl rfl rfl rfl rfl ⟨rfl, rfl, rfl, rfl, rfl⟩ rfl rfl rfl rfl rfl (by kernel_rfl) Try.func15 (by kernel_rfl)
    (of_decide_eq_true (by kernel_rfl)) (by unfold Func.isWrapper; first | (rw [if_pos (by decide +kernel)]; kernel_rfl) | (rw [if_neg (by decide +kernel)]; exact ⟨rfl, rfl⟩))
    (fun os started H enc _ => lifted os started H enc)

/-- THE STATEMENT. -/
theorem proved : Rows.TypesMeanSaid := over
#print axioms proved
end Go.Proofs.Ytgpjhbaehhjdhaa.typesMean
