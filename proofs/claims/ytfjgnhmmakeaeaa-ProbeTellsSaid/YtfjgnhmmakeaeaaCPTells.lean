/- ProbeTells: the steps of a run, where it stops and how often it came to each word are as the document says, at every input. No condition. -/
import Derived.Test.YtfjgnhmmakeaeaaQ11
import Derived.Test.YtfjgnhmmakeaeaaOs
import Derived.Test.YtfjgnhmmakeaeaaB0
namespace Go.Proofs.Ytfjgnhmmakeaeaa.probeTells
open Go.ChangeShapes Go.WideShapes Go.ChangeAt Go.RowKit
set_option linter.unusedVariables false
set_option maxRecDepth 100000

theorem walks : Walks 11 Try.f11 := by
  intro H enc W base args ds ps hval hA hsz
  have hA0 := hA
  rw [Try.params11] at hA hval
  obtain ⟨v0, vs0, d0, ds0, p0, q0, hargs, rfl, rfl, h0, r0⟩ := trodAll_cons hA
  obtain ⟨v1, vs1, d1, ds1, p1, q1, rfl, rfl, rfl, h1, r1⟩ := trodAll_cons r0
  obtain ⟨v2, vs2, d2, ds2, p2, q2, rfl, rfl, rfl, h2, r2⟩ := trodAll_cons r1
  obtain ⟨v3, vs3, d3, ds3, p3, q3, rfl, rfl, rfl, h3, r3⟩ := trodAll_cons r2
  obtain ⟨v4, vs4, d4, ds4, p4, q4, rfl, rfl, rfl, h4, r4⟩ := trodAll_cons r3
  obtain ⟨v5, vs5, d5, ds5, p5, q5, rfl, rfl, rfl, h5, r5⟩ := trodAll_cons r4
  obtain ⟨rfl, rfl, rfl⟩ := trodAll_nil r5
  obtain rfl : args = #[v0, v1, v2, v3, v4, v5] := by cases args; simp_all
  obtain ⟨n0, x0, w0⟩ := op_ints (hval 0 22 v0 rfl rfl) h0
  obtain ⟨s1r0, s1r1, s1r2, s1r3, s1r4, s1r5, s1r6, s1r7, s1c, s1z, s1n, s1v, s1pc, s1m, s1mn, s1ms, rfl, s1h⟩ := op_state (hval 1 27 v1 rfl rfl) h1
  obtain ⟨n2, x2, w2⟩ := op_bytes (hval 2 28 v2 rfl rfl) h2
  obtain ⟨a3, rfl, rfl, rfl, w3⟩ := open_int Try.underlying3 (hval 3 3 v3 rfl rfl) h3
  obtain ⟨a4, rfl, rfl, rfl, w4⟩ := open_int Try.underlying3 (hval 4 3 v4 rfl rfl) h4
  obtain ⟨n5, x5, w5⟩ := op_ints (hval 5 22 v5 rfl rfl) h5
  exact tells_ok v0 v2 s1m v5 n0 n2 s1mn n5 s1r0 s1r1 s1r2 s1r3 s1r4 s1r5 s1r6 s1r7 s1pc a3 a4 s1c s1z s1n s1v x0 x2 s1ms x5 W (ints_sz2 (j := 0) (hval 0 22 v0 rfl rfl) h0 hsz (by rw [Try.params11]; rfl) rfl) w0.1 w2.1 s1h w5.1 w2.2

theorem lifted (os : Os) (started : os.Started) (H : Type) (enc : TypeId × Value → H) :
    ReturnsInHanded {} Try.checked os 11 .any (Rows.probeTellsSpec.pre6 enc Try.prog Try.f11 Rows.probeTellsRow.domain false) (Rows.probeTellsSpec.post enc Try.prog Try.f11 false true false false) :=
  law_lifted 11 Try.f11 Rows.probeTellsSpec Try.func11 (by kernel_rfl) rfl rfl (all_of_B (by kernel_rfl)) (fun H ds h => by match ds, h with | [d0, d1, d2, d3, d4, d5], _ => exact ⟨rfl, rfl, rfl⟩) os started H enc
    (ChangeSpec.witness6 (enc := enc) (C := Try.checked) false ⟨#[], #[.slice none 0 0, .agg #[.int .i64 0, .int .i64 0, .int .i64 0, .int .i64 0, .int .i64 0, .int .i64 0, .int .i64 0, .int .i64 0, .bool false, .bool false, .bool false, .bool false, .int .i64 0, .slice none 0 0], .slice none 0 0, .int .i64 0, .int .i64 0, .slice none 0 0], []⟩ 8 (by kernel_rfl) (by kernel_rfl) (by kernel_rfl) (by kernel_rfl)) walks

theorem kNamed : Try.pinned.checked.prog.funcNamed Rows.probeTellsRow.func = some 11 := by kernel_rfl
theorem kJoined : joinedFacts Try.pinned.checked.prog 11 Try.f11 Rows.probeTellsSpec Rows.probeTellsRow = true := by kernel_rfl
theorem kInst : Try.f11.isInstance Try.pinned.checked.prog Rows.probeTellsRow.origin Rows.probeTellsRow.targs := of_decide_eq_true (by kernel_rfl)
theorem kWrap : Try.f11.isWrapper Try.pinned.checked.prog Rows.probeTellsRow.wrapper Rows.probeTellsRow.mainSum := by
  unfold Func.isWrapper; first | (rw [if_pos (by decide +kernel)]; kernel_rfl) | (rw [if_neg (by decide +kernel)]; exact ⟨rfl, rfl⟩)
theorem over : Rows.probeTellsRow.holds Try.pinned (OpenSpec.ofChange Rows.probeTellsSpec) :=
  OpenClaim.holds_of_wide 11 Try.f11 rfl rfl rfl rfl rfl rfl rfl ⟨rfl, rfl, rfl, rfl, rfl⟩ rfl rfl rfl rfl rfl kNamed Try.func11 kJoined kInst kWrap
    (fun os started H enc _ => lifted os started H enc)

/-- THE STATEMENT. -/
theorem proved : Rows.ProbeTellsSaid := over
#print axioms proved
end Go.Proofs.Ytfjgnhmmakeaeaa.probeTells
