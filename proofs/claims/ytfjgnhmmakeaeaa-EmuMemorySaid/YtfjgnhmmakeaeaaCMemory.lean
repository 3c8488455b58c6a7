/- EmuMemory: what is stored is loaded, and no other word is touched, at every input. No condition. -/
import Derived.Test.YtfjgnhmmakeaeaaE48
import Derived.Test.YtfjgnhmmakeaeaaOs
import Derived.Test.YtfjgnhmmakeaeaaB0
namespace Go.Proofs.Ytfjgnhmmakeaeaa.emuMemory
open Go.ChangeShapes Go.WideShapes Go.ChangeAt Go.RowKit
set_option linter.unusedVariables false
set_option maxRecDepth 100000

theorem walks : Walks 7 Try.f7 := by
  intro H enc W base args ds ps hval hA hsz
  have hA0 := hA
  rw [Try.params7] at hA hval
  obtain ⟨v0, vs0, d0, ds0, p0, q0, hargs, rfl, rfl, h0, r0⟩ := trodAll_cons hA
  obtain ⟨v1, vs1, d1, ds1, p1, q1, rfl, rfl, rfl, h1, r1⟩ := trodAll_cons r0
  obtain ⟨v2, vs2, d2, ds2, p2, q2, rfl, rfl, rfl, h2, r2⟩ := trodAll_cons r1
  obtain ⟨v3, vs3, d3, ds3, p3, q3, rfl, rfl, rfl, h3, r3⟩ := trodAll_cons r2
  obtain ⟨v4, vs4, d4, ds4, p4, q4, rfl, rfl, rfl, h4, r4⟩ := trodAll_cons r3
  obtain ⟨rfl, rfl, rfl⟩ := trodAll_nil r4
  obtain rfl : args = #[v0, v1, v2, v3, v4] := by cases args; simp_all
  obtain ⟨s0r0, s0r1, s0r2, s0r3, s0r4, s0r5, s0r6, s0r7, s0c, s0z, s0n, s0v, s0pc, s0m, s0mn, s0ms, rfl, s0h⟩ := op_state (hval 0 27 v0 rfl rfl) h0
  obtain ⟨a1, rfl, rfl, rfl, w1⟩ := open_int Try.underlying3 (hval 1 3 v1 rfl rfl) h1
  obtain ⟨a2, rfl, rfl, rfl, w2⟩ := open_int Try.underlying3 (hval 2 3 v2 rfl rfl) h2
  obtain ⟨a3, rfl, rfl, rfl, w3⟩ := open_int Try.underlying3 (hval 3 3 v3 rfl rfl) h3
  obtain ⟨a4, rfl, rfl, rfl, w4⟩ := open_int Try.underlying3 (hval 4 3 v4 rfl rfl) h4
  exact memory_ok s0m s0mn s0r0 s0r1 s0r2 s0r3 s0r4 s0r5 s0r6 s0r7 s0pc a1 a2 a3 a4 s0c s0z s0n s0v s0ms W s0h

theorem lifted (os : Os) (started : os.Started) (H : Type) (enc : TypeId × Value → H) :
    ReturnsInHanded {} Try.checked os 7 .any (Rows.emuMemorySpec.pre6 enc Try.prog Try.f7 Rows.emuMemoryRow.domain false) (Rows.emuMemorySpec.post enc Try.prog Try.f7 false true false false) :=
  law_lifted 7 Try.f7 Rows.emuMemorySpec Try.func7 (by kernel_rfl) rfl rfl (all_of_B (by kernel_rfl)) (fun H ds h => by match ds, h with | [d0, d1, d2, d3, d4], _ => exact ⟨rfl, rfl, rfl⟩) os started H enc
    (ChangeSpec.witness6 (enc := enc) (C := Try.checked) false ⟨#[], #[.agg #[.int .i64 0, .int .i64 0, .int .i64 0, .int .i64 0, .int .i64 0, .int .i64 0, .int .i64 0, .int .i64 0, .bool false, .bool false, .bool false, .bool false, .int .i64 0, .slice none 0 0], .int .i64 0, .int .i64 0, .int .i64 0, .int .i64 0], []⟩ 8 (by kernel_rfl) (by kernel_rfl) (by kernel_rfl) (by kernel_rfl)) walks

theorem kNamed : Try.pinned.checked.prog.funcNamed Rows.emuMemoryRow.func = some 7 := by kernel_rfl
theorem kJoined : joinedFacts Try.pinned.checked.prog 7 Try.f7 Rows.emuMemorySpec Rows.emuMemoryRow = true := by kernel_rfl
theorem kInst : Try.f7.isInstance Try.pinned.checked.prog Rows.emuMemoryRow.origin Rows.emuMemoryRow.targs := of_decide_eq_true (by kernel_rfl)
theorem kWrap : Try.f7.isWrapper Try.pinned.checked.prog Rows.emuMemoryRow.wrapper Rows.emuMemoryRow.mainSum := by
  unfold Func.isWrapper; first | (rw [if_pos (by decide +kernel)]; kernel_rfl) | (rw [if_neg (by decide +kernel)]; exact ⟨rfl, rfl⟩)
theorem over : Rows.emuMemoryRow.holds Try.pinned (OpenSpec.ofChange Rows.emuMemorySpec) :=
  OpenClaim.holds_of_wide 7 Try.f7 rfl rfl rfl rfl rfl rfl rfl ⟨rfl, rfl, rfl, rfl, rfl⟩ rfl rfl rfl rfl rfl kNamed Try.func7 kJoined kInst kWrap
    (fun os started H enc _ => lifted os started H enc)

/-- THE STATEMENT. -/
theorem proved : Rows.EmuMemorySaid := over
#print axioms proved
end Go.Proofs.Ytfjgnhmmakeaeaa.emuMemory
