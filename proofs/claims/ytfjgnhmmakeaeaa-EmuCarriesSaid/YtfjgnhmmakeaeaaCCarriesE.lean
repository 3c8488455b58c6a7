/- EmuCarries: the machine adds, takes away and compares numbers of any width, at every input. No condition. -/
import Derived.Test.YtfjgnhmmakeaeaaE58
import Derived.Test.YtfjgnhmmakeaeaaB0
namespace Go.Proofs.Ytfjgnhmmakeaeaa.emuCarries
open Go.ChangeShapes Go.WideShapes Go.ChangeAt Go.RowKit
set_option linter.unusedVariables false
set_option maxRecDepth 100000

theorem walks : Walks 10 Try.f10 := by
  intro H enc W base args ds ps hval hA hsz
  have hA0 := hA
  rw [Try.params10] at hA hval
  obtain ⟨v0, vs0, d0, ds0, p0, q0, hargs, rfl, rfl, h0, r0⟩ := trodAll_cons hA
  obtain ⟨v1, vs1, d1, ds1, p1, q1, rfl, rfl, rfl, h1, r1⟩ := trodAll_cons r0
  obtain ⟨v2, vs2, d2, ds2, p2, q2, rfl, rfl, rfl, h2, r2⟩ := trodAll_cons r1
  obtain ⟨rfl, rfl, rfl⟩ := trodAll_nil r2
  obtain rfl : args = #[v0, v1, v2] := by cases args; simp_all
  obtain ⟨a0, rfl, rfl, rfl, w0⟩ := open_int Try.underlying55 (hval 0 55 v0 rfl rfl) h0
  obtain ⟨a1, rfl, rfl, rfl, w1⟩ := open_int Try.underlying55 (hval 1 55 v1 rfl rfl) h1
  obtain ⟨a2, rfl, rfl, rfl, w2⟩ := open_int Try.underlying3 (hval 2 3 v2 rfl rfl) h2
  exact carries_ok a0 a1 a2 W (Go.Proofs.Ytfjgnhmmakeaeaa.W.U_wf w0) (Go.Proofs.Ytfjgnhmmakeaeaa.W.U_wf w1)

theorem lifted (os : Os) (started : os.Started) (H : Type) (enc : TypeId × Value → H) :
    ReturnsInHanded {} Try.checked os 10 .any (Rows.emuCarriesSpec.pre6 enc Try.prog Try.f10 Rows.emuCarriesRow.domain false) (Rows.emuCarriesSpec.post enc Try.prog Try.f10 false true false false) :=
  law_lifted 10 Try.f10 Rows.emuCarriesSpec Try.func10 (by kernel_rfl) rfl rfl (all_of_B (by kernel_rfl)) (fun H ds h => by match ds, h with | [d0, d1, d2], _ => exact ⟨rfl, rfl, rfl⟩) os started H enc
    (ChangeSpec.witness6 (enc := enc) (C := Try.checked) false ⟨#[], #[.int .u64 0, .int .u64 0, .int .i64 0], []⟩ 8 (by kernel_rfl) (by kernel_rfl) (by kernel_rfl) (by kernel_rfl)) walks

theorem kNamed : Try.pinned.checked.prog.funcNamed Rows.emuCarriesRow.func = some 10 := by kernel_rfl
theorem kJoined : joinedFacts Try.pinned.checked.prog 10 Try.f10 Rows.emuCarriesSpec Rows.emuCarriesRow = true := by kernel_rfl
theorem kInst : Try.f10.isInstance Try.pinned.checked.prog Rows.emuCarriesRow.origin Rows.emuCarriesRow.targs := of_decide_eq_true (by kernel_rfl)
theorem kWrap : Try.f10.isWrapper Try.pinned.checked.prog Rows.emuCarriesRow.wrapper Rows.emuCarriesRow.mainSum := by
  unfold Func.isWrapper; first | (rw [if_pos (by decide +kernel)]; kernel_rfl) | (rw [if_neg (by decide +kernel)]; exact ⟨rfl, rfl⟩)
theorem over : Rows.emuCarriesRow.holds Try.pinned (OpenSpec.ofChange Rows.emuCarriesSpec) :=
  OpenClaim.holds_of_wide 10 Try.f10 rfl rfl rfl rfl rfl rfl rfl ⟨rfl, rfl, rfl, rfl, rfl⟩ rfl rfl rfl rfl rfl kNamed Try.func10 kJoined kInst kWrap
    (fun os started H enc _ => lifted os started H enc)

/-- THE STATEMENT. -/
theorem proved : Rows.EmuCarriesSaid := over
#print axioms proved
end Go.Proofs.Ytfjgnhmmakeaeaa.emuCarries
