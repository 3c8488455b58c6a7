/- Opening a law's argument that is a type of numbers. -/
import Derived.Test.YtgpjhbaehhjdhaaOp
import Derived.Test.YtgpjhbaehhjdhaaT1
import Derived.Lib.SmallJoins
import Derived.ChangeMaps5
namespace Go.Proofs.Ytgpjhbaehhjdhaa
open Go.ChangeShapes Go.WideShapes Go.ChangeAt Go.RowKit
set_option linter.unusedVariables false
set_option linter.unusedSimpArgs false
set_option maxRecDepth 100000

theorem op_type {H : Type} {enc : TypeId × Value → H} {W : World} {base : Nat} {v : Value} {d : DataW H} {p : List MemPlace} (hv : Value.okWide Try.prog W .any base 66 v)
    (h : DataW.Trod enc Try.prog W 0 (fun _ => true) true 66 v d p) : ∃ (a : Int) (b : Bool), v = .agg #[.int .i64 a, .bool b] ∧ (Lit.int .i64 a).wf = true := by
  obtain ⟨c0, c1, y0, y1, m, rfl, rfl, rfl, hy0, hy1⟩ := Joins.open_agg2 Try.underlying66 (by kernel_rfl) (by kernel_rfl) hv h
  obtain ⟨a, e0, _, wa⟩ := DataW.trod_int Try.underlying3 hy0
  obtain ⟨b, e1, _⟩ := DataW.trod_bool Try.underlying4 hy1
  simp at e0 e1
  subst e0 e1
  exact ⟨a, b, rfl, wa⟩
end Go.Proofs.Ytgpjhbaehhjdhaa
