/- A function more that nobody calls, of a new name, which does nothing, leaves a program as right as it was. Condition: none beyond the statement's own. -/
import Derived.Test.YthdckndjggljpaaS56
namespace Go.Proofs.Ythdckndjggljpaa
set_option linter.unusedVariables false
set_option linter.unusedSimpArgs false
set_option maxRecDepth 100000
set_option maxHeartbeats 64000000
namespace checkUnused
open Go.ChangeShapes Go.WideShapes Go.ChangeAt Go.RowKit
theorem walks:Walks 3 Try.f3:=by
 intro H enc W base args ds ps hval hA hsz
 have hA0:=hA
 rw [Try.params3]at hA hval
 obtain⟨v0,vs0,d0,ds0,p0,q0,hargs,rfl,rfl,h0,r0⟩:=trodAll_cons hA
 obtain⟨v1,vs1,d1,ds1,p1,q1,rfl,rfl,rfl,h1,r1⟩:=trodAll_cons r0
 obtain⟨rfl,rfl,rfl⟩:=trodAll_nil r1
 obtain rfl:args=#[v0,v1]:=by cases args;simp_all
 obtain⟨e0,x0,y0,rfl,g0,w0⟩:=uO (hval 0 25 v0 rfl rfl) h0
 obtain⟨a1,rfl,rfl,rfl,w1⟩:=Go.ChangeMaps.open_string Try.underlying9 (hval 1 9 v1 rfl rfl) h1
 exact Ho W e0 x0 y0 g0 w0 a1 w1
theorem lifted(os:Os)(started:os.Started)(H:Type)(enc:TypeId×Value→H):
 ReturnsInHanded {} Try.checked os 3 .any (Rows.checkUnusedSpec.pre6 enc Try.prog Try.f3 Rows.checkUnusedRow.domain false) (Rows.checkUnusedSpec.post enc Try.prog Try.f3 false true false false):=
 law_lifted 3 Try.f3 Rows.checkUnusedSpec Try.func3 (by kernel_rfl) rfl rfl (Ae (by kernel_rfl)) (fun H ds h=>by match ds,h with|[d0,d1],_=>exact⟨rfl,rfl,rfl⟩) os started H enc
  (ChangeSpec.witness6 (enc:=enc) (C:=Try.checked) false ⟨#[],#[.agg #[.slice none 0 0, .slice none 0 0], .string ByteArray.empty],[]⟩ 8 (by kernel_rfl) (by kernel_rfl) (by kernel_rfl) (by kernel_rfl)) walks
theorem Ez:Try.pinned.checked.prog.funcNamed Rows.checkUnusedRow.func=some 3:=by kernel_rfl
theorem yS:joinedFacts Try.pinned.checked.prog 3 Try.f3 Rows.checkUnusedSpec Rows.checkUnusedRow=true:=by kernel_rfl
theorem Nz:Try.f3.isInstance Try.pinned.checked.prog Rows.checkUnusedRow.origin Rows.checkUnusedRow.targs:=of_decide_eq_true (by kernel_rfl)
theorem Nh:Try.f3.isWrapper Try.pinned.checked.prog Rows.checkUnusedRow.wrapper Rows.checkUnusedRow.mainSum:=by
 unfold Func.isWrapper;first|(rw [if_pos (by decide+kernel)];kernel_rfl)|(rw [if_neg (by decide+kernel)];exact⟨rfl,rfl⟩)
theorem over:Rows.checkUnusedRow.holds Try.pinned (OpenSpec.ofChange Rows.checkUnusedSpec):=
 OpenClaim.holds_of_wide 3 Try.f3 rfl rfl rfl rfl rfl rfl rfl ⟨rfl,rfl,rfl,rfl,rfl⟩ rfl rfl rfl rfl rfl Ez Try.func3 yS Nz Nh
  (fun os started H enc _=>lifted os started H enc)
theorem proved:Rows.CheckUnusedSaid:=over
#print axioms proved
end checkUnused
end Go.Proofs.Ythdckndjggljpaa
