/- A program whose known parts are worked out: worked out once more it stays what it is; it is right; and it has no more nodes. Condition: none beyond the statement's own. -/
import Derived.Test.YthdckndjggljpaaS54
namespace Go.Proofs.Ythdckndjggljpaa
set_option linter.unusedVariables false
set_option linter.unusedSimpArgs false
set_option maxRecDepth 100000
set_option maxHeartbeats 64000000
namespace foldTwice
open Go.ChangeShapes Go.WideShapes Go.ChangeAt Go.RowKit
theorem walks:Walks 4 Try.f4:=by
 intro H enc W base args ds ps hval hA hsz
 have hA0:=hA
 rw [Try.params4]at hA hval
 obtain⟨v0,vs0,d0,ds0,p0,q0,hargs,rfl,rfl,h0,r0⟩:=trodAll_cons hA
 obtain⟨rfl,rfl,rfl⟩:=trodAll_nil r0
 obtain rfl:args=#[v0]:=by cases args;simp_all
 obtain⟨e0,x0,y0,rfl,g0,w0⟩:=uO (hval 0 25 v0 rfl rfl) h0
 exact LH W e0 x0 y0 g0 w0
theorem lifted(os:Os)(started:os.Started)(H:Type)(enc:TypeId×Value→H):
 ReturnsInHanded {} Try.checked os 4 .any (Rows.foldTwiceSpec.pre6 enc Try.prog Try.f4 Rows.foldTwiceRow.domain false) (Rows.foldTwiceSpec.post enc Try.prog Try.f4 false true false false):=
 law_lifted 4 Try.f4 Rows.foldTwiceSpec Try.func4 (by kernel_rfl) rfl rfl (Ae (by kernel_rfl)) (fun H ds h=>by match ds,h with|[d0],_=>exact⟨rfl,rfl,rfl⟩) os started H enc
  (ChangeSpec.witness6 (enc:=enc) (C:=Try.checked) false ⟨#[],#[.agg #[.slice none 0 0, .slice none 0 0]],[]⟩ 8 (by kernel_rfl) (by kernel_rfl) (by kernel_rfl) (by kernel_rfl)) walks
theorem Ez:Try.pinned.checked.prog.funcNamed Rows.foldTwiceRow.func=some 4:=by kernel_rfl
theorem yS:joinedFacts Try.pinned.checked.prog 4 Try.f4 Rows.foldTwiceSpec Rows.foldTwiceRow=true:=by kernel_rfl
theorem Nz:Try.f4.isInstance Try.pinned.checked.prog Rows.foldTwiceRow.origin Rows.foldTwiceRow.targs:=of_decide_eq_true (by kernel_rfl)
theorem Nh:Try.f4.isWrapper Try.pinned.checked.prog Rows.foldTwiceRow.wrapper Rows.foldTwiceRow.mainSum:=by
 unfold Func.isWrapper;first|(rw [if_pos (by decide+kernel)];kernel_rfl)|(rw [if_neg (by decide+kernel)];exact⟨rfl,rfl⟩)
theorem over:Rows.foldTwiceRow.holds Try.pinned (OpenSpec.ofChange Rows.foldTwiceSpec):=
 OpenClaim.holds_of_wide 4 Try.f4 rfl rfl rfl rfl rfl rfl rfl ⟨rfl,rfl,rfl,rfl,rfl⟩ rfl rfl rfl rfl rfl Ez Try.func4 yS Nz Nh
  (fun os started H enc _=>lifted os started H enc)
theorem proved:Rows.FoldTwiceSaid:=over
#print axioms proved
end foldTwice
end Go.Proofs.Ythdckndjggljpaa
