/- 'append(s, x)' to an own slice of numbers. No condition. -/
import Derived.Test.YtfjgnhmmakeaeaaE11
import Derived.Test.YtfjgnhmmakeaeaaB1
import Derived.Test.YtfjgnhmmakeaeaaB3
namespace Go.Proofs.Ytfjgnhmmakeaeaa
open Go.RowKit
set_option linter.unusedVariables false
set_option linter.unusedSimpArgs false
set_option maxRecDepth 100000
theorem ne_ins : (3 : Nat) ≠ 43 := by decide
theorem app_keep {wv w' : World} {B m g : Nat} {v : Value} {zs : List Value} {t : TypeId} {cs : Array Value} (own : wv.ownsRow B 3 1 v m zs) (hg : wv.grownBy w' v.ownBlock) (hb : Blk wv g t cs) (hne : (3 : Nat) ≠ t) : Blk w' g t cs := hb.grown hg (own_ne own hb hne)
theorem lt_alloc (w : World) (o : Obj) : w.heap.size < (w.alloc o).heap.size := by simp
/-- 'append(s, x)' to an own slice of numbers, x in the block just laid. -/
theorem wpList_app_int {wv : World} {ops : Array Oper} {rest : List Oper} {o : Oper} {a : Act} {Q : Exit → Act → World → Prop} (hgd : o.guard = none) (s x : Operand) (ho : o.op = .call { callee := .builtin .append, args := #[s, x], argTypes := #[22, 22] })
    (B : Nat) (oa : Option Addr) (m oc : Nat) (zs : List Value) (b : Nat) (y : Int) (hs : a.eval s = .slice oa m oc) (hx : a.eval x = .slice (some ⟨b, 0, none⟩) 1 1) (hown : wv.ownsRow B 3 1 (.slice oa m oc) m zs) (hb : b = wv.heap.size) (hm : m ≤ 100000000) (hB : B ≤ wv.heap.size)
    (h : ∀ a' c' w', w'.ownsRow B 3 1 (.slice a' (m + 1) c') (m + 1) (zs ++ [.int .i64 y]) → wv.grownBy w' (Value.slice oa m oc).ownBlock → wpList Try.prog ops Q rest (a.put o.dst (.slice a' (m + 1) c')) w') :
    wpList Try.prog ops Q (o :: rest) a (wv.alloc (.cells #[.int .i64 y] 3)) := by
  obtain ⟨iI, hi, hz0, hz1, hz2⟩ := info_parts Try.infoI64
  refine wpList_append_own _ hgd s x 22 ho B 3 iI (.int .i64 0) 1 8 Try.underlying22 hi hz0 hz1 hz2 rfl (by decide) _ m zs hs (hown.alloc _) ⟨b, 0, none⟩ 1 1 [.int .i64 y] hx rfl (one_new hb _ _) (one_cell (x := .int .i64 y) rfl) (by unfold maxLen; omega) (by omega) (by simp; omega) ?_
  intro v' w' ho' hg' _
  obtain ⟨a', c', hv, _⟩ := own_slice ho'
  subst hv
  exact h a' c' w' ho' ((World.grownBy_alloc _ _ _).trans hg')
theorem size_one (w : World) (o : Obj) : w.heap.size + 1 = (w.alloc o).heap.size := by simp
end Go.Proofs.Ytfjgnhmmakeaeaa
