/- What a walk of Const keeps. No condition. -/
import Derived.Test.YthdckndjggljpaaXC
import Derived.Test.YthdckndjggljpaaXG
import Derived.LoopTactic
import Derived.Deep.Cut
import Derived.Deep.RegionWith
namespace Go.Proofs.Ythdckndjggljpaa
open Go.RowKit
set_option linter.unusedVariables false
set_option linter.unusedSimpArgs false
set_option maxRecDepth 100000
/-- The parameter in its box, the result's type in its cell. -/
structure Cs (w : World) (k n b : Int) (s : Bool) (nm : ByteArray) (v : Value) (rb : Int) (rs : Bool) (wi : World) : Prop where
  ext : Below w.heap.size w wi
  lt : w.heap.size + 1 < wi.heap.size
  x : Bx wi w.heap.size k n b s nm v
  y : Ty wi (w.heap.size + 1) rb rs
theorem Cs.below {w wi w' : World} {k n b : Int} {s : Bool} {nm : ByteArray} {v : Value} {rb : Int} {rs : Bool} (h : Cs w k n b s nm v rb rs wi) (hb : Below wi.heap.size wi w') : Cs w k n b s nm v rb rs w' :=
  ⟨Ext.trans h.ext hb, Nat.lt_of_lt_of_le h.lt hb.size, h.x.keep hb, h.y.below hb⟩
theorem Cs.start (w : World) (k n b : Int) (s : Bool) (nm : ByteArray) (v : Value) : Cs w k n b s nm v 0 false ((w.alloc (.cells #[.int .i64 k, .int .u64 n, .int .i64 b, .bool s, .string nm, v] 62)).alloc (.cells #[.int .i64 0, .bool false] 33)) :=
  ⟨Ext.alloc (Ext.alloc (Below.refl _ _) _) _, by simp, (Blk.new w _ _).alloc _, Ty.new _ (by simp) _ _ _⟩
abbrev Xc (y : X) (a : Option Addr) (c : Nat) : List Value := X.cells y.kind y.num y.bits y.sg y.name (.slice a y.kids.length c)
end Go.Proofs.Ythdckndjggljpaa
