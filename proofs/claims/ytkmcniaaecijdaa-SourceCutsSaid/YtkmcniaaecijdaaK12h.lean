/- What the document's walk through a text keeps. No condition. -/
import Derived.Test.YtkmcniaaecijdaaK11
namespace Go.Proofs.Ytkmcniaaecijdaa
open Go.RowKit
set_option linter.unusedVariables false
set_option linter.unusedSimpArgs false
set_option maxRecDepth 100000
theorem Tk.fone (a b : Int) : (#[.int .i64 a, .int .i64 b] : Array Value).all (·.oneCell') = true := by simp [Value.oneCell']
namespace Tk
theorem lit_code (n : Int) (u : Bool) : (W.lit n u).2.2 = 0 ∨ (W.lit n u).2.2 = 3 := by
  unfold W.lit
  split
  · split
    · exact .inl rfl
    split
    · exact .inl rfl
    · exact .inl rfl
  · split
    · exact .inl rfl
    split
    · exact .inl rfl
    split
    · exact .inl rfl
    · exact .inr rfl
structure L8 (w : World) (B : Nat) (l : List UInt8) (a : Nat) (ts : List Tok) (av : Option Addr) (cv : Nat) (wr : World) : Prop where
  ext : Below w.heap.size w wr
  ft : Blk wr w.heap.size 26 #[.int .i64 0, .int .i64 0]
  own : wr.ownsRow B 33 6 (.slice av ts.length cv) ts.length (tkR ts)
  eq : ahead ts (frm l a) = frm l 0
  lt : w.heap.size < B
  low : B ≤ wr.heap.size
  few : ts.length ≤ a
theorem L8.keep {w wr w' : World} {B : Nat} {l : List UInt8} {a : Nat} {ts : List Tok} {av : Option Addr} {cv : Nat} (h : L8 w B l a ts av cv wr) (hb : Below wr.heap.size wr w') : L8 w B l a ts av cv w' :=
  ⟨Ext.trans h.ext hb, h.ft.keep hb, own_keepT h.own hb, h.eq, h.lt, Nat.le_trans h.low hb.size, h.few⟩
theorem L8.skip {w wr : World} {B : Nat} {l : List UInt8} {a k : Nat} {ts : List Tok} {av : Option Addr} {cv : Nat} (h : L8 w B l a ts av cv wr) {c : UInt8} {r : List UInt8} (hc : l.drop a = c :: r) (hs : step a c r = .skip k) : L8 w B l (a + k) ts av cv wr :=
  ⟨h.ext, h.ft, h.own, by rw [← h.eq, frm_step l a c r hc, hs], h.lt, h.low, Nat.le_trans h.few (Nat.le_add_right _ _)⟩
theorem L8.tok {w wz w' : World} {B : Nat} {l : List UInt8} {a k : Nat} {ts : List Tok} {av : Option Addr} {cv : Nat} (h : L8 w B l a ts av cv wz) {c : UInt8} {r : List UInt8} (hc : l.drop a = c :: r) {t : Tok} (hs : step a c r = .tok t k)
    {a' : Option Addr} {c' : Nat} (ho : w'.ownsRow B 33 6 (.slice a' (ts.length + 1) c') (ts.length + 1) (tkR ts ++ tc t)) (hg : wz.grownBy w' (Value.slice av ts.length cv).ownBlock) : L8 w B l (a + k) (ts ++ [t]) a' c' w' := by
  have hlo := h.own.lt
  have far : ∀ g, g < B → some g ≠ (Value.slice av ts.length cv).ownBlock := fun g hg e => by have := (hlo g e.symm).1; omega
  have hlt := h.lt
  have hk := (step_long a c r k (by rw [hs]; rfl)).1
  refine ⟨⟨hg.os.trans h.ext.os, hg.tape.trans h.ext.tape, hg.output.trans h.ext.output, Nat.le_trans h.ext.size hg.size, fun i hi => (hg.block i (by have := h.ext.size; omega) (far i (by omega))).trans (h.ext.block i hi)⟩,
    h.ft.grown hg (far _ hlt), ?_, ?_, h.lt, Nat.le_trans h.low hg.size, ?_⟩
  · rw [List.length_append, tkR_snoc]; exact ho
  · rw [← h.eq, frm_step l a c r hc, hs]; exact (ahead_cons _ _ _).symm
  · rw [List.length_append]; have := h.few; simp only [List.length_cons, List.length_nil]; omega
end Tk
end Go.Proofs.Ytkmcniaaecijdaa
