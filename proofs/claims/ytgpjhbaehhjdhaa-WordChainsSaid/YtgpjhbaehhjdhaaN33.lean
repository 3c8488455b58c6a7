/- What the reference's Words keeps while it runs. No condition. -/
import Derived.Test.YtgpjhbaehhjdhaaN32
import Derived.Test.YtgpjhbaehhjdhaaN21
import Derived.Test.YtgpjhbaehhjdhaaW8
namespace Go.Proofs.Ytgpjhbaehhjdhaa
open Go.RowKit
set_option linter.unusedVariables false
set_option linter.unusedSimpArgs false
set_option maxRecDepth 100000

/-- What Words keeps: its result's cells, and the cell of the width. -/
structure Kp (w : World) (M : Int) (wi : World) : Prop where
  ext : Below w.heap.size w wi
  lt : w.heap.size + 1 < wi.heap.size
  cw : wi.cell? ⟨w.heap.size + 1, 0, none⟩ = some (.int .i64 M)
  f0 : wi.cell? ⟨w.heap.size, 0, none⟩ = some (.bool false)
  f1 : wi.cell? ⟨w.heap.size, 1, none⟩ = some (.bool false)
  f2 : wi.cell? ⟨w.heap.size, 2, none⟩ = some (.bool false)
  f3 : wi.cell? ⟨w.heap.size, 3, none⟩ = some (.bool false)
  z0 : wi.frozen? ⟨w.heap.size, 0, none⟩ = false
  z1 : wi.frozen? ⟨w.heap.size, 1, none⟩ = false
  z2 : wi.frozen? ⟨w.heap.size, 2, none⟩ = false
  z3 : wi.frozen? ⟨w.heap.size, 3, none⟩ = false
theorem Kp.below {w wi w' : World} {M : Int} (h : Kp w M wi) (hb : Below wi.heap.size wi w') : Kp w M w' :=
  have l := h.lt
  ⟨Ext.trans h.ext hb, Nat.lt_of_lt_of_le l hb.size, by rw [Below.cell hb l]; exact h.cw,
    by rw [Below.cell hb (by show w.heap.size < _; omega)]; exact h.f0, by rw [Below.cell hb (by show w.heap.size < _; omega)]; exact h.f1, by rw [Below.cell hb (by show w.heap.size < _; omega)]; exact h.f2, by rw [Below.cell hb (by show w.heap.size < _; omega)]; exact h.f3,
    by rw [Below.frozen hb (by show w.heap.size < _; omega)]; exact h.z0, by rw [Below.frozen hb (by show w.heap.size < _; omega)]; exact h.z1, by rw [Below.frozen hb (by show w.heap.size < _; omega)]; exact h.z2, by rw [Below.frozen hb (by show w.heap.size < _; omega)]; exact h.z3⟩
theorem Chg.cell_of {w wi w' : World} {g : Nat} (h : Chg g wi w') {p : Addr} (hp : p.block < wi.heap.size) (hne : p.block ≠ g) : w'.cell? p = wi.cell? p := World.cell?_of_block (w := wi) (h.block p.block hp (fun e => hne (by injection e)))
theorem Chg.frozen_of {w wi w' : World} {g : Nat} (h : Chg g wi w') {p : Addr} (hp : p.block < wi.heap.size) (hne : p.block ≠ g) : w'.frozen? p = wi.frozen? p := World.frozen?_of_block (w := wi) (h.block p.block hp (fun e => hne (by injection e)))
theorem Kp.chg {w wi w' : World} {M : Int} {g : Nat} (h : Kp w M wi) (hg : w.heap.size + 1 < g) (hc : Chg g wi w') : Kp w M w' :=
  have l := h.lt
  ⟨new_chg h.ext (by omega) hc, Nat.lt_of_lt_of_le l hc.size, by rw [Chg.cell_of (w := w) hc l (by show w.heap.size + 1 ≠ g; omega)]; exact h.cw,
    by rw [Chg.cell_of (w := w) hc (by show w.heap.size < _; omega) (by show w.heap.size ≠ g; omega)]; exact h.f0, by rw [Chg.cell_of (w := w) hc (by show w.heap.size < _; omega) (by show w.heap.size ≠ g; omega)]; exact h.f1, by rw [Chg.cell_of (w := w) hc (by show w.heap.size < _; omega) (by show w.heap.size ≠ g; omega)]; exact h.f2, by rw [Chg.cell_of (w := w) hc (by show w.heap.size < _; omega) (by show w.heap.size ≠ g; omega)]; exact h.f3,
    by rw [Chg.frozen_of (w := w) hc (by show w.heap.size < _; omega) (by show w.heap.size ≠ g; omega)]; exact h.z0, by rw [Chg.frozen_of (w := w) hc (by show w.heap.size < _; omega) (by show w.heap.size ≠ g; omega)]; exact h.z1, by rw [Chg.frozen_of (w := w) hc (by show w.heap.size < _; omega) (by show w.heap.size ≠ g; omega)]; exact h.z2, by rw [Chg.frozen_of (w := w) hc (by show w.heap.size < _; omega) (by show w.heap.size ≠ g; omega)]; exact h.z3⟩
theorem Kp.moved {w wi w' : World} {M : Int} {G : Nat → Prop} (h : Kp w M wi) (hc : Moved G wi w') (hg : ∀ k, G k → w.heap.size + 1 < k) : Kp w M w' :=
  have l := h.lt
  have b1 : w'.heap[w.heap.size + 1]? = wi.heap[w.heap.size + 1]? := hc.block _ l (fun e => Nat.lt_irrefl _ (hg _ e))
  have b0 : w'.heap[w.heap.size]? = wi.heap[w.heap.size]? := hc.block _ (by omega) (fun e => by have := hg _ e; omega)
  ⟨hc.ext h.ext (fun k hk => by have := hg k hk; omega), Nat.lt_of_lt_of_le l hc.size, by rw [World.cell?_of_block (w := wi) b1]; exact h.cw,
    by rw [World.cell?_of_block (w := wi) b0]; exact h.f0, by rw [World.cell?_of_block (w := wi) b0]; exact h.f1, by rw [World.cell?_of_block (w := wi) b0]; exact h.f2, by rw [World.cell?_of_block (w := wi) b0]; exact h.f3,
    by rw [World.frozen?_of_block (w := wi) b0]; exact h.z0, by rw [World.frozen?_of_block (w := wi) b0]; exact h.z1, by rw [World.frozen?_of_block (w := wi) b0]; exact h.z2, by rw [World.frozen?_of_block (w := wi) b0]; exact h.z3⟩
theorem Kp.start (w : World) (M : Int) : Kp w M ((w.alloc (.cells #[.bool false, .bool false, .bool false, .bool false] 32)).alloc (.cells #[.int .i64 M] 3)) :=
  ⟨Ext.alloc (Ext.alloc (Below.refl _ _) _) _, by simp, by simp [go_sem], by simp [go_sem], by simp [go_sem], by simp [go_sem], by simp [go_sem], by simp [go_sem], by simp [go_sem], by simp [go_sem], by simp [go_sem]⟩
theorem int_new2 (w : World) : Io ((w.alloc (.cells #[.bool false, .slice none 0 0] 92)).alloc (.cells #[.bool false, .slice none 0 0] 92)) w.heap.size 0 ∧ Io ((w.alloc (.cells #[.bool false, .slice none 0 0] 92)).alloc (.cells #[.bool false, .slice none 0 0] 92)) (w.heap.size + 1) 0 ∧ Below w.heap.size w ((w.alloc (.cells #[.bool false, .slice none 0 0] 92)).alloc (.cells #[.bool false, .slice none 0 0] 92)) := by
  refine ⟨(Io.new w).below (Ext.alloc (Below.refl _ _) _), ?_, Ext.alloc (Ext.alloc (Below.refl _ _) _) _⟩
  have := Io.new (w.alloc (.cells #[.bool false, .slice none 0 0] 92))
  simpa using this
theorem int_new (w : World) : Io (w.alloc (.cells #[.bool false, .slice none 0 0] 92)) w.heap.size 0 ∧ Below w.heap.size w (w.alloc (.cells #[.bool false, .slice none 0 0] 92)) := ⟨Io.new w, Ext.alloc (Below.refl _ _) _⟩
theorem Kp.grown {w wi w' : World} {M : Int} {row : Option Nat} (h : Kp w M wi) (hg : wi.grownBy w' row) (hr : ∀ k, row = some k → w.heap.size + 1 < k) : Kp w M w' :=
  have l := h.lt
  have b1 : w'.heap[w.heap.size + 1]? = wi.heap[w.heap.size + 1]? := hg.block _ l (fun e => Nat.lt_irrefl _ (hr _ e.symm))
  have b0 : w'.heap[w.heap.size]? = wi.heap[w.heap.size]? := hg.block _ (by omega) (fun e => by have := hr _ e.symm; omega)
  have hs : wi.heap.size ≤ w'.heap.size := World.grownBy.size hg
  ⟨h.ext.grown hg (Nat.le_of_lt (Nat.lt_of_succ_lt l)) (fun k hk => by have := hr k hk; omega), Nat.lt_of_lt_of_le l hs, by rw [World.cell?_of_block (w := wi) b1]; exact h.cw,
    by rw [World.cell?_of_block (w := wi) b0]; exact h.f0, by rw [World.cell?_of_block (w := wi) b0]; exact h.f1, by rw [World.cell?_of_block (w := wi) b0]; exact h.f2, by rw [World.cell?_of_block (w := wi) b0]; exact h.f3,
    by rw [World.frozen?_of_block (w := wi) b0]; exact h.z0, by rw [World.frozen?_of_block (w := wi) b0]; exact h.z1, by rw [World.frozen?_of_block (w := wi) b0]; exact h.z2, by rw [World.frozen?_of_block (w := wi) b0]; exact h.z3⟩
theorem Fl.moved {w w' : World} {b : Nat} {c z n v : Bool} {G : Nat → Prop} (h : Fl w b c z n v) (hm : Moved G w w') (hn : ¬ G b) : Fl w' b c z n v := by
  obtain ⟨h0, h1, h2, h3, f0, f1, f2, f3⟩ := h
  have hlt : b < w.heap.size := World.block_lt_of_cell? w ⟨b, 0, none⟩ h0
  have e : w'.heap[b]? = w.heap[b]? := hm.block b hlt hn
  refine ⟨?_, ?_, ?_, ?_, ?_, ?_, ?_, ?_⟩ <;> first | (rw [World.cell?_of_block (w := w) e]; assumption) | (rw [World.frozen?_of_block (w := w) e]; assumption)
theorem Fl.lt {w : World} {b : Nat} {c z n v : Bool} (h : Fl w b c z n v) : b < w.heap.size := World.block_lt_of_cell? w ⟨b, 0, none⟩ h.1
/-- What the loop of Words keeps. -/
structure Lp (w : World) (M : Int) (r : Nat) (R : Int) (b : Nat) (c z n v : Bool) (base : Nat) (l : Value) (k : Nat) (xs : List Value) (wi : World) : Prop where
  kp : Kp w M wi
  io : Io wi r R
  fl : Fl wi b c z n v
  own : wi.ownsRow base 3 1 l k xs
  rb : r < base
  bb : b < base
  wb : w.heap.size + 1 < base
  sz : base ≤ wi.heap.size
section
variable {w wi w' : World} {M R : Int} {r b base k : Nat} {c z n v : Bool} {l : Value} {xs : List Value}
theorem Lp.below (h : Lp w M r R b c z n v base l k xs wi) (hb : Below wi.heap.size wi w') : Lp w M r R b c z n v base l k xs w' :=
  ⟨h.kp.below hb, h.io.below hb, h.fl.below hb, own_below h.own hb, h.rb, h.bb, h.wb, Nat.le_trans h.sz hb.size⟩
theorem Lp.moved {g : Nat} {y : Int} (h : Lp w M r R b c z n v base l k xs wi) (hm : Moved (fun k => k = g) wi w') (hi : Io wi g y) (hg : base ≤ g) : Lp w M r R b c z n v base l k xs w' :=
  ⟨h.kp.moved hm (fun k hk => by have := h.wb; omega), hm.io _ _ (by have := h.rb; omega) h.io, h.fl.moved hm (by have := h.bb; omega), own_moved h.own hm (fun k hk => ⟨y, by rw [hk]; exact hi⟩) (by decide), h.rb, h.bb, h.wb, Nat.le_trans h.sz hm.size⟩
theorem Lp.start {w8 w9 : World} (kp : Kp w M w8) (io : Io w8 r R) (hb : Below w8.heap.size w8 w9) (fl : Fl w9 b false false false false) (hbf : w8.heap.size ≤ b) (c z n v : Bool) :
    Lp w M r R b c z n v w9.heap.size (.slice none 0 0) 0 [] ((((w9.setCell ⟨b, 0, none⟩ (.bool c)).setCell ⟨b, 1, none⟩ (.bool z)).setCell ⟨b, 2, none⟩ (.bool n)).setCell ⟨b, 3, none⟩ (.bool v)) :=
  have hB : Below w8.heap.size w8 ((((w9.setCell ⟨b, 0, none⟩ (.bool c)).setCell ⟨b, 1, none⟩ (.bool z)).setCell ⟨b, 2, none⟩ (.bool n)).setCell ⟨b, 3, none⟩ (.bool v)) :=
    Below.chg hb (Nat.le_refl _) hbf (((((Chg.of_below (g := b) (Below.refl w9.heap.size w9)).setCell 0 _).setCell 1 _).setCell 2 _).setCell 3 _)
  ⟨kp.below hB, io.below hB, fl.set c z n v, World.ownsRow_nil _ _ _ _, Nat.lt_of_lt_of_le io.lt hb.size, fl.lt, Nat.lt_of_lt_of_le kp.lt hb.size, by simp⟩
theorem Lp.append {l' : Value} {k' : Nat} {xs' : List Value} (h : Lp w M r R b c z n v base l k xs wi) (ho : w'.ownsRow base 3 1 l' k' xs') (hg : wi.grownBy w' l.ownBlock) : Lp w M r R b c z n v base l' k' xs' w' :=
  have hr : ∀ k, l.ownBlock = some k → base ≤ k := fun k hk => (h.own.lt k hk).1
  ⟨h.kp.grown hg (fun k hk => by have := hr k hk; have := h.wb; omega), h.io.row h.own hg (by decide) (by decide), h.fl.grown hg (fun k hk => by have := hr k hk; have := h.bb; omega), ho, h.rb, h.bb, h.wb, Nat.le_trans h.sz (World.grownBy.size hg)⟩
end
end Go.Proofs.Ytgpjhbaehhjdhaa
