/- More plain facts on worlds: a block of the call's own behind a callee that only makes memory. No condition. -/
import Derived.Test.YtfjgnhmmakeaeaaSl
namespace Go.Proofs.Ytfjgnhmmakeaeaa
open Go.RowKit
set_option linter.unusedVariables false

theorem own_lt {w w1 : World} {o : Obj} (hb : Below (w.alloc o).heap.size (w.alloc o) w1) : w.heap.size < w1.heap.size := by
  have := hb.size; simp at this; omega
theorem own_cell {w w1 : World} {cs : Array Value} {t : TypeId} (hb : Below (w.alloc (.cells cs t)).heap.size (w.alloc (.cells cs t)) w1) (o : Nat) : w1.cell? ⟨w.heap.size, o, none⟩ = cs[o]? := by
  rw [(bcell hb).1 _ _ (by simp)]
  simp only [World.cell?, heap_alloc_new w]
  rfl
theorem own_free {w w1 : World} {cs : Array Value} {t : TypeId} (hb : Below (w.alloc (.cells cs t)).heap.size (w.alloc (.cells cs t)) w1) (o : Nat) : w1.frozen? ⟨w.heap.size, o, none⟩ = false := by
  rw [(bcell hb).2 _ _ (by simp)]
  simp only [World.frozen?, heap_alloc_new w]
  simp
theorem own4 {w w1 : World} {a b c d : Value} {t : TypeId} (hb : Below (w.alloc (.cells #[a, b, c, d] t)).heap.size (w.alloc (.cells #[a, b, c, d] t)) w1) :
    w.heap.size < w1.heap.size ∧ w1.cell? ⟨w.heap.size, 0, none⟩ = some a ∧ w1.cell? ⟨w.heap.size, 1, none⟩ = some b ∧ w1.cell? ⟨w.heap.size, 2, none⟩ = some c ∧ w1.cell? ⟨w.heap.size, 3, none⟩ = some d ∧
    w1.frozen? ⟨w.heap.size, 0, none⟩ = false ∧ w1.frozen? ⟨w.heap.size, 1, none⟩ = false ∧ w1.frozen? ⟨w.heap.size, 2, none⟩ = false ∧ w1.frozen? ⟨w.heap.size, 3, none⟩ = false :=
  ⟨own_lt hb, own_cell hb 0, own_cell hb 1, own_cell hb 2, own_cell hb 3, own_free hb 0, own_free hb 1, own_free hb 2, own_free hb 3⟩
theorem own1 {w w1 : World} {a : Value} {t : TypeId} (hb : Below (w.alloc (.cells #[a] t)).heap.size (w.alloc (.cells #[a] t)) w1) :
    w.heap.size < w1.heap.size ∧ w1.cell? ⟨w.heap.size, 0, none⟩ = some a ∧ w1.frozen? ⟨w.heap.size, 0, none⟩ = false :=
  ⟨own_lt hb, own_cell hb 0, own_free hb 0⟩
theorem own2 {w w1 : World} {a b : Value} {t : TypeId} (hb : Below (w.alloc (.cells #[a, b] t)).heap.size (w.alloc (.cells #[a, b] t)) w1) :
    w.heap.size < w1.heap.size ∧ w1.cell? ⟨w.heap.size, 0, none⟩ = some a ∧ w1.cell? ⟨w.heap.size, 1, none⟩ = some b ∧ w1.frozen? ⟨w.heap.size, 0, none⟩ = false ∧ w1.frozen? ⟨w.heap.size, 1, none⟩ = false :=
  ⟨own_lt hb, own_cell hb 0, own_cell hb 1, own_free hb 0, own_free hb 1⟩
/-- An older block stays apart. -/
theorem Ext.drew {w a : World} (h : Below w.heap.size w a) : Below w.heap.size w a.drew := Below.drew h
/-- The one new cell of 'append(xs, x)'. -/
theorem one_new {w : World} {b : Nat} (hb : b = w.heap.size) (x : Value) (e : TypeId) : ∀ j u, [x][j]? = some u → (w.alloc (.cells #[x] e)).cell? ((⟨b, 0, none⟩ : Addr).add j) = some u := by
  intro j u hj
  subst hb
  rcases j with _ | j
  · simp at hj; subst hj
    simp only [Addr.add, if_true, World.cell?, heap_alloc_new w]
    rfl
  · simp at hj
theorem one_cell {x : Value} (h : x.oneCell' = true) : ∀ u ∈ [x], u.oneCell' = true := by
  intro u hu; simp at hu; subst hu; exact h
theorem Ext.undrew {w a : World} (h : Below w.drew.heap.size w.drew a) : Below w.heap.size w a := ⟨h.os, h.tape, h.output, h.size, h.block⟩
theorem Ext.undrewN {w a : World} {n : Nat} (h : Below (w.drewN n).heap.size (w.drewN n) a) : Below w.heap.size w a := ⟨h.os, h.tape, h.output, h.size, h.block⟩
end Go.Proofs.Ytfjgnhmmakeaeaa
