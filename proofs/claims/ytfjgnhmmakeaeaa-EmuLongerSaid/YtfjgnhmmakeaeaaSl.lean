/- Slices as they read: plain facts on worlds. No condition. -/
import Derived.WalkKit
import Derived.Lib.Hide
import Derived.Deep.Draws
namespace Go.Proofs.Ytfjgnhmmakeaeaa
open Go.RowKit
set_option linter.unusedVariables false

/-- The slice v of n elements, 'size' cells each, reads in w as the cells cs. -/
def Rd (w : World) (size : Nat) (v : Value) (n : Nat) (cs : List Value) : Prop :=
  cs.length = n * size ∧ n ≤ maxLen ∧ ∃ a cap, v = .slice a n cap ∧ n ≤ cap ∧ (cs ≠ [] → ∃ b off, a = some ⟨b, off, none⟩ ∧ ∀ j u, cs[j]? = some u → w.cell? ⟨b, off + j, none⟩ = some u)

theorem Rd.below {w w' : World} {size n : Nat} {v : Value} {cs : List Value} (h : Rd w size v n cs) (hb : Below w.heap.size w w') : Rd w' size v n cs := by
  obtain ⟨h1, h2, a, cap, hv, hc, hr⟩ := h
  refine ⟨h1, h2, a, cap, hv, hc, fun hne => ?_⟩
  obtain ⟨b, off, ha, hj⟩ := hr hne
  refine ⟨b, off, ha, fun j u hu => ?_⟩
  have hcell := hj j u hu
  have hlt : b < w.heap.size := World.block_lt_of_cell? w ⟨b, off + j, none⟩ hcell
  rw [← hcell]
  exact Below.cell (w := w) hb (p := ⟨b, off + j, none⟩) hlt

theorem Rd.of_owns {w : World} {base e size n : Nat} {v : Value} {xs : List Value} (h : w.ownsRow base e size v n xs) (hn : n ≤ maxLen) : Rd w size v n xs := by
  obtain ⟨hl, h2⟩ := h
  rcases h2 with ⟨rfl, rfl⟩ | ⟨g, cap, cur, rfl, hb, hg, hc, hm, hsz, htake⟩
  · refine ⟨hl, Nat.zero_le _, none, 0, rfl, Nat.le_refl _, fun hne => ?_⟩
    exfalso; apply hne; exact List.eq_nil_of_length_eq_zero (by omega)
  · refine ⟨hl, hn, some ⟨g, 0, none⟩, cap, rfl, hc, fun hne => ⟨g, 0, rfl, fun j u hu => ?_⟩⟩
    have hlt : j < xs.length := by
      rcases Nat.lt_or_ge j xs.length with h' | h'
      · exact h'
      · rw [List.getElem?_eq_none h'] at hu; cases hu
    have : cur.toList[j]? = some u := by
      rw [← htake, List.getElem?_take] at hu
      split at hu
      · exact hu
      · cases hu
    simp only [World.cell?, hg, Nat.zero_add, Option.isSome_none, Bool.false_eq_true, if_false]
    rw [← Array.getElem?_toList]; exact this

/-- An empty one, nil or not. -/
theorem Rd.nil (w : World) (size : Nat) : Rd w size (.slice none 0 0) 0 [] := ⟨by simp, Nat.zero_le _, none, 0, rfl, Nat.le_refl _, fun h => absurd rfl h⟩

theorem Rd.len {w : World} {size n : Nat} {v : Value} {cs : List Value} (h : Rd w size v n cs) : ∃ a cap, v = .slice a n cap ∧ n ≤ cap := by
  obtain ⟨_, _, a, cap, hv, hc, _⟩ := h
  exact ⟨a, cap, hv, hc⟩

/-- Of numbers: the slice itself, and its cells. -/
theorem Rd.ints {w : World} {k : IntKind} {n : Nat} {v : Value} {xs : List Int} (h : Rd w 1 v n (xs.map (Value.int k))) :
    xs.length = n ∧ n ≤ maxLen ∧ ∃ a cap, v = .slice a n cap ∧ n ≤ cap ∧ (0 < n → ∃ b off, a = some ⟨b, off, none⟩ ∧ ∀ j, j < n → w.cell? ⟨b, off + j, none⟩ = some (.int k (xs.getD j 0))) := by
  obtain ⟨h1, h2, a, cap, hv, hc, hr⟩ := h
  have hl : xs.length = n := by simpa using h1
  refine ⟨hl, h2, a, cap, hv, hc, fun hn => ?_⟩
  obtain ⟨b, off, ha, hj⟩ := hr (by intro e; rw [List.map_eq_nil_iff] at e; subst e; simp at hl; omega)
  refine ⟨b, off, ha, fun j hj' => hj j _ ?_⟩
  have hj2 : j < xs.length := by omega
  simp [List.getElem?_map, List.getElem?_eq_getElem hj2, List.getD_eq_getElem?_getD]

/-- Old cells and old marks read as before. -/
theorem bcell {W w1 : World} (hb : Below W.heap.size W w1) : (∀ b o, b < W.heap.size → w1.cell? ⟨b, o, none⟩ = W.cell? ⟨b, o, none⟩) ∧ (∀ b o, b < W.heap.size → w1.frozen? ⟨b, o, none⟩ = W.frozen? ⟨b, o, none⟩) :=
  ⟨fun b o h => hb.cell (p := ⟨b, o, none⟩) h, fun b o h => hb.frozen (p := ⟨b, o, none⟩) h⟩
/-- What a call that only makes memory leaves. -/
theorem Ext.alloc {w a : World} (h : Below w.heap.size w a) (o : Obj) : Below w.heap.size w (a.alloc o) := h.alloc h.size o
theorem Ext.trans {w a b : World} (h : Below w.heap.size w a) (k : Below a.heap.size a b) : Below w.heap.size w b := Below.trans h (k.mono h.size)
theorem Ext.setCell {w a : World} (h : Below w.heap.size w a) {p : Addr} (hp : w.heap.size ≤ p.block) (u : Value) : Below w.heap.size w (a.setCell p u) := Below.setCell h hp u
theorem below_drewN {B : Nat} {a w : World} (h : Below B a w) (n : Nat) : Below B a (w.drewN n) := by
  refine h.trans ⟨rfl, rfl, rfl, ?_, ?_⟩
  · simp
  · intro k _; simp
theorem Ext.drewN {w a : World} (h : Below w.heap.size w a) (n : Nat) : Below w.heap.size w (a.drewN n) := below_drewN h n
end Go.Proofs.Ytfjgnhmmakeaeaa
