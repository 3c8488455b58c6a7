/- Expressions' cells and kids. No condition. -/
import Derived.Test.YthdckndjggljpaaXB
namespace Go.Proofs.Ythdckndjggljpaa
open Go.RowKit
set_option linter.unusedVariables false
set_option linter.unusedSimpArgs false
set_option maxRecDepth 100000
abbrev Bx (w : World) (B : Nat) (k n b : Int) (s : Bool) (nm : ByteArray) (v : Value) : Prop := Blk w B 62 #[.int .i64 k, .int .u64 n, .int .i64 b, .bool s, .string nm, v]
theorem Bx.six {w : World} {B : Nat} {k n b : Int} {s : Bool} {nm : ByteArray} {v : Value} (h : Bx w B k n b s nm v) :
    w.cell? ⟨B, 0, none⟩ = some (.int .i64 k) ∧ w.cell? ⟨B, 1, none⟩ = some (.int .u64 n) ∧ w.cell? ⟨B, 2, none⟩ = some (.int .i64 b) ∧ w.cell? ⟨B, 3, none⟩ = some (.bool s) ∧ w.cell? ⟨B, 4, none⟩ = some (.string nm) ∧ w.cell? ⟨B, 5, none⟩ = some v :=
  ⟨h.cell 0, h.cell 1, h.cell 2, h.cell 3, h.cell 4, h.cell 5⟩
/-- A kid, where it lies. -/
theorem XAt.kid {w : World} {k n b : Int} {s : Bool} {nm : ByteArray} {ks : List X} {a : Option Addr} {L c : Nat} (h : XAt w (.mk k n b s nm ks) (X.cells k n b s nm (.slice a L c))) {i : Nat} {y : X} (hy : ks[i]? = some y) :
    ∃ (g off : Nat) (ay : Option Addr) (cy : Nat), a = some ⟨g, off, none⟩ ∧ XAt w y (X.cells y.kind y.num y.bits y.sg y.name (.slice ay y.kids.length cy)) ∧
      w.cell? ⟨g, off + i * 6, none⟩ = some (.int .i64 y.kind) ∧ w.cell? ⟨g, off + i * 6 + 1, none⟩ = some (.int .u64 y.num) ∧ w.cell? ⟨g, off + i * 6 + 2, none⟩ = some (.int .i64 y.bits) ∧ w.cell? ⟨g, off + i * 6 + 3, none⟩ = some (.bool y.sg) ∧ w.cell? ⟨g, off + i * 6 + 4, none⟩ = some (.string y.name) ∧ w.cell? ⟨g, off + i * 6 + 5, none⟩ = some (.slice ay y.kids.length cy) := by
  obtain ⟨a2, c2, e, _, _, hk⟩ := h.open
  have e2 : a = a2 := by
    have := congrArg (fun l => l[5]?) e
    simp at this
    exact this.1
  obtain ⟨g, off, ys, ha, hx, hc⟩ := hk i y hy
  obtain ⟨ay, cy, ey, _⟩ := hx.open
  subst ey
  exact ⟨g, off, ay, cy, e2.trans ha, hx, hc 0 _ rfl, hc 1 _ rfl, hc 2 _ rfl, hc 3 _ rfl, hc 4 _ rfl, hc 5 _ rfl⟩
theorem XAt.lens {w : World} {k n b : Int} {s : Bool} {nm : ByteArray} {ks : List X} {a : Option Addr} {L c : Nat} (h : XAt w (.mk k n b s nm ks) (X.cells k n b s nm (.slice a L c))) : ks.length = L ∧ L ≤ c ∧ c ≤ maxLen := by
  obtain ⟨a2, c2, e, h1, h2, _⟩ := h.open
  have := congrArg (fun l => l[5]?) e
  simp at this
  obtain ⟨_, h3, h4⟩ := this
  have h1' : ks.length ≤ c2 := h1
  exact ⟨h3.symm, by omega, by omega⟩
end Go.Proofs.Ythdckndjggljpaa
