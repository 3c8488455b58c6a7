/- Numbers of any size as objects: Set, Uint64, Int64, Sign, Cmp, sum. -/
import Derived.Test.YtkmcniaaecijdaaN13
import Derived.Deep.RegionHeld3
import Derived.Deep.RegionWith
namespace Go.Proofs.Ytkmcniaaecijdaa
open Go.RowKit
set_option linter.unusedVariables false
set_option linter.unusedSimpArgs false
set_option maxRecDepth 100000

/-- The object's cells. -/
theorem Io.cells {w : World} {g : Nat} {z : Int} (h : Io w g z) : ∃ a l c, w.cell? ⟨g, 0, none⟩ = some (.bool (decide (z < 0))) ∧ w.cell? ⟨g, 1, none⟩ = some (.slice a l c) ∧ Nm w (.slice a l c) z.natAbs ∧ l = N.ln z.natAbs := by
  obtain ⟨v, hb, hv⟩ := h
  obtain ⟨_, A, cap, rfl, _, _⟩ := hv.open_
  exact ⟨_, _, _, by rw [hb.cell]; rfl, by rw [hb.cell]; rfl, hv, rfl⟩
theorem keep2 {wi w2 : World} {B0 : Nat} {a0 a1 : Value} (hb : Below wi.heap.size wi w2) (h : wi.cell? ⟨B0, 0, none⟩ = some a0 ∧ wi.cell? ⟨B0, 1, none⟩ = some a1) : w2.cell? ⟨B0, 0, none⟩ = some a0 ∧ w2.cell? ⟨B0, 1, none⟩ = some a1 := by
  obtain ⟨hc, _⟩ := bcell hb
  exact ⟨by rw [hc _ _ (World.block_lt_of_cell? _ _ h.1)]; exact h.1, by rw [hc _ _ (World.block_lt_of_cell? _ _ h.2)]; exact h.2⟩
theorem Io.drewN {w : World} {g : Nat} {z : Int} (h : Io w g z) (m : Nat) : Io (w.drewN m) g z := h.below (below_drewN (Below.refl _ _) m)
theorem Io.drew {w : World} {g : Nat} {z : Int} (h : Io w g z) : Io w.drew g z := h.drewN 1
theorem Chg.undrew {g : Nat} {w w' : World} (h : Chg g w.drew w') : Chg g w w' := ⟨h.os, h.tape, h.output, h.size, h.block⟩
theorem neg_le {z : Int} : decide (z < 0) = true → z ≤ 0 := by simp; omega
theorem neg_ge {z : Int} : decide (z < 0) = false → 0 ≤ z := by simp

set_option maxHeartbeats 4000000 in
theorem set_ok (g gx : Nat) (z x : Int) (hs : Sm x.natAbs) (w : World) (hz : Io w g z) (hx : Io w gx x) :
    Calls Try.prog 112 #[P g, P gx] w fun e w' => e = .returned (P g) ∧ Chg g w w' ∧ Io w' g x := by
  obtain ⟨a, l, c, c0, c1, hn, hl⟩ := hx.cells
  clear hl
  have CT : Hid (∀ w : World, Nm w (.slice a l c) x.natAbs → Calls Try.prog 98 #[.slice a l c] w fun e w' => ∃ u, e = .returned u ∧ Below w.heap.size w w' ∧ Nm w' u x.natAbs) := fun w h => twin_ok _ _ hs w h
  obtain ⟨s, hs0⟩ : ∃ s, s = decide (x < 0) := ⟨_, rfl⟩
  rw [← hs0] at c0
  have CG : Hid (∀ (w : World) (v : Value), Io w g z → Nm w v x.natAbs → Calls Try.prog 97 #[P g, .bool s, v] w fun e w' => e = .returned (P g) ∧ Chg g w w' ∧ Io w' g x) := fun w v h1 h2 => by
    rw [hs0]; exact give_ok g z x _ v w h1 h2 neg_le neg_ge
  have HN := Lib.hid hn; have HZ := Lib.hid hz
  clear hn hz hx hs hs0
  go_enter Try.func112, Try.ntmps112
  go_wp2
  have c0' : w.drew.cell? ⟨gx, 0, none⟩ = some (.bool s) := c0
  have c1' : w.drew.cell? ⟨gx, 1, none⟩ = some (.slice a l c) := c1
  have d0 : ∀ w2, Below w.drew.heap.size w.drew w2 → w2.cell? ⟨gx, 0, none⟩ = some (.bool s) := fun w2 hb => (keep2 hb ⟨c0', c1'⟩).1
  have HD := Lib.hid d0; clear d0 c0' c1'
  go_region_with (first | (go_at_call 98; refine (CT.out _ (HN.out.below (Ext.drew (Below.refl _ _)))).mono ?_; rintro e w2 ⟨u, rfl, hb2, hu⟩; have HU := Lib.hid hu; have HB2 := Lib.hid hb2; have d0 := HD.out _ hb2; clear hu hb2) | (go_at_call 97; refine (CG.out _ _ (HZ.out.drew.below HB2.out) HU.out).mono ?_; rintro e w3 ⟨rfl, hc, hi⟩; have HC := Lib.hid hc; have HI := Lib.hid hi; clear hc hi))
  all_goals
    go_wp2
    go_ret
    exact ⟨rfl, ((Chg.of_below HB2.out).trans HC.out).undrew, HI.out⟩
end Go.Proofs.Ytkmcniaaecijdaa
