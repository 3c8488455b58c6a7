/- Numbers of any size as objects: Mul. -/
import Derived.Test.YtkmcniaaecijdaaN16
import Derived.Test.YtkmcniaaecijdaaNA
namespace Go.Proofs.Ytkmcniaaecijdaa
open Go.RowKit
set_option linter.unusedVariables false
set_option linter.unusedSimpArgs false
set_option maxRecDepth 100000

theorem mul_sign {x y : Int} : ((decide (x < 0) != decide (y < 0)) = true → x * y ≤ 0) ∧ ((decide (x < 0) != decide (y < 0)) = false → 0 ≤ x * y) := by
  by_cases h1 : x < 0 <;> by_cases h2 : y < 0 <;> simp only [h1, h2, decide_true, decide_false]
  · exact ⟨by simp, fun _ => Int.mul_nonneg_of_nonpos_of_nonpos (by omega) (by omega)⟩
  · exact ⟨fun _ => Int.mul_nonpos_of_nonpos_of_nonneg (by omega) (by omega), by simp⟩
  · exact ⟨fun _ => Int.mul_nonpos_of_nonneg_of_nonpos (by omega) (by omega), by simp⟩
  · exact ⟨by simp, fun _ => Int.mul_nonneg (by omega) (by omega)⟩
theorem keep4 {wi w2 : World} {B0 B1 : Nat} {a0 a1 b0 b1 : Value} (hb : Below wi.heap.size wi w2) (h : wi.cell? ⟨B0, 0, none⟩ = some a0 ∧ wi.cell? ⟨B0, 1, none⟩ = some a1 ∧ wi.cell? ⟨B1, 0, none⟩ = some b0 ∧ wi.cell? ⟨B1, 1, none⟩ = some b1) :
    w2.cell? ⟨B0, 0, none⟩ = some a0 ∧ w2.cell? ⟨B0, 1, none⟩ = some a1 ∧ w2.cell? ⟨B1, 0, none⟩ = some b0 ∧ w2.cell? ⟨B1, 1, none⟩ = some b1 := by
  obtain ⟨h0, h1, h2, h3⟩ := h
  obtain ⟨p0, p1⟩ := keep2 hb ⟨h0, h1⟩
  obtain ⟨p2, p3⟩ := keep2 hb ⟨h2, h3⟩
  exact ⟨p0, p1, p2, p3⟩
theorem Chg.cell {g b o : Nat} {v : Value} {w w' : World} (h : Chg g w w') (hne : b ≠ g) (hc : w.cell? ⟨b, o, none⟩ = some v) : w'.cell? ⟨b, o, none⟩ = some v := by
  rw [World.cell?_of_block (h.block b (World.block_lt_of_cell? w ⟨b, o, none⟩ hc) (by simpa using hne))]; exact hc
theorem chg4 {g B0 B1 : Nat} {wi w2 : World} {a0 a1 b0 b1 : Value} (h : Chg g wi w2) (h0 : B0 ≠ g) (h1 : B1 ≠ g) (k : wi.cell? ⟨B0, 0, none⟩ = some a0 ∧ wi.cell? ⟨B0, 1, none⟩ = some a1 ∧ wi.cell? ⟨B1, 0, none⟩ = some b0 ∧ wi.cell? ⟨B1, 1, none⟩ = some b1) :
    w2.cell? ⟨B0, 0, none⟩ = some a0 ∧ w2.cell? ⟨B0, 1, none⟩ = some a1 ∧ w2.cell? ⟨B1, 0, none⟩ = some b0 ∧ w2.cell? ⟨B1, 1, none⟩ = some b1 :=
  ⟨h.cell h0 k.1, h.cell h0 k.2.1, h.cell h1 k.2.2.1, h.cell h1 k.2.2.2⟩
set_option maxHeartbeats 4000000 in
theorem intMul_ok (g gx gy : Nat) (z x y : Int) (hgx : gx ≠ g) (hgy : gy ≠ g) (ha : Sm x.natAbs) (hb : Sm y.natAbs) (w : World) (hz : Io w g z) (hx : Io w gx x) (hy : Io w gy y) :
    Calls Try.prog 103 #[P g, P gx, P gy] w fun e w' => e = .returned (P g) ∧ Chg g w w' ∧ Io w' g (x * y) := by
  obtain ⟨a, l, c, c0, c1, hn, hl⟩ := hx.cells
  obtain ⟨a', l', c', d0, d1, hn', hl'⟩ := hy.cells
  have CS : Hid (∀ w : World, Nm w (.slice a l c) x.natAbs → Nm w (.slice a' l' c') y.natAbs → Calls Try.prog 113 #[.slice a l c, .slice a' l' c'] w fun e w' => ∃ r, e = .returned r ∧ Below w.heap.size w w' ∧ Nm w' r (x * y).natAbs) := fun w h1 h2 => by
    rw [Int.natAbs_mul]; exact bmul_ok _ _ _ _ ha hb w h1 h2
  obtain ⟨s, hs⟩ := boolL x
  obtain ⟨t, ht⟩ := boolL y
  have hsg := mul_sign (x := x) (y := y)
  rw [← hs, ← ht] at hsg
  rw [← hs] at c0
  rw [← ht] at d0
  have CG : Hid (∀ (w : World) (v : Value), Io w g z → Nm w v (x * y).natAbs → Calls Try.prog 97 #[P g, .bool (s != t), v] w fun e w' => e = .returned (P g) ∧ Chg g w w' ∧ Io w' g (x * y)) := fun w v h1 h2 => give_ok g z _ _ v w h1 h2 hsg.1 hsg.2
  have HN := Lib.hid hn; have HN' := Lib.hid hn'; have HZ := Lib.hid hz; have HGX := Lib.hid hgx; have HGY := Lib.hid hgy
  clear hn hn' hl hl' hx hy hz hs ht ha hb hsg hgx hgy
  go_enter Try.func103, Try.ntmps103
  go_wp2
  have c0' : w.drew.cell? ⟨gx, 0, none⟩ = _ := c0
  have c1' : w.drew.cell? ⟨gx, 1, none⟩ = _ := c1
  have d0' : w.drew.cell? ⟨gy, 0, none⟩ = _ := d0
  have d1' : w.drew.cell? ⟨gy, 1, none⟩ = _ := d1
  go_region_held3 (fun w' => w'.cell? ⟨gx, 0, none⟩ = some (.bool s) ∧ w'.cell? ⟨gx, 1, none⟩ = some (.slice a l c) ∧ w'.cell? ⟨gy, 0, none⟩ = some (.bool t) ∧ w'.cell? ⟨gy, 1, none⟩ = some (.slice a' l' c'))
    (first | exact ⟨c0', c1', d0', d1'⟩ | exact keep4 hb2 (by assumption) | exact chg4 hc HGX.out HGY.out (by assumption))
    (first | (go_at_call 113; refine (CS.out _ (HN.out.drewN 1) (HN'.out.drewN 1)).mono ?_; rintro e w2 ⟨v1, rfl, hb2, hv2⟩; have HV2 := Lib.hid hv2) | (go_at_call 97; refine (CG.out _ _ ((HZ.out.drewN 1).below hb2) HV2.out).mono ?_; rintro e w3 ⟨rfl, hc, hi⟩; have HI := Lib.hid hi))
  go_wp2
  go_ret
  exact ⟨rfl, Chg.undrew ((Chg.of_below hb2).trans hc), HI.out⟩
end Go.Proofs.Ytkmcniaaecijdaa
