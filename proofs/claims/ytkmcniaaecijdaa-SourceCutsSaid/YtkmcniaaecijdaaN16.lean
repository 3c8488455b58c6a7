/- Numbers of any size as objects: Add, Sub, Mul, Lsh, Neg. -/
import Derived.Test.YtkmcniaaecijdaaN15
namespace Go.Proofs.Ytkmcniaaecijdaa
open Go.RowKit
set_option linter.unusedVariables false
set_option linter.unusedSimpArgs false
set_option maxRecDepth 100000

theorem boolL (z : Int) : ∃ s : Bool, s = decide (z < 0) := ⟨_, rfl⟩
theorem neg_not_le {z : Int} : (!decide (z < 0)) = true → -z ≤ 0 := by intro h; simp at h; omega
theorem neg_not_ge {z : Int} : (!decide (z < 0)) = false → 0 ≤ -z := by intro h; simp at h; omega
set_option maxHeartbeats 2000000 in
theorem intAdd_ok (g gx gy : Nat) (z x y : Int) (ha : Sm x.natAbs) (hb : Sm y.natAbs) (w : World) (hz : Io w g z) (hx : Io w gx x) (hy : Io w gy y) :
    Calls Try.prog 102 #[P g, P gx, P gy] w fun e w' => e = .returned (P g) ∧ Chg g w w' ∧ Io w' g (x + y) := by
  obtain ⟨a, l, c, c0, c1, hn, hl⟩ := hx.cells
  obtain ⟨a', l', c', d0, d1, hn', hl'⟩ := hy.cells
  obtain ⟨s, hs⟩ := boolL x
  obtain ⟨t, ht⟩ := boolL y
  rw [← hs] at c0
  rw [← ht] at d0
  have CS : Hid (∀ w : World, Nm w (.slice a l c) x.natAbs → Nm w (.slice a' l' c') y.natAbs → Calls Try.prog 109 #[.bool s, .slice a l c, .bool t, .slice a' l' c'] w (SumOk w (x + y))) := fun w h1 h2 => by
    rw [hs, ht]
    exact bsum_ok _ _ _ _ x y ha hb neg_le neg_ge neg_le neg_ge w h1 h2
  have CG : Hid (∀ (w : World) (s : Bool) (v : Value), Io w g z → Nm w v (x + y).natAbs → (s = true → x + y ≤ 0) → (s = false → 0 ≤ x + y) → Calls Try.prog 97 #[P g, .bool s, v] w fun e w' => e = .returned (P g) ∧ Chg g w w' ∧ Io w' g (x + y)) := fun w s v h1 h2 h3 h4 => give_ok g z _ s v w h1 h2 h3 h4
  have HN := Lib.hid hn; have HN' := Lib.hid hn'; have HZ := Lib.hid hz
  clear hn hn' hl hl' hx hy hz hs ht ha hb
  go_enter Try.func102, Try.ntmps102
  go_wp2
  refine Rg.wp_region [] (by kernel_rfl) (by kernel_rfl) ?_
  repeat (first | (refine Rg.wpL_nil ?_) | (refine Rg.wpL_skip rfl ?_; simp only [Act.put, List.setIfInBounds_toArray, List.set_cons_zero, List.set_cons_succ]) | (refine Rg.wpL_q rfl rfl (fun K hK => ?_); go_big_quiet_op; refine hK _ ?_; clear hK K) | (refine Rg.wpL_w rfl rfl (fun K hK => ?_); go_wp2_with (first | fail | (go_at_call 109; refine (CS.out _ (HN.out.drewN 1) (HN'.out.drewN 1)).mono ?_; rintro e w2 ⟨s1, v1, rfl, hb2, hv2, hs1, hs2⟩; have HB2 := Lib.hid hb2; have HV2 := Lib.hid hv2; have HS1 := Lib.hid hs1; have HS2 := Lib.hid hs2; clear hb2 hv2 hs1 hs2) | (go_at_call 97; refine (CG.out _ _ _ ((HZ.out.drewN 1).below HB2.out) HV2.out HS1.out HS2.out).mono ?_; rintro e w3 ⟨rfl, hc, hi⟩; have HC := Lib.hid hc; have HI := Lib.hid hi; clear hc hi))))
  go_wp2
  go_ret
  exact ⟨rfl, Chg.undrew ((Chg.of_below HB2.out).trans HC.out), HI.out⟩
set_option maxHeartbeats 2000000 in
theorem intSub_ok (g gx gy : Nat) (z x y : Int) (ha : Sm x.natAbs) (hb : Sm y.natAbs) (w : World) (hz : Io w g z) (hx : Io w gx x) (hy : Io w gy y) :
    Calls Try.prog 85 #[P g, P gx, P gy] w fun e w' => e = .returned (P g) ∧ Chg g w w' ∧ Io w' g (x - y) := by
  obtain ⟨a, l, c, c0, c1, hn, hl⟩ := hx.cells
  obtain ⟨a', l', c', d0, d1, hn', hl'⟩ := hy.cells
  obtain ⟨s, hs⟩ := boolL x
  obtain ⟨t, ht⟩ := boolL y
  rw [← hs] at c0
  rw [← ht] at d0
  have CS : Hid (∀ w : World, Nm w (.slice a l c) x.natAbs → Nm w (.slice a' l' c') y.natAbs → Calls Try.prog 109 #[.bool s, .slice a l c, .bool (!t), .slice a' l' c'] w (SumOk w (x - y))) := fun w h1 h2 => by
    rw [hs, ht]
    have := bsum_ok (decide (x < 0)) (!decide (y < 0)) _ _ x (-y) ha (by rw [Int.natAbs_neg]; exact hb) neg_le neg_ge neg_not_le neg_not_ge w h1 (by rw [Int.natAbs_neg]; exact h2)
    rwa [← Int.sub_eq_add_neg] at this
  have CG : Hid (∀ (w : World) (s : Bool) (v : Value), Io w g z → Nm w v (x - y).natAbs → (s = true → x - y ≤ 0) → (s = false → 0 ≤ x - y) → Calls Try.prog 97 #[P g, .bool s, v] w fun e w' => e = .returned (P g) ∧ Chg g w w' ∧ Io w' g (x - y)) := fun w s v h1 h2 h3 h4 => give_ok g z _ s v w h1 h2 h3 h4
  have HN := Lib.hid hn; have HN' := Lib.hid hn'; have HZ := Lib.hid hz
  clear hn hn' hl hl' hx hy hz hs ht ha hb
  go_enter Try.func85, Try.ntmps85
  go_wp2
  refine Rg.wp_region [] (by kernel_rfl) (by kernel_rfl) ?_
  repeat (first | (refine Rg.wpL_nil ?_) | (refine Rg.wpL_skip rfl ?_; simp only [Act.put, List.setIfInBounds_toArray, List.set_cons_zero, List.set_cons_succ]) | (refine Rg.wpL_q rfl rfl (fun K hK => ?_); go_big_quiet_op; refine hK _ ?_; clear hK K) | (refine Rg.wpL_w rfl rfl (fun K hK => ?_); go_wp2_with (first | fail | (go_at_call 109; refine (CS.out _ (HN.out.drewN 1) (HN'.out.drewN 1)).mono ?_; rintro e w2 ⟨s1, v1, rfl, hb2, hv2, hs1, hs2⟩; have HB2 := Lib.hid hb2; have HV2 := Lib.hid hv2; have HS1 := Lib.hid hs1; have HS2 := Lib.hid hs2; clear hb2 hv2 hs1 hs2) | (go_at_call 97; refine (CG.out _ _ _ ((HZ.out.drewN 1).below HB2.out) HV2.out HS1.out HS2.out).mono ?_; rintro e w3 ⟨rfl, hc, hi⟩; have HC := Lib.hid hc; have HI := Lib.hid hi; clear hc hi))))
  go_wp2
  go_ret
  exact ⟨rfl, Chg.undrew ((Chg.of_below HB2.out).trans HC.out), HI.out⟩
end Go.Proofs.Ytkmcniaaecijdaa
