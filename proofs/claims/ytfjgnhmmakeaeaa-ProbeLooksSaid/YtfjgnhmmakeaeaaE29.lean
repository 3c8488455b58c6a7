/- Walk of ref3.SameBytes. -/
import Derived.Test.YtfjgnhmmakeaeaaB0
namespace Go.Proofs.Ytfjgnhmmakeaeaa
open Go.RowKit
set_option linter.unusedSimpArgs false
set_option linter.unusedVariables false
set_option maxRecDepth 100000

set_option maxHeartbeats 4000000 in
theorem sameb_long (bx ox cx byy oy cyy n : Nat) (xs ys : List Int) (hl : xs.length = n) (hl2 : ys.length = n) (hm : n ≤ 9223372036854775807) (w : World)
    (hx : Hid (∀ j, j < n → w.cell? ⟨bx, ox + j, none⟩ = some (.int .u8 (xs.getD j 0)))) (hy : Hid (∀ j, j < n → w.cell? ⟨byy, oy + j, none⟩ = some (.int .u8 (ys.getD j 0)))) :
    Calls Try.prog 21 #[.slice (some ⟨bx, ox, none⟩) n cx, .slice (some ⟨byy, oy, none⟩) n cyy] w fun e w' => e = .returned (.bool (decide (xs = ys))) ∧ Below w.heap.size w w' := by
  have HL := Lib.hid hl; have HL2 := Lib.hid hl2; clear hl hl2
  have nn : ((n : Int) != (n : Int)) = false := by simp
  go_enter Try.func21, Try.ntmps21
  go_wp2
  go_loopw [5, 13] (fun _ i wr => ∃ k : Nat, k ≤ n ∧ i = .int .i64 k ∧ Hid (∀ j, j < k → xs.getD j 0 = ys.getD j 0) ∧ Hid (∃ m, wr = w.drewN m)) (fun _ i _ => n - (intOf i).toNat)
  case atStart => exact ⟨0, Nat.zero_le _, rfl, (fun j hj => by omega), ⟨0, rfl⟩⟩
  case round =>
    obtain ⟨k, hk, rfl, he, hw⟩ := hrel
    obtain ⟨m, rfl⟩ := hw.out
    clear hw
    by_cases hlt : k < n
    · obtain ⟨X, hX⟩ : ∃ X, X = xs.getD k 0 := ⟨_, rfl⟩
      obtain ⟨Y, hY⟩ : ∃ Y, Y = ys.getD k 0 := ⟨_, rfl⟩
      have cx : w.cell? ⟨bx, ox + k, none⟩ = some (.int .u8 X) := by rw [hX]; exact hx.out k hlt
      have cy : w.cell? ⟨byy, oy + k, none⟩ = some (.int .u8 Y) := by rw [hY]; exact hy.out k hlt
      have HX := Lib.hid hX; have HY := Lib.hid hY; clear hX hY
      by_cases hxy : X = Y
      · have hb : (X != Y) = false := by simp [hxy]
        have HXY := Lib.hid hxy; clear hxy
        go_wp2
        refine Rg.wp_region [] (by kernel_rfl) (by kernel_rfl) ?_
        repeat (first | (refine Rg.wpL_nil ?_) | (refine Rg.wpL_skip rfl ?_; simp only [Act.put, List.setIfInBounds_toArray, List.set_cons_zero, List.set_cons_succ]) | (refine Rg.wpL_q rfl rfl (fun K hK => ?_); go_big_quiet_op; refine hK _ ?_; clear hK K) | (refine Rg.wpL_w rfl rfl (fun K hK => ?_); go_wp2_with (first | fail | fail)))
        go_wp2
        go_roundw
        case rel => exact ⟨k + 1, by omega, by go_num, (fun j hj => by
          by_cases hjk : j < k
          · exact he.out j hjk
          · obtain rfl : j = k := by omega
            rw [← HX.out, ← HY.out]; exact HXY.out), ⟨m + 1, rfl⟩⟩
        case measure => simp [intOf]; omega
      · have hb : (X != Y) = true := by simpa using hxy
        have HXY := Lib.hid hxy; clear hxy
        go_wp2
        refine Rg.wp_region [] (by kernel_rfl) (by kernel_rfl) ?_
        repeat (first | (refine Rg.wpL_nil ?_) | (refine Rg.wpL_skip rfl ?_; simp only [Act.put, List.setIfInBounds_toArray, List.set_cons_zero, List.set_cons_succ]) | (refine Rg.wpL_q rfl rfl (fun K hK => ?_); go_big_quiet_op; refine hK _ ?_; clear hK K) | (refine Rg.wpL_w rfl rfl (fun K hK => ?_); go_wp2_with (first | fail | fail)))
        go_wp2
        go_ret
        exact ⟨W.ret1 (W.bool (by rw [list_ne_at (k := k) (by rw [← HX.out, ← HY.out]; exact HXY.out)])), below_drewN (Below.refl _ _) (m + 1)⟩
    · obtain rfl : k = n := by omega
      go_wp2
      go_ret
      exact ⟨W.ret1 (W.bool (by rw [list_eq_of (xs := xs) (ys := ys) (by rw [HL.out, HL2.out]) (fun j hj => he.out j (by rw [← HL.out]; exact hj))]; simp)), below_drewN (Below.refl _ _) m⟩
set_option maxHeartbeats 1000000 in
theorem sameb_len (a b : Option Addr) (n m ca cb : Nat) (hn : n ≤ 9223372036854775807) (hm : m ≤ 9223372036854775807) (h : n ≠ m) (w : World) :
    Calls Try.prog 21 #[.slice a n ca, .slice b m cb] w fun e w' => e = .returned (.bool false) ∧ Below w.heap.size w w' := by
  have nn : ((n : Int) != (m : Int)) = true := by simp; omega
  go_enter Try.func21, Try.ntmps21
  go_wp2
  go_ret
  exact ⟨rfl, Below.refl _ _⟩
set_option maxHeartbeats 1000000 in
theorem sameb_nil (a b : Option Addr) (ca cb : Nat) (w : World) :
    Calls Try.prog 21 #[.slice a 0 ca, .slice b 0 cb] w fun e w' => e = .returned (.bool true) ∧ Below w.heap.size w w' := by
  go_enter Try.func21, Try.ntmps21
  go_wp2
  refine wp_loop_rounds 1 ?_
  rw [rounds_succ]
  go_wp2
  go_ret
  exact ⟨rfl, Below.refl _ _⟩
/-- THE CONTRACT OF Same. -/
theorem sameb_ok (u v : Value) (n m : Nat) (xs ys : List Int) (w : World) (hu : Rd w 1 u n (xs.map (Value.int .u8))) (hv : Rd w 1 v m (ys.map (Value.int .u8))) :
    Calls Try.prog 21 #[u, v] w fun e w' => e = .returned (.bool (decide (xs = ys))) ∧ Below w.heap.size w w' := by
  obtain ⟨lx, mx, a, ca, rfl, hca, ra⟩ := hu.ints
  obtain ⟨ly, my, b, cb, rfl, hcb, rb⟩ := hv.ints
  have hmx : n ≤ 9223372036854775807 := by unfold maxLen at mx; omega
  have hmy : m ≤ 9223372036854775807 := by unfold maxLen at my; omega
  by_cases h : n = m
  · subst h
    by_cases h0 : n = 0
    · subst h0
      have e1 := List.eq_nil_of_length_eq_zero lx; have e2 := List.eq_nil_of_length_eq_zero ly
      subst e1; subst e2
      exact sameb_nil a b ca cb w
    · obtain ⟨bx, ox, rfl, cx⟩ := ra (by omega)
      obtain ⟨byy, oy, rfl, cy⟩ := rb (by omega)
      exact sameb_long bx ox ca byy oy cb n xs ys lx ly hmx w cx cy
  · have e : decide (xs = ys) = false := by rw [decide_eq_false_iff_not]; intro e; subst e; exact h (lx.symm.trans ly)
    rw [e]
    exact sameb_len a b n m ca cb hmx hmy h w
end Go.Proofs.Ytfjgnhmmakeaeaa
