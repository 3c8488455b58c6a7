/- WordParts: quotient and rest make the number, and the rest is less than the divisor. -/
import Derived.Test.YtgpjhbaehhjdhaaL1
namespace Go.Proofs.Ytgpjhbaehhjdhaa
open Go.ChangeShapes Go.WideShapes Go.ChangeAt Go.RowKit
set_option linter.unusedVariables false
set_option maxRecDepth 100000
namespace parts

theorem dvd_sub_mod (x m : Int) : m ∣ x - x % m := ⟨x / m, by have := Int.emod_add_mul_ediv x m; omega⟩
/-- They make the number. -/
theorem made (v a b : Int) (s : Bool) : W.add v (W.mul v (W.quo v s a b) b) (W.rem v s a b) = W.cut v a := by
  show W.add v ((W.quo v s a b * b) % W.md v) _ = _
  rw [W.add_mod_l]
  unfold W.quo W.rem
  cases s
  · simp only [Bool.false_eq_true, if_false]
    unfold W.add W.cut
    have e : (a % W.md v / (b % W.md v) * b + a % W.md v % (b % W.md v)) % W.md v = (a % W.md v / (b % W.md v) * (b % W.md v) + a % W.md v % (b % W.md v)) % W.md v := by
      have e2 : ∀ q : Int, (q * b) % W.md v = (q * (b % W.md v)) % W.md v := fun q => by rw [Int.mul_emod, Int.mul_emod q (b % W.md v), Int.emod_emod]
      rw [Int.add_emod, e2, ← Int.add_emod]
    rw [e, Int.mul_comm, Int.mul_ediv_add_emod, Int.emod_emod]
  · simp only [if_true]
    unfold W.cut
    rw [W.add_mod_r]
    unfold W.add
    rw [Int.add_emod, Int.mul_emod, Int.emod_emod, ← W.sg_mod v b, ← Int.mul_emod, ← Int.add_emod, Int.tdiv_mul_add_tmod, W.sg_mod]
theorem sg_bd (v a : Int) : -(W.md v) ≤ W.sg v a * 2 ∧ W.sg v a * 2 < W.md v := by
  have h0 := W.mod_lo a v; have h1 := W.mod_hi a v
  unfold W.sg; split <;> omega
theorem sg_small (v R : Int) (h0 : -(W.md v) ≤ R * 2) (h1 : R * 2 < W.md v) : W.sg v R = R := by
  have hm := W.md_pos v
  by_cases h : 0 ≤ R
  · have e : R % W.md v = R := Int.emod_eq_of_lt h (by omega)
    unfold W.sg; rw [e, if_pos h1]
  · have e : R % W.md v = R + W.md v := by
      rw [← Int.add_emod_right]; exact Int.emod_eq_of_lt (by omega) (by omega)
    unfold W.sg; rw [e, if_neg (by omega)]; omega
theorem sg_rem (v a b : Int) (hb : W.sg v b ≠ 0) : W.sg v (W.rem v true a b) = (W.sg v a).tmod (W.sg v b) := by
  unfold W.rem; rw [if_pos rfl]
  have e : ∀ x, W.sg v (x % W.md v) = W.sg v x := fun x => W.sg_cut v x
  rw [e]
  have hY := sg_bd v b
  have h1 : ((W.sg v a).tmod (W.sg v b)).natAbs < (W.sg v b).natAbs := by rw [Int.natAbs_tmod]; exact Nat.mod_lt _ (by omega)
  exact sg_small v _ (by omega) (by omega)
theorem sg_zero (v b : Int) (hb : b % W.md v ≠ 0) : W.sg v b ≠ 0 := by
  have h1 := W.mod_hi b v
  unfold W.sg; split <;> omega
/-- The rest's sign, and its size. -/
theorem rest (X Y : Int) (hY : Y ≠ 0) : (0 < X.tmod Y → 0 < X) ∧ (X.tmod Y < 0 → X < 0) ∧ (X.tmod Y).natAbs < Y.natAbs := by
  have h1 : (X.tmod Y).natAbs < Y.natAbs := by rw [Int.natAbs_tmod]; exact Nat.mod_lt _ (by omega)
  refine ⟨fun h => ?_, fun h => ?_, h1⟩
  · by_cases hx : 0 < X
    · exact hx
    · have h2 : 0 ≤ (-X).tmod Y := Int.tmod_nonneg Y (by omega)
      rw [Int.neg_tmod] at h2; omega
  · by_cases hx : X < 0
    · exact hx
    · have h2 : 0 ≤ X.tmod Y := Int.tmod_nonneg Y (by omega)
      omega

set_option maxHeartbeats 1000000 in
theorem walk_no (a b v : Int) (s : Bool) (h : ¬ W.ok v) (w : World) :
    Calls Try.prog 12 #[.int .u64 a, .int .u64 b, .int .i64 v, .bool s] w fun e w' => e = .returned (.bool true) ∧ Below w.heap.size w w' := by
  go_enter Try.func12, Try.ntmps12
  go_wp2_with (first | (go_at_call 33; refine (alive1 _).mono ?_; rintro e w1 ⟨rfl, hb1⟩; have HB1 := Lib.hid hb1; clear hb1) | (go_at_call 47; refine (div_no _ _ _ _ h _).mono ?_; rintro e w' ⟨rfl, rfl⟩) | (go_at_call 48; refine (rem_no _ _ _ _ h _).mono ?_; rintro e w' ⟨rfl, rfl⟩))
  go_ret
  exact ⟨rfl, HB1.out⟩
set_option maxHeartbeats 1000000 in
theorem walk_zero (a b v : Int) (s : Bool) (h : W.ok v) (hb : W.U b) (hz : b % W.md v = 0) (w : World) :
    Calls Try.prog 12 #[.int .u64 a, .int .u64 b, .int .i64 v, .bool s] w fun e w' => e = .returned (.bool true) ∧ Below w.heap.size w w' := by
  have HZ := Lib.hid hz; clear hz
  go_enter Try.func12, Try.ntmps12
  go_wp2_with (first | (go_at_call 33; refine (alive1 _).mono ?_; rintro e w1 ⟨rfl, hb1⟩; have HB1 := Lib.hid hb1; clear hb1) | (go_at_call 47; refine (div_zero _ _ _ _ h hb HZ.out _).mono ?_; rintro e w' ⟨rfl, rfl⟩) | (go_at_call 48; refine (rem_zero _ _ _ _ h hb HZ.out _).mono ?_; rintro e w' ⟨rfl, rfl⟩))
  go_ret
  exact ⟨rfl, HB1.out⟩
set_option maxHeartbeats 1000000 in
theorem walk_plain (a b v : Int) (h : W.ok v) (ha : W.U a) (hb : W.U b) (hz : b % W.md v ≠ 0) (w : World) :
    Calls Try.prog 12 #[.int .u64 a, .int .u64 b, .int .i64 v, .bool false] w fun e w' => e = .returned (.bool true) ∧ Below w.heap.size w w' := by
  have hr := W.rem_U v false a b
  have hq := W.quo_U v false a b
  have q1 : (W.add v (W.mul v (W.quo v false a b) b) (W.rem v false a b) != W.cut v a) = false := by rw [made]; simp
  have q2 : W.rem v false a b < W.cut v b := by
    unfold W.rem W.cut; rw [if_neg (by decide)]
    have h0 := W.mod_lo b v
    exact Int.emod_lt_of_pos _ (by omega)
  have HZ := Lib.hid hz; clear hz
  go_enter Try.func12, Try.ntmps12
  go_wp2_with (first | (go_at_call 33; refine (alive1 _).mono ?_; rintro e w1 ⟨rfl, hb1⟩; have HB1 := Lib.hid hb1; clear hb1) | (go_at_call 47; refine (div_ok _ _ _ _ h ha hb HZ.out _).mono ?_; rintro e w' ⟨rfl, nq, rfl⟩) | (go_at_call 48; refine (rem_ok _ _ _ _ h ha hb HZ.out _).mono ?_; rintro e w' ⟨rfl, nq, rfl⟩) | (go_at_call 39; refine (mul_ok _ _ _ h hq hb _).mono ?_; rintro e w' ⟨rfl, rfl⟩) | (go_at_call 35; refine (add_ok _ _ _ h (W.U_mul _ _ _) hr _).mono ?_; rintro e w' ⟨rfl, rfl⟩) | (go_at_call_of 36 (Value.int IntKind.u64 a); refine (cut_ok _ _ h ha _).mono ?_; rintro e w' ⟨rfl, rfl⟩) | (go_at_call_of 36 (Value.int IntKind.u64 b); refine (cut_ok _ _ h hb _).mono ?_; rintro e w' ⟨rfl, rfl⟩))
  go_ret
  exact ⟨rfl, by repeat (first | exact HB1.out | refine Ext.drewN ?_ _)⟩
set_option maxHeartbeats 4000000 in
theorem walk_signed (a b v R X Y : Int) (h : W.ok v) (ha : W.U a) (hb : W.U b) (hz : b % W.md v ≠ 0) (hR : W.sg v (W.rem v true a b) = R) (hX : W.sg v (W.cut v a) = X) (hY : W.sg v (W.cut v b) = Y)
    (r1 : 0 < R → 0 < X) (r2 : R < 0 → X < 0) (r3 : R.natAbs < Y.natAbs) (iR : W.I R) (iY : W.I Y) (w : World) :
    Calls Try.prog 12 #[.int .u64 a, .int .u64 b, .int .i64 v, .bool true] w fun e w' => e = .returned (.bool true) ∧ Below w.heap.size w w' := by
  have hr := W.rem_U v true a b
  have hq := W.quo_U v true a b
  have q1 : (W.add v (W.mul v (W.quo v true a b) b) (W.rem v true a b) != W.cut v a) = false := by rw [made]; simp
  have HZ := Lib.hid hz; clear hz
  have b1 := iR.1; have b2 := iR.2; have b3 := iY.1; have b4 := iY.2
  have hm1 : Hid (R.natAbs < Y.natAbs) := r3
  by_cases c1 : 0 < R
  · have c2 : ¬ R < 0 := by omega
    have c3 : ¬ X < 0 := by have := r1 c1; omega
    have c4 : 0 < X := r1 c1
    clear r1 r2 r3
    by_cases c5 : 0 < Y
    · go_enter Try.func12, Try.ntmps12
      go_wp2_with (first | (go_at_call 33; refine (alive1 _).mono ?_; rintro e w1 ⟨rfl, hb1⟩; have HB1 := Lib.hid hb1; clear hb1) | (go_at_call 47; refine (div_ok _ _ _ _ h ha hb HZ.out _).mono ?_; rintro e w' ⟨rfl, nq, rfl⟩) | (go_at_call 48; refine (rem_ok _ _ _ _ h ha hb HZ.out _).mono ?_; rintro e w' ⟨rfl, nq, rfl⟩) | (go_at_call 39; refine (mul_ok _ _ _ h hq hb _).mono ?_; rintro e w' ⟨rfl, rfl⟩) | (go_at_call 35; refine (add_ok _ _ _ h (W.U_mul _ _ _) hr _).mono ?_; rintro e w' ⟨rfl, rfl⟩) | (go_at_call 49; refine (signed_ok _ _ h _).mono ?_; rintro e w' ⟨rfl, rfl⟩) | (go_at_call_of 36 (Value.int IntKind.u64 a); refine (cut_ok _ _ h ha _).mono ?_; rintro e w' ⟨rfl, rfl⟩) | (go_at_call_of 36 (Value.int IntKind.u64 b); refine (cut_ok _ _ h hb _).mono ?_; rintro e w' ⟨rfl, rfl⟩))
      go_ret
      exact ⟨W.ret1 (W.bool (decide_eq_true (by have := hm1.out; omega))), by repeat (first | exact HB1.out | refine Ext.drewN ?_ _)⟩
    · go_enter Try.func12, Try.ntmps12
      go_wp2_with (first | (go_at_call 33; refine (alive1 _).mono ?_; rintro e w1 ⟨rfl, hb1⟩; have HB1 := Lib.hid hb1; clear hb1) | (go_at_call 47; refine (div_ok _ _ _ _ h ha hb HZ.out _).mono ?_; rintro e w' ⟨rfl, nq, rfl⟩) | (go_at_call 48; refine (rem_ok _ _ _ _ h ha hb HZ.out _).mono ?_; rintro e w' ⟨rfl, nq, rfl⟩) | (go_at_call 39; refine (mul_ok _ _ _ h hq hb _).mono ?_; rintro e w' ⟨rfl, rfl⟩) | (go_at_call 35; refine (add_ok _ _ _ h (W.U_mul _ _ _) hr _).mono ?_; rintro e w' ⟨rfl, rfl⟩) | (go_at_call 49; refine (signed_ok _ _ h _).mono ?_; rintro e w' ⟨rfl, rfl⟩) | (go_at_call_of 36 (Value.int IntKind.u64 a); refine (cut_ok _ _ h ha _).mono ?_; rintro e w' ⟨rfl, rfl⟩) | (go_at_call_of 36 (Value.int IntKind.u64 b); refine (cut_ok _ _ h hb _).mono ?_; rintro e w' ⟨rfl, rfl⟩))
      go_ret
      exact ⟨W.ret1 (W.bool (decide_eq_true (by have := hm1.out; omega))), by repeat (first | exact HB1.out | refine Ext.drewN ?_ _)⟩
  · by_cases c2 : R < 0
    · have c3 : ¬ 0 < X := by have := r2 c2; omega
      clear r1 r2 r3
      by_cases c5 : 0 < Y
      · go_enter Try.func12, Try.ntmps12
        go_wp2_with (first | (go_at_call 33; refine (alive1 _).mono ?_; rintro e w1 ⟨rfl, hb1⟩; have HB1 := Lib.hid hb1; clear hb1) | (go_at_call 47; refine (div_ok _ _ _ _ h ha hb HZ.out _).mono ?_; rintro e w' ⟨rfl, nq, rfl⟩) | (go_at_call 48; refine (rem_ok _ _ _ _ h ha hb HZ.out _).mono ?_; rintro e w' ⟨rfl, nq, rfl⟩) | (go_at_call 39; refine (mul_ok _ _ _ h hq hb _).mono ?_; rintro e w' ⟨rfl, rfl⟩) | (go_at_call 35; refine (add_ok _ _ _ h (W.U_mul _ _ _) hr _).mono ?_; rintro e w' ⟨rfl, rfl⟩) | (go_at_call 49; refine (signed_ok _ _ h _).mono ?_; rintro e w' ⟨rfl, rfl⟩) | (go_at_call_of 36 (Value.int IntKind.u64 a); refine (cut_ok _ _ h ha _).mono ?_; rintro e w' ⟨rfl, rfl⟩) | (go_at_call_of 36 (Value.int IntKind.u64 b); refine (cut_ok _ _ h hb _).mono ?_; rintro e w' ⟨rfl, rfl⟩))
        go_ret
        exact ⟨W.ret1 (W.bool (decide_eq_true (by have := hm1.out; omega))), by repeat (first | exact HB1.out | refine Ext.drewN ?_ _)⟩
      · go_enter Try.func12, Try.ntmps12
        go_wp2_with (first | (go_at_call 33; refine (alive1 _).mono ?_; rintro e w1 ⟨rfl, hb1⟩; have HB1 := Lib.hid hb1; clear hb1) | (go_at_call 47; refine (div_ok _ _ _ _ h ha hb HZ.out _).mono ?_; rintro e w' ⟨rfl, nq, rfl⟩) | (go_at_call 48; refine (rem_ok _ _ _ _ h ha hb HZ.out _).mono ?_; rintro e w' ⟨rfl, nq, rfl⟩) | (go_at_call 39; refine (mul_ok _ _ _ h hq hb _).mono ?_; rintro e w' ⟨rfl, rfl⟩) | (go_at_call 35; refine (add_ok _ _ _ h (W.U_mul _ _ _) hr _).mono ?_; rintro e w' ⟨rfl, rfl⟩) | (go_at_call 49; refine (signed_ok _ _ h _).mono ?_; rintro e w' ⟨rfl, rfl⟩) | (go_at_call_of 36 (Value.int IntKind.u64 a); refine (cut_ok _ _ h ha _).mono ?_; rintro e w' ⟨rfl, rfl⟩) | (go_at_call_of 36 (Value.int IntKind.u64 b); refine (cut_ok _ _ h hb _).mono ?_; rintro e w' ⟨rfl, rfl⟩))
        go_ret
        exact ⟨W.ret1 (W.bool (decide_eq_true (by have := hm1.out; omega))), by repeat (first | exact HB1.out | refine Ext.drewN ?_ _)⟩
    · clear r1 r2 r3
      by_cases c5 : 0 < Y
      · go_enter Try.func12, Try.ntmps12
        go_wp2_with (first | (go_at_call 33; refine (alive1 _).mono ?_; rintro e w1 ⟨rfl, hb1⟩; have HB1 := Lib.hid hb1; clear hb1) | (go_at_call 47; refine (div_ok _ _ _ _ h ha hb HZ.out _).mono ?_; rintro e w' ⟨rfl, nq, rfl⟩) | (go_at_call 48; refine (rem_ok _ _ _ _ h ha hb HZ.out _).mono ?_; rintro e w' ⟨rfl, nq, rfl⟩) | (go_at_call 39; refine (mul_ok _ _ _ h hq hb _).mono ?_; rintro e w' ⟨rfl, rfl⟩) | (go_at_call 35; refine (add_ok _ _ _ h (W.U_mul _ _ _) hr _).mono ?_; rintro e w' ⟨rfl, rfl⟩) | (go_at_call 49; refine (signed_ok _ _ h _).mono ?_; rintro e w' ⟨rfl, rfl⟩) | (go_at_call_of 36 (Value.int IntKind.u64 a); refine (cut_ok _ _ h ha _).mono ?_; rintro e w' ⟨rfl, rfl⟩) | (go_at_call_of 36 (Value.int IntKind.u64 b); refine (cut_ok _ _ h hb _).mono ?_; rintro e w' ⟨rfl, rfl⟩))
        go_ret
        exact ⟨W.ret1 (W.bool (decide_eq_true (by have := hm1.out; omega))), by repeat (first | exact HB1.out | refine Ext.drewN ?_ _)⟩
      · go_enter Try.func12, Try.ntmps12
        go_wp2_with (first | (go_at_call 33; refine (alive1 _).mono ?_; rintro e w1 ⟨rfl, hb1⟩; have HB1 := Lib.hid hb1; clear hb1) | (go_at_call 47; refine (div_ok _ _ _ _ h ha hb HZ.out _).mono ?_; rintro e w' ⟨rfl, nq, rfl⟩) | (go_at_call 48; refine (rem_ok _ _ _ _ h ha hb HZ.out _).mono ?_; rintro e w' ⟨rfl, nq, rfl⟩) | (go_at_call 39; refine (mul_ok _ _ _ h hq hb _).mono ?_; rintro e w' ⟨rfl, rfl⟩) | (go_at_call 35; refine (add_ok _ _ _ h (W.U_mul _ _ _) hr _).mono ?_; rintro e w' ⟨rfl, rfl⟩) | (go_at_call 49; refine (signed_ok _ _ h _).mono ?_; rintro e w' ⟨rfl, rfl⟩) | (go_at_call_of 36 (Value.int IntKind.u64 a); refine (cut_ok _ _ h ha _).mono ?_; rintro e w' ⟨rfl, rfl⟩) | (go_at_call_of 36 (Value.int IntKind.u64 b); refine (cut_ok _ _ h hb _).mono ?_; rintro e w' ⟨rfl, rfl⟩))
        go_ret
        exact ⟨W.ret1 (W.bool (decide_eq_true (by have := hm1.out; omega))), by repeat (first | exact HB1.out | refine Ext.drewN ?_ _)⟩
theorem walk (a : Int) (ha : (Lit.int .u64 a).wf = true) (b : Int) (hb : (Lit.int .u64 b).wf = true) (v : Int) (_ : (Lit.int .i64 v).wf = true) (s : Bool) (w : World) :
    Calls Try.prog 12 #[.int .u64 a, .int .u64 b, .int .i64 v, .bool s] w fun e w' => e = .returned (.bool true) ∧ Below w.heap.size w w' := by
  by_cases h : W.ok v
  · by_cases hz : b % W.md v = 0
    · exact walk_zero a b v s h (W.U_wf hb) hz w
    · cases s
      · exact walk_plain a b v h (W.U_wf ha) (W.U_wf hb) hz w
      · have hn := sg_zero v b hz
        have hr := rest (W.sg v a) (W.sg v b) hn
        have e := sg_rem v a b hn
        exact walk_signed a b v _ _ _ h (W.U_wf ha) (W.U_wf hb) hz e (W.sg_cut v a) (W.sg_cut v b) hr.1 hr.2.1 hr.2.2 (by rw [← e]; exact W.sg_I _ _) (W.sg_I _ _) w
  · exact walk_no a b v s h w
end parts
end Go.Proofs.Ytgpjhbaehhjdhaa
