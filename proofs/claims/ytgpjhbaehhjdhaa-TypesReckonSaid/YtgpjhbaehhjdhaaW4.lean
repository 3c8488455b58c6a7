/- Walks of word.parts with signs, Div, Rem: what each call hands back, at every argument. -/
import Derived.Test.YtgpjhbaehhjdhaaW3
import Derived.Lib.Hide
import Derived.Deep.RegionWith
namespace Go.Proofs.Ytgpjhbaehhjdhaa
open Go.RowKit
set_option linter.unusedVariables false

set_option maxHeartbeats 1000000 in
theorem parts_ff (a b v A B X Y : Int) (h : W.ok v) (hA : bits .and .u64 a (W.mk v) = A) (hB : bits .and .u64 b (W.mk v) = B) (hA0 : 0 ≤ A) (hA1 : A < W.md v) (hB0 : 0 ≤ B) (hB1 : B < W.md v) (hB2 : (B == 0) = false)
    (hX : W.mag v A = X) (hY : W.mag v B = Y) (ha : W.ng v A = false) (hb : W.ng v B = false) (hX0 : 0 ≤ X) (hX1 : X ≤ 18446744073709551615) (hY0 : 1 ≤ Y) (w : World) :
    Calls Try.prog 104 #[.int .u64 a, .int .u64 b, .int .i64 v, .bool true] w fun e w' => e = .returned (.tuple #[.int .u64 (bits .and .u64 (X / Y) (W.mk v)), .int .u64 (bits .and .u64 (X % Y) (W.mk v)), .int .i64 0]) ∧ Drawn w w' := by
  have HX := Lib.hid hX; have HY := Lib.hid hY; have Ha := Lib.hid ha; have Hb := Lib.hid hb
  clear hX hY ha hb
  go_enter Try.func104, Try.ntmps104
  go_wp2_with (first | (go_at_call 34; refine (width_ok _ h _).mono ?_; rintro e w' ⟨rfl, rfl⟩) | (go_at_call 79; refine (mask_ok _ h _).mono ?_; rintro e w' ⟨rfl, rfl⟩) | (go_at_call_of 128 (Value.int IntKind.u64 A); refine (size_ok A v X false h hA0 hA1 HX.out Ha.out _).mono ?_; rintro e w' ⟨rfl, rfl⟩) | (go_at_call_of 128 (Value.int IntKind.u64 B); refine (size_ok B v Y false h hB0 hB1 HY.out Hb.out _).mono ?_; rintro e w' ⟨rfl, rfl⟩))
  go_quiet (fail)
  go_wp2_with (first | (go_at_call 79; refine (mask_ok _ h _).mono ?_; rintro e w' ⟨rfl, rfl⟩))
  go_ret3
  exact ⟨rfl, _, rfl⟩
set_option maxHeartbeats 1000000 in
theorem parts_ft (a b v A B X Y : Int) (h : W.ok v) (hA : bits .and .u64 a (W.mk v) = A) (hB : bits .and .u64 b (W.mk v) = B) (hA0 : 0 ≤ A) (hA1 : A < W.md v) (hB0 : 0 ≤ B) (hB1 : B < W.md v) (hB2 : (B == 0) = false)
    (hX : W.mag v A = X) (hY : W.mag v B = Y) (ha : W.ng v A = false) (hb : W.ng v B = true) (hX0 : 0 ≤ X) (hX1 : X ≤ 18446744073709551615) (hY0 : 1 ≤ Y) (w : World) :
    Calls Try.prog 104 #[.int .u64 a, .int .u64 b, .int .i64 v, .bool true] w fun e w' => e = .returned (.tuple #[.int .u64 (bits .and .u64 (IntKind.u64.wrap (-(X / Y))) (W.mk v)), .int .u64 (bits .and .u64 (X % Y) (W.mk v)), .int .i64 0]) ∧ Drawn w w' := by
  have HX := Lib.hid hX; have HY := Lib.hid hY; have Ha := Lib.hid ha; have Hb := Lib.hid hb
  clear hX hY ha hb
  go_enter Try.func104, Try.ntmps104
  go_wp2_with (first | (go_at_call 34; refine (width_ok _ h _).mono ?_; rintro e w' ⟨rfl, rfl⟩) | (go_at_call 79; refine (mask_ok _ h _).mono ?_; rintro e w' ⟨rfl, rfl⟩) | (go_at_call_of 128 (Value.int IntKind.u64 A); refine (size_ok A v X false h hA0 hA1 HX.out Ha.out _).mono ?_; rintro e w' ⟨rfl, rfl⟩) | (go_at_call_of 128 (Value.int IntKind.u64 B); refine (size_ok B v Y true h hB0 hB1 HY.out Hb.out _).mono ?_; rintro e w' ⟨rfl, rfl⟩))
  go_quiet (fail)
  go_wp2_with (first | (go_at_call 79; refine (mask_ok _ h _).mono ?_; rintro e w' ⟨rfl, rfl⟩))
  go_ret3
  exact ⟨rfl, _, rfl⟩
set_option maxHeartbeats 1000000 in
theorem parts_tf (a b v A B X Y : Int) (h : W.ok v) (hA : bits .and .u64 a (W.mk v) = A) (hB : bits .and .u64 b (W.mk v) = B) (hA0 : 0 ≤ A) (hA1 : A < W.md v) (hB0 : 0 ≤ B) (hB1 : B < W.md v) (hB2 : (B == 0) = false)
    (hX : W.mag v A = X) (hY : W.mag v B = Y) (ha : W.ng v A = true) (hb : W.ng v B = false) (hX0 : 0 ≤ X) (hX1 : X ≤ 18446744073709551615) (hY0 : 1 ≤ Y) (w : World) :
    Calls Try.prog 104 #[.int .u64 a, .int .u64 b, .int .i64 v, .bool true] w fun e w' => e = .returned (.tuple #[.int .u64 (bits .and .u64 (IntKind.u64.wrap (-(X / Y))) (W.mk v)), .int .u64 (bits .and .u64 (IntKind.u64.wrap (-(X % Y))) (W.mk v)), .int .i64 0]) ∧ Drawn w w' := by
  have HX := Lib.hid hX; have HY := Lib.hid hY; have Ha := Lib.hid ha; have Hb := Lib.hid hb
  clear hX hY ha hb
  go_enter Try.func104, Try.ntmps104
  go_wp2_with (first | (go_at_call 34; refine (width_ok _ h _).mono ?_; rintro e w' ⟨rfl, rfl⟩) | (go_at_call 79; refine (mask_ok _ h _).mono ?_; rintro e w' ⟨rfl, rfl⟩) | (go_at_call_of 128 (Value.int IntKind.u64 A); refine (size_ok A v X true h hA0 hA1 HX.out Ha.out _).mono ?_; rintro e w' ⟨rfl, rfl⟩) | (go_at_call_of 128 (Value.int IntKind.u64 B); refine (size_ok B v Y false h hB0 hB1 HY.out Hb.out _).mono ?_; rintro e w' ⟨rfl, rfl⟩))
  go_quiet (fail)
  go_wp2_with (first | (go_at_call 79; refine (mask_ok _ h _).mono ?_; rintro e w' ⟨rfl, rfl⟩))
  go_ret3
  exact ⟨rfl, _, rfl⟩
set_option maxHeartbeats 1000000 in
theorem parts_tt (a b v A B X Y : Int) (h : W.ok v) (hA : bits .and .u64 a (W.mk v) = A) (hB : bits .and .u64 b (W.mk v) = B) (hA0 : 0 ≤ A) (hA1 : A < W.md v) (hB0 : 0 ≤ B) (hB1 : B < W.md v) (hB2 : (B == 0) = false)
    (hX : W.mag v A = X) (hY : W.mag v B = Y) (ha : W.ng v A = true) (hb : W.ng v B = true) (hX0 : 0 ≤ X) (hX1 : X ≤ 18446744073709551615) (hY0 : 1 ≤ Y) (w : World) :
    Calls Try.prog 104 #[.int .u64 a, .int .u64 b, .int .i64 v, .bool true] w fun e w' => e = .returned (.tuple #[.int .u64 (bits .and .u64 (X / Y) (W.mk v)), .int .u64 (bits .and .u64 (IntKind.u64.wrap (-(X % Y))) (W.mk v)), .int .i64 0]) ∧ Drawn w w' := by
  have HX := Lib.hid hX; have HY := Lib.hid hY; have Ha := Lib.hid ha; have Hb := Lib.hid hb
  clear hX hY ha hb
  go_enter Try.func104, Try.ntmps104
  go_wp2_with (first | (go_at_call 34; refine (width_ok _ h _).mono ?_; rintro e w' ⟨rfl, rfl⟩) | (go_at_call 79; refine (mask_ok _ h _).mono ?_; rintro e w' ⟨rfl, rfl⟩) | (go_at_call_of 128 (Value.int IntKind.u64 A); refine (size_ok A v X true h hA0 hA1 HX.out Ha.out _).mono ?_; rintro e w' ⟨rfl, rfl⟩) | (go_at_call_of 128 (Value.int IntKind.u64 B); refine (size_ok B v Y true h hB0 hB1 HY.out Hb.out _).mono ?_; rintro e w' ⟨rfl, rfl⟩))
  go_quiet (fail)
  go_wp2_with (first | (go_at_call 79; refine (mask_ok _ h _).mono ?_; rintro e w' ⟨rfl, rfl⟩))
  go_ret3
  exact ⟨rfl, _, rfl⟩

/-- THE CONTRACT OF parts, where there is a quotient. -/
theorem parts_ok (a b v : Int) (s : Bool) (h : W.ok v) (ha : W.U a) (hb : W.U b) (hz : b % W.md v ≠ 0) (w : World) :
    Calls Try.prog 104 #[.int .u64 a, .int .u64 b, .int .i64 v, .bool s] w fun e w' => e = .returned (.tuple #[.int .u64 (W.quo v s a b), .int .u64 (W.rem v s a b), .int .i64 0]) ∧ Drawn w w' := by
  have hA := W.msk v h a ha
  have hB := W.msk v h b hb
  have a0 := W.mod_lo a v; have a1 := W.mod_hi a v; have a2 := W.mod_le a v
  have b0 := W.mod_lo b v; have b1 := W.mod_hi b v; have b2 := W.mod_le b v
  have hz' : (b % W.md v == 0) = false := by rw [beq_eq_false_iff_ne]; exact hz
  have x0 := W.mag_lo v _ a0 a1; have x1 := W.mag_hi v _ a0 a1
  have y0 := W.mag_pos v _ b0 b1 hz; have hmd := W.md_le v
  have hm := W.msk v h
  have ux : W.U (W.mag v (a % W.md v) / W.mag v (b % W.md v)) := ⟨Int.ediv_nonneg x0 (by omega), by have := W.div_le x0 (show 0 ≤ W.mag v (b % W.md v) by omega); omega⟩
  have uy : W.U (W.mag v (a % W.md v) % W.mag v (b % W.md v)) := ⟨Int.emod_nonneg _ (by omega), by
    have e1 := Int.emod_add_mul_ediv (W.mag v (a % W.md v)) (W.mag v (b % W.md v))
    have e2 := Int.mul_nonneg (show 0 ≤ W.mag v (b % W.md v) by omega) (Int.ediv_nonneg x0 (show 0 ≤ W.mag v (b % W.md v) by omega))
    omega⟩
  cases s
  · refine (parts_plain a b v _ _ h hA hB (by omega) a0 (by omega) hz' w).mono ?_
    rintro e w' ⟨rfl, hd⟩
    exact ⟨W.ret3 (W.u64 rfl) (W.u64 rfl) rfl, hd⟩
  · rcases hna : W.ng v (a % W.md v) with _ | _ <;> rcases hnb : W.ng v (b % W.md v) with _ | _
    · refine (parts_ff a b v _ _ _ _ h hA hB a0 a1 b0 b1 hz' rfl rfl hna hnb x0 (by omega) y0 w).mono ?_
      rintro e w' ⟨rfl, hd⟩
      obtain ⟨e1, e2⟩ := W.quo_pp v a b _ _ rfl rfl hna hnb x0 (by omega)
      exact ⟨W.ret3 (W.u64 (by rw [hm _ ux, e1])) (W.u64 (by rw [hm _ uy, e2])) rfl, hd⟩
    · refine (parts_ft a b v _ _ _ _ h hA hB a0 a1 b0 b1 hz' rfl rfl hna hnb x0 (by omega) y0 w).mono ?_
      rintro e w' ⟨rfl, hd⟩
      obtain ⟨e1, e2⟩ := W.quo_pn v a b _ _ rfl rfl hna hnb x0 (by omega)
      exact ⟨W.ret3 (W.u64 (by rw [hm _ (W.U_wrap _), W.wrap_u64_mod, e1])) (W.u64 (by rw [hm _ uy, e2])) rfl, hd⟩
    · refine (parts_tf a b v _ _ _ _ h hA hB a0 a1 b0 b1 hz' rfl rfl hna hnb x0 (by omega) y0 w).mono ?_
      rintro e w' ⟨rfl, hd⟩
      obtain ⟨e1, e2⟩ := W.quo_np v a b _ _ rfl rfl hna hnb x0 (by omega)
      exact ⟨W.ret3 (W.u64 (by rw [hm _ (W.U_wrap _), W.wrap_u64_mod, e1])) (W.u64 (by rw [hm _ (W.U_wrap _), W.wrap_u64_mod, e2])) rfl, hd⟩
    · refine (parts_tt a b v _ _ _ _ h hA hB a0 a1 b0 b1 hz' rfl rfl hna hnb x0 (by omega) y0 w).mono ?_
      rintro e w' ⟨rfl, hd⟩
      obtain ⟨e1, e2⟩ := W.quo_nn v a b _ _ rfl rfl hna hnb x0 (by omega)
      exact ⟨W.ret3 (W.u64 (by rw [hm _ ux, e1])) (W.u64 (by rw [hm _ (W.U_wrap _), W.wrap_u64_mod, e2])) rfl, hd⟩

set_option maxHeartbeats 400000 in
theorem div_ok (a b v : Int) (s : Bool) (h : W.ok v) (ha : W.U a) (hb : W.U b) (hz : b % W.md v ≠ 0) (w : World) :
    Calls Try.prog 47 #[.int .u64 a, .int .u64 b, .int .i64 v, .bool s] w fun e w' => e = .returned (.tuple #[.int .u64 (W.quo v s a b), .int .i64 0]) ∧ Drawn w w' := by
  have Hz := Lib.hid hz; clear hz
  go_enter Try.func47, Try.ntmps47
  go_wp2_with (first | (go_at_call 104; refine (parts_ok _ _ _ _ h ha hb Hz.out _).mono ?_; rintro e w' ⟨rfl, hd⟩; have Hd := Lib.hid hd; clear hd))
  go_ret2
  exact ⟨rfl, Hd.out⟩
set_option maxHeartbeats 400000 in
theorem div_zero (a b v : Int) (s : Bool) (h : W.ok v) (hb : W.U b) (hz : b % W.md v = 0) (w : World) :
    Calls Try.prog 47 #[.int .u64 a, .int .u64 b, .int .i64 v, .bool s] w fun e w' => e = .returned (.tuple #[.int .u64 0, .int .i64 10]) ∧ w = w' := by
  have Hz := Lib.hid hz; clear hz
  go_enter Try.func47, Try.ntmps47
  go_wp2_with (first | (go_at_call 104; refine (parts_zero _ _ _ _ h (by rw [W.msk v h b hb]; exact Hz.out) _).mono ?_; rintro e w' ⟨rfl, rfl⟩))
  go_ret2
  exact ⟨rfl, rfl⟩
set_option maxHeartbeats 400000 in
theorem div_no (a b v : Int) (s : Bool) (h : ¬ W.ok v) (w : World) :
    Calls Try.prog 47 #[.int .u64 a, .int .u64 b, .int .i64 v, .bool s] w fun e w' => e = .returned (.tuple #[.int .u64 0, .int .i64 1]) ∧ w = w' := by
  go_enter Try.func47, Try.ntmps47
  go_wp2_with (first | (go_at_call 104; refine (parts_no _ _ _ _ h _).mono ?_; rintro e w' ⟨rfl, rfl⟩))
  go_ret2
  exact ⟨rfl, rfl⟩

set_option maxHeartbeats 400000 in
theorem rem_ok (a b v : Int) (s : Bool) (h : W.ok v) (ha : W.U a) (hb : W.U b) (hz : b % W.md v ≠ 0) (w : World) :
    Calls Try.prog 48 #[.int .u64 a, .int .u64 b, .int .i64 v, .bool s] w fun e w' => e = .returned (.tuple #[.int .u64 (W.rem v s a b), .int .i64 0]) ∧ Drawn w w' := by
  have Hz := Lib.hid hz; clear hz
  go_enter Try.func48, Try.ntmps48
  go_wp2_with (first | (go_at_call 104; refine (parts_ok _ _ _ _ h ha hb Hz.out _).mono ?_; rintro e w' ⟨rfl, hd⟩; have Hd := Lib.hid hd; clear hd))
  go_ret2
  exact ⟨rfl, Hd.out⟩
set_option maxHeartbeats 400000 in
theorem rem_zero (a b v : Int) (s : Bool) (h : W.ok v) (hb : W.U b) (hz : b % W.md v = 0) (w : World) :
    Calls Try.prog 48 #[.int .u64 a, .int .u64 b, .int .i64 v, .bool s] w fun e w' => e = .returned (.tuple #[.int .u64 0, .int .i64 10]) ∧ w = w' := by
  have Hz := Lib.hid hz; clear hz
  go_enter Try.func48, Try.ntmps48
  go_wp2_with (first | (go_at_call 104; refine (parts_zero _ _ _ _ h (by rw [W.msk v h b hb]; exact Hz.out) _).mono ?_; rintro e w' ⟨rfl, rfl⟩))
  go_ret2
  exact ⟨rfl, rfl⟩
set_option maxHeartbeats 400000 in
theorem rem_no (a b v : Int) (s : Bool) (h : ¬ W.ok v) (w : World) :
    Calls Try.prog 48 #[.int .u64 a, .int .u64 b, .int .i64 v, .bool s] w fun e w' => e = .returned (.tuple #[.int .u64 0, .int .i64 1]) ∧ w = w' := by
  go_enter Try.func48, Try.ntmps48
  go_wp2_with (first | (go_at_call 104; refine (parts_no _ _ _ _ h _).mono ?_; rintro e w' ⟨rfl, rfl⟩))
  go_ret2
  exact ⟨rfl, rfl⟩
end Go.Proofs.Ytgpjhbaehhjdhaa
