/- math/bits.OnesCount64 and word.Bits. No condition. -/
import Derived.Test.YtgpjhbaehhjdhaaW1
import Derived.Test.YtgpjhbaehhjdhaaPc
import Derived.Lib.Hide
namespace Go.Proofs.Ytgpjhbaehhjdhaa
open Go.RowKit
set_option linter.unusedVariables false
set_option linter.unusedSimpArgs false
set_option maxRecDepth 100000
set_option maxHeartbeats 1000000 in
theorem ones_raw (x y1 y2 y3 y4 y5 y6 R : Int) (h1 : IntKind.u64.wrap (bits .and .u64 (x / 2) 6148914691236517205 + bits .and .u64 x 6148914691236517205) = y1)
    (h2 : IntKind.u64.wrap (bits .and .u64 (y1 / 4) 3689348814741910323 + bits .and .u64 y1 3689348814741910323) = y2)
    (h3 : bits .and .u64 (IntKind.u64.wrap (y2 / 16 + y2)) 1085102592571150095 = y3) (h4 : IntKind.u64.wrap (y3 + y3 / 256) = y4) (h5 : IntKind.u64.wrap (y4 + y4 / 65536) = y5)
    (h6 : IntKind.u64.wrap (y5 + y5 / 4294967296) = y6) (h7 : bits .and .i64 (wrap64 y6) 127 = R) (w : World) :
    Calls Try.prog 103 #[.int .u64 x] w fun e w' => e = .returned (.int .i64 R) ∧ w = w' := by
  have H1 := Lib.hid h1; have H2 := Lib.hid h2; have H3 := Lib.hid h3; have H4 := Lib.hid h4; have H5 := Lib.hid h5; have H6 := Lib.hid h6; have H7 := Lib.hid h7
  clear h1 h2 h3 h4 h5 h6 h7
  go_enter Try.func103, Try.ntmps103
  go_wp2
  go_ret
  refine ⟨W.ret1 (W.i64 ?_), rfl⟩
  rw [H1.out, H2.out, H3.out, H4.out, H5.out, H6.out, H7.out]
theorem wrap_nat (n : Nat) (h : n < 18446744073709551616) : IntKind.u64.wrap (n : Int) = (n : Int) := W.u64_wraps _ (by omega) (by omega)
theorem ones_ok (x : Int) (hx : W.U x) (w : World) : Calls Try.prog 103 #[.int .u64 x] w fun e w' => e = .returned (.int .i64 (Lib.popAux 64 x.toNat : Nat)) ∧ w = w' := by
  obtain ⟨n, rfl⟩ := Int.eq_ofNat_of_zero_le hx.1
  have hn : n < 18446744073709551616 := by have := hx.2; omega
  obtain ⟨k1, k2, k3, k4, k5⟩ := Pc.trick n hn
  rw [Int.toNat_natCast, ← k5]
  have e1 : ∀ a : Nat, a < 18446744073709551616 → bits .and .u64 (a : Int) 6148914691236517205 = ((a &&& 6148914691236517205 : Nat) : Int) := fun a ha => u64_and_nat a 6148914691236517205 ha (by omega)
  have e2 : ∀ a : Nat, a < 18446744073709551616 → bits .and .u64 (a : Int) 3689348814741910323 = ((a &&& 3689348814741910323 : Nat) : Int) := fun a ha => u64_and_nat a 3689348814741910323 ha (by omega)
  have e3 : ∀ a : Nat, a < 18446744073709551616 → bits .and .u64 (a : Int) 1085102592571150095 = ((a &&& 1085102592571150095 : Nat) : Int) := fun a ha => u64_and_nat a 1085102592571150095 ha (by omega)
  obtain ⟨T1, hT1⟩ : ∃ T, T = Pc.t1 n := ⟨_, rfl⟩
  rw [← hT1] at k1 k2 k3 k4 ⊢
  obtain ⟨T2, hT2⟩ : ∃ T, T = Pc.t2 T1 := ⟨_, rfl⟩
  rw [← hT2] at k2 k3 k4 ⊢
  obtain ⟨T3, hT3⟩ : ∃ T, T = Pc.t3 T2 := ⟨_, rfl⟩
  rw [← hT3] at k4 ⊢
  have c5 : Pc.t5 (Pc.t4 T3) = Pc.t4 T3 + Pc.t4 T3 / 65536 := rfl
  have c6 : Pc.t6 (Pc.t5 (Pc.t4 T3)) = Pc.t5 (Pc.t4 T3) + Pc.t5 (Pc.t4 T3) / 4294967296 := rfl
  have c4 : Pc.t4 T3 = T3 + T3 / 256 := rfl
  obtain ⟨T4, hT4⟩ : ∃ T, T = Pc.t4 T3 := ⟨_, rfl⟩
  rw [← hT4] at c4 c5 c6 ⊢
  obtain ⟨T5, hT5⟩ : ∃ T, T = Pc.t5 T4 := ⟨_, rfl⟩
  rw [← hT5] at c5 c6 ⊢
  obtain ⟨T6, hT6⟩ : ∃ T, T = Pc.t6 T5 := ⟨_, rfl⟩
  rw [← hT6] at c6 ⊢
  refine ones_raw (n : Int) (T1 : Nat) (T2 : Nat) (T3 : Nat) (T4 : Nat) (T5 : Nat) (T6 : Nat) _ ?_ ?_ ?_ ?_ ?_ ?_ ?_ w
  · rw [show (n : Int) / 2 = ((n / 2 : Nat) : Int) by omega, e1 _ (by omega), e1 _ hn, ← Int.natCast_add, hT1]
    exact wrap_nat _ (by have := k1; rw [hT1] at this; exact this)
  · rw [show (T1 : Int) / 4 = ((T1 / 4 : Nat) : Int) by omega, e2 _ (by omega), e2 _ k1, ← Int.natCast_add, hT2]
    exact wrap_nat _ (by have := k2; rw [hT2] at this; exact this)
  · rw [show (T2 : Int) / 16 + (T2 : Int) = ((T2 / 16 + T2 : Nat) : Int) by omega, wrap_nat _ k3, e3 _ k3, hT3]; rfl
  · rw [show (T3 : Int) + (T3 : Int) / 256 = ((T3 + T3 / 256 : Nat) : Int) by omega, wrap_nat _ (by omega), c4]
  · rw [show (T4 : Int) + (T4 : Int) / 65536 = ((T4 + T4 / 65536 : Nat) : Int) by omega, wrap_nat _ (by omega), c5]
  · rw [show (T5 : Int) + (T5 : Int) / 4294967296 = ((T5 + T5 / 4294967296 : Nat) : Int) by omega, wrap_nat _ (by omega), c6]
  · have h6 : (T6 : Int) < 9223372036854775808 := by omega
    rw [show wrap64 (T6 : Int) = (T6 : Int) by unfold wrap64; omega]
    have := bits_mask .i64 63 (by decide) (fun k a b => by rw [IntKind.wrap_i64]; omega) 7 (by decide) (T6 : Int) (by omega) (by omega)
    refine Eq.trans this ?_
    omega
set_option maxHeartbeats 1000000 in
theorem bits_raw (x v y e R : Int) (nc : ∀ w : World, Calls Try.prog 36 #[.int .u64 x, .int .i64 v] w fun r w' => r = .returned (.tuple #[.int .u64 y, .int .i64 e]) ∧ w = w')
    (no : ∀ w : World, Calls Try.prog 103 #[.int .u64 y] w fun r w' => r = .returned (.int .i64 R) ∧ w = w') (w : World) :
    Calls Try.prog 44 #[.int .u64 x, .int .i64 v] w fun r w' => r = .returned (.tuple #[.int .i64 R, .int .i64 e]) ∧ w = w' := by
  have NC := Lib.hid nc; have NO := Lib.hid no; clear nc no
  go_enter Try.func44, Try.ntmps44
  go_wp2_with (first | (go_at_call 36; refine (NC.out _).mono ?_; rintro e w' ⟨rfl, rfl⟩) | (go_at_call 103; refine (NO.out _).mono ?_; rintro e w' ⟨rfl, rfl⟩))
  go_ret2
  exact ⟨rfl, rfl⟩
theorem bits_ok (x v : Int) (h : W.ok v) (hx : W.U x) (w : World) :
    Calls Try.prog 44 #[.int .u64 x, .int .i64 v] w fun r w' => r = .returned (.tuple #[.int .i64 (Lib.popAux 64 (x % W.md v).toNat : Nat), .int .i64 0]) ∧ w = w' :=
  bits_raw x v _ 0 _ (fun w => cut_ok x v h hx w) (fun w => ones_ok (W.cut v x) (W.U_cut v x) w) w
theorem bits_no (x v : Int) (h : ¬ W.ok v) (w : World) :
    Calls Try.prog 44 #[.int .u64 x, .int .i64 v] w fun r w' => r = .returned (.tuple #[.int .i64 0, .int .i64 1]) ∧ w = w' :=
  bits_raw x v 0 1 0 (fun w => cut_no x v h w) (fun w => ones_ok 0 ⟨by omega, by omega⟩ w) w
end Go.Proofs.Ytgpjhbaehhjdhaa
