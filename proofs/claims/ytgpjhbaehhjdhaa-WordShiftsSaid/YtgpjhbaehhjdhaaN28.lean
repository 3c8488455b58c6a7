/- The reference's Ones. -/
import Derived.Test.YtgpjhbaehhjdhaaN21
import Derived.Test.YtgpjhbaehhjdhaaPc
namespace Go.Proofs.Ytgpjhbaehhjdhaa
open Go.RowKit
set_option linter.unusedVariables false
set_option linter.unusedSimpArgs false
set_option maxRecDepth 100000

theorem pop_le : ∀ k x, Lib.popAux k x ≤ k
  | 0, _ => Nat.le_refl _
  | k + 1, x => by have := pop_le k (x / 2); simp only [Lib.popAux]; omega
theorem pop_next (k x : Nat) : Lib.popAux (k + 1) x = Lib.popAux k x + x / 2 ^ k % 2 := by
  rw [Pc.pop_add k 1 x]
  have h := Pc.pop_mod k 0 x
  simp only [Nat.add_zero] at h
  rw [h]; simp only [Lib.popAux, Nat.add_zero]
theorem div_next (k x : Nat) : x / 2 ^ (k + 1) = x / 2 ^ k / 2 := by rw [Nat.div_div_eq_div_mul, Nat.pow_succ]
set_option maxHeartbeats 2000000 in
theorem refOnes_ok (x v : Int) (h : W.ok v) (hx : W.U x) (w : World) :
    Calls Try.prog 45 #[.int .u64 x, .int .i64 v] w fun e w' => e = .returned (.tuple #[.int .i64 (Lib.popAux v.toNat x.toNat : Nat), .int .i64 0]) ∧ Below w.heap.size w w' := by
  have CW : Hid (∀ w : World, Calls Try.prog 50 #[.int .i64 v] w fun e w' => e = .returned (.bool true) ∧ Below w.heap.size w w') := fun w => by rw [← W.okB_t h]; exact refWidth_ok v w
  obtain ⟨X, rfl⟩ := Int.eq_ofNat_of_zero_le hx.1
  obtain ⟨n, hn64, rfl, -, -⟩ := W.md_two v h
  have hX : X < 18446744073709551616 := by have := hx.2; omega
  rw [Int.toNat_natCast, Int.toNat_natCast]
  clear h hx
  go_enter Try.func45, Try.ntmps45
  go_wp2_with (first | (go_at_call 50; refine (CW.out _).mono ?_; rintro e w1 ⟨rfl, hb1⟩; have HB1 := Lib.hid hb1; clear hb1))
  go_loop [0, 6, 7] (fun xx nn kk => ∃ k : Nat, k ≤ n ∧ kk = .int .i64 k ∧ nn = .int .i64 (Lib.popAux k X : Nat) ∧ xx = .int .u64 (X / 2 ^ k : Nat)) (fun _ _ kk => n - (intOf kk).toNat)
  case atStart => exact ⟨0, Nat.zero_le _, rfl, rfl, W.u64 (by simp)⟩
  case round =>
    obtain ⟨k, hk, rfl, rfl, rfl⟩ := hrel
    have hpl := pop_le k X
    have hyl : X / 2 ^ k ≤ X := Nat.div_le_self _ _
    obtain ⟨Y, hY⟩ : ∃ Y, Y = X / 2 ^ k := ⟨_, rfl⟩
    obtain ⟨p, hp⟩ : ∃ p, p = Lib.popAux k X := ⟨_, rfl⟩
    have HPN : Hid (Lib.popAux (k + 1) X = p + Y % 2) := by rw [hp, hY]; exact Lib.hid (pop_next k X)
    have HYN : Hid (X / 2 ^ (k + 1) = Y / 2) := by rw [hY]; exact Lib.hid (div_next k X)
    rw [← hp] at hpl ⊢
    rw [← hY] at hyl ⊢
    have HP := Lib.hid hp; have HY := Lib.hid hY
    clear hp hY
    by_cases hlt : k < n
    · go_wp2
      go_round
      case rel => exact ⟨k + 1, by omega, by go_num, W.i64 (by rw [HPN.out]; go_num), W.u64 (by rw [HYN.out]; omega)⟩
      case measure => simp [intOf]; omega
    · have hkn : k = n := by omega
      have HK := Lib.hid hkn
      clear hkn
      go_wp2
      go_ret2
      exact ⟨W.ret2 (W.i64 (by rw [HP.out, HK.out])) rfl, HB1.out⟩
set_option maxHeartbeats 400000 in
theorem refOnes_no (x v : Int) (h : ¬ W.ok v) (w : World) :
    Calls Try.prog 45 #[.int .u64 x, .int .i64 v] w fun e w' => e = .returned (.tuple #[.int .i64 0, .int .i64 1]) ∧ Below w.heap.size w w' := by
  have CW : Hid (∀ w : World, Calls Try.prog 50 #[.int .i64 v] w fun e w' => e = .returned (.bool false) ∧ Below w.heap.size w w') := fun w => by rw [← W.okB_f h]; exact refWidth_ok v w
  clear h
  go_enter Try.func45, Try.ntmps45
  go_wp2_with (first | (go_at_call 50; refine (CW.out _).mono ?_; rintro e w1 ⟨rfl, hb1⟩; have HB1 := Lib.hid hb1; clear hb1))
  go_ret2
  exact ⟨rfl, HB1.out⟩
end Go.Proofs.Ytgpjhbaehhjdhaa
