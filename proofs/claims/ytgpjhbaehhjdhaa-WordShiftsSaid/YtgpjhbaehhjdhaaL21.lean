/- WordShifts: at every input. No condition. -/
import Derived.Test.YtgpjhbaehhjdhaaN27
import Derived.Test.YtgpjhbaehhjdhaaN28
import Derived.Test.YtgpjhbaehhjdhaaW10
import Derived.Test.YtgpjhbaehhjdhaaW2
namespace Go.Proofs.Ytgpjhbaehhjdhaa
open Go.RowKit
set_option linter.unusedVariables false
set_option linter.unusedSimpArgs false
set_option maxRecDepth 100000

set_option maxHeartbeats 4000000 in
theorem shifts_raw (a n v X Y Z E : Int) (s : Bool)
    (n1 : ∀ w : World, Calls Try.prog 41 #[.int .u64 a, .int .u64 n, .int .i64 v] w fun e w' => e = .returned (.tuple #[.int .u64 X, .int .i64 E]) ∧ Below w.heap.size w w')
    (d1 : ∀ w : World, Calls Try.prog 43 #[.int .u64 a, .int .u64 n, .int .i64 v, .bool true, .bool false] w fun e w' => e = .returned (.tuple #[.int .u64 X, .int .i64 E]) ∧ Below w.heap.size w w')
    (n2 : ∀ w : World, Calls Try.prog 42 #[.int .u64 a, .int .u64 n, .int .i64 v, .bool s] w fun e w' => e = .returned (.tuple #[.int .u64 Y, .int .i64 E]) ∧ w = w')
    (d2 : ∀ w : World, Calls Try.prog 43 #[.int .u64 a, .int .u64 n, .int .i64 v, .bool false, .bool s] w fun e w' => e = .returned (.tuple #[.int .u64 Y, .int .i64 E]) ∧ Below w.heap.size w w')
    (n3 : ∀ w : World, Calls Try.prog 44 #[.int .u64 a, .int .i64 v] w fun e w' => e = .returned (.tuple #[.int .i64 Z, .int .i64 E]) ∧ w = w')
    (d3 : ∀ w : World, Calls Try.prog 45 #[.int .u64 a, .int .i64 v] w fun e w' => e = .returned (.tuple #[.int .i64 Z, .int .i64 E]) ∧ Below w.heap.size w w') (w : World) :
    Calls Try.prog 10 #[.int .u64 a, .int .u64 n, .int .i64 v, .bool s] w fun e w' => e = .returned (.bool true) ∧ Below w.heap.size w w' := by
  have N1 := Lib.hid n1; have N2 := Lib.hid n2; have N3 := Lib.hid n3; have D1 := Lib.hid d1; have D2 := Lib.hid d2; have D3 := Lib.hid d3
  clear n1 n2 n3 d1 d2 d3
  go_enter Try.func10, Try.ntmps10
  go_wp2_with (first | (go_at_call 41; refine (N1.out _).mono ?_; rintro e w0 ⟨rfl, hb1⟩; have HB := Lib.hid hb1; clear hb1) | (go_at_call_of 43 (Value.bool true); refine (D1.out _).mono ?_; rintro e w1 ⟨rfl, hb1⟩; have HB := Lib.hid (Ext.trans HB.out hb1); clear hb1 D1) | (go_at_call 42; refine (N2.out _).mono ?_; rintro e w' ⟨rfl, rfl⟩) | (go_at_call 43; refine (D2.out _).mono ?_; rintro e w2 ⟨rfl, hb1⟩; have HB := Lib.hid (Ext.trans HB.out hb1); clear hb1 D2) | (go_at_call 44; refine (N3.out _).mono ?_; rintro e w' ⟨rfl, rfl⟩) | (go_at_call 45; refine (D3.out _).mono ?_; rintro e w3 ⟨rfl, hb1⟩; have HB := Lib.hid (Ext.trans HB.out hb1); clear hb1))
  go_ret
  exact ⟨rfl, HB.out⟩
theorem W.mn_shl (v a n : Int) (s : Bool) : (W.mn v a s * 2 ^ min n.toNat 64) % W.md v = W.shl v a n := by
  have hm : W.mn v a s % W.md v = a % W.md v := by
    unfold W.mn
    cases s
    · exact Int.emod_emod_of_dvd a (Int.dvd_refl _)
    · exact W.sg_mod v a
  unfold W.shl
  rw [Int.mul_emod, hm, ← Int.mul_emod]
theorem W.mn_shr (v a n : Int) (s : Bool) : (W.mn v a s / 2 ^ min n.toNat 64) % W.md v = W.shr v s a n := by
  unfold W.mn W.shr
  cases s
  · simp only [Bool.false_eq_true, if_false]
    have h1 := W.mod_lo a v; have h2 := W.mod_hi a v
    have hp := W.pow_pos (min n.toNat 64)
    have := Int.ediv_le_self (2 ^ min n.toNat 64) h1
    exact Int.emod_eq_of_lt (Int.ediv_nonneg h1 (Int.le_of_lt hp)) (by omega)
  · rfl
theorem pop_md (v x : Int) (h : W.ok v) (hx : W.U x) : Lib.popAux 64 (x % W.md v).toNat = Lib.popAux v.toNat x.toNat := by
  obtain ⟨X, rfl⟩ := Int.eq_ofNat_of_zero_le hx.1
  obtain ⟨n, hn64, rfl, hn, -⟩ := W.md_two v h
  rw [← hn, Int.toNat_natCast, Int.toNat_natCast]
  have e : ((X : Int) % 2 ^ n).toNat = X % 2 ^ n := by
    have : ((X : Int) % 2 ^ n) = ((X % 2 ^ n : Nat) : Int) := by rw [Int.natCast_emod, Int.natCast_pow]; rfl
    rw [this, Int.toNat_natCast]
  have := Pc.pop_mod n (64 - n) X
  rw [e, ← this, show n + (64 - n) = 64 by omega]
theorem shifts_all (a : Int) (wa : (Lit.int .u64 a).wf = true) (n : Int) (wn : (Lit.int .u64 n).wf = true) (v : Int) (_ : (Lit.int .i64 v).wf = true) (s : Bool) (w : World) :
    Calls Try.prog 10 #[.int .u64 a, .int .u64 n, .int .i64 v, .bool s] w fun e w' => e = .returned (.bool true) ∧ Below w.heap.size w w' := by
  have ha := W.U_wf wa; have hn := W.U_wf wn
  by_cases h : W.ok v
  · exact shifts_raw a n v (W.shl v a n) (W.shr v s a n) (Lib.popAux 64 (a % W.md v).toNat : Nat) 0 s
      (fun w => (shl_ok a n v h ha hn.1 w).mono fun e w' ⟨h1, h2⟩ => ⟨h1, h2 ▸ Ext.alloc (Below.refl _ _) _⟩) (fun w => by rw [← W.mn_shl v a n false]; exact refShift_up a n v false h ha hn.1 w)
      (fun w => shr_any a n v s h ha hn.1 w) (fun w => by rw [← W.mn_shr v a n s]; exact refShift_down a n v s h ha hn.1 w)
      (fun w => bits_ok a v h ha w) (fun w => by rw [pop_md v a h ha]; exact refOnes_ok a v h ha w) w
  · exact shifts_raw a n v 0 0 0 1 s
      (fun w => (shl_no a n v h w).mono fun e w' ⟨h1, h2⟩ => ⟨h1, h2 ▸ Ext.alloc (Below.refl _ _) _⟩) (fun w => refShift_no a n v true false h w)
      (fun w => shr_no a n v s h w) (fun w => refShift_no a n v false s h w)
      (fun w => bits_no a v h w) (fun w => refOnes_no a v h w) w
end Go.Proofs.Ytgpjhbaehhjdhaa
