/- Walks of the reckoner with numbers of any size: small (a number divided by one word). -/
import Derived.Test.YtgpjhbaehhjdhaaN4
namespace Go.Proofs.Ytgpjhbaehhjdhaa
open Go.RowKit
set_option linter.unusedVariables false
set_option linter.unusedSimpArgs false
set_option maxRecDepth 100000

/-- One step of the division by a word. -/
theorem N.small_step (t X d Bq : Nat) (hd : 0 < d) (hX : X < Bq) : (t * Bq + X) / d = t / d * Bq + (X + t % d * Bq) / d ∧ (t * Bq + X) % d = (X + t % d * Bq) % d ∧ (X + t % d * Bq) / d < Bq := by
  have e : t * Bq + X = d * (t / d * Bq) + (X + t % d * Bq) := by
    have h := Nat.div_add_mod t d
    have h2 : t * Bq = d * (t / d) * Bq + t % d * Bq := by rw [← Nat.add_mul, h]
    rw [h2, Nat.mul_assoc]; omega
  refine ⟨?_, ?_, ?_⟩
  · rw [e, Nat.mul_add_div hd]
  · rw [e, Nat.mul_add_mod]
  · rw [Nat.div_lt_iff_lt_mul hd]
    have h1 : t % d < d := Nat.mod_lt _ hd
    have h2 : t % d * Bq + Bq ≤ d * Bq := by rw [← Nat.succ_mul]; exact Nat.mul_le_mul_right _ h1
    rw [Nat.mul_comm Bq d]; omega
theorem N.small_div {a d k : Nat} (hd : 0 < d) : a / N.B ^ k / d * N.B ^ k = a / N.B ^ (k + 1) / d * N.B ^ (k + 1) + (N.wd a k + a / N.B ^ (k + 1) % d * N.B) / d * N.B ^ k := by
  have h := (N.small_step (a / N.B ^ (k + 1)) (N.wd a k) d N.B hd (N.wd_lt a k)).1
  rw [N.div_succ a k, h, Nat.add_mul, Nat.pow_succ, Nat.mul_assoc, Nat.mul_comm N.B]
theorem N.small_mod {a d k : Nat} (hd : 0 < d) : a / N.B ^ k % d = (N.wd a k + a / N.B ^ (k + 1) % d * N.B) % d := by
  have h := (N.small_step (a / N.B ^ (k + 1)) (N.wd a k) d N.B hd (N.wd_lt a k)).2.1
  rw [N.div_succ a k, h]
theorem N.wd_mul_high {t k : Nat} : N.wd (t * N.B ^ (k + 1)) k = 0 := by
  unfold N.wd
  rw [Nat.pow_succ, Nat.mul_comm _ (N.B ^ k * N.B), Nat.mul_assoc, Nat.mul_div_cancel_left _ (N.Bk_pos k), Nat.mul_mod_right]

set_option maxHeartbeats 4000000 in
theorem small_raw (A : Option Addr) (L cap a d : Nat) (hd : 0 < d) (hd32 : d < 4294967296) (hL30 : L ≤ 30) (w : World)
    (bL : Hid (a < N.B ^ L))
    (HA : Hid (0 < L → ∃ b off, A = some ⟨b, off, none⟩ ∧ ∀ j, j < L → w.cell? ⟨b, off + j, none⟩ = some (.int .u32 (N.wd a j : Nat)))) :
    Calls Try.prog 136 #[.slice A L cap, .int .u32 (d : Int)] w fun e w' => ∃ u, e = .returned (.tuple #[u, .int .u32 ((a % d : Nat) : Int)]) ∧ Below w.heap.size w w' ∧ Nm w' u (a / d) := by
  obtain ⟨i0, hi, hz0, hz1, hz2⟩ := info_parts Try.infoU32
  have HI : Hid (i0.bytes * L ≤ 281474976710656) := by show i0.bytes * L ≤ 281474976710656; rw [hz2]; omega
  clear hz2
  have HD : Hid (0 < d) := hd
  go_enter Try.func136, Try.ntmps136
  go_wp2_with (first | (at_make; refine wpList_make_blk _ rfl _ _ 90 rfl 124 i0 (.int .u32 0) Try.underlying90 hi hz0 hz1 rfl .i64 .i64 L rfl rfl HI.out (by omega) ?_; intro w1 hblk hbw hsz; rw [← arr_zero] at hblk; have HK := Lib.hid hblk; have HB := Lib.hid hbw; have hlt1 : w.heap.size < w1.heap.size := (by omega); clear hblk hbw hsz))
  go_loopw [7, 8] (fun r i wr => ∃ k : Nat, k ≤ L ∧ i = .int .i64 ((k : Int) - 1) ∧ r = .int .u64 ((a / N.B ^ k % d : Nat) : Int) ∧ Hid (Blk wr w.heap.size 124 (arr (a / N.B ^ k / d * N.B ^ k) L)) ∧ Hid (Below w.heap.size w wr) ∧ w.heap.size < wr.heap.size) (fun _ i _ => (intOf i + 1).toNat)
  case atStart => exact ⟨L, Nat.le_refl _, rfl, by rw [Nat.div_eq_of_lt bL.out, Nat.zero_mod]; rfl, by rw [Nat.div_eq_of_lt bL.out, Nat.zero_div, Nat.zero_mul]; exact HK, HB, hlt1⟩
  case round =>
    obtain ⟨k, hk, rfl, rfl, hK, hB, hlt⟩ := hrel
    rcases k with _ | k
    · have hbd : Hid (a / d < N.B ^ L) := Nat.lt_of_le_of_lt (Nat.div_le_self _ _) bL.out
      have HT : Hid (∀ w2 : World, Blk w2 w.heap.size 124 (arr (a / N.B ^ 0 / d * N.B ^ 0) L) → Calls Try.prog 134 #[.slice (some ⟨w.heap.size, 0, none⟩) L L] w2 fun e w' => ∃ u, e = .returned u ∧ w2 = w' ∧ Nm w2 u (a / d)) := fun w2 h => by
        rw [Nat.pow_zero, Nat.div_one, Nat.mul_one] at h
        exact trim_ok _ L (a / d) hbd.out w2 (blk_rd h (by unfold maxLen; omega))
      obtain ⟨R, hR⟩ : ∃ R : Int, R = ((a / N.B ^ 0 % d : Nat) : Int) := ⟨_, rfl⟩
      rw [← hR]
      have hR2 : R = ((a % d : Nat) : Int) := by rw [hR, Nat.pow_zero, Nat.div_one]
      have bR : 0 ≤ R ∧ R < 4294967296 := by have := Nat.mod_lt a hd; omega
      obtain ⟨bR0, bR1⟩ := bR
      have HR2 := Lib.hid hR2; clear hR hR2
      go_wp2_with (first | (go_at_call 134; refine (HT.out _ hK.out).mono ?_; rintro e w2 ⟨u, rfl, rfl, hu⟩; have HU := Lib.hid hu; clear hu))
      go_ret2
      exact ⟨u, by rw [HR2.out]; rfl, hB.out, HU.out⟩
    · obtain ⟨bx, ox, rfl, cx⟩ := HA.out (by omega)
      obtain ⟨X, hX⟩ : ∃ X : Int, X = (N.wd a k : Nat) := ⟨_, rfl⟩
      obtain ⟨R, hR⟩ : ∃ R : Int, R = ((a / N.B ^ (k + 1) % d : Nat) : Int) := ⟨_, rfl⟩
      rw [← hR]
      have c1 : wr.cell? ⟨bx, ox + k, none⟩ = some (.int .u32 X) := by
        have := cx k hk
        rw [hX, (bcell hB.out).1 _ _ (World.block_lt_of_cell? _ _ this)]; exact this
      have bX : 0 ≤ X ∧ X < 4294967296 := by have := N.wd_lt a k; omega
      obtain ⟨bX0, bX1⟩ := bX
      have bR : 0 ≤ R ∧ R < 4294967296 := by have := Nat.mod_lt (a / N.B ^ (k + 1)) hd; omega
      obtain ⟨bR0, bR1⟩ := bR
      have f3 : wr.cell? ⟨w.heap.size, k, none⟩ = some (.int .u32 0) := by
        rw [hK.out.cell, arr_get (by omega), N.wd_mul_high]; rfl
      have f4 : wr.frozen? ⟨w.heap.size, k, none⟩ = false := hK.out.frozen k
      obtain ⟨V, hV⟩ : ∃ V : Nat, V = N.wd a k + a / N.B ^ (k + 1) % d * N.B := ⟨_, rfl⟩
      have hVR : (V : Int) = X + R * 4294967296 := by rw [hV, hX, hR, N.B_eq]; simp
      have hor : bits .or .u64 (R * 4294967296) X = (V : Int) := by rw [or_high X R bX0 bX1 bR0 bR1, hVR]
      have bV : (V : Int) < 18446744073709551616 := by omega
      obtain ⟨Q, hQ⟩ : ∃ Q : Nat, Q = V / d := ⟨_, rfl⟩
      have hQ1 : (V : Int) / (d : Int) = (Q : Int) := by rw [hQ]; simp
      have bQ : (Q : Int) < 4294967296 := by
        have := (N.small_step (a / N.B ^ (k + 1)) (N.wd a k) d N.B hd (N.wd_lt a k)).2.2
        rw [← hV, ← hQ, N.B_eq] at this; omega
      have hM1 : (V : Int) % (d : Int) = ((V % d : Nat) : Int) := (Int.natCast_emod V d).symm
      have ek : ((k + 1 : Nat) : Int) - 1 = (k : Int) := by omega
      rw [ek]
      have i0' : (0 : Int) ≤ (k : Int) := by omega
      have i1' : (k : Int) < (L : Int) := by omega
      have HV := Lib.hid hV; have HQ := Lib.hid hQ; have HVR := Lib.hid hVR
      clear hX hR cx hV hQ hVR ek
      go_wp2
      go_roundw
      case rel => exact ⟨k, by omega, rfl, W.u64 (by rw [N.small_mod HD.out, ← HV.out]; exact (Int.natCast_emod V d).symm), by
        rw [N.small_div HD.out, ← HV.out, ← HQ.out, ← arr_put N.wd_mul_high (show Q < N.B by rw [N.B_eq]; omega) (by omega)]
        exact hK.out.set_ _ _, Ext.setCell hB.out (Nat.le_refl _) _, by simp; exact hlt⟩
      case measure => simp [intOf]
theorem small_ok (v : Value) (a d : Nat) (hd : 0 < d) (hd32 : d < 4294967296) (ha : Sm a) (w : World) (hv : Nm w v a) :
    Calls Try.prog 136 #[v, .int .u32 (d : Int)] w fun e w' => ∃ u, e = .returned (.tuple #[u, .int .u32 ((a % d : Nat) : Int)]) ∧ Below w.heap.size w w' ∧ Nm w' u (a / d) := by
  obtain ⟨_, A, cap, rfl, _, hA⟩ := hv.open_
  exact small_raw A _ cap a d hd hd32 ha w (N.lt_ln a) hA
end Go.Proofs.Ytgpjhbaehhjdhaa
