/- Walks of the reckoner with numbers of any size: right. -/
import Derived.Test.YtgpjhbaehhjdhaaN8
namespace Go.Proofs.Ytgpjhbaehhjdhaa
open Go.RowKit
set_option linter.unusedVariables false
set_option linter.unusedSimpArgs false
set_option maxRecDepth 100000

theorem N.two_mod (n i : Nat) : n / N.B ^ i % (N.B * N.B) = N.wd n i + N.wd n (i + 1) * N.B := by
  rw [Nat.mod_mul, Nat.div_div_eq_div_mul, ← Nat.pow_succ, Nat.mul_comm N.B]; rfl
theorem N.right_step {a s q i : Nat} (hs : s ≤ 31) : N.wd (a / (2 ^ s * N.B ^ q)) i = (N.wd a (i + q) + N.wd a (i + q + 1) * N.B) / 2 ^ s % N.B := by
  rw [← N.two_mod]
  have e : N.B * N.B = 2 ^ s * (2 ^ (32 - s) * N.B) := by
    rw [← Nat.mul_assoc, ← Nat.pow_add, show s + (32 - s) = 32 by omega]; rfl
  rw [e, Nat.mod_mul_right_div_self, Nat.mod_mul_left_mod]
  unfold N.wd
  rw [Nat.div_div_eq_div_mul, Nat.div_div_eq_div_mul, Nat.pow_add]
  congr 2
  rw [Nat.mul_assoc, Nat.mul_comm (N.B ^ q), Nat.mul_comm]
set_option maxHeartbeats 4000000 in
theorem right_raw (A : Option Addr) (L M cap a q s : Nat) (z : Int) (hz0 : 0 ≤ z) (hz1 : z ≤ 1000) (hq : z / 32 = (q : Nat)) (hs : z % 32 = (s : Nat)) (hL30 : L ≤ 30) (hM : L = M + q) (hM0 : 0 < M) (w : World)
    (bL : Hid (a < N.B ^ L))
    (HA : Hid (∃ b off, A = some ⟨b, off, none⟩ ∧ ∀ j, j < L → w.cell? ⟨b, off + j, none⟩ = some (.int .u32 (N.wd a j : Nat)))) :
    Calls Try.prog 125 #[.slice A L cap, .int .u64 z] w fun e w' => ∃ u, e = .returned u ∧ Below w.heap.size w w' ∧ Nm w' u (a / (2 ^ s * N.B ^ q)) := by
  obtain ⟨i0, hi, hzz, hzo, hz2⟩ := info_parts Try.infoU32
  have hq1 : q ≤ 31 := by omega
  have hs1 : s ≤ 31 := by omega
  have hmin : min s 64 = s := by omega
  have HI : Hid (i0.bytes * M ≤ 281474976710656) := by show i0.bytes * M ≤ 281474976710656; rw [hz2]; omega
  have HL1 : (L : Int) - (q : Int) = (M : Int) := by omega
  have nq : decide (L ≤ q) = false := by simp; omega
  have bM : M ≤ 30 := by omega
  have HM := Lib.hid hM; clear hM
  clear hz2
  go_enter Try.func125, Try.ntmps125
  go_wp2_with (first | (at_make; refine wpList_make_blk _ rfl _ _ 90 rfl 124 i0 (.int .u32 0) Try.underlying90 hi hzz hzo rfl .i64 .i64 M rfl rfl HI.out (by omega) ?_; intro w1 hblk hbw hsz; rw [← arr_zero] at hblk; have HK := Lib.hid hblk; have HB := Lib.hid hbw; have hlt1 : w.heap.size < w1.heap.size := (by omega); clear hblk hbw hsz))
  go_loopw [8, 9] (fun i _ wr => ∃ k : Nat, k ≤ M ∧ i = .int .i64 k ∧ Hid (Blk wr w.heap.size 124 (arr (a / (2 ^ s * N.B ^ q) % N.B ^ k) M)) ∧ Hid (Below w.heap.size w wr) ∧ w.heap.size < wr.heap.size) (fun i _ _ => M - (intOf i).toNat)
  case atStart => exact ⟨0, Nat.zero_le _, rfl, by rw [Nat.pow_zero, Nat.mod_one]; exact HK, HB, hlt1⟩
  case round =>
    obtain ⟨k, hk, rfl, hK, hB, hlt⟩ := hrel
    clear HL1
    by_cases hkM : k < M
    · obtain ⟨bx, ox, rfl, cx⟩ := HA.out
      have hL := HM.out
      obtain ⟨X, hX⟩ : ∃ X : Int, X = (N.wd a (k + q) : Nat) := ⟨_, rfl⟩
      have c1 : wr.cell? ⟨bx, ox + (k + q), none⟩ = some (.int .u32 X) := by
        have := cx (k + q) (by omega)
        rw [hX, (bcell hB.out).1 _ _ (World.block_lt_of_cell? _ _ this)]; exact this
      have bX : 0 ≤ X ∧ X < 4294967296 := by have := N.wd_lt a (k + q); omega
      obtain ⟨bX0, bX1⟩ := bX
      have f3 : wr.cell? ⟨w.heap.size, k, none⟩ = some (.int .u32 0) := by
        rw [hK.out.cell, arr_get (by omega), N.wd_high (Nat.mod_lt _ (N.Bk_pos k)) (Nat.le_refl _)]; rfl
      have f4 : wr.frozen? ⟨w.heap.size, k, none⟩ = false := hK.out.frozen k
      have HST := Lib.hid (N.right_step (a := a) (q := q) (i := k) hs1)
      have i0' : (0 : Int) ≤ (k : Int) := by omega
      have i1' : k + q < L := by omega
      have HX := Lib.hid hX
      by_cases hin : k + q + 1 < L
      · obtain ⟨Y, hY⟩ : ∃ Y : Int, Y = (N.wd a (k + q + 1) : Nat) := ⟨_, rfl⟩
        have c2 : wr.cell? ⟨bx, ox + (k + q + 1), none⟩ = some (.int .u32 Y) := by
          have := cx (k + q + 1) (by omega)
          rw [hY, (bcell hB.out).1 _ _ (World.block_lt_of_cell? _ _ this)]; exact this
        have bY : 0 ≤ Y ∧ Y < 4294967296 := by have := N.wd_lt a (k + q + 1); omega
        obtain ⟨bY0, bY1⟩ := bY
        obtain ⟨V, hV⟩ : ∃ V : Nat, V = N.wd a (k + q) + N.wd a (k + q + 1) * N.B := ⟨_, rfl⟩
        have hor : bits .or .u64 X (Y * 4294967296) = (V : Int) := by
          rw [or_low X Y bX0 bX1 bY0 bY1, hX, hY, hV, N.B_eq]; simp
        have bV : (V : Int) < 18446744073709551616 := by
          rw [hV, N.B_eq]; have := N.wd_lt a (k + q); have := N.wd_lt a (k + q + 1); omega
        obtain ⟨Q, hQ⟩ : ∃ Q : Nat, Q = V / 2 ^ s := ⟨_, rfl⟩
        have hQ1 : (V : Int) / 2 ^ s = (Q : Int) := by rw [hQ]; simp
        have bQ : (Q : Int) < 18446744073709551616 := by
          have : Q ≤ V := by rw [hQ]; exact Nat.div_le_self _ _
          omega
        have e1 : Hid ((Q : Int) % 4294967296 = (N.wd (a / (2 ^ s * N.B ^ q)) k : Nat)) := by
          show (Q : Int) % 4294967296 = _
          rw [HST.out, ← hV, ← hQ, N.B_eq]; omega
        have nlt : decide ((k : Int) + (q : Int) + 1 < (L : Int)) = true := by simp only [decide_eq_true_eq]; omega
        have nle : (k : Int) + (q : Int) + 1 < (L : Int) := by omega
        have HIN := Lib.hid hin; clear hin
        clear hX hY hV hQ cx hL
        go_wp2
        go_roundw
        case rel => exact ⟨k + 1, by omega, by go_num, blk_next hK.out (by omega) e1.out, Ext.setCell hB.out (Nat.le_refl _) _, by simp; exact hlt⟩
        case measure => simp [intOf]; omega
      · have hz : N.wd a (k + q + 1) = 0 := N.wd_high bL.out (by omega)
        obtain ⟨Q, hQ⟩ : ∃ Q : Nat, Q = N.wd a (k + q) / 2 ^ s := ⟨_, rfl⟩
        have hQ1 : X / 2 ^ s = (Q : Int) := by rw [hQ, hX]; simp
        have bQ : (Q : Int) < 4294967296 := by
          have : Q ≤ N.wd a (k + q) := by rw [hQ]; exact Nat.div_le_self _ _
          have := N.wd_lt a (k + q)
          omega
        have e1 : Hid ((Q : Int) = (N.wd (a / (2 ^ s * N.B ^ q)) k : Nat)) := by
          show (Q : Int) = _
          rw [HST.out, hz, Nat.zero_mul, Nat.add_zero, ← hQ, N.B_eq]; omega
        have hin' : L ≤ k + q + 1 := by omega
        have nlt : decide ((k : Int) + (q : Int) + 1 < (L : Int)) = false := by simp only [decide_eq_false_iff_not]; omega
        clear hX hQ cx hz hin hin' hL
        go_wp2
        go_roundw
        case rel => exact ⟨k + 1, by omega, by go_num, blk_next hK.out (by omega) e1.out, Ext.setCell hB.out (Nat.le_refl _) _, by simp; exact hlt⟩
        case measure => simp [intOf]; omega
    · obtain rfl : k = M := by omega
      have hbd : Hid (a / (2 ^ s * N.B ^ q) < N.B ^ k) := by
        show a / (2 ^ s * N.B ^ q) < N.B ^ k
        rw [Nat.mul_comm, ← Nat.div_div_eq_div_mul]
        refine Nat.lt_of_le_of_lt (Nat.div_le_self _ _) ?_
        rw [Nat.div_lt_iff_lt_mul (N.Bk_pos q), ← Nat.pow_add, ← HM.out]; exact bL.out
      have HT : Hid (∀ w2 : World, Blk w2 w.heap.size 124 (arr (a / (2 ^ s * N.B ^ q) % N.B ^ k) k) → Calls Try.prog 134 #[.slice (some ⟨w.heap.size, 0, none⟩) k k] w2 fun e w' => ∃ u, e = .returned u ∧ w2 = w' ∧ Nm w2 u (a / (2 ^ s * N.B ^ q))) := fun w2 h => by
        rw [Nat.mod_eq_of_lt hbd.out] at h
        exact trim_ok _ _ _ hbd.out w2 (blk_rd h (by unfold maxLen; omega))
      clear hkM
      go_wp2_with (first | (go_at_call 134; refine (HT.out _ hK.out).mono ?_; rintro e w2 ⟨u, rfl, rfl, hu⟩; have HU := Lib.hid hu; clear hu))
      go_ret
      exact ⟨u, rfl, hB.out, HU.out⟩
set_option maxHeartbeats 1000000 in
theorem right_nil (A : Option Addr) (L cap q s : Nat) (z : Int) (hz0 : 0 ≤ z) (hz1 : z ≤ 1000) (hq : z / 32 = (q : Nat)) (hs : z % 32 = (s : Nat)) (hle : L ≤ q) (w : World) :
    Calls Try.prog 125 #[.slice A L cap, .int .u64 z] w fun e w' => e = .returned (.slice none 0 0) ∧ w = w' := by
  have hq1 : q ≤ 31 := by omega
  have nq : decide (L ≤ q) = true := by simpa using hle
  go_enter Try.func125, Try.ntmps125
  go_wp2
  go_ret
  exact ⟨rfl, rfl⟩
theorem right_ok (v : Value) (a z : Nat) (hz : z ≤ 900) (ha : Sm a) (w : World) (hv : Nm w v a) (Z : Int) (hZ : Z = (z : Nat)) :
    Calls Try.prog 125 #[v, .int .u64 Z] w fun e w' => ∃ u, e = .returned u ∧ Below w.heap.size w w' ∧ Nm w' u (a / 2 ^ z) := by
  obtain ⟨_, A, cap, rfl, _, hA⟩ := hv.open_
  rcases Nat.lt_or_ge (z / 32) (N.ln a) with h0 | h0
  · have := right_raw A (N.ln a) (N.ln a - z / 32) cap a (z / 32) (z % 32) Z (by omega) (by omega) (by omega) (by omega) ha (by omega) (by omega) w (N.lt_ln a) (hA (by omega))
    rw [N.two_split] at this
    exact this
  · refine (right_nil A (N.ln a) cap (z / 32) (z % 32) Z (by omega) (by omega) (by omega) (by omega) h0 w).mono ?_
    rintro e w' ⟨rfl, rfl⟩
    refine ⟨_, rfl, Below.refl _ _, ?_⟩
    have e : a / 2 ^ z = 0 := by
      rw [← N.two_split]
      refine Nat.div_eq_of_lt (Nat.lt_of_lt_of_le (N.lt_ln a) ?_)
      refine Nat.le_trans (Nat.pow_le_pow_right N.B_pos h0) ?_
      exact Nat.le_mul_of_pos_left _ (Nat.pow_pos (by decide))
    rw [e]; exact Nm.zero w
end Go.Proofs.Ytgpjhbaehhjdhaa
