/- Walks of the reckoner with numbers of any size: left. -/
import Derived.Test.YtgpjhbaehhjdhaaN6
namespace Go.Proofs.Ytgpjhbaehhjdhaa
open Go.RowKit
set_option linter.unusedVariables false
set_option linter.unusedSimpArgs false
set_option maxRecDepth 100000

theorem N.wd_shift (T q k : Nat) : N.wd (T * N.B ^ q) (k + q) = N.wd T k := by
  unfold N.wd
  rw [Nat.add_comm k q, Nat.pow_add, ← Nat.div_div_eq_div_mul, Nat.mul_div_cancel _ (N.Bk_pos q)]
theorem N.wd_small {T k s : Nat} (hs : s ≤ 31) (hT : T < N.B ^ k * 2 ^ s) : N.wd T k < 2 ^ s := by
  have h1 : T / N.B ^ k < 2 ^ s := by rw [Nat.div_lt_iff_lt_mul (N.Bk_pos k), Nat.mul_comm]; exact hT
  unfold N.wd
  exact Nat.lt_of_le_of_lt (Nat.mod_le _ _) h1
theorem N.pow_31 {s : Nat} (hs : s ≤ 31) : 2 ^ s ≤ 2147483648 := Nat.pow_le_pow_right (show 0 < 2 by decide) hs
theorem N.shl_low {X s : Nat} (hs : s ≤ 31) : X * 2 ^ s % N.B % 2 ^ s = 0 := by
  have e : N.B = 2 ^ s * 2 ^ (32 - s) := by rw [← Nat.pow_add, show s + (32 - s) = 32 by omega]; rfl
  rw [e, Nat.mod_mul_right_mod, Nat.mul_mod_left]
theorem N.left_step {a k s q : Nat} (hs : s ≤ 31) :
    a % N.B ^ k * 2 ^ s * N.B ^ q - N.wd (a % N.B ^ k * 2 ^ s * N.B ^ q) (k + q) * N.B ^ (k + q) + (N.wd (a % N.B ^ k * 2 ^ s) k + N.wd a k * 2 ^ s % N.B) * N.B ^ (k + q) + N.wd a k * 2 ^ s / N.B * N.B ^ (k + q + 1) = a % N.B ^ (k + 1) * 2 ^ s * N.B ^ q := by
  rw [N.wd_shift]
  generalize hT : a % N.B ^ k * 2 ^ s = T
  generalize hV : N.wd a k * 2 ^ s = V
  have e1 : N.wd T k * N.B ^ (k + q) ≤ T * N.B ^ q := by
    rw [Nat.pow_add, ← Nat.mul_assoc]
    have h : ∀ A W g X : Nat, X = A + W + g → W ≤ X := by intros; omega
    exact Nat.mul_le_mul_right _ (h _ _ _ _ (N.parts T k))
  have e2 : V % N.B * N.B ^ (k + q) + V / N.B * N.B ^ (k + q + 1) = V * N.B ^ (k + q) := by
    rw [Nat.pow_succ, Nat.mul_comm (N.B ^ (k + q)) N.B, ← Nat.mul_assoc, ← Nat.add_mul, Nat.mul_comm (V / N.B), Nat.mod_add_div]
  have e3 : a % N.B ^ (k + 1) * 2 ^ s * N.B ^ q = T * N.B ^ q + V * N.B ^ (k + q) := by
    rw [N.mod_succ, Nat.add_mul, hT, Nat.mul_right_comm, hV, Nat.add_mul, Nat.pow_add, Nat.mul_assoc V]
  rw [e3, ← e2, Nat.add_mul (N.wd T k)]
  omega
theorem u32_or_sum (x y i : Nat) (hx : x < 4294967296) (hy : y < 4294967296) (h0 : y % 2 ^ i = 0) (h1 : x < 2 ^ i) : bits .or .u32 (x : Int) (y : Int) = ((x + y : Nat) : Int) := by
  rw [u32_or_nat x y hx hy, Nat.or_comm, nat_join i y x h0 h1, Nat.add_comm]
theorem u32_or_zero (y : Nat) (hy : y < 4294967296) : bits .or .u32 0 (y : Int) = (y : Int) := by
  have := u32_or_nat 0 y (by omega) hy
  simpa using this

set_option maxHeartbeats 4000000 in
theorem left_raw (A : Option Addr) (L cap a q s : Nat) (z : Int) (hz0 : 0 ≤ z) (hz1 : z ≤ 1000) (hq : z / 32 = (q : Nat)) (hs : z % 32 = (s : Nat)) (hL30 : L ≤ 30) (hL0 : 0 < L) (w : World)
    (bL : Hid (a < N.B ^ L))
    (HA : Hid (∃ b off, A = some ⟨b, off, none⟩ ∧ ∀ j, j < L → w.cell? ⟨b, off + j, none⟩ = some (.int .u32 (N.wd a j : Nat)))) :
    Calls Try.prog 127 #[.slice A L cap, .int .u64 z] w fun e w' => ∃ u, e = .returned u ∧ Below w.heap.size w w' ∧ Nm w' u (a * 2 ^ s * N.B ^ q) := by
  obtain ⟨i0, hi, hzz, hzo, hz2⟩ := info_parts Try.infoU32
  have hq1 : q ≤ 31 := by omega
  have hs1 : s ≤ 31 := by omega
  have hmin : min s 64 = s := by omega
  have HI : Hid (i0.bytes * (L + q + 1) ≤ 281474976710656) := by show i0.bytes * (L + q + 1) ≤ 281474976710656; rw [hz2]; omega
  have HL1 : Hid ((((L : Int) + (q : Int)) + 1) = ((L + q + 1 : Nat) : Int)) := by show (((L : Int) + (q : Int)) + 1) = ((L + q + 1 : Nat) : Int); omega
  have nL : ((L : Int) == 0) = false := by simp; omega
  clear hz2
  go_enter Try.func127, Try.ntmps127
  go_wp2_with (first | (at_make; refine wpList_make_blk _ rfl _ _ 90 rfl 124 i0 (.int .u32 0) Try.underlying90 hi hzz hzo rfl .i64 .i64 (L + q + 1) (congrArg (Value.int .i64) HL1.out) (congrArg (Value.int .i64) HL1.out) HI.out (by omega) ?_; intro w1 hblk hbw hsz; rw [← arr_zero] at hblk; have HK := Lib.hid hblk; have HB := Lib.hid hbw; have hlt1 : w.heap.size < w1.heap.size := (by omega); clear hblk hbw hsz))
  go_loopw [8, 9] (fun i _ wr => ∃ k : Nat, k ≤ L ∧ i = .int .i64 k ∧ Hid (Blk wr w.heap.size 124 (arr (a % N.B ^ k * 2 ^ s * N.B ^ q) (L + q + 1))) ∧ Hid (Below w.heap.size w wr) ∧ w.heap.size < wr.heap.size) (fun i _ _ => L - (intOf i).toNat)
  case atStart => exact ⟨0, Nat.zero_le _, rfl, by rw [Nat.pow_zero, Nat.mod_one, Nat.zero_mul, Nat.zero_mul]; exact HK, HB, hlt1⟩
  case round =>
    obtain ⟨k, hk, rfl, hK, hB, hlt⟩ := hrel
    by_cases hkL : k < L
    · obtain ⟨bx, ox, rfl, cx⟩ := HA.out
      obtain ⟨X, hX⟩ : ∃ X : Int, X = (N.wd a k : Nat) := ⟨_, rfl⟩
      have c1 : wr.cell? ⟨bx, ox + k, none⟩ = some (.int .u32 X) := by
        have := cx k hkL
        rw [hX, (bcell hB.out).1 _ _ (World.block_lt_of_cell? _ _ this)]; exact this
      have bX : 0 ≤ X ∧ X < 4294967296 := by have := N.wd_lt a k; omega
      obtain ⟨bX0, bX1⟩ := bX
      have i0' : (0 : Int) ≤ (k : Int) := by omega
      have i1' : (k : Int) < (L : Int) := by omega
      have hP := N.pow_31 hs1
      obtain ⟨V, hV⟩ : ∃ V : Nat, V = N.wd a k * 2 ^ s := ⟨_, rfl⟩
      have bV : V < 9223372036854775808 := by
        have h1 : V ≤ 4294967295 * 2147483648 := by rw [hV]; exact Nat.mul_le_mul (by have := N.wd_lt a k; omega) hP
        omega
      have hsh : IntKind.u64.wrap (X * 2 ^ s) = (V : Int) := by
        have : X * 2 ^ s = (V : Int) := by rw [hX, hV]; simp
        rw [this, IntKind.wrap_u64]; omega
      have hTb : a % N.B ^ k * 2 ^ s < N.B ^ k * 2 ^ s := Nat.mul_lt_mul_of_pos_right (Nat.mod_lt _ (N.Bk_pos k)) (Nat.pow_pos (by decide))
      obtain ⟨H, hH⟩ : ∃ H : Nat, H = N.wd (a % N.B ^ k * 2 ^ s) k := ⟨_, rfl⟩
      have bH : H < 2 ^ s := by rw [hH]; exact N.wd_small hs1 hTb
      have bH2 : H < 2147483648 := by omega
      obtain ⟨V1, hV1⟩ : ∃ V1 : Nat, V1 = V % N.B := ⟨_, rfl⟩
      have bV1 : V1 < 4294967296 := by rw [hV1]; exact Nat.mod_lt _ N.B_pos
      obtain ⟨V2, hV2⟩ : ∃ V2 : Nat, V2 = V / N.B := ⟨_, rfl⟩
      have bV2 : V2 < 4294967296 := by rw [hV2, N.B_eq]; omega
      have q1 : (V : Int) % 4294967296 = (V1 : Int) := by rw [hV1, N.B_eq]; omega
      have q2 : (V : Int) / 4294967296 = (V2 : Int) := by rw [hV2, N.B_eq]; omega
      obtain ⟨Z, hZ⟩ : ∃ Z : Nat, Z = H + V1 := ⟨_, rfl⟩
      have hor : bits .or .u32 (H : Int) (V1 : Int) = (Z : Int) := by
        rw [hZ]; exact u32_or_sum H V1 s (by omega) bV1 (by rw [hV1, hV]; exact N.shl_low hs1) bH
      have hor2 : bits .or .u32 0 (V2 : Int) = (V2 : Int) := u32_or_zero V2 bV2
      have bZ : Hid (Z < N.B) := by
        show Z < N.B
        have h1 : (V1 : Nat) % 2 ^ s = 0 := by rw [hV1, hV]; exact N.shl_low hs1
        have h2 : N.B % 2 ^ s = 0 := by rw [N.B_pow]; exact Nat.mod_eq_zero_of_dvd (Nat.pow_dvd_pow 2 (by omega))
        have h3 : V1 < N.B := bV1
        obtain ⟨c, hc⟩ := Nat.dvd_of_mod_eq_zero h1
        obtain ⟨e, he⟩ := Nat.dvd_of_mod_eq_zero h2
        rw [hc, he] at h3
        have h4 : c < e := Nat.lt_of_mul_lt_mul_left h3
        have h5 : 2 ^ s * c + 2 ^ s ≤ 2 ^ s * e := by rw [← Nat.mul_succ]; exact Nat.mul_le_mul_left _ h4
        rw [hZ, hc, he]; omega
      have c3 : wr.cell? ⟨w.heap.size, k + q, none⟩ = some (.int .u32 (H : Int)) := by
        rw [hK.out.cell, arr_get (by omega), N.wd_shift, hH]
      have f3 : wr.frozen? ⟨w.heap.size, k + q, none⟩ = false := hK.out.frozen _
      have bR : a % N.B ^ k * 2 ^ s * N.B ^ q < N.B ^ (k + q + 1) := by
        have e : N.B ^ (k + q + 1) = N.B ^ k * N.B * N.B ^ q := by rw [Nat.pow_succ, Nat.pow_add, Nat.mul_right_comm]
        rw [e]
        refine Nat.mul_lt_mul_of_pos_right (Nat.lt_of_lt_of_le hTb (Nat.mul_le_mul_left _ ?_)) (N.Bk_pos q)
        rw [N.B_eq]; omega
      have c4 : wr.cell? ⟨w.heap.size, k + q + 1, none⟩ = some (.int .u32 0) := by
        rw [hK.out.cell, arr_get (by omega), N.wd_high bR (Nat.le_refl _)]; rfl
      have f4 : wr.frozen? ⟨w.heap.size, k + q + 1, none⟩ = false := hK.out.frozen _
      have HF : Hid (Blk ((wr.setCell ⟨w.heap.size, k + q, none⟩ (.int .u32 (Z : Int))).setCell ⟨w.heap.size, k + q + 1, none⟩ (.int .u32 (V2 : Int))) w.heap.size 124 (arr (a % N.B ^ (k + 1) * 2 ^ s * N.B ^ q) (L + q + 1))) := by
        show Blk _ _ _ _
        have hnum : a % N.B ^ k * 2 ^ s * N.B ^ q - N.wd (a % N.B ^ k * 2 ^ s * N.B ^ q) (k + q) * N.B ^ (k + q) + Z * N.B ^ (k + q) + V2 * N.B ^ (k + q + 1) = a % N.B ^ (k + 1) * 2 ^ s * N.B ^ q := by
          rw [hZ, hH, hV1, hV2, hV]; exact N.left_step hs1
        have h1 := hK.out.set_ (k + q) (.int .u32 (Z : Int))
        rw [arr_set bZ.out (by omega)] at h1
        have h2 := h1.set_ (k + q + 1) (.int .u32 (V2 : Int))
        rw [arr_put (N.wd_high (N.set_lt bR (by omega) bZ.out) (Nat.le_refl _)) (show V2 < N.B from bV2) (by omega), hnum] at h2
        exact h2
      clear hX hV hH hV1 hV2 hZ bR hTb bH hP cx
      go_wp2
      go_roundw
      case rel => exact ⟨k + 1, by omega, by go_num, HF.out, Ext.setCell (Ext.setCell hB.out (Nat.le_refl _) _) (Nat.le_refl _) _, by simp; exact hlt⟩
      case measure => simp [intOf]; omega
    · obtain rfl : k = L := by omega
      have hbd : Hid (a * 2 ^ s * N.B ^ q < N.B ^ (k + q + 1)) := by
        show a * 2 ^ s * N.B ^ q < N.B ^ (k + q + 1)
        have e : N.B ^ (k + q + 1) = N.B ^ k * N.B * N.B ^ q := by rw [Nat.pow_succ, Nat.pow_add, Nat.mul_right_comm]
        rw [e]
        have hP := N.pow_31 hs1
        refine Nat.mul_lt_mul_of_pos_right (Nat.lt_of_lt_of_le (Nat.mul_lt_mul_of_pos_right bL.out (Nat.pow_pos (by decide))) (Nat.mul_le_mul_left _ ?_)) (N.Bk_pos q)
        rw [N.B_eq]; omega
      have HT : Hid (∀ w2 : World, Blk w2 w.heap.size 124 (arr (a % N.B ^ k * 2 ^ s * N.B ^ q) (k + q + 1)) → Calls Try.prog 134 #[.slice (some ⟨w.heap.size, 0, none⟩) (k + q + 1) (k + q + 1)] w2 fun e w' => ∃ u, e = .returned u ∧ w2 = w' ∧ Nm w2 u (a * 2 ^ s * N.B ^ q)) := fun w2 h => by
        rw [Nat.mod_eq_of_lt bL.out] at h
        exact trim_ok _ _ _ hbd.out w2 (blk_rd h (by unfold maxLen; omega))
      clear hkL
      go_wp2_with (first | (go_at_call 134; refine (HT.out _ hK.out).mono ?_; rintro e w2 ⟨u, rfl, rfl, hu⟩; have HU := Lib.hid hu; clear hu))
      go_ret
      exact ⟨u, rfl, hB.out, HU.out⟩
set_option maxHeartbeats 1000000 in
theorem left_nil (A : Option Addr) (cap : Nat) (z : Int) (w : World) :
    Calls Try.prog 127 #[.slice A 0 cap, .int .u64 z] w fun e w' => e = .returned (.slice none 0 0) ∧ w = w' := by
  go_enter Try.func127, Try.ntmps127
  go_wp2
  go_ret
  exact ⟨rfl, rfl⟩
theorem N.two_split (z : Nat) : 2 ^ (z % 32) * N.B ^ (z / 32) = 2 ^ z := by
  rw [N.Bk, ← Nat.pow_add, Nat.mod_add_div]
theorem left_ok (v : Value) (a z : Nat) (hz : z ≤ 1000) (ha : Sm a) (w : World) (hv : Nm w v a) (Z : Int) (hZ : Z = (z : Nat)) :
    Calls Try.prog 127 #[v, .int .u64 Z] w fun e w' => ∃ u, e = .returned u ∧ Below w.heap.size w w' ∧ Nm w' u (a * 2 ^ z) := by
  obtain ⟨_, A, cap, rfl, _, hA⟩ := hv.open_
  rcases Nat.eq_zero_or_pos (N.ln a) with h0 | h0
  · rw [h0]
    refine (left_nil A cap Z w).mono ?_
    rintro e w' ⟨rfl, rfl⟩
    refine ⟨_, rfl, Below.refl _ _, ?_⟩
    rw [N.eq_zero h0, Nat.zero_mul]; exact Nm.zero w
  · have := left_raw A _ cap a (z / 32) (z % 32) Z (by omega) (by omega) (by omega) (by omega) ha h0 w (N.lt_ln a) (hA h0)
    rw [Nat.mul_assoc, N.two_split] at this
    exact this
end Go.Proofs.Ytgpjhbaehhjdhaa
