/- Walks of the reckoner with numbers of any size: mul. -/
import Derived.Test.YtgpjhbaehhjdhaaN4
namespace Go.Proofs.Ytgpjhbaehhjdhaa
open Go.RowKit
set_option linter.unusedVariables false
set_option linter.unusedSimpArgs false
set_option maxRecDepth 100000

theorem N.set_lt {n k K x : Nat} (hn : n < N.B ^ K) (hk : k < K) (hx : x < N.B) : n - N.wd n k * N.B ^ k + x * N.B ^ k < N.B ^ K := by
  have e1 := N.parts n k
  have e2 : n - N.wd n k * N.B ^ k + x * N.B ^ k = n / N.B ^ (k + 1) * N.B ^ (k + 1) + x * N.B ^ k + n % N.B ^ k := by
    have h : ∀ M A W g X : Nat, M = A + W + g → M - W + X = A + X + g := by intros; omega
    exact h _ _ _ _ _ e1
  rw [e2]
  obtain ⟨d, rfl⟩ : ∃ d, K = k + 1 + d := ⟨K - k - 1, by omega⟩
  have h1 : n / N.B ^ (k + 1) < N.B ^ d := by
    rw [Nat.div_lt_iff_lt_mul (N.Bk_pos _), Nat.mul_comm, ← Nat.pow_add]; exact hn
  have h2 : n % N.B ^ k < N.B ^ k := Nat.mod_lt _ (N.Bk_pos k)
  have h3 : x * N.B ^ k + N.B ^ k ≤ N.B ^ (k + 1) := by
    rw [Nat.pow_succ, Nat.mul_comm _ N.B, ← Nat.succ_mul]; exact Nat.mul_le_mul_right _ hx
  have h4 : n / N.B ^ (k + 1) * N.B ^ (k + 1) + N.B ^ (k + 1) ≤ N.B ^ (k + 1 + d) := by
    rw [← Nat.succ_mul, Nat.pow_add N.B (k + 1) d, Nat.mul_comm (N.B ^ (k + 1)) (N.B ^ d)]; exact Nat.mul_le_mul_right _ h1
  omega
/-- One step of the product: word i of a by word j of b. -/
theorem N.mul_step {a b i j S c : Nat} (h : S + c * N.B ^ (i + j) = a % N.B ^ i * b + N.wd a i * (b % N.B ^ j) * N.B ^ i) :
    S - N.wd S (i + j) * N.B ^ (i + j) + (c + (N.wd a i * N.wd b j + N.wd S (i + j))) % N.B * N.B ^ (i + j) + (c + (N.wd a i * N.wd b j + N.wd S (i + j))) / N.B * N.B ^ (i + (j + 1)) = a % N.B ^ i * b + N.wd a i * (b % N.B ^ (j + 1)) * N.B ^ i := by
  generalize hv : c + (N.wd a i * N.wd b j + N.wd S (i + j)) = v
  have e1 : N.B ^ (i + (j + 1)) = N.B * N.B ^ (i + j) := by rw [← Nat.add_assoc, Nat.pow_succ, Nat.mul_comm]
  have e2 : v % N.B * N.B ^ (i + j) + v / N.B * N.B ^ (i + (j + 1)) = v * N.B ^ (i + j) := by
    rw [e1, ← Nat.mul_assoc, ← Nat.add_mul, Nat.mul_comm (v / N.B), Nat.mod_add_div]
  have e3 : N.wd S (i + j) * N.B ^ (i + j) ≤ S := by
    have h : ∀ A W g X : Nat, X = A + W + g → W ≤ X := by intros; omega
    exact h _ _ _ _ (N.parts S (i + j))
  have e4 : v * N.B ^ (i + j) = c * N.B ^ (i + j) + N.wd a i * N.wd b j * N.B ^ (i + j) + N.wd S (i + j) * N.B ^ (i + j) := by
    rw [← hv, Nat.add_mul, Nat.add_mul, Nat.add_assoc]
  have e5 : N.wd a i * (b % N.B ^ (j + 1)) * N.B ^ i = N.wd a i * (b % N.B ^ j) * N.B ^ i + N.wd a i * N.wd b j * N.B ^ (i + j) := by
    rw [N.mod_succ, Nat.mul_add, Nat.add_mul, Nat.pow_add, Nat.mul_comm (N.B ^ i) (N.B ^ j), ← Nat.mul_assoc (N.wd a i), Nat.mul_assoc (N.wd a i * N.wd b j)]
  rw [e5]
  omega
theorem N.mul_row {a b i M S c : Nat} (hb : b < N.B ^ M) (h : S + c * N.B ^ (i + M) = a % N.B ^ i * b + N.wd a i * (b % N.B ^ M) * N.B ^ i) : S + c * N.B ^ (i + M) = a % N.B ^ (i + 1) * b := by
  rw [h, Nat.mod_eq_of_lt hb, N.mod_succ, Nat.add_mul, Nat.mul_right_comm]
theorem N.mul_hi (X Y : Nat) (hX : X < 4294967296) (hY : Y < 4294967296) : X * Y ≤ 18446744065119617025 := Nat.mul_le_mul (show X ≤ 4294967295 by omega) (show Y ≤ 4294967295 by omega)
theorem arr_congr {m n L : Nat} (h : m = n) : arr m L = arr n L := by rw [h]
theorem N.bd_low {a b i M : Nat} (hb : b < N.B ^ M) : a % N.B ^ i * b < N.B ^ (i + M) := by
  rw [Nat.pow_add]
  exact Nat.mul_lt_mul'' (Nat.mod_lt _ (N.Bk_pos i)) hb

set_option maxHeartbeats 10000000 in
theorem mul_raw (A A2 : Option Addr) (L M cap cap2 a b : Nat) (hL30 : L ≤ 30) (hM30 : M ≤ 30) (hL0 : 0 < L) (hM0 : 0 < M) (w : World)
    (bL : Hid (a < N.B ^ L)) (bM : Hid (b < N.B ^ M))
    (HA : Hid (∃ b off, A = some ⟨b, off, none⟩ ∧ ∀ j, j < L → w.cell? ⟨b, off + j, none⟩ = some (.int .u32 (N.wd a j : Nat))))
    (HA2 : Hid (∃ c off, A2 = some ⟨c, off, none⟩ ∧ ∀ j, j < M → w.cell? ⟨c, off + j, none⟩ = some (.int .u32 (N.wd b j : Nat)))) :
    Calls Try.prog 123 #[.slice A L cap, .slice A2 M cap2] w fun e w' => ∃ u, e = .returned u ∧ Below w.heap.size w w' ∧ Nm w' u (a * b) := by
  obtain ⟨i0, hi, hz0, hz1, hz2⟩ := info_parts Try.infoU32
  have HI : Hid (i0.bytes * (L + M) ≤ 281474976710656) := by show i0.bytes * (L + M) ≤ 281474976710656; rw [hz2]; omega
  have HL1 : Hid (((L : Int) + (M : Int)) = ((L + M : Nat) : Int)) := by show ((L : Int) + (M : Int)) = ((L + M : Nat) : Int); omega
  have nL : ((L : Int) == 0) = false := by simp; omega
  have nM : ((M : Int) == 0) = false := by simp; omega
  clear hz2
  obtain ⟨bx, ox, rfl, cx⟩ := HA.out
  obtain ⟨byy, oy, rfl, cy⟩ := HA2.out
  have CX := Lib.hid cx; have CY := Lib.hid cy; clear cx cy HA HA2
  go_enter Try.func123, Try.ntmps123
  go_wp2_with (first | (at_make; refine wpList_make_blk _ rfl _ _ 90 rfl 124 i0 (.int .u32 0) Try.underlying90 hi hz0 hz1 rfl .i64 .i64 (L + M) (congrArg (Value.int .i64) HL1.out) (congrArg (Value.int .i64) HL1.out) HI.out (by omega) ?_; intro w1 hblk hbw hsz; rw [← arr_zero] at hblk; have HK := Lib.hid hblk; have HB := Lib.hid hbw; have hlt1 : w.heap.size < w1.heap.size := (by omega); clear hblk hbw hsz))
  go_loopw [6] (fun i wr => ∃ k : Nat, k ≤ L ∧ i = .int .i64 k ∧ Hid (Blk wr w.heap.size 124 (arr (a % N.B ^ k * b) (L + M))) ∧ Hid (Below w.heap.size w wr) ∧ w.heap.size < wr.heap.size) (fun i _ => L - (intOf i).toNat)
  case atStart => exact ⟨0, Nat.zero_le _, rfl, by rw [Nat.pow_zero, Nat.mod_one, Nat.zero_mul]; exact HK, HB, hlt1⟩
  case round =>
    obtain ⟨i, hik, rfl, hK, hB, hlt⟩ := hrel
    clear HK HB hlt1
    obtain ⟨wo, rfl⟩ : ∃ wo : World, wo = wr := ⟨_, rfl⟩
    by_cases hiL : i < L
    · obtain ⟨X, hX⟩ : ∃ X : Int, X = (N.wd a i : Nat) := ⟨_, rfl⟩
      have bX : 0 ≤ X ∧ X < 4294967296 := by have := N.wd_lt a i; omega
      obtain ⟨bX0, bX1⟩ := bX
      have HX := Lib.hid hX
      have i0' : (0 : Int) ≤ (i : Int) := by omega
      have i1' : (i : Int) < (L : Int) := by omega
      clear hX
      go_wp2
      go_loopw [7, 8] (fun cc jj wr => ∃ (j : Nat) (S c : Nat), j ≤ M ∧ jj = .int .i64 j ∧ cc = .int .u64 (c : Int) ∧ c < 4294967296 ∧ Hid (S + c * N.B ^ (i + j) = a % N.B ^ i * b + N.wd a i * (b % N.B ^ j) * N.B ^ i) ∧ Hid (S < N.B ^ (i + M)) ∧ Hid (Blk wr w.heap.size 124 (arr S (L + M))) ∧ Hid (Below w.heap.size w wr) ∧ w.heap.size < wr.heap.size) (fun _ jj _ => M - (intOf jj).toNat)
      case atStart => exact ⟨0, a % N.B ^ i * b, 0, Nat.zero_le _, rfl, rfl, by omega, by rw [Nat.zero_mul, Nat.pow_zero, Nat.mod_one, Nat.mul_zero, Nat.zero_mul]; exact rfl, N.bd_low bM.out, hK, hB, hlt⟩
      case round =>
        obtain ⟨j, S, c, hjM, rfl, rfl, hc, hS, hSb, hK2, hB2, hlt2⟩ := hrel
        by_cases hj : j < M
        · obtain ⟨Y, hY⟩ : ∃ Y : Int, Y = (N.wd b j : Nat) := ⟨_, rfl⟩
          obtain ⟨R, hR⟩ : ∃ R : Int, R = (N.wd S (i + j) : Nat) := ⟨_, rfl⟩
          have bY : 0 ≤ Y ∧ Y < 4294967296 := by have := N.wd_lt b j; omega
          have bR : 0 ≤ R ∧ R < 4294967296 := by have := N.wd_lt S (i + j); omega
          obtain ⟨bY0, bY1⟩ := bY
          obtain ⟨bR0, bR1⟩ := bR
          have c1 : wr.cell? ⟨bx, ox + i, none⟩ = some (.int .u32 X) := by
            have := CX.out i hiL
            rw [HX.out, (bcell hB2.out).1 _ _ (World.block_lt_of_cell? _ _ this)]; exact this
          have c2 : wr.cell? ⟨byy, oy + j, none⟩ = some (.int .u32 Y) := by
            have := CY.out j hj
            rw [hY, (bcell hB2.out).1 _ _ (World.block_lt_of_cell? _ _ this)]; exact this
          have c3 : wr.cell? ⟨w.heap.size, i + j, none⟩ = some (.int .u32 R) := by
            rw [hK2.out.cell, arr_get (by omega), hR]
          have f3 : wr.frozen? ⟨w.heap.size, i + j, none⟩ = false := hK2.out.frozen _
          obtain ⟨P, hP⟩ : ∃ P : Int, P = X * Y := ⟨_, rfl⟩
          have bP : 0 ≤ P ∧ P ≤ 18446744065119617025 := by
            have h := N.mul_hi (N.wd a i) (N.wd b j) (N.wd_lt a i) (N.wd_lt b j)
            rw [hP, HX.out, hY, ← Int.natCast_mul]; omega
          obtain ⟨bP0, bP1⟩ := bP
          have eP : IntKind.u64.wrap (X * Y) = P := by rw [← hP, IntKind.wrap_u64]; omega
          have eI : IntKind.i64.wrap ((i : Int) + (j : Int)) = (i : Int) + (j : Int) := IntWalk.i64_in _ (by omega)
          have HV : Hid ((c : Int) + (P + R) = ((c + (N.wd a i * N.wd b j + N.wd S (i + j)) : Nat) : Int)) := by
            show (c : Int) + (P + R) = ((c + (N.wd a i * N.wd b j + N.wd S (i + j)) : Nat) : Int)
            rw [hP, hR, HX.out, hY]; simp
          have HR := Lib.hid hR; have HY := Lib.hid hY; have HP := Lib.hid hP
          clear hR hY hP
          have hv2 : Hid ((c + (N.wd a i * N.wd b j + N.wd S (i + j))) % N.B < N.B) := Nat.mod_lt _ N.B_pos
          go_wp2
          refine Rg.wp_region [] (by kernel_rfl) (by kernel_rfl) ?_
          repeat (first | (refine Rg.wpL_nil ?_) | (refine Rg.wpL_skip rfl ?_; simp only [Act.put, List.setIfInBounds_toArray, List.set_cons_zero, List.set_cons_succ]) | (refine Rg.wpL_q rfl rfl (fun K hK => ?_); go_big_quiet_op; refine hK _ ?_; clear hK K) | (refine Rg.wpL_w rfl rfl (fun K hK => ?_); go_wp2_with (first | fail | fail)))
          go_wp2
          go_roundw
          case rel => exact ⟨j + 1, _, (c + (N.wd a i * N.wd b j + N.wd S (i + j))) / N.B, by omega, by go_num, W.u64 (by rw [HV.out, N.B_eq]; omega), by
            have h1 := N.mul_hi (N.wd a i) (N.wd b j) (N.wd_lt a i) (N.wd_lt b j); have h2 := N.wd_lt S (i + j); rw [N.B_eq]; omega, N.mul_step hS.out, N.set_lt hSb.out (by omega) hv2.out, by
            rw [← arr_set hv2.out (by omega)]
            have : ((c : Int) + (P + R)) % 4294967296 = (((c + (N.wd a i * N.wd b j + N.wd S (i + j))) % N.B : Nat) : Int) := by rw [HV.out, N.B_eq]; omega
            rw [← this]
            exact hK2.out.set_ _ _, Ext.drew (Ext.setCell hB2.out (Nat.le_refl _) _), by simp; exact hlt2⟩
          case measure => simp [intOf]; omega
        · obtain rfl : j = M := by omega
          have HR := Lib.hid (N.mul_row bM.out hS.out)
          have w0 : N.wd S (i + j) = 0 := N.wd_high hSb.out (Nat.le_refl _)
          have c3 : wr.cell? ⟨w.heap.size, i + j, none⟩ = some (.int .u32 0) := by
            rw [hK2.out.cell, arr_get (by omega), w0]; rfl
          have f3 : wr.frozen? ⟨w.heap.size, i + j, none⟩ = false := hK2.out.frozen _
          have eI : IntKind.i64.wrap ((i : Int) + (j : Int)) = (i : Int) + (j : Int) := IntWalk.i64_in _ (by omega)
          have W0 := Lib.hid w0; clear w0 hj
          go_wp2
          go_roundw
          case rel => exact ⟨i + 1, by omega, by go_num, by
            rw [← HR.out, ← arr_put W0.out hc (by omega)]
            exact hK2.out.set_ _ _, Ext.setCell hB2.out (Nat.le_refl _) _, by simp; exact hlt2⟩
          case measure => simp [intOf]; omega
    · obtain rfl : i = L := by omega
      have hbd : Hid (a * b < N.B ^ (i + M)) := by
        show a * b < N.B ^ (i + M)
        have := N.bd_low (a := a) (i := i) bM.out
        rwa [Nat.mod_eq_of_lt bL.out] at this
      have HT : Hid (∀ w2 : World, Blk w2 w.heap.size 124 (arr (a % N.B ^ i * b) (i + M)) → Calls Try.prog 134 #[.slice (some ⟨w.heap.size, 0, none⟩) (i + M) (i + M)] w2 fun e w' => ∃ u, e = .returned u ∧ w2 = w' ∧ Nm w2 u (a * b)) := fun w2 h => by
        rw [Nat.mod_eq_of_lt bL.out] at h
        exact trim_ok _ (i + M) (a * b) hbd.out w2 (blk_rd h (by unfold maxLen; omega))
      clear hiL
      go_wp2_with (first | (go_at_call 134; refine (HT.out _ hK.out).mono ?_; rintro e w2 ⟨u, rfl, rfl, hu⟩; have HU := Lib.hid hu; clear hu))
      go_ret
      exact ⟨u, rfl, hB.out, HU.out⟩
set_option maxHeartbeats 1000000 in
theorem mul_nil (A A2 : Option Addr) (L M cap cap2 : Nat) (hL : L ≤ 9223372036854775807) (hM : M ≤ 9223372036854775807) (h : L = 0 ∨ (0 < L ∧ M = 0)) (w : World) :
    Calls Try.prog 123 #[.slice A L cap, .slice A2 M cap2] w fun e w' => e = .returned (.slice none 0 0) ∧ w = w' := by
  rcases h with rfl | ⟨h0, rfl⟩
  · go_enter Try.func123, Try.ntmps123
    go_wp2
    go_ret
    exact ⟨rfl, rfl⟩
  · have nL : ((L : Int) == 0) = false := by simp; omega
    go_enter Try.func123, Try.ntmps123
    go_wp2
    go_ret
    exact ⟨rfl, rfl⟩
theorem Nm.zero (w : World) : Nm w (.slice none 0 0) 0 := ⟨Rd.nil w 1, Tp.none _ _ _⟩
theorem N.eq_zero {n : Nat} (h : N.ln n = 0) : n = 0 := by
  have := N.lt_ln n; rw [h, Nat.pow_zero] at this; omega
theorem bmul_ok (u v : Value) (a b : Nat) (ha : Sm a) (hb : Sm b) (w : World) (hu : Nm w u a) (hv : Nm w v b) :
    Calls Try.prog 123 #[u, v] w fun e w' => ∃ r, e = .returned r ∧ Below w.heap.size w w' ∧ Nm w' r (a * b) := by
  obtain ⟨hm, A, cap, rfl, _, hA⟩ := hu.open_
  obtain ⟨hm2, A2, cap2, rfl, _, hA2⟩ := hv.open_
  unfold maxLen at hm hm2
  by_cases h : N.ln a = 0 ∨ (0 < N.ln a ∧ N.ln b = 0)
  · refine (mul_nil A A2 _ _ cap cap2 (by omega) (by omega) h w).mono ?_
    rintro e w' ⟨rfl, rfl⟩
    refine ⟨_, rfl, Below.refl _ _, ?_⟩
    have e : a * b = 0 := by
      rcases h with h | h
      · rw [N.eq_zero h, Nat.zero_mul]
      · rw [N.eq_zero h.2, Nat.mul_zero]
    rw [e]; exact Nm.zero w
  · have h1 : 0 < N.ln a := by omega
    have h2 : 0 < N.ln b := by omega
    exact mul_raw A A2 _ _ cap cap2 a b ha hb h1 h2 w (N.lt_ln a) (N.lt_ln b) (hA h1) (hA2 h2)
end Go.Proofs.Ytgpjhbaehhjdhaa
