/- Walks of the reckoner with numbers of any size: sub. -/
import Derived.Test.YtgpjhbaehhjdhaaN4
import Derived.Outline
namespace Go.Proofs.Ytgpjhbaehhjdhaa
open Go.RowKit
set_option linter.unusedVariables false
set_option linter.unusedSimpArgs false
set_option maxRecDepth 100000

set_option maxHeartbeats 4000000 in
theorem sub_raw (A A2 : Option Addr) (L M cap cap2 a b : Nat) (hba : b ≤ a) (hML : M ≤ L) (hL30 : L ≤ 30) (w : World)
    (bL : Hid (a < N.B ^ L)) (bM : Hid (b < N.B ^ M))
    (HA : Hid (0 < L → ∃ b off, A = some ⟨b, off, none⟩ ∧ ∀ j, j < L → w.cell? ⟨b, off + j, none⟩ = some (.int .u32 (N.wd a j : Nat))))
    (HA2 : Hid (0 < M → ∃ c off, A2 = some ⟨c, off, none⟩ ∧ ∀ j, j < M → w.cell? ⟨c, off + j, none⟩ = some (.int .u32 (N.wd b j : Nat)))) :
    Calls Try.prog 126 #[.slice A L cap, .slice A2 M cap2] w fun e w' => ∃ u, e = .returned u ∧ Below w.heap.size w w' ∧ Nm w' u (a - b) := by
  obtain ⟨i0, hi, hz0, hz1, hz2⟩ := info_parts Try.infoU32
  have HI : Hid (i0.bytes * L ≤ 281474976710656) := by show i0.bytes * L ≤ 281474976710656; rw [hz2]; omega
  clear hz2
  have HBA := Lib.hid hba; clear hba
  go_enter Try.func126, Try.ntmps126
  go_wp2_with (first | (at_make; refine wpList_make_blk _ rfl _ _ 90 rfl 124 i0 (.int .u32 0) Try.underlying90 hi hz0 hz1 rfl .i64 .i64 L rfl rfl HI.out (by omega) ?_; intro w1 hblk hbw hsz; rw [← arr_zero] at hblk; have HK := Lib.hid hblk; have HB := Lib.hid hbw; have hlt1 : w.heap.size < w1.heap.size := (by omega); clear hblk hbw hsz))
  go_loopw [6, 7, 8] (fun c i _ wr => ∃ k : Nat, k ≤ L ∧ i = .int .i64 k ∧ c = .int .u64 (N.bw a b k : Nat) ∧ Hid (Blk wr w.heap.size 124 (arr ((a - b) % N.B ^ k) L)) ∧ Hid (Below w.heap.size w wr) ∧ w.heap.size < wr.heap.size) (fun _ i _ _ => L - (intOf i).toNat)
  case atStart => exact ⟨0, Nat.zero_le _, rfl, by rw [N.bw_zero]; rfl, by rw [Nat.pow_zero, Nat.mod_one]; exact HK, HB, hlt1⟩
  case round =>
    obtain ⟨k, hk, rfl, rfl, hK, hB, hlt⟩ := hrel
    obtain ⟨C, hC⟩ : ∃ C : Int, C = (N.bw a b k : Nat) := ⟨_, rfl⟩
    rw [← hC]
    have hC1 : 0 ≤ C ∧ C ≤ 1 := by have := N.bw_le a b k; omega
    obtain ⟨hC0, hC1⟩ := hC1
    by_cases hkL : k < L
    · obtain ⟨bx, ox, rfl, cx⟩ := HA.out (by omega)
      obtain ⟨X, hX⟩ : ∃ X : Int, X = (N.wd a k : Nat) := ⟨_, rfl⟩
      have c1 : wr.cell? ⟨bx, ox + k, none⟩ = some (.int .u32 X) := by
        have := cx k hkL
        rw [hX, (bcell hB.out).1 _ _ (World.block_lt_of_cell? _ _ this)]; exact this
      have bX : 0 ≤ X ∧ X < 4294967296 := by have := N.wd_lt a k; omega
      obtain ⟨bX0, bX1⟩ := bX
      have HST := Lib.hid (N.sub_step HBA.out k)
      have HSB := Lib.hid (N.bw_le a b (k + 1))
      have HSW := Lib.hid (N.wd_lt (a - b) k)
      have f3 : wr.cell? ⟨w.heap.size, k, none⟩ = some (.int .u32 0) := by
        rw [hK.out.cell, arr_get (by omega), N.wd_high (Nat.mod_lt _ (N.Bk_pos k)) (Nat.le_refl _)]; rfl
      have f4 : wr.frozen? ⟨w.heap.size, k, none⟩ = false := hK.out.frozen k
      have i0 : (0 : Int) ≤ (k : Int) := by omega
      have i1 : (k : Int) < (L : Int) := by omega
      have HX := Lib.hid hX; have HC := Lib.hid hC; clear hX hC cx
      obtain ⟨D1, hD1⟩ : ∃ D1, IntKind.u64.wrap (X - C) = D1 := ⟨_, rfl⟩
      have HD1 : Hid (D1 = (X - C) % 18446744073709551616) := by show D1 = _; rw [← hD1, IntKind.wrap_u64]
      by_cases hkM : k < M
      · obtain ⟨byy, oy, rfl, cy⟩ := HA2.out (by omega)
        obtain ⟨Y, hY⟩ : ∃ Y : Int, Y = (N.wd b k : Nat) := ⟨_, rfl⟩
        have c2 : wr.cell? ⟨byy, oy + k, none⟩ = some (.int .u32 Y) := by
          have := cy k hkM
          rw [hY, (bcell hB.out).1 _ _ (World.block_lt_of_cell? _ _ this)]; exact this
        have bY : 0 ≤ Y ∧ Y < 4294967296 := by have := N.wd_lt b k; omega
        obtain ⟨bY0, bY1⟩ := bY
        have HY := Lib.hid hY; clear hY cy
        obtain ⟨D2, hD2⟩ : ∃ D2, IntKind.u64.wrap (D1 - Y) = D2 := ⟨_, rfl⟩
        have HD2 : Hid (D2 = (D1 - Y) % 18446744073709551616) := by show D2 = _; rw [← hD2, IntKind.wrap_u64]
        have bD : 0 ≤ D2 ∧ D2 < 18446744073709551616 := by have := HD2.out; omega
        obtain ⟨bD0, bD1⟩ := bD
        have e1 : Hid (D2 % 4294967296 = (N.wd (a - b) k : Nat) ∧ D2 / 9223372036854775808 = (N.bw a b (k + 1) : Nat)) := by
          have h := HST.out; rw [N.B_eq] at h
          have hx := HX.out; have hy := HY.out; have hc := HC.out; have h1 := HD1.out; have h2 := HD2.out; have h3 := HSB.out; have h4 := HSW.out
          constructor <;> omega
        go_wp2
        go_roundw
        case rel => exact ⟨k + 1, by omega, by go_num, W.u64 e1.out.2, blk_next hK.out (by omega) e1.out.1, Ext.setCell hB.out (Nat.le_refl _) _, by simp; exact hlt⟩
        case measure => simp [intOf]; omega
      · have bD : 0 ≤ D1 ∧ D1 < 18446744073709551616 := by have := HD1.out; omega
        obtain ⟨bD0, bD1⟩ := bD
        have e1 : Hid (D1 % 4294967296 = (N.wd (a - b) k : Nat) ∧ D1 / 9223372036854775808 = (N.bw a b (k + 1) : Nat)) := by
          have h := HST.out; rw [N.B_eq] at h
          have hx := HX.out; have hc := HC.out; have h1 := HD1.out; have h3 := HSB.out; have h4 := HSW.out
          have hy : N.wd b k = 0 := N.wd_high bM.out (by omega)
          constructor <;> omega
        have hkM' : M ≤ k := by omega
        clear hkM
        go_wp2
        go_roundw
        case rel => exact ⟨k + 1, by omega, by go_num, W.u64 e1.out.2, blk_next hK.out (by omega) e1.out.1, Ext.setCell hB.out (Nat.le_refl _) _, by simp; exact hlt⟩
        case measure => simp [intOf]; omega
    · obtain rfl : k = L := by omega
      have HC := Lib.hid hC; clear hC hkL
      have hbd : Hid (a - b < N.B ^ k) := Nat.lt_of_le_of_lt (Nat.sub_le _ _) bL.out
      have HT : Hid (∀ w2 : World, Blk w2 w.heap.size 124 (arr ((a - b) % N.B ^ k) k) → Calls Try.prog 134 #[.slice (some ⟨w.heap.size, 0, none⟩) k k] w2 fun e w' => ∃ u, e = .returned u ∧ w2 = w' ∧ Nm w2 u (a - b)) := fun w2 h => by
        rw [Nat.mod_eq_of_lt hbd.out] at h
        exact trim_ok _ k (a - b) hbd.out w2 (blk_rd h (by unfold maxLen; omega))
      go_wp2_with (first | (go_at_call 134; refine (HT.out _ hK.out).mono ?_; rintro e w2 ⟨u, rfl, rfl, hu⟩; have HU := Lib.hid hu; clear hu))
      go_ret
      exact ⟨u, rfl, hB.out, HU.out⟩
theorem bsub_ok (u v : Value) (a b : Nat) (hba : b ≤ a) (ha : Sm a) (w : World) (hu : Nm w u a) (hv : Nm w v b) :
    Calls Try.prog 126 #[u, v] w fun e w' => ∃ r, e = .returned r ∧ Below w.heap.size w w' ∧ Nm w' r (a - b) := by
  obtain ⟨_, A, cap, rfl, _, hA⟩ := hu.open_
  obtain ⟨_, A2, cap2, rfl, _, hA2⟩ := hv.open_
  exact sub_raw A A2 _ _ cap cap2 a b hba (N.ln_mono hba) ha w (N.lt_ln a) (N.lt_ln b) hA hA2
end Go.Proofs.Ytgpjhbaehhjdhaa
