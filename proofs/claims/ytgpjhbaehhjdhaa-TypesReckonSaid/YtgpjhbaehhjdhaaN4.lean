/- Walks of the reckoner with numbers of any size: add. -/
import Derived.Test.YtgpjhbaehhjdhaaN3
import Derived.Test.YtgpjhbaehhjdhaaBk
namespace Go.Proofs.Ytgpjhbaehhjdhaa
open Go.RowKit
set_option linter.unusedVariables false
set_option linter.unusedSimpArgs false
set_option maxRecDepth 100000

/-- L words of n, as cells. -/
def arr (n L : Nat) : Array Value := ((N.lv n L).map (Value.int .u32)).toArray
theorem arr_size (n L : Nat) : (arr n L).size = L := by simp [arr, N.lv_length]
theorem arr_get {n L i : Nat} (h : i < L) : (arr n L)[i]? = some (.int .u32 (N.wd n i : Nat)) := by
  simp [arr, N.lv_get h]
theorem arr_zero (L : Nat) : arr 0 L = (List.replicate L (Value.int .u32 0)).toArray := by
  simp [arr, N.lv_zero]
theorem arr_set {n k L x : Nat} (hx : x < N.B) (hk : k < L) : (arr n L).setIfInBounds k (.int .u32 (x : Int)) = arr (n - N.wd n k * N.B ^ k + x * N.B ^ k) L := by
  unfold arr
  rw [← N.lv_set hx hk, List.map_set, List.setIfInBounds_toArray]
theorem arr_put {n k L x : Nat} (h0 : N.wd n k = 0) (hx : x < N.B) (hk : k < L) : (arr n L).setIfInBounds k (.int .u32 (x : Int)) = arr (n + x * N.B ^ k) L := by
  rw [arr_set hx hk, h0, Nat.zero_mul, Nat.sub_zero]
/-- The next word of s, put in. -/
theorem arr_next {s k L : Nat} (hk : k < L) : (arr (s % N.B ^ k) L).setIfInBounds k (.int .u32 (N.wd s k : Nat)) = arr (s % N.B ^ (k + 1)) L := by
  rw [arr_put (N.wd_high (Nat.mod_lt _ (N.Bk_pos k)) (Nat.le_refl _)) (N.wd_lt s k) hk, N.mod_succ]
theorem blk_next {w : World} {g : Nat} {t : TypeId} {s k L : Nat} {z : Int} (h : Blk w g t (arr (s % N.B ^ k) L)) (hk : k < L) (hz : z = (N.wd s k : Nat)) : Blk (w.setCell ⟨g, k, none⟩ (.int .u32 z)) g t (arr (s % N.B ^ (k + 1)) L) := by
  subst hz; rw [← arr_next hk]; exact h.set_ k _
theorem blk_rd {w : World} {g n L : Nat} (h : Blk w g 124 (arr n L)) (hm : L ≤ maxLen) : Rd w 1 (.slice (some ⟨g, 0, none⟩) L L) L ((N.lv n L).map (Value.int .u32)) ∧ Tp w (.slice (some ⟨g, 0, none⟩) L L) := by
  refine ⟨?_, fun b off l c e _ => ?_⟩
  rotate_left
  · injection e with e1 _ _
    injection e1 with e1
    injection e1 with e1 _ _
    subst e1
    exact ⟨_, _, h⟩
  have := h.rd (n := L) (cap := L) (arr_size n L).symm hm (Nat.le_refl _)
  simpa [arr] using this

set_option maxHeartbeats 4000000 in
theorem add_raw (v1 v2 : Value) (A A2 : Option Addr) (L M cap cap2 a b : Nat) (hsw : (v1 = .slice A L cap ∧ v2 = .slice A2 M cap2) ∨ (M < L ∧ v2 = .slice A L cap ∧ v1 = .slice A2 M cap2)) (hML : M ≤ L) (hL30 : L ≤ 30) (w : World)
    (bL : Hid (a < N.B ^ L)) (bM : Hid (b < N.B ^ M))
    (HA : Hid (0 < L → ∃ b off, A = some ⟨b, off, none⟩ ∧ ∀ j, j < L → w.cell? ⟨b, off + j, none⟩ = some (.int .u32 (N.wd a j : Nat))))
    (HA2 : Hid (0 < M → ∃ c off, A2 = some ⟨c, off, none⟩ ∧ ∀ j, j < M → w.cell? ⟨c, off + j, none⟩ = some (.int .u32 (N.wd b j : Nat)))) :
    Calls Try.prog 124 #[v1, v2] w fun e w' => ∃ u, e = .returned u ∧ Below w.heap.size w w' ∧ Nm w' u (a + b) := by
  obtain ⟨i0, hi, hz0, hz1, hz2⟩ := info_parts Try.infoU32
  have HI : Hid (i0.bytes * (L + 1) ≤ 281474976710656) := by show i0.bytes * (L + 1) ≤ 281474976710656; rw [hz2]; omega
  have nML : decide (L < M) = false := by simpa using hML
  have HL1 : Hid (((L : Int) + 1) = ((L + 1 : Nat) : Int)) := by show ((L : Int) + 1) = ((L + 1 : Nat) : Int); omega
  clear hz2
  rcases hsw with ⟨rfl, rfl⟩ | ⟨hlt, rfl, rfl⟩
  all_goals
    go_enter Try.func124, Try.ntmps124
    go_wp2_with (first | (at_make; refine wpList_make_blk _ rfl _ _ 90 rfl 124 i0 (.int .u32 0) Try.underlying90 hi hz0 hz1 rfl .i64 .i64 (L + 1) (congrArg (Value.int .i64) HL1.out) (congrArg (Value.int .i64) HL1.out) HI.out (by omega) ?_; intro w1 hblk hbw hsz; rw [← arr_zero] at hblk; have HK := Lib.hid hblk; have HB := Lib.hid hbw; have hlt1 : w.heap.size < w1.heap.size := (by omega); clear hblk hbw hsz))
    go_loopw [6, 7] (fun c i wr => ∃ k : Nat, k ≤ L ∧ i = .int .i64 k ∧ c = .int .u64 (N.cy a b k : Nat) ∧ Hid (Blk wr w.heap.size 124 (arr ((a + b) % N.B ^ k) (L + 1))) ∧ Hid (Below w.heap.size w wr) ∧ w.heap.size < wr.heap.size) (fun _ i _ => L - (intOf i).toNat)
    case atStart => exact ⟨0, Nat.zero_le _, rfl, by rw [N.cy_zero]; rfl, by rw [Nat.pow_zero, Nat.mod_one]; exact HK, HB, hlt1⟩
    case round =>
      obtain ⟨k, hk, rfl, rfl, hK, hB, hlt⟩ := hrel
      obtain ⟨C, hC⟩ : ∃ C : Int, C = (N.cy a b k : Nat) := ⟨_, rfl⟩
      rw [← hC]
      have hC1 : 0 ≤ C ∧ C ≤ 1 := by have := N.cy_le a b k; omega
      obtain ⟨hC0, hC1⟩ := hC1
      by_cases hkL : k < L
      · obtain ⟨bx, ox, rfl, cx⟩ := HA.out (by omega)
        obtain ⟨X, hX⟩ : ∃ X : Int, X = (N.wd a k : Nat) := ⟨_, rfl⟩
        have c1 : wr.cell? ⟨bx, ox + k, none⟩ = some (.int .u32 X) := by
          have := cx k hkL
          rw [hX, (bcell hB.out).1 _ _ (World.block_lt_of_cell? _ _ this)]; exact this
        have bX : 0 ≤ X ∧ X < 4294967296 := by have := N.wd_lt a k; omega
        obtain ⟨bX0, bX1⟩ := bX
        have HST := Lib.hid (N.add_step a b k)
        have f3 : wr.cell? ⟨w.heap.size, k, none⟩ = some (.int .u32 0) := by
          rw [hK.out.cell, arr_get (by omega), N.wd_high (Nat.mod_lt _ (N.Bk_pos k)) (Nat.le_refl _)]; rfl
        have f4 : wr.frozen? ⟨w.heap.size, k, none⟩ = false := hK.out.frozen k
        have i0 : (0 : Int) ≤ (k : Int) := by omega
        have i1 : (k : Int) < (L : Int) := by omega
        have HX := Lib.hid hX; have HC := Lib.hid hC; clear hX hC cx
        by_cases hkM : k < M
        · obtain ⟨byy, oy, rfl, cy⟩ := HA2.out (by omega)
          obtain ⟨Y, hY⟩ : ∃ Y : Int, Y = (N.wd b k : Nat) := ⟨_, rfl⟩
          have c2 : wr.cell? ⟨byy, oy + k, none⟩ = some (.int .u32 Y) := by
            have := cy k hkM
            rw [hY, (bcell hB.out).1 _ _ (World.block_lt_of_cell? _ _ this)]; exact this
          have bY : 0 ≤ Y ∧ Y < 4294967296 := by have := N.wd_lt b k; omega
          obtain ⟨bY0, bY1⟩ := bY
          have HY := Lib.hid hY; clear hY cy
          have e1 : Hid ((C + X + Y) % 4294967296 = (N.wd (a + b) k : Nat) ∧ (C + X + Y) / 4294967296 = (N.cy a b (k + 1) : Nat)) := by
            have h := HST.out; rw [N.B_eq] at h
            have hx := HX.out; have hy := HY.out; have hc := HC.out
            constructor <;> omega
          go_wp2
          go_roundw
          case rel => exact ⟨k + 1, by omega, by go_num, W.u64 e1.out.2, blk_next hK.out (by omega) e1.out.1, Ext.setCell hB.out (Nat.le_refl _) _, by simp; exact hlt⟩
          case measure => simp [intOf]; omega
        · have e1 : Hid ((C + X) % 4294967296 = (N.wd (a + b) k : Nat) ∧ (C + X) / 4294967296 = (N.cy a b (k + 1) : Nat)) := by
            have h := HST.out; rw [N.B_eq] at h
            have hx := HX.out; have hc := HC.out
            have hy : N.wd b k = 0 := N.wd_high bM.out (by omega)
            constructor <;> omega
          have hkM' : M ≤ k := by omega
          clear hkM
          go_wp2
          go_roundw
          case rel => exact ⟨k + 1, by omega, by go_num, W.u64 e1.out.2, blk_next hK.out (by omega) e1.out.1, Ext.setCell hB.out (Nat.le_refl _) _, by simp; exact hlt⟩
          case measure => simp [intOf]; omega
      · obtain rfl : k = L := by omega
        have f3 : wr.cell? ⟨w.heap.size, k, none⟩ = some (.int .u32 0) := by
          rw [hK.out.cell, arr_get (by omega), N.wd_high (Nat.mod_lt _ (N.Bk_pos k)) (Nat.le_refl _)]; rfl
        have f4 : wr.frozen? ⟨w.heap.size, k, none⟩ = false := hK.out.frozen k
        have hlast : Hid (C = (N.wd (a + b) k : Nat) ∧ a + b < N.B ^ (k + 1)) := by
          have h := (N.add_step a b k).1
          have hbk : b < N.B ^ k := Nat.lt_of_lt_of_le bM.out (Nat.pow_le_pow_right N.B_pos hML)
          rw [N.wd_high bL.out (Nat.le_refl _), N.wd_high hbk (Nat.le_refl _), N.B_eq] at h
          refine ⟨by show C = (N.wd (a + b) k : Nat); omega, ?_⟩
          have h1 := bL.out
          have h2 : N.B ^ (k + 1) = N.B ^ k * N.B := Nat.pow_succ _ _
          have h3 : N.B ^ k * 2 ≤ N.B ^ k * N.B := Nat.mul_le_mul_left _ (by decide)
          omega
        have HC := Lib.hid hC; clear hC hkL
        have HT : Hid (∀ w2 : World, Blk w2 w.heap.size 124 (arr ((a + b) % N.B ^ (k + 1)) (k + 1)) → Calls Try.prog 134 #[.slice (some ⟨w.heap.size, 0, none⟩) (k + 1) (k + 1)] w2 fun e w' => ∃ u, e = .returned u ∧ w2 = w' ∧ Nm w2 u (a + b)) := fun w2 h => by
          rw [Nat.mod_eq_of_lt hlast.out.2] at h
          exact trim_ok _ (k + 1) (a + b) hlast.out.2 w2 (blk_rd h (by unfold maxLen; omega))
        go_wp2_with (first | (go_at_call 134; refine (HT.out _ (blk_next hK.out (by omega) hlast.out.1)).mono ?_; rintro e w2 ⟨u, rfl, rfl, hu⟩; have HU := Lib.hid hu; clear hu))
        go_ret
        exact ⟨u, rfl, Ext.setCell hB.out (Nat.le_refl _) _, HU.out⟩
theorem badd_ok (u v : Value) (a b : Nat) (ha : Sm a) (hb : Sm b) (w : World) (hu : Nm w u a) (hv : Nm w v b) :
    Calls Try.prog 124 #[u, v] w fun e w' => ∃ r, e = .returned r ∧ Below w.heap.size w w' ∧ Nm w' r (a + b) := by
  obtain ⟨_, A, cap, rfl, _, hA⟩ := hu.open_
  obtain ⟨_, A2, cap2, rfl, _, hA2⟩ := hv.open_
  by_cases h : N.ln b ≤ N.ln a
  · exact add_raw _ _ A A2 _ _ cap cap2 a b (.inl ⟨rfl, rfl⟩) h ha w (N.lt_ln a) (N.lt_ln b) hA hA2
  · rw [Nat.add_comm]
    exact add_raw _ _ A2 A _ _ cap2 cap b a (.inr ⟨by omega, rfl, rfl⟩) (by omega) hb w (N.lt_ln b) (N.lt_ln a) hA2 hA
end Go.Proofs.Ytgpjhbaehhjdhaa
