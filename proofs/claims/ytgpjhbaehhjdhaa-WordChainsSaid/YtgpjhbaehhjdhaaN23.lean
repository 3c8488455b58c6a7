/- The reference's Join. -/
import Derived.Test.YtgpjhbaehhjdhaaN20
import Derived.Test.YtgpjhbaehhjdhaaW6
namespace Go.Proofs.Ytgpjhbaehhjdhaa
open Go.RowKit
set_option linter.unusedVariables false
set_option linter.unusedSimpArgs false
set_option maxRecDepth 100000

theorem W.join_snoc (xs : List Int) (x : Int) : W.join (xs ++ [x]) = W.join xs + x * 65536 ^ xs.length := by
  induction xs with
  | nil => simp [W.join]
  | cons y ys ih =>
    rw [List.cons_append, W.join, W.join, ih, List.length_cons, Int.pow_succ, Int.mul_add, Int.add_assoc]
    congr 2
    rw [Int.mul_comm 65536, Int.mul_assoc]
theorem W.take_snoc (xs : List Int) (k : Nat) (h : k < xs.length) : xs.take (k + 1) = xs.take k ++ [xs.getD k 0] := by
  rw [List.take_succ_eq_append_getElem h]
  simp [List.getD_eq_getElem?_getD, List.getElem?_eq_getElem h]
theorem W.two_16 (k : Nat) : (2 : Int) ^ (16 * k) = 65536 ^ k := by rw [Int.pow_mul]; rfl
theorem W.fine_take {xs : List Int} {k : Nat} (h : ∀ j, j < k → W.fine (xs.getD j 0)) (hk : k ≤ xs.length) : ∀ x ∈ xs.take k, W.fine x := by
  intro x hx
  obtain ⟨j, hj, rfl⟩ := List.mem_iff_getElem.1 hx
  have hj' : j < k := by rw [List.length_take] at hj; omega
  have := h j hj'
  rw [List.getElem_take]
  rwa [List.getD_eq_getElem?_getD, List.getElem?_eq_getElem (by omega)] at this
theorem W.join_lt {xs : List Int} (h : ∀ x ∈ xs, W.fine x) (hl : xs.length ≤ 4) : 0 ≤ W.join xs ∧ W.join xs < 18446744073709551616 := by
  have h1 := W.join_bd xs h
  have h2 : (65536 : Int) ^ xs.length ≤ ((65536 ^ 4 : Nat) : Int) := by
    have : (65536 : Nat) ^ xs.length ≤ 65536 ^ 4 := Nat.pow_le_pow_right (by decide) hl
    rw [show ((65536 : Int) ^ xs.length) = ((65536 ^ xs.length : Nat) : Int) by rw [Int.natCast_pow]; rfl]
    exact Int.ofNat_le.2 this
  have h3 : ((65536 ^ 4 : Nat) : Int) = 18446744073709551616 := by decide
  omega
theorem Sm.of_int {x : Int} (h0 : 0 ≤ x) (h1 : x < 18446744073709551616) : Sm x.natAbs := Sm.of_lt (Nat.lt_of_lt_of_le (m := 18446744073709551616) (by omega) (by decide))
theorem W.pow_bd (k : Nat) (h : k < 4) : 0 ≤ (65536 : Int) ^ k ∧ (65536 : Int) ^ k ≤ 281474976710656 := by
  rcases (show k = 0 ∨ k = 1 ∨ k = 2 ∨ k = 3 by omega) with rfl | rfl | rfl | rfl <;> decide
set_option maxHeartbeats 4000000 in
theorem refJoin_some (b off n cap : Nat) (xs : List Int) (hl : xs.length = n) (h1 : 1 ≤ n) (h4 : n ≤ 4) (hI : ∀ x ∈ xs, W.I x) (w : World) (hc : ∀ j, j < n → w.cell? ⟨b, off + j, none⟩ = some (.int .i64 (xs.getD j 0))) :
    Calls Try.prog 25 #[.slice (some ⟨b, off, none⟩) n cap] w fun e w' => e = .returned (.tuple #[.int .u64 (W.joinV xs), .int .i64 (W.joinE xs)]) ∧ Below w.heap.size w w' := by
  have HA : Hid (∀ w0 : World, Io (w0.alloc (.cells #[.bool false, .slice none 0 0] 92)) w0.heap.size 0) := fun w0 => Io.new w0
  have HC := Lib.hid hc; have HL := Lib.hid hl; have HII := Lib.hid hI
  have n0 : ((n : Int) == 0) = false := by simp; omega
  have n4 : decide (4 < n) = false := by simp; omega
  clear hc hl hI
  go_enter Try.func25, Try.ntmps25
  go_wp2
  go_loopw [18] (fun i wr => ∃ k : Nat, k ≤ n ∧ i = .int .i64 k ∧ Hid (Io wr w.heap.size (W.join (xs.take k))) ∧ Hid (∀ j, j < k → W.fine (xs.getD j 0)) ∧ Hid (Below w.heap.size w wr)) (fun i _ => n - (intOf i).toNat)
  case atStart => exact ⟨0, Nat.zero_le _, rfl, by rw [List.take_zero]; exact HA.out w, fun j hj => by omega, Ext.alloc (Below.refl _ _) _⟩
  case round =>
    obtain ⟨k, hk, rfl, hI, hF, hB⟩ := hrel
    by_cases hlt : k < n
    · obtain ⟨X, hX⟩ : ∃ X, X = xs.getD k 0 := ⟨_, rfl⟩
      have c1 : wr.cell? ⟨b, off + k, none⟩ = some (.int .i64 X) := by
        have := HC.out k hlt
        rw [hX, (bcell hB.out).1 _ _ (World.block_lt_of_cell? _ _ this)]; exact this
      have hXI : W.I X := by
        rw [hX]; refine HII.out _ ?_
        have hk2 : k < xs.length := by rw [HL.out]; exact hlt
        rw [List.getD_eq_getElem?_getD, List.getElem?_eq_getElem hk2]; exact List.getElem_mem hk2
      have HX := Lib.hid hX
      by_cases hf : W.fine X
      · have hf' := hf
        unfold W.fine at hf'
        obtain ⟨hx0, hx1⟩ := hf'
        have hlen : (xs.take k).length = k := by rw [List.length_take, HL.out]; omega
        have hft := W.fine_take hF.out (by rw [HL.out]; exact hk)
        have hjb := W.join_lt hft (by rw [hlen]; omega)
        have hpb := W.pow_bd k (by omega)
        have hpx : 0 ≤ X * 65536 ^ k ∧ X * 65536 ^ k < 18446744073709551616 := by
          refine ⟨Int.mul_nonneg hx0 hpb.1, ?_⟩
          have : X * 65536 ^ k ≤ 65535 * 281474976710656 := Int.mul_le_mul hx1 hpb.2 hpb.1 (by omega)
          omega
        obtain ⟨z, hz⟩ : ∃ z : Int, z = 16 * (k : Int) := ⟨_, rfl⟩
        have CN : Hid (∀ w : World, Calls Try.prog 84 #[.int .i64 X] w (NewIo w X)) := fun w => newInt_ok X (by omega) (by omega) w
        have CT : Hid (∀ w : World, Calls Try.prog 81 #[.int .i64 (16 * (k : Int))] w (NewIo w (65536 ^ k))) := fun w => by
          rw [← W.two_16]; exact two_ok (16 * k) (by omega) _ (by omega) w
        have CM : Hid (∀ (w : World) (g g1 g2 : Nat), g1 ≠ g → g2 ≠ g → Io w g 0 → Io w g1 X → Io w g2 (65536 ^ k) → Calls Try.prog 83 #[P g, P g1, P g2] w fun e w' => e = .returned (P g) ∧ Chg g w w' ∧ Io w' g (X * 65536 ^ k)) := fun w g g1 g2 a b c d e =>
          intMul_ok g g1 g2 0 X _ a b (Sm.of_int hx0 (by omega)) (Sm.of_int hpb.1 (by omega)) w c d e
        have CA : Hid (∀ (w : World) (g g1 : Nat), Io w g (W.join (xs.take k)) → Io w g1 (X * 65536 ^ k) → Calls Try.prog 82 #[P g, P g, P g1] w fun e w' => e = .returned (P g) ∧ Chg g w w' ∧ Io w' g (W.join (xs.take (k + 1)))) := fun w g g1 a b => by
          have e : W.join (xs.take (k + 1)) = W.join (xs.take k) + X * 65536 ^ k := by
            rw [W.take_snoc xs k (by rw [HL.out]; exact hlt), W.join_snoc, hlen, ← hX]
          rw [e]
          exact intAdd_ok g g g1 _ _ _ (Sm.of_int hjb.1 hjb.2) (Sm.of_int hpx.1 hpx.2) w a a b
        have HF2 : Hid (∀ j, j < k + 1 → W.fine (xs.getD j 0)) := fun j hj => by
          by_cases hj2 : j < k
          · exact hF.out j hj2
          · obtain rfl : j = k := by omega
            rw [← hX]; exact hf
        have hlg := hI.out.lt
        clear hX hf hXI hz hlen hft hjb hpb hpx z
        go_wp2_with (first | (go_at_call 84; refine (CN.out _).mono ?_; rintro e w2 ⟨g1, rfl, hg1, hb2, hi2⟩; have HB2 := Lib.hid hb2; have HI2 := Lib.hid hi2; have HM2 := Lib.hid ((HA.out wr).below hb2); have HN2 := Lib.hid ((hI.out.below (Ext.alloc (Below.refl _ _) _)).below hb2); have HG1 : Hid (wr.heap.size < g1) := (by have h := hg1; simp at h; exact h); clear hb2 hi2 hg1) | (go_at_call 81; refine (CT.out _).mono ?_; rintro e w3 ⟨g2, rfl, hg2, hb3, hi3⟩; have HB3 := Lib.hid hb3; have HI3 := Lib.hid hi3; have HX3 := Lib.hid (HI2.out.below hb3); have HM3 := Lib.hid (HM2.out.below hb3); have HN3 := Lib.hid (HN2.out.below hb3); have HG2 : Hid (wr.heap.size < g2) := Nat.lt_of_lt_of_le HM2.out.lt hg2; clear hb3 hi3 hg2) | (go_at_call 83; refine (CM.out _ _ _ _ (Nat.ne_of_gt HG1.out) (Nat.ne_of_gt HG2.out) HM3.out HX3.out HI3.out).mono ?_; rintro e w4 ⟨rfl, hc4, hi4⟩; have HC4 := Lib.hid hc4; have HI4 := Lib.hid hi4; have HN4 := Lib.hid (HN3.out.chg HM3.out (Nat.ne_of_lt hlg) hc4); clear hc4 hi4) | (go_at_call 82; refine (CA.out _ _ _ HN4.out HI4.out).mono ?_; rintro e w5 ⟨rfl, hc5, hi5⟩; have HC5 := Lib.hid hc5; have HI5 := Lib.hid hi5; clear hc5 hi5))
        go_roundw
        case rel =>
          refine ⟨k + 1, by omega, by go_num, HI5, HF2, ?_⟩
          have h3 : Below w.heap.size w w3 := Ext.trans (Ext.trans (Ext.alloc hB.out _) HB2.out) HB3.out
          exact new_chg (new_chg h3 hB.out.size HC4.out) (Nat.le_refl _) HC5.out
        case measure => simp [intOf]; omega
      · have e3 : Hid (W.joinE xs = 3) := W.joinE_bad xs (by rw [HL.out]; exact h1) (by rw [HL.out]; exact h4) k (by rw [HL.out]; exact hlt) (by rw [← hX]; exact hf)
        have e0 : Hid (W.joinV xs = 0) := by show W.joinV xs = 0; unfold W.joinV; rw [e3.out]; rfl
        have hbad : X < 0 ∨ 65535 < X := by unfold W.fine at hf; omega
        clear hX hf hXI
        by_cases hneg : X < 0
        · clear hbad
          go_wp2
          go_ret2
          exact ⟨by rw [e3.out, e0.out]; rfl, hB.out⟩
        · have hX65 : 65535 < X := by omega
          have hX0 : 0 ≤ X := by omega
          clear hbad hneg
          go_wp2
          go_ret2
          exact ⟨by rw [e3.out, e0.out]; rfl, hB.out⟩
    · obtain rfl : k = n := by omega
      have htk : xs.take k = xs := List.take_of_length_le (by rw [HL.out]; exact Nat.le_refl _)
      have hfa : ∀ x ∈ xs, W.fine x := by
        have := W.fine_take hF.out (by rw [HL.out]; exact hk)
        rwa [htk] at this
      have hjb := W.join_lt hfa (by rw [HL.out]; exact h4)
      have e3 : Hid (W.joinE xs = 0) := W.joinE_ok xs (by rw [HL.out]; exact h1) (by rw [HL.out]; exact h4) hfa
      have CU : Hid (∀ (w : World) (g : Nat), Io w g (W.join (xs.take k)) → Calls Try.prog 85 #[P g] w fun e w' => e = .returned (.int .u64 (W.joinV xs)) ∧ w = w') := fun w g hi => by
        have h := uint64_ok g _ w hi
        have e : (((W.join (xs.take k)).natAbs % 18446744073709551616 : Nat) : Int) = W.joinV xs := by
          unfold W.joinV; rw [e3.out, if_pos rfl, htk]; omega
        rwa [e] at h
      clear htk hfa hjb hlt
      go_wp2_with (first | (go_at_call 85; refine (CU.out _ _ hI.out).mono ?_; rintro e w2 ⟨rfl, rfl⟩))
      go_ret2
      exact ⟨by rw [e3.out]; rfl, hB.out⟩
set_option maxHeartbeats 1000000 in
theorem refJoin_many (a : Option Addr) (n cap : Nat) (hn : n < 1 ∨ 4 < n) (hm : n ≤ 9223372036854775807) (w : World) :
    Calls Try.prog 25 #[.slice a n cap] w fun e w' => e = .returned (.tuple #[.int .u64 0, .int .i64 5]) ∧ w = w' := by
  by_cases h1 : n < 1
  · obtain rfl : n = 0 := by omega
    go_enter Try.func25, Try.ntmps25
    go_wp2
    go_ret2
    exact ⟨rfl, rfl⟩
  · have h4 : 4 < n := by omega
    have n0 : ((n : Int) == 0) = false := by simp; omega
    clear hn h1
    go_enter Try.func25, Try.ntmps25
    go_wp2
    go_ret2
    exact ⟨rfl, rfl⟩
theorem refJoin_any (v : Value) (n : Nat) (xs : List Int) (hI : ∀ x ∈ xs, W.I x) (w : World) (h : Rd w 1 v n (xs.map (Value.int .i64))) :
    Calls Try.prog 25 #[v] w fun e w' => e = .returned (.tuple #[.int .u64 (W.joinV xs), .int .i64 (W.joinE xs)]) ∧ Below w.heap.size w w' := by
  obtain ⟨hl, hm, a, cap, rfl, hc, hr⟩ := h.ints
  unfold maxLen at hm
  by_cases hn : n < 1 ∨ 4 < n
  · have e : W.joinE xs = 5 := by unfold W.joinE; rw [hl, if_pos hn]
    have e2 : W.joinV xs = 0 := by unfold W.joinV; rw [e]; rfl
    rw [e, e2]
    exact (refJoin_many a n cap hn (by omega) w).mono fun e w' ⟨h1, h2⟩ => ⟨h1, by rw [← h2]; exact Below.refl _ _⟩
  · obtain ⟨b, off, rfl, hj⟩ := hr (by omega)
    exact refJoin_some b off n cap xs hl (by omega) (by omega) hI w hj
end Go.Proofs.Ytgpjhbaehhjdhaa
