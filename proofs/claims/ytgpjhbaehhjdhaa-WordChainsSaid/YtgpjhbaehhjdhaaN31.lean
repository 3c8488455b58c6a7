/- The reference's Words: its closures. -/
import Derived.Test.YtgpjhbaehhjdhaaN23
import Derived.Test.YtgpjhbaehhjdhaaN29
namespace Go.Proofs.Ytgpjhbaehhjdhaa
open Go.RowKit
set_option linter.unusedVariables false
set_option linter.unusedSimpArgs false
set_option maxRecDepth 100000

/-- The number of words of which the lower sixteen bits count. -/
def W.number (xs : List Int) : Int := W.join (xs.map (· % 65536))
theorem W.number_snoc (xs : List Int) (x : Int) : W.number (xs ++ [x]) = W.number xs + x % 65536 * 65536 ^ xs.length := by
  unfold W.number; rw [List.map_append]; simp only [List.map_cons, List.map_nil]; rw [W.join_snoc, List.length_map]
theorem W.number_bd (xs : List Int) (h : xs.length ≤ 4) : 0 ≤ W.number xs ∧ W.number xs < 18446744073709551616 := by
  refine W.join_lt (fun x hx => ?_) (by rw [List.length_map]; exact h)
  obtain ⟨y, -, rfl⟩ := List.mem_map.1 hx
  unfold W.fine; omega
set_option maxHeartbeats 4000000 in
theorem refNumber_some (b off n cap : Nat) (xs : List Int) (hl : xs.length = n) (h1 : 1 ≤ n) (h4 : n ≤ 4) (w : World) (hc : ∀ j, j < n → w.cell? ⟨b, off + j, none⟩ = some (.int .i64 (xs.getD j 0))) :
    Calls Try.prog 91 #[.slice (some ⟨b, off, none⟩) n cap] w (NewIo w (W.number xs)) := by
  have HA : Hid (∀ w0 : World, Io (w0.alloc (.cells #[.bool false, .slice none 0 0] 92)) w0.heap.size 0) := fun w0 => Io.new w0
  have HC := Lib.hid hc; have HL := Lib.hid hl
  clear hc hl
  go_enter Try.func91, Try.ntmps91
  go_wp2
  go_loopw [9] (fun i wr => ∃ k : Nat, k ≤ n ∧ i = .int .i64 k ∧ Hid (Io wr w.heap.size (W.number (xs.take k))) ∧ Hid (Below w.heap.size w wr)) (fun i _ => n - (intOf i).toNat)
  case atStart => exact ⟨0, Nat.zero_le _, rfl, by rw [List.take_zero]; exact HA.out w, Ext.alloc (Below.refl _ _) _⟩
  case round =>
    obtain ⟨k, hk, rfl, hI, hB⟩ := hrel
    by_cases hlt : k < n
    · obtain ⟨X, hX⟩ : ∃ X, X = xs.getD k 0 := ⟨_, rfl⟩
      have c1 : wr.cell? ⟨b, off + k, none⟩ = some (.int .i64 X) := by
        have := HC.out k hlt
        rw [hX, (bcell hB.out).1 _ _ (World.block_lt_of_cell? _ _ this)]; exact this
      obtain ⟨Y, hY⟩ : ∃ Y, Y = X % 65536 := ⟨_, rfl⟩
      have hlen : (xs.take k).length = k := by rw [List.length_take, HL.out]; omega
      have hjb := W.number_bd (xs.take k) (by rw [hlen]; omega)
      have hpb := W.pow_bd k (by omega)
      have hx0 : 0 ≤ Y := by omega
      have hx1 : Y ≤ 65535 := by omega
      have hpx : 0 ≤ Y * 65536 ^ k ∧ Y * 65536 ^ k < 18446744073709551616 := by
        refine ⟨Int.mul_nonneg hx0 hpb.1, ?_⟩
        have : Y * 65536 ^ k ≤ 65535 * 281474976710656 := Int.mul_le_mul hx1 hpb.2 hpb.1 (by omega)
        omega
      have CLo : Hid (∀ w : World, Calls Try.prog 86 #[.int .i64 X] w fun e w' => e = .returned (.int .i64 Y) ∧ w = w') := fun w => by rw [hY]; exact refLow_ok X w
      have CN : Hid (∀ w : World, Calls Try.prog 84 #[.int .i64 Y] w (NewIo w Y)) := fun w => newInt_ok Y (by omega) (by omega) w
      have CT : Hid (∀ w : World, Calls Try.prog 81 #[.int .i64 (16 * (k : Int))] w (NewIo w (65536 ^ k))) := fun w => by
        rw [← W.two_16]; exact two_ok (16 * k) (by omega) _ (by omega) w
      have CM : Hid (∀ (w : World) (g g1 g2 : Nat), g1 ≠ g → g2 ≠ g → Io w g 0 → Io w g1 Y → Io w g2 (65536 ^ k) → Calls Try.prog 83 #[P g, P g1, P g2] w fun e w' => e = .returned (P g) ∧ Chg g w w' ∧ Io w' g (Y * 65536 ^ k)) := fun w g g1 g2 a b c d e =>
        intMul_ok g g1 g2 0 Y _ a b (Sm.of_int hx0 (by omega)) (Sm.of_int hpb.1 (by omega)) w c d e
      have CA : Hid (∀ (w : World) (g g1 : Nat), Io w g (W.number (xs.take k)) → Io w g1 (Y * 65536 ^ k) → Calls Try.prog 82 #[P g, P g, P g1] w fun e w' => e = .returned (P g) ∧ Chg g w w' ∧ Io w' g (W.number (xs.take (k + 1)))) := fun w g g1 a b => by
        have e : W.number (xs.take (k + 1)) = W.number (xs.take k) + Y * 65536 ^ k := by
          rw [W.take_snoc xs k (by rw [HL.out]; exact hlt), W.number_snoc, hlen, ← hX, ← hY]
        rw [e]
        exact intAdd_ok g g g1 _ _ _ (Sm.of_int hjb.1 hjb.2) (Sm.of_int hpx.1 hpx.2) w a a b
      have hlg := hI.out.lt
      have HX := Lib.hid hX
      clear hX hY HX hlen hjb hpb hpx
      go_wp2_with (first | (go_at_call 86; refine (CLo.out _).mono ?_; rintro e w' ⟨rfl, rfl⟩) | (go_at_call 84; refine (CN.out _).mono ?_; rintro e w2 ⟨g1, rfl, hg1, hb2, hi2⟩; have HB2 := Lib.hid hb2; have HI2 := Lib.hid hi2; have HM2 := Lib.hid ((HA.out wr).below hb2); have HN2 := Lib.hid ((hI.out.below (Ext.alloc (Below.refl _ _) _)).below hb2); have HG1 : Hid (wr.heap.size < g1) := (by have h := hg1; simp at h; exact h); clear hb2 hi2 hg1) | (go_at_call 81; refine (CT.out _).mono ?_; rintro e w3 ⟨g2, rfl, hg2, hb3, hi3⟩; have HB3 := Lib.hid hb3; have HI3 := Lib.hid hi3; have HX3 := Lib.hid (HI2.out.below hb3); have HM3 := Lib.hid (HM2.out.below hb3); have HN3 := Lib.hid (HN2.out.below hb3); have HG2 : Hid (wr.heap.size < g2) := Nat.lt_of_lt_of_le HM2.out.lt hg2; clear hb3 hi3 hg2) | (go_at_call 83; refine (CM.out _ _ _ _ (Nat.ne_of_gt HG1.out) (Nat.ne_of_gt HG2.out) HM3.out HX3.out HI3.out).mono ?_; rintro e w4 ⟨rfl, hc4, hi4⟩; have HC4 := Lib.hid hc4; have HI4 := Lib.hid hi4; have HN4 := Lib.hid (HN3.out.chg HM3.out (Nat.ne_of_lt hlg) hc4); clear hc4 hi4) | (go_at_call 82; refine (CA.out _ _ _ HN4.out HI4.out).mono ?_; rintro e w5 ⟨rfl, hc5, hi5⟩; have HC5 := Lib.hid hc5; have HI5 := Lib.hid hi5; clear hc5 hi5))
      go_roundw
      case rel =>
        refine ⟨k + 1, by omega, by go_num, HI5, ?_⟩
        have h3 : Below w.heap.size w w3 := Ext.trans (Ext.trans (Ext.alloc hB.out _) HB2.out) HB3.out
        exact new_chg (new_chg h3 hB.out.size HC4.out) (Nat.le_refl _) HC5.out
      case measure => simp [intOf]; omega
    · obtain rfl : k = n := by omega
      have htk : xs.take k = xs := List.take_of_length_le (by rw [HL.out]; exact Nat.le_refl _)
      have HI2 : Hid (Io wr w.heap.size (W.number xs)) := by rw [← htk]; exact hI
      clear htk hlt
      go_wp2
      go_ret
      exact ⟨w.heap.size, rfl, Nat.le_refl _, hB.out, HI2.out⟩
end Go.Proofs.Ytgpjhbaehhjdhaa
