/- Walks of ref3.bits and ref3.number. -/
import Derived.Test.YtfjgnhmmakeaeaaB0
import Derived.Test.YtfjgnhmmakeaeaaB2
import Derived.LoopTactic
import Derived.Deep.Cut
import Derived.Test.YtfjgnhmmakeaeaaB4
import Derived.BigQuiet
namespace Go.Proofs.Ytfjgnhmmakeaeaa
open Go.RowKit
set_option linter.unusedVariables false
set_option linter.unusedSimpArgs false
set_option maxRecDepth 100000
namespace Mc
/-- The k-th bit of a word. -/
def bit (x : Int) (k : Nat) : Bool := decide (x / (2 ^ k : Int) % 2 = 1)
/-- Sixteen bits. -/
def bitsA (f : Nat → Bool) : Array Value := ((List.range 16).map (fun k => Value.bool (f k))).toArray
theorem bitsA_size (f : Nat → Bool) : (bitsA f).size = 16 := by simp [bitsA]
theorem bitsA_at (f : Nat → Bool) (k : Nat) (hk : k < 16) : (bitsA f)[k]? = some (.bool (f k)) := by
  unfold bitsA
  rw [List.getElem?_toArray, List.getElem?_map, List.getElem?_range hk]; rfl
theorem bitsA_set (f g : Nat → Bool) (k : Nat) (b : Bool) (hk : g k = b) (hne : ∀ j, j ≠ k → g j = f j) : (bitsA f).setIfInBounds k (.bool b) = bitsA g := by
  apply Array.ext_getElem?
  intro j
  rw [Array.getElem?_setIfInBounds]
  by_cases hj : j < 16
  · rw [bitsA_at g j hj]
    by_cases e : k = j
    · subst e; rw [if_pos rfl, if_pos (by rw [bitsA_size]; exact hj), hk]
    · rw [if_neg e, bitsA_at f j hj, hne j (fun h => e h.symm)]
  · have h1 : (bitsA g)[j]? = none := Array.getElem?_eq_none (by rw [bitsA_size]; omega)
    have h2 : (bitsA f)[j]? = none := Array.getElem?_eq_none (by rw [bitsA_size]; omega)
    rw [h1]
    split
    · rw [if_neg (by rw [bitsA_size]; omega)]
    · exact h2
theorem bitsA_one (f : Nat → Bool) : (bitsA f).all (·.oneCell') = true := by
  unfold bitsA
  rw [← Array.all_toList]
  simp [Value.oneCell']
/-- What sixteen bits are together. -/
def num (f : Nat → Bool) : Nat → Int
  | 0 => 0
  | n + 1 => num f n + (if f n then 2 ^ n else 0)
/-- .. from the highest one down. -/
def numD (f : Nat → Bool) : Nat → Int
  | 0 => 0
  | n + 1 => 2 * numD f n + (if f (15 - n) then 1 else 0)
theorem pow_half (x : Int) (k : Nat) : x / (2 ^ k : Int) / 2 = x / (2 ^ (k + 1) : Int) := by
  rw [Int.ediv_ediv_of_nonneg (Int.pow_nonneg (by decide)), Int.pow_succ]
end Mc
open Mc
set_option maxHeartbeats 8000000 in
theorem bits_ok (x : Int) (h0 : 0 ≤ x) (h1 : x < 65536) (w : World) : Calls Try.prog 68 #[.int .i64 x] w fun e w' => e = .returned (.agg (bitsA (bit x))) ∧ Below w.heap.size w w' := by
  have HZ : Hid (Blk ((w.alloc (.cells (bitsA (fun _ => false)) 113)).alloc (.cells (bitsA (fun _ => false)) 113)) w.heap.size 113 (bitsA (fun _ => false))) := (Blk.new w _ _).alloc _
  have HO : Hid (Blk ((w.alloc (.cells (bitsA (fun _ => false)) 113)).alloc (.cells (bitsA (fun _ => false)) 113)) (w.heap.size + 1) 113 (bitsA (fun _ => false))) := by
    have := Blk.new (w.alloc (.cells (bitsA (fun _ => false)) 113)) 113 (bitsA (fun _ => false))
    show Blk _ _ _ _
    simpa using this
  go_enter Try.func68, Try.ntmps68
  go_upto_region 2 with (fail)
  generalize hw0 : (w.alloc _).alloc _ = w0
  have HZ0 : Hid (Blk w0 w.heap.size 113 (bitsA (fun _ => false))) := by rw [← hw0]; exact HZ.out
  have HO0 : Hid (Blk w0 (w.heap.size + 1) 113 (bitsA (fun _ => false))) := by rw [← hw0]; exact HO.out
  have HB0 : Hid (Below w.heap.size w w0) := by rw [← hw0]; exact Ext.alloc (Ext.alloc (Below.refl _ _) _) _
  clear hw0 HZ HO
  go_wp2
  go_loopw [0, 4, 5] (fun X _ i wr => ∃ k : Nat, k ≤ 16 ∧ i = .int .i64 (k : Int) ∧ ∃ y : Int, X = .int .i64 y ∧ Hid (y = x / (2 ^ k : Int)) ∧ 0 ≤ y ∧ y < 65536 ∧ Hid (Blk wr (w.heap.size + 1) 113 (bitsA (fun j => decide (j < k) && bit x j))) ∧ Hid (Blk wr w.heap.size 113 (bitsA (fun _ => false))) ∧ Hid (Below w.heap.size w wr)) (fun _ _ i _ => 16 - (intOf i).toNat)
  case atStart => exact ⟨0, by omega, rfl, x, rfl, (by show x = _; simp), h0, h1, HO0, HZ0, HB0⟩
  case round =>
    obtain ⟨k, hk, rfl, y, rfl, hy, y0, y1, hbo, hbz, hbw⟩ := hrel
    by_cases hlt : k < 16
    · have co : wr.cell? ⟨w.heap.size + 1, k, none⟩ = some (.bool (decide (k < k) && bit x k)) := by rw [hbo.out.cell]; exact bitsA_at _ k hlt
      have fo := hbo.out.frozen k
      have hB : (y % 2 == 1) = bit x k := by rw [hy.out]; unfold bit; rw [Bool.eq_iff_iff]; simp
      obtain ⟨B, hBe⟩ : ∃ B, B = bit x k := ⟨_, rfl⟩
      rw [← hBe] at hB
      obtain ⟨C, hC⟩ : ∃ C, C = (decide (k < k) && bit x k) := ⟨_, rfl⟩
      rw [← hC] at co
      have HBE := Lib.hid hBe
      clear hBe hC
      go_wp2
      go_roundw
      case rel => exact ⟨k + 1, by omega, by go_num, y / 2, rfl, (by show y / 2 = _; rw [hy.out]; exact pow_half x k), by omega, by omega, (by
        have := hbo.out.set_ k (.bool B)
        rw [bitsA_set _ (fun j => decide (j < k + 1) && bit x j) k B (by rw [HBE.out]; simp) (fun j hj => by
          have : decide (j < k + 1) = decide (j < k) := by rw [Bool.eq_iff_iff]; simp; omega
          show (decide (j < k + 1) && bit x j) = (decide (j < k) && bit x j); rw [this])] at this
        exact this), hbz.out.far (by show w.heap.size ≠ w.heap.size + 1; omega) _, Below.setCell hbw.out (p := ⟨w.heap.size + 1, k, none⟩) (by show w.heap.size ≤ w.heap.size + 1; omega) _⟩
      case measure => (simp [intOf]; try omega)
    · have hk16 : k = 16 := by omega
      subst hk16
      have hbo2 : Hid (Blk wr (w.heap.size + 1) 113 (bitsA (bit x))) := by
        have e : bitsA (fun j => decide (j < 16) && bit x j) = bitsA (bit x) := by
          have e2 : (List.range 16).map (fun j => Value.bool (decide (j < 16) && bit x j)) = (List.range 16).map (fun j => Value.bool (bit x j)) := List.map_congr_left (fun j hj => by rw [List.mem_range] at hj; simp [hj])
          unfold bitsA; rw [e2]
        rw [← e]; exact hbo.out
      clear hbo hy y0 y1
      go_wp2_with (first | (refine wpList_load_row rfl 113 _ rfl (w.heap.size + 1) rfl 113 (bitsA (bit x)) (0, 0) _ hbo2.out Try.underlying113 rfl (by kernel_rfl) ?_) | (refine wpList_store_row rfl 113 _ _ rfl w.heap.size (bitsA (bit x)) rfl rfl 113 (bitsA (fun _ => false)) hbz.out (by kernel_rfl) (by rw [bitsA_size, bitsA_size]) (bitsA_one _) ?_))
      exact bodyPost_ret (results_cell_row rfl _ _ w.heap.size 113 (bitsA (bit x)) (0, 0) _ rfl (hbz.out.row _) Try.underlying113 rfl (by kernel_rfl)) rfl ⟨rfl, Below.row hbw.out (Nat.le_refl _) _⟩
set_option maxHeartbeats 8000000 in
theorem number_ok (f : Nat → Bool) (w : World) : Calls Try.prog 69 #[.agg (bitsA f)] w fun e w' => e = .returned (.int .i64 (numD f 16)) ∧ Below w.heap.size w w' := by
  have HO : Hid (Blk (w.alloc (.cells (bitsA f) 113)) w.heap.size 113 (bitsA f)) := Blk.new w _ _
  have HB0 : Hid (Below w.heap.size w (w.alloc (.cells (bitsA f) 113))) := Ext.alloc (Below.refl _ _) _
  go_enter Try.func69, Try.ntmps69
  go_upto_region 2 with (fail)
  generalize hw0 : w.alloc _ = w0
  have HO0 : Hid (Blk w0 w.heap.size 113 (bitsA f)) := by rw [← hw0]; exact HO.out
  have HB1 : Hid (Below w.heap.size w w0) := by rw [← hw0]; exact HB0.out
  clear hw0 HO HB0
  go_wp2
  go_loop [3, 4] (fun X i => ∃ k : Nat, k ≤ 16 ∧ i = .int .i64 (15 - (k : Int)) ∧ ∃ y : Int, X = .int .i64 y ∧ Hid (y = numD f k) ∧ 0 ≤ y ∧ y < 2 ^ k) (fun _ i => (intOf i + 1).toNat)
  case atStart => exact ⟨0, by omega, rfl, 0, rfl, rfl, by omega, by decide⟩
  case round =>
    obtain ⟨k, hk, rfl, y, rfl, hy, y0, y1⟩ := hrel
    by_cases hlt : k < 16
    · obtain ⟨j, hj⟩ : ∃ j : Nat, (j : Int) = 15 - (k : Int) := ⟨15 - k, by omega⟩
      have hj16 : j < 16 := by omega
      have hjk : j = 15 - k := by omega
      have co : w0.cell? ⟨w.heap.size, j, none⟩ = some (.bool (f j)) := by rw [HO0.out.cell]; exact bitsA_at _ j hj16
      have hp : (2 : Int) ^ k ≤ 2 ^ 15 := by
        have : (2 : Nat) ^ k ≤ 2 ^ 15 := Nat.pow_le_pow_right (by omega) (by omega)
        exact_mod_cast this
      have yb : y < 32768 := by have : (2 : Int) ^ 15 = 32768 := by decide
                                omega
      have hp2 : (2 : Int) ^ (k + 1) = 2 * 2 ^ k := by rw [Int.pow_succ]; omega
      have HP2 := Lib.hid hp2; have HY1 := Lib.hid y1
      rw [← hj]
      obtain ⟨B, hB⟩ : ∃ B, B = f j := ⟨_, rfl⟩
      rw [← hB] at co
      have HBE := Lib.hid hB; have HJK := Lib.hid hjk; have HJ := Lib.hid hj
      clear hB hp hp2 y1 hjk hj
      have hlt' := Lib.hid hlt
      clear hlt hk
      cases B
      · go_wp2
        go_round
        case rel => exact ⟨k + 1, by have := hlt'.out; omega, (by have := HJ.out; congr 1; push_cast; omega), 2 * y, rfl, (by show 2 * y = 2 * numD f k + _; rw [hy.out, ← HJK.out, ← HBE.out]; simp), by omega, by have := HP2.out; have := HY1.out; omega⟩
        case measure => (have := HJ.out; simp [intOf]; try omega)
      · go_wp2
        go_round
        case rel => exact ⟨k + 1, by have := hlt'.out; omega, (by have := HJ.out; congr 1; push_cast; omega), 2 * y + 1, rfl, (by show 2 * y + 1 = 2 * numD f k + _; rw [hy.out, ← HJK.out, ← HBE.out]; simp), by omega, by have := HP2.out; have := HY1.out; omega⟩
        case measure => (have := HJ.out; simp [intOf]; try omega)
    · have hk16 : k = 16 := by omega
      subst hk16
      have HY := hy
      clear hy y0 y1 hk hlt
      go_wp2
      go_ret
      exact ⟨by rw [HY.out]; rfl, HB1.out⟩
end Go.Proofs.Ytfjgnhmmakeaeaa
/- The document's machine: and, or, xor, shifts, bit by bit. -/
namespace Go.Proofs.Ytfjgnhmmakeaeaa
open Go.RowKit
set_option linter.unusedVariables false
set_option linter.unusedSimpArgs false
set_option maxRecDepth 100000
open Mc
namespace Mc
theorem bit_nat (a k : Nat) : bit (a : Int) k = a.testBit k := by
  unfold bit
  rw [Nat.testBit_eq_decide_div_mod_eq, decide_eq_decide]
  have : (a : Int) / (2 ^ k : Int) % 2 = ((a / 2 ^ k % 2 : Nat) : Int) := by push_cast; rfl
  rw [this]; omega
theorem numD_congr (f g : Nat → Bool) (h : ∀ j, j < 16 → f j = g j) : ∀ n, n ≤ 16 → numD f n = numD g n
  | 0, _ => rfl
  | n + 1, hn => by
    show 2 * numD f n + _ = 2 * numD g n + _
    rw [numD_congr f g h n (by omega), h (15 - n) (by omega)]
theorem numD_part (r : Int) (h0 : 0 ≤ r) (h1 : r < 65536) : ∀ n, n ≤ 16 → numD (bit r) n = r / (2 ^ (16 - n) : Int)
  | 0, _ => by
    have e : ((2 : Int) ^ 16) = 65536 := by decide
    show (0 : Int) = _
    rw [show 16 - 0 = 16 from rfl, e]; omega
  | n + 1, hn => by
    show 2 * numD (bit r) n + (if bit r (15 - n) = true then 1 else 0) = _
    rw [numD_part r h0 h1 n (by omega), show 16 - n = (15 - n) + 1 by omega, show 16 - (n + 1) = 15 - n by omega, ← pow_half r (15 - n)]
    obtain ⟨q, hq⟩ : ∃ q, q = r / (2 ^ (15 - n) : Int) := ⟨_, rfl⟩
    have hb : bit r (15 - n) = decide (q % 2 = 1) := by unfold bit; rw [← hq]
    rw [hb, ← hq]
    by_cases h : q % 2 = 1
    · rw [if_pos (by simpa using h)]; omega
    · rw [if_neg (by simpa using h)]; omega
theorem numD_is (f : Nat → Bool) (r : Int) (h0 : 0 ≤ r) (h1 : r < 65536) (h : ∀ j, j < 16 → f j = bit r j) : numD f 16 = r := by
  rw [numD_congr f (bit r) h 16 (by omega), numD_part r h0 h1 16 (by omega)]; simp
def lg (op : Int) (a b : Bool) : Bool := if op = 9 then a && b else if op = 10 then a || b else a != b
theorem i64_xor_nat (a b : Nat) (ha : a < 2 ^ 32) (hb : b < 2 ^ 32) : bits .xor .i64 (a : Int) (b : Int) = ((a ^^^ b : Nat) : Int) := by
  have h64 : IntKind.i64.bits = 64 := rfl
  simp only [bits, BitVec.ofInt_natCast, BitVec.toNat_xor, BitVec.toNat_ofNat, h64, Nat.mod_eq_of_lt (show a < 2 ^ 64 by omega), Nat.mod_eq_of_lt (show b < 2 ^ 64 by omega)]
  have := Nat.xor_lt_two_pow ha hb
  rw [IntKind.wrap_i64]; omega
theorem i64_wr (n : Int) (h₀ : 0 ≤ n) (h₁ : n < 2 ^ 32) : IntKind.i64.wrap n = n := by rw [IntKind.wrap_i64]; omega
theorem i64_and_nat (a b : Nat) (ha : a < 2 ^ 32) (hb : b < 2 ^ 32) : bits .and .i64 (a : Int) (b : Int) = ((a &&& b : Nat) : Int) := (bits_nat .i64 32 (by decide) i64_wr a b ha hb).1
theorem i64_or_nat (a b : Nat) (ha : a < 2 ^ 32) (hb : b < 2 ^ 32) : bits .or .i64 (a : Int) (b : Int) = ((a ||| b : Nat) : Int) := (bits_nat .i64 32 (by decide) i64_wr a b ha hb).2
/-- Bit by bit is all at once. -/
theorem lg_is (op x y : Int) (c : Bool) (hop : op = 9 ∨ op = 10 ∨ op = 11) (hx : 0 ≤ x ∧ x < 65536) (hy : 0 ≤ y ∧ y < 65536) : numD (fun j => lg op (bit x j) (bit y j)) 16 = Mc.twoR op x y c := by
  obtain ⟨a, rfl⟩ : ∃ a : Nat, x = a := ⟨x.toNat, by omega⟩
  obtain ⟨b, rfl⟩ : ∃ b : Nat, y = b := ⟨y.toNat, by omega⟩
  have ha : a < 2 ^ 16 := by omega
  have hb : b < 2 ^ 16 := by omega
  have key : ∀ (R : Nat), R < 2 ^ 16 → (∀ j, lg op (a.testBit j) (b.testBit j) = R.testBit j) → numD (fun j => lg op (bit (a : Int) j) (bit (b : Int) j)) 16 = (R : Int) := fun R hR h => by
    refine numD_is _ _ (by omega) (by omega) (fun j _ => ?_)
    rw [bit_nat, bit_nat, bit_nat, h]
  have hm : ∀ R : Nat, R < 2 ^ 16 → ((R : Int)) % 65536 = (R : Int) := fun R hR => by omega
  rcases hop with rfl | rfl | rfl
  · have hR := Nat.and_lt_two_pow a hb
    rw [key (a &&& b) hR (fun j => by rw [Nat.testBit_and]; rfl)]
    show _ = bits .and .i64 (a : Int) (b : Int) % 65536
    rw [i64_and_nat a b (by omega) (by omega), hm _ hR]
  · have hR := Nat.or_lt_two_pow ha hb
    rw [key (a ||| b) hR (fun j => by rw [Nat.testBit_or]; rfl)]
    show _ = bits .or .i64 (a : Int) (b : Int) % 65536
    rw [i64_or_nat a b (by omega) (by omega), hm _ hR]
  · have hR := Nat.xor_lt_two_pow ha hb
    rw [key (a ^^^ b) hR (fun j => by rw [Nat.testBit_xor]; rfl)]
    show _ = bits .xor .i64 (a : Int) (b : Int) % 65536
    rw [i64_xor_nat a b (by omega) (by omega), hm _ hR]
end Mc
end Go.Proofs.Ytfjgnhmmakeaeaa

/- The document's machine: shifts, bit by bit. -/
namespace Go.Proofs.Ytfjgnhmmakeaeaa
open Go.RowKit
set_option linter.unusedVariables false
set_option linter.unusedSimpArgs false
set_option maxRecDepth 100000
open Mc
namespace Mc
theorem shl_is (op D : Int) (c t : Bool) (hop : op = 14 ∨ op = 15) (ht : t = (decide (op = 15) && c)) (hD : 0 ≤ D ∧ D < 65536) : numD (fun j => if j = 0 then t else bit D (j - 1)) 16 = Mc.shX op D c := by
  obtain ⟨a, rfl⟩ : ∃ a : Nat, D = a := ⟨D.toNat, by omega⟩
  have ha : a < 65536 := by omega
  have hx : Mc.shX op (a : Int) c = bits .or .i64 ((a : Int) * 2) (if t = true then 1 else 0) % 65536 := by
    unfold Mc.shX
    rw [if_pos hop]
    have : (op = 15 ∧ c = true) ↔ t = true := by rw [ht]; simp
    simp only [this]
  have key : ∀ y : Nat, y < 2 → (∀ j, y.testBit j = (decide (j = 0) && t)) → numD (fun j => if j = 0 then t else bit (a : Int) (j - 1)) 16 = bits .or .i64 ((a : Int) * 2) (y : Int) % 65536 := fun y hy hb => by
    rw [show (a : Int) * 2 = ((a * 2 : Nat) : Int) by push_cast; rfl, i64_or_nat _ _ (by omega) (by omega), show (((a * 2 ||| y : Nat) : Int)) % 65536 = (((a * 2 ||| y) % 2 ^ 16 : Nat) : Int) by omega]
    refine numD_is _ _ (by omega) (by have := Nat.mod_lt (a * 2 ||| y) (show 2 ^ 16 > 0 by decide); omega) (fun j hj => ?_)
    rw [bit_nat ((a * 2 ||| y) % 2 ^ 16) j, Nat.testBit_mod_two_pow, Nat.testBit_or, hb, show a * 2 = a <<< 1 by rw [Nat.shiftLeft_eq], Nat.testBit_shiftLeft]
    by_cases h0 : j = 0
    · subst h0; simp
    · rw [if_neg h0, bit_nat]
      have : 1 ≤ j := by omega
      simp [h0, hj, this]
  rw [hx]
  cases t
  · exact key 0 (by decide) (fun j => by simp)
  · exact key 1 (by decide) (fun j => by rw [Bool.and_true, Bool.eq_iff_iff]; simp [Nat.testBit_one_eq_true_iff_self_eq_zero])
theorem shr_is (op D : Int) (c t : Bool) (hop : op = 16 ∨ op = 17 ∨ op = 18) (ht : t = (decide (op = 18) && c || decide (op = 17) && decide (32767 < D))) (hD : 0 ≤ D ∧ D < 65536) : numD (fun j => if j = 15 then t else bit D (j + 1)) 16 = Mc.shX op D c := by
  obtain ⟨a, rfl⟩ : ∃ a : Nat, D = a := ⟨D.toNat, by omega⟩
  have ha : a < 65536 := by omega
  have hx : Mc.shX op (a : Int) c = bits .or .i64 ((a : Int) / 2) (if t = true then 32768 else 0) % 65536 := by
    unfold Mc.shX
    rw [if_neg (by omega)]
    have : (op = 18 ∧ c = true ∨ op = 17 ∧ 32767 < (a : Int)) ↔ t = true := by rw [ht]; simp
    simp only [this]
  have key : ∀ y : Nat, y < 65536 → (∀ j, y.testBit j = (decide (j = 15) && t)) → numD (fun j => if j = 15 then t else bit (a : Int) (j + 1)) 16 = bits .or .i64 ((a : Int) / 2) (y : Int) % 65536 := fun y hy hb => by
    have hlt : (a / 2 ||| y) < 2 ^ 16 := Nat.or_lt_two_pow (by omega) (by omega)
    rw [show (a : Int) / 2 = ((a / 2 : Nat) : Int) by push_cast; rfl, i64_or_nat _ _ (by omega) (by omega), show (((a / 2 ||| y : Nat) : Int)) % 65536 = ((a / 2 ||| y : Nat) : Int) by omega]
    refine numD_is _ _ (by omega) (by omega) (fun j hj => ?_)
    rw [bit_nat (a / 2 ||| y) j, Nat.testBit_or, hb, show a / 2 = a >>> 1 by rw [Nat.shiftRight_eq_div_pow], Nat.testBit_shiftRight]
    by_cases h0 : j = 15
    · subst h0
      have : a.testBit (1 + 15) = false := Nat.testBit_lt_two_pow (by omega)
      rw [this]; simp
    · rw [if_neg h0, bit_nat]
      simp [h0, Nat.add_comm]
  rw [hx]
  cases t
  · exact key 0 (by decide) (fun j => by simp)
  · exact key 32768 (by decide) (fun j => by rw [show 32768 = 2 ^ 15 from rfl, Nat.testBit_two_pow, Bool.and_true, decide_eq_decide]; omega)
theorem bit_top (D : Int) (hD : 0 ≤ D ∧ D < 65536) : bit D 15 = decide (32767 < D) := by
  unfold bit
  rw [decide_eq_decide, show ((2 : Int) ^ 15) = 32768 by decide]; omega
theorem bit_high (D : Int) (k : Nat) (hD : 0 ≤ D ∧ D < 65536) (hk : 16 ≤ k) : bit D k = false := by
  obtain ⟨a, rfl⟩ : ∃ a : Nat, D = a := ⟨D.toNat, by omega⟩
  rw [bit_nat]
  exact Nat.testBit_lt_two_pow (Nat.lt_of_lt_of_le (show a < 2 ^ 16 by omega) (Nat.pow_le_pow_right (by decide) hk))
theorem shr_row (D : Int) (hD : 0 ≤ D ∧ D < 65536) (T : Bool) (j : Nat) (hj : j ≠ 15) : (if j = 15 then T else bit D (j + 1)) = (if j < 15 then bit D (j + 1) else bit D j) := by
  rw [if_neg hj]
  by_cases h : j < 15
  · rw [if_pos h]
  · rw [if_neg h, bit_high D _ hD (by omega), bit_high D _ hD (by omega)]
theorem bitsA_congr (f g : Nat → Bool) (h : ∀ j, j < 16 → f j = g j) : bitsA f = bitsA g := by
  have e2 : (List.range 16).map (fun j => Value.bool (f j)) = (List.range 16).map (fun j => Value.bool (g j)) := List.map_congr_left (fun j hj => by rw [List.mem_range] at hj; rw [h j hj])
  unfold bitsA; rw [e2]
theorem bit_low (D : Int) : bit D 0 = (D % 2 == 1) := by
  unfold bit
  rw [Bool.eq_iff_iff]; simp
end Mc
/-- A row of sixteen bits, just laid. -/
theorem one_row {w2 : World} (f : Nat → Bool) (z1 : Array Value) (hz1 : z1 = bitsA (fun _ => false)) :
    Blk (w2.alloc (.cells z1 113)) w2.heap.size 113 (bitsA (fun _ => false)) ∧
    Blk ((w2.alloc (.cells z1 113)).setRow w2.heap.size (bitsA f)) w2.heap.size 113 (bitsA f) ∧
    Below w2.heap.size w2 ((w2.alloc (.cells z1 113)).setRow w2.heap.size (bitsA f)) := by
  subst hz1
  exact ⟨Blk.new w2 _ _, (Blk.new w2 _ _).row (bitsA f), Below.row (Ext.alloc (Below.refl _ _) _) (Nat.le_refl _) _⟩
end Go.Proofs.Ytfjgnhmmakeaeaa
