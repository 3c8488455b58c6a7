/- Walk of word.Join: the number that words are. -/
import Derived.Test.YtfjgnhmmakeaeaaW5
namespace Go.Proofs.Ytfjgnhmmakeaeaa
open Go.RowKit
set_option linter.unusedVariables false
set_option maxRecDepth 100000

/-- The number that words are, the lowest first. -/
def W.join : List Int → Int
  | [] => 0
  | x :: xs => x + 65536 * W.join xs
def W.fine (x : Int) : Prop := 0 ≤ x ∧ x ≤ 65535
def W.joinE (xs : List Int) : Int := if xs.length < 1 ∨ 4 < xs.length then 5 else if xs.all (fun x => decide (0 ≤ x ∧ x ≤ 65535)) then 0 else 3
def W.joinV (xs : List Int) : Int := if W.joinE xs = 0 then W.join xs else 0
theorem W.join_step (x J p : Int) (h1 : 0 ≤ x ∧ x ≤ 65535) (h2 : 0 ≤ J ∧ J < p) : 0 ≤ x + 65536 * J ∧ x + 65536 * J < p * 65536 := by omega
theorem W.join_bd (xs : List Int) (h : ∀ x ∈ xs, W.fine x) : 0 ≤ W.join xs ∧ W.join xs < 65536 ^ xs.length := by
  induction xs with
  | nil => simp [W.join]
  | cons x xs ih =>
    have h2 := ih (fun y hy => h y (by simp [hy]))
    have e : (65536 : Int) ^ (x :: xs).length = 65536 ^ xs.length * 65536 := by rw [List.length_cons, Int.pow_succ]
    rw [e]
    exact W.join_step x _ _ (h x (by simp)) h2
theorem W.join_48 (xs : List Int) (h : ∀ x ∈ xs, W.fine x) (hl : xs.length ≤ 3) : 0 ≤ W.join xs ∧ W.join xs < 281474976710656 := by
  have := W.join_bd xs h
  refine ⟨this.1, Int.lt_of_lt_of_le this.2 ?_⟩
  have hp : ((65536 : Int) ^ xs.length) ≤ ((65536 ^ 3 : Nat) : Int) := by
    have : (65536 : Nat) ^ xs.length ≤ 65536 ^ 3 := Nat.pow_le_pow_right (by decide) hl
    rw [show ((65536 : Int) ^ xs.length) = ((65536 ^ xs.length : Nat) : Int) by rw [Int.natCast_pow]; rfl]
    exact Int.ofNat_le.2 this
  exact hp
theorem W.or_word (x d : Int) (h0 : 0 ≤ x) (h1 : x < 281474976710656) (hd : W.fine d) : bits .or .u64 (IntKind.u64.wrap (x * 65536)) d = d + 65536 * x := by
  unfold W.fine at hd
  rw [IntKind.wrap_u64, show x * 65536 % 18446744073709551616 = x * 65536 by omega,
    bits_join .u64 64 (by decide) W.u64_wraps 16 (x * 65536) d (by omega) (by omega) (by omega) hd.1 (by omega) (by omega)]
  omega
theorem W.drop_cons (xs : List Int) (j : Nat) (h : j < xs.length) : xs.drop j = xs.getD j 0 :: xs.drop (j + 1) := by
  rw [List.drop_eq_getElem_cons h]; simp [List.getD_eq_getElem?_getD, List.getElem?_eq_getElem h]
theorem W.joinE_ok (xs : List Int) (h1 : 1 ≤ xs.length) (h4 : xs.length ≤ 4) (h : ∀ x ∈ xs, W.fine x) : W.joinE xs = 0 := by
  unfold W.joinE; rw [if_neg (by omega), if_pos]
  rw [List.all_eq_true]; intro x hx; have := h x hx; unfold W.fine at this; simpa using this
theorem W.joinE_bad (xs : List Int) (h1 : 1 ≤ xs.length) (h4 : xs.length ≤ 4) (j : Nat) (hj : j < xs.length) (h : ¬ W.fine (xs.getD j 0)) : W.joinE xs = 3 := by
  unfold W.joinE; rw [if_neg (by omega), if_neg]
  rw [List.all_eq_true]; intro k
  have := k (xs.getD j 0) (by simp [List.getD_eq_getElem?_getD, List.getElem?_eq_getElem hj])
  exact h (by simpa [W.fine] using this)

set_option maxHeartbeats 1000000 in
theorem join_many (a : Option Addr) (n cap : Nat) (xs : List Int) (hl : xs.length = n) (hn : n < 1 ∨ 4 < n) (hm : n ≤ maxLen) (w : World) :
    Calls Try.prog 28 #[.slice a n cap] w fun e w' => e = .returned (.tuple #[.int .u64 0, .int .i64 5]) ∧ w = w' := by
  unfold maxLen at hm
  by_cases h1 : n < 1
  · go_enter Try.func28, Try.ntmps28
    go_wp2
    go_ret2
    exact ⟨rfl, rfl⟩
  · have h4 : 4 < n := by omega
    go_enter Try.func28, Try.ntmps28
    go_wp2
    go_ret2
    exact ⟨rfl, rfl⟩
set_option maxHeartbeats 1000000 in
theorem join_some (b off n cap : Nat) (xs : List Int) (hl : xs.length = n) (h1 : 1 ≤ n) (h4 : n ≤ 4) (w : World) (hc : ∀ j, j < n → w.cell? ⟨b, off + j, none⟩ = some (.int .i64 (xs.getD j 0))) :
    Calls Try.prog 28 #[.slice (some ⟨b, off, none⟩) n cap] w fun e w' => e = .returned (.tuple #[.int .u64 (W.joinV xs), .int .i64 (W.joinE xs)]) ∧ w = w' := by
  have h1' : ¬ n < 1 := by omega
  have h4' : ¬ 4 < n := by omega
  have HL := Lib.hid hl; clear hl
  have HC := Lib.hid hc; clear hc
  go_enter Try.func28, Try.ntmps28
  go_wp2
  go_loop [4, 5] (fun x i => ∃ k : Nat, k ≤ n ∧ i = .int .i64 ((k : Int) - 1) ∧ x = .int .u64 (W.join (xs.drop k)) ∧ Hid (∀ y ∈ xs.drop k, W.fine y)) (fun _ i => (intOf i + 1).toNat)
  case atStart => exact ⟨n, Nat.le_refl _, rfl, W.u64 (by rw [List.drop_of_length_le (by rw [HL.out]; exact Nat.le_refl _)]; rfl), by intro y hy; rw [List.drop_of_length_le (by rw [HL.out]; exact Nat.le_refl _)] at hy; cases hy⟩
  case round =>
    obtain ⟨k, hk, rfl, rfl, hf⟩ := hrel
    rcases k with _ | j
    · have e : (((0 : Nat) : Int) - 1) = -1 := rfl
      rw [e]
      go_wp2
      go_ret2
      have hok := W.joinE_ok xs (by rw [HL.out]; omega) (by rw [HL.out]; omega) (by simpa using hf.out)
      exact ⟨W.ret2 (W.u64 (by unfold W.joinV; rw [if_pos hok])) (W.i64 hok.symm), rfl⟩
    · have e : (((j + 1 : Nat) : Int) - 1) = (j : Int) := by omega
      rw [e]
      obtain ⟨D, hD⟩ : ∃ D, D = xs.getD j 0 := ⟨_, rfl⟩
      have hcell : w.cell? ⟨b, off + j, none⟩ = some (.int .i64 D) := by rw [hD]; exact HC.out j (by omega)
      have HD := Lib.hid hD; clear hD
      have hj : j < n := by omega
      obtain ⟨X, hX⟩ : ∃ X, X = W.join (xs.drop (j + 1)) := ⟨_, rfl⟩
      rw [← hX]
      have HX := Lib.hid hX; clear hX
      have HB : Hid (0 ≤ X ∧ X < 281474976710656) := by rw [HX.out]; exact W.join_48 _ hf.out (by rw [List.length_drop, HL.out]; omega)
      by_cases g0 : D < 0
      · go_wp2
        go_ret2
        have hbad := W.joinE_bad xs (by rw [HL.out]; omega) (by rw [HL.out]; omega) j (by rw [HL.out]; omega) (by rw [← HD.out]; unfold W.fine; omega)
        exact ⟨W.ret2 (W.u64 (by unfold W.joinV; rw [if_neg (by rw [hbad]; decide)])) (W.i64 hbad.symm), rfl⟩
      · by_cases g1 : 65535 < D
        · go_wp2
          go_ret2
          have hbad := W.joinE_bad xs (by rw [HL.out]; omega) (by rw [HL.out]; omega) j (by rw [HL.out]; omega) (by rw [← HD.out]; unfold W.fine; omega)
          exact ⟨W.ret2 (W.u64 (by unfold W.joinV; rw [if_neg (by rw [hbad]; decide)])) (W.i64 hbad.symm), rfl⟩
        · have hor : bits .or .u64 (IntKind.u64.wrap (X * 65536)) D = D + 65536 * X := W.or_word X D HB.out.1 HB.out.2 ⟨by omega, by omega⟩
          go_wp2
          go_round
          case rel => exact ⟨j, by omega, by go_num, W.u64 (by rw [W.drop_cons xs j (by rw [HL.out]; omega), ← HD.out, W.join, HX.out]), by
            have h := hf.out
            intro y hy; rw [W.drop_cons xs j (by rw [HL.out]; omega), ← HD.out] at hy
            rcases List.mem_cons.1 hy with rfl | hy
            · exact ⟨by omega, by omega⟩
            · exact h y hy⟩
          case measure => simp [intOf]
theorem join_any (v : Value) (n : Nat) (xs : List Int) (w : World) (h : Rd w 1 v n (xs.map (Value.int .i64))) :
    Calls Try.prog 28 #[v] w fun e w' => e = .returned (.tuple #[.int .u64 (W.joinV xs), .int .i64 (W.joinE xs)]) ∧ w = w' := by
  obtain ⟨hl, hm, a, cap, rfl, hc, hr⟩ := h.ints
  by_cases hn : n < 1 ∨ 4 < n
  · have e : W.joinE xs = 5 := by unfold W.joinE; rw [hl, if_pos hn]
    have e2 : W.joinV xs = 0 := by unfold W.joinV; rw [e]; rfl
    rw [e, e2]
    exact join_many a n cap xs hl hn hm w
  · obtain ⟨b, off, rfl, hj⟩ := hr (by omega)
    exact join_some b off n cap xs hl (by omega) (by omega) w hj
end Go.Proofs.Ytfjgnhmmakeaeaa
