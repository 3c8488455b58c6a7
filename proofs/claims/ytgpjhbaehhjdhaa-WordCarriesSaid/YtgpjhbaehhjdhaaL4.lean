/- WordSplit: words make the number. -/
import Derived.Test.YtgpjhbaehhjdhaaL1
namespace Go.Proofs.Ytgpjhbaehhjdhaa
open Go.ChangeShapes Go.WideShapes Go.ChangeAt Go.RowKit
set_option linter.unusedVariables false
set_option maxRecDepth 100000

theorem W.split_fine (k : Nat) (x : Int) : ∀ y ∈ W.split k x, W.fine y := by
  induction k with
  | zero => intro y hy; cases hy
  | succ k ih =>
    intro y hy
    rcases List.mem_append.1 hy with h | h
    · exact ih y h
    · simp only [List.mem_singleton] at h; subst h; unfold W.fine; constructor <;> omega
theorem W.join_append (xs ys : List Int) : W.join (xs ++ ys) = W.join xs + 65536 ^ xs.length * W.join ys := by
  induction xs with
  | nil => simp [W.join]
  | cons x xs ih =>
    rw [List.cons_append, W.join, W.join, ih, List.length_cons, Int.pow_succ, Int.mul_add, Int.add_assoc, ← Int.mul_assoc, Int.mul_comm 65536 (65536 ^ xs.length)]
theorem W.emod_split (x a b : Int) (ha : 0 < a) : x % a + a * (x / a % b) = x % (a * b) := by
  have e1 := Int.emod_add_mul_ediv x a
  have e2 := Int.emod_add_mul_ediv (x / a) b
  have e3 := Int.emod_add_mul_ediv x (a * b)
  have e4 : x / a / b = x / (a * b) := by rw [Int.ediv_ediv, if_neg (by omega), Int.sub_zero]
  rw [e4] at e2
  have e5 : a * (x / a) = a * (x / a % b) + a * b * (x / (a * b)) := by
    rw [Int.mul_assoc, ← Int.mul_add, e2]
  omega
theorem W.join_split (k : Nat) (x : Int) : W.join (W.split k x) = x % 65536 ^ k := by
  induction k with
  | zero => simp [W.split, W.join]
  | succ k ih =>
    have hp : (0 : Int) < 65536 ^ k := Int.pow_pos (by decide)
    rw [W.split, W.join_append, ih, W.split_len]
    show x % 65536 ^ k + 65536 ^ k * (W.dn k x % 65536 + 65536 * 0) = x % 65536 ^ (k + 1)
    rw [Int.mul_zero, Int.add_zero, Int.pow_succ]
    unfold W.dn
    exact W.emod_split x _ _ hp
theorem W.joinV_split (v x : Int) (h : W.ok v) (hx : W.U x) : W.joinE (W.split (W.nw v) (W.cut v x)) = 0 ∧ W.joinV (W.split (W.nw v) (W.cut v x)) = W.cut v x := by
  have e0 : W.joinE (W.split (W.nw v) (W.cut v x)) = 0 := by
    refine W.joinE_ok _ ?_ ?_ (W.split_fine _ _) <;> rw [W.split_len] <;> unfold W.nw <;> split <;> (try split) <;> omega
  refine ⟨e0, ?_⟩
  unfold W.joinV; rw [if_pos e0, W.join_split]
  have h0 := W.cut_lo v x
  have h1 : W.cut v x < W.md v := W.mod_hi x v
  refine Int.emod_eq_of_lt h0 (Int.lt_of_lt_of_le h1 ?_)
  rcases h with rfl | rfl | rfl | rfl <;> decide

set_option maxHeartbeats 1000000 in
theorem split_walk_no (x v : Int) (h : ¬ W.ok v) (w : World) :
    Calls Try.prog 7 #[.int .u64 x, .int .i64 v] w fun e w' => e = .returned (.bool true) ∧ Below w.heap.size w w' := by
  go_enter Try.func7, Try.ntmps7
  go_wp2_with (first | (go_at_call 33; refine (alive1 _).mono ?_; rintro e w1 ⟨rfl, hb1⟩; have HB1 := Lib.hid hb1; clear hb1) | (go_at_call 34; refine (width_no _ h _).mono ?_; rintro e w' ⟨rfl, rfl⟩) | (go_at_call 21; refine (split_no _ _ h _).mono ?_; rintro e w' ⟨rfl, rfl⟩))
  go_ret
  exact ⟨rfl, HB1.out⟩
/-- A word that is one. -/
def W.Word (x : Int) : Prop := 0 ≤ x ∧ x < 65536
set_option maxHeartbeats 1000000 in
theorem split_walk_ok (x v : Int) (h : W.ok v) (hx : W.U x) (w : World) :
    Calls Try.prog 7 #[.int .u64 x, .int .i64 v] w fun e w' => e = .returned (.bool true) ∧ Below w.heap.size w w' := by
  have hj := W.joinV_split v x h hx
  have hf := W.split_fine (W.nw v) (W.cut v x)
  have hlen := W.split_len (W.nw v) (W.cut v x)
  obtain ⟨xs, hxs⟩ : ∃ xs, xs = W.split (W.nw v) (W.cut v x) := ⟨_, rfl⟩
  obtain ⟨N, hN⟩ : ∃ N, N = W.nw v := ⟨_, rfl⟩
  have hN4 : N ≤ 4 := by rw [hN]; unfold W.nw; split <;> (try split) <;> omega
  have HS : Hid (∀ w : World, Calls Try.prog 21 #[.int .u64 x, .int .i64 v] w fun e w' => ∃ u, e = .returned (.tuple #[u, .int .i64 0]) ∧ w'.ownsRow w.heap.size 3 1 u N (xs.map (Value.int .i64)) ∧ Below w.heap.size w w') := by
    rw [hN, hxs]; exact split_ok x v h hx
  rw [← hxs] at hj hf hlen
  rw [← hN] at hlen
  clear hxs hN
  obtain ⟨hj1, hj2⟩ := hj
  have HJ : Hid (∀ u (w : World), Rd w 1 u N (xs.map (Value.int .i64)) → Calls Try.prog 24 #[u] w fun e w' => e = .returned (.tuple #[.int .u64 (W.cut v x), .int .i64 0]) ∧ w = w') := by
    intro u w hr; rw [← hj2]; have := join_any u N xs w hr; rw [hj1] at this; exact this
  have HF := Lib.hid hf; have HL := Lib.hid hlen
  clear hj1 hj2 hf hlen
  go_enter Try.func7, Try.ntmps7
  go_wp2_with (first | (go_at_call 33; refine (alive1 _).mono ?_; rintro e w1 ⟨rfl, hb1⟩; have HB1 := Lib.hid hb1; clear hb1) | (go_at_call 21; refine (HS.out _).mono ?_; rintro e w2 ⟨u, rfl, hown, hb2⟩; have hr := Rd.of_owns hown (by unfold maxLen; omega); have HB2 := Lib.hid hb2; have HR := Lib.hid hr; obtain ⟨_, _, a, cap, rfl, hcap, hcells⟩ := hr.ints; have HC := Lib.hid hcells; clear hb2 hown hr hcells))
  go_loop [8, 27] (fun _ i => ∃ k : Nat, k ≤ N ∧ i = .int .i64 k) (fun _ i => N - (intOf i).toNat)
  case atStart => exact ⟨0, Nat.zero_le _, rfl⟩
  case round =>
    obtain ⟨k, hk, rfl⟩ := hrel
    by_cases hlt : k < N
    · obtain ⟨b, off, rfl, hcell⟩ := HC.out (by omega)
      obtain ⟨D, hD⟩ : ∃ D, D = xs.getD k 0 := ⟨_, rfl⟩
      have hc : w2.cell? ⟨b, off + k, none⟩ = some (.int .i64 D) := by rw [hD]; exact hcell k hlt
      have hfd : W.fine D := by
        rw [hD]; exact HF.out _ (by simp [List.getD_eq_getElem?_getD, List.getElem?_eq_getElem (show k < xs.length by rw [HL.out]; exact hlt)])
      have g0 : ¬ D < 0 := by unfold W.fine at hfd; omega
      have g1 : ¬ 65535 < D := by unfold W.fine at hfd; omega
      clear hcell hD hfd
      go_wp2
      go_round
      case rel => exact ⟨k + 1, by omega, by go_num⟩
      case measure => simp [intOf]; omega
    · obtain rfl : k = N := by omega
      go_wp2_with (first | (go_at_call 24; refine (HJ.out _ _ HR.out).mono ?_; rintro e w' ⟨rfl, rfl⟩) | (go_at_call 36; refine (cut_ok _ _ h hx _).mono ?_; rintro e w' ⟨rfl, rfl⟩))
      go_ret
      exact ⟨rfl, Ext.trans HB1.out HB2.out⟩
theorem split_walk (x : Int) (hx : (Lit.int .u64 x).wf = true) (v : Int) (_ : (Lit.int .i64 v).wf = true) (w : World) :
    Calls Try.prog 7 #[.int .u64 x, .int .i64 v] w fun e w' => e = .returned (.bool true) ∧ Below w.heap.size w w' := by
  by_cases h : W.ok v
  · exact split_walk_ok x v h (W.U_wf hx) w
  · exact split_walk_no x v h w
end Go.Proofs.Ytgpjhbaehhjdhaa
