/- The reference's Words, by the carry chain: as contracts. Conditions: one to four words each; or not. -/
import Derived.Test.YtgpjhbaehhjdhaaN34
import Derived.Test.YtgpjhbaehhjdhaaN35
import Derived.Test.YtgpjhbaehhjdhaaL22
import Derived.Test.YtgpjhbaehhjdhaaN22
namespace Go.Proofs.Ytgpjhbaehhjdhaa
open Go.RowKit
set_option linter.unusedVariables false
set_option linter.unusedSimpArgs false
set_option maxRecDepth 100000

theorem sgnI_lt (z : Int) : decide (sgnI z < 0) = decide (z < 0) := by unfold sgnI; rw [decide_eq_decide]; split <;> (try split) <;> omega
theorem sgnI_eq (z : Int) : (sgnI z == 0) = (z == 0) := by
  unfold sgnI; rw [Bool.eq_iff_iff, beq_iff_eq, beq_iff_eq]; split <;> (try split) <;> omega
theorem cmpZ_ge (x y : Int) : decide (cmpZ x y ≥ 0) = decide (y ≤ x) := by unfold cmpZ; rw [decide_eq_decide]; split <;> (try split) <;> omega
theorem cmpZ_ne (x y : Int) : (cmpZ x y != 0) = decide (x ≠ y) := by
  unfold cmpZ; rw [Bool.eq_iff_iff, bne_iff_ne, decide_eq_true_eq]; split <;> (try split) <;> omega
theorem W.pw_le (m : Nat) (h : m ≤ 3) : (65536 : Int) ^ (m + 1) ≤ 18446744073709551616 := by
  have hm : m = 0 ∨ m = 1 ∨ m = 2 ∨ m = 3 := by omega
  rcases hm with rfl | rfl | rfl | rfl <;> decide
theorem W.sgn_bd (m : Nat) (X : Int) (h0 : 0 ≤ X) (h1 : X < 65536 ^ (m + 1)) : -(65536 ^ (m + 1)) ≤ W.sgn (16 * (m + 1)) X ∧ W.sgn (16 * (m + 1)) X < 65536 ^ (m + 1) := by
  have := W.p16 (m + 1)
  unfold W.sgn; rw [this]; split <;> omega
theorem W.dn_bd (k : Nat) (R : Int) (h0 : 0 ≤ R) (h1 : R < 18446744073709551616) : 0 ≤ W.dn k R ∧ W.dn k R < 18446744073709551616 := W.dn_U k R ⟨h0, h1⟩
theorem divin_p16 (m : Nat) (h : m ≤ 3) (Z : Int) (h0 : -(65536 ^ (m + 1)) ≤ Z) (h1 : Z < 2 * 65536 ^ (m + 1)) : DivIn Z.natAbs ((2 : Int) ^ (16 * (m + 1))).natAbs := by
  have e : ((2 : Int) ^ (16 * (m + 1))).natAbs = 65536 ^ (m + 1) := by rw [W.p16, Int.natAbs_pow]; rfl
  rw [e]
  have b3 : N.B ^ 3 = 79228162514264337593543950336 := by decide
  have b2 : N.B ^ 2 = 18446744073709551616 := by decide
  have b1 : N.B ^ 1 = 4294967296 := by decide
  have l3 : Z.natAbs < 79228162514264337593543950336 → N.ln Z.natAbs ≤ 28 := fun hh => Nat.le_trans (N.ln_le (b3 ▸ hh)) (by decide)
  have l2 : Z.natAbs < 18446744073709551616 → N.ln Z.natAbs ≤ 2 := fun hh => N.ln_le (b2 ▸ hh)
  have hm : m = 0 ∨ m = 1 ∨ m = 2 ∨ m = 3 := by omega
  rcases hm with rfl | rfl | rfl | rfl
  · simp only [Nat.zero_add, Nat.reduceAdd, Int.reducePow, Nat.reducePow] at h0 h1 ⊢
    exact ⟨by omega, l3 (by omega), .inr (.inr (.inl (N.ln_of (by decide) (.inr (by decide)))))⟩
  · simp only [Nat.zero_add, Nat.reduceAdd, Int.reducePow, Nat.reducePow] at h0 h1 ⊢
    exact ⟨by omega, l3 (by omega), .inr (.inr (.inr ⟨1, by omega, by omega, b1.symm⟩))⟩
  · simp only [Nat.zero_add, Nat.reduceAdd, Int.reducePow, Nat.reducePow] at h0 h1 ⊢
    exact ⟨by omega, l3 (by omega), .inr (.inl (l2 (by omega)))⟩
  · simp only [Nat.zero_add, Nat.reduceAdd, Int.reducePow, Nat.reducePow] at h0 h1 ⊢
    exact ⟨by omega, l3 (by omega), .inr (.inr (.inr ⟨2, by omega, by omega, b2.symm⟩))⟩
set_option maxHeartbeats 1000000 in
theorem refAdd_ok (ba oa ca bb ob cb n : Nat) (xs ys : List Int) (hx : xs.length = n) (hy : ys.length = n) (h1 : 1 ≤ n) (h4 : n ≤ 4) (w : World)
    (ha : ∀ j, j < n → w.cell? ⟨ba, oa + j, none⟩ = some (.int .i64 (xs.getD j 0))) (hb : ∀ j, j < n → w.cell? ⟨bb, ob + j, none⟩ = some (.int .i64 (ys.getD j 0))) :
    Calls Try.prog 31 #[.slice (some ⟨ba, oa, none⟩) n ca, .slice (some ⟨bb, ob, none⟩) n cb, .bool true] w fun e w' => ∃ l, e = .returned (.tuple #[l, .agg #[.bool (W.cC W.addS xs ys n), .bool (W.cZ W.addS xs ys n), .bool (W.cN W.addS xs ys n), .bool (W.cV W.addS xs ys n)], .int .i64 0]) ∧ w'.ownsRow w.heap.size 3 1 l n ((W.cO W.addS xs ys n).map (Value.int .i64)) ∧ Below w.heap.size w w' := by
  obtain ⟨m, rfl⟩ : ∃ m, n = m + 1 := ⟨n - 1, by omega⟩
  have hm : m ≤ 3 := by omega
  have bx := W.number_lt xs; have byy := W.number_lt ys
  rw [hx] at bx; rw [hy] at byy
  have up := W.pw_le m hm
  obtain ⟨hC, hZ, hN, hV, hO⟩ := W.chain_add m xs ys hx hy
  rw [hC, hZ, hN, hV, hO]
  clear hC hZ hN hV hO
  have ax := fun (w1 : World) (hw : Below w.heap.size w w1) => refNumber_some ba oa (m + 1) ca xs hx h1 h4 w1 (fun j hj => by rw [Below.cell hw (World.block_lt_of_cell? w ⟨ba, oa + j, none⟩ (ha j hj))]; exact ha j hj)
  have ay := fun (w1 : World) (hw : Below w.heap.size w w1) => refNumber_some bb ob (m + 1) cb ys hy h1 h4 w1 (fun j hj => by rw [Below.cell hw (World.block_lt_of_cell? w ⟨bb, ob + j, none⟩ (hb j hj))]; exact hb j hj)
  generalize W.number xs = X at *; generalize W.number ys = Y at *
  have hQ := W.pw_pos (m + 1)
  have hR0 : 0 ≤ (X + Y) % 65536 ^ (m + 1) ∧ (X + Y) % 65536 ^ (m + 1) < 65536 ^ (m + 1) := ⟨Int.emod_nonneg _ (by omega), Int.emod_lt_of_pos _ hQ⟩
  have hS : ∀ z : Int, -73786976294838206464 ≤ z → z ≤ 73786976294838206464 → Sm z.natAbs := fun z a b => Sm.of_lt (by have : N.B ^ 30 = 4294967296 ^ 30 := rfl; rw [this]; exact Nat.lt_of_le_of_lt (show z.natAbs ≤ 73786976294838206464 by omega) (by decide))
  have gX := W.sgn_bd m X bx.1 bx.2; have gY := W.sgn_bd m Y byy.1 byy.2
  have e16 : (2 : Int) ^ (16 * (m + 1)) = 65536 ^ (m + 1) := W.p16 (m + 1)
  refine (words_add ba oa ca bb ob cb (m + 1) X Y (X + Y) (W.sgn (16 * (m + 1)) X + W.sgn (16 * (m + 1)) Y) ((X + Y) % 65536 ^ (m + 1)) (16 * ((m + 1 : Nat) : Int)) (16 * ((m + 1 : Nat) : Int) - 1) (W.sgn (16 * (m + 1)) X) (W.sgn (16 * (m + 1)) Y) (W.sgn (16 * (m + 1)) ((X + Y) % 65536 ^ (m + 1))) (sgnI (X + Y)) (sgnI ((X + Y) % 65536 ^ (m + 1)))
    (decide (X + Y < 0)) (decide (2 ^ (16 * (m + 1)) ≤ X + Y)) ((X + Y) % 65536 ^ (m + 1) == 0) (decide (2 ^ (16 * (m + 1) - 1) ≤ (X + Y) % 65536 ^ (m + 1))) (decide (W.sgn (16 * (m + 1)) ((X + Y) % 65536 ^ (m + 1)) ≠ W.sgn (16 * (m + 1)) X + W.sgn (16 * (m + 1)) Y))
    (sgnI_lt _) (sgnI_eq _) rfl (by omega) (by omega) h1 h4 rfl w ax ay
    (fun w g g1 g2 a b c => intAdd_ok g g1 g2 0 X Y (hS _ (by omega) (by omega)) (hS _ (by omega) (by omega)) w a b c)
    (fun w g c a b => refSign_ok g c (16 * (m + 1)) X _ (by omega) (by omega) (by omega) bx.1 (by omega) w a b)
    (fun w g c a b => refSign_ok g c (16 * (m + 1)) Y _ (by omega) (by omega) (by omega) byy.1 (by omega) w a b)
    (fun w g g1 g2 a b c => intAdd_ok g g1 g2 0 _ _ (hS _ (by omega) (by omega)) (hS _ (by omega) (by omega)) w a b c)
    (fun w => two_ok (16 * (m + 1)) (by omega) _ (by omega) w)
    (fun w => two_ok (16 * (m + 1) - 1) (by omega) _ (by omega) w)
    (fun w g a => sign_ok g _ w a) (fun w g a => sign_ok g _ w a)
    (fun w g g2 a b => (intCmp_ok g g2 _ _ w a b).mono fun e w' h => ⟨_, cmpZ_ge _ _, h.1, h.2⟩)
    (fun w g g2 a b => (intCmp_ok g g2 _ _ w a b).mono fun e w' h => ⟨_, cmpZ_ge _ _, h.1, h.2⟩)
    (fun w g c a b => refSign_ok g c (16 * (m + 1)) _ _ (by omega) (by omega) (by omega) hR0.1 (by omega) w a b)
    (fun w g g2 a b => (intCmp_ok g g2 _ _ w a b).mono fun e w' h => ⟨_, cmpZ_ne _ _, h.1, h.2⟩)
    (fun k hk w g gr a b => by
      have := rsh_ok g gr 0 ((X + Y) % 65536 ^ (m + 1)) (16 * k) (by omega) hR0.1 (hS _ (by omega) (by omega)) w a b (16 * (k : Int)) (by omega)
      rw [W.p16] at this; exact this)
    (fun w => two_ok 16 (by omega) 16 rfl w)
    (fun k w g g2 a b => by
      have hd := W.dn_bd k _ hR0.1 (show _ < 18446744073709551616 by omega)
      exact mod_ok g g g2 _ _ 65536 (by omega) (Sm.of_lt (by decide)) (divin_16 _ (N.ln_64 hd.1 hd.2)) w a a b)
    (fun k w g a => int64_ok g _ (by omega) (by omega) w a)
    (fun w g g1 g2 a b c => by
      have := mod_ok g g1 g2 0 (X + Y) (2 ^ (16 * (m + 1))) (by rw [e16]; exact hQ) (by rw [e16]; exact hS _ (by omega) (by omega)) (divin_p16 m hm _ (by omega) (by omega)) w a b c
      rw [e16] at this; exact this)).mono fun e w' h => h
set_option maxHeartbeats 1000000 in
theorem refSub_ok (ba oa ca bb ob cb n : Nat) (xs ys : List Int) (hx : xs.length = n) (hy : ys.length = n) (h1 : 1 ≤ n) (h4 : n ≤ 4) (w : World)
    (ha : ∀ j, j < n → w.cell? ⟨ba, oa + j, none⟩ = some (.int .i64 (xs.getD j 0))) (hb : ∀ j, j < n → w.cell? ⟨bb, ob + j, none⟩ = some (.int .i64 (ys.getD j 0))) :
    Calls Try.prog 31 #[.slice (some ⟨ba, oa, none⟩) n ca, .slice (some ⟨bb, ob, none⟩) n cb, .bool false] w fun e w' => ∃ l, e = .returned (.tuple #[l, .agg #[.bool (W.cC W.subS xs ys n), .bool (W.cZ W.subS xs ys n), .bool (W.cN W.subS xs ys n), .bool (W.cV W.subS xs ys n)], .int .i64 0]) ∧ w'.ownsRow w.heap.size 3 1 l n ((W.cO W.subS xs ys n).map (Value.int .i64)) ∧ Below w.heap.size w w' := by
  obtain ⟨m, rfl⟩ : ∃ m, n = m + 1 := ⟨n - 1, by omega⟩
  have hm : m ≤ 3 := by omega
  have bx := W.number_lt xs; have byy := W.number_lt ys
  rw [hx] at bx; rw [hy] at byy
  have up := W.pw_le m hm
  obtain ⟨hC, hZ, hN, hV, hO⟩ := W.chain_sub m xs ys hx hy
  rw [hC, hZ, hN, hV, hO]
  clear hC hZ hN hV hO
  have ax := fun (w1 : World) (hw : Below w.heap.size w w1) => refNumber_some ba oa (m + 1) ca xs hx h1 h4 w1 (fun j hj => by rw [Below.cell hw (World.block_lt_of_cell? w ⟨ba, oa + j, none⟩ (ha j hj))]; exact ha j hj)
  have ay := fun (w1 : World) (hw : Below w.heap.size w w1) => refNumber_some bb ob (m + 1) cb ys hy h1 h4 w1 (fun j hj => by rw [Below.cell hw (World.block_lt_of_cell? w ⟨bb, ob + j, none⟩ (hb j hj))]; exact hb j hj)
  generalize W.number xs = X at *; generalize W.number ys = Y at *
  have hQ := W.pw_pos (m + 1)
  have hR0 : 0 ≤ (X - Y) % 65536 ^ (m + 1) ∧ (X - Y) % 65536 ^ (m + 1) < 65536 ^ (m + 1) := ⟨Int.emod_nonneg _ (by omega), Int.emod_lt_of_pos _ hQ⟩
  have hS : ∀ z : Int, -73786976294838206464 ≤ z → z ≤ 73786976294838206464 → Sm z.natAbs := fun z a b => Sm.of_lt (by have : N.B ^ 30 = 4294967296 ^ 30 := rfl; rw [this]; exact Nat.lt_of_le_of_lt (show z.natAbs ≤ 73786976294838206464 by omega) (by decide))
  have gX := W.sgn_bd m X bx.1 bx.2; have gY := W.sgn_bd m Y byy.1 byy.2
  have e16 : (2 : Int) ^ (16 * (m + 1)) = 65536 ^ (m + 1) := W.p16 (m + 1)
  refine (words_sub ba oa ca bb ob cb (m + 1) X Y (X - Y) (W.sgn (16 * (m + 1)) X - W.sgn (16 * (m + 1)) Y) ((X - Y) % 65536 ^ (m + 1)) (16 * ((m + 1 : Nat) : Int)) (16 * ((m + 1 : Nat) : Int) - 1) (W.sgn (16 * (m + 1)) X) (W.sgn (16 * (m + 1)) Y) (W.sgn (16 * (m + 1)) ((X - Y) % 65536 ^ (m + 1))) (sgnI (X - Y)) (sgnI ((X - Y) % 65536 ^ (m + 1)))
    (decide (X - Y < 0)) (decide (2 ^ (16 * (m + 1)) ≤ X - Y)) ((X - Y) % 65536 ^ (m + 1) == 0) (decide (2 ^ (16 * (m + 1) - 1) ≤ (X - Y) % 65536 ^ (m + 1))) (decide (W.sgn (16 * (m + 1)) ((X - Y) % 65536 ^ (m + 1)) ≠ W.sgn (16 * (m + 1)) X - W.sgn (16 * (m + 1)) Y))
    (sgnI_lt _) (sgnI_eq _) rfl (by omega) (by omega) h1 h4 rfl w ax ay
    (fun w g g1 g2 a b c => intSub_ok g g1 g2 0 X Y (hS _ (by omega) (by omega)) (hS _ (by omega) (by omega)) w a b c)
    (fun w g c a b => refSign_ok g c (16 * (m + 1)) X _ (by omega) (by omega) (by omega) bx.1 (by omega) w a b)
    (fun w g c a b => refSign_ok g c (16 * (m + 1)) Y _ (by omega) (by omega) (by omega) byy.1 (by omega) w a b)
    (fun w g g1 g2 a b c => intSub_ok g g1 g2 0 _ _ (hS _ (by omega) (by omega)) (hS _ (by omega) (by omega)) w a b c)
    (fun w => two_ok (16 * (m + 1)) (by omega) _ (by omega) w)
    (fun w => two_ok (16 * (m + 1) - 1) (by omega) _ (by omega) w)
    (fun w g a => sign_ok g _ w a) (fun w g a => sign_ok g _ w a)
    (fun w g g2 a b => (intCmp_ok g g2 _ _ w a b).mono fun e w' h => ⟨_, cmpZ_ge _ _, h.1, h.2⟩)
    (fun w g g2 a b => (intCmp_ok g g2 _ _ w a b).mono fun e w' h => ⟨_, cmpZ_ge _ _, h.1, h.2⟩)
    (fun w g c a b => refSign_ok g c (16 * (m + 1)) _ _ (by omega) (by omega) (by omega) hR0.1 (by omega) w a b)
    (fun w g g2 a b => (intCmp_ok g g2 _ _ w a b).mono fun e w' h => ⟨_, cmpZ_ne _ _, h.1, h.2⟩)
    (fun k hk w g gr a b => by
      have := rsh_ok g gr 0 ((X - Y) % 65536 ^ (m + 1)) (16 * k) (by omega) hR0.1 (hS _ (by omega) (by omega)) w a b (16 * (k : Int)) (by omega)
      rw [W.p16] at this; exact this)
    (fun w => two_ok 16 (by omega) 16 rfl w)
    (fun k w g g2 a b => by
      have hd := W.dn_bd k _ hR0.1 (show _ < 18446744073709551616 by omega)
      exact mod_ok g g g2 _ _ 65536 (by omega) (Sm.of_lt (by decide)) (divin_16 _ (N.ln_64 hd.1 hd.2)) w a a b)
    (fun k w g a => int64_ok g _ (by omega) (by omega) w a)
    (fun w g g1 g2 a b c => by
      have := mod_ok g g1 g2 0 (X - Y) (2 ^ (16 * (m + 1))) (by rw [e16]; exact hQ) (by rw [e16]; exact hS _ (by omega) (by omega)) (divin_p16 m hm _ (by omega) (by omega)) w a b c
      rw [e16] at this; exact this)).mono fun e w' h => h
set_option maxHeartbeats 1000000 in
theorem refWords_no (a b : Option Addr) (n m ca cb : Nat) (t : Bool) (hn : n ≤ maxLen) (hm : m ≤ maxLen) (h : n ≠ m ∨ n < 1 ∨ 4 < n) (w : World) :
    Calls Try.prog 31 #[.slice a n ca, .slice b m cb, .bool t] w fun e w' => e = .returned (.tuple #[.slice none 0 0, .agg #[.bool false, .bool false, .bool false, .bool false], .int .i64 5]) ∧ Below w.heap.size w w' := by
  go_enter Try.func31, Try.ntmps31
  go_wp2
  all_goals exact bodyPost_ret (v := .tuple #[.slice none 0 0, .agg #[.bool false, .bool false, .bool false, .bool false], .int .i64 5]) (by simp [results, Try.results31, go_sem]) rfl ⟨rfl, by repeat (first | exact Below.refl _ _ | refine Ext.setCell ?_ (by simp) _ | refine Ext.alloc ?_ _)⟩
end Go.Proofs.Ytgpjhbaehhjdhaa
