/- Binary and Unary on both sides: the same, and within the type's bounds. No condition. -/
import Derived.Test.YthdckndjggljpaaO6m
namespace Go.Proofs.Ythdckndjggljpaa
open Go.RowKit
set_option linter.unusedVariables false
set_option linter.unusedSimpArgs false
set_option maxRecDepth 100000
theorem W.rng (x T : Int) : 0 ≤ x % W.md T ∧ x % W.md T < W.md T := ⟨W.mod_lo _ _, W.mod_hi _ _⟩
theorem W.quo_rng (T : Int) (s : Bool) (a b : Int) : 0 ≤ W.quo T s a b ∧ W.quo T s a b < W.md T := by
  unfold W.quo
  split
  · exact W.rng _ _
  · have h1 := W.rng a T; have h2 := W.rng b T
    have h3 : a % W.md T / (b % W.md T) ≤ a % W.md T := Int.ediv_le_self _ h1.1
    exact ⟨Int.ediv_nonneg h1.1 h2.1, by omega⟩
theorem W.rem_rng (T : Int) (s : Bool) (a b : Int) : 0 ≤ W.rem T s a b ∧ W.rem T s a b < W.md T := by
  unfold W.rem
  split
  · exact W.rng _ _
  · have h1 := W.rng a T; have h2 := W.rng b T
    rcases Int.lt_or_le 0 (b % W.md T) with h3 | h3
    · have h4 := Int.emod_lt_of_pos (a % W.md T) h3
      exact ⟨Int.emod_nonneg _ (by omega), by omega⟩
    · have : b % W.md T = 0 := by omega
      rw [this, Int.emod_zero]; exact h1
theorem W.shr_rng (T : Int) (s : Bool) (a n : Int) : 0 ≤ W.shr T s a n ∧ W.shr T s a n < W.md T := by
  unfold W.shr
  split
  · exact W.rng _ _
  · have h1 := W.rng a T
    have h2 : (0 : Int) < 2 ^ min n.toNat 64 := Int.pow_pos (by decide)
    have h3 : a % W.md T / 2 ^ min n.toNat 64 ≤ a % W.md T := Int.ediv_le_self _ h1.1
    exact ⟨Int.ediv_nonneg h1.1 (by omega), by omega⟩
theorem W.bit_rng (T : Int) (h : W.ok T) (x : Nat) (hx : x < 2 ^ (T.toNat)) : (0 : Int) ≤ (x : Int) ∧ (x : Int) < W.md T := by
  rcases h with rfl | rfl | rfl | rfl <;> simp [W.md] at hx ⊢ <;> omega
theorem W.nat_lt (T : Int) (h : W.ok T) (x : Nat) (hx : (x : Int) < W.md T) : x < 2 ^ (T.toNat) := by
  rcases h with rfl | rfl | rfl | rfl <;> simp [W.md] at hx ⊢ <;> omega
theorem W.one_rng (T : Int) (h : W.ok T) (z : Bool) : (0 : Int) ≤ (if z then 1 else 0) ∧ (if z then 1 else 0) < W.md T := by
  have : 2 ≤ W.md T := by rcases h with rfl | rfl | rfl | rfl <;> decide
  cases z <;> simp <;> omega
theorem W.conv_rng (fb : Int) (fs : Bool) (T x : Int) : 0 ≤ W.conv fb fs T x ∧ W.conv fb fs T x < W.md T := W.rng _ _
/-- Both give the same, within bounds. -/
def Both3 (f g : Nat) (args : Array Value) (G : Prop) (T : Int) : Prop := ∃ r e : Int, Gives f args (.tuple #[.int .u64 r, .int .i64 e]) ∧ Gives g args (.tuple #[.int .u64 r, .int .i64 e]) ∧ (e = 0 → G ∧ 0 ≤ r ∧ r < W.md T)
theorem W.rb_cb {k a b : Int} (h : ¬ (k = 14 ∨ k = 15) ∧ ¬ (16 ≤ k ∧ k ≤ 21)) : W.rb k a b = W.cb a b := by unfold W.rb; rw [if_neg h.1, if_neg h.2]
theorem W.rb_pb {k a b : Int} (h : k = 14 ∨ k = 15) : W.rb k a b = W.pb a := by unfold W.rb; rw [if_pos h]
theorem both_bin3 (k a b xb yb : Int) (xs ys : Bool) (ha : W.U a) (hb : W.U b) : Both3 46 46 #[.int .i64 k, .int .u64 a, .int .u64 b, W.ty xb xs, W.ty yb ys] (W.ok xb ∧ W.ok yb) (W.rb k xb yb) := by
  have VX : Hid (Gives 38 #[W.ty xb xs] (.bool (W.okB xb))) := valid_any xb xs
  have VY : Hid (Gives 38 #[W.ty yb ys] (.bool (W.okB yb))) := valid_any yb ys
  by_cases hbad : W.okB xb = false ∨ W.okB yb = false ∨ k < 9 ∨ 24 < k
  · exact ⟨0, 1, fun w => binary_bad k a b xb yb xs ys _ _ hbad VX VY w, fun w => binary_bad k a b xb yb xs ys _ _ hbad VX VY w, fun h => absurd h (by decide)⟩
  have hx1 : W.okB xb = true := Classical.byContradiction fun h => hbad (.inl (by simpa using h))
  have hy1 : W.okB yb = true := Classical.byContradiction fun h => hbad (.inr (.inl (by simpa using h)))
  have hx : W.ok xb := Classical.byContradiction fun h => by rw [W.okB_f h] at hx1; cases hx1
  have hy : W.ok yb := Classical.byContradiction fun h => by rw [W.okB_f h] at hy1; cases hy1
  have hk9 : 9 ≤ k ∧ k ≤ 24 := ⟨Classical.byContradiction fun h => hbad (.inr (.inr (.inl (by omega)))), Classical.byContradiction fun h => hbad (.inr (.inr (.inr (by omega))))⟩
  rw [hx1] at VX; rw [hy1] at VY
  have o16 : W.ok 16 := by simp [W.ok]
  have hT := W.pb_ok hx
  have hC := W.cb_ok hx hy
  have UP := W.conv_U xb xs (W.cb xb yb) a
  have UQ := W.conv_U yb ys (W.cb xb yb) b
  obtain ⟨T, hTd⟩ : ∃ T, T = W.cb xb yb := ⟨_, rfl⟩
  obtain ⟨S, hSd⟩ : ∃ S, S = W.cs xb xs yb ys := ⟨_, rfl⟩
  obtain ⟨p, hpd⟩ : ∃ p, p = W.conv xb xs T a := ⟨_, rfl⟩
  obtain ⟨q, hqd⟩ : ∃ q, q = W.conv yb ys T b := ⟨_, rfl⟩
  rw [← hTd] at UP UQ hC
  rw [← hpd] at UP; rw [← hqd] at UQ
  have CMP : ∀ (j : Int) (z : Bool), W.cmp j (W.less T S p q) (W.less T S q p) = z →
      (∀ w : World, Calls Try.prog 46 #[.int .i64 j, .int .u64 a, .int .u64 b, W.ty xb xs, W.ty yb ys] w fun e w' => e = .returned (.tuple #[.int .u64 (if W.cmp j (W.less T S p q) (W.less T S q p) then 1 else 0), .int .i64 0]) ∧ Below w.heap.size w w') →
      Both3 46 46 #[.int .i64 j, .int .u64 a, .int .u64 b, W.ty xb xs, W.ty yb ys] (W.ok xb ∧ W.ok yb) 16 := fun j z hz h1 => by
    rw [hz] at h1; exact ⟨_, _, h1, h1, fun _ => ⟨⟨hx, hy⟩, W.one_rng 16 o16 z⟩⟩
  rcases (show k = 9 ∨ k = 10 ∨ k = 11 ∨ k = 12 ∨ k = 13 ∨ k = 14 ∨ k = 15 ∨ k = 16 ∨ k = 17 ∨ k = 18 ∨ k = 19 ∨ k = 20 ∨ k = 21 ∨ k = 22 ∨ k = 23 ∨ k = 24 by omega) with rfl | rfl | rfl | rfl | rfl | rfl | rfl | rfl | rfl | rfl | rfl | rfl | rfl | rfl | rfl | rfl
  · exact ⟨_, _, fun w => binary_mul a b xb yb T xs ys S hx hy hC hTd.symm hSd.symm ha hb p q hpd.symm hqd.symm w, fun w => binary_mul a b xb yb T xs ys S hx hy hC hTd.symm hSd.symm ha hb p q hpd.symm hqd.symm w, fun _ => ⟨⟨hx, hy⟩, by rw [W.rb_cb (by decide), ← hTd]; exact W.rng _ _⟩⟩
  · by_cases hz : q % W.md T = 0
    · exact ⟨_, _, fun w => binary_div0 a b xb yb T xs ys S hx hy hC hTd.symm hSd.symm ha hb p q hpd.symm hqd.symm hz w, fun w => binary_div0 a b xb yb T xs ys S hx hy hC hTd.symm hSd.symm ha hb p q hpd.symm hqd.symm hz w, fun h => absurd h (by decide)⟩
    · exact ⟨_, _, fun w => binary_div a b xb yb T xs ys S hx hy hC hTd.symm hSd.symm ha hb p q hpd.symm hqd.symm hz w, fun w => binary_div a b xb yb T xs ys S hx hy hC hTd.symm hSd.symm ha hb p q hpd.symm hqd.symm hz w, fun _ => ⟨⟨hx, hy⟩, by rw [W.rb_cb (by decide), ← hTd]; exact W.quo_rng _ _ _ _⟩⟩
  · by_cases hz : q % W.md T = 0
    · exact ⟨_, _, fun w => binary_rem0 a b xb yb T xs ys S hx hy hC hTd.symm hSd.symm ha hb p q hpd.symm hqd.symm hz w, fun w => binary_rem0 a b xb yb T xs ys S hx hy hC hTd.symm hSd.symm ha hb p q hpd.symm hqd.symm hz w, fun h => absurd h (by decide)⟩
    · exact ⟨_, _, fun w => binary_rem a b xb yb T xs ys S hx hy hC hTd.symm hSd.symm ha hb p q hpd.symm hqd.symm hz w, fun w => binary_rem a b xb yb T xs ys S hx hy hC hTd.symm hSd.symm ha hb p q hpd.symm hqd.symm hz w, fun _ => ⟨⟨hx, hy⟩, by rw [W.rb_cb (by decide), ← hTd]; exact W.rem_rng _ _ _ _⟩⟩
  · exact ⟨_, _, fun w => binary_add a b xb yb T xs ys S hx hy hC hTd.symm hSd.symm ha hb p q hpd.symm hqd.symm w, fun w => binary_add a b xb yb T xs ys S hx hy hC hTd.symm hSd.symm ha hb p q hpd.symm hqd.symm w, fun _ => ⟨⟨hx, hy⟩, by rw [W.rb_cb (by decide), ← hTd]; exact W.rng _ _⟩⟩
  · exact ⟨_, _, fun w => binary_sub a b xb yb T xs ys S hx hy hC hTd.symm hSd.symm ha hb p q hpd.symm hqd.symm w, fun w => binary_sub a b xb yb T xs ys S hx hy hC hTd.symm hSd.symm ha hb p q hpd.symm hqd.symm w, fun _ => ⟨⟨hx, hy⟩, by rw [W.rb_cb (by decide), ← hTd]; exact W.rng _ _⟩⟩
  · have UA := W.conv_U xb xs (W.pb xb) a; have UN := W.conv_U yb ys 16 b
    exact ⟨_, _, fun w => binary_shift 14 a b xb yb (W.pb xb) _ _ _ xs ys (W.ps xb xs) (.inl rfl) VX VY (fun w => promote_ok xb xs w) (fun w => convert_ok a xb (W.pb xb) xs (W.ps xb xs) hx hT ha w) (fun w => convert_ok b yb 16 ys false hy o16 hb w)
        (fun _ w => (shl_ok _ _ (W.pb xb) hT UA UN.1 w).mono fun e w' ⟨h1, h2⟩ => ⟨h1, by rw [h2]; exact Ext.alloc (Below.refl _ _) _⟩) (fun h => by cases h) w, fun w => binary_shift 14 a b xb yb (W.pb xb) _ _ _ xs ys (W.ps xb xs) (.inl rfl) VX VY (fun w => promote_ok xb xs w) (fun w => convert_ok a xb (W.pb xb) xs (W.ps xb xs) hx hT ha w) (fun w => convert_ok b yb 16 ys false hy o16 hb w)
        (fun _ w => (shl_ok _ _ (W.pb xb) hT UA UN.1 w).mono fun e w' ⟨h1, h2⟩ => ⟨h1, by rw [h2]; exact Ext.alloc (Below.refl _ _) _⟩) (fun h => by cases h) w, fun _ => ⟨⟨hx, hy⟩, by rw [W.rb_pb (by decide)]; exact W.rng _ _⟩⟩
  · have UA := W.conv_U xb xs (W.pb xb) a; have UN := W.conv_U yb ys 16 b
    exact ⟨_, _, fun w => binary_shift 15 a b xb yb (W.pb xb) _ _ _ xs ys (W.ps xb xs) (.inr rfl) VX VY (fun w => promote_ok xb xs w) (fun w => convert_ok a xb (W.pb xb) xs (W.ps xb xs) hx hT ha w) (fun w => convert_ok b yb 16 ys false hy o16 hb w)
        (fun h => by cases h) (fun _ w => (shr_any _ _ (W.pb xb) (W.ps xb xs) hT UA UN.1 w).mono fun e w' ⟨h1, h2⟩ => ⟨h1, h2 ▸ Below.refl _ _⟩) w, fun w => binary_shift 15 a b xb yb (W.pb xb) _ _ _ xs ys (W.ps xb xs) (.inr rfl) VX VY (fun w => promote_ok xb xs w) (fun w => convert_ok a xb (W.pb xb) xs (W.ps xb xs) hx hT ha w) (fun w => convert_ok b yb 16 ys false hy o16 hb w)
        (fun h => by cases h) (fun _ w => (shr_any _ _ (W.pb xb) (W.ps xb xs) hT UA UN.1 w).mono fun e w' ⟨h1, h2⟩ => ⟨h1, h2 ▸ Below.refl _ _⟩) w, fun _ => ⟨⟨hx, hy⟩, by rw [W.rb_pb (by decide)]; exact W.shr_rng _ _ _ _⟩⟩
  · exact CMP 16 _ rfl (fun w => binary_cmp16 a b xb yb T xs ys S hx hy hC hTd.symm hSd.symm ha hb p q hpd.symm hqd.symm w)
  · exact CMP 17 _ rfl (fun w => binary_cmp17 a b xb yb T xs ys S hx hy hC hTd.symm hSd.symm ha hb p q hpd.symm hqd.symm w)
  · exact CMP 18 _ rfl (fun w => binary_cmp18 a b xb yb T xs ys S hx hy hC hTd.symm hSd.symm ha hb p q hpd.symm hqd.symm w)
  · exact CMP 19 _ rfl (fun w => binary_cmp19 a b xb yb T xs ys S hx hy hC hTd.symm hSd.symm ha hb p q hpd.symm hqd.symm w)
  · exact CMP 20 _ rfl (fun w => binary_cmp20 a b xb yb T xs ys S hx hy hC hTd.symm hSd.symm ha hb p q hpd.symm hqd.symm w)
  · exact CMP 21 _ rfl (fun w => binary_cmp21 a b xb yb T xs ys S hx hy hC hTd.symm hSd.symm ha hb p q hpd.symm hqd.symm w)
  · obtain ⟨p', rfl⟩ := Int.eq_ofNat_of_zero_le UP.1
    obtain ⟨q', rfl⟩ := Int.eq_ofNat_of_zero_le UQ.1
    have e := u64_and (p' : Int) (q' : Int) UP.1 UP.2 UQ.1 UQ.2
    exact ⟨_, _, fun w => binary_and a b xb yb T xs ys S hx hy hC hTd.symm hSd.symm ha hb _ _ hpd.symm hqd.symm w, fun w => binary_and a b xb yb T xs ys S hx hy hC hTd.symm hSd.symm ha hb _ _ hpd.symm hqd.symm w, fun _ => ⟨⟨hx, hy⟩, by rw [W.rb_cb (by decide), ← hTd, e]; exact W.bit_rng T hC _ (Nat.and_lt_two_pow _ (W.nat_lt T hC q' (hqd ▸ W.mod_hi _ _)))⟩⟩
  · obtain ⟨p', rfl⟩ := Int.eq_ofNat_of_zero_le UP.1
    obtain ⟨q', rfl⟩ := Int.eq_ofNat_of_zero_le UQ.1
    have e := u64_xor (p' : Int) (q' : Int) UP.1 UP.2 UQ.1 UQ.2
    exact ⟨_, _, fun w => binary_xor a b xb yb T xs ys S hx hy hC hTd.symm hSd.symm ha hb _ _ hpd.symm hqd.symm w, fun w => binary_xor a b xb yb T xs ys S hx hy hC hTd.symm hSd.symm ha hb _ _ hpd.symm hqd.symm w, fun _ => ⟨⟨hx, hy⟩, by rw [W.rb_cb (by decide), ← hTd, e]; exact W.bit_rng T hC _ (Nat.xor_lt_two_pow (W.nat_lt T hC p' (hpd ▸ W.mod_hi _ _)) (W.nat_lt T hC q' (hqd ▸ W.mod_hi _ _)))⟩⟩
  · obtain ⟨p', rfl⟩ := Int.eq_ofNat_of_zero_le UP.1
    obtain ⟨q', rfl⟩ := Int.eq_ofNat_of_zero_le UQ.1
    have e := u64_or (p' : Int) (q' : Int) UP.1 UP.2 UQ.1 UQ.2
    exact ⟨_, _, fun w => binary_or a b xb yb T xs ys S hx hy hC hTd.symm hSd.symm ha hb _ _ hpd.symm hqd.symm w, fun w => binary_or a b xb yb T xs ys S hx hy hC hTd.symm hSd.symm ha hb _ _ hpd.symm hqd.symm w, fun _ => ⟨⟨hx, hy⟩, by rw [W.rb_cb (by decide), ← hTd, e]; exact W.bit_rng T hC _ (Nat.or_lt_two_pow (W.nat_lt T hC p' (hpd ▸ W.mod_hi _ _)) (W.nat_lt T hC q' (hqd ▸ W.mod_hi _ _)))⟩⟩

def BothU3 (k a xb : Int) (xs : Bool) : Prop := ∃ (r b : Int) (s : Bool) (e : Int), (∀ w : World, Calls Try.prog 45 #[.int .i64 k, .int .u64 a, W.ty xb xs] w (UnR r b s e w)) ∧ (∀ w : World, Calls Try.prog 45 #[.int .i64 k, .int .u64 a, W.ty xb xs] w (UnR r b s e w)) ∧ (e = 0 → W.ok xb ∧ W.ok b ∧ 0 ≤ r ∧ r < W.md b) ∧ (k = 6 → W.ok xb → r = W.sub (W.pb xb) 0 (W.conv xb xs (W.pb xb) a) ∧ b = W.pb xb ∧ s = W.ps xb xs ∧ e = 0)
theorem both_un3 (k a xb : Int) (xs : Bool) (ha : W.U a) : BothU3 k a xb xs := by
  by_cases hx : ¬ W.ok xb
  · have e := W.okB_f hx
    exact ⟨0, 0, false, 1, fun w => unary_bad k a xb xs (fun w => by rw [← e]; exact valid_any xb xs w) w, fun w => unary_bad k a xb xs (fun w => by rw [← e]; exact valid_any xb xs w) w, fun h => absurd h (by decide), fun _ h => absurd h hx⟩
  have hx : W.ok xb := Classical.byContradiction hx
  have e := W.okB_t hx
  have VX : Hid (Gives 38 #[W.ty xb xs] (.bool true)) := fun w => by rw [← e]; exact valid_any xb xs w
  have hT := W.pb_ok hx
  have NP : Hid (Gives 61 #[W.ty xb xs] (W.ty (W.pb xb) (W.ps xb xs))) := fun w => promote_ok xb xs w
  have NC : Hid (Gives 44 #[.int .u64 a, W.ty xb xs, W.ty (W.pb xb) (W.ps xb xs)] (.int .u64 (W.conv xb xs (W.pb xb) a))) := fun w => convert_ok a xb (W.pb xb) xs (W.ps xb xs) hx hT ha w
  have UC := W.conv_U xb xs (W.pb xb) a
  by_cases h6 : k = 6
  · subst h6
    refine ⟨_, _, _, _, fun w => unary_neg a xb (W.pb xb) _ _ xs (W.ps xb xs) hT UC rfl VX NP NC w, fun w => unary_neg a xb (W.pb xb) _ _ xs (W.ps xb xs) hT UC rfl VX NP NC w, fun _ => ⟨hx, hT, W.rng _ _⟩, fun _ _ => ⟨rfl, rfl, rfl, rfl⟩⟩
  by_cases h7 : k = 7
  · subst h7
    refine ⟨_, _, _, _, fun w => unary_not a xb (W.pb xb) _ _ xs (W.ps xb xs) hT UC rfl VX NP NC w, fun w => unary_not a xb (W.pb xb) _ _ xs (W.ps xb xs) hT UC rfl VX NP NC w, fun _ => ⟨hx, hT, W.rng _ _⟩, fun h => by omega⟩
  by_cases h8 : k = 8
  · subst h8
    exact ⟨_, _, _, _, fun w => unary_log a xb (W.pb xb) _ xs (W.ps xb xs) _ rfl VX NP NC w, fun w => unary_log a xb (W.pb xb) _ xs (W.ps xb xs) _ rfl VX NP NC w, fun _ => ⟨hx, by simp [W.ok], W.one_rng 16 (by simp [W.ok]) _⟩, fun h => by omega⟩
  · exact ⟨_, _, _, _, fun w => unary_else k a xb (W.pb xb) _ xs (W.ps xb xs) (by simpa using h6) (by simpa using h7) (by simpa using h8) VX NP NC w, fun w => unary_else k a xb (W.pb xb) _ xs (W.ps xb xs) (by simpa using h6) (by simpa using h7) (by simpa using h8) VX NP NC w, fun h => absurd h (by decide), fun h => absurd h h6⟩
end Go.Proofs.Ythdckndjggljpaa
