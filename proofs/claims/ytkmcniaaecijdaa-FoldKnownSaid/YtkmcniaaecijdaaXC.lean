/- Binary and Unary on both sides: the same, and within the type's bounds. No condition. -/
import Derived.Test.YtkmcniaaecijdaaO9
import Derived.Test.YtkmcniaaecijdaaXA
import Derived.LoopTactic
import Derived.Deep.Cut
import Derived.Deep.RegionWith
namespace Go.Proofs.Ytkmcniaaecijdaa
open Go.RowKit
set_option linter.unusedVariables false
set_option linter.unusedSimpArgs false
set_option maxRecDepth 100000
theorem W.rng (x T : Int) : 0 ≤ x % W.md T ∧ x % W.md T < W.md T := ⟨W.mod_lo _ _, W.mod_hi _ _⟩
theorem W.quo_rng (T : Int) (s : Bool) (a b : Int) : 0 ≤ W.quo T s a b ∧ W.quo T s a b < W.md T := by
  unfold W.quo
  split
  · exact W.rng _ _
  · have h1 := W.rng a T; have h2 := W.rng b T
    have h3 : a % W.md T / (b % W.md T) ≤ a % W.md T := Int.ediv_le_self _ h1.1
    exact ⟨Int.ediv_nonneg h1.1 h2.1, by omega⟩
theorem W.rem_rng (T : Int) (s : Bool) (a b : Int) : 0 ≤ W.rem T s a b ∧ W.rem T s a b < W.md T := by
  unfold W.rem
  split
  · exact W.rng _ _
  · have h1 := W.rng a T; have h2 := W.rng b T
    rcases Int.lt_or_le 0 (b % W.md T) with h3 | h3
    · have h4 := Int.emod_lt_of_pos (a % W.md T) h3
      exact ⟨Int.emod_nonneg _ (by omega), by omega⟩
    · have : b % W.md T = 0 := by omega
      rw [this, Int.emod_zero]; exact h1
theorem W.shr_rng (T : Int) (s : Bool) (a n : Int) : 0 ≤ W.shr T s a n ∧ W.shr T s a n < W.md T := by
  unfold W.shr
  split
  · exact W.rng _ _
  · have h1 := W.rng a T
    have h2 : (0 : Int) < 2 ^ min n.toNat 64 := Int.pow_pos (by decide)
    have h3 : a % W.md T / 2 ^ min n.toNat 64 ≤ a % W.md T := Int.ediv_le_self _ h1.1
    exact ⟨Int.ediv_nonneg h1.1 (by omega), by omega⟩
theorem W.bit_rng (T : Int) (h : W.ok T) (x : Nat) (hx : x < 2 ^ (T.toNat)) : (0 : Int) ≤ (x : Int) ∧ (x : Int) < W.md T := by
  rcases h with rfl | rfl | rfl | rfl <;> simp [W.md] at hx ⊢ <;> omega
theorem W.nat_lt (T : Int) (h : W.ok T) (x : Nat) (hx : (x : Int) < W.md T) : x < 2 ^ (T.toNat) := by
  rcases h with rfl | rfl | rfl | rfl <;> simp [W.md] at hx ⊢ <;> omega
theorem W.one_rng (T : Int) (h : W.ok T) (z : Bool) : (0 : Int) ≤ (if z then 1 else 0) ∧ (if z then 1 else 0) < W.md T := by
  have : 2 ≤ W.md T := by rcases h with rfl | rfl | rfl | rfl <;> decide
  cases z <;> simp <;> omega
theorem W.conv_rng (fb : Int) (fs : Bool) (T x : Int) : 0 ≤ W.conv fb fs T x ∧ W.conv fb fs T x < W.md T := W.rng _ _
/-- Both give the same, within bounds. -/
def Both3 (f g : Nat) (args : Array Value) (G : Prop) (T : Int) : Prop := ∃ r e : Int, Gives f args (.tuple #[.int .u64 r, .int .i64 e]) ∧ Gives g args (.tuple #[.int .u64 r, .int .i64 e]) ∧ (e = 0 → G ∧ 0 ≤ r ∧ r < W.md T)
theorem W.rb_cb {k a b : Int} (h : ¬ (k = 14 ∨ k = 15) ∧ ¬ (16 ≤ k ∧ k ≤ 21)) : W.rb k a b = W.cb a b := by unfold W.rb; rw [if_neg h.1, if_neg h.2]
theorem W.rb_pb {k a b : Int} (h : k = 14 ∨ k = 15) : W.rb k a b = W.pb a := by unfold W.rb; rw [if_pos h]
theorem both_bin3 (k a b xb yb : Int) (xs ys : Bool) (ha : W.U a) (hb : W.U b) : Both3 36 41 #[.int .i64 k, .int .u64 a, .int .u64 b, W.ty xb xs, W.ty yb ys] (W.ok xb ∧ W.ok yb) (W.rb k xb yb) := by
  have VX : Hid (Gives 57 #[W.ty xb xs] (.bool (W.okB xb))) := valid_any xb xs
  have VY : Hid (Gives 57 #[W.ty yb ys] (.bool (W.okB yb))) := valid_any yb ys
  have RX : Hid (Gives 32 #[W.ty xb xs] (.bool (W.okB xb))) := fun w => r7valid xb xs w
  have RY : Hid (Gives 32 #[W.ty yb ys] (.bool (W.okB yb))) := fun w => r7valid yb ys w
  by_cases hbad : W.okB xb = false ∨ W.okB yb = false ∨ k < 9 ∨ 24 < k
  · exact ⟨0, 1, fun w => binary_bad k a b xb yb xs ys _ _ hbad VX VY w, fun w => r7binary_bad k a b xb yb xs ys _ _ hbad RX RY w, fun h => absurd h (by decide)⟩
  have hx1 : W.okB xb = true := Classical.byContradiction fun h => hbad (.inl (by simpa using h))
  have hy1 : W.okB yb = true := Classical.byContradiction fun h => hbad (.inr (.inl (by simpa using h)))
  have hx : W.ok xb := Classical.byContradiction fun h => by rw [W.okB_f h] at hx1; cases hx1
  have hy : W.ok yb := Classical.byContradiction fun h => by rw [W.okB_f h] at hy1; cases hy1
  have hk9 : 9 ≤ k ∧ k ≤ 24 := ⟨Classical.byContradiction fun h => hbad (.inr (.inr (.inl (by omega)))), Classical.byContradiction fun h => hbad (.inr (.inr (.inr (by omega))))⟩
  rw [hx1] at VX RX; rw [hy1] at VY RY
  have o16 : W.ok 16 := by simp [W.ok]
  have hT := W.pb_ok hx
  have hC := W.cb_ok hx hy
  have UP := W.conv_U xb xs (W.cb xb yb) a
  have UQ := W.conv_U yb ys (W.cb xb yb) b
  obtain ⟨T, hTd⟩ : ∃ T, T = W.cb xb yb := ⟨_, rfl⟩
  obtain ⟨S, hSd⟩ : ∃ S, S = W.cs xb xs yb ys := ⟨_, rfl⟩
  obtain ⟨p, hpd⟩ : ∃ p, p = W.conv xb xs T a := ⟨_, rfl⟩
  obtain ⟨q, hqd⟩ : ∃ q, q = W.conv yb ys T b := ⟨_, rfl⟩
  rw [← hTd] at UP UQ hC
  rw [← hpd] at UP; rw [← hqd] at UQ
  have NP : Hid (Gives 76 #[W.ty xb xs, W.ty yb ys] (W.ty T S)) := fun w => by rw [hTd, hSd]; exact r7common_ok xb yb xs ys w
  have CA : Hid (Gives 38 #[.int .u64 a, W.ty xb xs, W.ty T S] (.int .u64 p)) := fun w => by rw [hpd]; exact r7convert a xb T xs S hx hC ha w
  have CB : Hid (Gives 38 #[.int .u64 b, W.ty yb ys, W.ty T S] (.int .u64 q)) := fun w => by rw [hqd]; exact r7convert b yb T ys S hy hC hb w
  have MA : Hid (∀ w : World, Calls Try.prog 53 #[.int .u64 p, W.ty T S] w (NewIo w (W.mn T p S))) := fun w => r7meant p T S hC UP w
  have MB : Hid (∀ w : World, Calls Try.prog 53 #[.int .u64 q, W.ty T S] w (NewIo w (W.mn T q S))) := fun w => r7meant q T S hC UQ w
  have CMP : ∀ (j : Int) (z : Bool), W.cmp j (W.less T S p q) (W.less T S q p) = z →
      (∀ w : World, Calls Try.prog 36 #[.int .i64 j, .int .u64 a, .int .u64 b, W.ty xb xs, W.ty yb ys] w fun e w' => e = .returned (.tuple #[.int .u64 (if W.cmp j (W.less T S p q) (W.less T S q p) then 1 else 0), .int .i64 0]) ∧ Below w.heap.size w w') →
      (∀ w : World, Calls Try.prog 41 #[.int .i64 j, .int .u64 a, .int .u64 b, W.ty xb xs, W.ty yb ys] w (BiR (if z then 1 else 0) 0 w)) → Both3 36 41 #[.int .i64 j, .int .u64 a, .int .u64 b, W.ty xb xs, W.ty yb ys] (W.ok xb ∧ W.ok yb) 16 := fun j z hz h1 h2 => by
    rw [hz] at h1; exact ⟨_, _, h1, h2, fun _ => ⟨⟨hx, hy⟩, W.one_rng 16 o16 z⟩⟩
  have less1 := W.less_mn T p q S
  have less2 := W.less_mn T q p S
  rcases (show k = 9 ∨ k = 10 ∨ k = 11 ∨ k = 12 ∨ k = 13 ∨ k = 14 ∨ k = 15 ∨ k = 16 ∨ k = 17 ∨ k = 18 ∨ k = 19 ∨ k = 20 ∨ k = 21 ∨ k = 22 ∨ k = 23 ∨ k = 24 by omega) with rfl | rfl | rfl | rfl | rfl | rfl | rfl | rfl | rfl | rfl | rfl | rfl | rfl | rfl | rfl | rfl
  · exact ⟨_, _, fun w => binary_mul a b xb yb T xs ys S hx hy hC hTd.symm hSd.symm ha hb p q hpd.symm hqd.symm w, fun w => r7binary_do9 a b xb yb T p q _ _ _ _ xs ys S RX RY NP CA CB MA MB (fun w => by rw [← W.mn_mul T p q S]; exact do_mul p q T S hC UP UQ w) w, fun _ => ⟨⟨hx, hy⟩, by rw [W.rb_cb (by decide), ← hTd]; exact W.rng _ _⟩⟩
  · by_cases hz : q % W.md T = 0
    · exact ⟨_, _, fun w => binary_div0 a b xb yb T xs ys S hx hy hC hTd.symm hSd.symm ha hb p q hpd.symm hqd.symm hz w, fun w => r7binary_do10 a b xb yb T p q _ _ _ _ xs ys S RX RY NP CA CB MA MB (fun w => do_quo_zero p q T S hC UP UQ ((W.mn_zero T q S).2 hz) w) w, fun h => absurd h (by decide)⟩
    · exact ⟨_, _, fun w => binary_div a b xb yb T xs ys S hx hy hC hTd.symm hSd.symm ha hb p q hpd.symm hqd.symm hz w, fun w => r7binary_do10 a b xb yb T p q _ _ _ _ xs ys S RX RY NP CA CB MA MB (fun w => by rw [← W.mn_quo T p q S]; exact do_quo p q T S hC UP UQ (fun h => hz ((W.mn_zero T q S).1 h)) w) w, fun _ => ⟨⟨hx, hy⟩, by rw [W.rb_cb (by decide), ← hTd]; exact W.quo_rng _ _ _ _⟩⟩
  · by_cases hz : q % W.md T = 0
    · exact ⟨_, _, fun w => binary_rem0 a b xb yb T xs ys S hx hy hC hTd.symm hSd.symm ha hb p q hpd.symm hqd.symm hz w, fun w => r7binary_do11 a b xb yb T p q _ _ _ _ xs ys S RX RY NP CA CB MA MB (fun w => do_rem_zero p q T S hC UP UQ ((W.mn_zero T q S).2 hz) w) w, fun h => absurd h (by decide)⟩
    · exact ⟨_, _, fun w => binary_rem a b xb yb T xs ys S hx hy hC hTd.symm hSd.symm ha hb p q hpd.symm hqd.symm hz w, fun w => r7binary_do11 a b xb yb T p q _ _ _ _ xs ys S RX RY NP CA CB MA MB (fun w => by rw [← W.mn_rem T p q S]; exact do_rem p q T S hC UP UQ (fun h => hz ((W.mn_zero T q S).1 h)) w) w, fun _ => ⟨⟨hx, hy⟩, by rw [W.rb_cb (by decide), ← hTd]; exact W.rem_rng _ _ _ _⟩⟩
  · exact ⟨_, _, fun w => binary_add a b xb yb T xs ys S hx hy hC hTd.symm hSd.symm ha hb p q hpd.symm hqd.symm w, fun w => r7binary_do12 a b xb yb T p q _ _ _ _ xs ys S RX RY NP CA CB MA MB (fun w => by rw [← W.mn_add T p q S]; exact do_add p q T S hC UP UQ w) w, fun _ => ⟨⟨hx, hy⟩, by rw [W.rb_cb (by decide), ← hTd]; exact W.rng _ _⟩⟩
  · exact ⟨_, _, fun w => binary_sub a b xb yb T xs ys S hx hy hC hTd.symm hSd.symm ha hb p q hpd.symm hqd.symm w, fun w => r7binary_do13 a b xb yb T p q _ _ _ _ xs ys S RX RY NP CA CB MA MB (fun w => by rw [← W.mn_sub T p q S]; exact do_sub p q T S hC UP UQ w) w, fun _ => ⟨⟨hx, hy⟩, by rw [W.rb_cb (by decide), ← hTd]; exact W.rng _ _⟩⟩
  · have UA := W.conv_U xb xs (W.pb xb) a; have UN := W.conv_U yb ys 16 b
    exact ⟨_, _, fun w => binary_shift 14 a b xb yb (W.pb xb) _ _ _ xs ys (W.ps xb xs) (.inl rfl) VX VY (fun w => promote_ok xb xs w) (fun w => convert_ok a xb (W.pb xb) xs (W.ps xb xs) hx hT ha w) (fun w => convert_ok b yb 16 ys false hy o16 hb w)
        (fun _ w => (shl_ok _ _ (W.pb xb) hT UA UN.1 w).mono fun e w' ⟨h1, h2⟩ => ⟨h1, by rw [h2]; exact Ext.alloc (Below.refl _ _) _⟩) (fun h => by cases h) w,
      fun w => r7binary_sh14 a b xb yb (W.pb xb) _ _ _ xs ys (W.ps xb xs) RX RY (fun w => r7wide xb xs w) (fun w => r7convert a xb (W.pb xb) xs (W.ps xb xs) hx hT ha w) (fun w => r7convert b yb 16 ys false hy o16 hb w) (fun w => by rw [← W.mn_shl (W.pb xb) _ _ (W.ps xb xs)]; exact refShift_up _ _ (W.pb xb) (W.ps xb xs) hT UA UN.1 w) w, fun _ => ⟨⟨hx, hy⟩, by rw [W.rb_pb (by decide)]; exact W.rng _ _⟩⟩
  · have UA := W.conv_U xb xs (W.pb xb) a; have UN := W.conv_U yb ys 16 b
    exact ⟨_, _, fun w => binary_shift 15 a b xb yb (W.pb xb) _ _ _ xs ys (W.ps xb xs) (.inr rfl) VX VY (fun w => promote_ok xb xs w) (fun w => convert_ok a xb (W.pb xb) xs (W.ps xb xs) hx hT ha w) (fun w => convert_ok b yb 16 ys false hy o16 hb w)
        (fun h => by cases h) (fun _ w => (shr_any _ _ (W.pb xb) (W.ps xb xs) hT UA UN.1 w).mono fun e w' ⟨h1, h2⟩ => ⟨h1, h2 ▸ Below.refl _ _⟩) w,
      fun w => r7binary_sh15 a b xb yb (W.pb xb) _ _ _ xs ys (W.ps xb xs) RX RY (fun w => r7wide xb xs w) (fun w => r7convert a xb (W.pb xb) xs (W.ps xb xs) hx hT ha w) (fun w => r7convert b yb 16 ys false hy o16 hb w) (fun w => by rw [← W.mn_shr (W.pb xb) _ _ (W.ps xb xs)]; exact refShift_down _ _ (W.pb xb) (W.ps xb xs) hT UA UN.1 w) w, fun _ => ⟨⟨hx, hy⟩, by rw [W.rb_pb (by decide)]; exact W.shr_rng _ _ _ _⟩⟩
  · exact CMP 16 _ rfl (fun w => binary_cmp16 a b xb yb T xs ys S hx hy hC hTd.symm hSd.symm ha hb p q hpd.symm hqd.symm w) (fun w => r7binary_cmp16 a b xb yb T p q _ _ xs ys S _ (by rw [cmpZ_lt, less1, less2]; rfl) RX RY NP CA CB MA MB w)
  · exact CMP 17 _ rfl (fun w => binary_cmp17 a b xb yb T xs ys S hx hy hC hTd.symm hSd.symm ha hb p q hpd.symm hqd.symm w) (fun w => r7binary_cmp17 a b xb yb T p q _ _ xs ys S _ (by rw [cmpZ_le, less1, less2]; rfl) RX RY NP CA CB MA MB w)
  · exact CMP 18 _ rfl (fun w => binary_cmp18 a b xb yb T xs ys S hx hy hC hTd.symm hSd.symm ha hb p q hpd.symm hqd.symm w) (fun w => r7binary_cmp18 a b xb yb T p q _ _ xs ys S _ (by rw [cmpZ_gt, less1, less2]; rfl) RX RY NP CA CB MA MB w)
  · exact CMP 19 _ rfl (fun w => binary_cmp19 a b xb yb T xs ys S hx hy hC hTd.symm hSd.symm ha hb p q hpd.symm hqd.symm w) (fun w => r7binary_cmp19 a b xb yb T p q _ _ xs ys S _ (by rw [cmpZ_ge', less1, less2]; rfl) RX RY NP CA CB MA MB w)
  · exact CMP 20 _ rfl (fun w => binary_cmp20 a b xb yb T xs ys S hx hy hC hTd.symm hSd.symm ha hb p q hpd.symm hqd.symm w) (fun w => r7binary_cmp20 a b xb yb T p q _ _ xs ys S _ (by rw [cmpZ_eq, less1, less2]; rfl) RX RY NP CA CB MA MB w)
  · exact CMP 21 _ rfl (fun w => binary_cmp21 a b xb yb T xs ys S hx hy hC hTd.symm hSd.symm ha hb p q hpd.symm hqd.symm w) (fun w => r7binary_cmp21 a b xb yb T p q _ _ xs ys S _ (by rw [cmpZ_ne, less1, less2]; rfl) RX RY NP CA CB MA MB w)
  · obtain ⟨p', rfl⟩ := Int.eq_ofNat_of_zero_le UP.1
    obtain ⟨q', rfl⟩ := Int.eq_ofNat_of_zero_le UQ.1
    have e := u64_and (p' : Int) (q' : Int) UP.1 UP.2 UQ.1 UQ.2
    exact ⟨_, _, fun w => binary_and a b xb yb T xs ys S hx hy hC hTd.symm hSd.symm ha hb _ _ hpd.symm hqd.symm w, fun w => by rw [e]; exact r7binary_bit22 a b xb yb T _ _ p' q' xs ys S (by have := UP.2; omega) (by have := UQ.2; omega) RX RY NP CA CB MA MB w, fun _ => ⟨⟨hx, hy⟩, by rw [W.rb_cb (by decide), ← hTd, e]; exact W.bit_rng T hC _ (Nat.and_lt_two_pow _ (W.nat_lt T hC q' (hqd ▸ W.mod_hi _ _)))⟩⟩
  · obtain ⟨p', rfl⟩ := Int.eq_ofNat_of_zero_le UP.1
    obtain ⟨q', rfl⟩ := Int.eq_ofNat_of_zero_le UQ.1
    have e := u64_xor (p' : Int) (q' : Int) UP.1 UP.2 UQ.1 UQ.2
    exact ⟨_, _, fun w => binary_xor a b xb yb T xs ys S hx hy hC hTd.symm hSd.symm ha hb _ _ hpd.symm hqd.symm w, fun w => by rw [e]; exact r7binary_bit23 a b xb yb T _ _ p' q' xs ys S (by have := UP.2; omega) (by have := UQ.2; omega) RX RY NP CA CB MA MB w, fun _ => ⟨⟨hx, hy⟩, by rw [W.rb_cb (by decide), ← hTd, e]; exact W.bit_rng T hC _ (Nat.xor_lt_two_pow (W.nat_lt T hC p' (hpd ▸ W.mod_hi _ _)) (W.nat_lt T hC q' (hqd ▸ W.mod_hi _ _)))⟩⟩
  · obtain ⟨p', rfl⟩ := Int.eq_ofNat_of_zero_le UP.1
    obtain ⟨q', rfl⟩ := Int.eq_ofNat_of_zero_le UQ.1
    have e := u64_or (p' : Int) (q' : Int) UP.1 UP.2 UQ.1 UQ.2
    exact ⟨_, _, fun w => binary_or a b xb yb T xs ys S hx hy hC hTd.symm hSd.symm ha hb _ _ hpd.symm hqd.symm w, fun w => by rw [e]; exact r7binary_bit24 a b xb yb T _ _ p' q' xs ys S (by have := UP.2; omega) (by have := UQ.2; omega) RX RY NP CA CB MA MB w, fun _ => ⟨⟨hx, hy⟩, by rw [W.rb_cb (by decide), ← hTd, e]; exact W.bit_rng T hC _ (Nat.or_lt_two_pow (W.nat_lt T hC p' (hpd ▸ W.mod_hi _ _)) (W.nat_lt T hC q' (hqd ▸ W.mod_hi _ _)))⟩⟩

def BothU3 (k a xb : Int) (xs : Bool) : Prop := ∃ (r b : Int) (s : Bool) (e : Int), (∀ w : World, Calls Try.prog 34 #[.int .i64 k, .int .u64 a, W.ty xb xs] w (UnR r b s e w)) ∧ (∀ w : World, Calls Try.prog 39 #[.int .i64 k, .int .u64 a, W.ty xb xs] w (UnR r b s e w)) ∧ (e = 0 → W.ok xb ∧ W.ok b ∧ 0 ≤ r ∧ r < W.md b) ∧ (k = 6 → W.ok xb → r = W.sub (W.pb xb) 0 (W.conv xb xs (W.pb xb) a) ∧ b = W.pb xb ∧ s = W.ps xb xs ∧ e = 0)
theorem both_un3 (k a xb : Int) (xs : Bool) (ha : W.U a) : BothU3 k a xb xs := by
  by_cases hx : ¬ W.ok xb
  · have e := W.okB_f hx
    exact ⟨0, 0, false, 1, fun w => unary_bad k a xb xs (fun w => by rw [← e]; exact valid_any xb xs w) w, fun w => r7unary_bad k a xb xs false (.inl rfl) (fun w => by rw [← e]; exact r7valid xb xs w) w, fun h => absurd h (by decide), fun _ h => absurd h hx⟩
  have hx : W.ok xb := Classical.byContradiction hx
  have e := W.okB_t hx
  have VX : Hid (Gives 57 #[W.ty xb xs] (.bool true)) := fun w => by rw [← e]; exact valid_any xb xs w
  have RX : Hid (Gives 32 #[W.ty xb xs] (.bool true)) := fun w => by rw [← e]; exact r7valid xb xs w
  have hT := W.pb_ok hx
  have NP : Hid (Gives 58 #[W.ty xb xs] (W.ty (W.pb xb) (W.ps xb xs))) := fun w => promote_ok xb xs w
  have RP : Hid (Gives 71 #[W.ty xb xs] (W.ty (W.pb xb) (W.ps xb xs))) := fun w => r7wide xb xs w
  have NC : Hid (Gives 33 #[.int .u64 a, W.ty xb xs, W.ty (W.pb xb) (W.ps xb xs)] (.int .u64 (W.conv xb xs (W.pb xb) a))) := fun w => convert_ok a xb (W.pb xb) xs (W.ps xb xs) hx hT ha w
  have NM : Hid (∀ w : World, Calls Try.prog 53 #[.int .u64 a, W.ty xb xs] w (NewIo w (W.mn xb a xs))) := fun w => r7meant a xb xs hx ha w
  have UC := W.conv_U xb xs (W.pb xb) a
  have hcm := W.conv_mn xb xs (W.pb xb) a
  have hbd := W.mn_bd xb a xs
  have hsm := W.mn_sm xb a xs
  have lnb : ∀ z : Int, z.natAbs ≤ 18446744073709551617 → N.ln z.natAbs ≤ 28 := fun z hz => N.ln_le (Nat.lt_of_le_of_lt hz (by decide))
  by_cases h6 : k = 6
  · subst h6
    refine ⟨_, _, _, _, fun w => unary_neg a xb (W.pb xb) _ _ xs (W.ps xb xs) hT UC rfl VX NP NC w, fun w => r7unary_neg a xb (W.pb xb) (W.mn xb a xs) _ xs (W.ps xb xs) hsm (lnb _ (by omega)) hT ?_ RX RP NM w, fun _ => ⟨hx, hT, W.rng _ _⟩, fun _ _ => ⟨rfl, rfl, rfl, rfl⟩⟩
    unfold W.sub; rw [hcm, Int.sub_emod, Int.emod_emod, ← Int.sub_emod, Int.zero_sub]
  by_cases h7 : k = 7
  · subst h7
    refine ⟨_, _, _, _, fun w => unary_not a xb (W.pb xb) _ _ xs (W.ps xb xs) hT UC rfl VX NP NC w, fun w => r7unary_not a xb (W.pb xb) (W.mn xb a xs) _ xs (W.ps xb xs) hsm (lnb _ (by omega)) hT ?_ RX RP NM w, fun _ => ⟨hx, hT, W.rng _ _⟩, fun h => by omega⟩
    unfold W.cut; rw [hcm]
    have hd := W.md_dvd (W.pb xb)
    obtain ⟨c, hc⟩ := hd
    rw [show (18446744073709551615 : Int) - W.mn xb a xs % W.md (W.pb xb) = (-1 - W.mn xb a xs % W.md (W.pb xb)) + W.md (W.pb xb) * c by omega, Int.add_mul_emod_self_left]
    have e9 : (-1 - W.mn xb a xs % W.md (W.pb xb)) % W.md (W.pb xb) = (-1 - W.mn xb a xs) % W.md (W.pb xb) := by rw [Int.sub_emod, Int.emod_emod, ← Int.sub_emod]
    rw [e9]; congr 1; omega
  by_cases h8 : k = 8
  · subst h8
    have hz : (W.conv xb xs (W.pb xb) a == 0) = decide (W.mn xb a xs = 0) := by
      rw [hcm, Bool.eq_iff_iff]
      simp only [beq_iff_eq, decide_eq_true_eq]
      have hs := W.mn_small xb a xs; have hm := md_pb xb hx
      constructor
      · intro h
        obtain ⟨c, hc⟩ := Int.dvd_of_emod_eq_zero h
        rcases Int.lt_trichotomy c 0 with h1 | h1 | h1
        · exfalso
          have : W.md (W.pb xb) * c ≤ W.md (W.pb xb) * (-1) := Int.mul_le_mul_of_nonneg_left (by omega) (Int.le_of_lt (W.md_pos _))
          omega
        · rw [hc, h1, Int.mul_zero]
        · exfalso
          have : W.md (W.pb xb) * 1 ≤ W.md (W.pb xb) * c := Int.mul_le_mul_of_nonneg_left (by omega) (Int.le_of_lt (W.md_pos _))
          omega
      · intro h; rw [h, Int.zero_emod]
    exact ⟨_, _, _, _, fun w => unary_log a xb (W.pb xb) _ xs (W.ps xb xs) _ hz VX NP NC w, fun w => r7unary_log a xb (W.pb xb) (W.mn xb a xs) xs (W.ps xb xs) _ rfl RX RP NM w, fun _ => ⟨hx, by simp [W.ok], W.one_rng 16 (by simp [W.ok]) _⟩, fun h => by omega⟩
  · exact ⟨_, _, _, _, fun w => unary_else k a xb (W.pb xb) _ xs (W.ps xb xs) (by simpa using h6) (by simpa using h7) (by simpa using h8) VX NP NC w, fun w => r7unary_bad k a xb xs true (by omega) RX w, fun h => absurd h (by decide), fun h => absurd h h6⟩
end Go.Proofs.Ytkmcniaaecijdaa
/- Constant expressions, plain: what one has, and its type. No condition. -/
namespace Go.Proofs.Ytkmcniaaecijdaa
open Go.RowKit
set_option linter.unusedVariables false
set_option linter.unusedSimpArgs false
set_option maxRecDepth 100000
theorem bin_ex (k a b xb yb : Int) (xs ys : Bool) : ∃ r : Int × Int, W.U a → W.U b → Gives 36 #[.int .i64 k, .int .u64 a, .int .u64 b, W.ty xb xs, W.ty yb ys] (.tuple #[.int .u64 r.1, .int .i64 r.2]) ∧ Gives 41 #[.int .i64 k, .int .u64 a, .int .u64 b, W.ty xb xs, W.ty yb ys] (.tuple #[.int .u64 r.1, .int .i64 r.2]) ∧ (r.2 = 0 → (W.ok xb ∧ W.ok yb) ∧ 0 ≤ r.1 ∧ r.1 < W.md (W.rb k xb yb)) := by
  by_cases h : W.U a ∧ W.U b
  · obtain ⟨r, e, h1, h2, h3⟩ := both_bin3 k a b xb yb xs ys h.1 h.2
    exact ⟨(r, e), fun _ _ => ⟨h1, h2, h3⟩⟩
  · exact ⟨(0, 0), fun ha hb => absurd ⟨ha, hb⟩ h⟩
/-- What an operator makes of two numbers, and what is wrong. -/
noncomputable def W.bin (k a b xb yb : Int) (xs ys : Bool) : Int × Int := (bin_ex k a b xb yb xs ys).choose
theorem un_ex (k a xb : Int) (xs : Bool) : ∃ r : Int × Int × Bool × Int, W.U a → (∀ w : World, Calls Try.prog 34 #[.int .i64 k, .int .u64 a, W.ty xb xs] w (UnR r.1 r.2.1 r.2.2.1 r.2.2.2 w)) ∧ (∀ w : World, Calls Try.prog 39 #[.int .i64 k, .int .u64 a, W.ty xb xs] w (UnR r.1 r.2.1 r.2.2.1 r.2.2.2 w)) ∧ (r.2.2.2 = 0 → W.ok xb ∧ W.ok r.2.1 ∧ 0 ≤ r.1 ∧ r.1 < W.md r.2.1) ∧ (k = 6 → W.ok xb → r = (W.sub (W.pb xb) 0 (W.conv xb xs (W.pb xb) a), W.pb xb, W.ps xb xs, 0)) := by
  by_cases h : W.U a
  · obtain ⟨r, b, s, e, h1, h2, h3, h4⟩ := both_un3 k a xb xs h
    exact ⟨(r, b, s, e), fun _ => ⟨h1, h2, h3, fun hk hx => by obtain ⟨rfl, rfl, rfl, rfl⟩ := h4 hk hx; rfl⟩⟩
  · exact ⟨(0, 0, false, 0), fun ha => absurd ha h⟩
noncomputable def W.un (k a xb : Int) (xs : Bool) : Int × Int × Bool × Int := (un_ex k a xb xs).choose
/-- What came of a constant: the number, its type, and what is wrong. -/
structure Cst where
  n : Int
  b : Int
  s : Bool
  e : Int
noncomputable def Cst.of (k n b : Int) (s : Bool) (r0 r1 : Cst) : Cst :=
  if k = 1 then ⟨n, b, s, 0⟩
  else if k < 5 ∨ 26 < k then ⟨0, 0, false, 8⟩
  else if r0.e ≠ 0 then ⟨0, r0.b, r0.s, r0.e⟩
  else if k = 5 then ⟨W.conv r0.b r0.s b r0.n, b, s, 0⟩
  else if k < 9 then ⟨(W.un k r0.n r0.b r0.s).1, (W.un k r0.n r0.b r0.s).2.1, (W.un k r0.n r0.b r0.s).2.2.1, (W.un k r0.n r0.b r0.s).2.2.2⟩
  else if r1.e ≠ 0 then ⟨0, r1.b, r1.s, r1.e⟩
  else if k = 25 ∨ k = 26 then ⟨if ((r0.n != 0) && (r1.n != 0)) || ((k == 26) && ((r0.n != 0) || (r1.n != 0))) then 1 else 0, 16, true, 0⟩
  else ⟨(W.bin k r0.n r1.n r0.b r1.b r0.s r1.s).1, W.rb k r0.b r1.b, W.rs k r0.b r0.s r1.b r1.s, (W.bin k r0.n r1.n r0.b r1.b r0.s r1.s).2⟩
namespace X
mutual
noncomputable def cst : X → Cst
  | .mk k n b s nm ks => Cst.of k n b s ((csts ks).getD 0 ⟨0, 0, false, 0⟩) ((csts ks).getD 1 ⟨0, 0, false, 0⟩)
noncomputable def csts : List X → List Cst
  | [] => []
  | x :: xs => cst x :: csts xs
end
theorem csts_eq (xs : List X) : csts xs = xs.map cst := by
  induction xs with
  | nil => rw [csts]; rfl
  | cons x xs ih => rw [csts, ih]; rfl
theorem cst_eq (x : X) : cst x = Cst.of x.kind x.num x.bits x.sg ((x.kids.map cst).getD 0 ⟨0, 0, false, 0⟩) ((x.kids.map cst).getD 1 ⟨0, 0, false, 0⟩) := by
  cases x with | mk k n b s nm ks => rw [cst, csts_eq]; rfl
theorem kid_cst {x y : X} {i : Nat} (h : x.kids[i]? = some y) : (x.kids.map cst).getD i ⟨0, 0, false, 0⟩ = cst y := by
  rw [List.getD_eq_getElem?_getD, List.getElem?_map, h]; rfl
end X
/-- Within bounds, of a right type, if it is one. -/
def Cst.Fine (c : Cst) : Prop := c.e = 0 → W.ok c.b ∧ 0 ≤ c.n ∧ c.n < W.md c.b
theorem Cst.Fine.U {c : Cst} (h : Cst.Fine c) (he : c.e = 0) : W.U c.n := ⟨(h he).2.1, Int.lt_of_lt_of_le (h he).2.2 (W.md_le _)⟩
theorem W.lit_rng {n : Int} {u : Bool} {b : Int} {s : Bool} (hn : W.U n) (h : W.lit n u = (b, s, 0)) : W.ok b ∧ n < W.md b := by
  have h0 := hn.1; have h1 := hn.2
  unfold W.lit at h
  cases u
  · simp only [Bool.false_eq_true, if_false] at h
    split at h
    · simp only [Prod.mk.injEq] at h; obtain ⟨rfl, _, _⟩ := h; exact ⟨by simp [W.ok], by rw [W.md16]; omega⟩
    split at h
    · simp only [Prod.mk.injEq] at h; obtain ⟨rfl, _, _⟩ := h; exact ⟨by simp [W.ok], by rw [W.md32]; omega⟩
    split at h
    · simp only [Prod.mk.injEq] at h; obtain ⟨rfl, _, _⟩ := h; exact ⟨by simp [W.ok], by rw [W.md64]; omega⟩
    · simp at h
  · simp only [if_true] at h
    split at h
    · simp only [Prod.mk.injEq] at h; obtain ⟨rfl, _, _⟩ := h; exact ⟨by simp [W.ok], by rw [W.md16]; omega⟩
    split at h
    · simp only [Prod.mk.injEq] at h; obtain ⟨rfl, _, _⟩ := h; exact ⟨by simp [W.ok], by rw [W.md32]; omega⟩
    · simp only [Prod.mk.injEq] at h; obtain ⟨rfl, _, _⟩ := h; exact ⟨by simp [W.ok], by rw [W.md64]; omega⟩
theorem W.okB_ok {b : Int} (h : W.okB b ≠ false) : W.ok b := Classical.byContradiction fun h2 => h (W.okB_f h2)
theorem W.rb_ok {k a b : Int} (ha : W.ok a) (hb : W.ok b) : W.ok (W.rb k a b) := by
  unfold W.rb
  split
  · exact W.pb_ok ha
  · split
    · simp [W.ok]
    · exact W.cb_ok ha hb
theorem W.lt_U {n b : Int} (h0 : 0 ≤ n) (h : n < W.md b) : W.U n := ⟨h0, Int.lt_of_lt_of_le h (W.md_le b)⟩
namespace X
/-- How many kids a right one has. -/
theorem own_kids {k n b : Int} {s : Bool} {nm : List UInt8} {c : Nat} (h : own k n b s nm c = 0) : 1 ≤ k ∧ k ≤ 26 ∧ (k = 1 → W.lit n (!s) = (b, s, 0)) ∧ (k = 5 → W.ok b) ∧ ((kidsOf k = -1 ∧ c ≤ 8) ∨ (0 ≤ kidsOf k ∧ kidsOf k = (c : Int))) := by
  unfold own at h
  split at h
  · exact absurd h (by decide)
  rename_i h1
  split at h
  · exact absurd h (by decide)
  rename_i h2
  split at h
  · exact absurd h (by decide)
  split at h
  · exact absurd h (by decide)
  rename_i h4
  split at h
  · exact absurd h (by decide)
  rename_i h5
  refine ⟨by omega, by omega, fun hk => Classical.byContradiction fun h => h2 ⟨hk, h⟩, fun hk => W.okB_ok (fun h => h4 ⟨hk, h⟩), ?_⟩
  have hm : kidsOf k = 0 ∨ kidsOf k = -1 ∨ kidsOf k = 1 ∨ kidsOf k = 2 := by
    unfold kidsOf; rw [if_neg h1]; split
    · exact .inl rfl
    split
    · exact .inr (.inl rfl)
    split
    · exact .inr (.inr (.inl rfl))
    · exact .inr (.inr (.inr rfl))
  rcases hm with hm | hm | hm | hm <;> rw [hm] at h5 ⊢ <;> omega
theorem Shp.two {x : X} (h : Shp x) (hk : 9 ≤ x.kind) : ∃ y z, x.kids = [y, z] := by
  have := own_kids h.own
  have e : kidsOf x.kind = 2 := by unfold kidsOf; rw [if_neg (by omega), if_neg (by omega), if_neg (by omega), if_neg (by omega)]
  have hl : x.kids.length = 2 := by omega
  match hx : x.kids, hl with
  | [y, z], _ => exact ⟨y, z, rfl⟩
theorem Shp.one {x : X} (h : Shp x) (hk : 5 ≤ x.kind) (hk2 : x.kind < 9) : ∃ y, x.kids = [y] := by
  have := own_kids h.own
  have e : kidsOf x.kind = 1 := by unfold kidsOf; rw [if_neg (by omega), if_neg (by omega), if_neg (by omega), if_pos (by omega)]
  have hl : x.kids.length = 1 := by omega
  match hx : x.kids, hl with
  | [y], _ => exact ⟨y, rfl⟩
theorem cst_fine (x : X) : Shp x → Wf x → Cst.Fine (cst x) := by
  induction x using X.up with
  | _ x ih =>
    intro hs hw
    have ho := own_kids hs.own
    rw [cst_eq]
    unfold Cst.of
    split
    · rename_i h1
      have := W.lit_rng hw.num (ho.2.2.1 h1)
      exact fun _ => ⟨this.1, hw.num.1, this.2⟩
    split
    · exact fun h => absurd h (by decide)
    rename_i h1 h2
    have h5 : 5 ≤ x.kind := by omega
    have hy : ∃ y, x.kids[0]? = some y := by
      rcases Int.lt_or_le x.kind 9 with h | h
      · obtain ⟨y, hy⟩ := hs.one h5 h; exact ⟨y, by rw [hy]; rfl⟩
      · obtain ⟨y, z, hy⟩ := hs.two h; exact ⟨y, by rw [hy]; rfl⟩
    obtain ⟨y, hy⟩ := hy
    rw [kid_cst hy]
    have hym := List.mem_of_getElem? hy
    have fy := ih y hym (hs.kid hym) (hw.kid hym)
    split
    · rename_i he; exact fun h => absurd h he
    rename_i he
    have he : (cst y).e = 0 := by omega
    have uy := fy.U he
    split
    · rename_i hk
      exact fun _ => ⟨ho.2.2.2.1 hk, W.mod_lo _ _, W.mod_hi _ _⟩
    split
    · have := ((un_ex x.kind (cst y).n (cst y).b (cst y).s).choose_spec uy).2.2.1
      exact fun h => (this h).2
    rename_i h6 h7
    obtain ⟨y2, z, hyz⟩ := hs.two (by omega)
    have hz : x.kids[1]? = some z := by rw [hyz]; rfl
    rw [kid_cst hz]
    have hzm := List.mem_of_getElem? hz
    have fz := ih z hzm (hs.kid hzm) (hw.kid hzm)
    split
    · rename_i he2; exact fun h => absurd h he2
    rename_i he2
    have he2 : (cst z).e = 0 := by omega
    split
    · intro _; refine ⟨by simp [W.ok], ?_⟩
      show 0 ≤ (if _ then (1 : Int) else 0) ∧ (if _ then (1 : Int) else 0) < W.md 16
      split <;> decide
    · have := ((bin_ex x.kind (cst y).n (cst z).n (cst y).b (cst z).b (cst y).s (cst z).s).choose_spec uy (fz.U he2)).2.2
      intro h
      exact ⟨W.rb_ok (this h).1.1 (this h).1.2, (this h).2.1, (this h).2.2⟩
end X
end Go.Proofs.Ytkmcniaaecijdaa

/- What a walk of Const keeps. No condition. -/
namespace Go.Proofs.Ytkmcniaaecijdaa
open Go.RowKit
set_option linter.unusedVariables false
set_option linter.unusedSimpArgs false
set_option maxRecDepth 100000
/-- The parameter in its box, the result's type in its cell. -/
structure Cs (w : World) (k n b : Int) (s : Bool) (nm : ByteArray) (v : Value) (rb : Int) (rs : Bool) (wi : World) : Prop where
  ext : Below w.heap.size w wi
  lt : w.heap.size + 1 < wi.heap.size
  x : Bx wi w.heap.size k n b s nm v
  y : Ty wi (w.heap.size + 1) rb rs
theorem Cs.below {w wi w' : World} {k n b : Int} {s : Bool} {nm : ByteArray} {v : Value} {rb : Int} {rs : Bool} (h : Cs w k n b s nm v rb rs wi) (hb : Below wi.heap.size wi w') : Cs w k n b s nm v rb rs w' :=
  ⟨Ext.trans h.ext hb, Nat.lt_of_lt_of_le h.lt hb.size, h.x.keep hb, h.y.below hb⟩
theorem Cs.start (w : World) (k n b : Int) (s : Bool) (nm : ByteArray) (v : Value) : Cs w k n b s nm v 0 false ((w.alloc (.cells #[.int .i64 k, .int .u64 n, .int .i64 b, .bool s, .string nm, v] 36)).alloc (.cells #[.int .i64 0, .bool false] 31)) :=
  ⟨Ext.alloc (Ext.alloc (Below.refl _ _) _) _, by simp, (Blk.new w _ _).alloc _, Ty.new _ (by simp) _ _ _⟩
abbrev Xc (y : X) (a : Option Addr) (c : Nat) : List Value := X.cells y.kind y.num y.bits y.sg y.name (.slice a y.kids.length c)
end Go.Proofs.Ytkmcniaaecijdaa

/- Expressions whose known parts are worked out, plain; and where an expression lies. No condition. -/
namespace Go.Proofs.Ytkmcniaaecijdaa
open Go.RowKit
set_option linter.unusedVariables false
set_option linter.unusedSimpArgs false
set_option maxRecDepth 100000
/-- An expression lies in these cells, its kids in blocks of this kind. -/
inductive XIn (w : World) (p : Nat → Prop) : X → List Value → Prop
  | mk (k n b : Int) (s : Bool) (nm : ByteArray) (ks : List X) (a : Option Addr) (c : Nat) (cs : Nat → List Value) (hc : ks.length ≤ c) (hm : c ≤ maxLen) (hk : ∀ i x, ks[i]? = some x → XIn w p x (cs i))
      (ha : 0 < ks.length → ∃ b off, p b ∧ a = some ⟨b, off, none⟩ ∧ ∀ i j u, i < ks.length → (cs i)[j]? = some u → w.cell? ⟨b, off + i * 6 + j, none⟩ = some u) :
      XIn w p (.mk k n b s nm ks) (X.cells k n b s nm (.slice a ks.length c))
theorem XIn.at {w : World} {p : Nat → Prop} {x : X} {cs : List Value} (h : XIn w p x cs) : XAt w x cs := by
  induction h with
  | mk k n b s nm ks a c cs hc hm hk ha ih =>
    exact .mk k n b s nm ks a c cs hc hm ih (fun h0 => by obtain ⟨g, off, _, e, h⟩ := ha h0; exact ⟨g, off, e, h⟩)
theorem XAt.xin {w : World} {x : X} {cs : List Value} (h : XAt w x cs) : XIn w (fun _ => True) x cs := by
  induction h with
  | mk k n b s nm ks a c cs hc hm hk ha ih =>
    exact .mk k n b s nm ks a c cs hc hm ih (fun h0 => by obtain ⟨g, off, e, h⟩ := ha h0; exact ⟨g, off, trivial, e, h⟩)
theorem XIn.six {w : World} {p : Nat → Prop} {x : X} {cs : List Value} (h : XIn w p x cs) : cs.length = 6 := by cases h; rfl
/-- Where those blocks are as they were it lies there still. -/
theorem XIn.move {w w' : World} {p q : Nat → Prop} {x : X} {cs : List Value} (h : XIn w p x cs) (hf : ∀ g, p g → g < w.heap.size → q g ∧ w'.heap[g]? = w.heap[g]?) : XIn w' q x cs := by
  induction h with
  | mk k n b s nm ks a c cs hc hm hk ha ih =>
    refine .mk k n b s nm ks a c cs hc hm ih (fun h0 => ?_)
    obtain ⟨g, off, hp, e, hcell⟩ := ha h0
    have hx := hk 0 ks[0] (List.getElem?_eq_getElem h0)
    have hl := hx.six
    have h00 : (cs 0)[0]? = some (cs 0)[0] := List.getElem?_eq_getElem (by omega)
    have hlt : g < w.heap.size := World.block_lt_of_cell? _ _ (hcell 0 0 _ h0 h00)
    obtain ⟨hq, hh⟩ := hf g hp hlt
    refine ⟨g, off, hq, e, fun i j u hi hu => ?_⟩
    rw [World.cell?_of_block (w := w) hh]
    exact hcell i j u hi hu
theorem XIn.keep {w w' : World} {p : Nat → Prop} {x : X} {cs : List Value} (h : XIn w p x cs) (hb : Below w.heap.size w w') : XIn w' p x cs := h.move fun g hp hg => ⟨hp, hb.block g hg⟩
namespace X
/-- A number written with its type. -/
def lit (n b : Int) (s : Bool) : X := if W.lit n (!s) = (b, s, 0) then .mk 1 n b s ⟨#[]⟩ [] else .mk 5 0 b s ⟨#[]⟩ [.mk 1 n (W.lit n true).1 (W.lit n true).2.1 ⟨#[]⟩ []]
/-- It is a number, perhaps with a type ahead. -/
def known (x : X) : Bool := x.kind == 1 || (x.kind == 5 && (x.kids.map X.kind).getD 0 0 == 1)
noncomputable def foldOf (k n b : Int) (s : Bool) (nm : ByteArray) (fs : List X) : X :=
  if (decide (5 ≤ k) && fs.all known) = true ∧ (cst (.mk k n b s nm fs)).e = 0 then lit (cst (.mk k n b s nm fs)).n (cst (.mk k n b s nm fs)).b (cst (.mk k n b s nm fs)).s else .mk k n b s nm fs
mutual
noncomputable def fold : X → X
  | .mk k n b s nm ks => foldOf k n b s nm (folds ks)
noncomputable def folds : List X → List X
  | [] => []
  | x :: xs => fold x :: folds xs
end
theorem folds_eq (xs : List X) : folds xs = xs.map fold := by
  induction xs with
  | nil => rw [folds]; rfl
  | cons x xs ih => rw [folds, ih]; rfl
theorem fold_eq (x : X) : fold x = foldOf x.kind x.num x.bits x.sg x.name (x.kids.map fold) := by
  cases x with | mk k n b s nm ks => rw [fold, folds_eq]; rfl
theorem lit_true (n : Int) (hn : W.U n) : (W.lit n true).2.2 = 0 ∧ (W.lit n true).2.1 = false := by
  unfold W.lit; rw [if_pos rfl]
  split
  · exact ⟨rfl, rfl⟩
  split
  · exact ⟨rfl, rfl⟩
  · exact ⟨rfl, rfl⟩
theorem lit_true_eq (n : Int) (hn : W.U n) : W.lit n (!(W.lit n true).2.1) = ((W.lit n true).1, (W.lit n true).2.1, 0) := by
  obtain ⟨h1, h2⟩ := lit_true n hn
  rw [h2]
  show W.lit n true = _
  rw [Prod.ext_iff, Prod.ext_iff]; exact ⟨rfl, h2, h1⟩
theorem W_I_of_ok {b : Int} (h : W.ok b) : W.I b := by rcases h with rfl | rfl | rfl | rfl <;> constructor <;> decide
theorem cst_one (n b : Int) (s : Bool) (nm : ByteArray) (ks : List X) : cst (.mk 1 n b s nm ks) = ⟨n, b, s, 0⟩ := by rw [cst_eq]; exact if_pos rfl
/-- What is written of a number has it. -/
theorem lit_good (n b : Int) (s : Bool) (hn : W.U n) (hb : W.ok b) (hlt : n < W.md b) : Shp (lit n b s) ∧ Wf (lit n b s) ∧ cst (lit n b s) = ⟨n, b, s, 0⟩ ∧ known (lit n b s) = true := by
  unfold lit
  split
  · rename_i h
    refine ⟨.mk _ _ _ _ _ _ ?_ (fun x hx => by simp at hx), .mk _ _ _ _ _ _ ⟨by decide, by decide⟩ hn (W_I_of_ok hb) (Nat.zero_le _) (fun x hx => by simp at hx), ?_, rfl⟩
    · unfold own; rw [if_neg (by omega), if_neg (fun hh => hh.2 h), if_neg (by omega), if_neg (by omega), if_neg (by simp [kidsOf])]
    · exact cst_one _ _ _ _ _
  · have h1 := lit_true n hn
    have h2 := lit_true_eq n hn
    have hlb := W.lit_rng hn (show W.lit n true = ((W.lit n true).1, (W.lit n true).2.1, 0) by rw [Prod.ext_iff, Prod.ext_iff]; exact ⟨rfl, rfl, h1.1⟩)
    refine ⟨.mk _ _ _ _ _ _ ?_ (fun x hx => ?_), .mk _ _ _ _ _ _ ⟨by decide, by decide⟩ ⟨by decide, by decide⟩ (W_I_of_ok hb) (Nat.zero_le _) (fun x hx => ?_), ?_, rfl⟩
    · unfold own; rw [if_neg (by omega), if_neg (by omega), if_neg (by omega), if_neg (fun hh => by rw [W.okB_t hb] at hh; exact absurd hh.2 (by decide)), if_neg (by simp [kidsOf])]
    · rw [List.mem_singleton] at hx; subst hx
      refine .mk _ _ _ _ _ _ ?_ (fun x hx => by simp at hx)
      unfold own; rw [if_neg (by omega), if_neg (fun hh => hh.2 h2), if_neg (by omega), if_neg (by omega), if_neg (by simp [kidsOf])]
    · rw [List.mem_singleton] at hx; subst hx
      exact .mk _ _ _ _ _ _ ⟨by decide, by decide⟩ hn (W_I_of_ok hlb.1) (Nat.zero_le _) (fun x hx => by simp at hx)
    · have ek : cst (.mk 1 n (W.lit n true).1 (W.lit n true).2.1 ⟨#[]⟩ []) = ⟨n, (W.lit n true).1, (W.lit n true).2.1, 0⟩ := by exact cst_one _ _ _ _ _
      rw [cst_eq]
      show Cst.of 5 0 b s (([X.mk 1 n (W.lit n true).1 (W.lit n true).2.1 ⟨#[]⟩ []].map cst).getD 0 _) _ = _
      rw [show ([X.mk 1 n (W.lit n true).1 (W.lit n true).2.1 ⟨#[]⟩ []].map cst).getD 0 ⟨0, 0, false, 0⟩ = cst (.mk 1 n (W.lit n true).1 (W.lit n true).2.1 ⟨#[]⟩ []) from rfl, ek]
      unfold Cst.of
      rw [if_neg (by omega), if_neg (by omega), if_neg (by simp), if_pos rfl]
      have : W.conv (W.lit n true).1 (W.lit n true).2.1 b n = n := by
        unfold W.conv; rw [h1.2]
        show W.cut (W.lit n true).1 n % W.md b = n
        unfold W.cut
        rw [Int.emod_eq_of_lt hn.1 hlb.2, Int.emod_eq_of_lt hn.1 hlt]
      rw [this]
theorem own_len {k n b : Int} {s : Bool} {nm : List UInt8} {c c' : Nat} (h : c = c') : own k n b s nm c = own k n b s nm c' := by rw [h]
/-- The whole law: shape, ranges, and what it has stay. -/
theorem fold_good (x : X) : Shp x → Wf x → Shp (fold x) ∧ Wf (fold x) ∧ cst (fold x) = cst x ∧ ((cst x).e = 0 → known (fold x) = true) := by
  induction x using X.up with
  | _ x ih =>
    intro hs hw
    obtain ⟨k, n, b, s, nm, ks⟩ := x
    have IH : ∀ y ∈ ks, Shp (fold y) ∧ Wf (fold y) ∧ cst (fold y) = cst y ∧ ((cst y).e = 0 → known (fold y) = true) := fun y hy => ih y hy (hs.kid hy) (hw.kid hy)
    have hso : Shp (.mk k n b s nm (ks.map fold)) := by
      refine .mk _ _ _ _ _ _ ?_ (fun y hy => ?_)
      · rw [List.length_map]; exact hs.own
      · obtain ⟨z, hz, rfl⟩ := List.mem_map.1 hy; exact (IH z hz).1
    have hwo : Wf (.mk k n b s nm (ks.map fold)) := by
      cases hw with | mk _ _ _ _ _ _ hk hn hb hs2 h =>
      refine .mk _ _ _ _ _ _ hk hn hb hs2 (fun y hy => ?_)
      obtain ⟨z, hz, rfl⟩ := List.mem_map.1 hy; exact (IH z hz).2.1
    have hco : cst (.mk k n b s nm (ks.map fold)) = cst (.mk k n b s nm ks) := by
      rw [cst_eq, cst_eq]
      show Cst.of k n b s (((ks.map fold).map cst).getD 0 _) (((ks.map fold).map cst).getD 1 _) = Cst.of k n b s ((ks.map cst).getD 0 _) ((ks.map cst).getD 1 _)
      have : (ks.map fold).map cst = ks.map cst := by
        rw [List.map_map]; exact List.map_congr_left (fun y hy => (IH y hy).2.2.1)
      rw [this]
    rw [fold_eq]
    show Shp (foldOf k n b s nm (ks.map fold)) ∧ Wf (foldOf k n b s nm (ks.map fold)) ∧ cst (foldOf k n b s nm (ks.map fold)) = _ ∧ (_ → known (foldOf k n b s nm (ks.map fold)) = true)
    unfold foldOf
    split
    · rename_i h
      have hf : Cst.Fine (cst (.mk k n b s nm (ks.map fold))) := cst_fine _ hso hwo
      have := hf h.2
      obtain ⟨h1, h2, h3, h4⟩ := lit_good (cst (.mk k n b s nm (ks.map fold))).n (cst (.mk k n b s nm (ks.map fold))).b (cst (.mk k n b s nm (ks.map fold))).s (hf.U h.2) this.1 this.2.2
      refine ⟨h1, h2, ?_, fun _ => h4⟩
      rw [h3, ← hco]
      rw [← h.2]
    · rename_i h
      refine ⟨hso, hwo, hco, fun he => ?_⟩
      rw [← hco] at he
      -- what is not worked out is a number already
      have hk1 : k = 1 := Classical.byContradiction fun hk1 => by
        apply h
        refine ⟨?_, he⟩
        rw [cst_eq] at he
        have he : (Cst.of k n b s (((ks.map fold).map cst).getD 0 ⟨0, 0, false, 0⟩) (((ks.map fold).map cst).getD 1 ⟨0, 0, false, 0⟩)).e = 0 := he
        unfold Cst.of at he
        rw [if_neg hk1] at he
        split at he
        · exact absurd he (by decide)
        rename_i hk5
        have hk5 : 5 ≤ k ∧ k ≤ 26 := by omega
        have all : ∀ y ∈ ks, (cst y).e = 0 := by
          have ek : (ks.map fold).map cst = ks.map cst := by
            rw [List.map_map]; exact List.map_congr_left (fun y hy => (IH y hy).2.2.1)
          rw [ek] at he
          rcases Int.lt_or_le k 9 with h9 | h9
          · obtain ⟨y, hy⟩ := hs.one hk5.1 h9
            have hy : ks = [y] := hy
            subst hy
            have e0 : ([y].map cst).getD 0 ⟨0, 0, false, 0⟩ = cst y := rfl
            rw [e0] at he
            intro z hz
            rw [List.mem_singleton] at hz; subst hz
            split at he
            · rename_i h; exact he
            · rename_i h; omega
          · obtain ⟨y, z, hy⟩ := hs.two h9
            have hy : ks = [y, z] := hy
            subst hy
            have e0 : ([y, z].map cst).getD 0 ⟨0, 0, false, 0⟩ = cst y := rfl
            have e1 : ([y, z].map cst).getD 1 ⟨0, 0, false, 0⟩ = cst z := rfl
            rw [e0, e1] at he
            have hy0 : (cst y).e = 0 := by
              split at he
              · exact he
              · rename_i h; omega
            have hz0 : (cst z).e = 0 := by
              rw [if_neg (by omega), if_neg (by omega), if_neg (by omega)] at he
              split at he
              · exact he
              · rename_i h; omega
            intro q hq
            simp only [List.mem_cons, List.mem_singleton, List.not_mem_nil, or_false] at hq
            rcases hq with rfl | rfl
            · exact hy0
            · exact hz0
        rw [decide_eq_true hk5.1, Bool.true_and, List.all_eq_true]
        intro y hy
        obtain ⟨z, hz, rfl⟩ := List.mem_map.1 hy
        exact (IH z hz).2.2.2 (all z hz)
      subst hk1
      rfl
end X
end Go.Proofs.Ytkmcniaaecijdaa
