/- Plain law of TypesNarrow: what is cut is cut at any time. No condition. -/
import Derived.Test.YtgpjhbaehhjdhaaT2
import Derived.Test.YtgpjhbaehhjdhaaT3
namespace Go.Proofs.Ytgpjhbaehhjdhaa
open Go.RowKit
set_option linter.unusedVariables false
set_option linter.unusedSimpArgs false

theorem W.conv_mod (fb tb vb : Int) (fs : Bool) (x : Int) (hf : W.ok fb) (ht : W.ok tb) (hv : W.ok vb) (h1 : vb ≤ fb) (h2 : vb ≤ tb) : W.conv fb fs tb x % W.md vb = x % W.md vb := by
  unfold W.conv
  rw [W.narrow vb tb _ hv ht h2]
  split
  · rw [← W.narrow vb fb _ hv hf h1, W.sg_mod, W.narrow vb fb _ hv hf h1]
  · unfold W.cut; rw [W.narrow vb fb _ hv hf h1]
theorem W.conv_down (fb vb : Int) (fs : Bool) (x : Int) (hf : W.ok fb) (hv : W.ok vb) (h1 : vb ≤ fb) : W.conv fb fs vb x = x % W.md vb := by
  have := W.conv_mod fb vb vb fs x hf hv hv h1 (Int.le_refl _)
  rw [← this]; unfold W.conv; rw [Int.emod_emod]
theorem W.pow_of (v : Int) (h : W.ok v) : ∃ i : Nat, i ≤ 64 ∧ W.md v = ((2 ^ i : Nat) : Int) := by
  rcases h with rfl | rfl | rfl | rfl
  · exact ⟨8, by omega, by decide⟩
  · exact ⟨16, by omega, by decide⟩
  · exact ⟨32, by omega, by decide⟩
  · exact ⟨64, by omega, by decide⟩
theorem W.mod_cast (v a : Int) (i : Nat) (hi : W.md v = ((2 ^ i : Nat) : Int)) (ha : W.U a) : (a % W.md v).toNat = a.toNat % 2 ^ i := by
  obtain ⟨n, rfl⟩ := Int.eq_ofNat_of_zero_le ha.1
  rw [hi, ← Int.natCast_emod, Int.toNat_natCast, Int.toNat_natCast]
theorem W.and_mod (v a b : Int) (h : W.ok v) (ha : W.U a) (hb : W.U b) : bits .and .u64 a b % W.md v = bits .and .u64 (a % W.md v) (b % W.md v) := by
  obtain ⟨i, _, hi⟩ := W.pow_of v h
  rw [u64_and a b ha.1 ha.2 hb.1 hb.2, u64_and _ _ (W.mod_lo _ _) (W.mod_le _ _) (W.mod_lo _ _) (W.mod_le _ _), W.mod_cast v a i hi ha, W.mod_cast v b i hi hb, hi, ← Int.natCast_emod, Nat.and_mod_two_pow]
theorem W.or_mod (v a b : Int) (h : W.ok v) (ha : W.U a) (hb : W.U b) : bits .or .u64 a b % W.md v = bits .or .u64 (a % W.md v) (b % W.md v) := by
  obtain ⟨i, _, hi⟩ := W.pow_of v h
  rw [u64_or a b ha.1 ha.2 hb.1 hb.2, u64_or _ _ (W.mod_lo _ _) (W.mod_le _ _) (W.mod_lo _ _) (W.mod_le _ _), W.mod_cast v a i hi ha, W.mod_cast v b i hi hb, hi, ← Int.natCast_emod, Nat.or_mod_two_pow]
theorem W.xor_mod (v a b : Int) (h : W.ok v) (ha : W.U a) (hb : W.U b) : bits .xor .u64 a b % W.md v = bits .xor .u64 (a % W.md v) (b % W.md v) := by
  obtain ⟨i, _, hi⟩ := W.pow_of v h
  rw [u64_xor a b ha.1 ha.2 hb.1 hb.2, u64_xor _ _ (W.mod_lo _ _) (W.mod_le _ _) (W.mod_lo _ _) (W.mod_le _ _), W.mod_cast v a i hi ha, W.mod_cast v b i hi hb, hi, ← Int.natCast_emod, Nat.xor_mod_two_pow]
theorem W.U_nat (n : Nat) (hn : n < 2 ^ 64) : W.U (n : Int) := ⟨by omega, by omega⟩
theorem W.U_lt (x : Int) (hx : W.U x) : x.toNat < 2 ^ 64 := by have := hx.1; have := hx.2; omega
theorem W.U_and (a b : Int) (ha : W.U a) (hb : W.U b) : W.U (bits .and .u64 a b) := by rw [u64_and a b ha.1 ha.2 hb.1 hb.2]; exact W.U_nat _ (Nat.and_lt_two_pow _ (W.U_lt b hb))
theorem W.U_or (a b : Int) (ha : W.U a) (hb : W.U b) : W.U (bits .or .u64 a b) := by rw [u64_or a b ha.1 ha.2 hb.1 hb.2]; exact W.U_nat _ (Nat.or_lt_two_pow (W.U_lt a ha) (W.U_lt b hb))
theorem W.U_xor (a b : Int) (ha : W.U a) (hb : W.U b) : W.U (bits .xor .u64 a b) := by rw [u64_xor a b ha.1 ha.2 hb.1 hb.2]; exact W.U_nat _ (Nat.xor_lt_two_pow (W.U_lt a ha) (W.U_lt b hb))

/-- What the six operators make of two numbers of one type. -/
def W.six (k v a b : Int) : Int := if k = 12 then W.add v a b else if k = 13 then W.sub v a b else if k = 9 then W.mul v a b else if k = 22 then bits .and .u64 a b else if k = 23 then bits .xor .u64 a b else bits .or .u64 a b
def W.is6 (k : Int) : Prop := k = 12 ∨ k = 13 ∨ k = 9 ∨ k = 22 ∨ k = 23 ∨ k = 24
theorem W.cb_self (v : Int) (h16 : 16 ≤ v) : W.cb v v = v := by unfold W.cb W.pb; split <;> split <;> omega
theorem W.cs_self (v : Int) (s : Bool) (h16 : 16 ≤ v) : W.cs v s v s = s := by
  unfold W.cs W.ps
  rw [if_neg (Int.lt_irrefl _), if_neg (Int.lt_irrefl _), if_neg (by omega)]; cases s <;> rfl
theorem W.six12 (v a b : Int) : W.six 12 v a b = W.add v a b := by unfold W.six; rw [if_pos rfl]
theorem W.six13 (v a b : Int) : W.six 13 v a b = W.sub v a b := by unfold W.six; rw [if_neg (by decide), if_pos rfl]
theorem W.six9 (v a b : Int) : W.six 9 v a b = W.mul v a b := by unfold W.six; rw [if_neg (by decide), if_neg (by decide), if_pos rfl]
theorem W.six22 (v a b : Int) : W.six 22 v a b = bits .and .u64 a b := by unfold W.six; rw [if_neg (by decide), if_neg (by decide), if_neg (by decide), if_pos rfl]
theorem W.six23 (v a b : Int) : W.six 23 v a b = bits .xor .u64 a b := by unfold W.six; rw [if_neg (by decide), if_neg (by decide), if_neg (by decide), if_neg (by decide), if_pos rfl]
theorem W.six24 (v a b : Int) : W.six 24 v a b = bits .or .u64 a b := by unfold W.six; rw [if_neg (by decide), if_neg (by decide), if_neg (by decide), if_neg (by decide), if_neg (by decide)]
theorem W.six_U (k v a b : Int) (hk : W.is6 k) (ha : W.U a) (hb : W.U b) : W.U (W.six k v a b) := by
  rcases hk with rfl | rfl | rfl | rfl | rfl | rfl
  · rw [W.six12]; exact W.U_add _ _ _
  · rw [W.six13]; exact W.U_sub _ _ _
  · rw [W.six9]; exact W.U_mul _ _ _
  · rw [W.six22]; exact W.U_and a b ha hb
  · rw [W.six23]; exact W.U_xor a b ha hb
  · rw [W.six24]; exact W.U_or a b ha hb
theorem W.six_mod (k v wd a b p q : Int) (hk : W.is6 k) (hv : W.ok v) (hw : W.ok wd) (h : v ≤ wd) (hp : W.U p) (hq : W.U q) (ep : p % W.md v = a % W.md v) (eq : q % W.md v = b % W.md v) :
    W.six k wd p q % W.md v = W.six k v (a % W.md v) (b % W.md v) := by
  rcases hk with rfl | rfl | rfl | rfl | rfl | rfl
  · rw [W.six12, W.six12]; unfold W.add; rw [W.narrow v wd _ hv hw h, Int.add_emod, ep, eq]
  · rw [W.six13, W.six13]; unfold W.sub; rw [W.narrow v wd _ hv hw h, Int.sub_emod, ep, eq]
  · rw [W.six9, W.six9]; unfold W.mul; rw [W.narrow v wd _ hv hw h, Int.mul_emod, ep, eq]
  · rw [W.six22, W.six22, W.and_mod v p q hv hp hq, ep, eq]
  · rw [W.six23, W.six23, W.xor_mod v p q hv hp hq, ep, eq]
  · rw [W.six24, W.six24, W.or_mod v p q hv hp hq, ep, eq]
/-- THE LAW. -/
theorem W.narrow6 (k xb wb a b : Int) (xs ws : Bool) (hk : W.is6 k) (hx : W.ok xb) (hw : W.ok wb) (h : xb ≤ wb) :
    W.conv wb ws xb (W.six k wb (W.conv wb ws wb (W.conv xb xs wb a)) (W.conv wb ws wb (W.conv xb xs wb b))) = W.six k xb (W.conv xb xs xb a) (W.conv xb xs xb b) := by
  rw [W.conv_down wb xb ws _ hw hx h, W.conv_down xb xb xs a hx hx (Int.le_refl _), W.conv_down xb xb xs b hx hx (Int.le_refl _)]
  refine W.six_mod k xb wb a b _ _ hk hx hw h (W.conv_U _ _ _ _) (W.conv_U _ _ _ _) ?_ ?_
  · rw [W.conv_mod wb wb xb ws _ hw hw hx h h, W.conv_mod xb wb xb xs a hx hw hx (Int.le_refl _) h]
  · rw [W.conv_mod wb wb xb ws _ hw hw hx h h, W.conv_mod xb wb xb xs b hx hw hx (Int.le_refl _) h]
end Go.Proofs.Ytgpjhbaehhjdhaa
