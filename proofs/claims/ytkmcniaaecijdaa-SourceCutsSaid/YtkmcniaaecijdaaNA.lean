/- Plain facts on numbers as words of 32 bits. No condition. -/
import Derived.Test.YtkmcniaaecijdaaB0
import Derived.Test.YtkmcniaaecijdaaChecked
import Derived.Deep.OwnRows
import Derived.Deep.AppendLies
import Derived.WalkSpells
import Derived.WalkLawsBesides
import Derived.Outline
namespace Go.Proofs.Ytkmcniaaecijdaa
open Go.RowKit
set_option linter.unusedVariables false
namespace N

/-- The base, as a letter. -/
def B : Nat := 4294967296
theorem B_eq : B = 4294967296 := rfl
theorem B_pos : 0 < B := by decide
theorem B_pow : B = 2 ^ 32 := by decide
theorem Bk_pos (k : Nat) : 0 < B ^ k := Nat.pow_pos B_pos
/-- Word i of n. -/
def wd (n i : Nat) : Nat := n / B ^ i % B
theorem wd_lt (n i : Nat) : wd n i < 4294967296 := Nat.mod_lt _ B_pos
theorem wd_zero (n : Nat) : wd n 0 = n % B := by unfold wd; rw [Nat.pow_zero, Nat.div_one]
theorem div_succ (n i : Nat) : n / B ^ i = n / B ^ (i + 1) * B + wd n i := by
  unfold wd
  rw [Nat.pow_succ, ← Nat.div_div_eq_div_mul, Nat.div_add_mod']
theorem mod_succ (n i : Nat) : n % B ^ (i + 1) = n % B ^ i + wd n i * B ^ i := by
  unfold wd
  rw [Nat.pow_succ, Nat.mod_mul, Nat.mul_comm]
theorem wd_high {n i k : Nat} (h : n < B ^ k) (hk : k ≤ i) : wd n i = 0 := by
  unfold wd
  rw [Nat.div_eq_of_lt (Nat.lt_of_lt_of_le h (Nat.pow_le_pow_right B_pos hk)), Nat.zero_mod]
theorem wd_mod {n i k : Nat} (h : i < k) : wd (n % B ^ k) i = wd n i := by
  unfold wd
  obtain ⟨d, rfl⟩ : ∃ d, k = i + 1 + d := ⟨k - i - 1, by omega⟩
  rw [Nat.pow_add, Nat.pow_succ, Nat.mul_assoc, Nat.mod_mul_right_div_self, Nat.mod_mul_right_mod]
/-- Its lowest L words, as whole numbers. -/
def lv (n L : Nat) : List Int := (List.range L).map fun i => ((wd n i : Nat) : Int)
theorem lv_length (n L : Nat) : (lv n L).length = L := by simp [lv]
theorem lv_get {n L i : Nat} (h : i < L) : (lv n L)[i]? = some ((wd n i : Nat) : Int) := by simp [lv, h]
theorem lv_getD {n L i : Nat} (h : i < L) : (lv n L).getD i 0 = ((wd n i : Nat) : Int) := by
  rw [List.getD_eq_getElem?_getD, lv_get h]; rfl
theorem lv_take {n L k : Nat} (h : k ≤ L) : (lv n L).take k = lv n k := by
  apply List.ext_getElem?
  intro i
  rw [List.getElem?_take]
  split
  · rw [lv_get (by omega), lv_get (by omega)]
  · rw [List.getElem?_eq_none (by rw [lv_length]; omega)]
theorem lv_congr {n m L : Nat} (h : ∀ i, i < L → wd n i = wd m i) : lv n L = lv m L := by
  unfold lv
  apply List.map_congr_left
  intro i hi
  rw [h i (by simpa using hi)]
theorem lv_mod (n L : Nat) : lv (n % B ^ L) L = lv n L := lv_congr fun i hi => wd_mod hi
theorem lv_zero (L : Nat) : lv 0 L = List.replicate L 0 := by
  apply List.ext_getElem?
  intro i
  by_cases h : i < L
  · rw [lv_get h]; simp [h, wd]
  · rw [List.getElem?_eq_none (by rw [lv_length]; omega), List.getElem?_eq_none (by simp; omega)]

/-- A number in parts: above, at, and below a word. -/
theorem parts (n k : Nat) : n = n / B ^ (k + 1) * B ^ (k + 1) + wd n k * B ^ k + n % B ^ k := by
  have h1 := Nat.div_add_mod' n (B ^ (k + 1))
  rw [mod_succ] at h1
  omega
theorem wd_parts (hi x lo k : Nat) (hx : x < B) (hlo : lo < B ^ k) (i : Nat) :
    wd (hi * B ^ (k + 1) + x * B ^ k + lo) i = if i < k then wd lo i else if i = k then x else wd hi (i - (k + 1)) := by
  have e : hi * B ^ (k + 1) + x * B ^ k + lo = lo + B ^ k * (x + B * hi) := by
    rw [Nat.pow_succ, Nat.mul_add, Nat.mul_comm (B ^ k) x, show hi * (B ^ k * B) = B ^ k * (B * hi) from by rw [Nat.mul_left_comm, Nat.mul_comm hi B]]; omega
  rw [e]
  split
  · rename_i h
    rw [← wd_mod h, Nat.add_mul_mod_self_left, wd_mod h]
  split
  · rename_i h1 h2
    subst h2
    unfold wd
    rw [Nat.add_mul_div_left _ _ (Bk_pos i), Nat.div_eq_of_lt hlo, Nat.zero_add, Nat.add_mul_mod_self_left, Nat.mod_eq_of_lt hx]
  · rename_i h1 h2
    unfold wd
    obtain ⟨d, rfl⟩ : ∃ d, i = k + (1 + d) := ⟨i - (k + 1), by omega⟩
    rw [Nat.pow_add, ← Nat.div_div_eq_div_mul, Nat.add_mul_div_left _ _ (Bk_pos k), Nat.div_eq_of_lt hlo, Nat.zero_add, Nat.pow_add, Nat.pow_one, ← Nat.div_div_eq_div_mul, Nat.add_mul_div_left _ _ B_pos, Nat.div_eq_of_lt hx, Nat.zero_add,
      show k + (1 + d) - (k + 1) = d from by omega]
/-- Word k put in. -/
theorem lv_set {n k L x : Nat} (hx : x < B) (hk : k < L) : (lv n L).set k (x : Int) = lv (n - wd n k * B ^ k + x * B ^ k) L := by
  have e1 := parts n k
  have e2 : n - wd n k * B ^ k + x * B ^ k = n / B ^ (k + 1) * B ^ (k + 1) + x * B ^ k + n % B ^ k := by
    have h : ∀ N A W g X : Nat, N = A + W + g → N - W + X = A + X + g := by intros; omega
    exact h _ _ _ _ _ e1
  rw [e2]
  apply List.ext_getElem?
  intro i
  by_cases h : i < L
  · rw [lv_get h, wd_parts _ _ _ _ hx (Nat.mod_lt _ (Bk_pos k))]
    rw [List.getElem?_set]
    by_cases h2 : k = i
    · subst h2; simp [lv_length, hk]
    · rw [if_neg h2, lv_get h]
      congr 2
      conv => lhs; rw [e1]
      rw [wd_parts _ _ _ _ (show wd n k < B from wd_lt n k) (Nat.mod_lt _ (Bk_pos k))]
      by_cases h3 : i < k
      · rw [if_pos h3, if_pos h3]
      · rw [if_neg h3, if_neg h3, if_neg (Ne.symm h2), if_neg (Ne.symm h2)]
  · rw [List.getElem?_eq_none (by rw [List.length_set, lv_length]; omega), List.getElem?_eq_none (by rw [lv_length]; omega)]
theorem lv_put {n k L x : Nat} (h0 : wd n k = 0) (hx : x < B) (hk : k < L) : (lv n L).set k (x : Int) = lv (n + x * B ^ k) L := by
  rw [lv_set hx hk, h0, Nat.zero_mul, Nat.sub_zero]

/-- How many words a number has. -/
def ln (n : Nat) : Nat := if n = 0 then 0 else Nat.log2 n / 32 + 1
theorem ln_zero : ln 0 = 0 := rfl
theorem Bk (k : Nat) : B ^ k = 2 ^ (32 * k) := by rw [B_pow, ← Nat.pow_mul]
theorem lt_ln (n : Nat) : n < B ^ ln n := by
  unfold ln
  split
  · rename_i h; subst h; decide
  · rename_i h
    rw [Bk]
    refine Nat.lt_of_lt_of_le Nat.lt_log2_self (Nat.pow_le_pow_right (by decide) ?_)
    have := Nat.div_add_mod (Nat.log2 n) 32
    have := Nat.mod_lt (Nat.log2 n) (show 0 < 32 by decide)
    omega
theorem ln_pos {n : Nat} (h : n ≠ 0) : 0 < ln n := by unfold ln; rw [if_neg h]; omega
theorem ln_top {n : Nat} (h : n ≠ 0) : B ^ (ln n - 1) ≤ n := by
  unfold ln
  rw [if_neg h, Bk]
  refine Nat.le_trans (Nat.pow_le_pow_right (by decide) ?_) (Nat.log2_self_le h)
  have := Nat.div_add_mod (Nat.log2 n) 32
  omega
theorem ln_le {n k : Nat} (h : n < B ^ k) : ln n ≤ k := by
  rcases Nat.lt_or_ge k (ln n) with h' | h'
  · exfalso
    have hn : n ≠ 0 := by intro e; subst e; rw [ln_zero] at h'; omega
    have := ln_top hn
    have := Nat.pow_le_pow_right B_pos (show k ≤ ln n - 1 by omega)
    omega
  · exact h'
theorem ln_of {n k : Nat} (h : n < B ^ k) (h0 : k = 0 ∨ wd n (k - 1) ≠ 0) : ln n = k := by
  refine Nat.le_antisymm (ln_le h) ?_
  rcases h0 with h0 | h0
  · omega
  · rcases Nat.lt_or_ge (ln n) k with h' | h'
    · exact absurd (wd_high (lt_ln n) (show ln n ≤ k - 1 by omega)) h0
    · exact h'
theorem lt_of_ln {a b : Nat} (h : ln a < ln b) : a < b := by
  have hb : b ≠ 0 := by intro e; subst e; rw [ln_zero] at h; omega
  have h1 := lt_ln a
  have h2 := ln_top hb
  have := Nat.pow_le_pow_right B_pos (show ln a ≤ ln b - 1 by omega)
  omega
theorem ln_mono {a b : Nat} (h : a ≤ b) : ln a ≤ ln b := ln_le (Nat.lt_of_le_of_lt h (lt_ln b))
theorem wd_top {n : Nat} (h : n ≠ 0) : wd n (ln n - 1) ≠ 0 := by
  intro e
  have h1 := ln_top h
  have h2 := lt_ln n
  have h3 := ln_pos h
  have h4 := mod_succ n (ln n - 1)
  rw [show ln n - 1 + 1 = ln n from by omega, Nat.mod_eq_of_lt h2, e, Nat.zero_mul, Nat.add_zero] at h4
  have := Nat.mod_lt n (Bk_pos (ln n - 1))
  omega
/-- Comparing from above. -/
theorem cmp_step {a b i : Nat} (h : a / B ^ (i + 1) = b / B ^ (i + 1)) (hw : wd a i < wd b i) : a < b := by
  have h1 := div_succ a i
  have h2 := div_succ b i
  have h3 : a / B ^ i < b / B ^ i := by rw [h1, h2, h]; omega
  rcases Nat.lt_or_ge a b with h' | h'
  · exact h'
  · have := Nat.div_le_div_right (c := B ^ i) h'; omega
theorem cmp_same {a b i : Nat} (h : a / B ^ (i + 1) = b / B ^ (i + 1)) (hw : wd a i = wd b i) : a / B ^ i = b / B ^ i := by
  rw [div_succ a i, div_succ b i, h, hw]

/-- Adding: the carry behind k words. -/
def cy (a b k : Nat) : Nat := (a % B ^ k + b % B ^ k) / B ^ k
theorem cy_zero (a b : Nat) : cy a b 0 = 0 := by simp [cy, Nat.mod_one]
theorem cy_le (a b k : Nat) : cy a b k ≤ 1 := by
  unfold cy
  have h1 := Nat.mod_lt a (Bk_pos k); have h2 := Nat.mod_lt b (Bk_pos k)
  have : (a % B ^ k + b % B ^ k) / B ^ k < 2 := by rw [Nat.div_lt_iff_lt_mul (Bk_pos k)]; omega
  omega
theorem add_mod_cy (a b k : Nat) : a % B ^ k + b % B ^ k = (a + b) % B ^ k + cy a b k * B ^ k := by
  unfold cy
  rw [Nat.add_mod a b, Nat.mul_comm, Nat.mod_add_div]
theorem add_step (a b k : Nat) : (wd a k + wd b k + cy a b k) % B = wd (a + b) k ∧ (wd a k + wd b k + cy a b k) / B = cy a b (k + 1) := by
  have h1 := add_mod_cy a b k
  have h2 := add_mod_cy a b (k + 1)
  rw [mod_succ, mod_succ, mod_succ] at h2
  have hw := wd_lt (a + b) k
  have key : (wd a k + wd b k + cy a b k) = wd (a + b) k + B * cy a b (k + 1) := by
    have e : B ^ (k + 1) = B ^ k * B := Nat.pow_succ _ _
    have h3 : B ^ k * (wd a k + wd b k + cy a b k) = B ^ k * (wd (a + b) k + B * cy a b (k + 1)) := by
      rw [Nat.mul_add, Nat.mul_add, Nat.mul_add, ← Nat.mul_assoc]
      rw [e] at h2
      have c1 := Nat.mul_comm (wd a k) (B ^ k); have c2 := Nat.mul_comm (wd b k) (B ^ k); have c3 := Nat.mul_comm (wd (a + b) k) (B ^ k); have c4 := Nat.mul_comm (cy a b k) (B ^ k); have c5 := Nat.mul_comm (cy a b (k + 1)) (B ^ k * B)
      omega
    exact Nat.eq_of_mul_eq_mul_left (Bk_pos k) h3
  rw [key]
  refine ⟨?_, ?_⟩
  · rw [Nat.add_mul_mod_self_left]; exact Nat.mod_eq_of_lt hw
  · rw [Nat.add_mul_div_left _ _ B_pos, Nat.div_eq_of_lt (show wd (a + b) k < B from hw), Nat.zero_add]
theorem add_end {a b L : Nat} (ha : a < B ^ L) (hb : b < B ^ L) : a + b = (a + b) % B ^ L + cy a b L * B ^ L := by
  rw [← add_mod_cy, Nat.mod_eq_of_lt ha, Nat.mod_eq_of_lt hb]

/-- Taking away: the borrow behind k words. -/
def bw (a b k : Nat) : Nat := if a % B ^ k < b % B ^ k then 1 else 0
theorem bw_zero (a b : Nat) : bw a b 0 = 0 := by simp [bw, Nat.mod_one]
theorem bw_le (a b k : Nat) : bw a b k ≤ 1 := by unfold bw; split <;> omega
theorem sub_mod_bw {a b : Nat} (h : b ≤ a) (k : Nat) : a % B ^ k + bw a b k * B ^ k = (a - b) % B ^ k + b % B ^ k := by
  have h1 := add_mod_cy (a - b) b k
  rw [Nat.sub_add_cancel h] at h1
  have h2 := cy_le (a - b) b k
  have ha := Nat.mod_lt a (Bk_pos k); have hb := Nat.mod_lt b (Bk_pos k); have hc := Nat.mod_lt (a - b) (Bk_pos k)
  unfold bw
  generalize a % B ^ k = p at *; generalize b % B ^ k = q at *; generalize (a - b) % B ^ k = r at *; generalize B ^ k = m at *
  rcases (show cy (a - b) b k = 0 ∨ cy (a - b) b k = 1 by omega) with e | e <;> rw [e] at h1
  · rw [if_neg (by omega)]; omega
  · rw [if_pos (by omega)]; omega
theorem sub_step {a b : Nat} (h : b ≤ a) (k : Nat) : wd a k + bw a b (k + 1) * B = wd (a - b) k + wd b k + bw a b k := by
  have h1 := sub_mod_bw h k
  have h2 := sub_mod_bw h (k + 1)
  rw [mod_succ, mod_succ, mod_succ] at h2
  have e : B ^ (k + 1) = B ^ k * B := Nat.pow_succ _ _
  have h3 : B ^ k * (wd a k + bw a b (k + 1) * B) = B ^ k * (wd (a - b) k + wd b k + bw a b k) := by
    rw [Nat.mul_add, Nat.mul_add, Nat.mul_add]
    rw [e] at h2
    have c1 := Nat.mul_comm (wd a k) (B ^ k); have c2 := Nat.mul_comm (wd b k) (B ^ k); have c3 := Nat.mul_comm (wd (a - b) k) (B ^ k); have c4 := Nat.mul_comm (bw a b k) (B ^ k)
    have c5 : bw a b (k + 1) * (B ^ k * B) = B ^ k * (bw a b (k + 1) * B) := by rw [← Nat.mul_assoc, Nat.mul_comm (bw a b (k + 1)), Nat.mul_assoc]
    omega
  exact Nat.eq_of_mul_eq_mul_left (Bk_pos k) h3
end N
end Go.Proofs.Ytkmcniaaecijdaa
/- Walks of the reckoner with numbers of any size: lists of words: trim, twin, plain, cmp. -/
namespace Go.Proofs.Ytkmcniaaecijdaa
open Go.RowKit
set_option linter.unusedVariables false
set_option linter.unusedSimpArgs false
set_option maxRecDepth 100000

/-- The slice's block is one of words. -/
def Tp (w : World) (v : Value) : Prop := ∀ b off l c, v = .slice (some ⟨b, off, none⟩) l c → l ≠ 0 → ∃ cur fr, w.heap[b]? = some (.cells cur 122 fr)
theorem Tp.below {w w' : World} {v : Value} (h : Tp w v) (hb : Below w.heap.size w w') : Tp w' v := fun b off l c e h0 => by
  obtain ⟨cur, fr, hh⟩ := h b off l c e h0
  have hlt : b < w.heap.size := by
    rcases Nat.lt_or_ge b w.heap.size with hlt | hge
    · exact hlt
    · rw [Array.getElem?_eq_none hge] at hh; cases hh
  exact ⟨cur, fr, (hb.block b hlt).trans hh⟩
theorem Tp.alloc (w : World) (cs : Array Value) (fr : Nat × Nat) (off l c : Nat) : Tp (w.alloc (.cells cs 122 fr)) (.slice (some ⟨w.heap.size, off, none⟩) l c) := by
  intro b off' l' c' e _
  injection e with e1 _ _
  injection e1 with e1
  injection e1 with e1 _ _
  subst e1
  exact ⟨cs, fr, heap_alloc_new w _⟩
theorem Tp.none (w : World) (l c : Nat) : Tp w (.slice none l c) := by intro b off l' c' e; cases e
theorem Tp.of_owns {w : World} {base size n : Nat} {v : Value} {xs : List Value} (h : w.ownsRow base 122 size v n xs) : Tp w v := by
  intro b off l c e _
  rcases h.2 with ⟨rfl, _⟩ | ⟨g, cap, cur, rfl, _, hg, _⟩
  · cases e
  · injection e with e1 _ _
    injection e1 with e1
    injection e1 with e1 _ _
    subst e1
    exact ⟨cur, _, hg⟩
/-- The slice v holds the number n: its words, the lowest first, without noughts at the end. -/
def Nm (w : World) (v : Value) (n : Nat) : Prop := Rd w 1 v (N.ln n) ((N.lv n (N.ln n)).map (Value.int .u32)) ∧ Tp w v
theorem Nm.below {w w' : World} {v : Value} {n : Nat} (h : Nm w v n) (hb : Below w.heap.size w w') : Nm w' v n := ⟨Rd.below h.1 hb, h.2.below hb⟩
/-- It is not larger than any that comes up. -/
def Sm (n : Nat) : Prop := N.ln n ≤ 30
theorem Sm.of_lt {n : Nat} (h : n < N.B ^ 30) : Sm n := N.ln_le h

set_option maxHeartbeats 2000000 in
theorem trim_raw (A : Option Addr) (L cap n : Nat) (hL : L ≤ cap) (hm : L ≤ 9223372036854775807) (hn : Hid (n < N.B ^ L)) (w : World)
    (hr : Hid (0 < L → ∃ b off, A = some ⟨b, off, none⟩ ∧ ∀ j, j < L → w.cell? ⟨b, off + j, none⟩ = some (.int .u32 (N.wd n j : Nat)))) :
    Calls Try.prog 116 #[.slice A L cap] w fun e w' => e = .returned (.slice A (N.ln n) cap) ∧ w = w' := by
  go_enter Try.func116, Try.ntmps116
  go_wp2
  go_loop [3] (fun i => ∃ k : Nat, k ≤ L ∧ i = .int .i64 k ∧ Hid (n < N.B ^ k)) (fun i => (intOf i).toNat)
  case atStart => exact ⟨L, Nat.le_refl _, rfl, hn⟩
  case round =>
    obtain ⟨k, hk, rfl, hnk⟩ := hrel
    by_cases h0 : k = 0
    · subst h0
      have e : Hid (N.ln n = 0) := N.ln_of hnk.out (.inl rfl)
      go_wp2
      go_ret
      exact ⟨by rw [e.out]; rfl, rfl⟩
    · have hk1 : 1 ≤ k := by omega
      clear h0
      obtain ⟨b, off, rfl, hc⟩ := hr.out (by omega)
      obtain ⟨X, hX⟩ : ∃ X : Int, X = (N.wd n (k - 1) : Nat) := ⟨_, rfl⟩
      have c1 : w.cell? ⟨b, off + (k - 1), none⟩ = some (.int .u32 X) := by rw [hX]; exact hc _ (by omega)
      have HX := Lib.hid hX; have HC := Lib.hid hc; clear hX hc
      by_cases hz : (X == 0) = true
      · go_wp2
        go_round
        case rel => exact ⟨k - 1, by omega, by go_num, by
          have h1 : N.wd n (k - 1) = 0 := by have := HX.out; simp at hz; omega
          have h2 := N.mod_succ n (k - 1)
          rw [show k - 1 + 1 = k from by omega, Nat.mod_eq_of_lt hnk.out, h1, Nat.zero_mul, Nat.add_zero] at h2
          rw [h2]; exact Nat.mod_lt _ (N.Bk_pos _)⟩
        case measure => simp [intOf]; omega
      · have hz' : (X == 0) = false := by simpa using hz
        clear hz
        have e : Hid (N.ln n = k) := N.ln_of hnk.out (.inr (by have := HX.out; simp at hz'; omega))
        go_wp2
        go_ret
        exact ⟨by rw [e.out]; rfl, rfl⟩

/-- THE CONTRACT OF trim: of L words that read as n's. -/
theorem trim_ok (v : Value) (L n : Nat) (hn : n < N.B ^ L) (w : World) (hvt : Rd w 1 v L ((N.lv n L).map (Value.int .u32)) ∧ Tp w v) :
    Calls Try.prog 116 #[v] w fun e w' => ∃ u, e = .returned u ∧ w = w' ∧ Nm w u n := by
  obtain ⟨hv, htp⟩ := hvt
  obtain ⟨hl, hm, A, cap, rfl, hc, ha⟩ := hv.ints
  refine (trim_raw A L cap n hc (by unfold maxLen at hm; omega) hn w (fun h0 => ?_)).mono ?_
  · obtain ⟨b, off, hA, hcell⟩ := ha h0
    exact ⟨b, off, hA, fun j hj => by rw [hcell j hj, N.lv_getD hj]⟩
  · rintro e w' ⟨rfl, rfl⟩
    refine ⟨_, rfl, rfl, ?_⟩
    have hle := N.ln_le hn
    refine ⟨⟨by simp [N.lv_length], by unfold maxLen at hm ⊢; omega, A, cap, rfl, by omega, fun hne => ?_⟩, fun b off l c e h0 => ?_⟩
    rotate_left
    · injection e with e1 e2 e3
      subst e1
      exact htp b off L cap rfl (by omega)
    have h0 : 0 < N.ln n := by
      rcases Nat.eq_zero_or_pos (N.ln n) with h | h
      · exfalso; apply hne; rw [h]; rfl
      · exact h
    obtain ⟨b, off, hA, hcell⟩ := ha (by omega)
    refine ⟨b, off, hA, fun j u hu => ?_⟩
    rw [List.getElem?_map] at hu
    by_cases hj : j < N.ln n
    · rw [N.lv_get hj] at hu
      simp only [Option.map_some, Option.some.injEq] at hu
      subst hu
      rw [hcell j (by omega), N.lv_getD (by omega)]
    · rw [List.getElem?_eq_none (by rw [N.lv_length]; omega)] at hu
      cases hu

section
variable {P : Program} (w : World)
theorem run_append_of_nil' (base : Nat) (t ty e : TypeId) (i : TypeInfo) (size : Nat) (ht : P.underlying t = some (.slice e)) (hi : P.info? e = some i)
    (v : Value) (n : Nat) (xs : List Value) (hown : w.ownsRow base e size v n xs) (c : Nat) : (Builtin.append_ #[t, t] ty #[v, .slice none 0 c]).run P w = .ok v w := by
  rcases hown.2 with ⟨rfl, rfl⟩ | ⟨g, cap, cur, rfl, _, _, hnc, _⟩
  · simp [Builtin.append_, run_underlying ht, sizeOf, typeInfo, hi, Builtin.lenOf, Builtin.firstCells]
  · simp [Builtin.append_, run_underlying ht, sizeOf, typeInfo, hi, Builtin.lenOf, Builtin.firstCells, hnc, storeCells]
/-- 'append(v, u...)' of a slice that reads, nil let in. -/
theorem run_append_rd (base : Nat) (t ty e : TypeId) (i : TypeInfo) (z : Value) (size bytes : Nat) (ht : P.underlying t = some (.slice e)) (hi : P.info? e = some i) (hz : i.zero = some z)
    (hsize : i.size = size) (hby : i.bytes = bytes) (hzs : z.cells.size = size) (hsz : 0 < size)
    (v : Value) (n : Nat) (xs : List Value) (hown : w.ownsRow base e size v n xs)
    (u : Value) (m : Nat) (news : List Value) (hr : Rd w size u m news) (h1 : ∀ u ∈ news, u.oneCell' = true)
    (h63 : n + m ≤ maxLen) (hbytes : (n + m) * bytes ≤ 140737488355328) (hbase : base ≤ w.heap.size) :
    ∃ v' w', (Builtin.append_ #[t, t] ty #[v, u]).run P w = .ok v' w' ∧ w'.ownsRow base e size v' (n + m) (xs ++ news) ∧ w.grownBy w' v.ownBlock ∧
      (v'.ownBlock = v.ownBlock ∨ v'.ownBlock = some w.heap.size) := by
  obtain ⟨hl, hmm, A, c, rfl, hc, hA⟩ := hr
  by_cases hnil : news = []
  · have hm : m = 0 := by
      subst hnil
      rcases Nat.mul_eq_zero.1 (show m * size = 0 from hl.symm) with h | h
      · exact h
      · omega
    subst hm; subst hnil
    rcases A with _ | ad
    · exact ⟨v, w, run_append_of_nil' w base t ty e i size ht hi v n xs hown c, by simpa using hown, World.grownBy.refl w _, .inl rfl⟩
    · obtain ⟨v', w', hrun, h2, h3, _, h5⟩ := run_append_own_at (P := P) w base t ty e i z size bytes ht hi hz hsize hby hzs hsz v n xs hown ad 0 c [] (by simp) (by simp) (by simp) h63 hbytes hbase
      exact ⟨v', w', hrun, h2, h3, h5⟩
  · obtain ⟨b, off, rfl, hcell⟩ := hA hnil
    obtain ⟨v', w', hrun, h2, h3, _, h5⟩ := run_append_own_at (P := P) w base t ty e i z size bytes ht hi hz hsize hby hzs hsz v n xs hown ⟨b, off, none⟩ m c news hl (fun j u hu => by
      rcases j with _ | j
      · simpa [Addr.add] using hcell 0 u hu
      · simpa [Addr.add] using hcell (j + 1) u hu) h1 h63 hbytes hbase
    exact ⟨v', w', hrun, h2, h3, h5⟩
theorem wpList_append_rd {ops : Array Oper} {rest : List Oper} {o : Oper} {a : Act} {Q : Exit → Act → World → Prop} (hgd : o.guard = none) (s x : Operand) (t : TypeId)
    (ho : o.op = .call { callee := .builtin .append, args := #[s, x], argTypes := #[t, t] })
    (base : Nat) (e : TypeId) (i : TypeInfo) (z : Value) (size bytes : Nat) (ht : P.underlying t = some (.slice e)) (hi : P.info? e = some i) (hz : i.zero = some z)
    (hsize : i.size = size) (hby : i.bytes = bytes) (hzs : z.cells.size = size) (hsz : 0 < size)
    (v : Value) (n : Nat) (xs : List Value) (hs : a.eval s = v) (hown : w.ownsRow base e size v n xs)
    (u : Value) (m : Nat) (news : List Value) (hx : a.eval x = u) (hr : Rd w size u m news) (h1 : ∀ u ∈ news, u.oneCell' = true)
    (h63 : n + m ≤ maxLen) (hbytes : (n + m) * bytes ≤ 140737488355328) (hbase : base ≤ w.heap.size)
    (h : ∀ v' w', w'.ownsRow base e size v' (n + m) (xs ++ news) → w.grownBy w' v.ownBlock → (v'.ownBlock = v.ownBlock ∨ v'.ownBlock = some w.heap.size) → wpList P ops Q rest (a.put o.dst v') w') : wpList P ops Q (o :: rest) a w :=
  wpList_plain hgd fun K hK => by
    obtain ⟨v', w', hrun, h2, h3, h4⟩ := run_append_rd (P := P) w base t o.type e i z size bytes ht hi hz hsize hby hzs hsz v n xs hown u m news hr h1 h63 hbytes hbase
    unfold Oper.wp execOp
    simp only [ho, resolve, invoke, builtin, Sem.run_bind, Sem.run_pure, Result.andThen_ok, List.map_toArray, List.map_cons, List.map_nil, hs, hx, hrun]
    exact hK _ _ (h v' w' h2 h3 h4)
end
theorem Try.infoU32 : (Try.prog.info? 122).map (fun i => (i.zero, i.size, i.bytes)) = some (some (.int .u32 0), 1, 4) := by kernel_rfl
theorem one_words (n L : Nat) : ∀ u ∈ (N.lv n L).map (Value.int .u32), u.oneCell' = true := by
  intro u hu
  obtain ⟨x, _, rfl⟩ := List.mem_map.1 hu
  rfl
set_option maxHeartbeats 2000000 in
theorem twin_ok (v : Value) (n : Nat) (hs : Sm n) (w : World) (hv : Nm w v n) :
    Calls Try.prog 98 #[v] w fun e w' => ∃ u, e = .returned u ∧ Below w.heap.size w w' ∧ Nm w' u n := by
  obtain ⟨i0, hi, hz0, hz1, hz2⟩ := info_parts Try.infoU32
  have HS : Hid (N.ln n ≤ 30) := hs
  have HN := Lib.hid hv; clear hv hs
  go_enter Try.func98, Try.ntmps98
  go_wp2_with (first | (at_builtin; refine wpList_append_rd _ rfl _ _ 94 rfl w.heap.size 122 i0 (.int .u32 0) 1 4 Try.underlying94 hi hz0 hz1 hz2 rfl (by decide) (.slice none 0 0) 0 [] rfl ⟨by simp, .inl ⟨rfl, rfl⟩⟩ v (N.ln n) _ rfl HN.out.1 (one_words _ _) (by have := HS.out; unfold maxLen; omega) (by have := HS.out; omega) (Nat.le_refl _) ?_; intro v1 w1 hown1 hg1 hat1; have HO := Lib.hid hown1; have HG := Lib.hid hg1; clear hown1 hg1 hat1))
  go_ret
  have HO2 := HO.out
  rw [Nat.zero_add, List.nil_append] at HO2
  exact ⟨_, rfl, (Below.refl _ _).grown HG.out (Nat.le_refl _) (by simp [Value.ownBlock]), Rd.of_owns HO2 (by have := HS.out; unfold maxLen; omega), Tp.of_owns HO2⟩
end Go.Proofs.Ytkmcniaaecijdaa

/- Walks of the reckoner with numbers of any size: plain, words, cmp. -/
namespace Go.Proofs.Ytkmcniaaecijdaa
open Go.RowKit
set_option linter.unusedVariables false
set_option linter.unusedSimpArgs false
set_option maxRecDepth 100000

/-- The slice's parts: its cells, word by word. -/
theorem Nm.open_ {w : World} {v : Value} {n : Nat} (h : Nm w v n) : N.ln n ≤ maxLen ∧ ∃ A cap, v = .slice A (N.ln n) cap ∧ N.ln n ≤ cap ∧ (0 < N.ln n → ∃ b off, A = some ⟨b, off, none⟩ ∧ ∀ j, j < N.ln n → w.cell? ⟨b, off + j, none⟩ = some (.int .u32 (N.wd n j : Nat))) := by
  obtain ⟨hl, hm, A, cap, rfl, hc, ha⟩ := Rd.ints h.1
  refine ⟨hm, A, cap, rfl, hc, fun h0 => ?_⟩
  obtain ⟨b, off, hA, hcell⟩ := ha h0
  exact ⟨b, off, hA, fun j hj => by rw [hcell j hj, N.lv_getD hj]⟩
theorem or_low (x y : Int) (h0 : 0 ≤ x) (h1 : x < 4294967296) (h2 : 0 ≤ y) (h3 : y < 4294967296) : bits .or .u64 x (y * 4294967296) = x + y * 4294967296 := by
  obtain ⟨a, rfl⟩ := Int.eq_ofNat_of_zero_le h0
  obtain ⟨b, rfl⟩ := Int.eq_ofNat_of_zero_le h2
  have e : ((b : Int) * 4294967296) = ((b * 4294967296 : Nat) : Int) := by omega
  rw [e, u64_or_nat a (b * 4294967296) (by omega) (by omega), Nat.or_comm, nat_join 32 (b * 4294967296) a (by omega) (by omega)]
  omega
theorem or_high (x y : Int) (h0 : 0 ≤ x) (h1 : x < 4294967296) (h2 : 0 ≤ y) (h3 : y < 4294967296) : bits .or .u64 (y * 4294967296) x = x + y * 4294967296 := by
  obtain ⟨a, rfl⟩ := Int.eq_ofNat_of_zero_le h0
  obtain ⟨b, rfl⟩ := Int.eq_ofNat_of_zero_le h2
  have e : ((b : Int) * 4294967296) = ((b * 4294967296 : Nat) : Int) := by omega
  rw [e, u64_or_nat (b * 4294967296) a (by omega) (by omega), nat_join 32 (b * 4294967296) a (by omega) (by omega)]
  omega
theorem N.plain_two (n : Nat) : n % 18446744073709551616 = N.wd n 0 + N.wd n 1 * 4294967296 := by
  have h1 := N.mod_succ n 0
  have h2 := N.mod_succ n 1
  rw [Nat.zero_add, Nat.pow_zero, Nat.mod_one, Nat.zero_add, Nat.mul_one] at h1
  rw [h1] at h2
  have e : N.B ^ (1 + 1) = 18446744073709551616 := by decide
  rw [e, Nat.pow_one, N.B_eq] at h2
  exact h2
set_option maxHeartbeats 1000000 in
theorem plain_ok (v : Value) (n : Nat) (w : World) (hv : Nm w v n) :
    Calls Try.prog 119 #[v] w fun e w' => e = .returned (.int .u64 ((n % 18446744073709551616 : Nat) : Int)) ∧ w = w' := by
  have HP := Lib.hid (N.plain_two n)
  obtain ⟨hm, A, cap, rfl, hc, ha⟩ := hv.open_
  unfold maxLen at hm
  have HH : Hid (∀ j, N.ln n ≤ j → N.wd n j = 0) := fun j hj => N.wd_high (N.lt_ln n) hj
  obtain ⟨L, hL⟩ : ∃ L, L = N.ln n := ⟨_, rfl⟩
  rw [← hL] at hm hc ha ⊢
  have HA := Lib.hid ha; have HL := Lib.hid hL; clear ha hL hv
  rcases (show L = 0 ∨ L = 1 ∨ 2 ≤ L by omega) with h0 | h0 | h0
  · have e : Hid (((n % 18446744073709551616 : Nat) : Int) = 0) := by
      have := HP.out; have h1 := HH.out 0 (by rw [← HL.out]; omega); have h2 := HH.out 1 (by rw [← HL.out]; omega)
      show ((n % 18446744073709551616 : Nat) : Int) = 0
      omega
    subst h0
    go_enter Try.func119, Try.ntmps119
    go_wp2
    go_ret
    exact ⟨W.ret1 (W.u64 e.out.symm), rfl⟩
  · subst h0
    obtain ⟨b, off, rfl, hcell⟩ := HA.out (by omega)
    obtain ⟨X, hX⟩ : ∃ X : Int, X = (N.wd n 0 : Nat) := ⟨_, rfl⟩
    have c0 : w.cell? ⟨b, off, none⟩ = some (.int .u32 X) := by rw [hX]; exact hcell 0 (by omega)
    have bx : 0 ≤ X ∧ X < 4294967296 := by have := N.wd_lt n 0; omega
    obtain ⟨bx0, bx1⟩ := bx
    have e : Hid (((n % 18446744073709551616 : Nat) : Int) = X) := by
      have := HP.out; have h2 := HH.out 1 (by rw [← HL.out]; omega)
      show ((n % 18446744073709551616 : Nat) : Int) = X
      omega
    clear hcell hX
    go_enter Try.func119, Try.ntmps119
    go_wp2
    go_ret
    exact ⟨W.ret1 (W.u64 e.out.symm), rfl⟩
  · obtain ⟨b, off, rfl, hcell⟩ := HA.out (by omega)
    obtain ⟨X, hX⟩ : ∃ X : Int, X = (N.wd n 0 : Nat) := ⟨_, rfl⟩
    obtain ⟨Y, hY⟩ : ∃ Y : Int, Y = (N.wd n 1 : Nat) := ⟨_, rfl⟩
    have c0 : w.cell? ⟨b, off, none⟩ = some (.int .u32 X) := by rw [hX]; exact hcell 0 (by omega)
    have c1 : w.cell? ⟨b, off + 1, none⟩ = some (.int .u32 Y) := by rw [hY]; exact hcell 1 (by omega)
    have bx : (0 ≤ X ∧ X < 4294967296) ∧ 0 ≤ Y ∧ Y < 4294967296 := by have := N.wd_lt n 0; have := N.wd_lt n 1; omega
    obtain ⟨⟨bx0, bx1⟩, by0, by1⟩ := bx
    have e : Hid (((n % 18446744073709551616 : Nat) : Int) = X + Y * 4294967296) := by
      have := HP.out
      show ((n % 18446744073709551616 : Nat) : Int) = X + Y * 4294967296
      omega
    have HOR := Lib.hid (or_low X Y bx0 bx1 by0 by1)
    clear hcell hX hY
    go_enter Try.func119, Try.ntmps119
    go_wp2
    go_ret
    exact ⟨W.ret1 (W.u64 (by rw [e.out, ← HOR.out])), rfl⟩

/-- Two words of a number of 64 bits. -/
theorem N.two_words (x : Nat) (hx : x < 18446744073709551616) : N.lv x 2 = [(x : Int) % 4294967296, (x : Int) / 4294967296] := by
  have e0 : N.wd x 0 = x % 4294967296 := by rw [N.wd_zero]; rfl
  have e1 : N.wd x 1 = x / 4294967296 := by
    unfold N.wd; rw [Nat.pow_one, N.B_eq]; omega
  unfold N.lv
  simp [List.range_succ, e0, e1]
theorem rd_lit (w : World) (x y : Value) : Rd (w.alloc (.cells #[x, y] 122)) 1 (.slice (some ⟨w.heap.size, 0, none⟩) 2 2) 2 [x, y] ∧ Tp (w.alloc (.cells #[x, y] 122)) (.slice (some ⟨w.heap.size, 0, none⟩) 2 2) := by
  refine ⟨?_, Tp.alloc _ _ _ _ _ _⟩
  refine ⟨rfl, by decide, some ⟨w.heap.size, 0, none⟩, 2, rfl, Nat.le_refl _, fun _ => ⟨w.heap.size, 0, rfl, fun j u hu => ?_⟩⟩
  rcases j with _ | _ | j
  · simp at hu; subst hu; simp
  · simp at hu; subst hu; simp
  · simp at hu
set_option maxHeartbeats 1000000 in
theorem words_ok (x : Nat) (hx : x < 18446744073709551616) (w : World) :
    Calls Try.prog 115 #[.int .u64 (x : Int)] w fun e w' => ∃ u, e = .returned u ∧ Below w.heap.size w w' ∧ Nm w' u x := by
  have HT : Hid (∀ (w : World) (v : Value), (Rd w 1 v 2 [.int .u32 ((x : Int) % 4294967296), .int .u32 ((x : Int) / 4294967296)] ∧ Tp w v) → Calls Try.prog 116 #[v] w fun e w' => ∃ u, e = .returned u ∧ w = w' ∧ Nm w u x) := fun w v hv =>
    trim_ok v 2 x (by have : N.B ^ 2 = 18446744073709551616 := by decide
                      omega) w (by rw [N.two_words x hx]; exact hv)
  go_enter Try.func115, Try.ntmps115
  go_wp2_with (first | (go_at_call 116; refine (HT.out _ _ (rd_lit _ _ _)).mono ?_; rintro e w1 ⟨u, rfl, rfl, hu⟩; have HU := Lib.hid hu; clear hu))
  go_ret
  exact ⟨u, rfl, (Below.refl _ _).alloc (Nat.le_refl _) _, HU.out⟩
/-- How two numbers compare. -/
def cmpI (a b : Nat) : Int := if a < b then -1 else if b < a then 1 else 0
theorem cmpI_lt {a b : Nat} (h : a < b) : cmpI a b = -1 := if_pos h
theorem cmpI_gt {a b : Nat} (h : b < a) : cmpI a b = 1 := by unfold cmpI; rw [if_neg (by omega), if_pos h]
theorem cmpI_eq {a b : Nat} (h : a = b) : cmpI a b = 0 := by unfold cmpI; rw [if_neg (by omega), if_neg (by omega)]
set_option maxHeartbeats 2000000 in
theorem cmp_ok (u v : Value) (a b : Nat) (w : World) (hu : Nm w u a) (hv : Nm w v b) :
    Calls Try.prog 86 #[u, v] w fun e w' => e = .returned (.int .i64 (cmpI a b)) ∧ ∃ m, w' = w.drewN m := by
  obtain ⟨hm, A, cap, rfl, hc, ha⟩ := hu.open_
  obtain ⟨hm2, A2, cap2, rfl, hc2, ha2⟩ := hv.open_
  unfold maxLen at hm hm2
  clear hu hv
  obtain ⟨L, hL⟩ : ∃ L, L = N.ln a := ⟨_, rfl⟩
  obtain ⟨M, hM⟩ : ∃ M, M = N.ln b := ⟨_, rfl⟩
  rw [← hL] at hm hc ha ⊢
  rw [← hM] at hm2 hc2 ha2 ⊢
  have HA := Lib.hid ha; have HA2 := Lib.hid ha2; have HL := Lib.hid hL; have HM := Lib.hid hM; clear ha ha2 hL hM
  by_cases hne : L = M
  · subst hne
    have nn : ((L : Int) != (L : Int)) = false := by simp
    go_enter Try.func86, Try.ntmps86
    go_wp2
    go_loopw [5] (fun i wr => ∃ k : Nat, k ≤ L ∧ i = .int .i64 ((k : Int) - 1) ∧ Hid (a / N.B ^ k = b / N.B ^ k) ∧ Hid (∃ m, wr = w.drewN m)) (fun i _ => (intOf i + 1).toNat)
    case atStart => exact ⟨L, Nat.le_refl _, rfl, by
      show a / N.B ^ L = b / N.B ^ L
      rw [Nat.div_eq_of_lt (by rw [HL.out]; exact N.lt_ln a), Nat.div_eq_of_lt (by rw [HM.out]; exact N.lt_ln b)], ⟨0, rfl⟩⟩
    case round =>
      obtain ⟨k, hk, rfl, he, hw⟩ := hrel
      obtain ⟨m, rfl⟩ := hw.out
      clear hw
      rcases k with _ | k
      · go_wp2
        go_ret
        exact ⟨W.ret1 (W.i64 (cmpI_eq (by have := he.out; simpa using this)).symm), m, rfl⟩
      · obtain ⟨bx, ox, rfl, cx⟩ := HA.out (by omega)
        obtain ⟨byy, oy, rfl, cy⟩ := HA2.out (by omega)
        obtain ⟨X, hX⟩ : ∃ X : Int, X = (N.wd a k : Nat) := ⟨_, rfl⟩
        obtain ⟨Y, hY⟩ : ∃ Y : Int, Y = (N.wd b k : Nat) := ⟨_, rfl⟩
        have c1 : w.cell? ⟨bx, ox + k, none⟩ = some (.int .u32 X) := by rw [hX]; exact cx k (by omega)
        have c2 : w.cell? ⟨byy, oy + k, none⟩ = some (.int .u32 Y) := by rw [hY]; exact cy k (by omega)
        have HX := Lib.hid hX; have HY := Lib.hid hY; clear hX hY cx cy HA HA2
        have ek : ((k + 1 : Nat) : Int) - 1 = (k : Int) := by omega
        rw [ek]
        clear ek
        have i0 : (0 : Int) ≤ (k : Int) := by omega
        have i1 : (k : Int) < (L : Int) := by omega
        by_cases hxy : X = Y
        · have hb : (X != Y) = false := by simp [hxy]
          have HXY := Lib.hid hxy; clear hxy
          go_wp2
          refine Rg.wp_region [] (by kernel_rfl) (by kernel_rfl) ?_
          repeat (first | (refine Rg.wpL_nil ?_) | (refine Rg.wpL_skip rfl ?_; simp only [Act.put, List.setIfInBounds_toArray, List.set_cons_zero, List.set_cons_succ]) | (refine Rg.wpL_q rfl rfl (fun K hK => ?_); go_big_quiet_op; refine hK _ ?_; clear hK K) | (refine Rg.wpL_w rfl rfl (fun K hK => ?_); go_wp2_with (first | fail | fail)))
          go_wp2
          go_roundw
          case rel => exact ⟨k, by omega, rfl, N.cmp_same he.out (by have := HX.out; have := HY.out; have := HXY.out; omega), ⟨m + 1, rfl⟩⟩
          case measure => simp [intOf]
        · have hb : (X != Y) = true := by simpa using hxy
          by_cases hlt : X < Y
          · have HXY : Hid (cmpI a b = -1) := cmpI_lt (N.cmp_step he.out (by have := HX.out; have := HY.out; omega))
            clear hxy
            go_wp2
            refine Rg.wp_region [] (by kernel_rfl) (by kernel_rfl) ?_
            repeat (first | (refine Rg.wpL_nil ?_) | (refine Rg.wpL_skip rfl ?_; simp only [Act.put, List.setIfInBounds_toArray, List.set_cons_zero, List.set_cons_succ]) | (refine Rg.wpL_q rfl rfl (fun K hK => ?_); go_big_quiet_op; refine hK _ ?_; clear hK K) | (refine Rg.wpL_w rfl rfl (fun K hK => ?_); go_wp2_with (first | fail | fail)))
            go_wp2
            refine Rg.wp_region [] (by kernel_rfl) (by kernel_rfl) ?_
            repeat (first | (refine Rg.wpL_nil ?_) | (refine Rg.wpL_skip rfl ?_; simp only [Act.put, List.setIfInBounds_toArray, List.set_cons_zero, List.set_cons_succ]) | (refine Rg.wpL_q rfl rfl (fun K hK => ?_); go_big_quiet_op; refine hK _ ?_; clear hK K) | (refine Rg.wpL_w rfl rfl (fun K hK => ?_); go_wp2_with (first | fail | fail)))
            go_wp2
            go_ret
            exact ⟨W.ret1 (W.i64 HXY.out.symm), m + 1 + 1, rfl⟩
          · have HXY : Hid (cmpI a b = 1) := cmpI_gt (N.cmp_step he.out.symm (by have := HX.out; have := HY.out; omega))
            have hge : Y ≤ X := by omega
            clear hxy hlt
            go_wp2
            refine Rg.wp_region [] (by kernel_rfl) (by kernel_rfl) ?_
            repeat (first | (refine Rg.wpL_nil ?_) | (refine Rg.wpL_skip rfl ?_; simp only [Act.put, List.setIfInBounds_toArray, List.set_cons_zero, List.set_cons_succ]) | (refine Rg.wpL_q rfl rfl (fun K hK => ?_); go_big_quiet_op; refine hK _ ?_; clear hK K) | (refine Rg.wpL_w rfl rfl (fun K hK => ?_); go_wp2_with (first | fail | fail)))
            go_wp2
            refine Rg.wp_region [] (by kernel_rfl) (by kernel_rfl) ?_
            repeat (first | (refine Rg.wpL_nil ?_) | (refine Rg.wpL_skip rfl ?_; simp only [Act.put, List.setIfInBounds_toArray, List.set_cons_zero, List.set_cons_succ]) | (refine Rg.wpL_q rfl rfl (fun K hK => ?_); go_big_quiet_op; refine hK _ ?_; clear hK K) | (refine Rg.wpL_w rfl rfl (fun K hK => ?_); go_wp2_with (first | fail | fail)))
            go_wp2
            go_ret
            exact ⟨W.ret1 (W.i64 HXY.out.symm), m + 1 + 1, rfl⟩
  · have nn : ((L : Int) != (M : Int)) = true := by simp only [bne_iff_ne, ne_eq]; omega
    by_cases hlt : L < M
    · have HXY : Hid (cmpI a b = -1) := cmpI_lt (N.lt_of_ln (by rw [← HL.out, ← HM.out]; exact hlt))
      go_enter Try.func86, Try.ntmps86
      go_wp2
      go_ret
      exact ⟨W.ret1 (W.i64 HXY.out.symm), 0, rfl⟩
    · have HXY : Hid (cmpI a b = 1) := cmpI_gt (N.lt_of_ln (by rw [← HL.out, ← HM.out]; omega))
      have hlt' : M ≤ L := by omega
      clear hlt
      go_enter Try.func86, Try.ntmps86
      go_wp2
      go_ret
      exact ⟨W.ret1 (W.i64 HXY.out.symm), 0, rfl⟩
end Go.Proofs.Ytkmcniaaecijdaa

/- Walks of the reckoner with numbers of any size: add. -/
namespace Go.Proofs.Ytkmcniaaecijdaa
open Go.RowKit
set_option linter.unusedVariables false
set_option linter.unusedSimpArgs false
set_option maxRecDepth 100000

/-- L words of n, as cells. -/
def arr (n L : Nat) : Array Value := ((N.lv n L).map (Value.int .u32)).toArray
theorem arr_size (n L : Nat) : (arr n L).size = L := by simp [arr, N.lv_length]
theorem arr_get {n L i : Nat} (h : i < L) : (arr n L)[i]? = some (.int .u32 (N.wd n i : Nat)) := by
  simp [arr, N.lv_get h]
theorem arr_zero (L : Nat) : arr 0 L = (List.replicate L (Value.int .u32 0)).toArray := by
  simp [arr, N.lv_zero]
theorem arr_set {n k L x : Nat} (hx : x < N.B) (hk : k < L) : (arr n L).setIfInBounds k (.int .u32 (x : Int)) = arr (n - N.wd n k * N.B ^ k + x * N.B ^ k) L := by
  unfold arr
  rw [← N.lv_set hx hk, List.map_set, List.setIfInBounds_toArray]
theorem arr_put {n k L x : Nat} (h0 : N.wd n k = 0) (hx : x < N.B) (hk : k < L) : (arr n L).setIfInBounds k (.int .u32 (x : Int)) = arr (n + x * N.B ^ k) L := by
  rw [arr_set hx hk, h0, Nat.zero_mul, Nat.sub_zero]
/-- The next word of s, put in. -/
theorem arr_next {s k L : Nat} (hk : k < L) : (arr (s % N.B ^ k) L).setIfInBounds k (.int .u32 (N.wd s k : Nat)) = arr (s % N.B ^ (k + 1)) L := by
  rw [arr_put (N.wd_high (Nat.mod_lt _ (N.Bk_pos k)) (Nat.le_refl _)) (N.wd_lt s k) hk, N.mod_succ]
theorem blk_next {w : World} {g : Nat} {t : TypeId} {s k L : Nat} {z : Int} (h : Blk w g t (arr (s % N.B ^ k) L)) (hk : k < L) (hz : z = (N.wd s k : Nat)) : Blk (w.setCell ⟨g, k, none⟩ (.int .u32 z)) g t (arr (s % N.B ^ (k + 1)) L) := by
  subst hz; rw [← arr_next hk]; exact h.set_ k _
theorem blk_rd {w : World} {g n L : Nat} (h : Blk w g 122 (arr n L)) (hm : L ≤ maxLen) : Rd w 1 (.slice (some ⟨g, 0, none⟩) L L) L ((N.lv n L).map (Value.int .u32)) ∧ Tp w (.slice (some ⟨g, 0, none⟩) L L) := by
  refine ⟨?_, fun b off l c e _ => ?_⟩
  rotate_left
  · injection e with e1 _ _
    injection e1 with e1
    injection e1 with e1 _ _
    subst e1
    exact ⟨_, _, h⟩
  have := h.rd (n := L) (cap := L) (arr_size n L).symm hm (Nat.le_refl _)
  simpa [arr] using this

set_option maxHeartbeats 4000000 in
theorem add_raw (v1 v2 : Value) (A A2 : Option Addr) (L M cap cap2 a b : Nat) (hsw : (v1 = .slice A L cap ∧ v2 = .slice A2 M cap2) ∨ (M < L ∧ v2 = .slice A L cap ∧ v1 = .slice A2 M cap2)) (hML : M ≤ L) (hL30 : L ≤ 30) (w : World)
    (bL : Hid (a < N.B ^ L)) (bM : Hid (b < N.B ^ M))
    (HA : Hid (0 < L → ∃ b off, A = some ⟨b, off, none⟩ ∧ ∀ j, j < L → w.cell? ⟨b, off + j, none⟩ = some (.int .u32 (N.wd a j : Nat))))
    (HA2 : Hid (0 < M → ∃ c off, A2 = some ⟨c, off, none⟩ ∧ ∀ j, j < M → w.cell? ⟨c, off + j, none⟩ = some (.int .u32 (N.wd b j : Nat)))) :
    Calls Try.prog 117 #[v1, v2] w fun e w' => ∃ u, e = .returned u ∧ Below w.heap.size w w' ∧ Nm w' u (a + b) := by
  obtain ⟨i0, hi, hz0, hz1, hz2⟩ := info_parts Try.infoU32
  have HI : Hid (i0.bytes * (L + 1) ≤ 281474976710656) := by show i0.bytes * (L + 1) ≤ 281474976710656; rw [hz2]; omega
  have nML : decide (L < M) = false := by simpa using hML
  have HL1 : Hid (((L : Int) + 1) = ((L + 1 : Nat) : Int)) := by show ((L : Int) + 1) = ((L + 1 : Nat) : Int); omega
  clear hz2
  rcases hsw with ⟨rfl, rfl⟩ | ⟨hlt, rfl, rfl⟩
  all_goals
    go_enter Try.func117, Try.ntmps117
    go_wp2_with (first | (at_make; refine wpList_make_blk _ rfl _ _ 94 rfl 122 i0 (.int .u32 0) Try.underlying94 hi hz0 hz1 rfl .i64 .i64 (L + 1) (congrArg (Value.int .i64) HL1.out) (congrArg (Value.int .i64) HL1.out) HI.out (by omega) ?_; intro w1 hblk hbw hsz; rw [← arr_zero] at hblk; have HK := Lib.hid hblk; have HB := Lib.hid hbw; have hlt1 : w.heap.size < w1.heap.size := (by omega); clear hblk hbw hsz))
    go_loopw [6, 7] (fun c i wr => ∃ k : Nat, k ≤ L ∧ i = .int .i64 k ∧ c = .int .u64 (N.cy a b k : Nat) ∧ Hid (Blk wr w.heap.size 122 (arr ((a + b) % N.B ^ k) (L + 1))) ∧ Hid (Below w.heap.size w wr) ∧ w.heap.size < wr.heap.size) (fun _ i _ => L - (intOf i).toNat)
    case atStart => exact ⟨0, Nat.zero_le _, rfl, by rw [N.cy_zero]; rfl, by rw [Nat.pow_zero, Nat.mod_one]; exact HK, HB, hlt1⟩
    case round =>
      obtain ⟨k, hk, rfl, rfl, hK, hB, hlt⟩ := hrel
      obtain ⟨C, hC⟩ : ∃ C : Int, C = (N.cy a b k : Nat) := ⟨_, rfl⟩
      rw [← hC]
      have hC1 : 0 ≤ C ∧ C ≤ 1 := by have := N.cy_le a b k; omega
      obtain ⟨hC0, hC1⟩ := hC1
      by_cases hkL : k < L
      · obtain ⟨bx, ox, rfl, cx⟩ := HA.out (by omega)
        obtain ⟨X, hX⟩ : ∃ X : Int, X = (N.wd a k : Nat) := ⟨_, rfl⟩
        have c1 : wr.cell? ⟨bx, ox + k, none⟩ = some (.int .u32 X) := by
          have := cx k hkL
          rw [hX, (bcell hB.out).1 _ _ (World.block_lt_of_cell? _ _ this)]; exact this
        have bX : 0 ≤ X ∧ X < 4294967296 := by have := N.wd_lt a k; omega
        obtain ⟨bX0, bX1⟩ := bX
        have HST := Lib.hid (N.add_step a b k)
        have f3 : wr.cell? ⟨w.heap.size, k, none⟩ = some (.int .u32 0) := by
          rw [hK.out.cell, arr_get (by omega), N.wd_high (Nat.mod_lt _ (N.Bk_pos k)) (Nat.le_refl _)]; rfl
        have f4 : wr.frozen? ⟨w.heap.size, k, none⟩ = false := hK.out.frozen k
        have i0 : (0 : Int) ≤ (k : Int) := by omega
        have i1 : (k : Int) < (L : Int) := by omega
        have HX := Lib.hid hX; have HC := Lib.hid hC; clear hX hC cx
        by_cases hkM : k < M
        · obtain ⟨byy, oy, rfl, cy⟩ := HA2.out (by omega)
          obtain ⟨Y, hY⟩ : ∃ Y : Int, Y = (N.wd b k : Nat) := ⟨_, rfl⟩
          have c2 : wr.cell? ⟨byy, oy + k, none⟩ = some (.int .u32 Y) := by
            have := cy k hkM
            rw [hY, (bcell hB.out).1 _ _ (World.block_lt_of_cell? _ _ this)]; exact this
          have bY : 0 ≤ Y ∧ Y < 4294967296 := by have := N.wd_lt b k; omega
          obtain ⟨bY0, bY1⟩ := bY
          have HY := Lib.hid hY; clear hY cy
          have e1 : Hid ((C + X + Y) % 4294967296 = (N.wd (a + b) k : Nat) ∧ (C + X + Y) / 4294967296 = (N.cy a b (k + 1) : Nat)) := by
            have h := HST.out; rw [N.B_eq] at h
            have hx := HX.out; have hy := HY.out; have hc := HC.out
            constructor <;> omega
          go_wp2
          go_roundw
          case rel => exact ⟨k + 1, by omega, by go_num, W.u64 e1.out.2, blk_next hK.out (by omega) e1.out.1, Ext.setCell hB.out (Nat.le_refl _) _, by simp; exact hlt⟩
          case measure => simp [intOf]; omega
        · have e1 : Hid ((C + X) % 4294967296 = (N.wd (a + b) k : Nat) ∧ (C + X) / 4294967296 = (N.cy a b (k + 1) : Nat)) := by
            have h := HST.out; rw [N.B_eq] at h
            have hx := HX.out; have hc := HC.out
            have hy : N.wd b k = 0 := N.wd_high bM.out (by omega)
            constructor <;> omega
          have hkM' : M ≤ k := by omega
          clear hkM
          go_wp2
          go_roundw
          case rel => exact ⟨k + 1, by omega, by go_num, W.u64 e1.out.2, blk_next hK.out (by omega) e1.out.1, Ext.setCell hB.out (Nat.le_refl _) _, by simp; exact hlt⟩
          case measure => simp [intOf]; omega
      · obtain rfl : k = L := by omega
        have f3 : wr.cell? ⟨w.heap.size, k, none⟩ = some (.int .u32 0) := by
          rw [hK.out.cell, arr_get (by omega), N.wd_high (Nat.mod_lt _ (N.Bk_pos k)) (Nat.le_refl _)]; rfl
        have f4 : wr.frozen? ⟨w.heap.size, k, none⟩ = false := hK.out.frozen k
        have hlast : Hid (C = (N.wd (a + b) k : Nat) ∧ a + b < N.B ^ (k + 1)) := by
          have h := (N.add_step a b k).1
          have hbk : b < N.B ^ k := Nat.lt_of_lt_of_le bM.out (Nat.pow_le_pow_right N.B_pos hML)
          rw [N.wd_high bL.out (Nat.le_refl _), N.wd_high hbk (Nat.le_refl _), N.B_eq] at h
          refine ⟨by show C = (N.wd (a + b) k : Nat); omega, ?_⟩
          have h1 := bL.out
          have h2 : N.B ^ (k + 1) = N.B ^ k * N.B := Nat.pow_succ _ _
          have h3 : N.B ^ k * 2 ≤ N.B ^ k * N.B := Nat.mul_le_mul_left _ (by decide)
          omega
        have HC := Lib.hid hC; clear hC hkL
        have HT : Hid (∀ w2 : World, Blk w2 w.heap.size 122 (arr ((a + b) % N.B ^ (k + 1)) (k + 1)) → Calls Try.prog 116 #[.slice (some ⟨w.heap.size, 0, none⟩) (k + 1) (k + 1)] w2 fun e w' => ∃ u, e = .returned u ∧ w2 = w' ∧ Nm w2 u (a + b)) := fun w2 h => by
          rw [Nat.mod_eq_of_lt hlast.out.2] at h
          exact trim_ok _ (k + 1) (a + b) hlast.out.2 w2 (blk_rd h (by unfold maxLen; omega))
        go_wp2_with (first | (go_at_call 116; refine (HT.out _ (blk_next hK.out (by omega) hlast.out.1)).mono ?_; rintro e w2 ⟨u, rfl, rfl, hu⟩; have HU := Lib.hid hu; clear hu))
        go_ret
        exact ⟨u, rfl, Ext.setCell hB.out (Nat.le_refl _) _, HU.out⟩
theorem badd_ok (u v : Value) (a b : Nat) (ha : Sm a) (hb : Sm b) (w : World) (hu : Nm w u a) (hv : Nm w v b) :
    Calls Try.prog 117 #[u, v] w fun e w' => ∃ r, e = .returned r ∧ Below w.heap.size w w' ∧ Nm w' r (a + b) := by
  obtain ⟨_, A, cap, rfl, _, hA⟩ := hu.open_
  obtain ⟨_, A2, cap2, rfl, _, hA2⟩ := hv.open_
  by_cases h : N.ln b ≤ N.ln a
  · exact add_raw _ _ A A2 _ _ cap cap2 a b (.inl ⟨rfl, rfl⟩) h ha w (N.lt_ln a) (N.lt_ln b) hA hA2
  · rw [Nat.add_comm]
    exact add_raw _ _ A2 A _ _ cap2 cap b a (.inr ⟨by omega, rfl, rfl⟩) (by omega) hb w (N.lt_ln b) (N.lt_ln a) hA2 hA
end Go.Proofs.Ytkmcniaaecijdaa

/- Walks of the reckoner with numbers of any size: sub. -/
namespace Go.Proofs.Ytkmcniaaecijdaa
open Go.RowKit
set_option linter.unusedVariables false
set_option linter.unusedSimpArgs false
set_option maxRecDepth 100000

set_option maxHeartbeats 4000000 in
theorem sub_raw (A A2 : Option Addr) (L M cap cap2 a b : Nat) (hba : b ≤ a) (hML : M ≤ L) (hL30 : L ≤ 30) (w : World)
    (bL : Hid (a < N.B ^ L)) (bM : Hid (b < N.B ^ M))
    (HA : Hid (0 < L → ∃ b off, A = some ⟨b, off, none⟩ ∧ ∀ j, j < L → w.cell? ⟨b, off + j, none⟩ = some (.int .u32 (N.wd a j : Nat))))
    (HA2 : Hid (0 < M → ∃ c off, A2 = some ⟨c, off, none⟩ ∧ ∀ j, j < M → w.cell? ⟨c, off + j, none⟩ = some (.int .u32 (N.wd b j : Nat)))) :
    Calls Try.prog 118 #[.slice A L cap, .slice A2 M cap2] w fun e w' => ∃ u, e = .returned u ∧ Below w.heap.size w w' ∧ Nm w' u (a - b) := by
  obtain ⟨i0, hi, hz0, hz1, hz2⟩ := info_parts Try.infoU32
  have HI : Hid (i0.bytes * L ≤ 281474976710656) := by show i0.bytes * L ≤ 281474976710656; rw [hz2]; omega
  clear hz2
  have HBA := Lib.hid hba; clear hba
  go_enter Try.func118, Try.ntmps118
  go_wp2_with (first | (at_make; refine wpList_make_blk _ rfl _ _ 94 rfl 122 i0 (.int .u32 0) Try.underlying94 hi hz0 hz1 rfl .i64 .i64 L rfl rfl HI.out (by omega) ?_; intro w1 hblk hbw hsz; rw [← arr_zero] at hblk; have HK := Lib.hid hblk; have HB := Lib.hid hbw; have hlt1 : w.heap.size < w1.heap.size := (by omega); clear hblk hbw hsz))
  go_loopw [6, 7, 8] (fun c i _ wr => ∃ k : Nat, k ≤ L ∧ i = .int .i64 k ∧ c = .int .u64 (N.bw a b k : Nat) ∧ Hid (Blk wr w.heap.size 122 (arr ((a - b) % N.B ^ k) L)) ∧ Hid (Below w.heap.size w wr) ∧ w.heap.size < wr.heap.size) (fun _ i _ _ => L - (intOf i).toNat)
  case atStart => exact ⟨0, Nat.zero_le _, rfl, by rw [N.bw_zero]; rfl, by rw [Nat.pow_zero, Nat.mod_one]; exact HK, HB, hlt1⟩
  case round =>
    obtain ⟨k, hk, rfl, rfl, hK, hB, hlt⟩ := hrel
    obtain ⟨C, hC⟩ : ∃ C : Int, C = (N.bw a b k : Nat) := ⟨_, rfl⟩
    rw [← hC]
    have hC1 : 0 ≤ C ∧ C ≤ 1 := by have := N.bw_le a b k; omega
    obtain ⟨hC0, hC1⟩ := hC1
    by_cases hkL : k < L
    · obtain ⟨bx, ox, rfl, cx⟩ := HA.out (by omega)
      obtain ⟨X, hX⟩ : ∃ X : Int, X = (N.wd a k : Nat) := ⟨_, rfl⟩
      have c1 : wr.cell? ⟨bx, ox + k, none⟩ = some (.int .u32 X) := by
        have := cx k hkL
        rw [hX, (bcell hB.out).1 _ _ (World.block_lt_of_cell? _ _ this)]; exact this
      have bX : 0 ≤ X ∧ X < 4294967296 := by have := N.wd_lt a k; omega
      obtain ⟨bX0, bX1⟩ := bX
      have HST := Lib.hid (N.sub_step HBA.out k)
      have HSB := Lib.hid (N.bw_le a b (k + 1))
      have HSW := Lib.hid (N.wd_lt (a - b) k)
      have f3 : wr.cell? ⟨w.heap.size, k, none⟩ = some (.int .u32 0) := by
        rw [hK.out.cell, arr_get (by omega), N.wd_high (Nat.mod_lt _ (N.Bk_pos k)) (Nat.le_refl _)]; rfl
      have f4 : wr.frozen? ⟨w.heap.size, k, none⟩ = false := hK.out.frozen k
      have i0 : (0 : Int) ≤ (k : Int) := by omega
      have i1 : (k : Int) < (L : Int) := by omega
      have HX := Lib.hid hX; have HC := Lib.hid hC; clear hX hC cx
      obtain ⟨D1, hD1⟩ : ∃ D1, IntKind.u64.wrap (X - C) = D1 := ⟨_, rfl⟩
      have HD1 : Hid (D1 = (X - C) % 18446744073709551616) := by show D1 = _; rw [← hD1, IntKind.wrap_u64]
      by_cases hkM : k < M
      · obtain ⟨byy, oy, rfl, cy⟩ := HA2.out (by omega)
        obtain ⟨Y, hY⟩ : ∃ Y : Int, Y = (N.wd b k : Nat) := ⟨_, rfl⟩
        have c2 : wr.cell? ⟨byy, oy + k, none⟩ = some (.int .u32 Y) := by
          have := cy k hkM
          rw [hY, (bcell hB.out).1 _ _ (World.block_lt_of_cell? _ _ this)]; exact this
        have bY : 0 ≤ Y ∧ Y < 4294967296 := by have := N.wd_lt b k; omega
        obtain ⟨bY0, bY1⟩ := bY
        have HY := Lib.hid hY; clear hY cy
        obtain ⟨D2, hD2⟩ : ∃ D2, IntKind.u64.wrap (D1 - Y) = D2 := ⟨_, rfl⟩
        have HD2 : Hid (D2 = (D1 - Y) % 18446744073709551616) := by show D2 = _; rw [← hD2, IntKind.wrap_u64]
        have bD : 0 ≤ D2 ∧ D2 < 18446744073709551616 := by have := HD2.out; omega
        obtain ⟨bD0, bD1⟩ := bD
        have e1 : Hid (D2 % 4294967296 = (N.wd (a - b) k : Nat) ∧ D2 / 9223372036854775808 = (N.bw a b (k + 1) : Nat)) := by
          have h := HST.out; rw [N.B_eq] at h
          have hx := HX.out; have hy := HY.out; have hc := HC.out; have h1 := HD1.out; have h2 := HD2.out; have h3 := HSB.out; have h4 := HSW.out
          constructor <;> omega
        go_wp2
        go_roundw
        case rel => exact ⟨k + 1, by omega, by go_num, W.u64 e1.out.2, blk_next hK.out (by omega) e1.out.1, Ext.setCell hB.out (Nat.le_refl _) _, by simp; exact hlt⟩
        case measure => simp [intOf]; omega
      · have bD : 0 ≤ D1 ∧ D1 < 18446744073709551616 := by have := HD1.out; omega
        obtain ⟨bD0, bD1⟩ := bD
        have e1 : Hid (D1 % 4294967296 = (N.wd (a - b) k : Nat) ∧ D1 / 9223372036854775808 = (N.bw a b (k + 1) : Nat)) := by
          have h := HST.out; rw [N.B_eq] at h
          have hx := HX.out; have hc := HC.out; have h1 := HD1.out; have h3 := HSB.out; have h4 := HSW.out
          have hy : N.wd b k = 0 := N.wd_high bM.out (by omega)
          constructor <;> omega
        have hkM' : M ≤ k := by omega
        clear hkM
        go_wp2
        go_roundw
        case rel => exact ⟨k + 1, by omega, by go_num, W.u64 e1.out.2, blk_next hK.out (by omega) e1.out.1, Ext.setCell hB.out (Nat.le_refl _) _, by simp; exact hlt⟩
        case measure => simp [intOf]; omega
    · obtain rfl : k = L := by omega
      have HC := Lib.hid hC; clear hC hkL
      have hbd : Hid (a - b < N.B ^ k) := Nat.lt_of_le_of_lt (Nat.sub_le _ _) bL.out
      have HT : Hid (∀ w2 : World, Blk w2 w.heap.size 122 (arr ((a - b) % N.B ^ k) k) → Calls Try.prog 116 #[.slice (some ⟨w.heap.size, 0, none⟩) k k] w2 fun e w' => ∃ u, e = .returned u ∧ w2 = w' ∧ Nm w2 u (a - b)) := fun w2 h => by
        rw [Nat.mod_eq_of_lt hbd.out] at h
        exact trim_ok _ k (a - b) hbd.out w2 (blk_rd h (by unfold maxLen; omega))
      go_wp2_with (first | (go_at_call 116; refine (HT.out _ hK.out).mono ?_; rintro e w2 ⟨u, rfl, rfl, hu⟩; have HU := Lib.hid hu; clear hu))
      go_ret
      exact ⟨u, rfl, hB.out, HU.out⟩
theorem bsub_ok (u v : Value) (a b : Nat) (hba : b ≤ a) (ha : Sm a) (w : World) (hu : Nm w u a) (hv : Nm w v b) :
    Calls Try.prog 118 #[u, v] w fun e w' => ∃ r, e = .returned r ∧ Below w.heap.size w w' ∧ Nm w' r (a - b) := by
  obtain ⟨_, A, cap, rfl, _, hA⟩ := hu.open_
  obtain ⟨_, A2, cap2, rfl, _, hA2⟩ := hv.open_
  exact sub_raw A A2 _ _ cap cap2 a b hba (N.ln_mono hba) ha w (N.lt_ln a) (N.lt_ln b) hA hA2
end Go.Proofs.Ytkmcniaaecijdaa

/- Walks of the reckoner with numbers of any size: mul. -/
namespace Go.Proofs.Ytkmcniaaecijdaa
open Go.RowKit
set_option linter.unusedVariables false
set_option linter.unusedSimpArgs false
set_option maxRecDepth 100000

theorem N.set_lt {n k K x : Nat} (hn : n < N.B ^ K) (hk : k < K) (hx : x < N.B) : n - N.wd n k * N.B ^ k + x * N.B ^ k < N.B ^ K := by
  have e1 := N.parts n k
  have e2 : n - N.wd n k * N.B ^ k + x * N.B ^ k = n / N.B ^ (k + 1) * N.B ^ (k + 1) + x * N.B ^ k + n % N.B ^ k := by
    have h : ∀ M A W g X : Nat, M = A + W + g → M - W + X = A + X + g := by intros; omega
    exact h _ _ _ _ _ e1
  rw [e2]
  obtain ⟨d, rfl⟩ : ∃ d, K = k + 1 + d := ⟨K - k - 1, by omega⟩
  have h1 : n / N.B ^ (k + 1) < N.B ^ d := by
    rw [Nat.div_lt_iff_lt_mul (N.Bk_pos _), Nat.mul_comm, ← Nat.pow_add]; exact hn
  have h2 : n % N.B ^ k < N.B ^ k := Nat.mod_lt _ (N.Bk_pos k)
  have h3 : x * N.B ^ k + N.B ^ k ≤ N.B ^ (k + 1) := by
    rw [Nat.pow_succ, Nat.mul_comm _ N.B, ← Nat.succ_mul]; exact Nat.mul_le_mul_right _ hx
  have h4 : n / N.B ^ (k + 1) * N.B ^ (k + 1) + N.B ^ (k + 1) ≤ N.B ^ (k + 1 + d) := by
    rw [← Nat.succ_mul, Nat.pow_add N.B (k + 1) d, Nat.mul_comm (N.B ^ (k + 1)) (N.B ^ d)]; exact Nat.mul_le_mul_right _ h1
  omega
/-- One step of the product: word i of a by word j of b. -/
theorem N.mul_step {a b i j S c : Nat} (h : S + c * N.B ^ (i + j) = a % N.B ^ i * b + N.wd a i * (b % N.B ^ j) * N.B ^ i) :
    S - N.wd S (i + j) * N.B ^ (i + j) + (c + (N.wd a i * N.wd b j + N.wd S (i + j))) % N.B * N.B ^ (i + j) + (c + (N.wd a i * N.wd b j + N.wd S (i + j))) / N.B * N.B ^ (i + (j + 1)) = a % N.B ^ i * b + N.wd a i * (b % N.B ^ (j + 1)) * N.B ^ i := by
  generalize hv : c + (N.wd a i * N.wd b j + N.wd S (i + j)) = v
  have e1 : N.B ^ (i + (j + 1)) = N.B * N.B ^ (i + j) := by rw [← Nat.add_assoc, Nat.pow_succ, Nat.mul_comm]
  have e2 : v % N.B * N.B ^ (i + j) + v / N.B * N.B ^ (i + (j + 1)) = v * N.B ^ (i + j) := by
    rw [e1, ← Nat.mul_assoc, ← Nat.add_mul, Nat.mul_comm (v / N.B), Nat.mod_add_div]
  have e3 : N.wd S (i + j) * N.B ^ (i + j) ≤ S := by
    have h : ∀ A W g X : Nat, X = A + W + g → W ≤ X := by intros; omega
    exact h _ _ _ _ (N.parts S (i + j))
  have e4 : v * N.B ^ (i + j) = c * N.B ^ (i + j) + N.wd a i * N.wd b j * N.B ^ (i + j) + N.wd S (i + j) * N.B ^ (i + j) := by
    rw [← hv, Nat.add_mul, Nat.add_mul, Nat.add_assoc]
  have e5 : N.wd a i * (b % N.B ^ (j + 1)) * N.B ^ i = N.wd a i * (b % N.B ^ j) * N.B ^ i + N.wd a i * N.wd b j * N.B ^ (i + j) := by
    rw [N.mod_succ, Nat.mul_add, Nat.add_mul, Nat.pow_add, Nat.mul_comm (N.B ^ i) (N.B ^ j), ← Nat.mul_assoc (N.wd a i), Nat.mul_assoc (N.wd a i * N.wd b j)]
  rw [e5]
  omega
theorem N.mul_row {a b i M S c : Nat} (hb : b < N.B ^ M) (h : S + c * N.B ^ (i + M) = a % N.B ^ i * b + N.wd a i * (b % N.B ^ M) * N.B ^ i) : S + c * N.B ^ (i + M) = a % N.B ^ (i + 1) * b := by
  rw [h, Nat.mod_eq_of_lt hb, N.mod_succ, Nat.add_mul, Nat.mul_right_comm]
theorem N.mul_hi (X Y : Nat) (hX : X < 4294967296) (hY : Y < 4294967296) : X * Y ≤ 18446744065119617025 := Nat.mul_le_mul (show X ≤ 4294967295 by omega) (show Y ≤ 4294967295 by omega)
theorem arr_congr {m n L : Nat} (h : m = n) : arr m L = arr n L := by rw [h]
theorem N.bd_low {a b i M : Nat} (hb : b < N.B ^ M) : a % N.B ^ i * b < N.B ^ (i + M) := by
  rw [Nat.pow_add]
  exact Nat.mul_lt_mul'' (Nat.mod_lt _ (N.Bk_pos i)) hb

set_option maxHeartbeats 10000000 in
theorem mul_raw (A A2 : Option Addr) (L M cap cap2 a b : Nat) (hL30 : L ≤ 30) (hM30 : M ≤ 30) (hL0 : 0 < L) (hM0 : 0 < M) (w : World)
    (bL : Hid (a < N.B ^ L)) (bM : Hid (b < N.B ^ M))
    (HA : Hid (∃ b off, A = some ⟨b, off, none⟩ ∧ ∀ j, j < L → w.cell? ⟨b, off + j, none⟩ = some (.int .u32 (N.wd a j : Nat))))
    (HA2 : Hid (∃ c off, A2 = some ⟨c, off, none⟩ ∧ ∀ j, j < M → w.cell? ⟨c, off + j, none⟩ = some (.int .u32 (N.wd b j : Nat)))) :
    Calls Try.prog 113 #[.slice A L cap, .slice A2 M cap2] w fun e w' => ∃ u, e = .returned u ∧ Below w.heap.size w w' ∧ Nm w' u (a * b) := by
  obtain ⟨i0, hi, hz0, hz1, hz2⟩ := info_parts Try.infoU32
  have HI : Hid (i0.bytes * (L + M) ≤ 281474976710656) := by show i0.bytes * (L + M) ≤ 281474976710656; rw [hz2]; omega
  have HL1 : Hid (((L : Int) + (M : Int)) = ((L + M : Nat) : Int)) := by show ((L : Int) + (M : Int)) = ((L + M : Nat) : Int); omega
  have nL : ((L : Int) == 0) = false := by simp; omega
  have nM : ((M : Int) == 0) = false := by simp; omega
  clear hz2
  obtain ⟨bx, ox, rfl, cx⟩ := HA.out
  obtain ⟨byy, oy, rfl, cy⟩ := HA2.out
  have CX := Lib.hid cx; have CY := Lib.hid cy; clear cx cy HA HA2
  go_enter Try.func113, Try.ntmps113
  go_wp2_with (first | (at_make; refine wpList_make_blk _ rfl _ _ 94 rfl 122 i0 (.int .u32 0) Try.underlying94 hi hz0 hz1 rfl .i64 .i64 (L + M) (congrArg (Value.int .i64) HL1.out) (congrArg (Value.int .i64) HL1.out) HI.out (by omega) ?_; intro w1 hblk hbw hsz; rw [← arr_zero] at hblk; have HK := Lib.hid hblk; have HB := Lib.hid hbw; have hlt1 : w.heap.size < w1.heap.size := (by omega); clear hblk hbw hsz))
  go_loopw [6] (fun i wr => ∃ k : Nat, k ≤ L ∧ i = .int .i64 k ∧ Hid (Blk wr w.heap.size 122 (arr (a % N.B ^ k * b) (L + M))) ∧ Hid (Below w.heap.size w wr) ∧ w.heap.size < wr.heap.size) (fun i _ => L - (intOf i).toNat)
  case atStart => exact ⟨0, Nat.zero_le _, rfl, by rw [Nat.pow_zero, Nat.mod_one, Nat.zero_mul]; exact HK, HB, hlt1⟩
  case round =>
    obtain ⟨i, hik, rfl, hK, hB, hlt⟩ := hrel
    clear HK HB hlt1
    obtain ⟨wo, rfl⟩ : ∃ wo : World, wo = wr := ⟨_, rfl⟩
    by_cases hiL : i < L
    · obtain ⟨X, hX⟩ : ∃ X : Int, X = (N.wd a i : Nat) := ⟨_, rfl⟩
      have bX : 0 ≤ X ∧ X < 4294967296 := by have := N.wd_lt a i; omega
      obtain ⟨bX0, bX1⟩ := bX
      have HX := Lib.hid hX
      have i0' : (0 : Int) ≤ (i : Int) := by omega
      have i1' : (i : Int) < (L : Int) := by omega
      clear hX
      go_wp2
      go_loopw [7, 8] (fun cc jj wr => ∃ (j : Nat) (S c : Nat), j ≤ M ∧ jj = .int .i64 j ∧ cc = .int .u64 (c : Int) ∧ c < 4294967296 ∧ Hid (S + c * N.B ^ (i + j) = a % N.B ^ i * b + N.wd a i * (b % N.B ^ j) * N.B ^ i) ∧ Hid (S < N.B ^ (i + M)) ∧ Hid (Blk wr w.heap.size 122 (arr S (L + M))) ∧ Hid (Below w.heap.size w wr) ∧ w.heap.size < wr.heap.size) (fun _ jj _ => M - (intOf jj).toNat)
      case atStart => exact ⟨0, a % N.B ^ i * b, 0, Nat.zero_le _, rfl, rfl, by omega, by rw [Nat.zero_mul, Nat.pow_zero, Nat.mod_one, Nat.mul_zero, Nat.zero_mul]; exact rfl, N.bd_low bM.out, hK, hB, hlt⟩
      case round =>
        obtain ⟨j, S, c, hjM, rfl, rfl, hc, hS, hSb, hK2, hB2, hlt2⟩ := hrel
        by_cases hj : j < M
        · obtain ⟨Y, hY⟩ : ∃ Y : Int, Y = (N.wd b j : Nat) := ⟨_, rfl⟩
          obtain ⟨R, hR⟩ : ∃ R : Int, R = (N.wd S (i + j) : Nat) := ⟨_, rfl⟩
          have bY : 0 ≤ Y ∧ Y < 4294967296 := by have := N.wd_lt b j; omega
          have bR : 0 ≤ R ∧ R < 4294967296 := by have := N.wd_lt S (i + j); omega
          obtain ⟨bY0, bY1⟩ := bY
          obtain ⟨bR0, bR1⟩ := bR
          have c1 : wr.cell? ⟨bx, ox + i, none⟩ = some (.int .u32 X) := by
            have := CX.out i hiL
            rw [HX.out, (bcell hB2.out).1 _ _ (World.block_lt_of_cell? _ _ this)]; exact this
          have c2 : wr.cell? ⟨byy, oy + j, none⟩ = some (.int .u32 Y) := by
            have := CY.out j hj
            rw [hY, (bcell hB2.out).1 _ _ (World.block_lt_of_cell? _ _ this)]; exact this
          have c3 : wr.cell? ⟨w.heap.size, i + j, none⟩ = some (.int .u32 R) := by
            rw [hK2.out.cell, arr_get (by omega), hR]
          have f3 : wr.frozen? ⟨w.heap.size, i + j, none⟩ = false := hK2.out.frozen _
          obtain ⟨P, hP⟩ : ∃ P : Int, P = X * Y := ⟨_, rfl⟩
          have bP : 0 ≤ P ∧ P ≤ 18446744065119617025 := by
            have h := N.mul_hi (N.wd a i) (N.wd b j) (N.wd_lt a i) (N.wd_lt b j)
            rw [hP, HX.out, hY, ← Int.natCast_mul]; omega
          obtain ⟨bP0, bP1⟩ := bP
          have eP : IntKind.u64.wrap (X * Y) = P := by rw [← hP, IntKind.wrap_u64]; omega
          have eI : IntKind.i64.wrap ((i : Int) + (j : Int)) = (i : Int) + (j : Int) := IntWalk.i64_in _ (by omega)
          have HV : Hid ((c : Int) + (P + R) = ((c + (N.wd a i * N.wd b j + N.wd S (i + j)) : Nat) : Int)) := by
            show (c : Int) + (P + R) = ((c + (N.wd a i * N.wd b j + N.wd S (i + j)) : Nat) : Int)
            rw [hP, hR, HX.out, hY]; simp
          have HR := Lib.hid hR; have HY := Lib.hid hY; have HP := Lib.hid hP
          clear hR hY hP
          have hv2 : Hid ((c + (N.wd a i * N.wd b j + N.wd S (i + j))) % N.B < N.B) := Nat.mod_lt _ N.B_pos
          go_wp2
          refine Rg.wp_region [] (by kernel_rfl) (by kernel_rfl) ?_
          repeat (first | (refine Rg.wpL_nil ?_) | (refine Rg.wpL_skip rfl ?_; simp only [Act.put, List.setIfInBounds_toArray, List.set_cons_zero, List.set_cons_succ]) | (refine Rg.wpL_q rfl rfl (fun K hK => ?_); go_big_quiet_op; refine hK _ ?_; clear hK K) | (refine Rg.wpL_w rfl rfl (fun K hK => ?_); go_wp2_with (first | fail | fail)))
          go_wp2
          go_roundw
          case rel => exact ⟨j + 1, _, (c + (N.wd a i * N.wd b j + N.wd S (i + j))) / N.B, by omega, by go_num, W.u64 (by rw [HV.out, N.B_eq]; omega), by
            have h1 := N.mul_hi (N.wd a i) (N.wd b j) (N.wd_lt a i) (N.wd_lt b j); have h2 := N.wd_lt S (i + j); rw [N.B_eq]; omega, N.mul_step hS.out, N.set_lt hSb.out (by omega) hv2.out, by
            rw [← arr_set hv2.out (by omega)]
            have : ((c : Int) + (P + R)) % 4294967296 = (((c + (N.wd a i * N.wd b j + N.wd S (i + j))) % N.B : Nat) : Int) := by rw [HV.out, N.B_eq]; omega
            rw [← this]
            exact hK2.out.set_ _ _, Ext.drew (Ext.setCell hB2.out (Nat.le_refl _) _), by simp; exact hlt2⟩
          case measure => simp [intOf]; omega
        · obtain rfl : j = M := by omega
          have HR := Lib.hid (N.mul_row bM.out hS.out)
          have w0 : N.wd S (i + j) = 0 := N.wd_high hSb.out (Nat.le_refl _)
          have c3 : wr.cell? ⟨w.heap.size, i + j, none⟩ = some (.int .u32 0) := by
            rw [hK2.out.cell, arr_get (by omega), w0]; rfl
          have f3 : wr.frozen? ⟨w.heap.size, i + j, none⟩ = false := hK2.out.frozen _
          have eI : IntKind.i64.wrap ((i : Int) + (j : Int)) = (i : Int) + (j : Int) := IntWalk.i64_in _ (by omega)
          have W0 := Lib.hid w0; clear w0 hj
          go_wp2
          go_roundw
          case rel => exact ⟨i + 1, by omega, by go_num, by
            rw [← HR.out, ← arr_put W0.out hc (by omega)]
            exact hK2.out.set_ _ _, Ext.setCell hB2.out (Nat.le_refl _) _, by simp; exact hlt2⟩
          case measure => simp [intOf]; omega
    · obtain rfl : i = L := by omega
      have hbd : Hid (a * b < N.B ^ (i + M)) := by
        show a * b < N.B ^ (i + M)
        have := N.bd_low (a := a) (i := i) bM.out
        rwa [Nat.mod_eq_of_lt bL.out] at this
      have HT : Hid (∀ w2 : World, Blk w2 w.heap.size 122 (arr (a % N.B ^ i * b) (i + M)) → Calls Try.prog 116 #[.slice (some ⟨w.heap.size, 0, none⟩) (i + M) (i + M)] w2 fun e w' => ∃ u, e = .returned u ∧ w2 = w' ∧ Nm w2 u (a * b)) := fun w2 h => by
        rw [Nat.mod_eq_of_lt bL.out] at h
        exact trim_ok _ (i + M) (a * b) hbd.out w2 (blk_rd h (by unfold maxLen; omega))
      clear hiL
      go_wp2_with (first | (go_at_call 116; refine (HT.out _ hK.out).mono ?_; rintro e w2 ⟨u, rfl, rfl, hu⟩; have HU := Lib.hid hu; clear hu))
      go_ret
      exact ⟨u, rfl, hB.out, HU.out⟩
set_option maxHeartbeats 1000000 in
theorem mul_nil (A A2 : Option Addr) (L M cap cap2 : Nat) (hL : L ≤ 9223372036854775807) (hM : M ≤ 9223372036854775807) (h : L = 0 ∨ (0 < L ∧ M = 0)) (w : World) :
    Calls Try.prog 113 #[.slice A L cap, .slice A2 M cap2] w fun e w' => e = .returned (.slice none 0 0) ∧ w = w' := by
  rcases h with rfl | ⟨h0, rfl⟩
  · go_enter Try.func113, Try.ntmps113
    go_wp2
    go_ret
    exact ⟨rfl, rfl⟩
  · have nL : ((L : Int) == 0) = false := by simp; omega
    go_enter Try.func113, Try.ntmps113
    go_wp2
    go_ret
    exact ⟨rfl, rfl⟩
theorem Nm.zero (w : World) : Nm w (.slice none 0 0) 0 := ⟨Rd.nil w 1, Tp.none _ _ _⟩
theorem N.eq_zero {n : Nat} (h : N.ln n = 0) : n = 0 := by
  have := N.lt_ln n; rw [h, Nat.pow_zero] at this; omega
theorem bmul_ok (u v : Value) (a b : Nat) (ha : Sm a) (hb : Sm b) (w : World) (hu : Nm w u a) (hv : Nm w v b) :
    Calls Try.prog 113 #[u, v] w fun e w' => ∃ r, e = .returned r ∧ Below w.heap.size w w' ∧ Nm w' r (a * b) := by
  obtain ⟨hm, A, cap, rfl, _, hA⟩ := hu.open_
  obtain ⟨hm2, A2, cap2, rfl, _, hA2⟩ := hv.open_
  unfold maxLen at hm hm2
  by_cases h : N.ln a = 0 ∨ (0 < N.ln a ∧ N.ln b = 0)
  · refine (mul_nil A A2 _ _ cap cap2 (by omega) (by omega) h w).mono ?_
    rintro e w' ⟨rfl, rfl⟩
    refine ⟨_, rfl, Below.refl _ _, ?_⟩
    have e : a * b = 0 := by
      rcases h with h | h
      · rw [N.eq_zero h, Nat.zero_mul]
      · rw [N.eq_zero h.2, Nat.mul_zero]
    rw [e]; exact Nm.zero w
  · have h1 : 0 < N.ln a := by omega
    have h2 : 0 < N.ln b := by omega
    exact mul_raw A A2 _ _ cap cap2 a b ha hb h1 h2 w (N.lt_ln a) (N.lt_ln b) (hA h1) (hA2 h2)
end Go.Proofs.Ytkmcniaaecijdaa

/- Walks of the reckoner with numbers of any size: small (a number divided by one word). -/
namespace Go.Proofs.Ytkmcniaaecijdaa
open Go.RowKit
set_option linter.unusedVariables false
set_option linter.unusedSimpArgs false
set_option maxRecDepth 100000

/-- One step of the division by a word. -/
theorem N.small_step (t X d Bq : Nat) (hd : 0 < d) (hX : X < Bq) : (t * Bq + X) / d = t / d * Bq + (X + t % d * Bq) / d ∧ (t * Bq + X) % d = (X + t % d * Bq) % d ∧ (X + t % d * Bq) / d < Bq := by
  have e : t * Bq + X = d * (t / d * Bq) + (X + t % d * Bq) := by
    have h := Nat.div_add_mod t d
    have h2 : t * Bq = d * (t / d) * Bq + t % d * Bq := by rw [← Nat.add_mul, h]
    rw [h2, Nat.mul_assoc]; omega
  refine ⟨?_, ?_, ?_⟩
  · rw [e, Nat.mul_add_div hd]
  · rw [e, Nat.mul_add_mod]
  · rw [Nat.div_lt_iff_lt_mul hd]
    have h1 : t % d < d := Nat.mod_lt _ hd
    have h2 : t % d * Bq + Bq ≤ d * Bq := by rw [← Nat.succ_mul]; exact Nat.mul_le_mul_right _ h1
    rw [Nat.mul_comm Bq d]; omega
theorem N.small_div {a d k : Nat} (hd : 0 < d) : a / N.B ^ k / d * N.B ^ k = a / N.B ^ (k + 1) / d * N.B ^ (k + 1) + (N.wd a k + a / N.B ^ (k + 1) % d * N.B) / d * N.B ^ k := by
  have h := (N.small_step (a / N.B ^ (k + 1)) (N.wd a k) d N.B hd (N.wd_lt a k)).1
  rw [N.div_succ a k, h, Nat.add_mul, Nat.pow_succ, Nat.mul_assoc, Nat.mul_comm N.B]
theorem N.small_mod {a d k : Nat} (hd : 0 < d) : a / N.B ^ k % d = (N.wd a k + a / N.B ^ (k + 1) % d * N.B) % d := by
  have h := (N.small_step (a / N.B ^ (k + 1)) (N.wd a k) d N.B hd (N.wd_lt a k)).2.1
  rw [N.div_succ a k, h]
theorem N.wd_mul_high {t k : Nat} : N.wd (t * N.B ^ (k + 1)) k = 0 := by
  unfold N.wd
  rw [Nat.pow_succ, Nat.mul_comm _ (N.B ^ k * N.B), Nat.mul_assoc, Nat.mul_div_cancel_left _ (N.Bk_pos k), Nat.mul_mod_right]

set_option maxHeartbeats 4000000 in
theorem small_raw (A : Option Addr) (L cap a d : Nat) (hd : 0 < d) (hd32 : d < 4294967296) (hL30 : L ≤ 30) (w : World)
    (bL : Hid (a < N.B ^ L))
    (HA : Hid (0 < L → ∃ b off, A = some ⟨b, off, none⟩ ∧ ∀ j, j < L → w.cell? ⟨b, off + j, none⟩ = some (.int .u32 (N.wd a j : Nat)))) :
    Calls Try.prog 120 #[.slice A L cap, .int .u32 (d : Int)] w fun e w' => ∃ u, e = .returned (.tuple #[u, .int .u32 ((a % d : Nat) : Int)]) ∧ Below w.heap.size w w' ∧ Nm w' u (a / d) := by
  obtain ⟨i0, hi, hz0, hz1, hz2⟩ := info_parts Try.infoU32
  have HI : Hid (i0.bytes * L ≤ 281474976710656) := by show i0.bytes * L ≤ 281474976710656; rw [hz2]; omega
  clear hz2
  have HD : Hid (0 < d) := hd
  go_enter Try.func120, Try.ntmps120
  go_wp2_with (first | (at_make; refine wpList_make_blk _ rfl _ _ 94 rfl 122 i0 (.int .u32 0) Try.underlying94 hi hz0 hz1 rfl .i64 .i64 L rfl rfl HI.out (by omega) ?_; intro w1 hblk hbw hsz; rw [← arr_zero] at hblk; have HK := Lib.hid hblk; have HB := Lib.hid hbw; have hlt1 : w.heap.size < w1.heap.size := (by omega); clear hblk hbw hsz))
  go_loopw [7, 8] (fun r i wr => ∃ k : Nat, k ≤ L ∧ i = .int .i64 ((k : Int) - 1) ∧ r = .int .u64 ((a / N.B ^ k % d : Nat) : Int) ∧ Hid (Blk wr w.heap.size 122 (arr (a / N.B ^ k / d * N.B ^ k) L)) ∧ Hid (Below w.heap.size w wr) ∧ w.heap.size < wr.heap.size) (fun _ i _ => (intOf i + 1).toNat)
  case atStart => exact ⟨L, Nat.le_refl _, rfl, by rw [Nat.div_eq_of_lt bL.out, Nat.zero_mod]; rfl, by rw [Nat.div_eq_of_lt bL.out, Nat.zero_div, Nat.zero_mul]; exact HK, HB, hlt1⟩
  case round =>
    obtain ⟨k, hk, rfl, rfl, hK, hB, hlt⟩ := hrel
    rcases k with _ | k
    · have hbd : Hid (a / d < N.B ^ L) := Nat.lt_of_le_of_lt (Nat.div_le_self _ _) bL.out
      have HT : Hid (∀ w2 : World, Blk w2 w.heap.size 122 (arr (a / N.B ^ 0 / d * N.B ^ 0) L) → Calls Try.prog 116 #[.slice (some ⟨w.heap.size, 0, none⟩) L L] w2 fun e w' => ∃ u, e = .returned u ∧ w2 = w' ∧ Nm w2 u (a / d)) := fun w2 h => by
        rw [Nat.pow_zero, Nat.div_one, Nat.mul_one] at h
        exact trim_ok _ L (a / d) hbd.out w2 (blk_rd h (by unfold maxLen; omega))
      obtain ⟨R, hR⟩ : ∃ R : Int, R = ((a / N.B ^ 0 % d : Nat) : Int) := ⟨_, rfl⟩
      rw [← hR]
      have hR2 : R = ((a % d : Nat) : Int) := by rw [hR, Nat.pow_zero, Nat.div_one]
      have bR : 0 ≤ R ∧ R < 4294967296 := by have := Nat.mod_lt a hd; omega
      obtain ⟨bR0, bR1⟩ := bR
      have HR2 := Lib.hid hR2; clear hR hR2
      go_wp2_with (first | (go_at_call 116; refine (HT.out _ hK.out).mono ?_; rintro e w2 ⟨u, rfl, rfl, hu⟩; have HU := Lib.hid hu; clear hu))
      go_ret2
      exact ⟨u, by rw [HR2.out]; rfl, hB.out, HU.out⟩
    · obtain ⟨bx, ox, rfl, cx⟩ := HA.out (by omega)
      obtain ⟨X, hX⟩ : ∃ X : Int, X = (N.wd a k : Nat) := ⟨_, rfl⟩
      obtain ⟨R, hR⟩ : ∃ R : Int, R = ((a / N.B ^ (k + 1) % d : Nat) : Int) := ⟨_, rfl⟩
      rw [← hR]
      have c1 : wr.cell? ⟨bx, ox + k, none⟩ = some (.int .u32 X) := by
        have := cx k hk
        rw [hX, (bcell hB.out).1 _ _ (World.block_lt_of_cell? _ _ this)]; exact this
      have bX : 0 ≤ X ∧ X < 4294967296 := by have := N.wd_lt a k; omega
      obtain ⟨bX0, bX1⟩ := bX
      have bR : 0 ≤ R ∧ R < 4294967296 := by have := Nat.mod_lt (a / N.B ^ (k + 1)) hd; omega
      obtain ⟨bR0, bR1⟩ := bR
      have f3 : wr.cell? ⟨w.heap.size, k, none⟩ = some (.int .u32 0) := by
        rw [hK.out.cell, arr_get (by omega), N.wd_mul_high]; rfl
      have f4 : wr.frozen? ⟨w.heap.size, k, none⟩ = false := hK.out.frozen k
      obtain ⟨V, hV⟩ : ∃ V : Nat, V = N.wd a k + a / N.B ^ (k + 1) % d * N.B := ⟨_, rfl⟩
      have hVR : (V : Int) = X + R * 4294967296 := by rw [hV, hX, hR, N.B_eq]; simp
      have hor : bits .or .u64 (R * 4294967296) X = (V : Int) := by rw [or_high X R bX0 bX1 bR0 bR1, hVR]
      have bV : (V : Int) < 18446744073709551616 := by omega
      obtain ⟨Q, hQ⟩ : ∃ Q : Nat, Q = V / d := ⟨_, rfl⟩
      have hQ1 : (V : Int) / (d : Int) = (Q : Int) := by rw [hQ]; simp
      have bQ : (Q : Int) < 4294967296 := by
        have := (N.small_step (a / N.B ^ (k + 1)) (N.wd a k) d N.B hd (N.wd_lt a k)).2.2
        rw [← hV, ← hQ, N.B_eq] at this; omega
      have hM1 : (V : Int) % (d : Int) = ((V % d : Nat) : Int) := (Int.natCast_emod V d).symm
      have ek : ((k + 1 : Nat) : Int) - 1 = (k : Int) := by omega
      rw [ek]
      have i0' : (0 : Int) ≤ (k : Int) := by omega
      have i1' : (k : Int) < (L : Int) := by omega
      have HV := Lib.hid hV; have HQ := Lib.hid hQ; have HVR := Lib.hid hVR
      clear hX hR cx hV hQ hVR ek
      go_wp2
      go_roundw
      case rel => exact ⟨k, by omega, rfl, W.u64 (by rw [N.small_mod HD.out, ← HV.out]; exact (Int.natCast_emod V d).symm), by
        rw [N.small_div HD.out, ← HV.out, ← HQ.out, ← arr_put N.wd_mul_high (show Q < N.B by rw [N.B_eq]; omega) (by omega)]
        exact hK.out.set_ _ _, Ext.setCell hB.out (Nat.le_refl _) _, by simp; exact hlt⟩
      case measure => simp [intOf]
theorem small_ok (v : Value) (a d : Nat) (hd : 0 < d) (hd32 : d < 4294967296) (ha : Sm a) (w : World) (hv : Nm w v a) :
    Calls Try.prog 120 #[v, .int .u32 (d : Int)] w fun e w' => ∃ u, e = .returned (.tuple #[u, .int .u32 ((a % d : Nat) : Int)]) ∧ Below w.heap.size w w' ∧ Nm w' u (a / d) := by
  obtain ⟨_, A, cap, rfl, _, hA⟩ := hv.open_
  exact small_raw A _ cap a d hd hd32 ha w (N.lt_ln a) hA
end Go.Proofs.Ytkmcniaaecijdaa

/- Walks of the reckoner with numbers of any size: left. -/
namespace Go.Proofs.Ytkmcniaaecijdaa
open Go.RowKit
set_option linter.unusedVariables false
set_option linter.unusedSimpArgs false
set_option maxRecDepth 100000

theorem N.wd_shift (T q k : Nat) : N.wd (T * N.B ^ q) (k + q) = N.wd T k := by
  unfold N.wd
  rw [Nat.add_comm k q, Nat.pow_add, ← Nat.div_div_eq_div_mul, Nat.mul_div_cancel _ (N.Bk_pos q)]
theorem N.wd_small {T k s : Nat} (hs : s ≤ 31) (hT : T < N.B ^ k * 2 ^ s) : N.wd T k < 2 ^ s := by
  have h1 : T / N.B ^ k < 2 ^ s := by rw [Nat.div_lt_iff_lt_mul (N.Bk_pos k), Nat.mul_comm]; exact hT
  unfold N.wd
  exact Nat.lt_of_le_of_lt (Nat.mod_le _ _) h1
theorem N.pow_31 {s : Nat} (hs : s ≤ 31) : 2 ^ s ≤ 2147483648 := Nat.pow_le_pow_right (show 0 < 2 by decide) hs
theorem N.shl_low {X s : Nat} (hs : s ≤ 31) : X * 2 ^ s % N.B % 2 ^ s = 0 := by
  have e : N.B = 2 ^ s * 2 ^ (32 - s) := by rw [← Nat.pow_add, show s + (32 - s) = 32 by omega]; rfl
  rw [e, Nat.mod_mul_right_mod, Nat.mul_mod_left]
theorem N.left_step {a k s q : Nat} (hs : s ≤ 31) :
    a % N.B ^ k * 2 ^ s * N.B ^ q - N.wd (a % N.B ^ k * 2 ^ s * N.B ^ q) (k + q) * N.B ^ (k + q) + (N.wd (a % N.B ^ k * 2 ^ s) k + N.wd a k * 2 ^ s % N.B) * N.B ^ (k + q) + N.wd a k * 2 ^ s / N.B * N.B ^ (k + q + 1) = a % N.B ^ (k + 1) * 2 ^ s * N.B ^ q := by
  rw [N.wd_shift]
  generalize hT : a % N.B ^ k * 2 ^ s = T
  generalize hV : N.wd a k * 2 ^ s = V
  have e1 : N.wd T k * N.B ^ (k + q) ≤ T * N.B ^ q := by
    rw [Nat.pow_add, ← Nat.mul_assoc]
    have h : ∀ A W g X : Nat, X = A + W + g → W ≤ X := by intros; omega
    exact Nat.mul_le_mul_right _ (h _ _ _ _ (N.parts T k))
  have e2 : V % N.B * N.B ^ (k + q) + V / N.B * N.B ^ (k + q + 1) = V * N.B ^ (k + q) := by
    rw [Nat.pow_succ, Nat.mul_comm (N.B ^ (k + q)) N.B, ← Nat.mul_assoc, ← Nat.add_mul, Nat.mul_comm (V / N.B), Nat.mod_add_div]
  have e3 : a % N.B ^ (k + 1) * 2 ^ s * N.B ^ q = T * N.B ^ q + V * N.B ^ (k + q) := by
    rw [N.mod_succ, Nat.add_mul, hT, Nat.mul_right_comm, hV, Nat.add_mul, Nat.pow_add, Nat.mul_assoc V]
  rw [e3, ← e2, Nat.add_mul (N.wd T k)]
  omega
theorem u32_or_sum (x y i : Nat) (hx : x < 4294967296) (hy : y < 4294967296) (h0 : y % 2 ^ i = 0) (h1 : x < 2 ^ i) : bits .or .u32 (x : Int) (y : Int) = ((x + y : Nat) : Int) := by
  rw [u32_or_nat x y hx hy, Nat.or_comm, nat_join i y x h0 h1, Nat.add_comm]
theorem u32_or_zero (y : Nat) (hy : y < 4294967296) : bits .or .u32 0 (y : Int) = (y : Int) := by
  have := u32_or_nat 0 y (by omega) hy
  simpa using this

set_option maxHeartbeats 4000000 in
theorem left_raw (A : Option Addr) (L cap a q s : Nat) (z : Int) (hz0 : 0 ≤ z) (hz1 : z ≤ 1000) (hq : z / 32 = (q : Nat)) (hs : z % 32 = (s : Nat)) (hL30 : L ≤ 30) (hL0 : 0 < L) (w : World)
    (bL : Hid (a < N.B ^ L))
    (HA : Hid (∃ b off, A = some ⟨b, off, none⟩ ∧ ∀ j, j < L → w.cell? ⟨b, off + j, none⟩ = some (.int .u32 (N.wd a j : Nat)))) :
    Calls Try.prog 111 #[.slice A L cap, .int .u64 z] w fun e w' => ∃ u, e = .returned u ∧ Below w.heap.size w w' ∧ Nm w' u (a * 2 ^ s * N.B ^ q) := by
  obtain ⟨i0, hi, hzz, hzo, hz2⟩ := info_parts Try.infoU32
  have hq1 : q ≤ 31 := by omega
  have hs1 : s ≤ 31 := by omega
  have hmin : min s 64 = s := by omega
  have HI : Hid (i0.bytes * (L + q + 1) ≤ 281474976710656) := by show i0.bytes * (L + q + 1) ≤ 281474976710656; rw [hz2]; omega
  have HL1 : Hid ((((L : Int) + (q : Int)) + 1) = ((L + q + 1 : Nat) : Int)) := by show (((L : Int) + (q : Int)) + 1) = ((L + q + 1 : Nat) : Int); omega
  have nL : ((L : Int) == 0) = false := by simp; omega
  clear hz2
  go_enter Try.func111, Try.ntmps111
  go_wp2_with (first | (at_make; refine wpList_make_blk _ rfl _ _ 94 rfl 122 i0 (.int .u32 0) Try.underlying94 hi hzz hzo rfl .i64 .i64 (L + q + 1) (congrArg (Value.int .i64) HL1.out) (congrArg (Value.int .i64) HL1.out) HI.out (by omega) ?_; intro w1 hblk hbw hsz; rw [← arr_zero] at hblk; have HK := Lib.hid hblk; have HB := Lib.hid hbw; have hlt1 : w.heap.size < w1.heap.size := (by omega); clear hblk hbw hsz))
  go_loopw [8, 9] (fun i _ wr => ∃ k : Nat, k ≤ L ∧ i = .int .i64 k ∧ Hid (Blk wr w.heap.size 122 (arr (a % N.B ^ k * 2 ^ s * N.B ^ q) (L + q + 1))) ∧ Hid (Below w.heap.size w wr) ∧ w.heap.size < wr.heap.size) (fun i _ _ => L - (intOf i).toNat)
  case atStart => exact ⟨0, Nat.zero_le _, rfl, by rw [Nat.pow_zero, Nat.mod_one, Nat.zero_mul, Nat.zero_mul]; exact HK, HB, hlt1⟩
  case round =>
    obtain ⟨k, hk, rfl, hK, hB, hlt⟩ := hrel
    by_cases hkL : k < L
    · obtain ⟨bx, ox, rfl, cx⟩ := HA.out
      obtain ⟨X, hX⟩ : ∃ X : Int, X = (N.wd a k : Nat) := ⟨_, rfl⟩
      have c1 : wr.cell? ⟨bx, ox + k, none⟩ = some (.int .u32 X) := by
        have := cx k hkL
        rw [hX, (bcell hB.out).1 _ _ (World.block_lt_of_cell? _ _ this)]; exact this
      have bX : 0 ≤ X ∧ X < 4294967296 := by have := N.wd_lt a k; omega
      obtain ⟨bX0, bX1⟩ := bX
      have i0' : (0 : Int) ≤ (k : Int) := by omega
      have i1' : (k : Int) < (L : Int) := by omega
      have hP := N.pow_31 hs1
      obtain ⟨V, hV⟩ : ∃ V : Nat, V = N.wd a k * 2 ^ s := ⟨_, rfl⟩
      have bV : V < 9223372036854775808 := by
        have h1 : V ≤ 4294967295 * 2147483648 := by rw [hV]; exact Nat.mul_le_mul (by have := N.wd_lt a k; omega) hP
        omega
      have hsh : IntKind.u64.wrap (X * 2 ^ s) = (V : Int) := by
        have : X * 2 ^ s = (V : Int) := by rw [hX, hV]; simp
        rw [this, IntKind.wrap_u64]; omega
      have hTb : a % N.B ^ k * 2 ^ s < N.B ^ k * 2 ^ s := Nat.mul_lt_mul_of_pos_right (Nat.mod_lt _ (N.Bk_pos k)) (Nat.pow_pos (by decide))
      obtain ⟨H, hH⟩ : ∃ H : Nat, H = N.wd (a % N.B ^ k * 2 ^ s) k := ⟨_, rfl⟩
      have bH : H < 2 ^ s := by rw [hH]; exact N.wd_small hs1 hTb
      have bH2 : H < 2147483648 := by omega
      obtain ⟨V1, hV1⟩ : ∃ V1 : Nat, V1 = V % N.B := ⟨_, rfl⟩
      have bV1 : V1 < 4294967296 := by rw [hV1]; exact Nat.mod_lt _ N.B_pos
      obtain ⟨V2, hV2⟩ : ∃ V2 : Nat, V2 = V / N.B := ⟨_, rfl⟩
      have bV2 : V2 < 4294967296 := by rw [hV2, N.B_eq]; omega
      have q1 : (V : Int) % 4294967296 = (V1 : Int) := by rw [hV1, N.B_eq]; omega
      have q2 : (V : Int) / 4294967296 = (V2 : Int) := by rw [hV2, N.B_eq]; omega
      obtain ⟨Z, hZ⟩ : ∃ Z : Nat, Z = H + V1 := ⟨_, rfl⟩
      have hor : bits .or .u32 (H : Int) (V1 : Int) = (Z : Int) := by
        rw [hZ]; exact u32_or_sum H V1 s (by omega) bV1 (by rw [hV1, hV]; exact N.shl_low hs1) bH
      have hor2 : bits .or .u32 0 (V2 : Int) = (V2 : Int) := u32_or_zero V2 bV2
      have bZ : Hid (Z < N.B) := by
        show Z < N.B
        have h1 : (V1 : Nat) % 2 ^ s = 0 := by rw [hV1, hV]; exact N.shl_low hs1
        have h2 : N.B % 2 ^ s = 0 := by rw [N.B_pow]; exact Nat.mod_eq_zero_of_dvd (Nat.pow_dvd_pow 2 (by omega))
        have h3 : V1 < N.B := bV1
        obtain ⟨c, hc⟩ := Nat.dvd_of_mod_eq_zero h1
        obtain ⟨e, he⟩ := Nat.dvd_of_mod_eq_zero h2
        rw [hc, he] at h3
        have h4 : c < e := Nat.lt_of_mul_lt_mul_left h3
        have h5 : 2 ^ s * c + 2 ^ s ≤ 2 ^ s * e := by rw [← Nat.mul_succ]; exact Nat.mul_le_mul_left _ h4
        rw [hZ, hc, he]; omega
      have c3 : wr.cell? ⟨w.heap.size, k + q, none⟩ = some (.int .u32 (H : Int)) := by
        rw [hK.out.cell, arr_get (by omega), N.wd_shift, hH]
      have f3 : wr.frozen? ⟨w.heap.size, k + q, none⟩ = false := hK.out.frozen _
      have bR : a % N.B ^ k * 2 ^ s * N.B ^ q < N.B ^ (k + q + 1) := by
        have e : N.B ^ (k + q + 1) = N.B ^ k * N.B * N.B ^ q := by rw [Nat.pow_succ, Nat.pow_add, Nat.mul_right_comm]
        rw [e]
        refine Nat.mul_lt_mul_of_pos_right (Nat.lt_of_lt_of_le hTb (Nat.mul_le_mul_left _ ?_)) (N.Bk_pos q)
        rw [N.B_eq]; omega
      have c4 : wr.cell? ⟨w.heap.size, k + q + 1, none⟩ = some (.int .u32 0) := by
        rw [hK.out.cell, arr_get (by omega), N.wd_high bR (Nat.le_refl _)]; rfl
      have f4 : wr.frozen? ⟨w.heap.size, k + q + 1, none⟩ = false := hK.out.frozen _
      have HF : Hid (Blk ((wr.setCell ⟨w.heap.size, k + q, none⟩ (.int .u32 (Z : Int))).setCell ⟨w.heap.size, k + q + 1, none⟩ (.int .u32 (V2 : Int))) w.heap.size 122 (arr (a % N.B ^ (k + 1) * 2 ^ s * N.B ^ q) (L + q + 1))) := by
        show Blk _ _ _ _
        have hnum : a % N.B ^ k * 2 ^ s * N.B ^ q - N.wd (a % N.B ^ k * 2 ^ s * N.B ^ q) (k + q) * N.B ^ (k + q) + Z * N.B ^ (k + q) + V2 * N.B ^ (k + q + 1) = a % N.B ^ (k + 1) * 2 ^ s * N.B ^ q := by
          rw [hZ, hH, hV1, hV2, hV]; exact N.left_step hs1
        have h1 := hK.out.set_ (k + q) (.int .u32 (Z : Int))
        rw [arr_set bZ.out (by omega)] at h1
        have h2 := h1.set_ (k + q + 1) (.int .u32 (V2 : Int))
        rw [arr_put (N.wd_high (N.set_lt bR (by omega) bZ.out) (Nat.le_refl _)) (show V2 < N.B from bV2) (by omega), hnum] at h2
        exact h2
      clear hX hV hH hV1 hV2 hZ bR hTb bH hP cx
      go_wp2
      go_roundw
      case rel => exact ⟨k + 1, by omega, by go_num, HF.out, Ext.setCell (Ext.setCell hB.out (Nat.le_refl _) _) (Nat.le_refl _) _, by simp; exact hlt⟩
      case measure => simp [intOf]; omega
    · obtain rfl : k = L := by omega
      have hbd : Hid (a * 2 ^ s * N.B ^ q < N.B ^ (k + q + 1)) := by
        show a * 2 ^ s * N.B ^ q < N.B ^ (k + q + 1)
        have e : N.B ^ (k + q + 1) = N.B ^ k * N.B * N.B ^ q := by rw [Nat.pow_succ, Nat.pow_add, Nat.mul_right_comm]
        rw [e]
        have hP := N.pow_31 hs1
        refine Nat.mul_lt_mul_of_pos_right (Nat.lt_of_lt_of_le (Nat.mul_lt_mul_of_pos_right bL.out (Nat.pow_pos (by decide))) (Nat.mul_le_mul_left _ ?_)) (N.Bk_pos q)
        rw [N.B_eq]; omega
      have HT : Hid (∀ w2 : World, Blk w2 w.heap.size 122 (arr (a % N.B ^ k * 2 ^ s * N.B ^ q) (k + q + 1)) → Calls Try.prog 116 #[.slice (some ⟨w.heap.size, 0, none⟩) (k + q + 1) (k + q + 1)] w2 fun e w' => ∃ u, e = .returned u ∧ w2 = w' ∧ Nm w2 u (a * 2 ^ s * N.B ^ q)) := fun w2 h => by
        rw [Nat.mod_eq_of_lt bL.out] at h
        exact trim_ok _ _ _ hbd.out w2 (blk_rd h (by unfold maxLen; omega))
      clear hkL
      go_wp2_with (first | (go_at_call 116; refine (HT.out _ hK.out).mono ?_; rintro e w2 ⟨u, rfl, rfl, hu⟩; have HU := Lib.hid hu; clear hu))
      go_ret
      exact ⟨u, rfl, hB.out, HU.out⟩
set_option maxHeartbeats 1000000 in
theorem left_nil (A : Option Addr) (cap : Nat) (z : Int) (w : World) :
    Calls Try.prog 111 #[.slice A 0 cap, .int .u64 z] w fun e w' => e = .returned (.slice none 0 0) ∧ w = w' := by
  go_enter Try.func111, Try.ntmps111
  go_wp2
  go_ret
  exact ⟨rfl, rfl⟩
theorem N.two_split (z : Nat) : 2 ^ (z % 32) * N.B ^ (z / 32) = 2 ^ z := by
  rw [N.Bk, ← Nat.pow_add, Nat.mod_add_div]
theorem left_ok (v : Value) (a z : Nat) (hz : z ≤ 1000) (ha : Sm a) (w : World) (hv : Nm w v a) (Z : Int) (hZ : Z = (z : Nat)) :
    Calls Try.prog 111 #[v, .int .u64 Z] w fun e w' => ∃ u, e = .returned u ∧ Below w.heap.size w w' ∧ Nm w' u (a * 2 ^ z) := by
  obtain ⟨_, A, cap, rfl, _, hA⟩ := hv.open_
  rcases Nat.eq_zero_or_pos (N.ln a) with h0 | h0
  · rw [h0]
    refine (left_nil A cap Z w).mono ?_
    rintro e w' ⟨rfl, rfl⟩
    refine ⟨_, rfl, Below.refl _ _, ?_⟩
    rw [N.eq_zero h0, Nat.zero_mul]; exact Nm.zero w
  · have := left_raw A _ cap a (z / 32) (z % 32) Z (by omega) (by omega) (by omega) (by omega) ha h0 w (N.lt_ln a) (hA h0)
    rw [Nat.mul_assoc, N.two_split] at this
    exact this
end Go.Proofs.Ytkmcniaaecijdaa

/- Walks of the reckoner with numbers of any size: right. -/
namespace Go.Proofs.Ytkmcniaaecijdaa
open Go.RowKit
set_option linter.unusedVariables false
set_option linter.unusedSimpArgs false
set_option maxRecDepth 100000

theorem N.two_mod (n i : Nat) : n / N.B ^ i % (N.B * N.B) = N.wd n i + N.wd n (i + 1) * N.B := by
  rw [Nat.mod_mul, Nat.div_div_eq_div_mul, ← Nat.pow_succ, Nat.mul_comm N.B]; rfl
theorem N.right_step {a s q i : Nat} (hs : s ≤ 31) : N.wd (a / (2 ^ s * N.B ^ q)) i = (N.wd a (i + q) + N.wd a (i + q + 1) * N.B) / 2 ^ s % N.B := by
  rw [← N.two_mod]
  have e : N.B * N.B = 2 ^ s * (2 ^ (32 - s) * N.B) := by
    rw [← Nat.mul_assoc, ← Nat.pow_add, show s + (32 - s) = 32 by omega]; rfl
  rw [e, Nat.mod_mul_right_div_self, Nat.mod_mul_left_mod]
  unfold N.wd
  rw [Nat.div_div_eq_div_mul, Nat.div_div_eq_div_mul, Nat.pow_add]
  congr 2
  rw [Nat.mul_assoc, Nat.mul_comm (N.B ^ q), Nat.mul_comm]
set_option maxHeartbeats 4000000 in
theorem right_raw (A : Option Addr) (L M cap a q s : Nat) (z : Int) (hz0 : 0 ≤ z) (hz1 : z ≤ 1000) (hq : z / 32 = (q : Nat)) (hs : z % 32 = (s : Nat)) (hL30 : L ≤ 30) (hM : L = M + q) (hM0 : 0 < M) (w : World)
    (bL : Hid (a < N.B ^ L))
    (HA : Hid (∃ b off, A = some ⟨b, off, none⟩ ∧ ∀ j, j < L → w.cell? ⟨b, off + j, none⟩ = some (.int .u32 (N.wd a j : Nat)))) :
    Calls Try.prog 122 #[.slice A L cap, .int .u64 z] w fun e w' => ∃ u, e = .returned u ∧ Below w.heap.size w w' ∧ Nm w' u (a / (2 ^ s * N.B ^ q)) := by
  obtain ⟨i0, hi, hzz, hzo, hz2⟩ := info_parts Try.infoU32
  have hq1 : q ≤ 31 := by omega
  have hs1 : s ≤ 31 := by omega
  have hmin : min s 64 = s := by omega
  have HI : Hid (i0.bytes * M ≤ 281474976710656) := by show i0.bytes * M ≤ 281474976710656; rw [hz2]; omega
  have HL1 : (L : Int) - (q : Int) = (M : Int) := by omega
  have nq : decide (L ≤ q) = false := by simp; omega
  have bM : M ≤ 30 := by omega
  have HM := Lib.hid hM; clear hM
  clear hz2
  go_enter Try.func122, Try.ntmps122
  go_wp2_with (first | (at_make; refine wpList_make_blk _ rfl _ _ 94 rfl 122 i0 (.int .u32 0) Try.underlying94 hi hzz hzo rfl .i64 .i64 M rfl rfl HI.out (by omega) ?_; intro w1 hblk hbw hsz; rw [← arr_zero] at hblk; have HK := Lib.hid hblk; have HB := Lib.hid hbw; have hlt1 : w.heap.size < w1.heap.size := (by omega); clear hblk hbw hsz))
  go_loopw [8, 9] (fun i _ wr => ∃ k : Nat, k ≤ M ∧ i = .int .i64 k ∧ Hid (Blk wr w.heap.size 122 (arr (a / (2 ^ s * N.B ^ q) % N.B ^ k) M)) ∧ Hid (Below w.heap.size w wr) ∧ w.heap.size < wr.heap.size) (fun i _ _ => M - (intOf i).toNat)
  case atStart => exact ⟨0, Nat.zero_le _, rfl, by rw [Nat.pow_zero, Nat.mod_one]; exact HK, HB, hlt1⟩
  case round =>
    obtain ⟨k, hk, rfl, hK, hB, hlt⟩ := hrel
    clear HL1
    by_cases hkM : k < M
    · obtain ⟨bx, ox, rfl, cx⟩ := HA.out
      have hL := HM.out
      obtain ⟨X, hX⟩ : ∃ X : Int, X = (N.wd a (k + q) : Nat) := ⟨_, rfl⟩
      have c1 : wr.cell? ⟨bx, ox + (k + q), none⟩ = some (.int .u32 X) := by
        have := cx (k + q) (by omega)
        rw [hX, (bcell hB.out).1 _ _ (World.block_lt_of_cell? _ _ this)]; exact this
      have bX : 0 ≤ X ∧ X < 4294967296 := by have := N.wd_lt a (k + q); omega
      obtain ⟨bX0, bX1⟩ := bX
      have f3 : wr.cell? ⟨w.heap.size, k, none⟩ = some (.int .u32 0) := by
        rw [hK.out.cell, arr_get (by omega), N.wd_high (Nat.mod_lt _ (N.Bk_pos k)) (Nat.le_refl _)]; rfl
      have f4 : wr.frozen? ⟨w.heap.size, k, none⟩ = false := hK.out.frozen k
      have HST := Lib.hid (N.right_step (a := a) (q := q) (i := k) hs1)
      have i0' : (0 : Int) ≤ (k : Int) := by omega
      have i1' : k + q < L := by omega
      have HX := Lib.hid hX
      by_cases hin : k + q + 1 < L
      · obtain ⟨Y, hY⟩ : ∃ Y : Int, Y = (N.wd a (k + q + 1) : Nat) := ⟨_, rfl⟩
        have c2 : wr.cell? ⟨bx, ox + (k + q + 1), none⟩ = some (.int .u32 Y) := by
          have := cx (k + q + 1) (by omega)
          rw [hY, (bcell hB.out).1 _ _ (World.block_lt_of_cell? _ _ this)]; exact this
        have bY : 0 ≤ Y ∧ Y < 4294967296 := by have := N.wd_lt a (k + q + 1); omega
        obtain ⟨bY0, bY1⟩ := bY
        obtain ⟨V, hV⟩ : ∃ V : Nat, V = N.wd a (k + q) + N.wd a (k + q + 1) * N.B := ⟨_, rfl⟩
        have hor : bits .or .u64 X (Y * 4294967296) = (V : Int) := by
          rw [or_low X Y bX0 bX1 bY0 bY1, hX, hY, hV, N.B_eq]; simp
        have bV : (V : Int) < 18446744073709551616 := by
          rw [hV, N.B_eq]; have := N.wd_lt a (k + q); have := N.wd_lt a (k + q + 1); omega
        obtain ⟨Q, hQ⟩ : ∃ Q : Nat, Q = V / 2 ^ s := ⟨_, rfl⟩
        have hQ1 : (V : Int) / 2 ^ s = (Q : Int) := by rw [hQ]; simp
        have bQ : (Q : Int) < 18446744073709551616 := by
          have : Q ≤ V := by rw [hQ]; exact Nat.div_le_self _ _
          omega
        have e1 : Hid ((Q : Int) % 4294967296 = (N.wd (a / (2 ^ s * N.B ^ q)) k : Nat)) := by
          show (Q : Int) % 4294967296 = _
          rw [HST.out, ← hV, ← hQ, N.B_eq]; omega
        have nlt : decide ((k : Int) + (q : Int) + 1 < (L : Int)) = true := by simp only [decide_eq_true_eq]; omega
        have nle : (k : Int) + (q : Int) + 1 < (L : Int) := by omega
        have HIN := Lib.hid hin; clear hin
        clear hX hY hV hQ cx hL
        go_wp2
        go_roundw
        case rel => exact ⟨k + 1, by omega, by go_num, blk_next hK.out (by omega) e1.out, Ext.setCell hB.out (Nat.le_refl _) _, by simp; exact hlt⟩
        case measure => simp [intOf]; omega
      · have hz : N.wd a (k + q + 1) = 0 := N.wd_high bL.out (by omega)
        obtain ⟨Q, hQ⟩ : ∃ Q : Nat, Q = N.wd a (k + q) / 2 ^ s := ⟨_, rfl⟩
        have hQ1 : X / 2 ^ s = (Q : Int) := by rw [hQ, hX]; simp
        have bQ : (Q : Int) < 4294967296 := by
          have : Q ≤ N.wd a (k + q) := by rw [hQ]; exact Nat.div_le_self _ _
          have := N.wd_lt a (k + q)
          omega
        have e1 : Hid ((Q : Int) = (N.wd (a / (2 ^ s * N.B ^ q)) k : Nat)) := by
          show (Q : Int) = _
          rw [HST.out, hz, Nat.zero_mul, Nat.add_zero, ← hQ, N.B_eq]; omega
        have hin' : L ≤ k + q + 1 := by omega
        have nlt : decide ((k : Int) + (q : Int) + 1 < (L : Int)) = false := by simp only [decide_eq_false_iff_not]; omega
        clear hX hQ cx hz hin hin' hL
        go_wp2
        go_roundw
        case rel => exact ⟨k + 1, by omega, by go_num, blk_next hK.out (by omega) e1.out, Ext.setCell hB.out (Nat.le_refl _) _, by simp; exact hlt⟩
        case measure => simp [intOf]; omega
    · obtain rfl : k = M := by omega
      have hbd : Hid (a / (2 ^ s * N.B ^ q) < N.B ^ k) := by
        show a / (2 ^ s * N.B ^ q) < N.B ^ k
        rw [Nat.mul_comm, ← Nat.div_div_eq_div_mul]
        refine Nat.lt_of_le_of_lt (Nat.div_le_self _ _) ?_
        rw [Nat.div_lt_iff_lt_mul (N.Bk_pos q), ← Nat.pow_add, ← HM.out]; exact bL.out
      have HT : Hid (∀ w2 : World, Blk w2 w.heap.size 122 (arr (a / (2 ^ s * N.B ^ q) % N.B ^ k) k) → Calls Try.prog 116 #[.slice (some ⟨w.heap.size, 0, none⟩) k k] w2 fun e w' => ∃ u, e = .returned u ∧ w2 = w' ∧ Nm w2 u (a / (2 ^ s * N.B ^ q))) := fun w2 h => by
        rw [Nat.mod_eq_of_lt hbd.out] at h
        exact trim_ok _ _ _ hbd.out w2 (blk_rd h (by unfold maxLen; omega))
      clear hkM
      go_wp2_with (first | (go_at_call 116; refine (HT.out _ hK.out).mono ?_; rintro e w2 ⟨u, rfl, rfl, hu⟩; have HU := Lib.hid hu; clear hu))
      go_ret
      exact ⟨u, rfl, hB.out, HU.out⟩
set_option maxHeartbeats 1000000 in
theorem right_nil (A : Option Addr) (L cap q s : Nat) (z : Int) (hz0 : 0 ≤ z) (hz1 : z ≤ 1000) (hq : z / 32 = (q : Nat)) (hs : z % 32 = (s : Nat)) (hle : L ≤ q) (w : World) :
    Calls Try.prog 122 #[.slice A L cap, .int .u64 z] w fun e w' => e = .returned (.slice none 0 0) ∧ w = w' := by
  have hq1 : q ≤ 31 := by omega
  have nq : decide (L ≤ q) = true := by simpa using hle
  go_enter Try.func122, Try.ntmps122
  go_wp2
  go_ret
  exact ⟨rfl, rfl⟩
theorem right_ok (v : Value) (a z : Nat) (hz : z ≤ 900) (ha : Sm a) (w : World) (hv : Nm w v a) (Z : Int) (hZ : Z = (z : Nat)) :
    Calls Try.prog 122 #[v, .int .u64 Z] w fun e w' => ∃ u, e = .returned u ∧ Below w.heap.size w w' ∧ Nm w' u (a / 2 ^ z) := by
  obtain ⟨_, A, cap, rfl, _, hA⟩ := hv.open_
  rcases Nat.lt_or_ge (z / 32) (N.ln a) with h0 | h0
  · have := right_raw A (N.ln a) (N.ln a - z / 32) cap a (z / 32) (z % 32) Z (by omega) (by omega) (by omega) (by omega) ha (by omega) (by omega) w (N.lt_ln a) (hA (by omega))
    rw [N.two_split] at this
    exact this
  · refine (right_nil A (N.ln a) cap (z / 32) (z % 32) Z (by omega) (by omega) (by omega) (by omega) h0 w).mono ?_
    rintro e w' ⟨rfl, rfl⟩
    refine ⟨_, rfl, Below.refl _ _, ?_⟩
    have e : a / 2 ^ z = 0 := by
      rw [← N.two_split]
      refine Nat.div_eq_of_lt (Nat.lt_of_lt_of_le (N.lt_ln a) ?_)
      refine Nat.le_trans (Nat.pow_le_pow_right N.B_pos h0) ?_
      exact Nat.le_mul_of_pos_left _ (Nat.pow_pos (by decide))
    rw [e]; exact Nm.zero w
end Go.Proofs.Ytkmcniaaecijdaa
