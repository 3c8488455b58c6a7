/- EmuShifts: plain law. -/
import Derived.Test.YtfjgnhmmakeaeaaE46
import Derived.Test.YtfjgnhmmakeaeaaW6
import Derived.Lib.EndianBits
namespace Go.Proofs.Ytfjgnhmmakeaeaa
open Go.RowKit
set_option linter.unusedVariables false
set_option linter.unusedSimpArgs false
set_option maxRecDepth 100000
open Mc
namespace Mc
theorem doI_sh (op d : Int) (s : St) (h : 14 ≤ op ∧ op ≤ 18) : ∃ t, doI [] ⟨op, d, 0, 0⟩ s = t ∧ t.r = upd s.r d.toNat (shX op (s.r d.toNat) s.c) ∧ t.c = shC op (s.r d.toNat) := by
  refine ⟨_, rfl, ?_, ?_⟩
  · unfold doI
    show (exec [] op d.toNat 0 0 _ _).1.r = _
    rw [exec_sh _ _ _ _ _ _ _ h]; rfl
  · unfold doI
    show (exec [] op d.toNat 0 0 _ _).1.c = _
    rw [exec_sh _ _ _ _ _ _ _ h]; rfl
def low (c : Bool) : Int := if c = true then 1 else 0
def hiw (c : Bool) : Int := if c = true then 32768 else 0
theorem shX14 (x : Int) (c : Bool) (h : 0 ≤ x ∧ x < 65536) : shX 14 x c = x * 2 % 65536 := by
  unfold shX
  rw [if_pos (.inl rfl), if_neg (by simp), bits_join .i64 32 (by decide) i64_wraps 1 (x * 2) 0 (by omega) (by omega) (by omega) (by omega) (by omega) (by omega), Int.add_zero]
theorem shX15 (x : Int) (c : Bool) (h : 0 ≤ x ∧ x < 65536) : shX 15 x c = (x * 2 + low c) % 65536 := by
  unfold shX
  rw [if_pos (.inr rfl)]
  cases c
  · rw [if_neg (by simp), bits_join .i64 32 (by decide) i64_wraps 1 (x * 2) 0 (by omega) (by omega) (by omega) (by omega) (by omega) (by omega)]; rfl
  · rw [if_pos (by simp), bits_join .i64 32 (by decide) i64_wraps 1 (x * 2) 1 (by omega) (by omega) (by omega) (by omega) (by omega) (by omega)]; rfl
theorem or_top (x : Int) (b : Bool) (h : 0 ≤ x ∧ x < 65536) : bits .or .i64 (x / 2) (if b = true then 32768 else 0) % 65536 = x / 2 + hiw b := by
  cases b
  · rw [if_neg (by simp), bits_join_low .i64 32 (by decide) i64_wraps 15 (x / 2) 0 (by omega) (by omega) (by omega) (by omega) (by omega) (by omega)]
    show (x / 2 + 0) % 65536 = x / 2 + 0
    omega
  · rw [if_pos rfl, bits_join_low .i64 32 (by decide) i64_wraps 15 (x / 2) 32768 (by omega) (by omega) (by omega) (by omega) (by omega) (by omega)]
    show (x / 2 + 32768) % 65536 = x / 2 + 32768
    omega
theorem shX16 (x : Int) (c : Bool) (h : 0 ≤ x ∧ x < 65536) : shX 16 x c = x / 2 := by
  have := or_top x false h
  unfold shX
  rw [if_neg (by decide), if_neg (by simp)]
  rw [if_neg (by simp)] at this
  rw [this]; show x / 2 + 0 = _; omega
theorem shX17 (x : Int) (c : Bool) (h : 0 ≤ x ∧ x < 65536) : shX 17 x c = x / 2 + hiw (decide (32767 < x)) := by
  rw [← or_top x _ h]
  unfold shX
  rw [if_neg (by decide)]
  by_cases hx : 32767 < x
  · rw [if_pos (.inr ⟨rfl, hx⟩), if_pos (decide_eq_true hx)]
  · rw [if_neg (by simp [hx]), if_neg (by simp [hx])]
theorem shX18 (x : Int) (c : Bool) (h : 0 ≤ x ∧ x < 65536) : shX 18 x c = x / 2 + hiw c := by
  rw [← or_top x _ h]
  unfold shX
  rw [if_neg (by decide)]
  cases c
  · rw [if_neg (by simp), if_neg (by simp)]
  · rw [if_pos (.inl ⟨rfl, rfl⟩), if_pos rfl]
/-- Shifted up, down, from the first to the last. -/
def upR (n : Nat) : List U.In := (List.range n).map fun i : Nat => ⟨15, (i : Int), 0, 0⟩
def dnR (n : Nat) : List U.In := (List.range n).map fun i : Nat => ⟨18, ((n - 1 - i : Nat) : Int), 0, 0⟩
def upS (n : Nat) : List U.In := ⟨14, 0, 0, 0⟩ :: (upR n).drop 1
def dnS (f : Int) (n : Nat) : List U.In := ⟨f, ((n - 1 : Nat) : Int), 0, 0⟩ :: (dnR n).drop 1
theorem up_in {n : Nat} (hn : n = 1 ∨ n = 2 ∨ n = 4) : ∀ i ∈ upS n, i.Ok ∧ i.Tidy ∧ Plain i := by
  rcases hn with rfl | rfl | rfl <;> intro i hi <;> simp only [upS, upR, List.range, List.range.loop, List.map_cons, List.map_nil, List.drop_succ_cons, List.drop_zero, List.mem_cons, List.not_mem_nil, or_false] at hi
  · subst hi; exact U.in_full 14 0 0 0 rfl ⟨fun h => absurd h (by decide), fun _ => rfl⟩
  · rcases hi with rfl | rfl
    · exact U.in_full 14 0 0 0 rfl ⟨fun h => absurd h (by decide), fun _ => rfl⟩
    · exact U.in_full 15 1 0 0 rfl ⟨fun h => absurd h (by decide), fun _ => rfl⟩
  · rcases hi with rfl | rfl | rfl | rfl
    · exact U.in_full 14 0 0 0 rfl ⟨fun h => absurd h (by decide), fun _ => rfl⟩
    · exact U.in_full 15 1 0 0 rfl ⟨fun h => absurd h (by decide), fun _ => rfl⟩
    · exact U.in_full 15 2 0 0 rfl ⟨fun h => absurd h (by decide), fun _ => rfl⟩
    · exact U.in_full 15 3 0 0 rfl ⟨fun h => absurd h (by decide), fun _ => rfl⟩
theorem dn_in {f : Int} (hf : f = 16 ∨ f = 17) {n : Nat} (hn : n = 1 ∨ n = 2 ∨ n = 4) : ∀ i ∈ dnS f n, i.Ok ∧ i.Tidy ∧ Plain i := by
  rcases hf with rfl | rfl <;> rcases hn with rfl | rfl | rfl <;> intro i hi <;> simp only [dnS, dnR, List.range, List.range.loop, List.map_cons, List.map_nil, List.drop_succ_cons, List.drop_zero, List.mem_cons, List.not_mem_nil, or_false] at hi
  all_goals first | (subst hi; exact U.in_full _ _ _ _ rfl ⟨fun h => absurd h (by decide), fun _ => rfl⟩) | (rcases hi with rfl | rfl <;> exact U.in_full _ _ _ _ rfl ⟨fun h => absurd h (by decide), fun _ => rfl⟩) | (rcases hi with rfl | rfl | rfl | rfl <;> exact U.in_full _ _ _ _ rfl ⟨fun h => absurd h (by decide), fun _ => rfl⟩)
theorem low_d (x : Int) : low (decide (32767 < x)) = if 32767 < x then 1 else 0 := by unfold low; simp
theorem hiw_d (x : Int) : hiw (decide (32767 < x)) = if 32767 < x then 32768 else 0 := by unfold hiw; simp
theorem hiw_o (x : Int) : hiw (x % 2 == 1) = if x % 2 = 1 then 32768 else 0 := by unfold hiw; simp
/-- The state at the start. -/
abbrev rg (x0 x1 x2 x3 : Int) : St := Mc.begin (reg8 x0 x1 x2 x3 0 0 0 0) false false false false 0 []
/-- What comes of it, register by register. -/
theorem up_runs {n : Nat} (hn : n = 1 ∨ n = 2 ∨ n = 4) (x0 x1 x2 x3 : Int) (h0 : 0 ≤ x0 ∧ x0 < 65536) (h1 : 0 ≤ x1 ∧ x1 < 65536) (h2 : 0 ≤ x2 ∧ x2 < 65536) (h3 : 0 ≤ x3 ∧ x3 < 65536) :
    ∃ t, runL [] (upS n) (rg x0 x1 x2 x3) = t ∧ t.r 0 = x0 * 2 % 65536 ∧ (n = 1 → t.c = decide (32767 < x0)) ∧ (n = 2 → t.r 1 = (x1 * 2 + low (decide (32767 < x0))) % 65536 ∧ t.c = decide (32767 < x1)) ∧
      (n = 4 → t.r 1 = (x1 * 2 + low (decide (32767 < x0))) % 65536 ∧ t.r 2 = (x2 * 2 + low (decide (32767 < x1))) % 65536 ∧ t.r 3 = (x3 * 2 + low (decide (32767 < x2))) % 65536 ∧ t.c = decide (32767 < x3)) := by
  obtain ⟨a, ha, ar, ac⟩ := doI_sh 14 0 (rg x0 x1 x2 x3) (by omega)
  have e0 : (rg x0 x1 x2 x3).r (0 : Int).toNat = x0 := rfl
  rw [e0, shX14 x0 _ h0] at ar
  rw [e0] at ac
  have ac : a.c = decide (32767 < x0) := ac
  obtain ⟨b, hb, br, bc⟩ := doI_sh 15 1 a (by omega)
  have e1 : a.r (1 : Int).toNat = x1 := by rw [ar]; rfl
  rw [e1, ac, shX15 x1 _ h1] at br
  rw [e1] at bc
  have bc : b.c = decide (32767 < x1) := bc
  obtain ⟨d, hd, dr, dc⟩ := doI_sh 15 2 b (by omega)
  have e2 : b.r (2 : Int).toNat = x2 := by rw [br, ar]; rfl
  rw [e2, bc, shX15 x2 _ h2] at dr
  rw [e2] at dc
  have dc : d.c = decide (32767 < x2) := dc
  obtain ⟨e, he, er, ec⟩ := doI_sh 15 3 d (by omega)
  have e3 : d.r (3 : Int).toNat = x3 := by rw [dr, br, ar]; rfl
  rw [e3, dc, shX15 x3 _ h3] at er
  rw [e3] at ec
  have ec : e.c = decide (32767 < x3) := ec
  rcases hn with rfl | rfl | rfl
  · refine ⟨a, ?_, by rw [ar]; rfl, fun _ => ac, fun h => absurd h (by decide), fun h => absurd h (by decide)⟩
    show doI [] ⟨14, 0, 0, 0⟩ _ = _
    exact ha
  · refine ⟨b, ?_, by rw [br, ar]; rfl, fun h => absurd h (by decide), fun _ => ⟨by rw [br]; rfl, bc⟩, fun h => absurd h (by decide)⟩
    show doI [] ⟨15, 1, 0, 0⟩ (doI [] ⟨14, 0, 0, 0⟩ _) = _
    rw [ha]; exact hb
  · refine ⟨e, ?_, by rw [er, dr, br, ar]; rfl, fun h => absurd h (by decide), fun h => absurd h (by decide), fun _ => ⟨by rw [er, dr, br]; rfl, by rw [er, dr]; rfl, by rw [er]; rfl, ec⟩⟩
    show doI [] ⟨15, 3, 0, 0⟩ (doI [] ⟨15, 2, 0, 0⟩ (doI [] ⟨15, 1, 0, 0⟩ (doI [] ⟨14, 0, 0, 0⟩ _))) = _
    rw [ha, hb, hd]; exact he
/-- The top word's half. -/
def tp (f x : Int) : Int := x / 2 + (if f = 17 then hiw (decide (32767 < x)) else 0)
theorem shX_f {f : Int} (hf : f = 16 ∨ f = 17) (x : Int) (c : Bool) (h : 0 ≤ x ∧ x < 65536) : shX f x c = tp f x := by
  rcases hf with rfl | rfl
  · rw [shX16 x c h]; unfold tp; rw [if_neg (by decide)]; omega
  · rw [shX17 x c h]; unfold tp; rw [if_pos rfl]
theorem shC_f {f : Int} (hf : f = 16 ∨ f = 17 ∨ f = 18) (x : Int) : shC f x = (x % 2 == 1) := by
  rcases hf with rfl | rfl | rfl <;> rfl
theorem dn_runs {f : Int} (hf : f = 16 ∨ f = 17) {n : Nat} (hn : n = 1 ∨ n = 2 ∨ n = 4) (x0 x1 x2 x3 : Int) (h0 : 0 ≤ x0 ∧ x0 < 65536) (h1 : 0 ≤ x1 ∧ x1 < 65536) (h2 : 0 ≤ x2 ∧ x2 < 65536) (h3 : 0 ≤ x3 ∧ x3 < 65536) :
    ∃ t, runL [] (dnS f n) (rg x0 x1 x2 x3) = t ∧ t.c = (x0 % 2 == 1) ∧ (n = 1 → t.r 0 = tp f x0) ∧ (n = 2 → t.r 0 = x0 / 2 + hiw (x1 % 2 == 1) ∧ t.r 1 = tp f x1) ∧
      (n = 4 → t.r 0 = x0 / 2 + hiw (x1 % 2 == 1) ∧ t.r 1 = x1 / 2 + hiw (x2 % 2 == 1) ∧ t.r 2 = x2 / 2 + hiw (x3 % 2 == 1) ∧ t.r 3 = tp f x3) := by
  have hf3 : f = 16 ∨ f = 17 ∨ f = 18 := by rcases hf with h | h <;> simp [h]
  have hfb : 14 ≤ f ∧ f ≤ 18 := by rcases hf with h | h <;> omega
  rcases hn with rfl | rfl | rfl
  · obtain ⟨a, ha, ar, ac⟩ := doI_sh f 0 (rg x0 x1 x2 x3) hfb
    have e0 : (rg x0 x1 x2 x3).r (0 : Int).toNat = x0 := rfl
    rw [e0, shX_f hf x0 _ h0] at ar
    rw [e0, shC_f hf3] at ac
    exact ⟨a, ha, ac, fun _ => by rw [ar]; rfl, fun h => absurd h (by decide), fun h => absurd h (by decide)⟩
  · obtain ⟨a, ha, ar, ac⟩ := doI_sh f 1 (rg x0 x1 x2 x3) hfb
    have e0 : (rg x0 x1 x2 x3).r (1 : Int).toNat = x1 := rfl
    rw [e0, shX_f hf x1 _ h1] at ar
    rw [e0, shC_f hf3] at ac
    obtain ⟨b, hb, br, bc⟩ := doI_sh 18 0 a (by omega)
    have e1 : a.r (0 : Int).toNat = x0 := by rw [ar]; rfl
    rw [e1, ac, shX18 x0 _ h0] at br
    rw [e1, shC_f (.inr (.inr rfl))] at bc
    refine ⟨b, ?_, bc, fun h => absurd h (by decide), fun _ => ⟨by rw [br]; rfl, by rw [br, ar]; rfl⟩, fun h => absurd h (by decide)⟩
    show doI [] ⟨18, 0, 0, 0⟩ (doI [] ⟨f, 1, 0, 0⟩ _) = _
    rw [ha]; exact hb
  · obtain ⟨a, ha, ar, ac⟩ := doI_sh f 3 (rg x0 x1 x2 x3) hfb
    have e0 : (rg x0 x1 x2 x3).r (3 : Int).toNat = x3 := rfl
    rw [e0, shX_f hf x3 _ h3] at ar
    rw [e0, shC_f hf3] at ac
    obtain ⟨b, hb, br, bc⟩ := doI_sh 18 2 a (by omega)
    have e1 : a.r (2 : Int).toNat = x2 := by rw [ar]; rfl
    rw [e1, ac, shX18 x2 _ h2] at br
    rw [e1, shC_f (.inr (.inr rfl))] at bc
    obtain ⟨d, hd, dr, dc⟩ := doI_sh 18 1 b (by omega)
    have e2 : b.r (1 : Int).toNat = x1 := by rw [br, ar]; rfl
    rw [e2, bc, shX18 x1 _ h1] at dr
    rw [e2, shC_f (.inr (.inr rfl))] at dc
    obtain ⟨e, he, er, ec⟩ := doI_sh 18 0 d (by omega)
    have e3 : d.r (0 : Int).toNat = x0 := by rw [dr, br, ar]; rfl
    rw [e3, dc, shX18 x0 _ h0] at er
    rw [e3, shC_f (.inr (.inr rfl))] at ec
    refine ⟨e, ?_, ec, fun h => absurd h (by decide), fun h => absurd h (by decide), fun _ => ⟨by rw [er]; rfl, by rw [er, dr]; rfl, by rw [er, dr, br]; rfl, by rw [er, dr, br, ar]; rfl⟩⟩
    show doI [] ⟨18, 0, 0, 0⟩ (doI [] ⟨18, 1, 0, 0⟩ (doI [] ⟨18, 2, 0, 0⟩ (doI [] ⟨f, 3, 0, 0⟩ _))) = _
    rw [ha, hb, hd]; exact he
theorem sum1 (x0 : Int) : W.join [x0] = x0 := by show x0 + 65536 * 0 = x0; omega
theorem sum2 (x0 x1 : Int) : W.join [x0, x1] = x0 + 65536 * x1 := by show x0 + 65536 * (x1 + 65536 * 0) = _; omega
theorem sum4 (x0 x1 x2 x3 : Int) : W.join [x0, x1, x2, x3] = x0 + 65536 * x1 + 4294967296 * x2 + 281474976710656 * x3 := by show x0 + 65536 * (x1 + 65536 * (x2 + 65536 * (x3 + 65536 * 0))) = _; omega
theorem up4 (x0 x1 x2 x3 : Int) (h0 : 0 ≤ x0 ∧ x0 < 65536) (h1 : 0 ≤ x1 ∧ x1 < 65536) (h2 : 0 ≤ x2 ∧ x2 < 65536) (h3 : 0 ≤ x3 ∧ x3 < 65536) :
    x0 * 2 % 65536 + 65536 * ((x1 * 2 + low (decide (32767 < x0))) % 65536) + 4294967296 * ((x2 * 2 + low (decide (32767 < x1))) % 65536) + 281474976710656 * ((x3 * 2 + low (decide (32767 < x2))) % 65536) = (x0 + 65536 * x1 + 4294967296 * x2 + 281474976710656 * x3) * 2 % 18446744073709551616 := by
  rw [low_d, low_d, low_d]
  split <;> split <;> split <;> omega
theorem up2 (x0 x1 : Int) (h0 : 0 ≤ x0 ∧ x0 < 65536) (h1 : 0 ≤ x1 ∧ x1 < 65536) :
    x0 * 2 % 65536 + 65536 * ((x1 * 2 + low (decide (32767 < x0))) % 65536) = (x0 + 65536 * x1) * 2 % 4294967296 := by
  rw [low_d]
  split <;> omega
theorem dn4 (f x0 x1 x2 x3 : Int) (h0 : 0 ≤ x0 ∧ x0 < 65536) (h1 : 0 ≤ x1 ∧ x1 < 65536) (h2 : 0 ≤ x2 ∧ x2 < 65536) (h3 : 0 ≤ x3 ∧ x3 < 65536) :
    (x0 / 2 + hiw (x1 % 2 == 1)) + 65536 * (x1 / 2 + hiw (x2 % 2 == 1)) + 4294967296 * (x2 / 2 + hiw (x3 % 2 == 1)) + 281474976710656 * tp f x3 = (x0 + 65536 * x1 + 4294967296 * x2 + 281474976710656 * x3) / 2 + (if f = 17 ∧ 32767 < x3 then 9223372036854775808 else 0) := by
  unfold tp
  rw [hiw_o, hiw_o, hiw_o, hiw_d]
  by_cases hf : f = 17 <;> by_cases hx : 32767 < x3 <;> simp only [hf, hx, if_true, if_false, and_self, and_true, true_and, and_false, false_and, not_true, not_false_iff] <;> split <;> split <;> split <;> omega
theorem dn2 (f x0 x1 : Int) (h0 : 0 ≤ x0 ∧ x0 < 65536) (h1 : 0 ≤ x1 ∧ x1 < 65536) :
    (x0 / 2 + hiw (x1 % 2 == 1)) + 65536 * tp f x1 = (x0 + 65536 * x1) / 2 + (if f = 17 ∧ 32767 < x1 then 2147483648 else 0) := by
  unfold tp
  rw [hiw_o, hiw_d]
  by_cases hf : f = 17 <;> by_cases hx : 32767 < x1 <;> simp only [hf, hx, if_true, if_false, and_self, and_true, true_and, and_false, false_and, not_true, not_false_iff] <;> split <;> omega
/-- What the reference's shifts say of the number's words. -/
theorem shl_1 (v a X : Int) (hv : W.ok v) (hX : X = W.cut v a) : W.shl v a 1 = X * 2 % W.md v := by
  unfold W.shl
  rw [hX]; unfold W.cut
  rw [show min (1 : Int).toNat 64 = 1 from rfl, Int.pow_succ, Int.pow_zero, Int.one_mul, Int.mul_emod (a % W.md v), Int.emod_emod, ← Int.mul_emod]
theorem shr_1 (v a X M : Int) (s : Bool) (hv : v = 16 ∨ v = 32 ∨ v = 64) (hX : X = W.cut v a) : W.shr v s a 1 = X / 2 + (if s = true ∧ W.md v ≤ X * 2 then W.md v / 2 else 0) := by
  have hm : W.md v = 65536 ∨ W.md v = 4294967296 ∨ W.md v = 18446744073709551616 := by
    rcases hv with rfl | rfl | rfl
    · exact .inl rfl
    · exact .inr (.inl rfl)
    · exact .inr (.inr rfl)
  unfold W.cut at hX
  unfold W.shr W.sg
  rw [← hX, show min (1 : Int).toNat 64 = 1 from rfl, Int.pow_succ, Int.pow_zero, Int.one_mul]
  generalize W.md v = K at *
  have hb : 0 ≤ X ∧ X < K := by rcases hm with rfl | rfl | rfl <;> omega
  cases s
  · simp
  · rw [if_pos rfl]
    by_cases h : X * 2 < K
    · rw [if_pos h, if_neg (by omega)]; rcases hm with rfl | rfl | rfl <;> omega
    · rw [if_neg h, if_pos (by exact ⟨rfl, by omega⟩)]; rcases hm with rfl | rfl | rfl <;> omega
/-- Width, words, number. -/
def Cs (v : Int) (n : Nat) (X x0 x1 x2 x3 : Int) : Prop := (v = 16 ∧ n = 1 ∧ X = x0) ∨ (v = 32 ∧ n = 2 ∧ X = x0 + 65536 * x1) ∨ (v = 64 ∧ n = 4 ∧ X = x0 + 65536 * x1 + 4294967296 * x2 + 281474976710656 * x3)
def W4 (x0 x1 x2 x3 : Int) : Prop := (0 ≤ x0 ∧ x0 < 65536) ∧ (0 ≤ x1 ∧ x1 < 65536) ∧ (0 ≤ x2 ∧ x2 < 65536) ∧ (0 ≤ x3 ∧ x3 < 65536)
theorem joinE_of {l : List Int} (h1 : 1 ≤ l.length) (h4 : l.length ≤ 4) (h : ∀ x ∈ l, 0 ≤ x ∧ x ≤ 65535) : W.joinE l = 0 ∧ W.joinV l = W.join l := by
  have := W.joinE_ok l h1 h4 h
  exact ⟨this, by unfold W.joinV; rw [if_pos this]⟩
theorem tp_bd (f x : Int) (h : 0 ≤ x ∧ x < 65536) : 0 ≤ tp f x ∧ tp f x ≤ 65535 := by
  unfold tp; rw [hiw_d]; split
  · split <;> omega
  · omega
theorem hf_bd (x y : Int) (h : 0 ≤ x ∧ x < 65536) : 0 ≤ x / 2 + hiw (y % 2 == 1) ∧ x / 2 + hiw (y % 2 == 1) ≤ 65535 := by
  rw [hiw_o]; split <;> omega
theorem ends_run (l : List U.In) (x0 x1 x2 x3 : Int) (hl : ∀ i ∈ l, i.Ok ∧ i.Tidy ∧ Plain i) (hn : l.length ≤ 900) (hsz : (U.encs l).length ≤ 65534) (F t : St) (ht : runL [] l (rg x0 x1 x2 x3) = t) (hF : Mc.ends (U.encs (l ++ [haltI])) [] 1000 x0 x1 x2 x3 0 0 0 0 false false false false 0 [] = F) : F = { t with steps := t.steps + 1, how := 1 } := by
  rw [ends_goA] at hF
  have h := goA_halts [] (999 - l.length) l (rg x0 x1 x2 x3) hl rfl hsz (by show 0 + _ ≤ _; omega)
  rw [show 999 - l.length + 1 + l.length = 1000 by omega] at h
  rw [show (1000 : Int).toNat = 1000 from rfl, h, ht] at hF
  exact hF.symm
theorem up_law {v : Int} {n : Nat} {a x0 x1 x2 x3 : Int} (hc : Cs v n (W.cut v a) x0 x1 x2 x3) (hw : W4 x0 x1 x2 x3) (F : St) (hF : Mc.ends (U.encs (upS n ++ [haltI])) [] 1000 x0 x1 x2 x3 0 0 0 0 false false false false 0 [] = F) :
    F.how = 1 ∧ W.joinE ([F.r 0, F.r 1, F.r 2, F.r 3].take n) = 0 ∧ W.joinV ([F.r 0, F.r 1, F.r 2, F.r 3].take n) = W.shl v a 1 ∧ F.c = decide (32767 < [x0, x1, x2, x3].getD (n - 1) 0) := by
  obtain ⟨h0, h1, h2, h3⟩ := hw
  have hn : n = 1 ∨ n = 2 ∨ n = 4 := by rcases hc with h | h | h <;> simp [h.2.1]
  obtain ⟨t, ht, t0, t1, t2, t4⟩ := up_runs hn x0 x1 x2 x3 h0 h1 h2 h3
  have hFt := ends_run (upS n) x0 x1 x2 x3 (up_in hn) (by rcases hn with rfl | rfl | rfl <;> decide) (by rcases hn with rfl | rfl | rfl <;> decide) F t ht hF
  subst hFt
  have hlow : ∀ c, 0 ≤ low c ∧ low c ≤ 1 := fun c => by cases c <;> decide
  rcases hc with ⟨rfl, rfl, hX⟩ | ⟨rfl, rfl, hX⟩ | ⟨rfl, rfl, hX⟩
  · have hj := joinE_of (l := [t.r 0]) (by simp) (by simp) (fun x hx => by simp at hx; subst hx; rw [t0]; omega)
    refine ⟨rfl, hj.1, ?_, t1 rfl⟩
    show W.joinV [t.r 0] = _
    rw [hj.2, sum1, t0, shl_1 16 a x0 (by simp [W.ok]) hX.symm, W.md16]
  · obtain ⟨t21, tc⟩ := t2 rfl
    have hj := joinE_of (l := [t.r 0, t.r 1]) (by simp) (by simp) (fun x hx => by simp at hx; rcases hx with rfl | rfl; (· rw [t0]; omega); (· rw [t21]; omega))
    refine ⟨rfl, hj.1, ?_, tc⟩
    show W.joinV [t.r 0, t.r 1] = _
    rw [hj.2, sum2, t0, t21, shl_1 32 a _ (by simp [W.ok]) hX.symm, W.md32, up2 x0 x1 h0 h1]
  · obtain ⟨t41, t42, t43, tc⟩ := t4 rfl
    have hj := joinE_of (l := [t.r 0, t.r 1, t.r 2, t.r 3]) (by simp) (by simp) (fun x hx => by simp at hx; rcases hx with rfl | rfl | rfl | rfl; (· rw [t0]; omega); (· rw [t41]; omega); (· rw [t42]; omega); (· rw [t43]; omega))
    refine ⟨rfl, hj.1, ?_, tc⟩
    show W.joinV [t.r 0, t.r 1, t.r 2, t.r 3] = _
    rw [hj.2, sum4, t0, t41, t42, t43, shl_1 64 a _ (by simp [W.ok]) hX.symm, W.md64, up4 x0 x1 x2 x3 h0 h1 h2 h3]
theorem dn_law {v : Int} {n : Nat} {a x0 x1 x2 x3 : Int} (s : Bool) (f : Int) (hfs : f = if s = true then 17 else 16) (hc : Cs v n (W.cut v a) x0 x1 x2 x3) (hw : W4 x0 x1 x2 x3) (F : St) (hF : Mc.ends (U.encs (dnS f n ++ [haltI])) [] 1000 x0 x1 x2 x3 0 0 0 0 false false false false 0 [] = F) :
    F.how = 1 ∧ W.joinE ([F.r 0, F.r 1, F.r 2, F.r 3].take n) = 0 ∧ W.joinV ([F.r 0, F.r 1, F.r 2, F.r 3].take n) = W.shr v s a 1 ∧ F.c = (x0 % 2 == 1) := by
  obtain ⟨h0, h1, h2, h3⟩ := hw
  have hf : f = 16 ∨ f = 17 := by rw [hfs]; cases s <;> simp
  have hf17 : ∀ p : Prop, (f = 17 ∧ p) ↔ (s = true ∧ p) := fun p => by rw [hfs]; cases s <;> simp
  have hn : n = 1 ∨ n = 2 ∨ n = 4 := by rcases hc with h | h | h <;> simp [h.2.1]
  obtain ⟨t, ht, tc, t1, t2, t4⟩ := dn_runs hf hn x0 x1 x2 x3 h0 h1 h2 h3
  have hFt := ends_run (dnS f n) x0 x1 x2 x3 (dn_in hf hn) (by rcases hn with rfl | rfl | rfl <;> rcases hf with rfl | rfl <;> decide) (by rcases hn with rfl | rfl | rfl <;> rcases hf with rfl | rfl <;> decide) F t ht hF
  subst hFt
  rcases hc with ⟨rfl, rfl, hX⟩ | ⟨rfl, rfl, hX⟩ | ⟨rfl, rfl, hX⟩
  · have t0 := t1 rfl
    have hj := joinE_of (l := [t.r 0]) (by simp) (by simp) (fun x hx => by simp at hx; subst hx; rw [t0]; exact tp_bd f x0 h0)
    refine ⟨rfl, hj.1, ?_, tc⟩
    show W.joinV [t.r 0] = _
    rw [hj.2, sum1, t0, shr_1 16 a x0 0 s (.inl rfl) hX.symm, W.md16]
    unfold tp; rw [hiw_d]
    cases s
    · subst hfs; simp
    · subst hfs; simp only [if_true, true_and]
      split <;> split <;> omega
  · obtain ⟨t0, t21⟩ := t2 rfl
    have hj := joinE_of (l := [t.r 0, t.r 1]) (by simp) (by simp) (fun x hx => by simp at hx; rcases hx with rfl | rfl; (· rw [t0]; exact hf_bd _ _ h0); (· rw [t21]; exact tp_bd f x1 h1))
    refine ⟨rfl, hj.1, ?_, tc⟩
    show W.joinV [t.r 0, t.r 1] = _
    rw [hj.2, sum2, t0, t21, shr_1 32 a _ 0 s (.inr (.inl rfl)) hX.symm, W.md32, dn2 f x0 x1 h0 h1]
    congr 1
    have : (f = 17 ∧ 32767 < x1) ↔ (s = true ∧ 4294967296 ≤ (x0 + 65536 * x1) * 2) := (hf17 _).trans (and_congr_right fun _ => by omega)
    simp only [this]; rfl
  · obtain ⟨t0, t41, t42, t43⟩ := t4 rfl
    have hj := joinE_of (l := [t.r 0, t.r 1, t.r 2, t.r 3]) (by simp) (by simp) (fun x hx => by simp at hx; rcases hx with rfl | rfl | rfl | rfl; (· rw [t0]; exact hf_bd _ _ h0); (· rw [t41]; exact hf_bd _ _ h1); (· rw [t42]; exact hf_bd _ _ h2); (· rw [t43]; exact tp_bd f x3 h3))
    refine ⟨rfl, hj.1, ?_, tc⟩
    show W.joinV [t.r 0, t.r 1, t.r 2, t.r 3] = _
    rw [hj.2, sum4, t0, t41, t42, t43, shr_1 64 a _ 0 s (.inr (.inr rfl)) hX.symm, W.md64, dn4 f x0 x1 x2 x3 h0 h1 h2 h3]
    congr 1
    have : (f = 17 ∧ 32767 < x3) ↔ (s = true ∧ 18446744073709551616 ≤ (x0 + 65536 * x1 + 4294967296 * x2 + 281474976710656 * x3) * 2) := (hf17 _).trans (and_congr_right fun _ => by omega)
    simp only [this]; rfl
end Mc
end Go.Proofs.Ytfjgnhmmakeaeaa
