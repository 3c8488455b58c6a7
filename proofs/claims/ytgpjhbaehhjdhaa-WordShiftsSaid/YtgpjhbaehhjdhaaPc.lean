/- How many bits are 1: what the word's trick with masks counts. Plain Lean. -/
import Derived.Test.YtgpjhbaehhjdhaaWq
import Derived.Lib.BitFns
import Derived.Laws.BitsAllLaws
namespace Go.Proofs.Ytgpjhbaehhjdhaa.Pc
open Go.Lib
set_option maxRecDepth 100000
def val : List Nat → Nat
  | [] => 0
  | b :: l => b + 256 * val l
def B (l : List Nat) : Prop := ∀ b ∈ l, b < 256
theorem val_lt : ∀ l, B l → val l < 256 ^ l.length
  | [], _ => by decide
  | b :: l, h => by
    have := val_lt l (fun x hx => h x (List.mem_cons_of_mem _ hx))
    have hb := h b List.mem_cons_self
    simp only [val, List.length_cons, Nat.pow_succ]; omega
def bytes : Nat → Nat → List Nat
  | 0, _ => []
  | n + 1, x => x % 256 :: bytes n (x / 256)
theorem val_bytes : ∀ n x, x < 256 ^ n → val (bytes n x) = x
  | 0, x, h => by simp at h; simp [bytes, val, h]
  | n + 1, x, h => by
    simp only [bytes, val]
    rw [val_bytes n (x / 256) (by rw [Nat.pow_succ] at h; omega)]; omega
theorem B_bytes : ∀ n x, B (bytes n x)
  | 0, x => fun b hb => by simp [bytes] at hb
  | n + 1, x => fun b hb => by
    simp only [bytes, List.mem_cons] at hb
    rcases hb with rfl | hb
    · omega
    · exact B_bytes n _ b hb
theorem and_split (b q c m : Nat) (hb : b < 256) (hc : c < 256) : (b + 256 * q) &&& (c + 256 * m) = (b &&& c) + 256 * (q &&& m) := by
  have h1 : ((b + 256 * q) &&& (c + 256 * m)) % 2 ^ 8 = b &&& c := by
    rw [Nat.and_mod_two_pow]
    congr 1
    · omega
    · omega
  have h2 : ((b + 256 * q) &&& (c + 256 * m)) / 2 ^ 8 = q &&& m := by
    rw [Nat.and_div_two_pow]
    congr 1
    · omega
    · omega
  omega
def s1b (b : Nat) : Nat := (b / 2 &&& 85) + (b &&& 85)
def s2b (b : Nat) : Nat := (b / 4 &&& 51) + (b &&& 51)
def s3b (b : Nat) : Nat := (b / 16 + b) &&& 15
def mk (c : Nat) (l : List Nat) : Nat := val (l.map fun _ => c)
theorem m1 : ∀ b : Fin 256, ∀ t : Fin 2, (b.val / 2 + 128 * t.val) &&& 85 = b.val / 2 &&& 85 := by decide +kernel
theorem m2 : ∀ b : Fin 256, ∀ t : Fin 4, (b.val / 4 + 64 * t.val) &&& 51 = b.val / 4 &&& 51 := by decide +kernel
theorem m3 : ∀ b : Fin 69, ∀ t : Fin 5, (b.val / 16 + 16 * t.val + b.val) &&& 15 = s3b b.val := by decide +kernel
theorem s1_ok : ∀ l, B l → (val l / 2 &&& mk 85 l) + (val l &&& mk 85 l) = val (l.map s1b)
  | [], _ => by decide
  | b :: l, h => by
    have hb := h b List.mem_cons_self
    have ih := s1_ok l (fun x hx => h x (List.mem_cons_of_mem _ hx))
    simp only [mk, val, List.map_cons] at ih ⊢
    have hd : (b + 256 * val l) / 2 = (b / 2 + 128 * (val l % 2)) + 256 * (val l / 2) := by omega
    rw [hd, and_split _ _ _ _ (by omega) (by decide), and_split _ _ _ _ hb (by decide)]
    have := m1 ⟨b, hb⟩ ⟨val l % 2, by omega⟩
    simp only at this
    rw [this, ← ih]; unfold s1b; omega
theorem s2_ok : ∀ l, B l → (val l / 4 &&& mk 51 l) + (val l &&& mk 51 l) = val (l.map s2b)
  | [], _ => by decide
  | b :: l, h => by
    have hb := h b List.mem_cons_self
    have ih := s2_ok l (fun x hx => h x (List.mem_cons_of_mem _ hx))
    simp only [mk, val, List.map_cons] at ih ⊢
    have hd : (b + 256 * val l) / 4 = (b / 4 + 64 * (val l % 4)) + 256 * (val l / 4) := by omega
    rw [hd, and_split _ _ _ _ (by omega) (by decide), and_split _ _ _ _ hb (by decide)]
    have := m2 ⟨b, hb⟩ ⟨val l % 4, by omega⟩
    simp only at this
    rw [this, ← ih]; unfold s2b; omega
def F (l : List Nat) : Prop := ∀ b ∈ l, b ≤ 68 ∧ b % 16 ≤ 4
theorem low16 : ∀ l, F l → val l % 16 ≤ 4
  | [], _ => by decide
  | b :: l, h => by have hb := h b List.mem_cons_self; simp only [val]; omega
theorem s3_ok : ∀ l, F l → ((val l / 16 + val l) &&& mk 15 l) = val (l.map s3b)
  | [], _ => by decide
  | b :: l, h => by
    have hb := h b List.mem_cons_self
    have hl : F l := fun x hx => h x (List.mem_cons_of_mem _ hx)
    have ih := s3_ok l hl
    have h16 := low16 l hl
    simp only [mk, val, List.map_cons] at ih ⊢
    have hd : (b + 256 * val l) / 16 + (b + 256 * val l) = (b / 16 + 16 * (val l % 16) + b) + 256 * (val l / 16 + val l) := by omega
    rw [hd, and_split _ _ _ _ (by omega) (by decide), ih]
    have := m3 ⟨b, by omega⟩ ⟨val l % 16, by omega⟩
    simp only at this
    rw [this]
theorem pop_byte : ∀ b : Fin 256, s3b (s2b (s1b b.val)) = popAux 8 b.val ∧ s1b b.val < 256 ∧ s2b (s1b b.val) ≤ 68 ∧ s2b (s1b b.val) % 16 ≤ 4 ∧ popAux 8 b.val ≤ 8 := by decide +kernel
theorem pop_add : ∀ (k n x : Nat), popAux (k + n) x = popAux k (x % 2 ^ k) + popAux n (x / 2 ^ k)
  | 0, n, x => by simp [popAux]
  | k + 1, n, x => by
    rw [show k + 1 + n = (k + n) + 1 by omega]
    simp only [popAux]
    rw [pop_add k n (x / 2)]
    have h1 : x % 2 ^ (k + 1) % 2 = x % 2 := by rw [Nat.pow_succ, Nat.mul_comm, Nat.mod_mul_right_mod]
    have h2 : x % 2 ^ (k + 1) / 2 = x / 2 % 2 ^ k := by rw [Nat.pow_succ, Nat.mul_comm, Nat.mod_mul_right_div_self]
    have h3 : x / 2 / 2 ^ k = x / 2 ^ (k + 1) := by rw [Nat.div_div_eq_div_mul, Nat.pow_succ, Nat.mul_comm]
    rw [h1, h2, h3]; omega
theorem pop_zero : ∀ n, popAux n 0 = 0
  | 0 => rfl
  | n + 1 => by simp [popAux, pop_zero n]
theorem pop_mod (w r x : Nat) : popAux (w + r) (x % 2 ^ w) = popAux w x := by
  have h := pop_add w 0 x
  simp only [Nat.add_zero, popAux] at h
  have hz : x % 2 ^ w / 2 ^ w = 0 := Nat.div_eq_of_lt (Nat.mod_lt _ (Nat.two_pow_pos w))
  rw [pop_add w r, Nat.mod_mod, hz, pop_zero, h, Nat.add_zero]
def sum : List Nat → Nat
  | [] => 0
  | b :: l => b + sum l
theorem pop_bytes : ∀ n x, popAux (8 * n) x = sum ((bytes n x).map (popAux 8))
  | 0, x => rfl
  | n + 1, x => by
    rw [show 8 * (n + 1) = 8 + 8 * n by omega, pop_add, pop_bytes n]
    simp only [bytes, List.map_cons, sum]
/-- What the trick answers, step by step. -/
def t1 (x : Nat) : Nat := (x / 2 &&& 6148914691236517205) + (x &&& 6148914691236517205)
def t2 (x : Nat) : Nat := (x / 4 &&& 3689348814741910323) + (x &&& 3689348814741910323)
def t3 (x : Nat) : Nat := (x / 16 + x) &&& 1085102592571150095
def t4 (x : Nat) : Nat := x + x / 256
def t5 (x : Nat) : Nat := x + x / 65536
def t6 (x : Nat) : Nat := x + x / 4294967296
theorem d8 (a b : Nat) (h : a < 256) : (a + 256 * b) / 256 = b := by omega
theorem d16 (a c b : Nat) (h : a < 256) (hc : c < 256) : (a + 256 * (c + 256 * b)) / 65536 = b := by omega
theorem d32 (a c d e b : Nat) (h : a < 256) (hc : c < 256) (hd : d < 256) (he : e < 256) : (a + 256 * (c + 256 * (d + 256 * (e + 256 * b)))) / 4294967296 = b := by omega
theorem fold (p0 p1 p2 p3 p4 p5 p6 p7 : Nat) (h0 : p0 ≤ 8) (h1 : p1 ≤ 8) (h2 : p2 ≤ 8) (h3 : p3 ≤ 8) (h4 : p4 ≤ 8) (h5 : p5 ≤ 8) (h6 : p6 ≤ 8) (h7 : p7 ≤ 8) :
    t6 (t5 (t4 (p0 + 256 * (p1 + 256 * (p2 + 256 * (p3 + 256 * (p4 + 256 * (p5 + 256 * (p6 + 256 * (p7 + 256 * 0)))))))))) % 128 = (p0 + (p1 + (p2 + (p3 + (p4 + (p5 + (p6 + (p7 + 0)))))))) := by
  have e4 : t4 (p0 + 256 * (p1 + 256 * (p2 + 256 * (p3 + 256 * (p4 + 256 * (p5 + 256 * (p6 + 256 * (p7 + 256 * 0)))))))) = ((p0 + p1) + 256 * ((p1 + p2) + 256 * ((p2 + p3) + 256 * ((p3 + p4) + 256 * ((p4 + p5) + 256 * ((p5 + p6) + 256 * ((p6 + p7) + 256 * p7))))))) := by
    unfold t4; rw [d8 _ _ (by omega)]; omega
  have e5 : t5 ((p0 + p1) + 256 * ((p1 + p2) + 256 * ((p2 + p3) + 256 * ((p3 + p4) + 256 * ((p4 + p5) + 256 * ((p5 + p6) + 256 * ((p6 + p7) + 256 * p7))))))) = ((p0 + p1 + p2 + p3) + 256 * ((p1 + p2 + p3 + p4) + 256 * ((p2 + p3 + p4 + p5) + 256 * ((p3 + p4 + p5 + p6) + 256 * ((p4 + p5 + p6 + p7) + 256 * ((p5 + p6 + p7) + 256 * ((p6 + p7) + 256 * p7))))))) := by
    unfold t5; rw [d16 _ _ _ (by omega) (by omega)]; omega
  rw [e4, e5]
  unfold t6
  rw [d32 _ _ _ _ _ (by omega) (by omega) (by omega) (by omega)]
  obtain ⟨Z, hZ⟩ : ∃ Z, Z = ((p1 + p2 + p3 + p4) + 256 * ((p2 + p3 + p4 + p5) + 256 * ((p3 + p4 + p5 + p6) + 256 * ((p4 + p5 + p6 + p7) + 256 * ((p5 + p6 + p7) + 256 * ((p6 + p7) + 256 * p7)))))) := ⟨_, rfl⟩
  obtain ⟨Y, hY⟩ : ∃ Y, Y = ((p5 + p6 + p7) + 256 * ((p6 + p7) + 256 * p7)) := ⟨_, rfl⟩
  rw [← hZ, ← hY]
  clear e4 e5 hZ hY
  omega
theorem small8 (p0 p1 p2 p3 p4 p5 p6 p7 : Nat) (h0 : p0 ≤ 8) (h1 : p1 ≤ 8) (h2 : p2 ≤ 8) (h3 : p3 ≤ 8) (h4 : p4 ≤ 8) (h5 : p5 ≤ 8) (h6 : p6 ≤ 8) (h7 : p7 ≤ 8) : (p0 + 256 * (p1 + 256 * (p2 + 256 * (p3 + 256 * (p4 + 256 * (p5 + 256 * (p6 + 256 * (p7 + 256 * 0)))))))) < 651061555542690056 := by
  omega
set_option maxHeartbeats 1000000 in
theorem trick (x : Nat) (hx : x < 18446744073709551616) :
    t1 x < 18446744073709551616 ∧ t2 (t1 x) < 18446744073709551616 ∧ t2 (t1 x) / 16 + t2 (t1 x) < 18446744073709551616 ∧ t3 (t2 (t1 x)) < 651061555542690056 ∧ t6 (t5 (t4 (t3 (t2 (t1 x))))) % 128 = popAux 64 x := by
  have hv := val_bytes 8 x hx
  have hB := B_bytes 8 x
  have hp := pop_bytes 8 x
  obtain ⟨l, hl⟩ : ∃ l, l = bytes 8 x := ⟨_, rfl⟩
  have hlen : ∃ b0 b1 b2 b3 b4 b5 b6 b7, l = [b0, b1, b2, b3, b4, b5, b6, b7] := ⟨_, _, _, _, _, _, _, _, hl⟩
  rw [← hl] at hv hB hp
  obtain ⟨b0, b1, b2, b3, b4, b5, b6, b7, rfl⟩ := hlen
  clear hl
  have e1 : mk 85 [b0, b1, b2, b3, b4, b5, b6, b7] = 6148914691236517205 := by simp only [mk, val, List.map_cons, List.map_nil]
  have r0 := pop_byte ⟨b0, hB b0 (by simp)⟩
  have r1 := pop_byte ⟨b1, hB b1 (by simp)⟩
  have r2 := pop_byte ⟨b2, hB b2 (by simp)⟩
  have r3 := pop_byte ⟨b3, hB b3 (by simp)⟩
  have r4 := pop_byte ⟨b4, hB b4 (by simp)⟩
  have r5 := pop_byte ⟨b5, hB b5 (by simp)⟩
  have r6 := pop_byte ⟨b6, hB b6 (by simp)⟩
  have r7 := pop_byte ⟨b7, hB b7 (by simp)⟩
  simp only at r0 r1 r2 r3 r4 r5 r6 r7
  have h1 := s1_ok _ hB
  rw [e1, hv] at h1
  have hB1 : B ([b0, b1, b2, b3, b4, b5, b6, b7].map s1b) := by
    intro b hb; simp only [List.map_cons, List.map_nil, List.mem_cons, List.not_mem_nil, or_false] at hb; omega
  have e2 : mk 51 ([b0, b1, b2, b3, b4, b5, b6, b7].map s1b) = 3689348814741910323 := by simp only [mk, val, List.map_cons, List.map_nil]
  have h2 := s2_ok _ hB1
  rw [e2, ← h1] at h2
  have hF : F (([b0, b1, b2, b3, b4, b5, b6, b7].map s1b).map s2b) := by
    intro b hb; simp only [List.map_cons, List.map_nil, List.mem_cons, List.not_mem_nil, or_false] at hb; omega
  have e3 : mk 15 (([b0, b1, b2, b3, b4, b5, b6, b7].map s1b).map s2b) = 1085102592571150095 := by simp only [mk, val, List.map_cons, List.map_nil]
  have h3 := s3_ok _ hF
  rw [e3, ← h2] at h3
  have g1 : t1 x = val ([b0, b1, b2, b3, b4, b5, b6, b7].map s1b) := h1
  have g2 : t2 (t1 x) = val (([b0, b1, b2, b3, b4, b5, b6, b7].map s1b).map s2b) := h2
  have g3 : t3 (t2 (t1 x)) = val ((([b0, b1, b2, b3, b4, b5, b6, b7].map s1b).map s2b).map s3b) := h3
  rw [hp, g3, g2, g1]
  simp only [List.map_cons, List.map_nil, val, sum]
  rw [r0.1, r1.1, r2.1, r3.1, r4.1, r5.1, r6.1, r7.1]
  clear hv hB hp e1 h1 hB1 e2 h2 hF e3 h3 g1 g2 g3
  obtain ⟨-, a0, c0, -, d0⟩ := r0
  obtain ⟨-, a1, c1, -, d1⟩ := r1
  obtain ⟨-, a2, c2, -, d2⟩ := r2
  obtain ⟨-, a3, c3, -, d3⟩ := r3
  obtain ⟨-, a4, c4, -, d4⟩ := r4
  obtain ⟨-, a5, c5, -, d5⟩ := r5
  obtain ⟨-, a6, c6, -, d6⟩ := r6
  obtain ⟨-, a7, c7, -, d7⟩ := r7
  obtain ⟨p0, hp0⟩ : ∃ p, p = popAux 8 b0 := ⟨_, rfl⟩
  obtain ⟨p1, hp1⟩ : ∃ p, p = popAux 8 b1 := ⟨_, rfl⟩
  obtain ⟨p2, hp2⟩ : ∃ p, p = popAux 8 b2 := ⟨_, rfl⟩
  obtain ⟨p3, hp3⟩ : ∃ p, p = popAux 8 b3 := ⟨_, rfl⟩
  obtain ⟨p4, hp4⟩ : ∃ p, p = popAux 8 b4 := ⟨_, rfl⟩
  obtain ⟨p5, hp5⟩ : ∃ p, p = popAux 8 b5 := ⟨_, rfl⟩
  obtain ⟨p6, hp6⟩ : ∃ p, p = popAux 8 b6 := ⟨_, rfl⟩
  obtain ⟨p7, hp7⟩ : ∃ p, p = popAux 8 b7 := ⟨_, rfl⟩
  rw [← hp0] at d0 ⊢; rw [← hp1] at d1 ⊢; rw [← hp2] at d2 ⊢; rw [← hp3] at d3 ⊢; rw [← hp4] at d4 ⊢; rw [← hp5] at d5 ⊢; rw [← hp6] at d6 ⊢; rw [← hp7] at d7 ⊢
  clear hp0 hp1 hp2 hp3 hp4 hp5 hp6 hp7
  obtain ⟨u0, hu0⟩ : ∃ p, p = s1b b0 := ⟨_, rfl⟩
  obtain ⟨v0, hv0⟩ : ∃ p, p = s2b (s1b b0) := ⟨_, rfl⟩
  obtain ⟨u1, hu1⟩ : ∃ p, p = s1b b1 := ⟨_, rfl⟩
  obtain ⟨v1, hv1⟩ : ∃ p, p = s2b (s1b b1) := ⟨_, rfl⟩
  obtain ⟨u2, hu2⟩ : ∃ p, p = s1b b2 := ⟨_, rfl⟩
  obtain ⟨v2, hv2⟩ : ∃ p, p = s2b (s1b b2) := ⟨_, rfl⟩
  obtain ⟨u3, hu3⟩ : ∃ p, p = s1b b3 := ⟨_, rfl⟩
  obtain ⟨v3, hv3⟩ : ∃ p, p = s2b (s1b b3) := ⟨_, rfl⟩
  obtain ⟨u4, hu4⟩ : ∃ p, p = s1b b4 := ⟨_, rfl⟩
  obtain ⟨v4, hv4⟩ : ∃ p, p = s2b (s1b b4) := ⟨_, rfl⟩
  obtain ⟨u5, hu5⟩ : ∃ p, p = s1b b5 := ⟨_, rfl⟩
  obtain ⟨v5, hv5⟩ : ∃ p, p = s2b (s1b b5) := ⟨_, rfl⟩
  obtain ⟨u6, hu6⟩ : ∃ p, p = s1b b6 := ⟨_, rfl⟩
  obtain ⟨v6, hv6⟩ : ∃ p, p = s2b (s1b b6) := ⟨_, rfl⟩
  obtain ⟨u7, hu7⟩ : ∃ p, p = s1b b7 := ⟨_, rfl⟩
  obtain ⟨v7, hv7⟩ : ∃ p, p = s2b (s1b b7) := ⟨_, rfl⟩
  rw [← hv0] at c0 ⊢; rw [← hu0] at a0 ⊢; rw [← hv1] at c1 ⊢; rw [← hu1] at a1 ⊢; rw [← hv2] at c2 ⊢; rw [← hu2] at a2 ⊢; rw [← hv3] at c3 ⊢; rw [← hu3] at a3 ⊢; rw [← hv4] at c4 ⊢; rw [← hu4] at a4 ⊢; rw [← hv5] at c5 ⊢; rw [← hu5] at a5 ⊢; rw [← hv6] at c6 ⊢; rw [← hu6] at a6 ⊢; rw [← hv7] at c7 ⊢; rw [← hu7] at a7 ⊢
  clear hv0 hu0 hv1 hu1 hv2 hu2 hv3 hu3 hv4 hu4 hv5 hu5 hv6 hu6 hv7 hu7
  exact ⟨by omega, by omega, by omega, small8 _ _ _ _ _ _ _ _ d0 d1 d2 d3 d4 d5 d6 d7, fold _ _ _ _ _ _ _ _ d0 d1 d2 d3 d4 d5 d6 d7⟩
end Go.Proofs.Ytgpjhbaehhjdhaa.Pc
