/- EmuLonger: its ways, joined. -/
import Derived.Test.YtfjgnhmmakeaeaaE37
import Derived.Test.YtfjgnhmmakeaeaaW9
namespace Go.Proofs.Ytfjgnhmmakeaeaa
open Go.RowKit
set_option linter.unusedVariables false
set_option linter.unusedSimpArgs false
set_option maxRecDepth 100000
open Mc
theorem goA_fine {cd inp : List Int} {nI : Nat} (hn : inp.length = nI) (hby : ∀ x ∈ inp, 0 ≤ x ∧ x < 256) : ∀ (n : Nat) (s : St), Fine nI s → Fine nI (goA cd inp n s)
  | 0, s, h => h
  | n + 1, s, h => by
    unfold goA; split
    · exact goA_fine hn hby n _ (tick_fine hn hby s h)
    · exact tick_fine hn hby s h
theorem runR_ok {F : St} {w w' : World} {e : Ending} (h : RunR 0 F w e w') :
    ∃ oa oc xa xn xc, e = .returned (.tuple #[ranV F (.slice oa F.out.length oc) (.slice xa xn xc), .int .i64 0]) ∧ Rd w' 1 (.slice oa F.out.length oc) F.out.length (F.out.map (Value.int .u8)) ∧ Rd w' 1 (.slice xa xn xc) (top F.mem MS) ((left F.mem).map (Value.int .i64)) ∧ Below w.heap.size w w' := by
  rcases h with ⟨h, _⟩ | ⟨_, ov, mv, he, q1, q2, q3, q4⟩
  · exact absurd rfl h
  · obtain ⟨oa, oc, rfl, _⟩ := own_slice q1
    obtain ⟨xa, xc, rfl, _⟩ := own_slice q2
    have hk : top F.mem MS ≤ 65536 := top_le F.mem MS
    have hm : (65536 : Nat) ≤ maxLen := by unfold maxLen; omega
    exact ⟨oa, oc, xa, _, xc, he, Rd.of_owns q1 (Nat.le_trans q3 hm), Rd.of_owns q2 (Nat.le_trans hk hm), q4⟩
/-- Two states that are the same. -/
theorem sameSt_self (F G : St) (m1 m2 : Value) (n1 n2 : Nat) (w : World) (hr : ∀ k, k < 8 → F.r k = G.r k) (hf : F.c = G.c ∧ F.z = G.z ∧ F.n = G.n ∧ F.v = G.v) (hp : F.pc = G.pc) (xs ys : List Int) (hxy : xs = ys) (h1 : Rd w 1 m1 n1 (xs.map (Value.int .i64))) (h2 : Rd w 1 m2 n2 (ys.map (Value.int .i64))) :
    Calls Try.prog 22 #[stV (F.r 0) (F.r 1) (F.r 2) (F.r 3) (F.r 4) (F.r 5) (F.r 6) (F.r 7) F.c F.z F.n F.v F.pc m1, stV (G.r 0) (G.r 1) (G.r 2) (G.r 3) (G.r 4) (G.r 5) (G.r 6) (G.r 7) G.c G.z G.n G.v G.pc m2] w fun e w' => e = .returned (.bool true) ∧ Below w.heap.size w w' := by
  obtain ⟨hc, hz, hn, hv⟩ := hf
  subst hxy
  refine (sameState_at (F.r 0) (F.r 1) (F.r 2) (F.r 3) (F.r 4) (F.r 5) (F.r 6) (F.r 7) (G.r 0) (G.r 1) (G.r 2) (G.r 3) (G.r 4) (G.r 5) (G.r 6) (G.r 7) F.pc G.pc F.c F.z F.n F.v G.c G.z G.n G.v true true true true m1 m2 (by obtain ⟨_, _, a, c, hs, _⟩ := h1.ints; exact ⟨a, _, c, hs⟩) (by obtain ⟨_, _, a, c, hs, _⟩ := h2.ints; exact ⟨a, _, c, hs⟩) w ?_ ?_ ?_ (fun w1 hb => ?_)).mono (fun e w' h => h)
  · rw [hr 0 (by omega), hr 1 (by omega), hr 2 (by omega), hr 3 (by omega), hr 4 (by omega), hr 5 (by omega), hr 6 (by omega), hr 7 (by omega)]; simp
  · rw [hc, hz, hn, hv]; simp
  · rw [hp]; simp
  · have := same_ok m1 m2 n1 n2 xs xs w1 (h1.below hb) (h2.below hb)
    rw [show decide (xs = xs) = true from by simp] at this
    exact this
theorem sameRan_self (F : St) (o1 o2 m1 m2 : Value) (a1 a2 n1 n2 : Nat) (w : World) (g1 : Rd w 1 o1 a1 (F.out.map (Value.int .u8))) (g2 : Rd w 1 o2 a2 (F.out.map (Value.int .u8))) (h1 : Rd w 1 m1 n1 ((left F.mem).map (Value.int .i64))) (h2 : Rd w 1 m2 n2 ((left F.mem).map (Value.int .i64))) :
    Calls Try.prog 19 #[ranV F o1 m1, ranV F o2 m2] w fun e w' => e = .returned (.bool true) ∧ Below w.heap.size w w' := by
  refine (sameRan_at F.how F.trap F.read F.steps (F.r 0) (F.r 1) (F.r 2) (F.r 3) (F.r 4) (F.r 5) (F.r 6) (F.r 7) F.pc F.how F.trap F.read F.steps (F.r 0) (F.r 1) (F.r 2) (F.r 3) (F.r 4) (F.r 5) (F.r 6) (F.r 7) F.pc F.c F.z F.n F.v F.c F.z F.n F.v true true true true true true o1 m1 o2 m2 (by obtain ⟨_, _, a, c, hs, _⟩ := g1.ints; exact ⟨a, _, c, hs⟩) (by obtain ⟨_, _, a, c, hs, _⟩ := h1.ints; exact ⟨a, _, c, hs⟩) (by obtain ⟨_, _, a, c, hs, _⟩ := g2.ints; exact ⟨a, _, c, hs⟩) (by obtain ⟨_, _, a, c, hs, _⟩ := h2.ints; exact ⟨a, _, c, hs⟩) w (by simp) (by simp) (by simp) (by simp) (fun w1 hb => ?_) (fun w1 hb => ?_)).mono (fun e w' h => h)
  · have := sameb_ok o1 o2 a1 a2 F.out F.out w1 (g1.below hb) (g2.below hb)
    rw [show decide (F.out = F.out) = true from by simp] at this
    exact this
  · exact sameSt_self F F m1 m2 n1 n2 w1 (fun k _ => rfl) ⟨rfl, rfl, rfl, rfl⟩ rfl _ _ rfl (h1.below hb) (h2.below hb)
theorem wary_more {nC nI : Nat} {W fuel more : Int} (h : Mc.wary nC nI W fuel = 0) (h1 : ¬ more < fuel) (h2 : ¬ more > 1000000) : Mc.wary nC nI W more = 0 := by
  unfold Mc.wary at h ⊢
  split at h
  · exact absurd h (by decide)
  rename_i a1
  rw [if_neg a1]
  split at h
  · rename_i a2; exact absurd h a2
  rename_i a2
  rw [if_neg a2]
  split at h
  · exact absurd h (by decide)
  rename_i a3
  rw [if_neg (by omega)]
theorem longer_ok (cv iv mv : Value) (nC nI mn : Nat) (r0 r1 r2 r3 r4 r5 r6 r7 pc fuel more : Int) (c z n v : Bool) (cd inp ms : List Int) (w : World)
    (hc : Rd w 1 cv nC (cd.map (Value.int .i64))) (hi : Rd w 1 iv nI (inp.map (Value.int .u8))) (hm : Rd w 1 mv mn (ms.map (Value.int .i64))) (hby : ∀ x ∈ inp, 0 ≤ x ∧ x < 256) :
    Calls Try.prog 4 #[cv, stV r0 r1 r2 r3 r4 r5 r6 r7 c z n v pc mv, iv, .int .i64 fuel, .int .i64 more] w fun e w' => e = .returned (.bool true) ∧ Below w.heap.size w w' := by
  obtain ⟨_, _, ma, mc, hmv, _, _⟩ := hm.ints
  have CR := fun (fu : Int) (w1 : World) (hb : Below w.heap.size w w1) => run_ok cv iv mv nC nI mn r0 r1 r2 r3 r4 r5 r6 r7 pc fu c z n v cd inp ms w1 (hc.below hb) (hi.below hb) (hm.below hb) hby
  subst hmv
  have hw := wary_zero (nC := nC) (nI := nI) (r0 := r0) (r1 := r1) (r2 := r2) (r3 := r3) (r4 := r4) (r5 := r5) (r6 := r6) (r7 := r7) (pc := pc) (fuel := fuel) (ms := ms)
  generalize hwr : Mc.wr [r0, r1, r2, r3, r4, r5, r6, r7] pc ms = W at *
  by_cases h0 : Mc.wary nC nI W fuel = 0
  · have hz := hw h0
    by_cases h1 : more < fuel
    · refine longer_few cv iv ma mn mc r0 r1 r2 r3 r4 r5 r6 r7 pc fuel more c z n v true (decide (more > 1000000)) (Mc.ends cd inp fuel r0 r1 r2 r3 r4 r5 r6 r7 c z n v pc ms) w (decide_eq_true h1) rfl (.inl rfl) (fun w1 hb => (CR fuel w1 hb).mono ?_)
      intro e w' h; rw [h0] at h
      obtain ⟨oa, oc, xa, xn, xc, q⟩ := runR_ok h
      exact ⟨oa, _, oc, xa, xn, xc, q⟩
    by_cases h2 : more > 1000000
    · refine longer_few cv iv ma mn mc r0 r1 r2 r3 r4 r5 r6 r7 pc fuel more c z n v (decide (more < fuel)) true (Mc.ends cd inp fuel r0 r1 r2 r3 r4 r5 r6 r7 c z n v pc ms) w rfl (decide_eq_true h2) (.inr rfl) (fun w1 hb => (CR fuel w1 hb).mono ?_)
      intro e w' h; rw [h0] at h
      obtain ⟨oa, oc, xa, xn, xc, q⟩ := runR_ok h
      exact ⟨oa, _, oc, xa, xn, xc, q⟩
    have hm0 := wary_more h0 h1 h2
    have hF : Mc.ends cd inp fuel r0 r1 r2 r3 r4 r5 r6 r7 c z n v pc ms = goA cd inp fuel.toNat (Mc.begin (reg8 r0 r1 r2 r3 r4 r5 r6 r7) c z n v pc ms) := go_alone _ (fun _ _ => rfl) _ _ _ _ _
    have hG : Mc.ends cd inp more r0 r1 r2 r3 r4 r5 r6 r7 c z n v pc ms = goA cd inp more.toNat (Mc.begin (reg8 r0 r1 r2 r3 r4 r5 r6 r7) c z n v pc ms) := go_alone _ (fun _ _ => rfl) _ _ _ _ _
    have hle := goA_grows cd inp fuel.toNat more.toNat (Mc.begin (reg8 r0 r1 r2 r3 r4 r5 r6 r7) c z n v pc ms) (by omega)
    have hst := goA_steps cd inp fuel.toNat (Mc.begin (reg8 r0 r1 r2 r3 r4 r5 r6 r7) c z n v pc ms)
    have hmo := goA_more cd inp fuel.toNat more.toNat (Mc.begin (reg8 r0 r1 r2 r3 r4 r5 r6 r7) c z n v pc ms) (by omega)
    have hfin := goA_fine (cd := cd) (inp := inp) (nI := nI) (by have := hi.ints.1; exact this) hby fuel.toNat _ (begin_fine (nI := nI) (c := c) (z := z) (n := n) (v := v) hz.2.2.2.2.1 hz.2.2.2.2.2.1 hz.2.2.2.2.2.2)
    rw [← hF] at hfin
    rw [← hF, ← hG] at hle hmo
    rw [← hF] at hst
    have C1 := CR fuel
    have C2 := CR more
    rw [h0] at C1
    rw [hm0] at C2
    generalize Mc.ends cd inp fuel r0 r1 r2 r3 r4 r5 r6 r7 c z n v pc ms = F at *
    generalize Mc.ends cd inp more r0 r1 r2 r3 r4 r5 r6 r7 c z n v pc ms = G at *
    obtain ⟨⟨q, hq⟩, hrd, hstep⟩ := hle
    have hl : F.out.length ≤ G.out.length := by rw [hq]; simp
    by_cases h3 : F.how = 3
    · have hFo : F.out.length ≤ 65536 := hfin.2.1
      have ht : (G.out.map (Value.int .u8)).take F.out.length = F.out.map (Value.int .u8) := by rw [hq, List.map_append, List.take_append_of_le_length (by simp), List.take_of_length_le (by simp)]
      refine longer_short cv iv ma mn mc F.out.length G.out.length r0 r1 r2 r3 r4 r5 r6 r7 pc fuel more c z n v F G w (decide_eq_false h1) (decide_eq_false h2) hl (decide_eq_false (by omega)) hrd (by simp [h3]) (by have := hst h3; rw [this]; show ((0 + (fuel.toNat : Int) : Int) == fuel) = true; have := hz.2.2.2.1.1; simp; omega) hFo (fun w1 o1 o2 g1 g2 => ?_) (fun w1 hb => (C1 w1 hb).mono fun e w' h => runR_ok h) (fun w1 hb => (C2 w1 hb).mono fun e w' h => runR_ok h)
      rw [ht] at g2
      have := sameb_ok o1 o2 _ _ F.out F.out w1 g1 g2
      rw [show decide (F.out = F.out) = true from by simp] at this
      exact this
    · have hFG := hmo h3
      subst hFG
      refine longer_ended cv iv ma mn mc G.out.length G.out.length r0 r1 r2 r3 r4 r5 r6 r7 pc fuel more c z n v G G w (decide_eq_false h1) (decide_eq_false h2) hl (decide_eq_false (by omega)) hrd (by simpa using h3) (fun w1 o1 o2 m1 m2 g1 g2 k1 k2 => sameRan_self G o1 o2 m1 m2 _ _ _ _ w1 g1 g2 k1 k2) (fun w1 hb => (C1 w1 hb).mono fun e w' h => runR_ok h) (fun w1 hb => (C2 w1 hb).mono fun e w' h => runR_ok h)
  · refine longer_wrong cv iv ma mn mc r0 r1 r2 r3 r4 r5 r6 r7 pc fuel more _ c z n v w h0 (fun w1 hb => (CR fuel w1 hb).mono ?_)
    rintro e w' (⟨_, he, hb⟩ | ⟨h, _⟩)
    · exact ⟨he, hb⟩
    · exact absurd h h0
end Go.Proofs.Ytfjgnhmmakeaeaa
