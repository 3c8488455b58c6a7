/- Runs: what is the same; words stay words. -/
import Derived.Test.YtfjgnhmmakeaeaaE34
import Derived.Test.YtfjgnhmmakeaeaaE30
import Derived.Test.YtfjgnhmmakeaeaaE33
import Derived.Test.YtfjgnhmmakeaeaaB0
namespace Go.Proofs.Ytfjgnhmmakeaeaa
open Go.RowKit
set_option linter.unusedVariables false
set_option linter.unusedSimpArgs false
set_option maxRecDepth 100000
open Mc
theorem ran_cell {w : World} {g : Nat} {l : List Value} (h : Blk w g 30 l.toArray) (k : Nat) {v : Value} (hv : l[k]? = some v) : w.cell? ⟨g, k, none⟩ = some v := by rw [h.cell]; simpa using hv
theorem goA_fine {cd inp : List Int} {nI : Nat} (hn : inp.length = nI) (hby : ∀ x ∈ inp, 0 ≤ x ∧ x < 256) : ∀ (n : Nat) (s : St), Fine nI s → Fine nI (goA cd inp n s)
  | 0, s, h => h
  | n + 1, s, h => by
    unfold goA; split
    · exact goA_fine hn hby n _ (tick_fine hn hby s h)
    · exact tick_fine hn hby s h
theorem runR_ok {F : St} {w w' : World} {e : Ending} (h : RunR 0 F w e w') :
    ∃ oa oc xa xn xc, e = .returned (.tuple #[ranV F (.slice oa F.out.length oc) (.slice xa xn xc), .int .i64 0]) ∧ Rd w' 1 (.slice oa F.out.length oc) F.out.length (F.out.map (Value.int .u8)) ∧ Rd w' 1 (.slice xa xn xc) (top F.mem MS) ((left F.mem).map (Value.int .i64)) ∧ Below w.heap.size w w' := by
  rcases h with ⟨h, _⟩ | ⟨_, ov, mv, he, q1, q2, q3, q4⟩
  · exact absurd rfl h
  · obtain ⟨oa, oc, rfl, _⟩ := own_slice q1
    obtain ⟨xa, xc, rfl, _⟩ := own_slice q2
    have hk : top F.mem MS ≤ 65536 := top_le F.mem MS
    have hm : (65536 : Nat) ≤ maxLen := by unfold maxLen; omega
    exact ⟨oa, oc, xa, _, xc, he, Rd.of_owns q1 (Nat.le_trans q3 hm), Rd.of_owns q2 (Nat.le_trans hk hm), q4⟩
/-- Two states that are the same. -/
theorem sameSt_self (F G : St) (m1 m2 : Value) (n1 n2 : Nat) (w : World) (hr : ∀ k, k < 8 → F.r k = G.r k) (hf : F.c = G.c ∧ F.z = G.z ∧ F.n = G.n ∧ F.v = G.v) (hp : F.pc = G.pc) (xs ys : List Int) (hxy : xs = ys) (h1 : Rd w 1 m1 n1 (xs.map (Value.int .i64))) (h2 : Rd w 1 m2 n2 (ys.map (Value.int .i64))) :
    Calls Try.prog 22 #[stV (F.r 0) (F.r 1) (F.r 2) (F.r 3) (F.r 4) (F.r 5) (F.r 6) (F.r 7) F.c F.z F.n F.v F.pc m1, stV (G.r 0) (G.r 1) (G.r 2) (G.r 3) (G.r 4) (G.r 5) (G.r 6) (G.r 7) G.c G.z G.n G.v G.pc m2] w fun e w' => e = .returned (.bool true) ∧ Below w.heap.size w w' := by
  obtain ⟨hc, hz, hn, hv⟩ := hf
  subst hxy
  refine (sameState_at (F.r 0) (F.r 1) (F.r 2) (F.r 3) (F.r 4) (F.r 5) (F.r 6) (F.r 7) (G.r 0) (G.r 1) (G.r 2) (G.r 3) (G.r 4) (G.r 5) (G.r 6) (G.r 7) F.pc G.pc F.c F.z F.n F.v G.c G.z G.n G.v true true true true m1 m2 (by obtain ⟨_, _, a, c, hs, _⟩ := h1.ints; exact ⟨a, _, c, hs⟩) (by obtain ⟨_, _, a, c, hs, _⟩ := h2.ints; exact ⟨a, _, c, hs⟩) w ?_ ?_ ?_ (fun w1 hb => ?_)).mono (fun e w' h => h)
  · rw [hr 0 (by omega), hr 1 (by omega), hr 2 (by omega), hr 3 (by omega), hr 4 (by omega), hr 5 (by omega), hr 6 (by omega), hr 7 (by omega)]; simp
  · rw [hc, hz, hn, hv]; simp
  · rw [hp]; simp
  · have := same_ok m1 m2 n1 n2 xs xs w1 (h1.below hb) (h2.below hb)
    rw [show decide (xs = xs) = true from by simp] at this
    exact this
theorem sameRan_self (F : St) (o1 o2 m1 m2 : Value) (a1 a2 n1 n2 : Nat) (w : World) (g1 : Rd w 1 o1 a1 (F.out.map (Value.int .u8))) (g2 : Rd w 1 o2 a2 (F.out.map (Value.int .u8))) (h1 : Rd w 1 m1 n1 ((left F.mem).map (Value.int .i64))) (h2 : Rd w 1 m2 n2 ((left F.mem).map (Value.int .i64))) :
    Calls Try.prog 19 #[ranV F o1 m1, ranV F o2 m2] w fun e w' => e = .returned (.bool true) ∧ Below w.heap.size w w' := by
  refine (sameRan_at F.how F.trap F.read F.steps (F.r 0) (F.r 1) (F.r 2) (F.r 3) (F.r 4) (F.r 5) (F.r 6) (F.r 7) F.pc F.how F.trap F.read F.steps (F.r 0) (F.r 1) (F.r 2) (F.r 3) (F.r 4) (F.r 5) (F.r 6) (F.r 7) F.pc F.c F.z F.n F.v F.c F.z F.n F.v true true true true true true o1 m1 o2 m2 (by obtain ⟨_, _, a, c, hs, _⟩ := g1.ints; exact ⟨a, _, c, hs⟩) (by obtain ⟨_, _, a, c, hs, _⟩ := h1.ints; exact ⟨a, _, c, hs⟩) (by obtain ⟨_, _, a, c, hs, _⟩ := g2.ints; exact ⟨a, _, c, hs⟩) (by obtain ⟨_, _, a, c, hs, _⟩ := h2.ints; exact ⟨a, _, c, hs⟩) w (by simp) (by simp) (by simp) (by simp) (fun w1 hb => ?_) (fun w1 hb => ?_)).mono (fun e w' h => h)
  · have := sameb_ok o1 o2 a1 a2 F.out F.out w1 (g1.below hb) (g2.below hb)
    rw [show decide (F.out = F.out) = true from by simp] at this
    exact this
  · exact sameSt_self F F m1 m2 n1 n2 w1 (fun k _ => rfl) ⟨rfl, rfl, rfl, rfl⟩ rfl _ _ rfl (h1.below hb) (h2.below hb)
theorem wary_more {nC nI : Nat} {W fuel more : Int} (h : Mc.wary nC nI W fuel = 0) (h1 : ¬ more < fuel) (h2 : ¬ more > 1000000) : Mc.wary nC nI W more = 0 := by
  unfold Mc.wary at h ⊢
  split at h
  · exact absurd h (by decide)
  rename_i a1
  rw [if_neg a1]
  split at h
  · rename_i a2; exact absurd h a2
  rename_i a2
  rw [if_neg a2]
  split at h
  · exact absurd h (by decide)
  rename_i a3
  rw [if_neg (by omega)]
end Go.Proofs.Ytfjgnhmmakeaeaa
