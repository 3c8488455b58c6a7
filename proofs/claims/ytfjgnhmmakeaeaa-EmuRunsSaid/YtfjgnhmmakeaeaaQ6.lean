/- EmuRuns: its ways, joined. -/
import Derived.Test.YtfjgnhmmakeaeaaQ3
import Derived.Test.YtfjgnhmmakeaeaaQ5
namespace Go.Proofs.Ytfjgnhmmakeaeaa
open Go.RowKit
set_option linter.unusedVariables false
set_option linter.unusedSimpArgs false
set_option maxRecDepth 100000
open Mc
/-- The document's run. -/
theorem rrun_ok (cv iv mv : Value) (nC nI mn : Nat) (r0 r1 r2 r3 r4 r5 r6 r7 pc fuel : Int) (c z n v : Bool) (cd inp ms : List Int) (w : World)
    (hc : Rd w 1 cv nC (cd.map (Value.int .i64))) (hi : Rd w 1 iv nI (inp.map (Value.int .u8))) (hm : Rd w 1 mv mn (ms.map (Value.int .i64))) (hby : ∀ x ∈ inp, 0 ≤ x ∧ x < 256) :
    Calls Try.prog 16 #[cv, stV r0 r1 r2 r3 r4 r5 r6 r7 c z n v pc mv, iv, .int .i64 fuel] w (RunR (Mc.wary nC nI (Mc.wr [r0, r1, r2, r3, r4, r5, r6, r7] pc ms) fuel) (Mc.ends cd inp fuel r0 r1 r2 r3 r4 r5 r6 r7 c z n v pc ms) w) := by
  obtain ⟨_, hmC, ca, cc, rfl, _, _⟩ := hc.ints
  obtain ⟨_, hmI, ia, ic, rfl, _, _⟩ := hi.ints
  obtain ⟨hml, hmM, ma, mc, rfl, _, _⟩ := hm.ints
  have hw := fun (w1 : World) (hb : Below w.heap.size w w1) => rwrong_ok r0 r1 r2 r3 r4 r5 r6 r7 pc c z n v (.slice ma mn mc) mn ms w1 (hm.below hb)
  by_cases h0 : Mc.wary nC nI (Mc.wr [r0, r1, r2, r3, r4, r5, r6, r7] pc ms) fuel = 0
  · obtain ⟨h1, h2, h3, h4, h5, h6, h7⟩ := wary_zero h0
    have hz : Mc.wr [r0, r1, r2, r3, r4, r5, r6, r7] pc ms = 0 := by
      unfold Mc.wary at h0
      rw [if_neg (by omega)] at h0
      rcases Classical.em (Mc.wr [r0, r1, r2, r3, r4, r5, r6, r7] pc ms = 0) with h | h
      · exact h
      · rw [if_pos h] at h0; exact absurd h0 h
    rw [hz] at hw
    refine (rrun_run ca ia ma nC cc nI ic mn mc r0 r1 r2 r3 r4 r5 r6 r7 pc fuel c z n v cd inp ms w hw hc hi hm h1 h2 hby h4 (begin_fine h5 h6 h7) (Mc.ends cd inp fuel r0 r1 r2 r3 r4 r5 r6 r7 c z n v pc ms) rfl).mono ?_
    rintro e w' ⟨ov, mv, he, q1, q2, q3⟩
    exact .inr ⟨h0, ov, mv, he, q1, q2, q3⟩
  · refine (rrun_wrong ca ia ma nC cc nI ic mn mc r0 r1 r2 r3 r4 r5 r6 r7 pc fuel _ _ c z n v rfl h0 (by unfold maxLen at hmC; omega) (by unfold maxLen at hmI; omega) w hw).mono ?_
    rintro e w' ⟨he, hb⟩
    exact .inl ⟨h0, he, hb⟩
theorem eruns_ok (cv iv mv : Value) (nC nI mn : Nat) (r0 r1 r2 r3 r4 r5 r6 r7 pc fuel : Int) (c z n v : Bool) (cd inp ms : List Int) (w : World)
    (hc : Rd w 1 cv nC (cd.map (Value.int .i64))) (hi : Rd w 1 iv nI (inp.map (Value.int .u8))) (hm : Rd w 1 mv mn (ms.map (Value.int .i64))) (hby : ∀ x ∈ inp, 0 ≤ x ∧ x < 256) :
    Calls Try.prog 3 #[cv, stV r0 r1 r2 r3 r4 r5 r6 r7 c z n v pc mv, iv, .int .i64 fuel] w fun e w' => e = .returned (.bool true) ∧ Below w.heap.size w w' := by
  obtain ⟨_, _, ma, mc, hmv, _, _⟩ := hm.ints
  subst hmv
  exact eruns_at cv iv ma mn mc r0 r1 r2 r3 r4 r5 r6 r7 pc fuel (Mc.wary nC nI (Mc.wr [r0, r1, r2, r3, r4, r5, r6, r7] pc ms) fuel) (Mc.wr [r0, r1, r2, r3, r4, r5, r6, r7] pc ms) c z n v
    (RunL (Mc.wary nC nI (Mc.wr [r0, r1, r2, r3, r4, r5, r6, r7] pc ms) fuel) (Mc.ends cd inp fuel r0 r1 r2 r3 r4 r5 r6 r7 c z n v pc ms)) w (fun w' l h => h.one) (fun w1 w2 l h hb => h.keep hb)
    (fun w1 hb => (run_ok cv iv _ nC nI mn r0 r1 r2 r3 r4 r5 r6 r7 pc fuel c z n v cd inp ms w1 (hc.below hb) (hi.below hb) (hm.below hb) hby).mono (fun e w' h => RunL.of h))
    (fun w1 hb => (rrun_ok cv iv _ nC nI mn r0 r1 r2 r3 r4 r5 r6 r7 pc fuel c z n v cd inp ms w1 (hc.below hb) (hi.below hb) (hm.below hb) hby).mono (fun e w' h => RunL.of h))
    (fun w1 hb => wrong_ok r0 r1 r2 r3 r4 r5 r6 r7 pc c z n v _ mn ms w1 (hm.below hb))
    (fun w1 hb => rwrong_ok r0 r1 r2 r3 r4 r5 r6 r7 pc c z n v _ mn ms w1 (hm.below hb))
    (fun w1 l l' h h' => h.same h')
end Go.Proofs.Ytfjgnhmmakeaeaa
