/- ProbeLooks: its ways, joined. -/
import Derived.Test.YtfjgnhmmakeaeaaE76
namespace Go.Proofs.Ytfjgnhmmakeaeaa
open Go.RowKit
set_option linter.unusedVariables false
set_option linter.unusedSimpArgs false
set_option maxRecDepth 100000
open Mc
set_option maxHeartbeats 8000000 in
theorem looks_wrong (cv iv : Value) (ma : Option Addr) (mn mc : Nat) (r0 r1 r2 r3 r4 r5 r6 r7 pc fuel most E1 : Int) (c z n v : Bool) (w : World) (h0 : E1 ≠ 0)
    (CT : ∀ w1 : World, Below w.heap.size w w1 → Calls Try.prog 36 #[cv, stV r0 r1 r2 r3 r4 r5 r6 r7 c z n v pc (.slice ma mn mc), iv, .int .i64 fuel, .int .i64 most] w1 fun e w' => e = .returned (.tuple #[.slice none 0 0, ranZ, .int .i64 E1]) ∧ Below w1.heap.size w1 w') :
    Calls Try.prog 12 #[cv, stV r0 r1 r2 r3 r4 r5 r6 r7 c z n v pc (.slice ma mn mc), iv, .int .i64 fuel, .int .i64 most] w fun e w' => e = .returned (.bool true) ∧ Below w.heap.size w w' := by
  have HCT := Lib.hid CT
  have e0 : (E1 != 0) = true := by simpa using h0
  clear CT h0
  go_enter Try.func12, Try.ntmps12
  go_wp2_with (first | (go_at_call 41; refine (alive16 _).mono ?_; rintro e w1 ⟨rfl, hb1⟩; have HB1 := Lib.hid (Ext.trans (Ext.alloc (Below.refl w.heap.size w) _) hb1); have HS1 := Lib.hid ((Blk.new w 27 (stC r0 r1 r2 r3 r4 r5 r6 r7 c z n v pc (.slice ma mn mc))).keep hb1); clear hb1) | (refine wpList_load_row rfl 27 _ rfl w.heap.size rfl 27 (stC r0 r1 r2 r3 r4 r5 r6 r7 c z n v pc (.slice ma mn mc)) (0, 0) _ HS1.out Try.underlying27 rfl (by kernel_rfl) ?_) | (go_at_call 36; refine (HCT.out _ HB1.out).mono ?_; rintro e w2 ⟨rfl, hb2⟩; have HB2 := Lib.hid (Ext.trans HB1.out hb2); clear hb2) | (refine wpList_store_row rfl 30 _ _ rfl w2.heap.size ranZc rfl rfl 30 ranZc (Blk.new _ _ _) (by kernel_rfl) rfl ranZ_one ?_))
  go_ret
  exact ⟨rfl, Below.row (Ext.alloc HB2.out _) HB2.out.size _⟩
theorem goA_le_st (cd inp : List Int) : ∀ (n : Nat) (s : St), (goA cd inp n s).steps ≤ s.steps + n
  | 0, s => by show s.steps ≤ s.steps + 0; omega
  | n + 1, s => by
    have h1 := tick_steps cd inp s
    have h2 := goA_le_st cd inp n (tick cd inp s)
    unfold goA
    split <;> omega
theorem looks_ok (cv iv mv : Value) (nC nI mn : Nat) (r0 r1 r2 r3 r4 r5 r6 r7 pc fuel most : Int) (c z n v : Bool) (cd inp ms : List Int) (w : World)
    (hc : Rd w 1 cv nC (cd.map (Value.int .i64))) (hi : Rd w 1 iv nI (inp.map (Value.int .u8))) (hm : Rd w 1 mv mn (ms.map (Value.int .i64))) (hby : ∀ x ∈ inp, 0 ≤ x ∧ x < 256) :
    Calls Try.prog 12 #[cv, stV r0 r1 r2 r3 r4 r5 r6 r7 c z n v pc mv, iv, .int .i64 fuel, .int .i64 most] w fun e w' => e = .returned (.bool true) ∧ Below w.heap.size w w' := by
  obtain ⟨hcl, _, ca, cc, hcv, _, _⟩ := hc.ints
  obtain ⟨hil, _, ia, ic, hiv, _, _⟩ := hi.ints
  obtain ⟨_, _, ma, mc, hmv, _, _⟩ := hm.ints
  have CR := fun (w1 : World) (hb : Below w.heap.size w w1) => run_ok cv iv mv nC nI mn r0 r1 r2 r3 r4 r5 r6 r7 pc fuel c z n v cd inp ms w1 (hc.below hb) (hi.below hb) (hm.below hb) hby
  have CT := fun (w1 : World) (hb : Below w.heap.size w w1) => trace_ok cv iv mv nC nI mn r0 r1 r2 r3 r4 r5 r6 r7 pc fuel most c z n v cd inp ms w1 (hc.below hb) (hi.below hb) (hm.below hb) hby
  subst hcv; subst hiv; subst hmv
  have hw := wary_zero (nC := nC) (nI := nI) (r0 := r0) (r1 := r1) (r2 := r2) (r3 := r3) (r4 := r4) (r5 := r5) (r6 := r6) (r7 := r7) (pc := pc) (fuel := fuel) (ms := ms)
  by_cases h0 : (if most < 0 ∨ most > 10000 then 3 else Mc.wary nC nI (Mc.wr [r0, r1, r2, r3, r4, r5, r6, r7] pc ms) fuel) = 0
  · have hr : ¬ (most < 0 ∨ most > 10000) := fun h => by rw [if_pos h] at h0; exact absurd h0 (by decide)
    rw [if_neg hr] at h0 CT
    obtain ⟨z1, z2, z3, z4, z5, z6, z7⟩ := hw h0
    rw [h0] at CR CT
    have hF : Mc.ends cd inp fuel r0 r1 r2 r3 r4 r5 r6 r7 c z n v pc ms = goA cd inp fuel.toNat (Mc.begin (reg8 r0 r1 r2 r3 r4 r5 r6 r7) c z n v pc ms) := go_alone _ (fun _ _ => rfl) _ _ _ _ _
    have hfine := begin_fine (nI := nI) (c := c) (z := z) (n := n) (v := v) z5 z6 z7
    have hil' : inp.length = nI := by simpa using hil
    have hlen := trL_len cd inp fuel.toNat (Mc.begin (reg8 r0 r1 r2 r3 r4 r5 r6 r7) c z n v pc ms)
    have hat := trL_at cd inp fuel.toNat (Mc.begin (reg8 r0 r1 r2 r3 r4 r5 r6 r7) c z n v pc ms)
    have hwd := trL_wd cd inp nI hil' hby fuel.toNat _ hfine
    have hhd := trL_head cd inp fuel.toNat (Mc.begin (reg8 r0 r1 r2 r3 r4 r5 r6 r7) c z n v pc ms)
    have hst := goA_le_st cd inp fuel.toNat (Mc.begin (reg8 r0 r1 r2 r3 r4 r5 r6 r7) c z n v pc ms)
    have hs0 : (Mc.begin (reg8 r0 r1 r2 r3 r4 r5 r6 r7) c z n v pc ms).steps = 0 := rfl
    have hp0 : (Mc.begin (reg8 r0 r1 r2 r3 r4 r5 r6 r7) c z n v pc ms).pc = pc := rfl
    rw [hs0] at hst hlen
    rw [← hF] at hlen hst
    rw [hp0] at hhd
    generalize trL cd inp fuel.toNat (Mc.begin (reg8 r0 r1 r2 r3 r4 r5 r6 r7) c z n v pc ms) = T at hlen hat hwd hhd CT
    generalize Mc.ends cd inp fuel r0 r1 r2 r3 r4 r5 r6 r7 c z n v pc ms = F at hlen hst CR CT
    have hgl : (T.take most.toNat).length ≤ most.toNat ∧ (T.take most.toNat).length ≤ T.length := by rw [List.length_take]; omega
    have htk : ∀ (k : Nat) (x : Int × St), (T.take most.toNat)[k]? = some x → T[k]? = some x := fun k x h => by
      rw [List.getElem?_take] at h
      split at h
      · exact h
      · cases h
    refine looks_at ca ia ma nC cc nI ic mn mc F.out.length (top F.mem MS) (T.take most.toNat).length r0 r1 r2 r3 r4 r5 r6 r7 pc fuel most c z n v cd F (T.take most.toNat) w (by omega) rfl (by omega) (by omega) (by omega) (by omega)
      (fun k x h => ⟨(hat k x (htk k x h)).1, fun y hy => (hat k x (htk k x h)).2 y (htk _ y hy)⟩) (fun x hx => hwd x (List.mem_of_mem_take hx)) (fun x h => hhd x (htk 0 x h)) hc (fun w1 hb => (CT w1 hb).mono ?_) (fun w1 hb => (CR w1 hb).mono ?_) (fun w1 o1 o2 m1 m2 g1 g2 k1 k2 => sameRan_self F o1 o2 m1 m2 _ _ _ _ w1 g1 g2 k1 k2)
    · rintro e w' (⟨h, _⟩ | ⟨_, lv, ov, mv, he, p1, p2, p3, p4, p5, p6⟩)
      · exact absurd rfl h
      · obtain ⟨oa, oc, rfl, _⟩ := own_slice p1
        obtain ⟨xa, xc, rfl, _⟩ := own_slice p2
        obtain ⟨ls, lc, rfl, _⟩ := own_slice p3
        have hms : MS = 65536 := rfl
        have htp := top_le F.mem MS
        exact ⟨ls, lc, oa, oc, xa, xc, he, Rd.of_owns p1 (by unfold maxLen; omega), Rd.of_owns p2 (by unfold maxLen; omega), p3, p6⟩
    · intro e w' h
      rcases h with ⟨h, _⟩ | ⟨_, ov, mv, he, q1, q2, q3, q4⟩
      · exact absurd rfl h
      · obtain ⟨oa, oc, rfl, _⟩ := own_slice q1
        obtain ⟨xa, xc, rfl, _⟩ := own_slice q2
        have hms : MS = 65536 := rfl
        have htp := top_le F.mem MS
        exact ⟨oa, oc, xa, xc, he, Rd.of_owns q1 (by unfold maxLen; omega), Rd.of_owns q2 (by unfold maxLen; omega), q4⟩
  · refine looks_wrong _ _ ma mn mc r0 r1 r2 r3 r4 r5 r6 r7 pc fuel most _ c z n v w h0 (fun w1 hb => (CT w1 hb).mono ?_)
    rintro e w' (⟨_, he, hb⟩ | ⟨h, _⟩)
    · exact ⟨he, hb⟩
    · exact absurd h h0
end Go.Proofs.Ytfjgnhmmakeaeaa
