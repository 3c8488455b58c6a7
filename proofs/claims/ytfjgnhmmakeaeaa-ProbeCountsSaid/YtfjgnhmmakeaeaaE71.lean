/- ProbeCounts: its ways, joined. -/
import Derived.Test.YtfjgnhmmakeaeaaE70
namespace Go.Proofs.Ytfjgnhmmakeaeaa
open Go.RowKit
set_option linter.unusedVariables false
set_option linter.unusedSimpArgs false
set_option maxRecDepth 100000
open Mc
open Go.ChangeShapes Go.WideShapes Go.ChangeAt in
theorem ints_sz {H : Type} {enc : TypeId × Value → H} {W : World} {base : Nat} {v : Value} {d : DataW H} {p : List MemPlace} {ts : List TypeId} {ds : List (DataW H)} {j : Nat} (hv : Value.okWide Try.prog W .any base 22 v)
    (h : DataW.Trod enc Try.prog W 0 (fun _ => true) true 22 v d p) (hs : (DataW.weightsEach Try.prog ts ds).all (· ≤ reachBytes) = true) (ht : ts[j]? = some 22) (hd : ds[j]? = some d) : ∀ a len cap, v = .slice a len cap → len ≤ 35184372088832 := by
  obtain ⟨a', len', cap', rfl⟩ := okWide_slice Try.underlying22 hv
  intro a len cap e
  injection e with e1 e2 e3
  subst e1; subst e2; subst e3
  obtain ⟨fuel, hf⟩ := h
  rcases open_ints Try.underlying22 Try.underlying3 (by kernel_rfl) hf with ⟨hcs, _⟩ | ⟨x, l, c, zs, hcs, _, hl, hm, hz, hx, _⟩
  · simp [Value.cells] at hcs
    omega
  · simp [Value.cells] at hcs
    obtain ⟨_, rfl, rfl⟩ := hcs
    injection hx with hx1 hx2
    subst hx1
    have hz' : zs.length = cap' := by simpa using hz
    have := sized_slice hs ht hd Try.underlying22
    rw [show Try.prog.bytesOf 3 = 8 from by kernel_rfl] at this
    simp [lits] at this
    unfold reachBytes at this
    omega
set_option maxHeartbeats 8000000 in
theorem counts_wrong (cv iv : Value) (ma : Option Addr) (mn mc : Nat) (r0 r1 r2 r3 r4 r5 r6 r7 pc fuel E1 : Int) (c z n v : Bool) (w : World) (h0 : E1 ≠ 0)
    (CH : ∀ w1 : World, Below w.heap.size w w1 → Calls Try.prog 38 #[cv, stV r0 r1 r2 r3 r4 r5 r6 r7 c z n v pc (.slice ma mn mc), iv, .int .i64 fuel] w1 fun e w' => e = .returned (.tuple #[.slice none 0 0, .int .i64 E1]) ∧ Below w1.heap.size w1 w') :
    Calls Try.prog 13 #[cv, stV r0 r1 r2 r3 r4 r5 r6 r7 c z n v pc (.slice ma mn mc), iv, .int .i64 fuel] w fun e w' => e = .returned (.bool true) ∧ Below w.heap.size w w' := by
  have HCH := Lib.hid CH
  have e0 : (E1 != 0) = true := by simpa using h0
  clear CH h0
  go_enter Try.func13, Try.ntmps13
  go_wp2_with (first | (go_at_call 41; refine (alive16 _).mono ?_; rintro e w1 ⟨rfl, hb1⟩; have HB1 := Lib.hid (Ext.trans (Ext.alloc (Below.refl w.heap.size w) _) hb1); have HS1 := Lib.hid ((Blk.new w 27 (stC r0 r1 r2 r3 r4 r5 r6 r7 c z n v pc (.slice ma mn mc))).keep hb1); clear hb1) | (refine wpList_load_row rfl 27 _ rfl w.heap.size rfl 27 (stC r0 r1 r2 r3 r4 r5 r6 r7 c z n v pc (.slice ma mn mc)) (0, 0) _ HS1.out Try.underlying27 rfl (by kernel_rfl) ?_) | (go_at_call 38; refine (HCH.out _ HB1.out).mono ?_; rintro e w2 ⟨rfl, hb2⟩; have HB2 := Lib.hid (Ext.trans HB1.out hb2); clear hb2))
  go_ret
  exact ⟨rfl, HB2.out⟩
theorem goA_le_steps (cd inp : List Int) : ∀ (n : Nat) (s : St), (goA cd inp n s).steps ≤ s.steps + n
  | 0, s => by show s.steps ≤ s.steps + 0; omega
  | n + 1, s => by
    have h1 := tick_steps cd inp s
    have h2 := goA_le_steps cd inp n (tick cd inp s)
    unfold goA
    split <;> omega
theorem counts_ok (cv iv mv : Value) (nC nI mn : Nat) (r0 r1 r2 r3 r4 r5 r6 r7 pc fuel : Int) (c z n v : Bool) (cd inp ms : List Int) (w : World) (hsz : ∀ a len cap, cv = .slice a len cap → len ≤ 35184372088832)
    (hc : Rd w 1 cv nC (cd.map (Value.int .i64))) (hi : Rd w 1 iv nI (inp.map (Value.int .u8))) (hm : Rd w 1 mv mn (ms.map (Value.int .i64))) (hby : ∀ x ∈ inp, 0 ≤ x ∧ x < 256) :
    Calls Try.prog 13 #[cv, stV r0 r1 r2 r3 r4 r5 r6 r7 c z n v pc mv, iv, .int .i64 fuel] w fun e w' => e = .returned (.bool true) ∧ Below w.heap.size w w' := by
  obtain ⟨hcl, _, ca, cc, hcv, _, _⟩ := hc.ints
  have hnC : nC ≤ 35184372088832 := hsz _ _ _ hcv
  obtain ⟨hil, _, ia, ic, hiv, _, _⟩ := hi.ints
  obtain ⟨_, _, ma, mc, hmv, _, _⟩ := hm.ints
  have CR := fun (w1 : World) (hb : Below w.heap.size w w1) => run_ok cv iv mv nC nI mn r0 r1 r2 r3 r4 r5 r6 r7 pc fuel c z n v cd inp ms w1 (hc.below hb) (hi.below hb) (hm.below hb) hby
  have CH := fun (w1 : World) (hb : Below w.heap.size w w1) => hits_ok cv iv mv nC nI mn r0 r1 r2 r3 r4 r5 r6 r7 pc fuel c z n v cd inp ms w1 hnC (hc.below hb) (hi.below hb) (hm.below hb) hby
  subst hcv; subst hiv; subst hmv
  have hw := wary_zero (nC := nC) (nI := nI) (r0 := r0) (r1 := r1) (r2 := r2) (r3 := r3) (r4 := r4) (r5 := r5) (r6 := r6) (r7 := r7) (pc := pc) (fuel := fuel) (ms := ms)
  by_cases h0 : Mc.wary nC nI (Mc.wr [r0, r1, r2, r3, r4, r5, r6, r7] pc ms) fuel = 0
  · obtain ⟨z1, z2, z3, z4, z5, z6, z7⟩ := hw h0
    rw [h0] at CR CH
    have hF : Mc.ends cd inp fuel r0 r1 r2 r3 r4 r5 r6 r7 c z n v pc ms = goA cd inp fuel.toNat (Mc.begin (reg8 r0 r1 r2 r3 r4 r5 r6 r7) c z n v pc ms) := go_alone _ (fun _ _ => rfl) _ _ _ _ _
    have hcl' : cd.length = nC := by simpa using hcl
    have hg := go_hits cd inp nI (by simpa using hil) hby fuel.toNat (Mc.begin (reg8 r0 r1 r2 r3 r4 r5 r6 r7) c z n v pc ms) (fun _ => 0) (begin_fine z5 z6 z7) (fun _ => Int.le_refl _)
    have hst := goA_le_steps cd inp fuel.toNat (Mc.begin (reg8 r0 r1 r2 r3 r4 r5 r6 r7) c z n v pc ms)
    have hs0 : (Mc.begin (reg8 r0 r1 r2 r3 r4 r5 r6 r7) c z n v pc ms).steps = 0 := rfl
    have hz0 : ∀ m, sumTo (fun _ => 0) m = 0 := fun m => by induction m with | zero => rfl | succ m ih => show sumTo _ m + 0 = 0; rw [ih]; rfl
    rw [hs0] at hst hg
    rw [hz0, ← hF, hcl'] at hg
    rw [← hF] at hst
    generalize (go (envH nC) cd inp fuel.toNat (Mc.begin (reg8 r0 r1 r2 r3 r4 r5 r6 r7) c z n v pc ms) (fun _ => 0)).2 = G at hg CH
    generalize Mc.ends cd inp fuel r0 r1 r2 r3 r4 r5 r6 r7 c z n v pc ms = F at hg hst CR
    refine counts_at ca ia ma nC cc nI ic mn mc r0 r1 r2 r3 r4 r5 r6 r7 pc fuel c z n v F G w (by omega) hg.1 (by omega) (by rcases hg.2 with h | ⟨h1, h2, h3⟩; exact .inl (by omega); exact .inr ⟨h1, by omega, h3⟩) (fun w1 hb => (CH w1 hb).mono ?_) (fun w1 hb => (CR w1 hb).mono ?_)
    · rintro e w' (⟨h, _⟩ | ⟨_, hv, he, hr, hb2⟩)
      · exact absurd rfl h
      · obtain ⟨_, _, ha, hc2, rfl, _, _⟩ := hr.ints
        exact ⟨ha, hc2, he, hr, hb2⟩
    · intro e w' h
      obtain ⟨oa, oc, xa, xn, xc, q1, q2, q3, q4⟩ := runR_ok h
      exact ⟨oa, _, oc, xa, xn, xc, q1, q4⟩
  · refine counts_wrong _ _ ma mn mc r0 r1 r2 r3 r4 r5 r6 r7 pc fuel _ c z n v w h0 (fun w1 hb => (CH w1 hb).mono ?_)
    rintro e w' (⟨_, he, hb⟩ | ⟨h, _⟩)
    · exact ⟨he, hb⟩
    · exact absurd h h0
end Go.Proofs.Ytfjgnhmmakeaeaa
