/- ProbeTells: its ways, joined. -/
import Derived.Test.YtfjgnhmmakeaeaaQ8
import Derived.Test.YtfjgnhmmakeaeaaQ10
import Derived.Test.YtfjgnhmmakeaeaaBC
import Derived.Test.YtfjgnhmmakeaeaaBD
import Derived.Test.YtfjgnhmmakeaeaaBE
namespace Go.Proofs.Ytfjgnhmmakeaeaa
open Go.RowKit
set_option linter.unusedVariables false
set_option linter.unusedSimpArgs false
set_option maxRecDepth 100000
open Mc
open Go.ChangeShapes Go.WideShapes Go.ChangeAt in
theorem ints_sz2 {H : Type} {enc : TypeId × Value → H} {W : World} {base : Nat} {v : Value} {d : DataW H} {p : List MemPlace} {ts : List TypeId} {ds : List (DataW H)} {j : Nat} (hv : Value.okWide Try.prog W .any base 22 v)
    (h : DataW.Trod enc Try.prog W 0 (fun _ => true) true 22 v d p) (hs : (DataW.weightsEach Try.prog ts ds).all (· ≤ reachBytes) = true) (ht : ts[j]? = some 22) (hd : ds[j]? = some d) : ∀ a len cap, v = .slice a len cap → len ≤ 35184372088832 := by
  obtain ⟨a', len', cap', rfl⟩ := okWide_slice Try.underlying22 hv
  intro a len cap e
  injection e with e1 e2 e3
  subst e1; subst e2; subst e3
  obtain ⟨fuel, hf⟩ := h
  rcases open_ints Try.underlying22 Try.underlying3 (by kernel_rfl) hf with ⟨hcs, _⟩ | ⟨x, l, c, zs, hcs, _, hl, hm, hz, hx, _⟩
  · simp [Value.cells] at hcs
    omega
  · simp [Value.cells] at hcs
    obtain ⟨_, rfl, rfl⟩ := hcs
    injection hx with hx1 hx2
    subst hx1
    have hz' : zs.length = cap' := by simpa using hz
    have := sized_slice hs ht hd Try.underlying22
    rw [show Try.prog.bytesOf 3 = 8 from by kernel_rfl] at this
    simp [lits] at this
    unfold reachBytes at this
    omega
theorem runL_of {F : St} {B : Nat} {w : World} {ov mv : Value} (q1 : w.ownsRow B 5 1 ov F.out.length (F.out.map (Value.int .u8))) (q2 : w.ownsRow B 3 1 mv (top F.mem MS) ((left F.mem).map (Value.int .i64))) (q3 : F.out.length ≤ 65536) : RunL 0 F w (ranL F ov mv) := by
  have hk : top F.mem MS ≤ 65536 := top_le F.mem MS
  have hm : (65536 : Nat) ≤ maxLen := by unfold maxLen; omega
  exact .inr ⟨rfl, ov, mv, _, _, rfl, Rd.of_owns q1 (Nat.le_trans q3 hm), Rd.of_owns q2 (Nat.le_trans hk hm)⟩
/-- Steps that were told. -/
def ShotL (cd : List Int) (l : List (Int × St)) (n : Nat) (w : World) (a : Option Addr) (c : Nat) : Prop := w.ownsRow 0 80 17 (.slice a n c) n (shR cd l)
theorem tells_ok (cv iv mv pv : Value) (nC nI mn np : Nat) (r0 r1 r2 r3 r4 r5 r6 r7 pc fuel most : Int) (c z n v : Bool) (cd inp ms ps : List Int) (w : World) (hsz : ∀ a len cap, cv = .slice a len cap → len ≤ 35184372088832)
    (hc : Rd w 1 cv nC (cd.map (Value.int .i64))) (hi : Rd w 1 iv nI (inp.map (Value.int .u8))) (hm : Rd w 1 mv mn (ms.map (Value.int .i64))) (hp : Rd w 1 pv np (ps.map (Value.int .i64))) (hby : ∀ x ∈ inp, 0 ≤ x ∧ x < 256) :
    Calls Try.prog 11 #[cv, stV r0 r1 r2 r3 r4 r5 r6 r7 c z n v pc mv, iv, .int .i64 fuel, .int .i64 most, pv] w fun e w' => e = .returned (.bool true) ∧ Below w.heap.size w w' := by
  obtain ⟨_, hmC, ca, cc, hcv, _, _⟩ := hc.ints
  have hnC2 : nC ≤ 35184372088832 := hsz _ _ _ hcv
  obtain ⟨_, hmI, ia, ic, hiv, _, _⟩ := hi.ints
  obtain ⟨_, _, ma, mc, hmv, _, _⟩ := hm.ints
  obtain ⟨_, _, pa, pk, hpv, _, _⟩ := hp.ints
  subst hcv; subst hiv; subst hmv; subst hpv
  have CT := fun (w1 : World) (hb : Below w.heap.size w w1) => trace_ok (.slice ca nC cc) (.slice ia nI ic) (.slice ma mn mc) nC nI mn r0 r1 r2 r3 r4 r5 r6 r7 pc fuel most c z n v cd inp ms w1 (hc.below hb) (hi.below hb) (hm.below hb) hby
  have CU := fun (w1 : World) (hb : Below w.heap.size w w1) => until_ok (.slice ca nC cc) (.slice ia nI ic) (.slice ma mn mc) (.slice pa np pk) nC nI mn np r0 r1 r2 r3 r4 r5 r6 r7 pc fuel c z n v cd inp ms ps w1 (hc.below hb) (hi.below hb) (hm.below hb) (hp.below hb) hby
  have CH := fun (w1 : World) (hb : Below w.heap.size w w1) => hits_ok (.slice ca nC cc) (.slice ia nI ic) (.slice ma mn mc) nC nI mn r0 r1 r2 r3 r4 r5 r6 r7 pc fuel c z n v cd inp ms w1 hnC2 (hc.below hb) (hi.below hb) (hm.below hb) hby
  have CW := fun (w1 : World) (hb : Below w.heap.size w w1) => wrong16_ok nC nI ca ia cc ic (by omega) (by unfold maxLen at hmI; omega) r0 r1 r2 r3 r4 r5 r6 r7 pc fuel (Mc.wr [r0, r1, r2, r3, r4, r5, r6, r7] pc ms) c z n v ma mn mc w1 (fun w2 hb2 => rwrong_ok r0 r1 r2 r3 r4 r5 r6 r7 pc c z n v _ mn ms w2 (hm.below (Ext.trans hb hb2)))
  by_cases h0 : Mc.wary nC nI (Mc.wr [r0, r1, r2, r3, r4, r5, r6, r7] pc ms) fuel = 0
  · obtain ⟨h1, h2, h3, h4, h5, h6, h7⟩ := wary_zero h0
    rw [h0] at CT CU CH CW
    obtain ⟨S0, hS0⟩ : ∃ S0, S0 = Mc.begin (reg8 r0 r1 r2 r3 r4 r5 r6 r7) c z n v pc ms := ⟨_, rfl⟩
    have hfi : Mc.Fine nI S0 := by rw [hS0]; exact begin_fine h5 h6 h7
    have hF : Mc.ends cd inp fuel r0 r1 r2 r3 r4 r5 r6 r7 c z n v pc ms = goA cd inp fuel.toNat S0 := by rw [hS0]; exact go_alone _ (fun _ _ => rfl) _ _ _ _ _
    have R1 := fun (w1 : World) (hb : Below w.heap.size w w1) => r16_run ca ia ma none nC cc nI ic mn mc 0 0 r0 r1 r2 r3 r4 r5 r6 r7 pc fuel most c z n v cd inp ms [] w1 (hc.below hb) (hi.below hb) (hm.below hb) (Rd.nil w1 1) h1 h2 hby h4 (by rw [← hS0]; exact hfi) (go (envR nC cd most []) cd inp fuel.toNat S0 (false, [], fun _ => 0)).1 (go (envR nC cd most []) cd inp fuel.toNat S0 (false, [], fun _ => 0)).2.1 (go (envR nC cd most []) cd inp fuel.toNat S0 (false, [], fun _ => 0)).2.2.1 (go (envR nC cd most []) cd inp fuel.toNat S0 (false, [], fun _ => 0)).2.2.2 (by rw [hS0])
    have R2 := fun (w1 : World) (hb : Below w.heap.size w w1) => r16_run ca ia ma pa nC cc nI ic mn mc np pk r0 r1 r2 r3 r4 r5 r6 r7 pc fuel 0 c z n v cd inp ms ps w1 (hc.below hb) (hi.below hb) (hm.below hb) (hp.below hb) h1 h2 hby h4 (by rw [← hS0]; exact hfi) (go (envR nC cd 0 ps) cd inp fuel.toNat S0 (false, [], fun _ => 0)).1 (go (envR nC cd 0 ps) cd inp fuel.toNat S0 (false, [], fun _ => 0)).2.1 (go (envR nC cd 0 ps) cd inp fuel.toNat S0 (false, [], fun _ => 0)).2.2.1 (go (envR nC cd 0 ps) cd inp fuel.toNat S0 (false, [], fun _ => 0)).2.2.2 (by rw [hS0])
    rw [hF, ← hS0] at CT
    rw [← hS0] at CU CH
    have e1 := go_RA nC cd most inp fuel.toNat S0 (false, [], fun _ => 0)
    have e2 := go_RT nC cd most inp fuel.toNat S0 (false, [], fun _ => 0)
    have e3 := go_RH nC cd most inp fuel.toNat S0 (false, [], fun _ => 0)
    have e4 := go_R1 nC cd 0 ps inp fuel.toNat S0 (false, [], fun _ => 0)
    rw [e1, e2, e3] at R1
    rw [e4] at R2
    have e5 : 0 ≤ most → (go (envT cd most) cd inp fuel.toNat S0 []).2 = (trL cd inp fuel.toNat S0).take most.toNat := fun hm => by rw [go_tr cd inp most hm]; simp
    obtain ⟨GR, hGR⟩ : ∃ l, l = (go (envT cd most) cd inp fuel.toNat S0 []).2 := ⟨_, rfl⟩
    obtain ⟨HR, hHR⟩ : ∃ h, h = (go (envH nC) cd inp fuel.toNat S0 (fun _ => 0)).2 := ⟨_, rfl⟩
    obtain ⟨FU, hFU⟩ : ∃ F, F = (go (envU ps) cd inp fuel.toNat S0 false).1 := ⟨_, rfl⟩
    rw [← hGR] at e5
    simp only [← hGR, ← hHR] at R1
    rw [← hHR] at CH
    simp only [← hFU] at R2
    rw [← hFU] at CU
    clear e1 e2 e3 e4 hGR hHR hFU
    generalize goA cd inp fuel.toNat S0 = FR at *
    have CR : ∀ w1 : World, Below w.heap.size w w1 → Calls Try.prog 39 #[.slice ca nC cc, stV r0 r1 r2 r3 r4 r5 r6 r7 c z n v pc (.slice ma mn mc), .slice ia nI ic, .int .i64 fuel, .int .i64 most, .slice none 0 0] w1 fun e w' => ∃ a c h l, e = .returned (.tuple #[.slice a GR.length c, h, .agg l.toArray]) ∧ ((RunL 0 FR w' l ∧ ShotL cd GR GR.length w' a c ∧ GR.length ≤ 1000000) ∧ Rd w' 1 h nC (((List.range nC).map HR).map (Value.int .i64))) ∧ Below w1.heap.size w1 w' := fun w1 hb => (R1 w1 hb).mono (by
      rintro e w' ⟨lv, hv, ov, mv, he, q1, q2, q3, q4, q5, q6, q7⟩
      obtain ⟨a, c, rfl, _⟩ := own_slice q3
      exact ⟨a, c, hv, ranL FR ov mv, he, ⟨⟨runL_of q1 q2 q6, own_mono (Nat.zero_le _) q3, by omega⟩, q5⟩, q7⟩)
    have CQ : ∀ w1 : World, Below w.heap.size w w1 → Calls Try.prog 39 #[.slice ca nC cc, stV r0 r1 r2 r3 r4 r5 r6 r7 c z n v pc (.slice ma mn mc), .slice ia nI ic, .int .i64 fuel, .int .i64 0, .slice pa np pk] w1 fun e w' => ∃ yv yh l, e = .returned (.tuple #[yv, yh, .agg l.toArray]) ∧ RunL 0 FU w' l ∧ Below w1.heap.size w1 w' := fun w1 hb => (R2 w1 hb).mono (by
      rintro e w' ⟨lv, hv, ov, mv, he, q1, q2, q3, q4, q5, q6, q7⟩
      exact ⟨lv, hv, ranL FU ov mv, he, runL_of q1 q2 q6, q7⟩)
    have CU2 : ∀ w1 : World, Below w.heap.size w w1 → Calls Try.prog 37 #[.slice ca nC cc, stV r0 r1 r2 r3 r4 r5 r6 r7 c z n v pc (.slice ma mn mc), .slice ia nI ic, .int .i64 fuel, .slice pa np pk] w1 fun e w' => ∃ l, e = .returned (.tuple #[.agg l.toArray, .int .i64 0]) ∧ RunL 0 FU w' l ∧ Below w1.heap.size w1 w' := fun w1 hb => (CU w1 hb).mono (fun e w' h => RunL.of h)
    have CH2 : ∀ w1 : World, Below w.heap.size w w1 → Calls Try.prog 38 #[.slice ca nC cc, stV r0 r1 r2 r3 r4 r5 r6 r7 c z n v pc (.slice ma mn mc), .slice ia nI ic, .int .i64 fuel] w1 fun e w' => ∃ hv, e = .returned (.tuple #[hv, .int .i64 0]) ∧ Rd w' 1 hv nC (((List.range nC).map HR).map (Value.int .i64)) ∧ Below w1.heap.size w1 w' := fun w1 hb => (CH w1 hb).mono (by
      rintro e w' (⟨h, _⟩ | ⟨_, hv, he, hr, hb2⟩)
      · exact absurd rfl h
      · exact ⟨hv, he, hr, hb2⟩)
    have C2 : ∀ (w1 : World) (hv : Value) (a : Option Addr) (c : Nat) (h : Value) (l : List Value), Rd w1 1 hv nC (((List.range nC).map HR).map (Value.int .i64)) → ((RunL 0 FR w1 l ∧ ShotL cd GR GR.length w1 a c ∧ GR.length ≤ 1000000) ∧ Rd w1 1 h nC (((List.range nC).map HR).map (Value.int .i64))) → Calls Try.prog 26 #[hv, h] w1 fun e w' => e = .returned (.bool true) ∧ Below w1.heap.size w1 w' := by
      intro w1 hv a c h l h1 h2
      have := same_ok hv h nC nC _ _ w1 h1 h2.2
      rw [show decide ((List.range nC).map HR = (List.range nC).map HR) = true from by simp] at this
      exact this
    by_cases hbad : most < 0 ∨ most > 10000
    · rw [if_pos hbad] at CT
      exact tells_good (.slice ca nC cc) (.slice ia nI ic) (.slice pa np pk) ma mn mc 0 GR.length r0 r1 r2 r3 r4 r5 r6 r7 pc fuel most 3 c z n v w (fun _ _ _ l => l = ranZc.toList) (RunL 0 FU) (RunL 0 FU) (fun w v => Rd w 1 v nC (((List.range nC).map HR).map (Value.int .i64))) (fun w a c h l => (RunL 0 FR w l ∧ ShotL cd GR GR.length w a c ∧ GR.length ≤ 1000000) ∧ Rd w 1 h nC (((List.range nC).map HR).map (Value.int .i64)))
        (fun _ _ _ _ _ h _ => h) (fun _ _ _ h hb => h.keep hb) (fun _ _ _ h hb => h.keep hb) (fun _ _ _ h hb => h.below hb) (fun _ _ _ _ _ _ h hb => ⟨⟨h.1.1.keep hb, ownsRow_below h.1.2.1 hb, h.1.2.2⟩, h.2.below hb⟩)
        (fun _ _ _ l h => by rw [h]; exact ⟨ranZ_one, rfl⟩) (fun _ _ h => h.one) (fun _ _ h => h.one) (fun _ _ _ _ _ h => h.1.1.one)
        (.inl ⟨rfl, rfl, hbad, fun _ _ _ _ h => h⟩) (fun w1 l l' h h' => h.same h') C2 CW (fun w1 hb => (CT w1 hb).mono (by
          rintro e w' (⟨_, he, hb2⟩ | ⟨h, _⟩)
          · exact ⟨none, 0, ranZc.toList, he, rfl, hb2⟩
          · exact absurd h (by decide))) CU2 CH2 CR CQ
    · rw [if_neg hbad] at CT
      have hG : (trL cd inp fuel.toNat S0).take most.toNat = GR := (e5 (by omega)).symm
      rw [hG] at CT
      exact tells_good (.slice ca nC cc) (.slice ia nI ic) (.slice pa np pk) ma mn mc GR.length GR.length r0 r1 r2 r3 r4 r5 r6 r7 pc fuel most 0 c z n v w (fun w a c l => RunL 0 FR w l ∧ ShotL cd GR GR.length w a c) (RunL 0 FU) (RunL 0 FU) (fun w v => Rd w 1 v nC (((List.range nC).map HR).map (Value.int .i64))) (fun w a c h l => (RunL 0 FR w l ∧ ShotL cd GR GR.length w a c ∧ GR.length ≤ 1000000) ∧ Rd w 1 h nC (((List.range nC).map HR).map (Value.int .i64)))
        (fun _ _ _ _ _ h hb => ⟨h.1.keep hb, ownsRow_below h.2 hb⟩) (fun _ _ _ h hb => h.keep hb) (fun _ _ _ h hb => h.keep hb) (fun _ _ _ h hb => h.below hb) (fun _ _ _ _ _ _ h hb => ⟨⟨h.1.1.keep hb, ownsRow_below h.1.2.1 hb, h.1.2.2⟩, h.2.below hb⟩)
        (fun _ _ _ l h => h.1.one) (fun _ _ h => h.one) (fun _ _ h => h.one) (fun _ _ _ _ _ h => h.1.1.one)
        (.inr ⟨rfl, fun h => hbad (.inl h), fun h => hbad (.inr h), fun w1 a c l a' c' h l' p q => same16_ok _ _ GR.length 0 0 cd GR rfl q.1.2.2 w1 p.2 q.1.2.1, fun w1 a c l a' c' h l' p q => p.1.same q.1.1⟩) (fun w1 l l' h h' => h.same h') C2 CW (fun w1 hb => (CT w1 hb).mono (by
          rintro e w' (⟨h, _⟩ | ⟨_, lv, ov, mv, he, q1, q2, q3, q4, q5, q6⟩)
          · exact absurd rfl h
          · obtain ⟨a, c, rfl, _⟩ := own_slice q3
            exact ⟨a, c, ranL FR ov mv, he, ⟨runL_of q1 q2 q4, own_mono (Nat.zero_le _) q3⟩, q6⟩)) CU2 CH2 CR CQ
  · refine tells_wrong (.slice ca nC cc) (.slice ia nI ic) (.slice pa np pk) ma mn mc r0 r1 r2 r3 r4 r5 r6 r7 pc fuel most _ c z n v w h0 CW (fun w1 hb => (CT w1 hb).mono ?_) (fun w1 hb => (CU w1 hb).mono ?_) (fun w1 hb => (CH w1 hb).mono ?_)
    · rintro e w' (⟨_, he, hb2⟩ | ⟨h, _⟩)
      · exact ⟨he, hb2⟩
      · exfalso
        split at h
        · exact absurd h (by decide)
        · exact h0 h
    · rintro e w' (⟨_, he, hb2⟩ | ⟨h, _⟩)
      · exact ⟨he, hb2⟩
      · exact absurd h h0
    · rintro e w' (⟨_, he, hb2⟩ | ⟨h, _⟩)
      · exact ⟨he, hb2⟩
      · exact absurd h h0
end Go.Proofs.Ytfjgnhmmakeaeaa
