/- EmuSplit: its ways, joined. -/
import Derived.Test.YtfjgnhmmakeaeaaE41
namespace Go.Proofs.Ytfjgnhmmakeaeaa
open Go.RowKit
set_option linter.unusedVariables false
set_option linter.unusedSimpArgs false
set_option maxRecDepth 100000
open Mc
theorem goA_steps_le (cd inp : List Int) : ∀ (n : Nat) (s : St), (goA cd inp n s).steps ≤ s.steps + n
  | 0, s => by show s.steps ≤ s.steps + 0; omega
  | n + 1, s => by
    have := tick_steps cd inp s
    unfold goA; split
    · have := goA_steps_le cd inp n (tick cd inp s); omega
    · omega
theorem left_in {mem : Nat → Int} {x : Int} (h : x ∈ left mem) : ∃ j, j < top mem MS ∧ mem j = x := by
  unfold left at h
  obtain ⟨j, hj, e⟩ := List.mem_map.1 h
  exact ⟨j, List.mem_range.1 hj, e⟩
theorem regs_in {nI : Nat} {F : St} (h : Fine nI F) : ∀ x ∈ [F.r 0, F.r 1, F.r 2, F.r 3, F.r 4, F.r 5, F.r 6, F.r 7], Wd x := by
  intro x hx
  simp only [List.mem_cons, List.not_mem_nil, or_false] at hx
  rcases hx with rfl | rfl | rfl | rfl | rfl | rfl | rfl | rfl <;> exact h.1.1 _ (by omega)
theorem left_wd {nI : Nat} {F : St} (h : Fine nI F) : ∀ x ∈ left F.mem, Wd x := by
  intro x hx
  obtain ⟨j, hj, rfl⟩ := left_in hx
  exact h.1.2.2 j (Nat.lt_of_lt_of_le hj (top_le F.mem MS))
theorem left_len (mem : Nat → Int) : (left mem).length = top mem MS := by unfold left; simp
theorem wr_fine {nI : Nat} {F : St} (h : Fine nI F) : Mc.wr [F.r 0, F.r 1, F.r 2, F.r 3, F.r 4, F.r 5, F.r 6, F.r 7] F.pc (left F.mem) = 0 := by
  have hl : (left F.mem).length ≤ 65536 := by rw [left_len]; exact top_le F.mem MS
  unfold Mc.wr
  rw [if_neg (by omega), if_pos]
  rw [List.all_eq_true]
  intro x hx
  have : Wd x := by
    simp only [List.mem_append, List.mem_singleton] at hx
    rcases hx with (hx | rfl) | hx
    · exact regs_in h x hx
    · exact h.1.2.1
    · exact left_wd h x hx
  unfold Mc.inr
  exact decide_eq_true this
theorem wary_fine {nC nI : Nat} {fuel : Int} {F : St} {k : Nat} (h : Fine k F) (hC : nC ≤ 65536) (hI : nI ≤ 65536) (h0 : 0 ≤ fuel) (h1 : fuel ≤ 1000000) : Mc.wary nC nI (Mc.wr [F.r 0, F.r 1, F.r 2, F.r 3, F.r 4, F.r 5, F.r 6, F.r 7] F.pc (left F.mem)) fuel = 0 := by
  rw [wr_fine h]
  unfold Mc.wary
  rw [if_neg (by omega), if_neg (by decide), if_neg (by omega)]
theorem runR_own {F : St} {w w' : World} {e : Ending} (h : RunR 0 F w e w') :
    ∃ ov mv, e = .returned (.tuple #[ranV F ov mv, .int .i64 0]) ∧ w'.ownsRow w.heap.size 5 1 ov F.out.length (F.out.map (Value.int .u8)) ∧ w'.ownsRow w.heap.size 3 1 mv (top F.mem MS) ((left F.mem).map (Value.int .i64)) ∧ Below w.heap.size w w' := by
  rcases h with ⟨h, _⟩ | ⟨_, ov, mv, he, q1, q2, q3, q4⟩
  · exact absurd rfl h
  · exact ⟨ov, mv, he, q1, q2, q4⟩
theorem begin_nz (ms : List Int) (hl : ms.length ≤ 65536) (r0 r1 r2 r3 r4 r5 r6 r7 pc : Int) (c z n v : Bool) : Nz (Mc.begin (reg8 r0 r1 r2 r3 r4 r5 r6 r7) c z n v pc ms) := by
  refine ⟨fun k hk => ?_, fun j hj => ?_⟩
  · show [r0, r1, r2, r3, r4, r5, r6, r7].getD k 0 = 0
    rw [List.getD_eq_getElem?_getD, List.getElem?_eq_none (by simpa using hk)]; rfl
  · show ms.getD j 0 = 0
    rw [List.getD_eq_getElem?_getD, List.getElem?_eq_none (by have hms : MS = 65536 := rfl; omega)]; rfl
theorem split_ok (cv iv mv : Value) (nC nI mn : Nat) (r0 r1 r2 r3 r4 r5 r6 r7 pc first second : Int) (c z n v : Bool) (cd inp ms : List Int) (w : World)
    (hc : Rd w 1 cv nC (cd.map (Value.int .i64))) (hi : Rd w 1 iv nI (inp.map (Value.int .u8))) (hm : Rd w 1 mv mn (ms.map (Value.int .i64))) (hby : ∀ x ∈ inp, 0 ≤ x ∧ x < 256) :
    Calls Try.prog 5 #[cv, stV r0 r1 r2 r3 r4 r5 r6 r7 c z n v pc mv, iv, .int .i64 first, .int .i64 second] w fun e w' => e = .returned (.bool true) ∧ Below w.heap.size w w' := by
  obtain ⟨hil, _, ia, ic, hiv, _, _⟩ := hi.ints
  obtain ⟨_, _, ma, mc, hmv, _, _⟩ := hm.ints
  obtain ⟨_, _, ca, cc, hcv, _, _⟩ := hc.ints
  have CR := fun (fu : Int) (w1 : World) (hb : Below w.heap.size w w1) => run_ok cv iv mv nC nI mn r0 r1 r2 r3 r4 r5 r6 r7 pc fu c z n v cd inp ms w1 (hc.below hb) (hi.below hb) (hm.below hb) hby
  subst hmv; subst hiv; subst hcv
  by_cases hT : first < 0 ∨ second < 0 ∨ first > 1000000 ∨ second > 1000000 ∨ first + second > 1000000
  · exact split_times _ _ ma mn mc r0 r1 r2 r3 r4 r5 r6 r7 pc first second c z n v _ _ _ _ _ w rfl rfl rfl rfl rfl (fun h1 h2 h3 h4 => by
      have := of_decide_eq_false h1; have := of_decide_eq_false h2; have := of_decide_eq_false h3; have := of_decide_eq_false h4
      rw [IntKind.wrap_i64]; omega) (by
      simp only [Bool.or_eq_true, decide_eq_true_eq]; omega)
  have t1 : ¬ first < 0 := fun h => hT (.inl h)
  have t2 : ¬ second < 0 := fun h => hT (.inr (.inl h))
  have t3 : ¬ first > 1000000 := fun h => hT (.inr (.inr (.inl h)))
  have t4 : ¬ second > 1000000 := fun h => hT (.inr (.inr (.inr (.inl h))))
  have t5 : ¬ first + second > 1000000 := fun h => hT (.inr (.inr (.inr (.inr h))))
  have HW : IntKind.i64.wrap (first + second) = first + second := by rw [IntKind.wrap_i64]; omega
  have hw := wary_zero (nC := nC) (nI := nI) (r0 := r0) (r1 := r1) (r2 := r2) (r3 := r3) (r4 := r4) (r5 := r5) (r6 := r6) (r7 := r7) (pc := pc) (fuel := first) (ms := ms)
  generalize hwr : Mc.wr [r0, r1, r2, r3, r4, r5, r6, r7] pc ms = W at *
  by_cases h0 : Mc.wary nC nI W first = 0
  · have hz := hw h0
    have hA : Mc.ends cd inp first r0 r1 r2 r3 r4 r5 r6 r7 c z n v pc ms = goA cd inp first.toNat (Mc.begin (reg8 r0 r1 r2 r3 r4 r5 r6 r7) c z n v pc ms) := go_alone _ (fun _ _ => rfl) _ _ _ _ _
    have hfine := begin_fine (nI := nI) (c := c) (z := z) (n := n) (v := v) hz.2.2.2.2.1 hz.2.2.2.2.2.1 hz.2.2.2.2.2.2
    have hnz := begin_nz ms hz.2.2.1 r0 r1 r2 r3 r4 r5 r6 r7 pc c z n v
    have C1 := CR first
    rw [h0] at C1
    have hst := goA_steps cd inp first.toNat (Mc.begin (reg8 r0 r1 r2 r3 r4 r5 r6 r7) c z n v pc ms)
    have hAf := goA_fine (cd := cd) hil hby first.toNat _ hfine
    rw [← hA] at hst hAf
    by_cases h3 : (Mc.ends cd inp first r0 r1 r2 r3 r4 r5 r6 r7 c z n v pc ms).how = 3
    · have hC : Mc.ends cd inp (first + second) r0 r1 r2 r3 r4 r5 r6 r7 c z n v pc ms = goA cd inp (first.toNat + second.toNat) (Mc.begin (reg8 r0 r1 r2 r3 r4 r5 r6 r7) c z n v pc ms) := by
        rw [show first.toNat + second.toNat = (first + second).toNat by omega]; exact go_alone _ (fun _ _ => rfl) _ _ _ _ _
      have C3 := CR (first + second)
      rw [wary_more h0 (by omega) t5] at C3
      generalize hFA : Mc.ends cd inp first r0 r1 r2 r3 r4 r5 r6 r7 c z n v pc ms = FA at *
      generalize hFC : Mc.ends cd inp (first + second) r0 r1 r2 r3 r4 r5 r6 r7 c z n v pc ms = FC at *
      have hBd := begin_fine (nI := nI - FA.read) (c := FA.c) (z := FA.z) (n := FA.n) (v := FA.v) (regs_in hAf) hAf.1.2.1 (left_wd hAf)
      have hbd : ∀ x ∈ inp.drop FA.read, 0 ≤ x ∧ x < 256 := fun x hx => hby x (List.mem_of_mem_drop hx)
      have hdl : (inp.drop FA.read).length = nI - FA.read := by rw [List.length_drop, hil]
      have hB : Mc.ends cd (inp.drop FA.read) second (FA.r 0) (FA.r 1) (FA.r 2) (FA.r 3) (FA.r 4) (FA.r 5) (FA.r 6) (FA.r 7) FA.c FA.z FA.n FA.v FA.pc (left FA.mem) = goA cd (inp.drop FA.read) second.toNat (Mc.begin (reg8 (FA.r 0) (FA.r 1) (FA.r 2) (FA.r 3) (FA.r 4) (FA.r 5) (FA.r 6) (FA.r 7)) FA.c FA.z FA.n FA.v FA.pc (left FA.mem)) := go_alone _ (fun _ _ => rfl) _ _ _ _ _
      have hBf := goA_fine (cd := cd) hdl hbd second.toNat _ hBd
      have hBs := goA_steps_le cd (inp.drop FA.read) second.toNat (Mc.begin (reg8 (FA.r 0) (FA.r 1) (FA.r 2) (FA.r 3) (FA.r 4) (FA.r 5) (FA.r 6) (FA.r 7)) FA.c FA.z FA.n FA.v FA.pc (left FA.mem))
      have hBs2 := (goA_le cd (inp.drop FA.read) second.toNat (Mc.begin (reg8 (FA.r 0) (FA.r 1) (FA.r 2) (FA.r 3) (FA.r 4) (FA.r 5) (FA.r 6) (FA.r 7)) FA.c FA.z FA.n FA.v FA.pc (left FA.mem))).2.2
      obtain ⟨hcut, _⟩ := ends_cut cd inp nI hil hby first.toNat second.toNat (Mc.begin (reg8 r0 r1 r2 r3 r4 r5 r6 r7) c z n v pc ms) FA (Mc.ends cd (inp.drop FA.read) second (FA.r 0) (FA.r 1) (FA.r 2) (FA.r 3) (FA.r 4) (FA.r 5) (FA.r 6) (FA.r 7) FA.c FA.z FA.n FA.v FA.pc (left FA.mem)) FC ⟨rfl, rfl, rfl, rfl, rfl⟩ hnz hfine hA h3 hC hB
      rw [← hB] at hBf hBs hBs2
      have hBs' : (Mc.ends cd (inp.drop FA.read) second (FA.r 0) (FA.r 1) (FA.r 2) (FA.r 3) (FA.r 4) (FA.r 5) (FA.r 6) (FA.r 7) FA.c FA.z FA.n FA.v FA.pc (left FA.mem)).steps ≤ 0 + (second.toNat : Int) := hBs
      have hBs2' : 0 ≤ (Mc.ends cd (inp.drop FA.read) second (FA.r 0) (FA.r 1) (FA.r 2) (FA.r 3) (FA.r 4) (FA.r 5) (FA.r 6) (FA.r 7) FA.c FA.z FA.n FA.v FA.pc (left FA.mem)).steps := hBs2
      have hrA : FA.read ≤ nI := hAf.2.2
      obtain ⟨ja, jn, jc, hsl⟩ : ∃ ja jn jc, sliced ia FA.read nI ic 1 = .slice ja jn jc := ⟨_, _, _, rfl⟩
      have hsR : ∀ w : World, (Instr.sliceAt 28 (.slice ia nI ic) (some (.int .i64 (FA.read : Int))) none none).run Try.prog w = .ok (.slice ja jn jc) w := fun w => by rw [← hsl]; exact run_from ia nI ic FA.read hrA w
      have CB : ∀ (w1 : World) (xa : Option Addr) (xn xc : Nat), Rd w1 1 (.slice xa xn xc) (top FA.mem MS) ((left FA.mem).map (Value.int .i64)) → Below w.heap.size w w1 → Calls Try.prog 15 #[.slice ca nC cc, stV (FA.r 0) (FA.r 1) (FA.r 2) (FA.r 3) (FA.r 4) (FA.r 5) (FA.r 6) (FA.r 7) FA.c FA.z FA.n FA.v FA.pc (.slice xa xn xc), .slice ja jn jc, .int .i64 second] w1 (RunR 0 (Mc.ends cd (inp.drop FA.read) second (FA.r 0) (FA.r 1) (FA.r 2) (FA.r 3) (FA.r 4) (FA.r 5) (FA.r 6) (FA.r 7) FA.c FA.z FA.n FA.v FA.pc (left FA.mem)) w1) := fun w1 xa xn xc hx hb => by
        have hi2 := (hi.below hb).from FA.read hAf.2.2
        rw [← List.map_drop] at hi2
        have := run_ok (.slice ca nC cc) (sliced ia FA.read nI ic 1) (.slice xa xn xc) nC (nI - FA.read) (top FA.mem MS) (FA.r 0) (FA.r 1) (FA.r 2) (FA.r 3) (FA.r 4) (FA.r 5) (FA.r 6) (FA.r 7) FA.pc second FA.c FA.z FA.n FA.v cd (inp.drop FA.read) (left FA.mem) w1 (hc.below hb) hi2 hx hbd
        rw [hsl] at this
        rw [wary_fine hAf hz.1 (by have := hz.2.1; omega) (by omega) (by omega)] at this
        exact this
      have hst1 : FA.steps = 0 + (first.toNat : Int) := hst h3
      generalize Mc.ends cd (inp.drop FA.read) second (FA.r 0) (FA.r 1) (FA.r 2) (FA.r 3) (FA.r 4) (FA.r 5) (FA.r 6) (FA.r 7) FA.c FA.z FA.n FA.v FA.pc (left FA.mem) = FB at *
      have hrB : FB.read ≤ nI - FA.read := hBf.2.2
      have hnI : nI ≤ 65536 := hz.2.1
      by_cases hsum : FA.out.length + FB.out.length ≤ 65536
      · have hFC2 := hcut hsum
        subst hFC2
        refine split_main ca nC cc ia ma ja nI ic mn mc FA.out.length FB.out.length (lift FA.out FA.read FA.steps FB).out.length jn jc r0 r1 r2 r3 r4 r5 r6 r7 pc first second c z n v FA FB (lift FA.out FA.read FA.steps FB) w (by simp [h3]) hrA hAf.2.1 hBf.2.1 hsR (decide_eq_false t1) (decide_eq_false t2) (decide_eq_false t3) (decide_eq_false t4) HW (decide_eq_false t5) (decide_eq_false (by omega))
          (fun w1 hb => (C1 w1 hb).mono fun e w' h => runR_ok h) (fun w1 xa xn xc hx hb => (CB w1 xa xn xc hx hb).mono fun e w' h => runR_own h) (fun w1 hb => (C3 w1 hb).mono fun e w' h => runR_ok h) (by show (FB.how == FB.how) = true; simp) (by show (FB.trap == FB.trap) = true; simp) ?_ ?_ (fun w1 m1 m2 k1 k2 => ?_) (fun w1 o1 o2 k1 k2 => ?_)
        · show IntKind.i64.wrap ((FA.read : Int) + (FB.read : Int)) = ((FA.read + FB.read : Nat) : Int)
          rw [IntKind.wrap_i64]; omega
        · show IntKind.i64.wrap (FA.steps + FB.steps) = FA.steps + FB.steps
          rw [IntKind.wrap_i64]; omega
        · exact sameSt_self FB (lift FA.out FA.read FA.steps FB) m1 m2 _ _ w1 (fun k _ => rfl) ⟨rfl, rfl, rfl, rfl⟩ rfl _ _ rfl k1 k2
        · rw [← List.map_append] at k1
          have := sameb_ok o1 o2 _ _ (FA.out ++ FB.out) (lift FA.out FA.read FA.steps FB).out w1 k1 k2
          rw [show decide (FA.out ++ FB.out = (lift FA.out FA.read FA.steps FB).out) = true from decide_eq_true rfl] at this
          exact this
      · exact split_much ca nC cc ia ma ja nI ic mn mc FA.out.length FB.out.length FC.out.length jn jc r0 r1 r2 r3 r4 r5 r6 r7 pc first second c z n v FA FB FC w (by simp [h3]) hrA hAf.2.1 hBf.2.1 hsR (decide_eq_false t1) (decide_eq_false t2) (decide_eq_false t3) (decide_eq_false t4) HW (decide_eq_false t5) (decide_eq_true (by omega))
          (fun w1 hb => (C1 w1 hb).mono fun e w' h => runR_ok h) (fun w1 xa xn xc hx hb => (CB w1 xa xn xc hx hb).mono fun e w' h => runR_own h) (fun w1 hb => (C3 w1 hb).mono fun e w' h => runR_ok h)
    · refine split_ended _ _ ma mn mc r0 r1 r2 r3 r4 r5 r6 r7 pc first second c z n v (Mc.ends cd inp first r0 r1 r2 r3 r4 r5 r6 r7 c z n v pc ms) w (by simpa using h3) (decide_eq_false t1) (decide_eq_false t2) (decide_eq_false t3) (decide_eq_false t4) HW (decide_eq_false t5) (fun w1 hb => (C1 w1 hb).mono ?_)
      intro e w' h
      obtain ⟨oa, oc, xa, xn, xc, q⟩ := runR_ok h
      exact ⟨oa, _, oc, xa, xn, xc, q⟩
  · refine split_wrong _ _ ma mn mc r0 r1 r2 r3 r4 r5 r6 r7 pc first second _ c z n v w h0 (decide_eq_false t1) (decide_eq_false t2) (decide_eq_false t3) (decide_eq_false t4) HW (decide_eq_false t5) (fun w1 hb => (CR first w1 hb).mono ?_)
    rintro e w' (⟨_, he, hb⟩ | ⟨h, _⟩)
    · exact ⟨he, hb⟩
    · exact absurd h h0
end Go.Proofs.Ytfjgnhmmakeaeaa
