/- ProbeGoesOn: its ways, joined. -/
import Derived.Test.YtfjgnhmmakeaeaaE74
namespace Go.Proofs.Ytfjgnhmmakeaeaa
open Go.RowKit
set_option linter.unusedVariables false
set_option linter.unusedSimpArgs false
set_option maxRecDepth 100000
open Mc
set_option maxHeartbeats 8000000 in
/-- Something is wrong with what the run is given. -/
theorem goeson_wrong (cv iv pv : Value) (ma : Option Addr) (mn mc : Nat) (r0 r1 r2 r3 r4 r5 r6 r7 pc fuel E1 : Int) (c z n v : Bool) (w : World) (h0 : E1 ≠ 0)
    (CR : ∀ w1 : World, Below w.heap.size w w1 → Calls Try.prog 37 #[cv, stV r0 r1 r2 r3 r4 r5 r6 r7 c z n v pc (.slice ma mn mc), iv, .int .i64 fuel, pv] w1 fun e w' => e = .returned (.tuple #[ranZ, .int .i64 E1]) ∧ Below w1.heap.size w1 w') :
    Calls Try.prog 14 #[cv, stV r0 r1 r2 r3 r4 r5 r6 r7 c z n v pc (.slice ma mn mc), iv, .int .i64 fuel, pv] w fun e w' => e = .returned (.bool true) ∧ Below w.heap.size w w' := by
  have HCR := Lib.hid CR
  have e1 : (E1 != 0) = true := by simpa using h0
  clear CR h0
  go_enter Try.func14, Try.ntmps14
  go_wp2_with (first | (go_at_call 41; refine (alive16 _).mono ?_; rintro e w1 ⟨rfl, hb1⟩; have HB1 := Lib.hid (Ext.trans (Ext.alloc (Below.refl w.heap.size w) _) hb1); have HS1 := Lib.hid ((Blk.new w 27 (stC r0 r1 r2 r3 r4 r5 r6 r7 c z n v pc (.slice ma mn mc))).keep hb1); clear hb1) | (refine wpList_load_row rfl 27 _ rfl w.heap.size rfl 27 (stC r0 r1 r2 r3 r4 r5 r6 r7 c z n v pc (.slice ma mn mc)) (0, 0) _ HS1.out Try.underlying27 rfl (by kernel_rfl) ?_) | (go_at_call 37; refine (HCR.out _ HB1.out).mono ?_; rintro e w2 ⟨rfl, hb2⟩; have HB2 := Lib.hid (Ext.trans HB1.out hb2); clear hb2) | (refine wpList_store_row rfl 30 _ _ rfl w2.heap.size ranZc rfl rfl 30 ranZc (Blk.new _ _ _) (by kernel_rfl) rfl ranZ_one ?_))
  go_ret
  exact ⟨rfl, Below.row (Ext.alloc HB2.out _) HB2.out.size _⟩
set_option maxHeartbeats 8000000 in
/-- The run was not stopped. -/
theorem goeson_ended (cv iv pv : Value) (ma : Option Addr) (mn mc : Nat) (r0 r1 r2 r3 r4 r5 r6 r7 pc fuel : Int) (c z n v : Bool) (F : St) (w : World) (h4 : (F.how != 6) = true)
    (CR : ∀ w1 : World, Below w.heap.size w w1 → Calls Try.prog 37 #[cv, stV r0 r1 r2 r3 r4 r5 r6 r7 c z n v pc (.slice ma mn mc), iv, .int .i64 fuel, pv] w1 fun e w' => ∃ oa on oc xa xn xc, e = .returned (.tuple #[ranV F (.slice oa on oc) (.slice xa xn xc), .int .i64 0]) ∧ Below w1.heap.size w1 w') :
    Calls Try.prog 14 #[cv, stV r0 r1 r2 r3 r4 r5 r6 r7 c z n v pc (.slice ma mn mc), iv, .int .i64 fuel, pv] w fun e w' => e = .returned (.bool true) ∧ Below w.heap.size w w' := by
  have HCR := Lib.hid CR
  clear CR
  go_enter Try.func14, Try.ntmps14
  go_wp2_with (first | (go_at_call 41; refine (alive16 _).mono ?_; rintro e w1 ⟨rfl, hb1⟩; have HB1 := Lib.hid (Ext.trans (Ext.alloc (Below.refl w.heap.size w) _) hb1); have HS1 := Lib.hid ((Blk.new w 27 (stC r0 r1 r2 r3 r4 r5 r6 r7 c z n v pc (.slice ma mn mc))).keep hb1); clear hb1) | (refine wpList_load_row rfl 27 _ rfl w.heap.size rfl 27 (stC r0 r1 r2 r3 r4 r5 r6 r7 c z n v pc (.slice ma mn mc)) (0, 0) _ HS1.out Try.underlying27 rfl (by kernel_rfl) ?_) | (go_at_call 37; refine (HCR.out _ HB1.out).mono ?_; rintro e w2 ⟨oa, on, oc, xa, xn, xc, rfl, hb2⟩; have HB2 := Lib.hid (Ext.trans HB1.out hb2); clear hb2) | (refine wpList_store_row rfl 30 _ _ rfl w2.heap.size (ranL F (.slice oa on oc) (.slice xa xn xc)).toArray rfl rfl 30 ranZc (Blk.new _ _ _) (by kernel_rfl) rfl (ranL_one _ _ _ _ _ _ _) ?_; generalize hw3 : (w2.alloc (Obj.cells ranZc 30)).setRow w2.heap.size (ranL F (.slice oa on oc) (.slice xa xn xc)).toArray = w3; have HB23 := Lib.hid ((by rw [← hw3]; exact Below.row (Ext.alloc (Below.refl _ _) _) (Nat.le_refl _) _ : Below w2.heap.size w2 w3)); have HA3 := Lib.hid ((by rw [← hw3]; exact (Blk.new w2 _ _).row _ : Blk w3 w2.heap.size 30 (ranL F (.slice oa on oc) (.slice xa xn xc)).toArray)); clear hw3; have p0 : w3.cell? ⟨w2.heap.size, 0, none⟩ = some (.int .i64 F.how) := ran_cell HA3.out 0 rfl))
  go_ret
  exact ⟨rfl, Ext.trans HB2.out HB23.out⟩
theorem goeson_ok (cv iv mv pv : Value) (nC nI mn np : Nat) (r0 r1 r2 r3 r4 r5 r6 r7 pc fuel : Int) (c z n v : Bool) (cd inp ms ps : List Int) (w : World)
    (hc : Rd w 1 cv nC (cd.map (Value.int .i64))) (hi : Rd w 1 iv nI (inp.map (Value.int .u8))) (hm : Rd w 1 mv mn (ms.map (Value.int .i64))) (hp : Rd w 1 pv np (ps.map (Value.int .i64))) (hby : ∀ x ∈ inp, 0 ≤ x ∧ x < 256) :
    Calls Try.prog 14 #[cv, stV r0 r1 r2 r3 r4 r5 r6 r7 c z n v pc mv, iv, .int .i64 fuel, pv] w fun e w' => e = .returned (.bool true) ∧ Below w.heap.size w w' := by
  obtain ⟨hil, _, ia, ic, hiv, _, _⟩ := hi.ints
  obtain ⟨_, _, ma, mc, hmv, _, _⟩ := hm.ints
  obtain ⟨_, _, ca, cc, hcv, _, _⟩ := hc.ints
  obtain ⟨_, _, pa, pk, hpv, _, _⟩ := hp.ints
  have CU := fun (w1 : World) (hb : Below w.heap.size w w1) => until_ok cv iv mv pv nC nI mn np r0 r1 r2 r3 r4 r5 r6 r7 pc fuel c z n v cd inp ms ps w1 (hc.below hb) (hi.below hb) (hm.below hb) (hp.below hb) hby
  have CR := fun (w1 : World) (hb : Below w.heap.size w w1) => run_ok cv iv mv nC nI mn r0 r1 r2 r3 r4 r5 r6 r7 pc fuel c z n v cd inp ms w1 (hc.below hb) (hi.below hb) (hm.below hb) hby
  subst hmv; subst hiv; subst hcv; subst hpv
  have hw := wary_zero (nC := nC) (nI := nI) (r0 := r0) (r1 := r1) (r2 := r2) (r3 := r3) (r4 := r4) (r5 := r5) (r6 := r6) (r7 := r7) (pc := pc) (fuel := fuel) (ms := ms)
  generalize hwr : Mc.wr [r0, r1, r2, r3, r4, r5, r6, r7] pc ms = W at *
  by_cases h0 : Mc.wary nC nI W fuel = 0
  · have hz := hw h0
    rw [h0] at CU CR
    have hil' : inp.length = nI := by simpa using hil
    have hfine := begin_fine (nI := nI) (c := c) (z := z) (n := n) (v := v) hz.2.2.2.2.1 hz.2.2.2.2.2.1 hz.2.2.2.2.2.2
    have hnz := begin_nz ms hz.2.2.1 r0 r1 r2 r3 r4 r5 r6 r7 pc c z n v
    have hst := go_stop ps cd inp fuel.toNat (Mc.begin (reg8 r0 r1 r2 r3 r4 r5 r6 r7) c z n v pc ms) false rfl
    have hAf := goU_fine (ps := ps) (cd := cd) hil' hby fuel.toNat _ false hfine
    generalize hFA : (go (envU ps) cd inp fuel.toNat (Mc.begin (reg8 r0 r1 r2 r3 r4 r5 r6 r7) c z n v pc ms) false).1 = FA at *
    by_cases h6 : FA.how = 6
    · obtain ⟨m, t, hmn, e1, e2, e3, e4, e5⟩ := hst h6
      have hC : Mc.ends cd inp fuel r0 r1 r2 r3 r4 r5 r6 r7 c z n v pc ms = goA cd inp (m + (fuel - (m : Int)).toNat) (Mc.begin (reg8 r0 r1 r2 r3 r4 r5 r6 r7) c z n v pc ms) := by
        rw [show m + (fuel - (m : Int)).toNat = fuel.toNat by omega]; exact go_alone _ (fun _ _ => rfl) _ _ _ _ _
      have hsA : FA.steps = (m : Int) := by rw [e1]; show t.steps = _; rw [e4]; show (0 : Int) + m = m; omega
      generalize hFC : Mc.ends cd inp fuel r0 r1 r2 r3 r4 r5 r6 r7 c z n v pc ms = FC at *
      have hBd := begin_fine (nI := nI - FA.read) (c := FA.c) (z := FA.z) (n := FA.n) (v := FA.v) (regs_in hAf) hAf.1.2.1 (left_wd hAf)
      have hbd : ∀ x ∈ inp.drop FA.read, 0 ≤ x ∧ x < 256 := fun x hx => hby x (List.mem_of_mem_drop hx)
      have hdl : (inp.drop FA.read).length = nI - FA.read := by rw [List.length_drop, hil']
      have hB : Mc.ends cd (inp.drop FA.read) (fuel - (m : Int)) (FA.r 0) (FA.r 1) (FA.r 2) (FA.r 3) (FA.r 4) (FA.r 5) (FA.r 6) (FA.r 7) FA.c FA.z FA.n FA.v FA.pc (left FA.mem) = goA cd (inp.drop FA.read) (fuel - (m : Int)).toNat (Mc.begin (reg8 (FA.r 0) (FA.r 1) (FA.r 2) (FA.r 3) (FA.r 4) (FA.r 5) (FA.r 6) (FA.r 7)) FA.c FA.z FA.n FA.v FA.pc (left FA.mem)) := go_alone _ (fun _ _ => rfl) _ _ _ _ _
      have hBf := goA_fine (cd := cd) hdl hbd (fuel - (m : Int)).toNat _ hBd
      have hBs := goA_steps_le cd (inp.drop FA.read) (fuel - (m : Int)).toNat (Mc.begin (reg8 (FA.r 0) (FA.r 1) (FA.r 2) (FA.r 3) (FA.r 4) (FA.r 5) (FA.r 6) (FA.r 7)) FA.c FA.z FA.n FA.v FA.pc (left FA.mem))
      have hBs2 := (goA_le cd (inp.drop FA.read) (fuel - (m : Int)).toNat (Mc.begin (reg8 (FA.r 0) (FA.r 1) (FA.r 2) (FA.r 3) (FA.r 4) (FA.r 5) (FA.r 6) (FA.r 7)) FA.c FA.z FA.n FA.v FA.pc (left FA.mem))).2.2
      have e1' : ({ FA with how := 3 } : St) = { t with how := 3 } := by rw [e1]
      obtain ⟨hcut, _⟩ := ends_cut cd inp nI hil' hby m (fuel - (m : Int)).toNat (Mc.begin (reg8 r0 r1 r2 r3 r4 r5 r6 r7) c z n v pc ms) { FA with how := 3 } (Mc.ends cd (inp.drop FA.read) (fuel - (m : Int)) (FA.r 0) (FA.r 1) (FA.r 2) (FA.r 3) (FA.r 4) (FA.r 5) (FA.r 6) (FA.r 7) FA.c FA.z FA.n FA.v FA.pc (left FA.mem)) FC ⟨rfl, rfl, rfl, rfl, rfl⟩ hnz hfine (e1'.trans e2.symm) rfl hC hB
      rw [← hB] at hBf hBs hBs2
      have hBs' : (Mc.ends cd (inp.drop FA.read) (fuel - (m : Int)) (FA.r 0) (FA.r 1) (FA.r 2) (FA.r 3) (FA.r 4) (FA.r 5) (FA.r 6) (FA.r 7) FA.c FA.z FA.n FA.v FA.pc (left FA.mem)).steps ≤ 0 + ((fuel - (m : Int)).toNat : Int) := hBs
      have hBs2' : 0 ≤ (Mc.ends cd (inp.drop FA.read) (fuel - (m : Int)) (FA.r 0) (FA.r 1) (FA.r 2) (FA.r 3) (FA.r 4) (FA.r 5) (FA.r 6) (FA.r 7) FA.c FA.z FA.n FA.v FA.pc (left FA.mem)).steps := hBs2
      have hrA : FA.read ≤ nI := hAf.2.2
      have hfu : 0 ≤ fuel ∧ fuel ≤ 1000000 := hz.2.2.2.1
      have hpcc : ps.contains FA.pc = true := by rw [e1]; exact e5
      obtain ⟨ja, jn, jc, hsl⟩ : ∃ ja jn jc, sliced ia FA.read nI ic 1 = .slice ja jn jc := ⟨_, _, _, rfl⟩
      have hsR : ∀ w : World, (Instr.sliceAt 28 (.slice ia nI ic) (some (.int .i64 (FA.read : Int))) none none).run Try.prog w = .ok (.slice ja jn jc) w := fun w => by rw [← hsl]; exact run_from ia nI ic FA.read hrA w
      have CB : ∀ (w1 : World) (xa : Option Addr) (xn xc : Nat), Rd w1 1 (.slice xa xn xc) (top FA.mem MS) ((left FA.mem).map (Value.int .i64)) → Below w.heap.size w w1 → Calls Try.prog 15 #[.slice ca nC cc, stV (FA.r 0) (FA.r 1) (FA.r 2) (FA.r 3) (FA.r 4) (FA.r 5) (FA.r 6) (FA.r 7) FA.c FA.z FA.n FA.v FA.pc (.slice xa xn xc), .slice ja jn jc, .int .i64 (fuel - FA.steps)] w1 (RunR 0 (Mc.ends cd (inp.drop FA.read) (fuel - (m : Int)) (FA.r 0) (FA.r 1) (FA.r 2) (FA.r 3) (FA.r 4) (FA.r 5) (FA.r 6) (FA.r 7) FA.c FA.z FA.n FA.v FA.pc (left FA.mem)) w1) := fun w1 xa xn xc hx hb => by
        have hi2 := (hi.below hb).from FA.read hAf.2.2
        rw [← List.map_drop] at hi2
        have := run_ok (.slice ca nC cc) (sliced ia FA.read nI ic 1) (.slice xa xn xc) nC (nI - FA.read) (top FA.mem MS) (FA.r 0) (FA.r 1) (FA.r 2) (FA.r 3) (FA.r 4) (FA.r 5) (FA.r 6) (FA.r 7) FA.pc (fuel - (m : Int)) FA.c FA.z FA.n FA.v cd (inp.drop FA.read) (left FA.mem) w1 (hc.below hb) hi2 hx hbd
        rw [hsl] at this
        rw [wary_fine hAf hz.1 (by have := hz.2.1; omega) (by omega) (by omega)] at this
        rw [hsA]
        exact this
      generalize Mc.ends cd (inp.drop FA.read) (fuel - (m : Int)) (FA.r 0) (FA.r 1) (FA.r 2) (FA.r 3) (FA.r 4) (FA.r 5) (FA.r 6) (FA.r 7) FA.c FA.z FA.n FA.v FA.pc (left FA.mem) = FB at *
      have hnI : nI ≤ 65536 := hz.2.1
      by_cases hsum : FA.out.length + FB.out.length ≤ 65536
      · have hFC2 : FC = lift FA.out FA.read FA.steps FB := hcut hsum
        subst hFC2
        refine goeson_main ca pa nC cc np pk ia ma ja nI ic mn mc FA.out.length FB.out.length (lift FA.out FA.read FA.steps FB).out.length jn jc r0 r1 r2 r3 r4 r5 r6 r7 pc fuel c z n v FA FB (lift FA.out FA.read FA.steps FB) ps w h6 hrA (by omega) (by omega) hfu.2 hAf.2.1 hBf.2.1 hp hpcc hsR (decide_eq_false (by omega))
          (fun w1 hb => (CU w1 hb).mono fun e w' h => runR_ok h) (fun w1 xa xn xc hx hb => (CB w1 xa xn xc hx hb).mono fun e w' h => runR_own h) (fun w1 hb => (CR w1 hb).mono fun e w' h => runR_ok h) (by show (FB.how == FB.how) = true; simp) (by show (FB.trap == FB.trap) = true; simp) ?_ (fun w1 m1 m2 k1 k2 => ?_) (fun w1 o1 o2 k1 k2 => ?_)
        · show IntKind.i64.wrap (FA.steps + FB.steps) = FA.steps + FB.steps
          rw [IntKind.wrap_i64]; omega
        · exact sameSt_self FB (lift FA.out FA.read FA.steps FB) m1 m2 _ _ w1 (fun k _ => rfl) ⟨rfl, rfl, rfl, rfl⟩ rfl _ _ rfl k1 k2
        · rw [← List.map_append] at k1
          have := sameb_ok o1 o2 _ _ (FA.out ++ FB.out) (lift FA.out FA.read FA.steps FB).out w1 k1 k2
          rw [show decide (FA.out ++ FB.out = (lift FA.out FA.read FA.steps FB).out) = true from decide_eq_true rfl] at this
          exact this
      · exact goeson_much ca pa nC cc np pk ia ma ja nI ic mn mc FA.out.length FB.out.length FC.out.length jn jc r0 r1 r2 r3 r4 r5 r6 r7 pc fuel c z n v FA FB FC ps w h6 hrA (by omega) (by omega) hfu.2 hAf.2.1 hBf.2.1 hp hpcc hsR (decide_eq_true (by omega))
          (fun w1 hb => (CU w1 hb).mono fun e w' h => runR_ok h) (fun w1 xa xn xc hx hb => (CB w1 xa xn xc hx hb).mono fun e w' h => runR_own h) (fun w1 hb => (CR w1 hb).mono fun e w' h => runR_ok h)
    · refine goeson_ended _ _ _ ma mn mc r0 r1 r2 r3 r4 r5 r6 r7 pc fuel c z n v FA w (by simpa using h6) (fun w1 hb => (CU w1 hb).mono ?_)
      intro e w' h
      obtain ⟨oa, oc, xa, xn, xc, q1, q2, q3, q4⟩ := runR_ok h
      exact ⟨oa, _, oc, xa, xn, xc, q1, q4⟩
  · refine goeson_wrong _ _ _ ma mn mc r0 r1 r2 r3 r4 r5 r6 r7 pc fuel _ c z n v w h0 (fun w1 hb => (CU w1 hb).mono ?_)
    rintro e w' (⟨_, he, hb⟩ | ⟨h, _⟩)
    · exact ⟨he, hb⟩
    · exact absurd h h0
end Go.Proofs.Ytfjgnhmmakeaeaa
