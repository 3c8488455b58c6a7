/- Walk of law EmuLonger: the way on which time was short. -/
import Derived.Test.YtfjgnhmmakeaeaaE36
import Derived.Test.YtfjgnhmmakeaeaaRg
namespace Go.Proofs.Ytfjgnhmmakeaeaa
open Go.RowKit
set_option linter.unusedVariables false
set_option linter.unusedSimpArgs false
set_option maxRecDepth 100000
open Mc
theorem Rd.take {w : World} {a : Option Addr} {n c : Nat} {cs : List Value} (h : Rd w 1 (.slice a n c) n cs) (m : Nat) (hm : m ≤ n) : Rd w 1 (.slice a m c) m (cs.take m) := by
  obtain ⟨h1, h2, a', cap, hv, hc, hr⟩ := h
  injection hv with e1 e2 e3
  subst e1 e3
  refine ⟨by rw [List.length_take]; omega, by omega, a, c, rfl, by omega, fun hne => ?_⟩
  obtain ⟨b, off, ha, hj⟩ := hr (fun h => hne (by rw [h]; simp))
  refine ⟨b, off, ha, fun j u hu => hj j u ?_⟩
  rw [List.getElem?_take] at hu
  split at hu
  · exact hu
  · cases hu
theorem Rd.cap {w : World} {a : Option Addr} {n c : Nat} {cs : List Value} (h : Rd w 1 (.slice a n c) n cs) : n ≤ c := by
  obtain ⟨h1, h2, a', cap, hv, hc, hr⟩ := h
  injection hv with e1 e2 e3
  subst e3; exact hc
set_option maxHeartbeats 16000000 in
theorem longer_short (cv iv : Value) (ma : Option Addr) (mn mc N1 N2 : Nat) (r0 r1 r2 r3 r4 r5 r6 r7 pc fuel more : Int) (c z n v : Bool) (F G : St) (w : World) (hl : decide (more < fuel) = false) (hg : decide (more > 1000000) = false)
    (h1 : N1 ≤ N2) (h2 : decide (F.steps > G.steps) = false) (h3 : F.read ≤ G.read) (h4 : (F.how != 3) = false) (h5 : (F.steps == fuel) = true) (hm : N1 ≤ 65536)
    (CS : ∀ (w1 : World) (o1 o2 : Value), Rd w1 1 o1 N1 (F.out.map (Value.int .u8)) → Rd w1 1 o2 N1 ((G.out.map (Value.int .u8)).take N1) → Calls Try.prog 21 #[o1, o2] w1 fun e w' => e = .returned (.bool true) ∧ Below w1.heap.size w1 w')
    (CR : ∀ w1 : World, Below w.heap.size w w1 → Calls Try.prog 15 #[cv, stV r0 r1 r2 r3 r4 r5 r6 r7 c z n v pc (.slice ma mn mc), iv, .int .i64 fuel] w1 fun e w' => ∃ oa oc xa xn xc, e = .returned (.tuple #[ranV F (.slice oa N1 oc) (.slice xa xn xc), .int .i64 0]) ∧ Rd w' 1 (.slice oa N1 oc) N1 (F.out.map (Value.int .u8)) ∧ Rd w' 1 (.slice xa xn xc) (top F.mem MS) ((left F.mem).map (Value.int .i64)) ∧ Below w1.heap.size w1 w')
    (CR2 : ∀ w1 : World, Below w.heap.size w w1 → Calls Try.prog 15 #[cv, stV r0 r1 r2 r3 r4 r5 r6 r7 c z n v pc (.slice ma mn mc), iv, .int .i64 more] w1 fun e w' => ∃ oa oc xa xn xc, e = .returned (.tuple #[ranV G (.slice oa N2 oc) (.slice xa xn xc), .int .i64 0]) ∧ Rd w' 1 (.slice oa N2 oc) N2 (G.out.map (Value.int .u8)) ∧ Rd w' 1 (.slice xa xn xc) (top G.mem MS) ((left G.mem).map (Value.int .i64)) ∧ Below w1.heap.size w1 w') :
    Calls Try.prog 4 #[cv, stV r0 r1 r2 r3 r4 r5 r6 r7 c z n v pc (.slice ma mn mc), iv, .int .i64 fuel, .int .i64 more] w fun e w' => e = .returned (.bool true) ∧ Below w.heap.size w w' := by
  have HCR := Lib.hid CR; have HCR2 := Lib.hid CR2; have HCS := Lib.hid CS
  have h1b : ¬ N2 < N1 := (by omega)
  have h3b : ¬ G.read < F.read := (by omega)
  clear CR CR2 CS
  go_enter Try.func4, Try.ntmps4
  have hmi : (N1 : Int) ≤ 9223372036854775807 := (by omega)
  go_wp2_with (first | (go_at_call 20; refine (alive3 _).mono ?_; rintro e w1 ⟨rfl, hb1⟩; have HB1 := Lib.hid (Ext.trans (Ext.alloc (Below.refl w.heap.size w) _) hb1); have HS1 := Lib.hid ((Blk.new w 27 (stC r0 r1 r2 r3 r4 r5 r6 r7 c z n v pc (.slice ma mn mc))).keep hb1); clear hb1) | (refine wpList_load_row rfl 27 _ rfl w.heap.size rfl 27 (stC r0 r1 r2 r3 r4 r5 r6 r7 c z n v pc (.slice ma mn mc)) (0, 0) _ HS1.out Try.underlying27 rfl (by kernel_rfl) ?_) | (go_at_call 15; refine (HCR2.out _ (Ext.trans HB2.out HB23.out)).mono ?_; rintro e w4 ⟨ob, oc2, xb, xn2, xc2, rfl, ho4, hm4, hb4⟩; have HB4 := Lib.hid (Ext.trans (Ext.trans HB2.out HB23.out) hb4); have HO4 := Lib.hid ho4; have HM4 := Lib.hid hm4; have HA4 := Lib.hid (HA3.out.keep hb4); have HO24 := Lib.hid ((HO2.out.below HB23.out).below hb4); have HM24 := Lib.hid ((HM2.out.below HB23.out).below hb4); have hq4 : w2.heap.size < w4.heap.size := (Nat.lt_of_lt_of_le HA3.out.lt hb4.size); clear hb4 ho4 hm4) | (go_at_call 15; refine (HCR.out _ HB1.out).mono ?_; rintro e w2 ⟨oa, oc, xa, xn, xc, rfl, ho2, hm2, hb2⟩; have HB2 := Lib.hid (Ext.trans HB1.out hb2); have HO2 := Lib.hid ho2; have HM2 := Lib.hid hm2; have HS2 := Lib.hid (HS1.out.keep hb2); clear hb2 ho2 hm2) | (refine wpList_store_row rfl 30 _ _ rfl w2.heap.size (ranL F (.slice oa N1 oc) (.slice xa xn xc)).toArray rfl rfl 30 ranZc (Blk.new _ _ _) (by kernel_rfl) rfl (ranL_one _ _ _ _ _ _ _) ?_; generalize hw3 : (w2.alloc (Obj.cells ranZc 30)).setRow w2.heap.size (ranL F (.slice oa N1 oc) (.slice xa xn xc)).toArray = w3; have HB23 := Lib.hid ((by rw [← hw3]; exact Below.row (Ext.alloc (Below.refl _ _) _) (Nat.le_refl _) _ : Below w2.heap.size w2 w3)); have HA3 := Lib.hid ((by rw [← hw3]; exact (Blk.new w2 _ _).row _ : Blk w3 w2.heap.size 30 (ranL F (.slice oa N1 oc) (.slice xa xn xc)).toArray)); have HS3 := Lib.hid (HS2.out.keep HB23.out); clear hw3) | (refine wpList_load_row rfl 27 _ rfl w.heap.size rfl 27 (stC r0 r1 r2 r3 r4 r5 r6 r7 c z n v pc (.slice ma mn mc)) (0, 0) _ HS3.out Try.underlying27 rfl (by kernel_rfl) ?_) | (refine wpList_store_row rfl 30 _ _ rfl w4.heap.size (ranL G (.slice ob N2 oc2) (.slice xb xn2 xc2)).toArray rfl rfl 30 ranZc (Blk.new _ _ _) (by kernel_rfl) rfl (ranL_one _ _ _ _ _ _ _) ?_; generalize hw5 : (w4.alloc (Obj.cells ranZc 30)).setRow w4.heap.size (ranL G (.slice ob N2 oc2) (.slice xb xn2 xc2)).toArray = w5; have HB45 := Lib.hid ((by rw [← hw5]; exact Below.row (Ext.alloc (Below.refl _ _) _) (Nat.le_refl _) _ : Below w4.heap.size w4 w5)); have HA5 := Lib.hid (HA4.out.keep HB45.out); have HX5 := Lib.hid ((by rw [← hw5]; exact (Blk.new w4 _ _).row _ : Blk w5 w4.heap.size 30 (ranL G (.slice ob N2 oc2) (.slice xb xn2 xc2)).toArray)); have p0 : w5.cell? ⟨w2.heap.size, 0, none⟩ = some (.int .i64 F.how) := ran_cell HA5.out 0 rfl; have p2 : w5.cell? ⟨w2.heap.size, 2, none⟩ = some (.slice oa N1 oc) := ran_cell HA5.out 2 rfl; have p3 : w5.cell? ⟨w2.heap.size, 3, none⟩ = some (.int .i64 (F.read : Int)) := ran_cell HA5.out 3 rfl; have p4 : w5.cell? ⟨w2.heap.size, 4, none⟩ = some (.int .i64 F.steps) := ran_cell HA5.out 4 rfl; have q2 : w5.cell? ⟨w4.heap.size, 2, none⟩ = some (.slice ob N2 oc2) := ran_cell HX5.out 2 rfl; have q3 : w5.cell? ⟨w4.heap.size, 3, none⟩ = some (.int .i64 (G.read : Int)) := ran_cell HX5.out 3 rfl; have q4 : w5.cell? ⟨w4.heap.size, 4, none⟩ = some (.int .i64 G.steps) := ran_cell HX5.out 4 rfl; clear hw5) | (refine wpList_load_row rfl 30 _ rfl w2.heap.size rfl 30 (ranL F (.slice oa N1 oc) (.slice xa xn xc)).toArray (0, 0) _ HA5.out Try.underlying30 rfl (by kernel_rfl) ?_) | (refine wpList_load_row rfl 30 _ rfl w4.heap.size rfl 30 (ranL G (.slice ob N2 oc2) (.slice xb xn2 xc2)).toArray (0, 0) _ HX5.out Try.underlying30 rfl (by kernel_rfl) ?_))
  have hcap : N1 ≤ oc2 := Nat.le_trans h1 (Rd.cap HO4.out)
  have hcapi : (N1 : Int) ≤ (oc2 : Int) := (by omega)
  refine Rg.wp_region [] (by kernel_rfl) (by kernel_rfl) ?_
  repeat (first | (refine Rg.wpL_nil ?_) | (refine Rg.wpL_skip rfl ?_; simp only [Act.put, List.setIfInBounds_toArray, List.set_cons_zero, List.set_cons_succ]) | (refine Rg.wpL_q rfl rfl (fun K hK => ?_); go_big_quiet_op; refine hK _ ?_; clear hK K) | (refine Rg.wpL_w rfl rfl (fun K hK => ?_); go_wp2_with (first | fail | (go_at_call 21; refine (HCS.out _ _ _ ((HO24.out.below HB45.out).below (Below.drew (Below.refl _ _))) (Rd.take ((HO4.out.below HB45.out).below (Below.drew (Below.refl _ _))) N1 h1)).mono ?_; rintro e w6 ⟨rfl, hb6⟩; have HB6 := Lib.hid (Ext.trans (Below.drew (Ext.trans HB4.out HB45.out)) hb6); clear hb6))))
  go_wp2
  go_ret
  exact ⟨rfl, HB6.out⟩
end Go.Proofs.Ytfjgnhmmakeaeaa
