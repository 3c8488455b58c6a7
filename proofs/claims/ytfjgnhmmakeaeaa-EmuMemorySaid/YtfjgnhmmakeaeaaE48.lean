/- Walk of law EmuMemory: its main ways; joined. -/
import Derived.Test.YtfjgnhmmakeaeaaE47
namespace Go.Proofs.Ytfjgnhmmakeaeaa
open Go.RowKit
set_option linter.unusedVariables false
set_option linter.unusedSimpArgs false
set_option maxRecDepth 100000
open Mc

theorem state_cell {w : World} {g : Nat} {cs : Array Value} (h : Blk w g 27 cs) (k : Nat) {v : Value} (hv : cs[k]? = some v) : w.cell? ⟨g, k, none⟩ = some v ∧ w.frozen? ⟨g, k, none⟩ = false := ⟨by rw [h.cell]; exact hv, h.frozen k⟩
set_option maxHeartbeats 16000000 in
theorem mem_same (ma : Option Addr) (mn mc : Nat) (r0 r1 r2 r3 r4 r5 r6 r7 pc at_ off x other K : Int) (c z n v : Bool) (F : St) (w : World) (H1 : decide (at_ < 0) = false) (H2 : decide (off < 0) = false) (H3 : decide (x < 0) = false) (H4 : decide (other < 0) = false) (H5 : decide (at_ > 65535) = false) (H6 : decide (off > 65535) = false) (H7 : decide (x > 65535) = false) (H8 : decide (other > 65535) = false) (HW : IntKind.i64.wrap (at_ + off) = at_ + off) (HK : (at_ + off).tmod 65536 = K) (hne : (other == K) = true) (hF3 : F.r 3 = x) (hxx : (x != x) = false)
    (CW : ∀ w1 : World, Below w.heap.size w w1 → Calls Try.prog 17 #[stV r0 r1 r2 r3 r4 r5 r6 r7 c z n v pc (.slice ma mn mc)] w1 fun e w' => e = .returned (.int .i64 0) ∧ Below w1.heap.size w1 w')
    (CRU : ∀ wA : World, Below w.heap.size w wA → Calls Try.prog 23 #[stV r0 at_ x r3 r4 r5 r6 r7 c z n v 0 (.slice ma mn mc), .slice (some ⟨wA.heap.size, 0, none⟩) 2 2] (wA.alloc (.cells #[.int .i64 4, .int .i64 1, .int .i64 2, .int .i64 off, .int .i64 3, .int .i64 3, .int .i64 1, .int .i64 off] 43)) fun e w' => ∃ oa oc xa xn xc, e = .returned (.tuple #[ranV F (.slice oa 0 oc) (.slice xa xn xc), .bool true]) ∧ Rd w' 1 (.slice xa xn xc) (top F.mem MS) ((left F.mem).map (Value.int .i64)) ∧ Below wA.heap.size wA w')
    (CX : ∀ (xa : Option Addr) (xn xc : Nat) (w1 : World), Rd w1 1 (.slice xa xn xc) (top F.mem MS) ((left F.mem).map (Value.int .i64)) → Calls Try.prog 24 #[.slice xa xn xc, .int .i64 K] w1 fun e w' => e = .returned (.int .i64 x) ∧ w1 = w')
     : Calls Try.prog 7 #[stV r0 r1 r2 r3 r4 r5 r6 r7 c z n v pc (.slice ma mn mc), .int .i64 at_, .int .i64 off, .int .i64 x, .int .i64 other] w fun e w' => e = .returned (.bool true) ∧ Below w.heap.size w w' := by
  have HCW := Lib.hid CW; have HCR := Lib.hid CRU; have HCX := Lib.hid CX
  clear CW CRU CX
  go_enter Try.func7, Try.ntmps7
  go_wp2_with (first | (go_at_call 20; refine (alive3 _).mono ?_; rintro e w1 ⟨rfl, hb1⟩; have HB1 := Lib.hid (Ext.trans (Ext.alloc (Below.refl w.heap.size w) _) hb1); have HS1 := Lib.hid ((Blk.new w 27 (stC r0 r1 r2 r3 r4 r5 r6 r7 c z n v pc (.slice ma mn mc))).keep hb1); clear hb1) | (refine wpList_load_row rfl 27 _ rfl w.heap.size rfl 27 (stC r0 r1 r2 r3 r4 r5 r6 r7 c z n v pc (.slice ma mn mc)) (0, 0) _ HS1.out Try.underlying27 rfl (by kernel_rfl) ?_) | (go_at_call 17; refine (HCW.out _ HB1.out).mono ?_; rintro e w2 ⟨rfl, hb2⟩; have HB2 := Lib.hid (Ext.trans HB1.out hb2); have HS2 := Lib.hid (HS1.out.keep hb2); obtain ⟨c12, f12⟩ := state_cell HS2.out 12 rfl; obtain ⟨c1, f1⟩ := state_cell HS2.out 1 rfl; obtain ⟨c2, f2⟩ := state_cell HS2.out 2 rfl; have HSP := Lib.hid ((((HS2.out.set_ 12 (.int .i64 0)).set_ 1 (.int .i64 at_)).set_ 2 (.int .i64 x) : Blk (((w2.setCell ⟨w.heap.size, 12, none⟩ (.int .i64 0)).setCell ⟨w.heap.size, 1, none⟩ (.int .i64 at_)).setCell ⟨w.heap.size, 2, none⟩ (.int .i64 x)) w.heap.size 27 (stC r0 at_ x r3 r4 r5 r6 r7 c z n v 0 (.slice ma mn mc)))); clear hb2) | (refine wpList_load_row rfl 27 _ rfl w.heap.size rfl 27 (stC r0 at_ x r3 r4 r5 r6 r7 c z n v 0 (.slice ma mn mc)) (0, 0) _ HSP.out Try.underlying27 rfl (by kernel_rfl) ?_; generalize hw3 : ((w2.setCell ⟨w.heap.size, 12, none⟩ (.int .i64 0)).setCell ⟨w.heap.size, 1, none⟩ (.int .i64 at_)).setCell ⟨w.heap.size, 2, none⟩ (.int .i64 x) = w3; have HS3 := Lib.hid ((by rw [← hw3]; exact HSP.out : Blk w3 w.heap.size 27 (stC r0 at_ x r3 r4 r5 r6 r7 c z n v 0 (.slice ma mn mc)))); have HB3 := Lib.hid ((by rw [← hw3]; exact Ext.setCell (Ext.setCell (Ext.setCell HB2.out (Nat.le_refl _) _) (Nat.le_refl _) _) (Nat.le_refl _) _ : Below w.heap.size w w3)); clear c12 f12 c1 f1 c2 f2 hw3 HSP HS2 HS1) | (go_at_call 23; refine (HCR.out _ HB3.out).mono ?_; rintro e w4 ⟨oa, oc, xa, xn, xc, rfl, hm4, hb4⟩; have HB4 := Lib.hid (Ext.trans HB3.out hb4); have HM4 := Lib.hid hm4; have HS4 := Lib.hid (HS3.out.keep hb4); clear hb4 hm4) | (refine wpList_store_row rfl 30 _ _ rfl w4.heap.size (ranL F (.slice oa 0 oc) (.slice xa xn xc)).toArray rfl rfl 30 ranZc (Blk.new _ _ _) (by kernel_rfl) rfl (ranL_one _ _ _ _ _ _ _) ?_; generalize hw5 : (w4.alloc (Obj.cells ranZc 30)).setRow w4.heap.size (ranL F (.slice oa 0 oc) (.slice xa xn xc)).toArray = w5; have HB45 := Lib.hid ((by rw [← hw5]; exact Below.row (Ext.alloc (Below.refl _ _) _) (Nat.le_refl _) _ : Below w4.heap.size w4 w5)); have HA5 := Lib.hid ((by rw [← hw5]; exact (Blk.new w4 _ _).row _ : Blk w5 w4.heap.size 30 (ranL F (.slice oa 0 oc) (.slice xa xn xc)).toArray)); have HM5 := Lib.hid (HM4.out.below HB45.out); have HS5 := Lib.hid (HS4.out.keep HB45.out); have HB5 := Lib.hid (Ext.trans HB4.out HB45.out); have p8 : w5.cell? ⟨w4.heap.size, 8, none⟩ = some (.int .i64 x) := (by rw [← hF3]; exact ran_cell HA5.out 8 rfl); have p18 : w5.cell? ⟨w4.heap.size, 18, none⟩ = some (.slice xa xn xc) := ran_cell HA5.out 18 rfl; clear hw5) | (go_at_call 24; refine (HCX.out _ _ _ _ HM5.out).mono ?_; rintro e w6 ⟨rfl, rfl⟩))
  clear HS4 HM4 HB4 HB45 HS3 HB3
  apply Ix.wp_region 20 (fun wi => Hid (Below w5.heap.size w5 wi)) (Ix.vk [(Ix.kis (.int .i64 other)), (Ix.kis _), (Ix.kis _), (Ix.kis (.int .i64 (at_ + off))), (Ix.kis (.int .i64 K)), (Ix.kis (.bool true)), (Ix.kis (.bool true)), (Ix.kis undef), (Ix.kis undef), (Ix.kis undef), (Ix.kis undef), (Ix.kis undef), (Ix.kis undef), (Ix.kis undef), (Ix.kis undef), (Ix.kis undef), (Ix.kis undef), (Ix.kis undef), (Ix.kis undef), (Ix.kis (.bool true))]) (fun _ => false) (by kernel_rfl) (by kernel_rfl) (by kernel_rfl) (fun _ _ h hb => h.out.trans (hb.mono h.out.size)) (Ix.vk_keeps _) (Ix.not_al _) (Below.refl _ _)
  case step =>
    refine Ix.steps_cons (n := 19) (i := 0) (j := 1) rfl rfl (Ix.stepI_ofN [] (by kernel_rfl) (fun wi HB => ?_)) ?_
    (· (refine Iv.askN_nil ?_; (try simp only [Act.put, List.setIfInBounds_toArray, List.set_cons_zero, List.set_cons_succ]); refine Ix.goI_yes rfl rfl ?_; intro K hK; (try simp only [Act.put, List.setIfInBounds_toArray, List.set_cons_zero, List.set_cons_succ] at hK); go_wp2_with (first | fail); exact hK _ _ (Below.refl _ _) rfl))
    refine Ix.steps_cons (n := 18) (i := 1) (j := 2) rfl rfl (Ix.stepI_ofN [] (by kernel_rfl) (fun wi HB => ?_)) ?_
    (· (refine Iv.askN_nil ?_; (try simp only [Act.put, List.setIfInBounds_toArray, List.set_cons_zero, List.set_cons_succ]); refine Ix.goI_yes rfl rfl ?_; intro K hK; (try simp only [Act.put, List.setIfInBounds_toArray, List.set_cons_zero, List.set_cons_succ] at hK); go_wp2_with (first | fail); exact hK _ _ (Below.refl _ _) rfl))
    refine Ix.steps_cons (n := 17) (i := 2) (j := 3) rfl rfl (Ix.stepI_ofN [] (by kernel_rfl) (fun wi HB => ?_)) ?_
    (· (refine Iv.askN_nil ?_; (try simp only [Act.put, List.setIfInBounds_toArray, List.set_cons_zero, List.set_cons_succ]); refine Ix.goI_yes rfl rfl ?_; intro K hK; (try simp only [Act.put, List.setIfInBounds_toArray, List.set_cons_zero, List.set_cons_succ] at hK); go_wp2_with (first | fail); exact hK _ _ (Below.refl _ _) rfl))
    refine Ix.steps_cons (n := 16) (i := 3) (j := 4) rfl rfl (Ix.stepI_ofN [(1, some 92), (2, some 93)] (by kernel_rfl) (fun wi HB => ?_)) ?_
    (· (refine Iv.askN_cons ?_; rintro _ rfl; refine Iv.askN_cons ?_; rintro _ rfl; refine Iv.askN_nil ?_; (try simp only [Act.put, List.setIfInBounds_toArray, List.set_cons_zero, List.set_cons_succ]); refine Ix.goI_yes rfl rfl ?_; intro K hK; (try simp only [Act.put, List.setIfInBounds_toArray, List.set_cons_zero, List.set_cons_succ] at hK); go_wp2_with (first | fail); exact hK _ _ (Below.refl _ _) rfl))
    refine Ix.steps_cons (n := 15) (i := 4) (j := 5) rfl rfl (Ix.stepI_ofN [(3, some 94)] (by kernel_rfl) (fun wi HB => ?_)) ?_
    (· (refine Iv.askN_cons ?_; rintro _ rfl; refine Iv.askN_nil ?_; (try simp only [Act.put, List.setIfInBounds_toArray, List.set_cons_zero, List.set_cons_succ]); refine Ix.goI_yes rfl rfl ?_; intro K hK; (try simp only [Act.put, List.setIfInBounds_toArray, List.set_cons_zero, List.set_cons_succ] at hK); go_wp2_with (first | fail); exact hK _ _ (Below.refl _ _) rfl))
    refine Ix.steps_cons (n := 14) (i := 5) (j := 6) rfl rfl (Ix.stepI_ofN [(0, some 91), (4, some 95)] (by kernel_rfl) (fun wi HB => ?_)) ?_
    (· (refine Iv.askN_cons ?_; rintro _ rfl; refine Iv.askN_cons ?_; rintro _ rfl; refine Iv.askN_nil ?_; (try simp only [Act.put, List.setIfInBounds_toArray, List.set_cons_zero, List.set_cons_succ]); refine Ix.goI_yes rfl rfl ?_; intro K hK; (try simp only [Act.put, List.setIfInBounds_toArray, List.set_cons_zero, List.set_cons_succ] at hK); go_wp2_with (first | fail); exact hK _ _ (Below.refl _ _) rfl))
    refine Ix.steps_cons (n := 13) (i := 6) (j := 7) rfl rfl (Ix.stepI_ofN [(5, some 96)] (by kernel_rfl) (fun wi HB => ?_)) ?_
    (· (refine Iv.askN_cons ?_; rintro _ rfl; refine Iv.askN_nil ?_; (try simp only [Act.put, List.setIfInBounds_toArray, List.set_cons_zero, List.set_cons_succ]); refine Ix.goI_yes rfl rfl ?_; intro K hK; (try simp only [Act.put, List.setIfInBounds_toArray, List.set_cons_zero, List.set_cons_succ] at hK); go_wp2_with (first | fail); exact hK _ _ (Below.refl _ _) rfl))
    refine Ix.steps_cons (n := 12) (i := 7) (j := 8) rfl rfl (Ix.stepI_ofN [(6, some 97)] (by kernel_rfl) (fun wi HB => ?_)) ?_
    (· (refine Iv.askN_cons ?_; rintro _ rfl; refine Iv.askN_nil ?_; (try simp only [Act.put, List.setIfInBounds_toArray, List.set_cons_zero, List.set_cons_succ]); exact Ix.goI_no rfl rfl rfl))
    refine Ix.steps_cons (n := 11) (i := 8) (j := 9) rfl rfl (Ix.stepI_ofN [(6, some 97)] (by kernel_rfl) (fun wi HB => ?_)) ?_
    (· (refine Iv.askN_cons ?_; rintro _ rfl; refine Iv.askN_nil ?_; (try simp only [Act.put, List.setIfInBounds_toArray, List.set_cons_zero, List.set_cons_succ]); exact Ix.goI_no rfl rfl rfl))
    refine Ix.steps_cons (n := 10) (i := 9) (j := 10) rfl rfl (Ix.stepI_ofN [(6, some 97), (8, some 99)] (by kernel_rfl) (fun wi HB => ?_)) ?_
    (· (refine Iv.askN_cons ?_; rintro _ rfl; refine Iv.askN_cons ?_; rintro _ rfl; refine Iv.askN_nil ?_; (try simp only [Act.put, List.setIfInBounds_toArray, List.set_cons_zero, List.set_cons_succ]); exact Ix.goI_no rfl rfl rfl))
    refine Ix.steps_cons (n := 9) (i := 10) (j := 11) rfl rfl (Ix.stepI_ofN [(6, some 97), (9, some 100)] (by kernel_rfl) (fun wi HB => ?_)) ?_
    (· (refine Iv.askN_cons ?_; rintro _ rfl; refine Iv.askN_cons ?_; rintro _ rfl; refine Iv.askN_nil ?_; (try simp only [Act.put, List.setIfInBounds_toArray, List.set_cons_zero, List.set_cons_succ]); exact Ix.goI_no rfl rfl rfl))
    refine Ix.steps_cons (n := 8) (i := 11) (j := 12) rfl rfl (Ix.stepI_ofN [(6, some 97)] (by kernel_rfl) (fun wi HB => ?_)) ?_
    (· (refine Iv.askN_cons ?_; rintro _ rfl; refine Iv.askN_nil ?_; (try simp only [Act.put, List.setIfInBounds_toArray, List.set_cons_zero, List.set_cons_succ]); exact Ix.goI_no rfl rfl rfl))
    refine Ix.steps_cons (n := 7) (i := 12) (j := 13) rfl rfl (Ix.stepI_ofN [(6, some 97), (7, some 98), (10, some 101), (11, some 102)] (by kernel_rfl) (fun wi HB => ?_)) ?_
    (· (refine Iv.askN_cons ?_; rintro _ rfl; refine Iv.askN_cons ?_; rintro _ rfl; refine Iv.askN_cons ?_; rintro _ rfl; refine Iv.askN_cons ?_; rintro _ rfl; refine Iv.askN_nil ?_; (try simp only [Act.put, List.setIfInBounds_toArray, List.set_cons_zero, List.set_cons_succ]); exact Ix.goI_no rfl rfl rfl))
    refine Ix.steps_cons (n := 6) (i := 13) (j := 14) rfl rfl (Ix.stepI_ofN [(6, some 97)] (by kernel_rfl) (fun wi HB => ?_)) ?_
    (· (refine Iv.askN_cons ?_; rintro _ rfl; refine Iv.askN_nil ?_; (try simp only [Act.put, List.setIfInBounds_toArray, List.set_cons_zero, List.set_cons_succ]); exact Ix.goI_no rfl rfl rfl))
    refine Ix.steps_cons (n := 5) (i := 14) (j := 15) rfl rfl (Ix.stepI_ofN [(6, some 97)] (by kernel_rfl) (fun wi HB => ?_)) ?_
    (· (refine Iv.askN_cons ?_; rintro _ rfl; refine Iv.askN_nil ?_; (try simp only [Act.put, List.setIfInBounds_toArray, List.set_cons_zero, List.set_cons_succ]); exact Ix.goI_no rfl rfl rfl))
    refine Ix.steps_cons (n := 4) (i := 15) (j := 16) rfl rfl (Ix.stepI_ofN [(6, some 97), (14, some 105)] (by kernel_rfl) (fun wi HB => ?_)) ?_
    (· (refine Iv.askN_cons ?_; rintro _ rfl; refine Iv.askN_cons ?_; rintro _ rfl; refine Iv.askN_nil ?_; (try simp only [Act.put, List.setIfInBounds_toArray, List.set_cons_zero, List.set_cons_succ]); exact Ix.goI_no rfl rfl rfl))
    refine Ix.steps_cons (n := 3) (i := 16) (j := 17) rfl rfl (Ix.stepI_ofN [(6, some 97)] (by kernel_rfl) (fun wi HB => ?_)) ?_
    (· (refine Iv.askN_cons ?_; rintro _ rfl; refine Iv.askN_nil ?_; (try simp only [Act.put, List.setIfInBounds_toArray, List.set_cons_zero, List.set_cons_succ]); exact Ix.goI_no rfl rfl rfl))
    refine Ix.steps_cons (n := 2) (i := 17) (j := 18) rfl rfl (Ix.stepI_ofN [(6, some 97), (13, some 104), (15, some 106), (16, some 107)] (by kernel_rfl) (fun wi HB => ?_)) ?_
    (· (refine Iv.askN_cons ?_; rintro _ rfl; refine Iv.askN_cons ?_; rintro _ rfl; refine Iv.askN_cons ?_; rintro _ rfl; refine Iv.askN_cons ?_; rintro _ rfl; refine Iv.askN_nil ?_; (try simp only [Act.put, List.setIfInBounds_toArray, List.set_cons_zero, List.set_cons_succ]); exact Ix.goI_no rfl rfl rfl))
    refine Ix.steps_cons (n := 1) (i := 18) (j := 19) rfl rfl (Ix.stepI_ofN [(6, some 97), (12, some 103), (17, some 108)] (by kernel_rfl) (fun wi HB => ?_)) ?_
    (· (refine Iv.askN_cons ?_; rintro _ rfl; refine Iv.askN_cons ?_; rintro _ rfl; refine Iv.askN_cons ?_; rintro _ rfl; refine Iv.askN_nil ?_; (try simp only [Act.put, List.setIfInBounds_toArray, List.set_cons_zero, List.set_cons_succ]); exact Ix.goI_no rfl rfl rfl))
    refine Ix.steps_cons (n := 0) (i := 19) (j := 20) rfl rfl (Ix.stepI_ofN [(6, some 97), (18, some 109)] (by kernel_rfl) (fun wi HB => ?_)) ?_
    (· (refine Iv.askN_cons ?_; rintro _ rfl; refine Iv.askN_cons ?_; rintro _ rfl; refine Iv.askN_nil ?_; (try simp only [Act.put, List.setIfInBounds_toArray, List.set_cons_zero, List.set_cons_succ]); refine Ix.goI_yes rfl rfl ?_; intro K hK; (try simp only [Act.put, List.setIfInBounds_toArray, List.set_cons_zero, List.set_cons_succ] at hK); go_wp2_with (first | fail); exact hK _ _ (Below.refl _ _) rfl))
    exact Ix.steps_nil
  intro vsf wf HF hdf
  refine Ix.allV_cons (n := 19) (j := 0) (k := 1) rfl rfl ?_; rintro _ _ rfl; refine Ix.allV_cons (n := 18) (j := 1) (k := 2) rfl rfl ?_; rintro _ _ rfl; refine Ix.allV_cons (n := 17) (j := 2) (k := 3) rfl rfl ?_; rintro _ _ rfl; refine Ix.allV_cons (n := 16) (j := 3) (k := 4) rfl rfl ?_; rintro _ _ rfl; refine Ix.allV_cons (n := 15) (j := 4) (k := 5) rfl rfl ?_; rintro _ _ rfl; refine Ix.allV_cons (n := 14) (j := 5) (k := 6) rfl rfl ?_; rintro _ _ rfl; refine Ix.allV_cons (n := 13) (j := 6) (k := 7) rfl rfl ?_; rintro _ _ rfl; refine Ix.allV_cons (n := 12) (j := 7) (k := 8) rfl rfl ?_; rintro _ _ rfl; refine Ix.allV_cons (n := 11) (j := 8) (k := 9) rfl rfl ?_; rintro _ _ rfl; refine Ix.allV_cons (n := 10) (j := 9) (k := 10) rfl rfl ?_; rintro _ _ rfl; refine Ix.allV_cons (n := 9) (j := 10) (k := 11) rfl rfl ?_; rintro _ _ rfl; refine Ix.allV_cons (n := 8) (j := 11) (k := 12) rfl rfl ?_; rintro _ _ rfl; refine Ix.allV_cons (n := 7) (j := 12) (k := 13) rfl rfl ?_; rintro _ _ rfl; refine Ix.allV_cons (n := 6) (j := 13) (k := 14) rfl rfl ?_; rintro _ _ rfl; refine Ix.allV_cons (n := 5) (j := 14) (k := 15) rfl rfl ?_; rintro _ _ rfl; refine Ix.allV_cons (n := 4) (j := 15) (k := 16) rfl rfl ?_; rintro _ _ rfl; refine Ix.allV_cons (n := 3) (j := 16) (k := 17) rfl rfl ?_; rintro _ _ rfl; refine Ix.allV_cons (n := 2) (j := 17) (k := 18) rfl rfl ?_; rintro _ _ rfl; refine Ix.allV_cons (n := 1) (j := 18) (k := 19) rfl rfl ?_; rintro _ _ rfl; refine Ix.allV_cons (n := 0) (j := 19) (k := 20) rfl rfl ?_; rintro _ _ rfl
  refine Ix.allV_nil ?_
  (try simp only [Act.put, List.setIfInBounds_toArray, List.set_cons_zero, List.set_cons_succ, List.drop_succ_cons, List.drop_zero])
  go_wp2_with (first | fail)
  refine Ix.only ?_
  go_wp2
  go_ret
  exact ⟨rfl, Ext.trans HB5.out HF.out⟩
set_option maxHeartbeats 16000000 in
theorem mem_other (ma : Option Addr) (mn mc : Nat) (r0 r1 r2 r3 r4 r5 r6 r7 pc at_ off x other K Y : Int) (c z n v : Bool) (F : St) (w : World) (H1 : decide (at_ < 0) = false) (H2 : decide (off < 0) = false) (H3 : decide (x < 0) = false) (H4 : decide (other < 0) = false) (H5 : decide (at_ > 65535) = false) (H6 : decide (off > 65535) = false) (H7 : decide (x > 65535) = false) (H8 : decide (other > 65535) = false) (HW : IntKind.i64.wrap (at_ + off) = at_ + off) (HK : (at_ + off).tmod 65536 = K) (hne : (other == K) = false) (hF3 : F.r 3 = x) (hxx : (x != x) = false) (hyy : (Y == Y) = true)
    (CW : ∀ w1 : World, Below w.heap.size w w1 → Calls Try.prog 17 #[stV r0 r1 r2 r3 r4 r5 r6 r7 c z n v pc (.slice ma mn mc)] w1 fun e w' => e = .returned (.int .i64 0) ∧ Below w1.heap.size w1 w')
    (CRU : ∀ wA : World, Below w.heap.size w wA → Calls Try.prog 23 #[stV r0 at_ x r3 r4 r5 r6 r7 c z n v 0 (.slice ma mn mc), .slice (some ⟨wA.heap.size, 0, none⟩) 2 2] (wA.alloc (.cells #[.int .i64 4, .int .i64 1, .int .i64 2, .int .i64 off, .int .i64 3, .int .i64 3, .int .i64 1, .int .i64 off] 43)) fun e w' => ∃ oa oc xa xn xc, e = .returned (.tuple #[ranV F (.slice oa 0 oc) (.slice xa xn xc), .bool true]) ∧ Rd w' 1 (.slice xa xn xc) (top F.mem MS) ((left F.mem).map (Value.int .i64)) ∧ Below wA.heap.size wA w')
    (CX : ∀ (xa : Option Addr) (xn xc : Nat) (w1 : World), Rd w1 1 (.slice xa xn xc) (top F.mem MS) ((left F.mem).map (Value.int .i64)) → Calls Try.prog 24 #[.slice xa xn xc, .int .i64 K] w1 fun e w' => e = .returned (.int .i64 x) ∧ w1 = w')
    (CY : ∀ (xa : Option Addr) (xn xc : Nat) (w1 : World), Rd w1 1 (.slice xa xn xc) (top F.mem MS) ((left F.mem).map (Value.int .i64)) → Calls Try.prog 24 #[.slice xa xn xc, .int .i64 other] w1 fun e w' => e = .returned (.int .i64 Y) ∧ w1 = w') (CZ : ∀ (w1 : World), Below w.heap.size w w1 → Calls Try.prog 24 #[.slice ma mn mc, .int .i64 other] w1 fun e w' => e = .returned (.int .i64 Y) ∧ w1 = w') : Calls Try.prog 7 #[stV r0 r1 r2 r3 r4 r5 r6 r7 c z n v pc (.slice ma mn mc), .int .i64 at_, .int .i64 off, .int .i64 x, .int .i64 other] w fun e w' => e = .returned (.bool true) ∧ Below w.heap.size w w' := by
  have HCW := Lib.hid CW; have HCR := Lib.hid CRU; have HCX := Lib.hid CX; have HCY := Lib.hid CY; have HCZ := Lib.hid CZ
  clear CW CRU CX CY CZ
  go_enter Try.func7, Try.ntmps7
  go_wp2_with (first | (go_at_call 20; refine (alive3 _).mono ?_; rintro e w1 ⟨rfl, hb1⟩; have HB1 := Lib.hid (Ext.trans (Ext.alloc (Below.refl w.heap.size w) _) hb1); have HS1 := Lib.hid ((Blk.new w 27 (stC r0 r1 r2 r3 r4 r5 r6 r7 c z n v pc (.slice ma mn mc))).keep hb1); clear hb1) | (refine wpList_load_row rfl 27 _ rfl w.heap.size rfl 27 (stC r0 r1 r2 r3 r4 r5 r6 r7 c z n v pc (.slice ma mn mc)) (0, 0) _ HS1.out Try.underlying27 rfl (by kernel_rfl) ?_) | (go_at_call 17; refine (HCW.out _ HB1.out).mono ?_; rintro e w2 ⟨rfl, hb2⟩; have HB2 := Lib.hid (Ext.trans HB1.out hb2); have HS2 := Lib.hid (HS1.out.keep hb2); obtain ⟨c12, f12⟩ := state_cell HS2.out 12 rfl; obtain ⟨c1, f1⟩ := state_cell HS2.out 1 rfl; obtain ⟨c2, f2⟩ := state_cell HS2.out 2 rfl; have HSP := Lib.hid ((((HS2.out.set_ 12 (.int .i64 0)).set_ 1 (.int .i64 at_)).set_ 2 (.int .i64 x) : Blk (((w2.setCell ⟨w.heap.size, 12, none⟩ (.int .i64 0)).setCell ⟨w.heap.size, 1, none⟩ (.int .i64 at_)).setCell ⟨w.heap.size, 2, none⟩ (.int .i64 x)) w.heap.size 27 (stC r0 at_ x r3 r4 r5 r6 r7 c z n v 0 (.slice ma mn mc)))); clear hb2) | (refine wpList_load_row rfl 27 _ rfl w.heap.size rfl 27 (stC r0 at_ x r3 r4 r5 r6 r7 c z n v 0 (.slice ma mn mc)) (0, 0) _ HSP.out Try.underlying27 rfl (by kernel_rfl) ?_; generalize hw3 : ((w2.setCell ⟨w.heap.size, 12, none⟩ (.int .i64 0)).setCell ⟨w.heap.size, 1, none⟩ (.int .i64 at_)).setCell ⟨w.heap.size, 2, none⟩ (.int .i64 x) = w3; have HS3 := Lib.hid ((by rw [← hw3]; exact HSP.out : Blk w3 w.heap.size 27 (stC r0 at_ x r3 r4 r5 r6 r7 c z n v 0 (.slice ma mn mc)))); have HB3 := Lib.hid ((by rw [← hw3]; exact Ext.setCell (Ext.setCell (Ext.setCell HB2.out (Nat.le_refl _) _) (Nat.le_refl _) _) (Nat.le_refl _) _ : Below w.heap.size w w3)); clear c12 f12 c1 f1 c2 f2 hw3 HSP HS2 HS1) | (go_at_call 23; refine (HCR.out _ HB3.out).mono ?_; rintro e w4 ⟨oa, oc, xa, xn, xc, rfl, hm4, hb4⟩; have HB4 := Lib.hid (Ext.trans HB3.out hb4); have HM4 := Lib.hid hm4; have HS4 := Lib.hid (HS3.out.keep hb4); clear hb4 hm4) | (refine wpList_store_row rfl 30 _ _ rfl w4.heap.size (ranL F (.slice oa 0 oc) (.slice xa xn xc)).toArray rfl rfl 30 ranZc (Blk.new _ _ _) (by kernel_rfl) rfl (ranL_one _ _ _ _ _ _ _) ?_; generalize hw5 : (w4.alloc (Obj.cells ranZc 30)).setRow w4.heap.size (ranL F (.slice oa 0 oc) (.slice xa xn xc)).toArray = w5; have HB45 := Lib.hid ((by rw [← hw5]; exact Below.row (Ext.alloc (Below.refl _ _) _) (Nat.le_refl _) _ : Below w4.heap.size w4 w5)); have HA5 := Lib.hid ((by rw [← hw5]; exact (Blk.new w4 _ _).row _ : Blk w5 w4.heap.size 30 (ranL F (.slice oa 0 oc) (.slice xa xn xc)).toArray)); have HM5 := Lib.hid (HM4.out.below HB45.out); have HS5 := Lib.hid (HS4.out.keep HB45.out); have HB5 := Lib.hid (Ext.trans HB4.out HB45.out); have p8 : w5.cell? ⟨w4.heap.size, 8, none⟩ = some (.int .i64 x) := (by rw [← hF3]; exact ran_cell HA5.out 8 rfl); have p18 : w5.cell? ⟨w4.heap.size, 18, none⟩ = some (.slice xa xn xc) := ran_cell HA5.out 18 rfl; clear hw5) | (go_at_call 24; refine (HCX.out _ _ _ _ HM5.out).mono ?_; rintro e w6 ⟨rfl, rfl⟩))
  clear HS4 HM4 HB4 HB45 HS3 HB3
  apply Ix.wp_region 20 (fun wi => Hid (Below w5.heap.size w5 wi)) (Ix.vk [(Ix.kis (.int .i64 other)), (Ix.kis _), (Ix.kis _), (Ix.kis (.int .i64 (at_ + off))), (Ix.kis (.int .i64 K)), (Ix.kis (.bool false)), (Ix.kis (.bool false)), (Ix.kis _), (Ix.kis _), (Ix.kis _), (Ix.kis (.slice xa xn xc)), (Ix.kis _), (Ix.kis (.int .i64 Y)), (Ix.kis _), (Ix.kis _), (Ix.kis (.slice ma mn mc)), (Ix.kis _), (Ix.kis (.int .i64 Y)), (Ix.kis (.bool true)), (Ix.kis (.bool true))]) (fun _ => false) (by kernel_rfl) (by kernel_rfl) (by kernel_rfl) (fun _ _ h hb => h.out.trans (hb.mono h.out.size)) (Ix.vk_keeps _) (Ix.not_al _) (Below.refl _ _)
  case step =>
    refine Ix.steps_cons (n := 19) (i := 0) (j := 1) rfl rfl (Ix.stepI_ofN [] (by kernel_rfl) (fun wi HB => ?_)) ?_
    (· (refine Iv.askN_nil ?_; (try simp only [Act.put, List.setIfInBounds_toArray, List.set_cons_zero, List.set_cons_succ]); refine Ix.goI_yes rfl rfl ?_; intro K hK; (try simp only [Act.put, List.setIfInBounds_toArray, List.set_cons_zero, List.set_cons_succ] at hK); go_wp2_with (first | fail); exact hK _ _ (Below.refl _ _) rfl))
    refine Ix.steps_cons (n := 18) (i := 1) (j := 2) rfl rfl (Ix.stepI_ofN [] (by kernel_rfl) (fun wi HB => ?_)) ?_
    (· (refine Iv.askN_nil ?_; (try simp only [Act.put, List.setIfInBounds_toArray, List.set_cons_zero, List.set_cons_succ]); refine Ix.goI_yes rfl rfl ?_; intro K hK; (try simp only [Act.put, List.setIfInBounds_toArray, List.set_cons_zero, List.set_cons_succ] at hK); go_wp2_with (first | fail); exact hK _ _ (Below.refl _ _) rfl))
    refine Ix.steps_cons (n := 17) (i := 2) (j := 3) rfl rfl (Ix.stepI_ofN [] (by kernel_rfl) (fun wi HB => ?_)) ?_
    (· (refine Iv.askN_nil ?_; (try simp only [Act.put, List.setIfInBounds_toArray, List.set_cons_zero, List.set_cons_succ]); refine Ix.goI_yes rfl rfl ?_; intro K hK; (try simp only [Act.put, List.setIfInBounds_toArray, List.set_cons_zero, List.set_cons_succ] at hK); go_wp2_with (first | fail); exact hK _ _ (Below.refl _ _) rfl))
    refine Ix.steps_cons (n := 16) (i := 3) (j := 4) rfl rfl (Ix.stepI_ofN [(1, some 92), (2, some 93)] (by kernel_rfl) (fun wi HB => ?_)) ?_
    (· (refine Iv.askN_cons ?_; rintro _ rfl; refine Iv.askN_cons ?_; rintro _ rfl; refine Iv.askN_nil ?_; (try simp only [Act.put, List.setIfInBounds_toArray, List.set_cons_zero, List.set_cons_succ]); refine Ix.goI_yes rfl rfl ?_; intro K hK; (try simp only [Act.put, List.setIfInBounds_toArray, List.set_cons_zero, List.set_cons_succ] at hK); go_wp2_with (first | fail); exact hK _ _ (Below.refl _ _) rfl))
    refine Ix.steps_cons (n := 15) (i := 4) (j := 5) rfl rfl (Ix.stepI_ofN [(3, some 94)] (by kernel_rfl) (fun wi HB => ?_)) ?_
    (· (refine Iv.askN_cons ?_; rintro _ rfl; refine Iv.askN_nil ?_; (try simp only [Act.put, List.setIfInBounds_toArray, List.set_cons_zero, List.set_cons_succ]); refine Ix.goI_yes rfl rfl ?_; intro K hK; (try simp only [Act.put, List.setIfInBounds_toArray, List.set_cons_zero, List.set_cons_succ] at hK); go_wp2_with (first | fail); exact hK _ _ (Below.refl _ _) rfl))
    refine Ix.steps_cons (n := 14) (i := 5) (j := 6) rfl rfl (Ix.stepI_ofN [(0, some 91), (4, some 95)] (by kernel_rfl) (fun wi HB => ?_)) ?_
    (· (refine Iv.askN_cons ?_; rintro _ rfl; refine Iv.askN_cons ?_; rintro _ rfl; refine Iv.askN_nil ?_; (try simp only [Act.put, List.setIfInBounds_toArray, List.set_cons_zero, List.set_cons_succ]); refine Ix.goI_yes rfl rfl ?_; intro K hK; (try simp only [Act.put, List.setIfInBounds_toArray, List.set_cons_zero, List.set_cons_succ] at hK); go_wp2_with (first | fail); exact hK _ _ (Below.refl _ _) rfl))
    refine Ix.steps_cons (n := 13) (i := 6) (j := 7) rfl rfl (Ix.stepI_ofN [(5, some 96)] (by kernel_rfl) (fun wi HB => ?_)) ?_
    (· (refine Iv.askN_cons ?_; rintro _ rfl; refine Iv.askN_nil ?_; (try simp only [Act.put, List.setIfInBounds_toArray, List.set_cons_zero, List.set_cons_succ]); refine Ix.goI_yes rfl rfl ?_; intro K hK; (try simp only [Act.put, List.setIfInBounds_toArray, List.set_cons_zero, List.set_cons_succ] at hK); go_wp2_with (first | fail); exact hK _ _ (Below.refl _ _) rfl))
    refine Ix.steps_cons (n := 12) (i := 7) (j := 8) rfl rfl (Ix.stepI_ofN [(6, some 97)] (by kernel_rfl) (fun wi HB => ?_)) ?_
    (· (refine Iv.askN_cons ?_; rintro _ rfl; refine Iv.askN_nil ?_; (try simp only [Act.put, List.setIfInBounds_toArray, List.set_cons_zero, List.set_cons_succ]); refine Ix.goI_yes rfl rfl ?_; intro K hK; (try simp only [Act.put, List.setIfInBounds_toArray, List.set_cons_zero, List.set_cons_succ] at hK); go_wp2_with (first | fail); exact hK _ _ (Below.refl _ _) rfl))
    refine Ix.steps_cons (n := 11) (i := 8) (j := 9) rfl rfl (Ix.stepI_ofN [(6, some 97)] (by kernel_rfl) (fun wi HB => ?_)) ?_
    (· (refine Iv.askN_cons ?_; rintro _ rfl; refine Iv.askN_nil ?_; (try simp only [Act.put, List.setIfInBounds_toArray, List.set_cons_zero, List.set_cons_succ]); refine Ix.goI_yes rfl rfl ?_; intro K hK; (try simp only [Act.put, List.setIfInBounds_toArray, List.set_cons_zero, List.set_cons_succ] at hK); go_wp2_with (first | fail); exact hK _ _ (Below.refl _ _) rfl))
    refine Ix.steps_cons (n := 10) (i := 9) (j := 10) rfl rfl (Ix.stepI_ofN [(6, some 97), (8, some 99)] (by kernel_rfl) (fun wi HB => ?_)) ?_
    (· (refine Iv.askN_cons ?_; rintro _ rfl; refine Iv.askN_cons ?_; rintro _ rfl; refine Iv.askN_nil ?_; (try simp only [Act.put, List.setIfInBounds_toArray, List.set_cons_zero, List.set_cons_succ]); refine Ix.goI_yes rfl rfl ?_; intro K hK; (try simp only [Act.put, List.setIfInBounds_toArray, List.set_cons_zero, List.set_cons_succ] at hK); go_wp2_with (first | fail); exact hK _ _ (Below.refl _ _) rfl))
    refine Ix.steps_cons (n := 9) (i := 10) (j := 11) rfl rfl (Ix.stepI_ofN [(6, some 97), (9, some 100)] (by kernel_rfl) (fun wi HB => ?_)) ?_
    (· (refine Iv.askN_cons ?_; rintro _ rfl; refine Iv.askN_cons ?_; rintro _ rfl; refine Iv.askN_nil ?_; have k10 : wi.cell? ⟨w4.heap.size, 18, none⟩ = some (.slice xa xn xc) := ran_cell (HA5.out.keep HB.out) 18 rfl; (try simp only [Act.put, List.setIfInBounds_toArray, List.set_cons_zero, List.set_cons_succ]); refine Ix.goI_yes rfl rfl ?_; intro K hK; (try simp only [Act.put, List.setIfInBounds_toArray, List.set_cons_zero, List.set_cons_succ] at hK); go_wp2_with (first | fail); exact hK _ _ (Below.refl _ _) rfl))
    refine Ix.steps_cons (n := 8) (i := 11) (j := 12) rfl rfl (Ix.stepI_ofN [(6, some 97)] (by kernel_rfl) (fun wi HB => ?_)) ?_
    (· (refine Iv.askN_cons ?_; rintro _ rfl; refine Iv.askN_nil ?_; (try simp only [Act.put, List.setIfInBounds_toArray, List.set_cons_zero, List.set_cons_succ]); refine Ix.goI_yes rfl rfl ?_; intro K hK; (try simp only [Act.put, List.setIfInBounds_toArray, List.set_cons_zero, List.set_cons_succ] at hK); go_wp2_with (first | fail); exact hK _ _ (Below.refl _ _) rfl))
    refine Ix.steps_cons (n := 7) (i := 12) (j := 13) rfl rfl (Ix.stepI_ofN [(6, some 97), (7, some 98), (10, some 101), (11, some 102)] (by kernel_rfl) (fun wi HB => ?_)) ?_
    (· (refine Iv.askN_cons ?_; rintro _ rfl; refine Iv.askN_cons ?_; rintro _ rfl; refine Iv.askN_cons ?_; rintro _ rfl; refine Iv.askN_cons ?_; rintro _ rfl; refine Iv.askN_nil ?_; (try simp only [Act.put, List.setIfInBounds_toArray, List.set_cons_zero, List.set_cons_succ]); refine Ix.goI_yes rfl rfl ?_; intro K hK; (try simp only [Act.put, List.setIfInBounds_toArray, List.set_cons_zero, List.set_cons_succ] at hK); go_wp2_with (first | (go_at_call 24; refine (HCY.out _ _ _ _ (HM5.out.below HB.out)).mono ?_; rintro e wa ⟨rfl, rfl⟩; have hba := Below.refl wi.heap.size wi)); exact hK _ _ hba rfl))
    refine Ix.steps_cons (n := 6) (i := 13) (j := 14) rfl rfl (Ix.stepI_ofN [(6, some 97)] (by kernel_rfl) (fun wi HB => ?_)) ?_
    (· (refine Iv.askN_cons ?_; rintro _ rfl; refine Iv.askN_nil ?_; (try simp only [Act.put, List.setIfInBounds_toArray, List.set_cons_zero, List.set_cons_succ]); refine Ix.goI_yes rfl rfl ?_; intro K hK; (try simp only [Act.put, List.setIfInBounds_toArray, List.set_cons_zero, List.set_cons_succ] at hK); go_wp2_with (first | fail); exact hK _ _ (Below.refl _ _) rfl))
    refine Ix.steps_cons (n := 5) (i := 14) (j := 15) rfl rfl (Ix.stepI_ofN [(6, some 97)] (by kernel_rfl) (fun wi HB => ?_)) ?_
    (· (refine Iv.askN_cons ?_; rintro _ rfl; refine Iv.askN_nil ?_; (try simp only [Act.put, List.setIfInBounds_toArray, List.set_cons_zero, List.set_cons_succ]); refine Ix.goI_yes rfl rfl ?_; intro K hK; (try simp only [Act.put, List.setIfInBounds_toArray, List.set_cons_zero, List.set_cons_succ] at hK); go_wp2_with (first | fail); exact hK _ _ (Below.refl _ _) rfl))
    refine Ix.steps_cons (n := 4) (i := 15) (j := 16) rfl rfl (Ix.stepI_ofN [(6, some 97), (14, some 105)] (by kernel_rfl) (fun wi HB => ?_)) ?_
    (· (refine Iv.askN_cons ?_; rintro _ rfl; refine Iv.askN_cons ?_; rintro _ rfl; refine Iv.askN_nil ?_; have k15 : wi.cell? ⟨w.heap.size, 13, none⟩ = some (.slice ma mn mc) := (state_cell (HS5.out.keep HB.out) 13 rfl).1; (try simp only [Act.put, List.setIfInBounds_toArray, List.set_cons_zero, List.set_cons_succ]); refine Ix.goI_yes rfl rfl ?_; intro K hK; (try simp only [Act.put, List.setIfInBounds_toArray, List.set_cons_zero, List.set_cons_succ] at hK); go_wp2_with (first | fail); exact hK _ _ (Below.refl _ _) rfl))
    refine Ix.steps_cons (n := 3) (i := 16) (j := 17) rfl rfl (Ix.stepI_ofN [(6, some 97)] (by kernel_rfl) (fun wi HB => ?_)) ?_
    (· (refine Iv.askN_cons ?_; rintro _ rfl; refine Iv.askN_nil ?_; (try simp only [Act.put, List.setIfInBounds_toArray, List.set_cons_zero, List.set_cons_succ]); refine Ix.goI_yes rfl rfl ?_; intro K hK; (try simp only [Act.put, List.setIfInBounds_toArray, List.set_cons_zero, List.set_cons_succ] at hK); go_wp2_with (first | fail); exact hK _ _ (Below.refl _ _) rfl))
    refine Ix.steps_cons (n := 2) (i := 17) (j := 18) rfl rfl (Ix.stepI_ofN [(6, some 97), (13, some 104), (15, some 106), (16, some 107)] (by kernel_rfl) (fun wi HB => ?_)) ?_
    (· (refine Iv.askN_cons ?_; rintro _ rfl; refine Iv.askN_cons ?_; rintro _ rfl; refine Iv.askN_cons ?_; rintro _ rfl; refine Iv.askN_cons ?_; rintro _ rfl; refine Iv.askN_nil ?_; (try simp only [Act.put, List.setIfInBounds_toArray, List.set_cons_zero, List.set_cons_succ]); refine Ix.goI_yes rfl rfl ?_; intro K hK; (try simp only [Act.put, List.setIfInBounds_toArray, List.set_cons_zero, List.set_cons_succ] at hK); go_wp2_with (first | (go_at_call 24; refine (HCZ.out _ (Ext.trans HB5.out HB.out)).mono ?_; rintro e wa ⟨rfl, rfl⟩; have hba := Below.refl wi.heap.size wi)); exact hK _ _ hba rfl))
    refine Ix.steps_cons (n := 1) (i := 18) (j := 19) rfl rfl (Ix.stepI_ofN [(6, some 97), (12, some 103), (17, some 108)] (by kernel_rfl) (fun wi HB => ?_)) ?_
    (· (refine Iv.askN_cons ?_; rintro _ rfl; refine Iv.askN_cons ?_; rintro _ rfl; refine Iv.askN_cons ?_; rintro _ rfl; refine Iv.askN_nil ?_; (try simp only [Act.put, List.setIfInBounds_toArray, List.set_cons_zero, List.set_cons_succ]); refine Ix.goI_yes rfl rfl ?_; intro K hK; (try simp only [Act.put, List.setIfInBounds_toArray, List.set_cons_zero, List.set_cons_succ] at hK); go_wp2_with (first | fail); exact hK _ _ (Below.refl _ _) rfl))
    refine Ix.steps_cons (n := 0) (i := 19) (j := 20) rfl rfl (Ix.stepI_ofN [(6, some 97), (18, some 109)] (by kernel_rfl) (fun wi HB => ?_)) ?_
    (· (refine Iv.askN_cons ?_; rintro _ rfl; refine Iv.askN_cons ?_; rintro _ rfl; refine Iv.askN_nil ?_; (try simp only [Act.put, List.setIfInBounds_toArray, List.set_cons_zero, List.set_cons_succ]); refine Ix.goI_yes rfl rfl ?_; intro K hK; (try simp only [Act.put, List.setIfInBounds_toArray, List.set_cons_zero, List.set_cons_succ] at hK); go_wp2_with (first | fail); exact hK _ _ (Below.refl _ _) rfl))
    exact Ix.steps_nil
  intro vsf wf HF hdf
  refine Ix.allV_cons (n := 19) (j := 0) (k := 1) rfl rfl ?_; rintro _ _ rfl; refine Ix.allV_cons (n := 18) (j := 1) (k := 2) rfl rfl ?_; rintro _ _ rfl; refine Ix.allV_cons (n := 17) (j := 2) (k := 3) rfl rfl ?_; rintro _ _ rfl; refine Ix.allV_cons (n := 16) (j := 3) (k := 4) rfl rfl ?_; rintro _ _ rfl; refine Ix.allV_cons (n := 15) (j := 4) (k := 5) rfl rfl ?_; rintro _ _ rfl; refine Ix.allV_cons (n := 14) (j := 5) (k := 6) rfl rfl ?_; rintro _ _ rfl; refine Ix.allV_cons (n := 13) (j := 6) (k := 7) rfl rfl ?_; rintro _ _ rfl; refine Ix.allV_cons (n := 12) (j := 7) (k := 8) rfl rfl ?_; rintro _ _ rfl; refine Ix.allV_cons (n := 11) (j := 8) (k := 9) rfl rfl ?_; rintro _ _ rfl; refine Ix.allV_cons (n := 10) (j := 9) (k := 10) rfl rfl ?_; rintro _ _ rfl; refine Ix.allV_cons (n := 9) (j := 10) (k := 11) rfl rfl ?_; rintro _ _ rfl; refine Ix.allV_cons (n := 8) (j := 11) (k := 12) rfl rfl ?_; rintro _ _ rfl; refine Ix.allV_cons (n := 7) (j := 12) (k := 13) rfl rfl ?_; rintro _ _ rfl; refine Ix.allV_cons (n := 6) (j := 13) (k := 14) rfl rfl ?_; rintro _ _ rfl; refine Ix.allV_cons (n := 5) (j := 14) (k := 15) rfl rfl ?_; rintro _ _ rfl; refine Ix.allV_cons (n := 4) (j := 15) (k := 16) rfl rfl ?_; rintro _ _ rfl; refine Ix.allV_cons (n := 3) (j := 16) (k := 17) rfl rfl ?_; rintro _ _ rfl; refine Ix.allV_cons (n := 2) (j := 17) (k := 18) rfl rfl ?_; rintro _ _ rfl; refine Ix.allV_cons (n := 1) (j := 18) (k := 19) rfl rfl ?_; rintro _ _ rfl; refine Ix.allV_cons (n := 0) (j := 19) (k := 20) rfl rfl ?_; rintro _ _ rfl
  refine Ix.allV_nil ?_
  (try simp only [Act.put, List.setIfInBounds_toArray, List.set_cons_zero, List.set_cons_succ, List.drop_succ_cons, List.drop_zero])
  go_wp2_with (first | fail)
  refine Ix.only ?_
  go_wp2
  go_ret
  exact ⟨rfl, Ext.trans HB5.out HF.out⟩
theorem memory_ok (mv : Value) (mn : Nat) (r0 r1 r2 r3 r4 r5 r6 r7 pc at_ off x other : Int) (c z n v : Bool) (ms : List Int) (w : World) (hm : Rd w 1 mv mn (ms.map (Value.int .i64))) :
    Calls Try.prog 7 #[stV r0 r1 r2 r3 r4 r5 r6 r7 c z n v pc mv, .int .i64 at_, .int .i64 off, .int .i64 x, .int .i64 other] w fun e w' => e = .returned (.bool true) ∧ Below w.heap.size w w' := by
  obtain ⟨hml, _, ma, mc, hmv, _, _⟩ := hm.ints
  subst hmv
  have CW := fun (w1 : World) (hb : Below w.heap.size w w1) => wrong_ok r0 r1 r2 r3 r4 r5 r6 r7 pc c z n v (.slice ma mn mc) mn ms w1 (hm.below hb)
  by_cases hT : Mc.wr [r0, r1, r2, r3, r4, r5, r6, r7] pc ms ≠ 0 ∨ at_ < 0 ∨ off < 0 ∨ x < 0 ∨ other < 0 ∨ at_ > 65535 ∨ off > 65535 ∨ x > 65535 ∨ other > 65535
  · generalize Mc.wr [r0, r1, r2, r3, r4, r5, r6, r7] pc ms = E1 at *
    refine mem_none ma mn mc r0 r1 r2 r3 r4 r5 r6 r7 pc at_ off x other E1 c z n v _ _ _ _ _ _ _ _ _ w rfl rfl rfl rfl rfl rfl rfl rfl rfl CW ?_
    simp only [Bool.or_eq_true, decide_eq_true_eq, bne_iff_ne]
    rcases hT with h | h | h | h | h | h | h | h | h <;> simp [h]
  have h0 : Mc.wr [r0, r1, r2, r3, r4, r5, r6, r7] pc ms = 0 := by
    rcases Classical.em (Mc.wr [r0, r1, r2, r3, r4, r5, r6, r7] pc ms = 0) with h | h
    · exact h
    · exact absurd (.inl h) hT
  have t1 : ¬ at_ < 0 := fun h => hT (.inr (.inl h))
  have t2 : ¬ off < 0 := fun h => hT (.inr (.inr (.inl h)))
  have t3 : ¬ x < 0 := fun h => hT (.inr (.inr (.inr (.inl h))))
  have t4 : ¬ other < 0 := fun h => hT (.inr (.inr (.inr (.inr (.inl h)))))
  have t5 : ¬ at_ > 65535 := fun h => hT (.inr (.inr (.inr (.inr (.inr (.inl h))))))
  have t6 : ¬ off > 65535 := fun h => hT (.inr (.inr (.inr (.inr (.inr (.inr (.inl h)))))))
  have t7 : ¬ x > 65535 := fun h => hT (.inr (.inr (.inr (.inr (.inr (.inr (.inr (.inl h))))))))
  have t8 : ¬ other > 65535 := fun h => hT (.inr (.inr (.inr (.inr (.inr (.inr (.inr (.inr h))))))))
  have hz := wary_zero (nC := 0) (nI := 0) (r0 := r0) (r1 := r1) (r2 := r2) (r3 := r3) (r4 := r4) (r5 := r5) (r6 := r6) (r7 := r7) (pc := pc) (fuel := 0) (ms := ms) (by rw [h0]; rfl)
  obtain ⟨_, _, hlen, _, hreg, _, hmem⟩ := hz
  rw [h0] at CW
  obtain ⟨K, hK⟩ : ∃ K, K = (at_ + off) % 65536 := ⟨_, rfl⟩
  have hK0 : 0 ≤ K ∧ K < 65536 := by omega
  obtain ⟨F, hF⟩ : ∃ F, Mc.ends (U.encs (Mc.mmL off ++ [haltI])) [] 1000 r0 at_ x r3 r4 r5 r6 r7 c z n v 0 ms = F := ⟨_, rfl⟩
  obtain ⟨f1, f2, f3, f4⟩ := mm_run off r0 at_ x r3 r4 r5 r6 r7 c z n v ms (by omega) (by omega) F hF
  rw [← hK] at f3
  have hwr : Mc.wr [r0, at_, x, r3, r4, r5, r6, r7] 0 ms = 0 := by
    unfold Mc.wr
    rw [if_neg (by omega), if_pos]
    rw [List.all_eq_true]
    intro y hy
    have : Wd y := by
      simp only [List.mem_append, List.mem_cons, List.not_mem_nil, or_false] at hy
      rcases hy with ((rfl | rfl | rfl | rfl | rfl | rfl | rfl | rfl) | rfl) | hy
      · exact hreg _ (by simp)
      · unfold Wd; omega
      · unfold Wd; omega
      · exact hreg _ (by simp)
      · exact hreg _ (by simp)
      · exact hreg _ (by simp)
      · exact hreg _ (by simp)
      · exact hreg _ (by simp)
      · exact ⟨by decide, by decide⟩
      · exact hmem y hy
    unfold Mc.inr
    exact decide_eq_true this
  have hnz : ∀ j, MS ≤ j → F.mem j = 0 := by
    intro j hj
    have hms : MS = 65536 := rfl
    rw [f3]; unfold upd
    rw [if_neg (by omega)]
    unfold memOf
    rw [List.getD_eq_getElem?_getD, List.getElem?_eq_none (by omega)]; rfl
  have hleft : memOf (left F.mem) = F.mem := memOf_left F.mem hnz
  have CRU : ∀ wA : World, Below w.heap.size w wA → Calls Try.prog 23 #[stV r0 at_ x r3 r4 r5 r6 r7 c z n v 0 (.slice ma mn mc), .slice (some ⟨wA.heap.size, 0, none⟩) 2 2] (wA.alloc (.cells #[.int .i64 4, .int .i64 1, .int .i64 2, .int .i64 off, .int .i64 3, .int .i64 3, .int .i64 1, .int .i64 off] 43)) fun e w' => ∃ oa oc xa xn xc, e = .returned (.tuple #[ranV F (.slice oa 0 oc) (.slice xa xn xc), .bool true]) ∧ Rd w' 1 (.slice xa xn xc) (top F.mem MS) ((left F.mem).map (Value.int .i64)) ∧ Below wA.heap.size wA w' := fun wA hA => by
    have hgB : ∀ w2, (wA.alloc (.cells #[.int .i64 4, .int .i64 1, .int .i64 2, .int .i64 off, .int .i64 3, .int .i64 3, .int .i64 1, .int .i64 off] 43)).grownBy w2 (Value.slice (some ⟨wA.heap.size, 0, none⟩) 2 2).ownBlock → Below wA.heap.size wA w2 := fun w2 hg =>
      Below.trans (Ext.alloc (Below.refl _ _) _) (grown_below hg (by simp) (fun k hk => by injection hk with hk; subst hk; simp))
    refine (runs_ok (.slice (some ⟨wA.heap.size, 0, none⟩) 2 2) 2 (Mc.mmL off) wA.heap.size r0 at_ x r3 r4 r5 r6 r7 0 c z n v (.slice ma mn mc) mn ms F _ rfl (by omega) (fun i hi => (mm_in off (by omega) i hi).1) (World.ownsRow_lit wA _ 2 (Nat.le_refl _) (by decide) rfl) (by simp) (fun w2 hg => hm.below (Ext.trans hA (hgB w2 hg))) hwr hF f1 (by show (5 : Nat) ≤ _; decide)).mono ?_
    rintro e w' ⟨oa, oc, xa, xn, xc, rfl, h1, h2, h3⟩
    rw [f4]
    exact ⟨oa, oc, xa, xn, xc, rfl, Rd.of_owns h2 (Nat.le_trans (top_le F.mem MS) (by decide)), hgB w' h3⟩
  have CX : ∀ (xa : Option Addr) (xn xc : Nat) (w1 : World), Rd w1 1 (.slice xa xn xc) (top F.mem MS) ((left F.mem).map (Value.int .i64)) → Calls Try.prog 24 #[.slice xa xn xc, .int .i64 K] w1 fun e w' => e = .returned (.int .i64 x) ∧ w1 = w' := fun xa xn xc w1 hr => by
    have := was_ok _ _ (left F.mem) K hK0.1 w1 hr
    rw [hleft, f3] at this
    unfold upd at this
    rw [if_pos rfl] at this
    exact this
  have HW : IntKind.i64.wrap (at_ + off) = at_ + off := by rw [IntKind.wrap_i64]; omega
  have HK : (at_ + off).tmod 65536 = K := by rw [hK, Int.tmod_eq_emod_of_nonneg (by omega)]
  by_cases he : other = K
  · exact mem_same ma mn mc r0 r1 r2 r3 r4 r5 r6 r7 pc at_ off x other K c z n v F w (decide_eq_false t1) (decide_eq_false t2) (decide_eq_false t3) (decide_eq_false t4) (decide_eq_false t5) (decide_eq_false t6) (decide_eq_false t7) (decide_eq_false t8) HW HK (by simp [he]) f2 (by simp) CW CRU CX
  · have CY : ∀ (xa : Option Addr) (xn xc : Nat) (w1 : World), Rd w1 1 (.slice xa xn xc) (top F.mem MS) ((left F.mem).map (Value.int .i64)) → Calls Try.prog 24 #[.slice xa xn xc, .int .i64 other] w1 fun e w' => e = .returned (.int .i64 (memOf ms other.toNat)) ∧ w1 = w' := fun xa xn xc w1 hr => by
      have := was_ok _ _ (left F.mem) other (by omega) w1 hr
      rw [hleft, f3] at this
      unfold upd at this
      rw [if_neg (by omega)] at this
      exact this
    exact mem_other ma mn mc r0 r1 r2 r3 r4 r5 r6 r7 pc at_ off x other K (memOf ms other.toNat) c z n v F w (decide_eq_false t1) (decide_eq_false t2) (decide_eq_false t3) (decide_eq_false t4) (decide_eq_false t5) (decide_eq_false t6) (decide_eq_false t7) (decide_eq_false t8) HW HK (by simpa using he) f2 (by simp) (by simp) CW CRU CX CY (fun w1 hb => was_ok _ _ ms other (by omega) w1 (hm.below hb))
end Go.Proofs.Ytfjgnhmmakeaeaa
