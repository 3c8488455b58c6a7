/- Walk of law EmuCarries. -/
import Derived.Test.YtfjgnhmmakeaeaaE56
import Derived.Test.YtfjgnhmmakeaeaaEc
import Derived.Test.YtfjgnhmmakeaeaaE39
namespace Go.Proofs.Ytfjgnhmmakeaeaa
open Go.RowKit
set_option linter.unusedVariables false
set_option linter.unusedSimpArgs false
set_option maxRecDepth 100000
open Mc
theorem ne_ops : (43 : Nat) ≠ 63 := by decide
theorem grown_setCell' (w : World) (b k : Nat) (u : Value) : w.grownBy (w.setCell ⟨b, k, none⟩ u) (some b) :=
  ⟨rfl, rfl, rfl, by simp, fun i _ hi => Below.heap_setCell w _ u i (fun e => hi (by rw [e]))⟩
theorem ran_regs2 {w : World} {g : Nat} {F : St} {a b : Value} (h : Blk w g 30 (ranL F a b).toArray) (n : Nat) (hn : n ≤ 2) : Rd w 1 (.slice (some ⟨g, 5, none⟩) n 8) n (([F.r 0, F.r 1].take n).map (Value.int .i64)) := by
  refine ⟨by simp; omega, by unfold maxLen; omega, _, _, rfl, by omega, fun _ => ⟨g, 5, rfl, fun j u hj => ?_⟩⟩
  rw [h.cell]
  rw [List.getElem?_map, List.getElem?_take] at hj
  split at hj
  · rename_i hjn
    rcases (show j = 0 ∨ j = 1 by omega) with rfl | rfl <;> exact hj
  · cases hj
set_option maxHeartbeats 16000000 in
theorem carries_at16 (a b x0 x1 y0 y1 WA WS WC : Int) (F5 F7 F12 : St) (w : World)
    (CSX : ∀ w1 : World, Calls Try.prog 27 #[.int .u64 a, .int .i64 16] w1 fun e w' => ∃ xa xc, e = .returned (.tuple #[.slice xa 1 xc, .int .i64 0]) ∧ Rd w' 1 (.slice xa 1 xc) 1 (([x0, x1].take 1).map (Value.int .i64)) ∧ Below w1.heap.size w1 w')
    (CSY : ∀ w1 : World, Calls Try.prog 27 #[.int .u64 b, .int .i64 16] w1 fun e w' => ∃ xa xc, e = .returned (.tuple #[.slice xa 1 xc, .int .i64 0]) ∧ Rd w' 1 (.slice xa 1 xc) 1 (([y0, y1].take 1).map (Value.int .i64)) ∧ Below w1.heap.size w1 w')
    (CR5 : ∀ (B : Nat) (o : Value) (wr : World), wr.ownsRow B 43 4 o 1 (insR (caL 5 6 1)) → B ≤ wr.heap.size → Calls Try.prog 23 #[stV x0 0 y0 0 0 0 0 0 false false false false 0 (.slice none 0 0), o] wr fun e w' => ∃ oa oc xa xn xc, e = .returned (.tuple #[ranV F5 (.slice oa 0 oc) (.slice xa xn xc), .bool true]) ∧ wr.grownBy w' o.ownBlock)
    (CR7 : ∀ (B : Nat) (o : Value) (wr : World), wr.ownsRow B 43 4 o 1 (insR (caL 7 8 1)) → B ≤ wr.heap.size → Calls Try.prog 23 #[stV x0 0 y0 0 0 0 0 0 false false false false 0 (.slice none 0 0), o] wr fun e w' => ∃ oa oc xa xn xc, e = .returned (.tuple #[ranV F7 (.slice oa 0 oc) (.slice xa xn xc), .bool true]) ∧ wr.grownBy w' o.ownBlock)
    (CR12 : ∀ (B : Nat) (o : Value) (wr : World), wr.ownsRow B 43 4 o 1 (insR (caL 12 13 1)) → B ≤ wr.heap.size → Calls Try.prog 23 #[stV x0 0 y0 0 0 0 0 0 false false false false 0 (.slice none 0 0), o] wr fun e w' => ∃ oa oc xa xn xc, e = .returned (.tuple #[ranV F12 (.slice oa 0 oc) (.slice xa xn xc), .bool true]) ∧ wr.grownBy w' o.ownBlock)
    (CJ5 : ∀ (v : Value) (w1 : World), Rd w1 1 v 1 (([F5.r 0, F5.r 1].take 1).map (Value.int .i64)) → Calls Try.prog 28 #[v] w1 fun e w' => e = .returned (.tuple #[.int .u64 WA, .int .i64 0]) ∧ w1 = w')
    (CJ7 : ∀ (v : Value) (w1 : World), Rd w1 1 v 1 (([F7.r 0, F7.r 1].take 1).map (Value.int .i64)) → Calls Try.prog 28 #[v] w1 fun e w' => e = .returned (.tuple #[.int .u64 WS, .int .i64 0]) ∧ w1 = w')
    (CJ12 : ∀ (v : Value) (w1 : World), Rd w1 1 v 1 (([F12.r 0, F12.r 1].take 1).map (Value.int .i64)) → Calls Try.prog 28 #[v] w1 fun e w' => e = .returned (.tuple #[.int .u64 WC, .int .i64 0]) ∧ w1 = w')
    (CA : ∀ w1 : World, Calls Try.prog 31 #[.int .u64 a, .int .u64 b, .int .i64 16] w1 fun e w' => e = .returned (.tuple #[.int .u64 WA, .int .i64 0]) ∧ w1 = w')
    (CS : ∀ w1 : World, Calls Try.prog 32 #[.int .u64 a, .int .u64 b, .int .i64 16] w1 fun e w' => e = .returned (.tuple #[.int .u64 WS, .int .i64 0]) ∧ w1 = w')
    (CC : ∀ w1 : World, Calls Try.prog 33 #[.int .u64 a, .int .i64 16] w1 fun e w' => e = .returned (.tuple #[.int .u64 WC, .int .i64 0]) ∧ w1 = w')
    (CL0 : ∀ (w1 : World), Calls Try.prog 34 #[.int .u64 a, .int .u64 b, .int .i64 16, .bool false] w1 fun e w' => e = .returned (.tuple #[.bool F12.c, .int .i64 0]) ∧ w1 = w')
    (CL1 : ∀ (w1 : World), Calls Try.prog 34 #[.int .u64 a, .int .u64 b, .int .i64 16, .bool true] w1 fun e w' => e = .returned (.tuple #[.bool (F12.n != F12.v), .int .i64 0]) ∧ w1 = w')
    (g3 : (WS == 0) = F12.z)
    : Calls Try.prog 10 #[.int .u64 a, .int .u64 b, .int .i64 16] w fun e w' => e = .returned (.bool true) ∧ Below w.heap.size w w' := by
  have HCSX := Lib.hid CSX; have HCSY := Lib.hid CSY
  have HR5 := Lib.hid CR5; have HR7 := Lib.hid CR7; have HR12 := Lib.hid CR12; have HJ5 := Lib.hid CJ5; have HJ7 := Lib.hid CJ7; have HJ12 := Lib.hid CJ12; have HCA := Lib.hid CA; have HCS := Lib.hid CS; have HCC := Lib.hid CC; have HCL0 := Lib.hid CL0; have HCL1 := Lib.hid CL1; have HG3 := Lib.hid g3
  clear CSX CSY CR5 CR7 CR12 CJ5 CJ7 CJ12 CA CS CC CL0 CL1 g3
  go_enter Try.func10, Try.ntmps10
  go_wp2_with (first | (go_at_call 20; refine (alive3 _).mono ?_; rintro e w1 ⟨rfl, hb1⟩; have HB1 := Lib.hid hb1; clear hb1) | (go_at_call_of 27 (Value.int IntKind.u64 a); refine (HCSX.out _).mono ?_; rintro e w2 ⟨xa, xc, rfl, hr2, hb2⟩; have HB2 := Lib.hid (Ext.trans HB1.out hb2); have HX2 := Lib.hid hr2; clear hb2 hr2) | (go_at_call_of 27 (Value.int IntKind.u64 b); refine (HCSY.out _).mono ?_; rintro e w3 ⟨ya, yc, rfl, hr3, hb3⟩; have HB3 := Lib.hid (Ext.trans HB2.out hb3); have HX3 := Lib.hid (HX2.out.below hb3); have HY3 := Lib.hid hr3; clear hb3 hr3))
  generalize hw4 : w3.alloc (Obj.cells #[.int .i64 5, .int .i64 6, .int .i64 7, .int .i64 8, .int .i64 12, .int .i64 13] 63) = w4
  have HP4 : Hid (Blk w4 w3.heap.size 63 #[.int .i64 5, .int .i64 6, .int .i64 7, .int .i64 8, .int .i64 12, .int .i64 13]) := by rw [← hw4]; exact Blk.new _ _ _
  have HB34 : Hid (Below w3.heap.size w3 w4) := by rw [← hw4]; exact Ext.alloc (Below.refl _ _) _
  have HB4 : Hid (Below w.heap.size w w4) := Ext.trans HB3.out HB34.out
  have HX4 := Lib.hid (HX3.out.below HB34.out)
  have HY4 := Lib.hid (HY3.out.below HB34.out)
  clear hw4 HB34 HX3 HY3 HX2 HB3 HB2 HB1 HCSX HCSY
  go_loopw [55] (fun i wr => ∃ k : Nat, k ≤ 3 ∧ i = .int .i64 k ∧ Hid (Below w4.heap.size w4 wr)) (fun i _ => 3 - (intOf i).toNat)
  case atStart => exact ⟨0, Nat.zero_le _, rfl, Below.refl _ _⟩
  case round =>
    obtain ⟨k, hk, rfl, hbw⟩ := hrel
    have HPr := Lib.hid (HP4.out.keep hbw.out)
    have HXr := Lib.hid (HX4.out.below hbw.out)
    have HYr := Lib.hid (HY4.out.below hbw.out)
    by_cases hlt : k < 3
    · rcases (show k = 0 ∨ k = 1 ∨ k = 2 by omega) with rfl | rfl | rfl
      · clear hk hlt
        go_wp2_with (first | (refine wpList_load_sub rfl 63 _ rfl w3.heap.size 0 rfl 63 #[.int .i64 5, .int .i64 6, .int .i64 7, .int .i64 8, .int .i64 12, .int .i64 13] [.int .i64 5, .int .i64 6] _ HPr.out rfl Try.underlying63 rfl (by kernel_rfl) ?_))
        generalize hwA : (wr.alloc (Obj.cells #[.int .i64 5, .int .i64 6] 63)).alloc (Obj.cells (stC 0 0 0 0 0 0 0 0 false false false false 0 (.slice none 0 0)) 27) = wA
        have hszA : wA.heap.size = wr.heap.size + 2 := by rw [← hwA]; simp
        have HOA : Hid (Blk wA wr.heap.size 63 #[.int .i64 5, .int .i64 6]) := by rw [← hwA]; exact (Blk.new _ _ _).keep (Ext.alloc (Below.refl _ _) _)
        have HSA : Hid (Blk wA (wr.heap.size + 1) 27 (stC 0 0 0 0 0 0 0 0 false false false false 0 (.slice none 0 0))) := by
          rw [← hwA]
          have := Blk.new (wr.alloc (Obj.cells #[.int .i64 5, .int .i64 6] 63)) 27 (stC 0 0 0 0 0 0 0 0 false false false false 0 (.slice none 0 0))
          show Blk _ _ _ _
          simpa using this
        have HBA : Hid (Below wr.heap.size wr wA) := by rw [← hwA]; exact Ext.alloc (Ext.alloc (Below.refl _ _) _) _
        have HXA := Lib.hid (HXr.out.below HBA.out)
        have HYA := Lib.hid (HYr.out.below HBA.out)
        clear hwA HPr
        obtain ⟨jx1, jx2, xa', xc', hxv, jx3, hxc⟩ := HXA.out.ints
        injection hxv with hx1 hx2 hx3
        subst hx1; subst hx3
        obtain ⟨xb, xo, rfl, hxd⟩ := hxc (by omega)
        obtain ⟨jy1, jy2, ya', yc', hyv, jy3, hyc⟩ := HYA.out.ints
        injection hyv with hy1 hy2 hy3
        subst hy1; subst hy3
        obtain ⟨yb, yo, rfl, hyd⟩ := hyc (by omega)
        have HXl : Hid (xb < wr.heap.size) := by
          obtain ⟨_, _, a2, c2, hv2, _, hc2⟩ := HXr.out.ints
          obtain ⟨b2, o2, ha2, hd2⟩ := hc2 (by omega)
          injection hv2 with q1 _ _
          rw [ha2] at q1
          injection q1 with q1
          injection q1 with q1
          subst q1
          exact World.block_lt_of_cell? wr ⟨xb, o2 + 0, none⟩ (hd2 0 (by omega))
        have HYl : Hid (yb < wr.heap.size) := by
          obtain ⟨_, _, a2, c2, hv2, _, hc2⟩ := HYr.out.ints
          obtain ⟨b2, o2, ha2, hd2⟩ := hc2 (by omega)
          injection hv2 with q1 _ _
          rw [ha2] at q1
          injection q1 with q1
          injection q1 with q1
          subst q1
          exact World.block_lt_of_cell? wr ⟨yb, o2 + 0, none⟩ (hd2 0 (by omega))
        clear HXr HYr
        have cx0 : wA.cell? ⟨xb, xo, none⟩ = some (.int .i64 x0) := hxd 0 (by omega)
        have cy0 : wA.cell? ⟨yb, yo, none⟩ = some (.int .i64 y0) := hyd 0 (by omega)
        have o0 : wA.cell? ⟨wr.heap.size, 0, none⟩ = some (.int .i64 5) := by rw [HOA.out.cell]; rfl
        obtain ⟨s0, f0⟩ := state_cell HSA.out 0 rfl
        obtain ⟨s2, f2⟩ := state_cell HSA.out 2 rfl
        clear jx1 jx2 jx3 hx2 jy1 jy2 jy3 hy2 hxc hyc hxd hyd
        refine wp_loop_rounds 2 ?_
        rw [rounds_succ]
        have HCX := Lib.hid cx0; have HCY := Lib.hid cy0
        have hxl : xb < wr.heap.size := HXl.out
        have hyl : yb < wr.heap.size := HYl.out
        have HXN : Hid (some xb ≠ some (wr.heap.size + 1)) := fun e => by injection e with e; omega
        have HYN : Hid (some yb ≠ some (wr.heap.size + 1)) := fun e => by injection e with e; omega
        have hxA : xb < wA.heap.size := by omega
        have hyA : yb < wA.heap.size := by omega
        clear cx0 cy0 s0 f0 s2 f2
        go_wp2
        apply Iy.wp_region 17 [13, 16] (fun _ => []) (Ix.Rb) (fun nn vs wi => Hid (wA.grownBy wi (some (wr.heap.size + 1)) ∧ Blk wi (wr.heap.size + 1) 27 (if nn = 0 then stC 0 0 0 0 0 0 0 0 false false false false 0 (.slice none 0 0) else if nn = 1 then stC x0 0 0 0 0 0 0 0 false false false false 0 (.slice none 0 0) else stC x0 0 y0 0 0 0 0 0 false false false false 0 (.slice none 0 0)))) (Iy.vp [(Iy.is (.int .i64 0)), (Iy.is (.int .i64 0)), (Iy.is (.int .i64 2)), (Iy.is _), (Iy.is (.int .i64 0)), (Iy.is (.pointer (some ⟨xb, xo, none⟩))), (Iy.is (.int .i64 x0)), (Iy.is _), (Iy.is (.int .i64 0)), (Iy.is (.pointer (some ⟨yb, yo, none⟩))), (Iy.is (.int .i64 y0)), (Iy.is (.pointer (some ⟨wr.heap.size + 1, 0, none⟩))), (Iy.is (.pointer (some ⟨wr.heap.size + 1, 0, none⟩))), (fun _ => True), (Iy.is (.pointer (some ⟨wr.heap.size + 1, 0, none⟩))), (Iy.is (.pointer (some ⟨wr.heap.size + 1, 2, none⟩))), (fun _ => True)]) (fun _ => false) (by kernel_rfl) (by kernel_rfl) (by kernel_rfl) (by kernel_rfl) (by kernel_rfl) (fun _ _ _ _ _ h => h) (fun _ => Below.refl _ _) (fun nn vs _ _ h hb => ⟨h.out.1.trans (grownBy_of_below hb), h.out.2.keep hb⟩) (fun _ _ => Iy.vp_keeps _ _ _ _) (Ix.not_al _) (fun vs => ⟨grownBy_of_below (Below.drew (Below.refl _ _)), HSA.out.drew⟩)
        case step =>
          refine Iy.steps_cons (n := 16) (i := 0) (j := 1) rfl rfl (Iy.stepI_ofN [] (by kernel_rfl) (by kernel_rfl) (fun nph vsp wi HB => ?_)) ?_
          (· (refine Iv.askN_nil ?_; (try simp only [Act.put, List.setIfInBounds_toArray, List.set_cons_zero, List.set_cons_succ]); refine Iy.goI_yes rfl rfl ?_; intro K hK; (try simp only [Act.put, List.setIfInBounds_toArray, List.set_cons_zero, List.set_cons_succ] at hK); go_wp2_with (first | fail); exact hK _ _ (Below.refl _ _) rfl))
          refine Iy.steps_cons (n := 15) (i := 1) (j := 2) rfl rfl (Iy.stepI_ofN [] (by kernel_rfl) (by kernel_rfl) (fun nph vsp wi HB => ?_)) ?_
          (· (refine Iv.askN_nil ?_; (try simp only [Act.put, List.setIfInBounds_toArray, List.set_cons_zero, List.set_cons_succ]); refine Iy.goI_yes rfl rfl ?_; intro K hK; (try simp only [Act.put, List.setIfInBounds_toArray, List.set_cons_zero, List.set_cons_succ] at hK); go_wp2_with (first | fail); exact hK _ _ (Below.refl _ _) rfl))
          refine Iy.steps_cons (n := 14) (i := 2) (j := 3) rfl rfl (Iy.stepI_ofN [(1, some 66)] (by kernel_rfl) (by kernel_rfl) (fun nph vsp wi HB => ?_)) ?_
          (· (refine Iv.askN_cons ?_; rintro _ rfl; refine Iv.askN_nil ?_; (try simp only [Act.put, List.setIfInBounds_toArray, List.set_cons_zero, List.set_cons_succ]); refine Iy.goI_yes rfl rfl ?_; intro K hK; (try simp only [Act.put, List.setIfInBounds_toArray, List.set_cons_zero, List.set_cons_succ] at hK); go_wp2_with (first | fail); exact hK _ _ (Below.refl _ _) rfl))
          refine Iy.steps_cons (n := 13) (i := 3) (j := 4) rfl rfl (Iy.stepI_ofN [] (by kernel_rfl) (by kernel_rfl) (fun nph vsp wi HB => ?_)) ?_
          (· (refine Iv.askN_nil ?_; (try simp only [Act.put, List.setIfInBounds_toArray, List.set_cons_zero, List.set_cons_succ]); refine Iy.goI_yes rfl rfl ?_; intro K hK; (try simp only [Act.put, List.setIfInBounds_toArray, List.set_cons_zero, List.set_cons_succ] at hK); go_wp2_with (first | fail); exact hK _ _ (Below.refl _ _) rfl))
          refine Iy.steps_cons (n := 12) (i := 4) (j := 5) rfl rfl (Iy.stepI_ofN [] (by kernel_rfl) (by kernel_rfl) (fun nph vsp wi HB => ?_)) ?_
          (· (refine Iv.askN_nil ?_; (try simp only [Act.put, List.setIfInBounds_toArray, List.set_cons_zero, List.set_cons_succ]); refine Iy.goI_yes rfl rfl ?_; intro K hK; (try simp only [Act.put, List.setIfInBounds_toArray, List.set_cons_zero, List.set_cons_succ] at hK); go_wp2_with (first | fail); exact hK _ _ (Below.refl _ _) rfl))
          refine Iy.steps_cons (n := 11) (i := 5) (j := 6) rfl rfl (Iy.stepI_ofN [(3, some 68), (4, some 69)] (by kernel_rfl) (by kernel_rfl) (fun nph vsp wi HB => ?_)) ?_
          (· (refine Iv.askN_cons ?_; rintro _ rfl; refine Iv.askN_cons ?_; rintro _ rfl; refine Iv.askN_nil ?_; (try simp only [Act.put, List.setIfInBounds_toArray, List.set_cons_zero, List.set_cons_succ]); refine Iy.goI_yes rfl rfl ?_; intro K hK; (try simp only [Act.put, List.setIfInBounds_toArray, List.set_cons_zero, List.set_cons_succ] at hK); go_wp2_with (first | fail); exact hK _ _ (Below.refl _ _) rfl))
          refine Iy.steps_cons (n := 10) (i := 6) (j := 7) rfl rfl (Iy.stepI_ofN [(5, some 70)] (by kernel_rfl) (by kernel_rfl) (fun nph vsp wi HB => ?_)) ?_
          (· (refine Iv.askN_cons ?_; rintro _ rfl; refine Iv.askN_nil ?_; have kx : wi.cell? ⟨xb, xo, none⟩ = some (.int .i64 x0) := ((HB.out.1.cell_far ⟨xb, xo, none⟩ hxA HXN.out).trans HCX.out); (try simp only [Act.put, List.setIfInBounds_toArray, List.set_cons_zero, List.set_cons_succ]); refine Iy.goI_yes rfl rfl ?_; intro K hK; (try simp only [Act.put, List.setIfInBounds_toArray, List.set_cons_zero, List.set_cons_succ] at hK); go_wp2_with (first | fail); exact hK _ _ (Below.refl _ _) rfl))
          refine Iy.steps_cons (n := 9) (i := 7) (j := 8) rfl rfl (Iy.stepI_ofN [] (by kernel_rfl) (by kernel_rfl) (fun nph vsp wi HB => ?_)) ?_
          (· (refine Iv.askN_nil ?_; (try simp only [Act.put, List.setIfInBounds_toArray, List.set_cons_zero, List.set_cons_succ]); refine Iy.goI_yes rfl rfl ?_; intro K hK; (try simp only [Act.put, List.setIfInBounds_toArray, List.set_cons_zero, List.set_cons_succ] at hK); go_wp2_with (first | fail); exact hK _ _ (Below.refl _ _) rfl))
          refine Iy.steps_cons (n := 8) (i := 8) (j := 9) rfl rfl (Iy.stepI_ofN [] (by kernel_rfl) (by kernel_rfl) (fun nph vsp wi HB => ?_)) ?_
          (· (refine Iv.askN_nil ?_; (try simp only [Act.put, List.setIfInBounds_toArray, List.set_cons_zero, List.set_cons_succ]); refine Iy.goI_yes rfl rfl ?_; intro K hK; (try simp only [Act.put, List.setIfInBounds_toArray, List.set_cons_zero, List.set_cons_succ] at hK); go_wp2_with (first | fail); exact hK _ _ (Below.refl _ _) rfl))
          refine Iy.steps_cons (n := 7) (i := 9) (j := 10) rfl rfl (Iy.stepI_ofN [(7, some 72), (8, some 73)] (by kernel_rfl) (by kernel_rfl) (fun nph vsp wi HB => ?_)) ?_
          (· (refine Iv.askN_cons ?_; rintro _ rfl; refine Iv.askN_cons ?_; rintro _ rfl; refine Iv.askN_nil ?_; (try simp only [Act.put, List.setIfInBounds_toArray, List.set_cons_zero, List.set_cons_succ]); refine Iy.goI_yes rfl rfl ?_; intro K hK; (try simp only [Act.put, List.setIfInBounds_toArray, List.set_cons_zero, List.set_cons_succ] at hK); go_wp2_with (first | fail); exact hK _ _ (Below.refl _ _) rfl))
          refine Iy.steps_cons (n := 6) (i := 10) (j := 11) rfl rfl (Iy.stepI_ofN [(9, some 74)] (by kernel_rfl) (by kernel_rfl) (fun nph vsp wi HB => ?_)) ?_
          (· (refine Iv.askN_cons ?_; rintro _ rfl; refine Iv.askN_nil ?_; have ky : wi.cell? ⟨yb, yo, none⟩ = some (.int .i64 y0) := ((HB.out.1.cell_far ⟨yb, yo, none⟩ hyA HYN.out).trans HCY.out); (try simp only [Act.put, List.setIfInBounds_toArray, List.set_cons_zero, List.set_cons_succ]); refine Iy.goI_yes rfl rfl ?_; intro K hK; (try simp only [Act.put, List.setIfInBounds_toArray, List.set_cons_zero, List.set_cons_succ] at hK); go_wp2_with (first | fail); exact hK _ _ (Below.refl _ _) rfl))
          refine Iy.steps_cons (n := 5) (i := 11) (j := 12) rfl rfl (Iy.stepI_ofN [] (by kernel_rfl) (by kernel_rfl) (fun nph vsp wi HB => ?_)) ?_
          (· (refine Iv.askN_nil ?_; (try simp only [Act.put, List.setIfInBounds_toArray, List.set_cons_zero, List.set_cons_succ]); refine Iy.goI_yes rfl rfl ?_; intro K hK; (try simp only [Act.put, List.setIfInBounds_toArray, List.set_cons_zero, List.set_cons_succ] at hK); go_wp2_with (first | fail); exact hK _ _ (Below.refl _ _) rfl))
          refine Iy.steps_cons (n := 4) (i := 12) (j := 13) rfl rfl (Iy.stepI_ofN [(0, some 65), (11, some 76)] (by kernel_rfl) (by kernel_rfl) (fun nph vsp wi HB => ?_)) ?_
          (· (refine Iv.askN_cons ?_; rintro _ rfl; refine Iv.askN_cons ?_; rintro _ rfl; refine Iv.askN_nil ?_; (try simp only [Act.put, List.setIfInBounds_toArray, List.set_cons_zero, List.set_cons_succ]); refine Iy.goI_yes rfl rfl ?_; intro K hK; (try simp only [Act.put, List.setIfInBounds_toArray, List.set_cons_zero, List.set_cons_succ] at hK); go_wp2_with (first | fail); exact hK _ _ (Below.refl _ _) rfl))
          refine Iy.steps_cons (n := 3) (i := 13) (j := 14) rfl rfl (Iy.stepI_ofC 0 [(6, some 71), (12, some 77)] (by kernel_rfl) (by kernel_rfl) (fun vsp wi HB => ?_)) ?_
          (· (refine Iv.askN_cons ?_; rintro _ ⟨rfl, ev6⟩; refine Iv.askN_cons ?_; rintro _ ⟨rfl, ev12⟩; refine Iv.askN_nil ?_; obtain ⟨s0, f0⟩ := state_cell HB.out.2 0 rfl; (try simp only [Act.put, List.setIfInBounds_toArray, List.set_cons_zero, List.set_cons_succ]); refine Iy.goI_yes rfl rfl ?_; intro K hK; (try simp only [Act.put, List.setIfInBounds_toArray, List.set_cons_zero, List.set_cons_succ] at hK); go_wp2_with (first | fail); exact hK undef _ ⟨⟨World.grownBy.trans HB.out.1 (grown_setCell' _ _ _ _), HB.out.2.set_ 0 _⟩, fun _ _ h => h⟩ trivial))
          refine Iy.steps_cons (n := 2) (i := 14) (j := 15) rfl rfl (Iy.stepI_ofN [] (by kernel_rfl) (by kernel_rfl) (fun nph vsp wi HB => ?_)) ?_
          (· (refine Iv.askN_nil ?_; (try simp only [Act.put, List.setIfInBounds_toArray, List.set_cons_zero, List.set_cons_succ]); refine Iy.goI_yes rfl rfl ?_; intro K hK; (try simp only [Act.put, List.setIfInBounds_toArray, List.set_cons_zero, List.set_cons_succ] at hK); go_wp2_with (first | fail); exact hK _ _ (Below.refl _ _) rfl))
          refine Iy.steps_cons (n := 1) (i := 15) (j := 16) rfl rfl (Iy.stepI_ofN [(2, some 67), (14, some 78)] (by kernel_rfl) (by kernel_rfl) (fun nph vsp wi HB => ?_)) ?_
          (· (refine Iv.askN_cons ?_; rintro _ rfl; refine Iv.askN_cons ?_; rintro _ rfl; refine Iv.askN_nil ?_; (try simp only [Act.put, List.setIfInBounds_toArray, List.set_cons_zero, List.set_cons_succ]); refine Iy.goI_yes rfl rfl ?_; intro K hK; (try simp only [Act.put, List.setIfInBounds_toArray, List.set_cons_zero, List.set_cons_succ] at hK); go_wp2_with (first | fail); exact hK _ _ (Below.refl _ _) rfl))
          refine Iy.steps_cons (n := 0) (i := 16) (j := 17) rfl rfl (Iy.stepI_ofC 1 [(10, some 75), (15, some 79)] (by kernel_rfl) (by kernel_rfl) (fun vsp wi HB => ?_)) ?_
          (· (refine Iv.askN_cons ?_; rintro _ ⟨rfl, ev10⟩; refine Iv.askN_cons ?_; rintro _ ⟨rfl, ev15⟩; refine Iv.askN_nil ?_; obtain ⟨s2, f2⟩ := state_cell HB.out.2 2 rfl; (try simp only [Act.put, List.setIfInBounds_toArray, List.set_cons_zero, List.set_cons_succ]); refine Iy.goI_yes rfl rfl ?_; intro K hK; (try simp only [Act.put, List.setIfInBounds_toArray, List.set_cons_zero, List.set_cons_succ] at hK); go_wp2_with (first | fail); exact hK undef _ ⟨⟨World.grownBy.trans HB.out.1 (grown_setCell' _ _ _ _), HB.out.2.set_ 2 _⟩, fun _ _ h => h⟩ trivial))
          exact Iy.steps_nil
        intro vsf wf HF hdf
        refine Ix.allV_cons (n := 16) (j := 0) (k := 1) rfl rfl ?_; rintro _ _ rfl; refine Ix.allV_cons (n := 15) (j := 1) (k := 2) rfl rfl ?_; rintro _ _ rfl; refine Ix.allV_cons (n := 14) (j := 2) (k := 3) rfl rfl ?_; rintro _ _ rfl; refine Ix.allV_cons (n := 13) (j := 3) (k := 4) rfl rfl ?_; rintro _ _ rfl; refine Ix.allV_cons (n := 12) (j := 4) (k := 5) rfl rfl ?_; rintro _ _ rfl; refine Ix.allV_cons (n := 11) (j := 5) (k := 6) rfl rfl ?_; rintro _ _ rfl; refine Ix.allV_cons (n := 10) (j := 6) (k := 7) rfl rfl ?_; rintro _ _ rfl; refine Ix.allV_cons (n := 9) (j := 7) (k := 8) rfl rfl ?_; rintro _ _ rfl; refine Ix.allV_cons (n := 8) (j := 8) (k := 9) rfl rfl ?_; rintro _ _ rfl; refine Ix.allV_cons (n := 7) (j := 9) (k := 10) rfl rfl ?_; rintro _ _ rfl; refine Ix.allV_cons (n := 6) (j := 10) (k := 11) rfl rfl ?_; rintro _ _ rfl; refine Ix.allV_cons (n := 5) (j := 11) (k := 12) rfl rfl ?_; rintro _ _ rfl; refine Ix.allV_cons (n := 4) (j := 12) (k := 13) rfl rfl ?_; rintro _ _ rfl; refine Ix.allV_cons (n := 3) (j := 13) (k := 14) rfl rfl ?_; rintro _ _ _; refine Ix.allV_cons (n := 2) (j := 14) (k := 15) rfl rfl ?_; rintro _ _ rfl; refine Ix.allV_cons (n := 1) (j := 15) (k := 16) rfl rfl ?_; rintro _ _ rfl; refine Ix.allV_cons (n := 0) (j := 16) (k := 17) rfl rfl ?_; rintro _ _ _
        refine Ix.allV_nil ?_
        (try simp only [Act.put, List.setIfInBounds_toArray, List.set_cons_zero, List.set_cons_succ, List.drop_succ_cons, List.drop_zero])
        refine Ix.nil ?_
        have HGf : Hid (wA.grownBy wf (some (wr.heap.size + 1))) := HF.out.1
        have HSf : Hid (Blk wf (wr.heap.size + 1) 27 (stC x0 0 y0 0 0 0 0 0 false false false false 0 (.slice none 0 0))) := HF.out.2
        have HOf : Hid (Blk wf wr.heap.size 63 #[.int .i64 5, .int .i64 6]) := HOA.out.grown HGf.out (fun e => by injection e with e; omega)
        have o1 : wf.cell? ⟨wr.heap.size, 0, none⟩ = some (.int .i64 5) := by rw [HOf.out.cell]; rfl
        have hzf : wr.heap.size + 2 ≤ wf.heap.size := by have := HGf.out.size; omega
        have HZf : Hid (wr.heap.size ≤ wf.heap.size) := by show wr.heap.size ≤ wf.heap.size; omega
        have HK2 : Hid (1 ≤ 2) := by show 1 ≤ 2; omega
        have HZl : Hid (wr.heap.size ≤ wf.heap.size) := by show wr.heap.size ≤ wf.heap.size; omega
        have HBf : Hid (Below wr.heap.size wr wf) := Below.trans HBA.out (grown_below HGf.out (by omega) (fun k hk => by injection hk with hk; omega))
        have HON : Hid (wf.ownsRow wf.heap.size 43 4 (.slice none 0 0) 0 (insR [])) := World.ownsRow_nil _ _ _ _
        have HK1 : Hid (0 + 1 ≤ 100000) := by show 0 + 1 ≤ 100000; omega
        clear HF HOA HSA HBA HXA HYA o0 hdf
        go_wp2_with (first | (at_builtin; refine wpList_app_ins rfl _ _ rfl wf.heap.size (.slice none 0 0) 0 1 [] _ [⟨5, 0, 2, 0⟩] #[.int .i64 5, .int .i64 0, .int .i64 2, .int .i64 0] rfl rfl (HON.out.alloc _) (Blk.new _ _ _) rfl rfl HK1.out (Nat.le_of_lt (lt_alloc _ _)) ?_; intro a1 c1 wB hoB hgB hatB; have HUB := Lib.hid hoB; have HSB := Lib.hid (blk_alloc HSf.out HON.out ne_state hgB); have HBZ := low_alloc2 HBf.out HZf.out (Nat.le_refl _) HON.out hgB; have HBB := Lib.hid HBZ.1; have HZB := Lib.hid HBZ.2; clear hoB hgB hatB HBZ))
        rw [rounds_succ]
        have hww : (WA != WA) = false := by simp
        clear HGf HSf HOf o1 HZf HBf HON
        go_wp2_with (first | (refine wpList_load_row rfl 27 _ rfl (wr.heap.size + 1) rfl 27 (stC x0 0 y0 0 0 0 0 0 false false false false 0 (.slice none 0 0)) (0, 0) _ HSB.out Try.underlying27 rfl (by kernel_rfl) ?_) | (go_at_call 23; refine (HR5.out _ _ _ HUB.out HZB.out).mono ?_; rintro e wC ⟨oa, oc, za, zn, zc, rfl, hgC⟩; have HBC := Lib.hid (low_le HBB.out (Nat.le_trans HZl.out HZB.out) hgC (own_low (own_mono HZl.out HUB.out))); have HZC := Lib.hid (Nat.le_trans HZB.out hgC.size); clear hgC) | (refine wpList_store_row rfl 30 _ _ rfl wC.heap.size (ranL F5 (.slice oa 0 oc) (.slice za zn zc)).toArray rfl rfl 30 ranZc (Blk.new _ _ _) (by kernel_rfl) rfl (ranL_one _ _ _ _ _ _ _) ?_; generalize hwD : (wC.alloc (Obj.cells ranZc 30)).setRow wC.heap.size (ranL F5 (.slice oa 0 oc) (.slice za zn zc)).toArray = wD; have HBD := Lib.hid ((by rw [← hwD]; exact Below.row (Ext.alloc (Below.refl _ _) _) (Nat.le_refl _) _ : Below wC.heap.size wC wD)); have HRD := Lib.hid ((by rw [← hwD]; exact (Blk.new wC _ _).row _ : Blk wD wC.heap.size 30 (ranL F5 (.slice oa 0 oc) (.slice za zn zc)).toArray)); have HBW := Lib.hid (Ext.trans HBC.out HBD.out); clear hwD) | (go_at_call 28; refine (HJ5.out _ _ (ran_regs2 HRD.out 1 HK2.out)).mono ?_; rintro e wE ⟨rfl, rfl⟩) | (go_at_call 31; refine (HCA.out _).mono ?_; rintro e wE ⟨rfl, rfl⟩) | (refine wpList_load_sub rfl 25 _ rfl wC.heap.size 13 rfl 30 (ranL F5 (.slice oa 0 oc) (.slice za zn zc)).toArray [.bool F5.c, .bool F5.z, .bool F5.n, .bool F5.v] _ HRD.out rfl Try.underlying25 rfl (by kernel_rfl) ?_))
        all_goals first | exact ⟨⟨1, by omega, rfl, Ext.alloc (Ext.trans hbw.out HBW.out) _⟩, by simp [intOf]⟩ | (rename_i hbad; exact absurd (by cases F12.n <;> cases F12.v <;> rfl) hbad)
      · clear hk hlt
        go_wp2_with (first | (refine wpList_load_sub rfl 63 _ rfl w3.heap.size 2 rfl 63 #[.int .i64 5, .int .i64 6, .int .i64 7, .int .i64 8, .int .i64 12, .int .i64 13] [.int .i64 7, .int .i64 8] _ HPr.out rfl Try.underlying63 rfl (by kernel_rfl) ?_))
        generalize hwA : (wr.alloc (Obj.cells #[.int .i64 7, .int .i64 8] 63)).alloc (Obj.cells (stC 0 0 0 0 0 0 0 0 false false false false 0 (.slice none 0 0)) 27) = wA
        have hszA : wA.heap.size = wr.heap.size + 2 := by rw [← hwA]; simp
        have HOA : Hid (Blk wA wr.heap.size 63 #[.int .i64 7, .int .i64 8]) := by rw [← hwA]; exact (Blk.new _ _ _).keep (Ext.alloc (Below.refl _ _) _)
        have HSA : Hid (Blk wA (wr.heap.size + 1) 27 (stC 0 0 0 0 0 0 0 0 false false false false 0 (.slice none 0 0))) := by
          rw [← hwA]
          have := Blk.new (wr.alloc (Obj.cells #[.int .i64 7, .int .i64 8] 63)) 27 (stC 0 0 0 0 0 0 0 0 false false false false 0 (.slice none 0 0))
          show Blk _ _ _ _
          simpa using this
        have HBA : Hid (Below wr.heap.size wr wA) := by rw [← hwA]; exact Ext.alloc (Ext.alloc (Below.refl _ _) _) _
        have HXA := Lib.hid (HXr.out.below HBA.out)
        have HYA := Lib.hid (HYr.out.below HBA.out)
        clear hwA HPr
        obtain ⟨jx1, jx2, xa', xc', hxv, jx3, hxc⟩ := HXA.out.ints
        injection hxv with hx1 hx2 hx3
        subst hx1; subst hx3
        obtain ⟨xb, xo, rfl, hxd⟩ := hxc (by omega)
        obtain ⟨jy1, jy2, ya', yc', hyv, jy3, hyc⟩ := HYA.out.ints
        injection hyv with hy1 hy2 hy3
        subst hy1; subst hy3
        obtain ⟨yb, yo, rfl, hyd⟩ := hyc (by omega)
        have HXl : Hid (xb < wr.heap.size) := by
          obtain ⟨_, _, a2, c2, hv2, _, hc2⟩ := HXr.out.ints
          obtain ⟨b2, o2, ha2, hd2⟩ := hc2 (by omega)
          injection hv2 with q1 _ _
          rw [ha2] at q1
          injection q1 with q1
          injection q1 with q1
          subst q1
          exact World.block_lt_of_cell? wr ⟨xb, o2 + 0, none⟩ (hd2 0 (by omega))
        have HYl : Hid (yb < wr.heap.size) := by
          obtain ⟨_, _, a2, c2, hv2, _, hc2⟩ := HYr.out.ints
          obtain ⟨b2, o2, ha2, hd2⟩ := hc2 (by omega)
          injection hv2 with q1 _ _
          rw [ha2] at q1
          injection q1 with q1
          injection q1 with q1
          subst q1
          exact World.block_lt_of_cell? wr ⟨yb, o2 + 0, none⟩ (hd2 0 (by omega))
        clear HXr HYr
        have cx0 : wA.cell? ⟨xb, xo, none⟩ = some (.int .i64 x0) := hxd 0 (by omega)
        have cy0 : wA.cell? ⟨yb, yo, none⟩ = some (.int .i64 y0) := hyd 0 (by omega)
        have o0 : wA.cell? ⟨wr.heap.size, 0, none⟩ = some (.int .i64 7) := by rw [HOA.out.cell]; rfl
        obtain ⟨s0, f0⟩ := state_cell HSA.out 0 rfl
        obtain ⟨s2, f2⟩ := state_cell HSA.out 2 rfl
        clear jx1 jx2 jx3 hx2 jy1 jy2 jy3 hy2 hxc hyc hxd hyd
        refine wp_loop_rounds 2 ?_
        rw [rounds_succ]
        have HCX := Lib.hid cx0; have HCY := Lib.hid cy0
        have hxl : xb < wr.heap.size := HXl.out
        have hyl : yb < wr.heap.size := HYl.out
        have HXN : Hid (some xb ≠ some (wr.heap.size + 1)) := fun e => by injection e with e; omega
        have HYN : Hid (some yb ≠ some (wr.heap.size + 1)) := fun e => by injection e with e; omega
        have hxA : xb < wA.heap.size := by omega
        have hyA : yb < wA.heap.size := by omega
        clear cx0 cy0 s0 f0 s2 f2
        go_wp2
        apply Iy.wp_region 17 [13, 16] (fun _ => []) (Ix.Rb) (fun nn vs wi => Hid (wA.grownBy wi (some (wr.heap.size + 1)) ∧ Blk wi (wr.heap.size + 1) 27 (if nn = 0 then stC 0 0 0 0 0 0 0 0 false false false false 0 (.slice none 0 0) else if nn = 1 then stC x0 0 0 0 0 0 0 0 false false false false 0 (.slice none 0 0) else stC x0 0 y0 0 0 0 0 0 false false false false 0 (.slice none 0 0)))) (Iy.vp [(Iy.is (.int .i64 0)), (Iy.is (.int .i64 0)), (Iy.is (.int .i64 2)), (Iy.is _), (Iy.is (.int .i64 0)), (Iy.is (.pointer (some ⟨xb, xo, none⟩))), (Iy.is (.int .i64 x0)), (Iy.is _), (Iy.is (.int .i64 0)), (Iy.is (.pointer (some ⟨yb, yo, none⟩))), (Iy.is (.int .i64 y0)), (Iy.is (.pointer (some ⟨wr.heap.size + 1, 0, none⟩))), (Iy.is (.pointer (some ⟨wr.heap.size + 1, 0, none⟩))), (fun _ => True), (Iy.is (.pointer (some ⟨wr.heap.size + 1, 0, none⟩))), (Iy.is (.pointer (some ⟨wr.heap.size + 1, 2, none⟩))), (fun _ => True)]) (fun _ => false) (by kernel_rfl) (by kernel_rfl) (by kernel_rfl) (by kernel_rfl) (by kernel_rfl) (fun _ _ _ _ _ h => h) (fun _ => Below.refl _ _) (fun nn vs _ _ h hb => ⟨h.out.1.trans (grownBy_of_below hb), h.out.2.keep hb⟩) (fun _ _ => Iy.vp_keeps _ _ _ _) (Ix.not_al _) (fun vs => ⟨grownBy_of_below (Below.drew (Below.refl _ _)), HSA.out.drew⟩)
        case step =>
          refine Iy.steps_cons (n := 16) (i := 0) (j := 1) rfl rfl (Iy.stepI_ofN [] (by kernel_rfl) (by kernel_rfl) (fun nph vsp wi HB => ?_)) ?_
          (· (refine Iv.askN_nil ?_; (try simp only [Act.put, List.setIfInBounds_toArray, List.set_cons_zero, List.set_cons_succ]); refine Iy.goI_yes rfl rfl ?_; intro K hK; (try simp only [Act.put, List.setIfInBounds_toArray, List.set_cons_zero, List.set_cons_succ] at hK); go_wp2_with (first | fail); exact hK _ _ (Below.refl _ _) rfl))
          refine Iy.steps_cons (n := 15) (i := 1) (j := 2) rfl rfl (Iy.stepI_ofN [] (by kernel_rfl) (by kernel_rfl) (fun nph vsp wi HB => ?_)) ?_
          (· (refine Iv.askN_nil ?_; (try simp only [Act.put, List.setIfInBounds_toArray, List.set_cons_zero, List.set_cons_succ]); refine Iy.goI_yes rfl rfl ?_; intro K hK; (try simp only [Act.put, List.setIfInBounds_toArray, List.set_cons_zero, List.set_cons_succ] at hK); go_wp2_with (first | fail); exact hK _ _ (Below.refl _ _) rfl))
          refine Iy.steps_cons (n := 14) (i := 2) (j := 3) rfl rfl (Iy.stepI_ofN [(1, some 66)] (by kernel_rfl) (by kernel_rfl) (fun nph vsp wi HB => ?_)) ?_
          (· (refine Iv.askN_cons ?_; rintro _ rfl; refine Iv.askN_nil ?_; (try simp only [Act.put, List.setIfInBounds_toArray, List.set_cons_zero, List.set_cons_succ]); refine Iy.goI_yes rfl rfl ?_; intro K hK; (try simp only [Act.put, List.setIfInBounds_toArray, List.set_cons_zero, List.set_cons_succ] at hK); go_wp2_with (first | fail); exact hK _ _ (Below.refl _ _) rfl))
          refine Iy.steps_cons (n := 13) (i := 3) (j := 4) rfl rfl (Iy.stepI_ofN [] (by kernel_rfl) (by kernel_rfl) (fun nph vsp wi HB => ?_)) ?_
          (· (refine Iv.askN_nil ?_; (try simp only [Act.put, List.setIfInBounds_toArray, List.set_cons_zero, List.set_cons_succ]); refine Iy.goI_yes rfl rfl ?_; intro K hK; (try simp only [Act.put, List.setIfInBounds_toArray, List.set_cons_zero, List.set_cons_succ] at hK); go_wp2_with (first | fail); exact hK _ _ (Below.refl _ _) rfl))
          refine Iy.steps_cons (n := 12) (i := 4) (j := 5) rfl rfl (Iy.stepI_ofN [] (by kernel_rfl) (by kernel_rfl) (fun nph vsp wi HB => ?_)) ?_
          (· (refine Iv.askN_nil ?_; (try simp only [Act.put, List.setIfInBounds_toArray, List.set_cons_zero, List.set_cons_succ]); refine Iy.goI_yes rfl rfl ?_; intro K hK; (try simp only [Act.put, List.setIfInBounds_toArray, List.set_cons_zero, List.set_cons_succ] at hK); go_wp2_with (first | fail); exact hK _ _ (Below.refl _ _) rfl))
          refine Iy.steps_cons (n := 11) (i := 5) (j := 6) rfl rfl (Iy.stepI_ofN [(3, some 68), (4, some 69)] (by kernel_rfl) (by kernel_rfl) (fun nph vsp wi HB => ?_)) ?_
          (· (refine Iv.askN_cons ?_; rintro _ rfl; refine Iv.askN_cons ?_; rintro _ rfl; refine Iv.askN_nil ?_; (try simp only [Act.put, List.setIfInBounds_toArray, List.set_cons_zero, List.set_cons_succ]); refine Iy.goI_yes rfl rfl ?_; intro K hK; (try simp only [Act.put, List.setIfInBounds_toArray, List.set_cons_zero, List.set_cons_succ] at hK); go_wp2_with (first | fail); exact hK _ _ (Below.refl _ _) rfl))
          refine Iy.steps_cons (n := 10) (i := 6) (j := 7) rfl rfl (Iy.stepI_ofN [(5, some 70)] (by kernel_rfl) (by kernel_rfl) (fun nph vsp wi HB => ?_)) ?_
          (· (refine Iv.askN_cons ?_; rintro _ rfl; refine Iv.askN_nil ?_; have kx : wi.cell? ⟨xb, xo, none⟩ = some (.int .i64 x0) := ((HB.out.1.cell_far ⟨xb, xo, none⟩ hxA HXN.out).trans HCX.out); (try simp only [Act.put, List.setIfInBounds_toArray, List.set_cons_zero, List.set_cons_succ]); refine Iy.goI_yes rfl rfl ?_; intro K hK; (try simp only [Act.put, List.setIfInBounds_toArray, List.set_cons_zero, List.set_cons_succ] at hK); go_wp2_with (first | fail); exact hK _ _ (Below.refl _ _) rfl))
          refine Iy.steps_cons (n := 9) (i := 7) (j := 8) rfl rfl (Iy.stepI_ofN [] (by kernel_rfl) (by kernel_rfl) (fun nph vsp wi HB => ?_)) ?_
          (· (refine Iv.askN_nil ?_; (try simp only [Act.put, List.setIfInBounds_toArray, List.set_cons_zero, List.set_cons_succ]); refine Iy.goI_yes rfl rfl ?_; intro K hK; (try simp only [Act.put, List.setIfInBounds_toArray, List.set_cons_zero, List.set_cons_succ] at hK); go_wp2_with (first | fail); exact hK _ _ (Below.refl _ _) rfl))
          refine Iy.steps_cons (n := 8) (i := 8) (j := 9) rfl rfl (Iy.stepI_ofN [] (by kernel_rfl) (by kernel_rfl) (fun nph vsp wi HB => ?_)) ?_
          (· (refine Iv.askN_nil ?_; (try simp only [Act.put, List.setIfInBounds_toArray, List.set_cons_zero, List.set_cons_succ]); refine Iy.goI_yes rfl rfl ?_; intro K hK; (try simp only [Act.put, List.setIfInBounds_toArray, List.set_cons_zero, List.set_cons_succ] at hK); go_wp2_with (first | fail); exact hK _ _ (Below.refl _ _) rfl))
          refine Iy.steps_cons (n := 7) (i := 9) (j := 10) rfl rfl (Iy.stepI_ofN [(7, some 72), (8, some 73)] (by kernel_rfl) (by kernel_rfl) (fun nph vsp wi HB => ?_)) ?_
          (· (refine Iv.askN_cons ?_; rintro _ rfl; refine Iv.askN_cons ?_; rintro _ rfl; refine Iv.askN_nil ?_; (try simp only [Act.put, List.setIfInBounds_toArray, List.set_cons_zero, List.set_cons_succ]); refine Iy.goI_yes rfl rfl ?_; intro K hK; (try simp only [Act.put, List.setIfInBounds_toArray, List.set_cons_zero, List.set_cons_succ] at hK); go_wp2_with (first | fail); exact hK _ _ (Below.refl _ _) rfl))
          refine Iy.steps_cons (n := 6) (i := 10) (j := 11) rfl rfl (Iy.stepI_ofN [(9, some 74)] (by kernel_rfl) (by kernel_rfl) (fun nph vsp wi HB => ?_)) ?_
          (· (refine Iv.askN_cons ?_; rintro _ rfl; refine Iv.askN_nil ?_; have ky : wi.cell? ⟨yb, yo, none⟩ = some (.int .i64 y0) := ((HB.out.1.cell_far ⟨yb, yo, none⟩ hyA HYN.out).trans HCY.out); (try simp only [Act.put, List.setIfInBounds_toArray, List.set_cons_zero, List.set_cons_succ]); refine Iy.goI_yes rfl rfl ?_; intro K hK; (try simp only [Act.put, List.setIfInBounds_toArray, List.set_cons_zero, List.set_cons_succ] at hK); go_wp2_with (first | fail); exact hK _ _ (Below.refl _ _) rfl))
          refine Iy.steps_cons (n := 5) (i := 11) (j := 12) rfl rfl (Iy.stepI_ofN [] (by kernel_rfl) (by kernel_rfl) (fun nph vsp wi HB => ?_)) ?_
          (· (refine Iv.askN_nil ?_; (try simp only [Act.put, List.setIfInBounds_toArray, List.set_cons_zero, List.set_cons_succ]); refine Iy.goI_yes rfl rfl ?_; intro K hK; (try simp only [Act.put, List.setIfInBounds_toArray, List.set_cons_zero, List.set_cons_succ] at hK); go_wp2_with (first | fail); exact hK _ _ (Below.refl _ _) rfl))
          refine Iy.steps_cons (n := 4) (i := 12) (j := 13) rfl rfl (Iy.stepI_ofN [(0, some 65), (11, some 76)] (by kernel_rfl) (by kernel_rfl) (fun nph vsp wi HB => ?_)) ?_
          (· (refine Iv.askN_cons ?_; rintro _ rfl; refine Iv.askN_cons ?_; rintro _ rfl; refine Iv.askN_nil ?_; (try simp only [Act.put, List.setIfInBounds_toArray, List.set_cons_zero, List.set_cons_succ]); refine Iy.goI_yes rfl rfl ?_; intro K hK; (try simp only [Act.put, List.setIfInBounds_toArray, List.set_cons_zero, List.set_cons_succ] at hK); go_wp2_with (first | fail); exact hK _ _ (Below.refl _ _) rfl))
          refine Iy.steps_cons (n := 3) (i := 13) (j := 14) rfl rfl (Iy.stepI_ofC 0 [(6, some 71), (12, some 77)] (by kernel_rfl) (by kernel_rfl) (fun vsp wi HB => ?_)) ?_
          (· (refine Iv.askN_cons ?_; rintro _ ⟨rfl, ev6⟩; refine Iv.askN_cons ?_; rintro _ ⟨rfl, ev12⟩; refine Iv.askN_nil ?_; obtain ⟨s0, f0⟩ := state_cell HB.out.2 0 rfl; (try simp only [Act.put, List.setIfInBounds_toArray, List.set_cons_zero, List.set_cons_succ]); refine Iy.goI_yes rfl rfl ?_; intro K hK; (try simp only [Act.put, List.setIfInBounds_toArray, List.set_cons_zero, List.set_cons_succ] at hK); go_wp2_with (first | fail); exact hK undef _ ⟨⟨World.grownBy.trans HB.out.1 (grown_setCell' _ _ _ _), HB.out.2.set_ 0 _⟩, fun _ _ h => h⟩ trivial))
          refine Iy.steps_cons (n := 2) (i := 14) (j := 15) rfl rfl (Iy.stepI_ofN [] (by kernel_rfl) (by kernel_rfl) (fun nph vsp wi HB => ?_)) ?_
          (· (refine Iv.askN_nil ?_; (try simp only [Act.put, List.setIfInBounds_toArray, List.set_cons_zero, List.set_cons_succ]); refine Iy.goI_yes rfl rfl ?_; intro K hK; (try simp only [Act.put, List.setIfInBounds_toArray, List.set_cons_zero, List.set_cons_succ] at hK); go_wp2_with (first | fail); exact hK _ _ (Below.refl _ _) rfl))
          refine Iy.steps_cons (n := 1) (i := 15) (j := 16) rfl rfl (Iy.stepI_ofN [(2, some 67), (14, some 78)] (by kernel_rfl) (by kernel_rfl) (fun nph vsp wi HB => ?_)) ?_
          (· (refine Iv.askN_cons ?_; rintro _ rfl; refine Iv.askN_cons ?_; rintro _ rfl; refine Iv.askN_nil ?_; (try simp only [Act.put, List.setIfInBounds_toArray, List.set_cons_zero, List.set_cons_succ]); refine Iy.goI_yes rfl rfl ?_; intro K hK; (try simp only [Act.put, List.setIfInBounds_toArray, List.set_cons_zero, List.set_cons_succ] at hK); go_wp2_with (first | fail); exact hK _ _ (Below.refl _ _) rfl))
          refine Iy.steps_cons (n := 0) (i := 16) (j := 17) rfl rfl (Iy.stepI_ofC 1 [(10, some 75), (15, some 79)] (by kernel_rfl) (by kernel_rfl) (fun vsp wi HB => ?_)) ?_
          (· (refine Iv.askN_cons ?_; rintro _ ⟨rfl, ev10⟩; refine Iv.askN_cons ?_; rintro _ ⟨rfl, ev15⟩; refine Iv.askN_nil ?_; obtain ⟨s2, f2⟩ := state_cell HB.out.2 2 rfl; (try simp only [Act.put, List.setIfInBounds_toArray, List.set_cons_zero, List.set_cons_succ]); refine Iy.goI_yes rfl rfl ?_; intro K hK; (try simp only [Act.put, List.setIfInBounds_toArray, List.set_cons_zero, List.set_cons_succ] at hK); go_wp2_with (first | fail); exact hK undef _ ⟨⟨World.grownBy.trans HB.out.1 (grown_setCell' _ _ _ _), HB.out.2.set_ 2 _⟩, fun _ _ h => h⟩ trivial))
          exact Iy.steps_nil
        intro vsf wf HF hdf
        refine Ix.allV_cons (n := 16) (j := 0) (k := 1) rfl rfl ?_; rintro _ _ rfl; refine Ix.allV_cons (n := 15) (j := 1) (k := 2) rfl rfl ?_; rintro _ _ rfl; refine Ix.allV_cons (n := 14) (j := 2) (k := 3) rfl rfl ?_; rintro _ _ rfl; refine Ix.allV_cons (n := 13) (j := 3) (k := 4) rfl rfl ?_; rintro _ _ rfl; refine Ix.allV_cons (n := 12) (j := 4) (k := 5) rfl rfl ?_; rintro _ _ rfl; refine Ix.allV_cons (n := 11) (j := 5) (k := 6) rfl rfl ?_; rintro _ _ rfl; refine Ix.allV_cons (n := 10) (j := 6) (k := 7) rfl rfl ?_; rintro _ _ rfl; refine Ix.allV_cons (n := 9) (j := 7) (k := 8) rfl rfl ?_; rintro _ _ rfl; refine Ix.allV_cons (n := 8) (j := 8) (k := 9) rfl rfl ?_; rintro _ _ rfl; refine Ix.allV_cons (n := 7) (j := 9) (k := 10) rfl rfl ?_; rintro _ _ rfl; refine Ix.allV_cons (n := 6) (j := 10) (k := 11) rfl rfl ?_; rintro _ _ rfl; refine Ix.allV_cons (n := 5) (j := 11) (k := 12) rfl rfl ?_; rintro _ _ rfl; refine Ix.allV_cons (n := 4) (j := 12) (k := 13) rfl rfl ?_; rintro _ _ rfl; refine Ix.allV_cons (n := 3) (j := 13) (k := 14) rfl rfl ?_; rintro _ _ _; refine Ix.allV_cons (n := 2) (j := 14) (k := 15) rfl rfl ?_; rintro _ _ rfl; refine Ix.allV_cons (n := 1) (j := 15) (k := 16) rfl rfl ?_; rintro _ _ rfl; refine Ix.allV_cons (n := 0) (j := 16) (k := 17) rfl rfl ?_; rintro _ _ _
        refine Ix.allV_nil ?_
        (try simp only [Act.put, List.setIfInBounds_toArray, List.set_cons_zero, List.set_cons_succ, List.drop_succ_cons, List.drop_zero])
        refine Ix.nil ?_
        have HGf : Hid (wA.grownBy wf (some (wr.heap.size + 1))) := HF.out.1
        have HSf : Hid (Blk wf (wr.heap.size + 1) 27 (stC x0 0 y0 0 0 0 0 0 false false false false 0 (.slice none 0 0))) := HF.out.2
        have HOf : Hid (Blk wf wr.heap.size 63 #[.int .i64 7, .int .i64 8]) := HOA.out.grown HGf.out (fun e => by injection e with e; omega)
        have o1 : wf.cell? ⟨wr.heap.size, 0, none⟩ = some (.int .i64 7) := by rw [HOf.out.cell]; rfl
        have hzf : wr.heap.size + 2 ≤ wf.heap.size := by have := HGf.out.size; omega
        have HZf : Hid (wr.heap.size ≤ wf.heap.size) := by show wr.heap.size ≤ wf.heap.size; omega
        have HK2 : Hid (1 ≤ 2) := by show 1 ≤ 2; omega
        have HZl : Hid (wr.heap.size ≤ wf.heap.size) := by show wr.heap.size ≤ wf.heap.size; omega
        have HBf : Hid (Below wr.heap.size wr wf) := Below.trans HBA.out (grown_below HGf.out (by omega) (fun k hk => by injection hk with hk; omega))
        have HON : Hid (wf.ownsRow wf.heap.size 43 4 (.slice none 0 0) 0 (insR [])) := World.ownsRow_nil _ _ _ _
        have HK1 : Hid (0 + 1 ≤ 100000) := by show 0 + 1 ≤ 100000; omega
        clear HF HOA HSA HBA HXA HYA o0 hdf
        go_wp2_with (first | (at_builtin; refine wpList_app_ins rfl _ _ rfl wf.heap.size (.slice none 0 0) 0 1 [] _ [⟨7, 0, 2, 0⟩] #[.int .i64 7, .int .i64 0, .int .i64 2, .int .i64 0] rfl rfl (HON.out.alloc _) (Blk.new _ _ _) rfl rfl HK1.out (Nat.le_of_lt (lt_alloc _ _)) ?_; intro a1 c1 wB hoB hgB hatB; have HUB := Lib.hid hoB; have HSB := Lib.hid (blk_alloc HSf.out HON.out ne_state hgB); have HBZ := low_alloc2 HBf.out HZf.out (Nat.le_refl _) HON.out hgB; have HBB := Lib.hid HBZ.1; have HZB := Lib.hid HBZ.2; clear hoB hgB hatB HBZ))
        rw [rounds_succ]
        have hww : (WS != WS) = false := by simp
        clear HGf HSf HOf o1 HZf HBf HON
        go_wp2_with (first | (refine wpList_load_row rfl 27 _ rfl (wr.heap.size + 1) rfl 27 (stC x0 0 y0 0 0 0 0 0 false false false false 0 (.slice none 0 0)) (0, 0) _ HSB.out Try.underlying27 rfl (by kernel_rfl) ?_) | (go_at_call 23; refine (HR7.out _ _ _ HUB.out HZB.out).mono ?_; rintro e wC ⟨oa, oc, za, zn, zc, rfl, hgC⟩; have HBC := Lib.hid (low_le HBB.out (Nat.le_trans HZl.out HZB.out) hgC (own_low (own_mono HZl.out HUB.out))); have HZC := Lib.hid (Nat.le_trans HZB.out hgC.size); clear hgC) | (refine wpList_store_row rfl 30 _ _ rfl wC.heap.size (ranL F7 (.slice oa 0 oc) (.slice za zn zc)).toArray rfl rfl 30 ranZc (Blk.new _ _ _) (by kernel_rfl) rfl (ranL_one _ _ _ _ _ _ _) ?_; generalize hwD : (wC.alloc (Obj.cells ranZc 30)).setRow wC.heap.size (ranL F7 (.slice oa 0 oc) (.slice za zn zc)).toArray = wD; have HBD := Lib.hid ((by rw [← hwD]; exact Below.row (Ext.alloc (Below.refl _ _) _) (Nat.le_refl _) _ : Below wC.heap.size wC wD)); have HRD := Lib.hid ((by rw [← hwD]; exact (Blk.new wC _ _).row _ : Blk wD wC.heap.size 30 (ranL F7 (.slice oa 0 oc) (.slice za zn zc)).toArray)); have HBW := Lib.hid (Ext.trans HBC.out HBD.out); clear hwD) | (go_at_call 28; refine (HJ7.out _ _ (ran_regs2 HRD.out 1 HK2.out)).mono ?_; rintro e wE ⟨rfl, rfl⟩) | (go_at_call 31; refine (HCA.out _).mono ?_; rintro e wE ⟨rfl, rfl⟩) | (refine wpList_load_sub rfl 25 _ rfl wC.heap.size 13 rfl 30 (ranL F7 (.slice oa 0 oc) (.slice za zn zc)).toArray [.bool F7.c, .bool F7.z, .bool F7.n, .bool F7.v] _ HRD.out rfl Try.underlying25 rfl (by kernel_rfl) ?_) | (go_at_call 32; refine (HCS.out _).mono ?_; rintro e wE ⟨rfl, rfl⟩))
        all_goals first | exact ⟨⟨2, by omega, rfl, Ext.alloc (Ext.trans hbw.out HBW.out) _⟩, by simp [intOf]⟩ | (rename_i hbad; exact absurd (by cases F12.n <;> cases F12.v <;> rfl) hbad)
      · clear hk hlt
        go_wp2_with (first | (refine wpList_load_sub rfl 63 _ rfl w3.heap.size 4 rfl 63 #[.int .i64 5, .int .i64 6, .int .i64 7, .int .i64 8, .int .i64 12, .int .i64 13] [.int .i64 12, .int .i64 13] _ HPr.out rfl Try.underlying63 rfl (by kernel_rfl) ?_))
        generalize hwA : (wr.alloc (Obj.cells #[.int .i64 12, .int .i64 13] 63)).alloc (Obj.cells (stC 0 0 0 0 0 0 0 0 false false false false 0 (.slice none 0 0)) 27) = wA
        have hszA : wA.heap.size = wr.heap.size + 2 := by rw [← hwA]; simp
        have HOA : Hid (Blk wA wr.heap.size 63 #[.int .i64 12, .int .i64 13]) := by rw [← hwA]; exact (Blk.new _ _ _).keep (Ext.alloc (Below.refl _ _) _)
        have HSA : Hid (Blk wA (wr.heap.size + 1) 27 (stC 0 0 0 0 0 0 0 0 false false false false 0 (.slice none 0 0))) := by
          rw [← hwA]
          have := Blk.new (wr.alloc (Obj.cells #[.int .i64 12, .int .i64 13] 63)) 27 (stC 0 0 0 0 0 0 0 0 false false false false 0 (.slice none 0 0))
          show Blk _ _ _ _
          simpa using this
        have HBA : Hid (Below wr.heap.size wr wA) := by rw [← hwA]; exact Ext.alloc (Ext.alloc (Below.refl _ _) _) _
        have HXA := Lib.hid (HXr.out.below HBA.out)
        have HYA := Lib.hid (HYr.out.below HBA.out)
        clear hwA HPr
        obtain ⟨jx1, jx2, xa', xc', hxv, jx3, hxc⟩ := HXA.out.ints
        injection hxv with hx1 hx2 hx3
        subst hx1; subst hx3
        obtain ⟨xb, xo, rfl, hxd⟩ := hxc (by omega)
        obtain ⟨jy1, jy2, ya', yc', hyv, jy3, hyc⟩ := HYA.out.ints
        injection hyv with hy1 hy2 hy3
        subst hy1; subst hy3
        obtain ⟨yb, yo, rfl, hyd⟩ := hyc (by omega)
        have HXl : Hid (xb < wr.heap.size) := by
          obtain ⟨_, _, a2, c2, hv2, _, hc2⟩ := HXr.out.ints
          obtain ⟨b2, o2, ha2, hd2⟩ := hc2 (by omega)
          injection hv2 with q1 _ _
          rw [ha2] at q1
          injection q1 with q1
          injection q1 with q1
          subst q1
          exact World.block_lt_of_cell? wr ⟨xb, o2 + 0, none⟩ (hd2 0 (by omega))
        have HYl : Hid (yb < wr.heap.size) := by
          obtain ⟨_, _, a2, c2, hv2, _, hc2⟩ := HYr.out.ints
          obtain ⟨b2, o2, ha2, hd2⟩ := hc2 (by omega)
          injection hv2 with q1 _ _
          rw [ha2] at q1
          injection q1 with q1
          injection q1 with q1
          subst q1
          exact World.block_lt_of_cell? wr ⟨yb, o2 + 0, none⟩ (hd2 0 (by omega))
        clear HXr HYr
        have cx0 : wA.cell? ⟨xb, xo, none⟩ = some (.int .i64 x0) := hxd 0 (by omega)
        have cy0 : wA.cell? ⟨yb, yo, none⟩ = some (.int .i64 y0) := hyd 0 (by omega)
        have o0 : wA.cell? ⟨wr.heap.size, 0, none⟩ = some (.int .i64 12) := by rw [HOA.out.cell]; rfl
        obtain ⟨s0, f0⟩ := state_cell HSA.out 0 rfl
        obtain ⟨s2, f2⟩ := state_cell HSA.out 2 rfl
        clear jx1 jx2 jx3 hx2 jy1 jy2 jy3 hy2 hxc hyc hxd hyd
        refine wp_loop_rounds 2 ?_
        rw [rounds_succ]
        have HCX := Lib.hid cx0; have HCY := Lib.hid cy0
        have hxl : xb < wr.heap.size := HXl.out
        have hyl : yb < wr.heap.size := HYl.out
        have HXN : Hid (some xb ≠ some (wr.heap.size + 1)) := fun e => by injection e with e; omega
        have HYN : Hid (some yb ≠ some (wr.heap.size + 1)) := fun e => by injection e with e; omega
        have hxA : xb < wA.heap.size := by omega
        have hyA : yb < wA.heap.size := by omega
        clear cx0 cy0 s0 f0 s2 f2
        go_wp2
        apply Iy.wp_region 17 [13, 16] (fun _ => []) (Ix.Rb) (fun nn vs wi => Hid (wA.grownBy wi (some (wr.heap.size + 1)) ∧ Blk wi (wr.heap.size + 1) 27 (if nn = 0 then stC 0 0 0 0 0 0 0 0 false false false false 0 (.slice none 0 0) else if nn = 1 then stC x0 0 0 0 0 0 0 0 false false false false 0 (.slice none 0 0) else stC x0 0 y0 0 0 0 0 0 false false false false 0 (.slice none 0 0)))) (Iy.vp [(Iy.is (.int .i64 0)), (Iy.is (.int .i64 0)), (Iy.is (.int .i64 2)), (Iy.is _), (Iy.is (.int .i64 0)), (Iy.is (.pointer (some ⟨xb, xo, none⟩))), (Iy.is (.int .i64 x0)), (Iy.is _), (Iy.is (.int .i64 0)), (Iy.is (.pointer (some ⟨yb, yo, none⟩))), (Iy.is (.int .i64 y0)), (Iy.is (.pointer (some ⟨wr.heap.size + 1, 0, none⟩))), (Iy.is (.pointer (some ⟨wr.heap.size + 1, 0, none⟩))), (fun _ => True), (Iy.is (.pointer (some ⟨wr.heap.size + 1, 0, none⟩))), (Iy.is (.pointer (some ⟨wr.heap.size + 1, 2, none⟩))), (fun _ => True)]) (fun _ => false) (by kernel_rfl) (by kernel_rfl) (by kernel_rfl) (by kernel_rfl) (by kernel_rfl) (fun _ _ _ _ _ h => h) (fun _ => Below.refl _ _) (fun nn vs _ _ h hb => ⟨h.out.1.trans (grownBy_of_below hb), h.out.2.keep hb⟩) (fun _ _ => Iy.vp_keeps _ _ _ _) (Ix.not_al _) (fun vs => ⟨grownBy_of_below (Below.drew (Below.refl _ _)), HSA.out.drew⟩)
        case step =>
          refine Iy.steps_cons (n := 16) (i := 0) (j := 1) rfl rfl (Iy.stepI_ofN [] (by kernel_rfl) (by kernel_rfl) (fun nph vsp wi HB => ?_)) ?_
          (· (refine Iv.askN_nil ?_; (try simp only [Act.put, List.setIfInBounds_toArray, List.set_cons_zero, List.set_cons_succ]); refine Iy.goI_yes rfl rfl ?_; intro K hK; (try simp only [Act.put, List.setIfInBounds_toArray, List.set_cons_zero, List.set_cons_succ] at hK); go_wp2_with (first | fail); exact hK _ _ (Below.refl _ _) rfl))
          refine Iy.steps_cons (n := 15) (i := 1) (j := 2) rfl rfl (Iy.stepI_ofN [] (by kernel_rfl) (by kernel_rfl) (fun nph vsp wi HB => ?_)) ?_
          (· (refine Iv.askN_nil ?_; (try simp only [Act.put, List.setIfInBounds_toArray, List.set_cons_zero, List.set_cons_succ]); refine Iy.goI_yes rfl rfl ?_; intro K hK; (try simp only [Act.put, List.setIfInBounds_toArray, List.set_cons_zero, List.set_cons_succ] at hK); go_wp2_with (first | fail); exact hK _ _ (Below.refl _ _) rfl))
          refine Iy.steps_cons (n := 14) (i := 2) (j := 3) rfl rfl (Iy.stepI_ofN [(1, some 66)] (by kernel_rfl) (by kernel_rfl) (fun nph vsp wi HB => ?_)) ?_
          (· (refine Iv.askN_cons ?_; rintro _ rfl; refine Iv.askN_nil ?_; (try simp only [Act.put, List.setIfInBounds_toArray, List.set_cons_zero, List.set_cons_succ]); refine Iy.goI_yes rfl rfl ?_; intro K hK; (try simp only [Act.put, List.setIfInBounds_toArray, List.set_cons_zero, List.set_cons_succ] at hK); go_wp2_with (first | fail); exact hK _ _ (Below.refl _ _) rfl))
          refine Iy.steps_cons (n := 13) (i := 3) (j := 4) rfl rfl (Iy.stepI_ofN [] (by kernel_rfl) (by kernel_rfl) (fun nph vsp wi HB => ?_)) ?_
          (· (refine Iv.askN_nil ?_; (try simp only [Act.put, List.setIfInBounds_toArray, List.set_cons_zero, List.set_cons_succ]); refine Iy.goI_yes rfl rfl ?_; intro K hK; (try simp only [Act.put, List.setIfInBounds_toArray, List.set_cons_zero, List.set_cons_succ] at hK); go_wp2_with (first | fail); exact hK _ _ (Below.refl _ _) rfl))
          refine Iy.steps_cons (n := 12) (i := 4) (j := 5) rfl rfl (Iy.stepI_ofN [] (by kernel_rfl) (by kernel_rfl) (fun nph vsp wi HB => ?_)) ?_
          (· (refine Iv.askN_nil ?_; (try simp only [Act.put, List.setIfInBounds_toArray, List.set_cons_zero, List.set_cons_succ]); refine Iy.goI_yes rfl rfl ?_; intro K hK; (try simp only [Act.put, List.setIfInBounds_toArray, List.set_cons_zero, List.set_cons_succ] at hK); go_wp2_with (first | fail); exact hK _ _ (Below.refl _ _) rfl))
          refine Iy.steps_cons (n := 11) (i := 5) (j := 6) rfl rfl (Iy.stepI_ofN [(3, some 68), (4, some 69)] (by kernel_rfl) (by kernel_rfl) (fun nph vsp wi HB => ?_)) ?_
          (· (refine Iv.askN_cons ?_; rintro _ rfl; refine Iv.askN_cons ?_; rintro _ rfl; refine Iv.askN_nil ?_; (try simp only [Act.put, List.setIfInBounds_toArray, List.set_cons_zero, List.set_cons_succ]); refine Iy.goI_yes rfl rfl ?_; intro K hK; (try simp only [Act.put, List.setIfInBounds_toArray, List.set_cons_zero, List.set_cons_succ] at hK); go_wp2_with (first | fail); exact hK _ _ (Below.refl _ _) rfl))
          refine Iy.steps_cons (n := 10) (i := 6) (j := 7) rfl rfl (Iy.stepI_ofN [(5, some 70)] (by kernel_rfl) (by kernel_rfl) (fun nph vsp wi HB => ?_)) ?_
          (· (refine Iv.askN_cons ?_; rintro _ rfl; refine Iv.askN_nil ?_; have kx : wi.cell? ⟨xb, xo, none⟩ = some (.int .i64 x0) := ((HB.out.1.cell_far ⟨xb, xo, none⟩ hxA HXN.out).trans HCX.out); (try simp only [Act.put, List.setIfInBounds_toArray, List.set_cons_zero, List.set_cons_succ]); refine Iy.goI_yes rfl rfl ?_; intro K hK; (try simp only [Act.put, List.setIfInBounds_toArray, List.set_cons_zero, List.set_cons_succ] at hK); go_wp2_with (first | fail); exact hK _ _ (Below.refl _ _) rfl))
          refine Iy.steps_cons (n := 9) (i := 7) (j := 8) rfl rfl (Iy.stepI_ofN [] (by kernel_rfl) (by kernel_rfl) (fun nph vsp wi HB => ?_)) ?_
          (· (refine Iv.askN_nil ?_; (try simp only [Act.put, List.setIfInBounds_toArray, List.set_cons_zero, List.set_cons_succ]); refine Iy.goI_yes rfl rfl ?_; intro K hK; (try simp only [Act.put, List.setIfInBounds_toArray, List.set_cons_zero, List.set_cons_succ] at hK); go_wp2_with (first | fail); exact hK _ _ (Below.refl _ _) rfl))
          refine Iy.steps_cons (n := 8) (i := 8) (j := 9) rfl rfl (Iy.stepI_ofN [] (by kernel_rfl) (by kernel_rfl) (fun nph vsp wi HB => ?_)) ?_
          (· (refine Iv.askN_nil ?_; (try simp only [Act.put, List.setIfInBounds_toArray, List.set_cons_zero, List.set_cons_succ]); refine Iy.goI_yes rfl rfl ?_; intro K hK; (try simp only [Act.put, List.setIfInBounds_toArray, List.set_cons_zero, List.set_cons_succ] at hK); go_wp2_with (first | fail); exact hK _ _ (Below.refl _ _) rfl))
          refine Iy.steps_cons (n := 7) (i := 9) (j := 10) rfl rfl (Iy.stepI_ofN [(7, some 72), (8, some 73)] (by kernel_rfl) (by kernel_rfl) (fun nph vsp wi HB => ?_)) ?_
          (· (refine Iv.askN_cons ?_; rintro _ rfl; refine Iv.askN_cons ?_; rintro _ rfl; refine Iv.askN_nil ?_; (try simp only [Act.put, List.setIfInBounds_toArray, List.set_cons_zero, List.set_cons_succ]); refine Iy.goI_yes rfl rfl ?_; intro K hK; (try simp only [Act.put, List.setIfInBounds_toArray, List.set_cons_zero, List.set_cons_succ] at hK); go_wp2_with (first | fail); exact hK _ _ (Below.refl _ _) rfl))
          refine Iy.steps_cons (n := 6) (i := 10) (j := 11) rfl rfl (Iy.stepI_ofN [(9, some 74)] (by kernel_rfl) (by kernel_rfl) (fun nph vsp wi HB => ?_)) ?_
          (· (refine Iv.askN_cons ?_; rintro _ rfl; refine Iv.askN_nil ?_; have ky : wi.cell? ⟨yb, yo, none⟩ = some (.int .i64 y0) := ((HB.out.1.cell_far ⟨yb, yo, none⟩ hyA HYN.out).trans HCY.out); (try simp only [Act.put, List.setIfInBounds_toArray, List.set_cons_zero, List.set_cons_succ]); refine Iy.goI_yes rfl rfl ?_; intro K hK; (try simp only [Act.put, List.setIfInBounds_toArray, List.set_cons_zero, List.set_cons_succ] at hK); go_wp2_with (first | fail); exact hK _ _ (Below.refl _ _) rfl))
          refine Iy.steps_cons (n := 5) (i := 11) (j := 12) rfl rfl (Iy.stepI_ofN [] (by kernel_rfl) (by kernel_rfl) (fun nph vsp wi HB => ?_)) ?_
          (· (refine Iv.askN_nil ?_; (try simp only [Act.put, List.setIfInBounds_toArray, List.set_cons_zero, List.set_cons_succ]); refine Iy.goI_yes rfl rfl ?_; intro K hK; (try simp only [Act.put, List.setIfInBounds_toArray, List.set_cons_zero, List.set_cons_succ] at hK); go_wp2_with (first | fail); exact hK _ _ (Below.refl _ _) rfl))
          refine Iy.steps_cons (n := 4) (i := 12) (j := 13) rfl rfl (Iy.stepI_ofN [(0, some 65), (11, some 76)] (by kernel_rfl) (by kernel_rfl) (fun nph vsp wi HB => ?_)) ?_
          (· (refine Iv.askN_cons ?_; rintro _ rfl; refine Iv.askN_cons ?_; rintro _ rfl; refine Iv.askN_nil ?_; (try simp only [Act.put, List.setIfInBounds_toArray, List.set_cons_zero, List.set_cons_succ]); refine Iy.goI_yes rfl rfl ?_; intro K hK; (try simp only [Act.put, List.setIfInBounds_toArray, List.set_cons_zero, List.set_cons_succ] at hK); go_wp2_with (first | fail); exact hK _ _ (Below.refl _ _) rfl))
          refine Iy.steps_cons (n := 3) (i := 13) (j := 14) rfl rfl (Iy.stepI_ofC 0 [(6, some 71), (12, some 77)] (by kernel_rfl) (by kernel_rfl) (fun vsp wi HB => ?_)) ?_
          (· (refine Iv.askN_cons ?_; rintro _ ⟨rfl, ev6⟩; refine Iv.askN_cons ?_; rintro _ ⟨rfl, ev12⟩; refine Iv.askN_nil ?_; obtain ⟨s0, f0⟩ := state_cell HB.out.2 0 rfl; (try simp only [Act.put, List.setIfInBounds_toArray, List.set_cons_zero, List.set_cons_succ]); refine Iy.goI_yes rfl rfl ?_; intro K hK; (try simp only [Act.put, List.setIfInBounds_toArray, List.set_cons_zero, List.set_cons_succ] at hK); go_wp2_with (first | fail); exact hK undef _ ⟨⟨World.grownBy.trans HB.out.1 (grown_setCell' _ _ _ _), HB.out.2.set_ 0 _⟩, fun _ _ h => h⟩ trivial))
          refine Iy.steps_cons (n := 2) (i := 14) (j := 15) rfl rfl (Iy.stepI_ofN [] (by kernel_rfl) (by kernel_rfl) (fun nph vsp wi HB => ?_)) ?_
          (· (refine Iv.askN_nil ?_; (try simp only [Act.put, List.setIfInBounds_toArray, List.set_cons_zero, List.set_cons_succ]); refine Iy.goI_yes rfl rfl ?_; intro K hK; (try simp only [Act.put, List.setIfInBounds_toArray, List.set_cons_zero, List.set_cons_succ] at hK); go_wp2_with (first | fail); exact hK _ _ (Below.refl _ _) rfl))
          refine Iy.steps_cons (n := 1) (i := 15) (j := 16) rfl rfl (Iy.stepI_ofN [(2, some 67), (14, some 78)] (by kernel_rfl) (by kernel_rfl) (fun nph vsp wi HB => ?_)) ?_
          (· (refine Iv.askN_cons ?_; rintro _ rfl; refine Iv.askN_cons ?_; rintro _ rfl; refine Iv.askN_nil ?_; (try simp only [Act.put, List.setIfInBounds_toArray, List.set_cons_zero, List.set_cons_succ]); refine Iy.goI_yes rfl rfl ?_; intro K hK; (try simp only [Act.put, List.setIfInBounds_toArray, List.set_cons_zero, List.set_cons_succ] at hK); go_wp2_with (first | fail); exact hK _ _ (Below.refl _ _) rfl))
          refine Iy.steps_cons (n := 0) (i := 16) (j := 17) rfl rfl (Iy.stepI_ofC 1 [(10, some 75), (15, some 79)] (by kernel_rfl) (by kernel_rfl) (fun vsp wi HB => ?_)) ?_
          (· (refine Iv.askN_cons ?_; rintro _ ⟨rfl, ev10⟩; refine Iv.askN_cons ?_; rintro _ ⟨rfl, ev15⟩; refine Iv.askN_nil ?_; obtain ⟨s2, f2⟩ := state_cell HB.out.2 2 rfl; (try simp only [Act.put, List.setIfInBounds_toArray, List.set_cons_zero, List.set_cons_succ]); refine Iy.goI_yes rfl rfl ?_; intro K hK; (try simp only [Act.put, List.setIfInBounds_toArray, List.set_cons_zero, List.set_cons_succ] at hK); go_wp2_with (first | fail); exact hK undef _ ⟨⟨World.grownBy.trans HB.out.1 (grown_setCell' _ _ _ _), HB.out.2.set_ 2 _⟩, fun _ _ h => h⟩ trivial))
          exact Iy.steps_nil
        intro vsf wf HF hdf
        refine Ix.allV_cons (n := 16) (j := 0) (k := 1) rfl rfl ?_; rintro _ _ rfl; refine Ix.allV_cons (n := 15) (j := 1) (k := 2) rfl rfl ?_; rintro _ _ rfl; refine Ix.allV_cons (n := 14) (j := 2) (k := 3) rfl rfl ?_; rintro _ _ rfl; refine Ix.allV_cons (n := 13) (j := 3) (k := 4) rfl rfl ?_; rintro _ _ rfl; refine Ix.allV_cons (n := 12) (j := 4) (k := 5) rfl rfl ?_; rintro _ _ rfl; refine Ix.allV_cons (n := 11) (j := 5) (k := 6) rfl rfl ?_; rintro _ _ rfl; refine Ix.allV_cons (n := 10) (j := 6) (k := 7) rfl rfl ?_; rintro _ _ rfl; refine Ix.allV_cons (n := 9) (j := 7) (k := 8) rfl rfl ?_; rintro _ _ rfl; refine Ix.allV_cons (n := 8) (j := 8) (k := 9) rfl rfl ?_; rintro _ _ rfl; refine Ix.allV_cons (n := 7) (j := 9) (k := 10) rfl rfl ?_; rintro _ _ rfl; refine Ix.allV_cons (n := 6) (j := 10) (k := 11) rfl rfl ?_; rintro _ _ rfl; refine Ix.allV_cons (n := 5) (j := 11) (k := 12) rfl rfl ?_; rintro _ _ rfl; refine Ix.allV_cons (n := 4) (j := 12) (k := 13) rfl rfl ?_; rintro _ _ rfl; refine Ix.allV_cons (n := 3) (j := 13) (k := 14) rfl rfl ?_; rintro _ _ _; refine Ix.allV_cons (n := 2) (j := 14) (k := 15) rfl rfl ?_; rintro _ _ rfl; refine Ix.allV_cons (n := 1) (j := 15) (k := 16) rfl rfl ?_; rintro _ _ rfl; refine Ix.allV_cons (n := 0) (j := 16) (k := 17) rfl rfl ?_; rintro _ _ _
        refine Ix.allV_nil ?_
        (try simp only [Act.put, List.setIfInBounds_toArray, List.set_cons_zero, List.set_cons_succ, List.drop_succ_cons, List.drop_zero])
        refine Ix.nil ?_
        have HGf : Hid (wA.grownBy wf (some (wr.heap.size + 1))) := HF.out.1
        have HSf : Hid (Blk wf (wr.heap.size + 1) 27 (stC x0 0 y0 0 0 0 0 0 false false false false 0 (.slice none 0 0))) := HF.out.2
        have HOf : Hid (Blk wf wr.heap.size 63 #[.int .i64 12, .int .i64 13]) := HOA.out.grown HGf.out (fun e => by injection e with e; omega)
        have o1 : wf.cell? ⟨wr.heap.size, 0, none⟩ = some (.int .i64 12) := by rw [HOf.out.cell]; rfl
        have hzf : wr.heap.size + 2 ≤ wf.heap.size := by have := HGf.out.size; omega
        have HZf : Hid (wr.heap.size ≤ wf.heap.size) := by show wr.heap.size ≤ wf.heap.size; omega
        have HK2 : Hid (1 ≤ 2) := by show 1 ≤ 2; omega
        have HZl : Hid (wr.heap.size ≤ wf.heap.size) := by show wr.heap.size ≤ wf.heap.size; omega
        have HBf : Hid (Below wr.heap.size wr wf) := Below.trans HBA.out (grown_below HGf.out (by omega) (fun k hk => by injection hk with hk; omega))
        have HON : Hid (wf.ownsRow wf.heap.size 43 4 (.slice none 0 0) 0 (insR [])) := World.ownsRow_nil _ _ _ _
        have HK1 : Hid (0 + 1 ≤ 100000) := by show 0 + 1 ≤ 100000; omega
        clear HF HOA HSA HBA HXA HYA o0 hdf
        go_wp2_with (first | (at_builtin; refine wpList_app_ins rfl _ _ rfl wf.heap.size (.slice none 0 0) 0 1 [] _ [⟨12, 0, 2, 0⟩] #[.int .i64 12, .int .i64 0, .int .i64 2, .int .i64 0] rfl rfl (HON.out.alloc _) (Blk.new _ _ _) rfl rfl HK1.out (Nat.le_of_lt (lt_alloc _ _)) ?_; intro a1 c1 wB hoB hgB hatB; have HUB := Lib.hid hoB; have HSB := Lib.hid (blk_alloc HSf.out HON.out ne_state hgB); have HBZ := low_alloc2 HBf.out HZf.out (Nat.le_refl _) HON.out hgB; have HBB := Lib.hid HBZ.1; have HZB := Lib.hid HBZ.2; clear hoB hgB hatB HBZ))
        rw [rounds_succ]
        have g3 := HG3.out
        have g5 : (F12.z != F12.z) = false := by simp
        have hww : (WC != WC) = false := by simp
        clear HGf HSf HOf o1 HZf HBf HON
        go_wp2_with (first | (refine wpList_load_row rfl 27 _ rfl (wr.heap.size + 1) rfl 27 (stC x0 0 y0 0 0 0 0 0 false false false false 0 (.slice none 0 0)) (0, 0) _ HSB.out Try.underlying27 rfl (by kernel_rfl) ?_) | (go_at_call 23; refine (HR12.out _ _ _ HUB.out HZB.out).mono ?_; rintro e wC ⟨oa, oc, za, zn, zc, rfl, hgC⟩; have HBC := Lib.hid (low_le HBB.out (Nat.le_trans HZl.out HZB.out) hgC (own_low (own_mono HZl.out HUB.out))); have HZC := Lib.hid (Nat.le_trans HZB.out hgC.size); clear hgC) | (refine wpList_store_row rfl 30 _ _ rfl wC.heap.size (ranL F12 (.slice oa 0 oc) (.slice za zn zc)).toArray rfl rfl 30 ranZc (Blk.new _ _ _) (by kernel_rfl) rfl (ranL_one _ _ _ _ _ _ _) ?_; generalize hwD : (wC.alloc (Obj.cells ranZc 30)).setRow wC.heap.size (ranL F12 (.slice oa 0 oc) (.slice za zn zc)).toArray = wD; have HBD := Lib.hid ((by rw [← hwD]; exact Below.row (Ext.alloc (Below.refl _ _) _) (Nat.le_refl _) _ : Below wC.heap.size wC wD)); have HRD := Lib.hid ((by rw [← hwD]; exact (Blk.new wC _ _).row _ : Blk wD wC.heap.size 30 (ranL F12 (.slice oa 0 oc) (.slice za zn zc)).toArray)); have HBW := Lib.hid (Ext.trans HBC.out HBD.out); clear hwD) | (go_at_call 28; refine (HJ12.out _ _ (ran_regs2 HRD.out 1 HK2.out)).mono ?_; rintro e wE ⟨rfl, rfl⟩) | (go_at_call 31; refine (HCA.out _).mono ?_; rintro e wE ⟨rfl, rfl⟩) | (refine wpList_load_sub rfl 25 _ rfl wC.heap.size 13 rfl 30 (ranL F12 (.slice oa 0 oc) (.slice za zn zc)).toArray [.bool F12.c, .bool F12.z, .bool F12.n, .bool F12.v] _ HRD.out rfl Try.underlying25 rfl (by kernel_rfl) ?_) | (go_at_call 32; refine (HCS.out _).mono ?_; rintro e wE ⟨rfl, rfl⟩) | (go_at_call 33; refine (HCC.out _).mono ?_; rintro e wE ⟨rfl, rfl⟩) | (go_at_call_of 34 (Value.bool Bool.false); refine (HCL0.out _).mono ?_; rintro e wE ⟨rfl, rfl⟩) | (go_at_call_of 34 (Value.bool Bool.true); refine (HCL1.out _).mono ?_; rintro e wE ⟨rfl, rfl⟩))
        all_goals first | exact ⟨⟨3, by omega, rfl, Ext.alloc (Ext.trans hbw.out HBW.out) _⟩, by simp [intOf]⟩ | (rename_i hbad; exact absurd (by cases F12.n <;> cases F12.v <;> rfl) hbad)
    · obtain rfl : k = 3 := by omega
      clear hk hlt
      go_wp2
      go_ret
      exact ⟨rfl, Ext.trans HB4.out hbw.out⟩
end Go.Proofs.Ytfjgnhmmakeaeaa
