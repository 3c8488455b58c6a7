/- Walk of law EmuLonger. -/
import Derived.Test.YtfjgnhmmakeaeaaE34
import Derived.Test.YtfjgnhmmakeaeaaE33
import Derived.Test.YtfjgnhmmakeaeaaE30
namespace Go.Proofs.Ytfjgnhmmakeaeaa
open Go.RowKit
set_option linter.unusedVariables false
set_option linter.unusedSimpArgs false
set_option maxRecDepth 100000
open Mc
set_option maxHeartbeats 8000000 in
/-- Something is wrong with what the run is given. -/
theorem longer_wrong (cv iv : Value) (ma : Option Addr) (mn mc : Nat) (r0 r1 r2 r3 r4 r5 r6 r7 pc fuel more E1 : Int) (c z n v : Bool) (w : World) (h0 : E1 ≠ 0)
    (CR : ∀ w1 : World, Below w.heap.size w w1 → Calls Try.prog 15 #[cv, stV r0 r1 r2 r3 r4 r5 r6 r7 c z n v pc (.slice ma mn mc), iv, .int .i64 fuel] w1 fun e w' => e = .returned (.tuple #[ranZ, .int .i64 E1]) ∧ Below w1.heap.size w1 w') :
    Calls Try.prog 4 #[cv, stV r0 r1 r2 r3 r4 r5 r6 r7 c z n v pc (.slice ma mn mc), iv, .int .i64 fuel, .int .i64 more] w fun e w' => e = .returned (.bool true) ∧ Below w.heap.size w w' := by
  have HCR := Lib.hid CR
  have e1 : (E1 != 0) = true := by simpa using h0
  clear CR h0
  go_enter Try.func4, Try.ntmps4
  go_wp2_with (first | (go_at_call 20; refine (alive3 _).mono ?_; rintro e w1 ⟨rfl, hb1⟩; have HB1 := Lib.hid (Ext.trans (Ext.alloc (Below.refl w.heap.size w) _) hb1); have HS1 := Lib.hid ((Blk.new w 27 (stC r0 r1 r2 r3 r4 r5 r6 r7 c z n v pc (.slice ma mn mc))).keep hb1); clear hb1) | (refine wpList_load_row rfl 27 _ rfl w.heap.size rfl 27 (stC r0 r1 r2 r3 r4 r5 r6 r7 c z n v pc (.slice ma mn mc)) (0, 0) _ HS1.out Try.underlying27 rfl (by kernel_rfl) ?_) | (go_at_call 15; refine (HCR.out _ HB1.out).mono ?_; rintro e w2 ⟨rfl, hb2⟩; have HB2 := Lib.hid (Ext.trans HB1.out hb2); clear hb2) | (refine wpList_store_row rfl 30 _ _ rfl w2.heap.size ranZc rfl rfl 30 ranZc (Blk.new _ _ _) (by kernel_rfl) rfl ranZ_one ?_))
  go_ret
  exact ⟨rfl, Below.row (Ext.alloc HB2.out _) HB2.out.size _⟩
set_option maxHeartbeats 8000000 in
/-- The other time is less, or too much. -/
theorem longer_few (cv iv : Value) (ma : Option Addr) (mn mc : Nat) (r0 r1 r2 r3 r4 r5 r6 r7 pc fuel more : Int) (c z n v lb gb : Bool) (F : St) (w : World) (hl : decide (more < fuel) = lb) (hg : decide (more > 1000000) = gb) (hlg : lb = true ∨ gb = true)
    (CR : ∀ w1 : World, Below w.heap.size w w1 → Calls Try.prog 15 #[cv, stV r0 r1 r2 r3 r4 r5 r6 r7 c z n v pc (.slice ma mn mc), iv, .int .i64 fuel] w1 fun e w' => ∃ oa on oc xa xn xc, e = .returned (.tuple #[ranV F (.slice oa on oc) (.slice xa xn xc), .int .i64 0]) ∧ Rd w' 1 (.slice oa on oc) F.out.length (F.out.map (Value.int .u8)) ∧ Rd w' 1 (.slice xa xn xc) (top F.mem MS) ((left F.mem).map (Value.int .i64)) ∧ Below w1.heap.size w1 w') :
    Calls Try.prog 4 #[cv, stV r0 r1 r2 r3 r4 r5 r6 r7 c z n v pc (.slice ma mn mc), iv, .int .i64 fuel, .int .i64 more] w fun e w' => e = .returned (.bool true) ∧ Below w.heap.size w w' := by
  have HCR := Lib.hid CR
  clear CR
  cases lb
  · obtain rfl : gb = true := by simpa using hlg
    clear hlg
    go_enter Try.func4, Try.ntmps4
    go_wp2_with (first | (go_at_call 20; refine (alive3 _).mono ?_; rintro e w1 ⟨rfl, hb1⟩; have HB1 := Lib.hid (Ext.trans (Ext.alloc (Below.refl w.heap.size w) _) hb1); have HS1 := Lib.hid ((Blk.new w 27 (stC r0 r1 r2 r3 r4 r5 r6 r7 c z n v pc (.slice ma mn mc))).keep hb1); clear hb1) | (refine wpList_load_row rfl 27 _ rfl w.heap.size rfl 27 (stC r0 r1 r2 r3 r4 r5 r6 r7 c z n v pc (.slice ma mn mc)) (0, 0) _ HS1.out Try.underlying27 rfl (by kernel_rfl) ?_) | (go_at_call 15; refine (HCR.out _ HB1.out).mono ?_; rintro e w2 ⟨oa, on, oc, xa, xn, xc, rfl, ho2, hm2, hb2⟩; have HB2 := Lib.hid (Ext.trans HB1.out hb2); have HO2 := Lib.hid ho2; have HM2 := Lib.hid hm2; have HS2 := Lib.hid (HS1.out.keep hb2); clear hb2 ho2 hm2) | (refine wpList_store_row rfl 30 _ _ rfl w2.heap.size (ranL F (.slice oa on oc) (.slice xa xn xc)).toArray rfl rfl 30 ranZc (Blk.new _ _ _) (by kernel_rfl) rfl (ranL_one _ _ _ _ _ _ _) ?_; generalize hw3 : (w2.alloc (Obj.cells ranZc 30)).setRow w2.heap.size (ranL F (.slice oa on oc) (.slice xa xn xc)).toArray = w3; have HB23 := Lib.hid ((by rw [← hw3]; exact Below.row (Ext.alloc (Below.refl _ _) _) (Nat.le_refl _) _ : Below w2.heap.size w2 w3)); have HA3 := Lib.hid ((by rw [← hw3]; exact (Blk.new w2 _ _).row _ : Blk w3 w2.heap.size 30 (ranL F (.slice oa on oc) (.slice xa xn xc)).toArray)); have HS3 := Lib.hid (HS2.out.keep HB23.out); clear hw3))
    go_ret
    exact ⟨rfl, Ext.trans HB2.out HB23.out⟩
  · clear hlg
    go_enter Try.func4, Try.ntmps4
    go_wp2_with (first | (go_at_call 20; refine (alive3 _).mono ?_; rintro e w1 ⟨rfl, hb1⟩; have HB1 := Lib.hid (Ext.trans (Ext.alloc (Below.refl w.heap.size w) _) hb1); have HS1 := Lib.hid ((Blk.new w 27 (stC r0 r1 r2 r3 r4 r5 r6 r7 c z n v pc (.slice ma mn mc))).keep hb1); clear hb1) | (refine wpList_load_row rfl 27 _ rfl w.heap.size rfl 27 (stC r0 r1 r2 r3 r4 r5 r6 r7 c z n v pc (.slice ma mn mc)) (0, 0) _ HS1.out Try.underlying27 rfl (by kernel_rfl) ?_) | (go_at_call 15; refine (HCR.out _ HB1.out).mono ?_; rintro e w2 ⟨oa, on, oc, xa, xn, xc, rfl, ho2, hm2, hb2⟩; have HB2 := Lib.hid (Ext.trans HB1.out hb2); have HO2 := Lib.hid ho2; have HM2 := Lib.hid hm2; have HS2 := Lib.hid (HS1.out.keep hb2); clear hb2 ho2 hm2) | (refine wpList_store_row rfl 30 _ _ rfl w2.heap.size (ranL F (.slice oa on oc) (.slice xa xn xc)).toArray rfl rfl 30 ranZc (Blk.new _ _ _) (by kernel_rfl) rfl (ranL_one _ _ _ _ _ _ _) ?_; generalize hw3 : (w2.alloc (Obj.cells ranZc 30)).setRow w2.heap.size (ranL F (.slice oa on oc) (.slice xa xn xc)).toArray = w3; have HB23 := Lib.hid ((by rw [← hw3]; exact Below.row (Ext.alloc (Below.refl _ _) _) (Nat.le_refl _) _ : Below w2.heap.size w2 w3)); have HA3 := Lib.hid ((by rw [← hw3]; exact (Blk.new w2 _ _).row _ : Blk w3 w2.heap.size 30 (ranL F (.slice oa on oc) (.slice xa xn xc)).toArray)); have HS3 := Lib.hid (HS2.out.keep HB23.out); clear hw3))
    go_ret
    exact ⟨rfl, Ext.trans HB2.out HB23.out⟩
end Go.Proofs.Ytfjgnhmmakeaeaa
