/- Walk of law EmuSplit: the ways that end early. -/
import Derived.Test.YtfjgnhmmakeaeaaE38
import Derived.Test.YtfjgnhmmakeaeaaE39
import Derived.Test.YtfjgnhmmakeaeaaAp
namespace Go.Proofs.Ytfjgnhmmakeaeaa
open Go.RowKit
set_option linter.unusedVariables false
set_option linter.unusedSimpArgs false
set_option maxRecDepth 100000
open Mc
theorem wp_slice_run {P : Program} {o : Oper} {a : Act} {w : World} {K : Act → World → Prop} {Q : Exit → Act → World → Prop} (t : TypeId) (x lo : Operand) (ho : o.op = .slice t x (some lo) none none) (X L v : Value) (hx : a.eval x = X) (hl : a.eval lo = L)
    (hr : (Instr.sliceAt t X (some L) none none).run P w = .ok v w) (h : K (a.put o.dst v) w) : o.wp P a w K Q := by
  unfold Oper.wp execOp
  simp only [ho, hx, hl, hr, Option.map_some, Option.map_none, Sem.run_bind, Sem.run_pure, Result.andThen_ok]
  exact h
theorem run_from (a : Option Addr) (n c l : Nat) (h : l ≤ n) (w : World) : (Instr.sliceAt 28 (.slice a n c) (some (.int .i64 (l : Int))) none none).run Try.prog w = .ok (sliced a l n c 1) w := by
  rw [run_sliceAt_slice w _ _ _ _ _ (by kernel_rfl), run_slice_l w _ a n c (by kernel_rfl) .i64 (l : Int) (by omega) (by omega)]
  have : (sizeOf (Try.prog.elem 28)).run Try.prog w = .ok 1 w := by kernel_rfl
  rw [this]
  rfl
theorem Rd.from {w : World} {a : Option Addr} {n c : Nat} {xs : List Value} (h : Rd w 1 (.slice a n c) n xs) (l : Nat) (hl : l ≤ n) : Rd w 1 (sliced a l n c 1) (n - l) (xs.drop l) := by
  obtain ⟨h1, h2, a', cap, hv, hc, hr⟩ := h
  injection hv with e1 e2 e3
  subst e1 e3
  refine ⟨by rw [List.length_drop]; omega, by omega, _, _, rfl, by omega, fun hne => ?_⟩
  have hln : l < n := by
    rcases Nat.lt_or_ge l n with h | h
    · exact h
    · exact absurd (List.drop_eq_nil_of_le (by omega)) hne
  obtain ⟨b, off, ha, hj⟩ := hr (fun h => hne (by rw [h]; simp))
  refine ⟨b, off + l, by rw [if_neg (by omega), ha]; simp [addr_add], fun j u hu => ?_⟩
  rw [List.getElem?_drop] at hu
  rw [Nat.add_assoc]
  exact hj (l + j) u hu
set_option maxHeartbeats 8000000 in
/-- The times are none. -/
theorem split_times (cv iv : Value) (ma : Option Addr) (mn mc : Nat) (r0 r1 r2 r3 r4 r5 r6 r7 pc first second : Int) (c z n v b1 b2 b3 b4 b5 : Bool) (w : World)
    (H1 : decide (first < 0) = b1) (H2 : decide (second < 0) = b2) (H3 : decide (first > 1000000) = b3) (H4 : decide (second > 1000000) = b4) (H5 : decide (first + second > 1000000) = b5) (HW : b1 = false → b2 = false → b3 = false → b4 = false → IntKind.i64.wrap (first + second) = first + second)
    (hor : (b1 || b2 || b3 || b4 || b5) = true) : Calls Try.prog 5 #[cv, stV r0 r1 r2 r3 r4 r5 r6 r7 c z n v pc (.slice ma mn mc), iv, .int .i64 first, .int .i64 second] w fun e w' => e = .returned (.bool true) ∧ Below w.heap.size w w' := by
  cases b1
  · cases b2
    · cases b3
      · cases b4
        · cases b5
          · exact absurd hor (by decide)
          · have HW2 := HW rfl rfl rfl rfl
            clear HW hor
            go_enter Try.func5, Try.ntmps5
            go_wp2_with (first | (go_at_call 20; refine (alive3 _).mono ?_; rintro e w1 ⟨rfl, hb1⟩; have HB1 := Lib.hid (Ext.trans (Ext.alloc (Below.refl w.heap.size w) _) hb1); have HS1 := Lib.hid ((Blk.new w 27 (stC r0 r1 r2 r3 r4 r5 r6 r7 c z n v pc (.slice ma mn mc))).keep hb1); clear hb1))
            go_ret
            exact ⟨rfl, HB1.out⟩
        · clear HW hor H5
          go_enter Try.func5, Try.ntmps5
          go_wp2_with (first | (go_at_call 20; refine (alive3 _).mono ?_; rintro e w1 ⟨rfl, hb1⟩; have HB1 := Lib.hid (Ext.trans (Ext.alloc (Below.refl w.heap.size w) _) hb1); have HS1 := Lib.hid ((Blk.new w 27 (stC r0 r1 r2 r3 r4 r5 r6 r7 c z n v pc (.slice ma mn mc))).keep hb1); clear hb1))
          go_ret
          exact ⟨rfl, HB1.out⟩
      · clear HW hor H5
        go_enter Try.func5, Try.ntmps5
        go_wp2_with (first | (go_at_call 20; refine (alive3 _).mono ?_; rintro e w1 ⟨rfl, hb1⟩; have HB1 := Lib.hid (Ext.trans (Ext.alloc (Below.refl w.heap.size w) _) hb1); have HS1 := Lib.hid ((Blk.new w 27 (stC r0 r1 r2 r3 r4 r5 r6 r7 c z n v pc (.slice ma mn mc))).keep hb1); clear hb1))
        go_ret
        exact ⟨rfl, HB1.out⟩
    · clear HW hor H5
      go_enter Try.func5, Try.ntmps5
      go_wp2_with (first | (go_at_call 20; refine (alive3 _).mono ?_; rintro e w1 ⟨rfl, hb1⟩; have HB1 := Lib.hid (Ext.trans (Ext.alloc (Below.refl w.heap.size w) _) hb1); have HS1 := Lib.hid ((Blk.new w 27 (stC r0 r1 r2 r3 r4 r5 r6 r7 c z n v pc (.slice ma mn mc))).keep hb1); clear hb1))
      go_ret
      exact ⟨rfl, HB1.out⟩
  · clear HW hor H5
    go_enter Try.func5, Try.ntmps5
    go_wp2_with (first | (go_at_call 20; refine (alive3 _).mono ?_; rintro e w1 ⟨rfl, hb1⟩; have HB1 := Lib.hid (Ext.trans (Ext.alloc (Below.refl w.heap.size w) _) hb1); have HS1 := Lib.hid ((Blk.new w 27 (stC r0 r1 r2 r3 r4 r5 r6 r7 c z n v pc (.slice ma mn mc))).keep hb1); clear hb1))
    go_ret
    exact ⟨rfl, HB1.out⟩
set_option maxHeartbeats 8000000 in
/-- Something is wrong with what the run is given. -/
theorem split_wrong (cv iv : Value) (ma : Option Addr) (mn mc : Nat) (r0 r1 r2 r3 r4 r5 r6 r7 pc first second E1 : Int) (c z n v : Bool) (w : World) (h0 : E1 ≠ 0) (H1 : decide (first < 0) = false) (H2 : decide (second < 0) = false) (H3 : decide (first > 1000000) = false) (H4 : decide (second > 1000000) = false) (HW : IntKind.i64.wrap (first + second) = first + second) (H5 : decide (first + second > 1000000) = false)
    (CR : ∀ w1 : World, Below w.heap.size w w1 → Calls Try.prog 15 #[cv, stV r0 r1 r2 r3 r4 r5 r6 r7 c z n v pc (.slice ma mn mc), iv, .int .i64 first] w1 fun e w' => e = .returned (.tuple #[ranZ, .int .i64 E1]) ∧ Below w1.heap.size w1 w') :
    Calls Try.prog 5 #[cv, stV r0 r1 r2 r3 r4 r5 r6 r7 c z n v pc (.slice ma mn mc), iv, .int .i64 first, .int .i64 second] w fun e w' => e = .returned (.bool true) ∧ Below w.heap.size w w' := by
  have HCR := Lib.hid CR
  have e1 : (E1 != 0) = true := by simpa using h0
  clear CR h0
  go_enter Try.func5, Try.ntmps5
  go_wp2_with (first | (go_at_call 20; refine (alive3 _).mono ?_; rintro e w1 ⟨rfl, hb1⟩; have HB1 := Lib.hid (Ext.trans (Ext.alloc (Below.refl w.heap.size w) _) hb1); have HS1 := Lib.hid ((Blk.new w 27 (stC r0 r1 r2 r3 r4 r5 r6 r7 c z n v pc (.slice ma mn mc))).keep hb1); clear hb1) | (refine wpList_load_row rfl 27 _ rfl w.heap.size rfl 27 (stC r0 r1 r2 r3 r4 r5 r6 r7 c z n v pc (.slice ma mn mc)) (0, 0) _ HS1.out Try.underlying27 rfl (by kernel_rfl) ?_) | (go_at_call 15; refine (HCR.out _ HB1.out).mono ?_; rintro e w2 ⟨rfl, hb2⟩; have HB2 := Lib.hid (Ext.trans HB1.out hb2); clear hb2) | (refine wpList_store_row rfl 30 _ _ rfl w2.heap.size ranZc rfl rfl 30 ranZc (Blk.new _ _ _) (by kernel_rfl) rfl ranZ_one ?_))
  go_ret
  exact ⟨rfl, Below.row (Ext.alloc HB2.out _) HB2.out.size _⟩
set_option maxHeartbeats 8000000 in
/-- The first run ended. -/
theorem split_ended (cv iv : Value) (ma : Option Addr) (mn mc : Nat) (r0 r1 r2 r3 r4 r5 r6 r7 pc first second : Int) (c z n v : Bool) (F : St) (w : World) (h4 : (F.how != 3) = true) (H1 : decide (first < 0) = false) (H2 : decide (second < 0) = false) (H3 : decide (first > 1000000) = false) (H4 : decide (second > 1000000) = false) (HW : IntKind.i64.wrap (first + second) = first + second) (H5 : decide (first + second > 1000000) = false)
    (CR : ∀ w1 : World, Below w.heap.size w w1 → Calls Try.prog 15 #[cv, stV r0 r1 r2 r3 r4 r5 r6 r7 c z n v pc (.slice ma mn mc), iv, .int .i64 first] w1 fun e w' => ∃ oa on oc xa xn xc, e = .returned (.tuple #[ranV F (.slice oa on oc) (.slice xa xn xc), .int .i64 0]) ∧ Rd w' 1 (.slice oa on oc) F.out.length (F.out.map (Value.int .u8)) ∧ Rd w' 1 (.slice xa xn xc) (top F.mem MS) ((left F.mem).map (Value.int .i64)) ∧ Below w1.heap.size w1 w') :
    Calls Try.prog 5 #[cv, stV r0 r1 r2 r3 r4 r5 r6 r7 c z n v pc (.slice ma mn mc), iv, .int .i64 first, .int .i64 second] w fun e w' => e = .returned (.bool true) ∧ Below w.heap.size w w' := by
  have HCR := Lib.hid CR
  clear CR
  go_enter Try.func5, Try.ntmps5
  go_wp2_with (first | (go_at_call 20; refine (alive3 _).mono ?_; rintro e w1 ⟨rfl, hb1⟩; have HB1 := Lib.hid (Ext.trans (Ext.alloc (Below.refl w.heap.size w) _) hb1); have HS1 := Lib.hid ((Blk.new w 27 (stC r0 r1 r2 r3 r4 r5 r6 r7 c z n v pc (.slice ma mn mc))).keep hb1); clear hb1) | (refine wpList_load_row rfl 27 _ rfl w.heap.size rfl 27 (stC r0 r1 r2 r3 r4 r5 r6 r7 c z n v pc (.slice ma mn mc)) (0, 0) _ HS1.out Try.underlying27 rfl (by kernel_rfl) ?_) | (go_at_call 15; refine (HCR.out _ HB1.out).mono ?_; rintro e w2 ⟨oa, on, oc, xa, xn, xc, rfl, ho2, hm2, hb2⟩; have HB2 := Lib.hid (Ext.trans HB1.out hb2); have HO2 := Lib.hid ho2; have HM2 := Lib.hid hm2; have HS2 := Lib.hid (HS1.out.keep hb2); clear hb2 ho2 hm2) | (refine wpList_store_row rfl 30 _ _ rfl w2.heap.size (ranL F (.slice oa on oc) (.slice xa xn xc)).toArray rfl rfl 30 ranZc (Blk.new _ _ _) (by kernel_rfl) rfl (ranL_one _ _ _ _ _ _ _) ?_; generalize hw3 : (w2.alloc (Obj.cells ranZc 30)).setRow w2.heap.size (ranL F (.slice oa on oc) (.slice xa xn xc)).toArray = w3; have HB23 := Lib.hid ((by rw [← hw3]; exact Below.row (Ext.alloc (Below.refl _ _) _) (Nat.le_refl _) _ : Below w2.heap.size w2 w3)); have HA3 := Lib.hid ((by rw [← hw3]; exact (Blk.new w2 _ _).row _ : Blk w3 w2.heap.size 30 (ranL F (.slice oa on oc) (.slice xa xn xc)).toArray)); have HS3 := Lib.hid (HS2.out.keep HB23.out); clear hw3; have p0 : w3.cell? ⟨w2.heap.size, 0, none⟩ = some (.int .i64 F.how) := ran_cell HA3.out 0 rfl) | (refine wpList_load_row rfl 30 _ rfl w2.heap.size rfl 30 (ranL F (.slice oa on oc) (.slice xa xn xc)).toArray (0, 0) _ HA3.out Try.underlying30 rfl (by kernel_rfl) ?_))
  go_ret
  exact ⟨rfl, Ext.trans HB2.out HB23.out⟩
end Go.Proofs.Ytfjgnhmmakeaeaa
