/- Walk of law ProbeCounts. -/
import Derived.Test.YtfjgnhmmakeaeaaE68
import Derived.Test.YtfjgnhmmakeaeaaE69
import Derived.Test.YtfjgnhmmakeaeaaE38
namespace Go.Proofs.Ytfjgnhmmakeaeaa
open Go.RowKit
set_option linter.unusedVariables false
set_option linter.unusedSimpArgs false
set_option maxRecDepth 100000
open Mc
set_option maxHeartbeats 16000000 in
theorem counts_at (ca ia ma : Option Addr) (nC cc nI ic mn mc : Nat) (r0 r1 r2 r3 r4 r5 r6 r7 pc fuel : Int) (c z n v : Bool) (F : St) (G : Nat → Int) (w : World) (hn : nC ≤ 70000) (hG : ∀ j, 0 ≤ G j) (hF : F.steps ≤ 1000000)
    (hsum : sumTo G nC = F.steps ∨ (F.how = 4 ∧ sumTo G nC = F.steps - 1 ∧ (nC : Int) ≤ F.pc))
    (CH : ∀ w1 : World, Below w.heap.size w w1 → Calls Try.prog 38 #[.slice ca nC cc, stV r0 r1 r2 r3 r4 r5 r6 r7 c z n v pc (.slice ma mn mc), .slice ia nI ic, .int .i64 fuel] w1 fun e w' => ∃ ha hc, e = .returned (.tuple #[.slice ha nC hc, .int .i64 0]) ∧ Rd w' 1 (.slice ha nC hc) nC (((List.range nC).map G).map (Value.int .i64)) ∧ Below w1.heap.size w1 w')
    (CR : ∀ w1 : World, Below w.heap.size w w1 → Calls Try.prog 15 #[.slice ca nC cc, stV r0 r1 r2 r3 r4 r5 r6 r7 c z n v pc (.slice ma mn mc), .slice ia nI ic, .int .i64 fuel] w1 fun e w' => ∃ oa on oc xa xn xc, e = .returned (.tuple #[ranV F (.slice oa on oc) (.slice xa xn xc), .int .i64 0]) ∧ Below w1.heap.size w1 w') :
    Calls Try.prog 13 #[.slice ca nC cc, stV r0 r1 r2 r3 r4 r5 r6 r7 c z n v pc (.slice ma mn mc), .slice ia nI ic, .int .i64 fuel] w fun e w' => e = .returned (.bool true) ∧ Below w.heap.size w w' := by
  have HCH := Lib.hid CH; have HCR := Lib.hid CR; have HG := Lib.hid hG; have HF := Lib.hid hF; have HSUM := Lib.hid hsum
  clear CH CR hG hF hsum
  go_enter Try.func13, Try.ntmps13
  go_wp2_with (first | (go_at_call 41; refine (alive16 _).mono ?_; rintro e w1 ⟨rfl, hb1⟩; have HB1 := Lib.hid (Ext.trans (Ext.alloc (Below.refl w.heap.size w) _) hb1); have HS1 := Lib.hid ((Blk.new w 27 (stC r0 r1 r2 r3 r4 r5 r6 r7 c z n v pc (.slice ma mn mc))).keep hb1); clear hb1) | (refine wpList_load_row rfl 27 _ rfl w.heap.size rfl 27 (stC r0 r1 r2 r3 r4 r5 r6 r7 c z n v pc (.slice ma mn mc)) (0, 0) _ HS1.out Try.underlying27 rfl (by kernel_rfl) ?_) | (go_at_call 38; refine (HCH.out _ HB1.out).mono ?_; rintro e w2 ⟨ha, hc, rfl, hh2, hb2⟩; have HB2 := Lib.hid (Ext.trans HB1.out hb2); have HH2 := Lib.hid hh2; have HS2 := Lib.hid (HS1.out.keep hb2); clear hh2 hb2) | (refine wpList_load_row rfl 27 _ rfl w.heap.size rfl 27 (stC r0 r1 r2 r3 r4 r5 r6 r7 c z n v pc (.slice ma mn mc)) (0, 0) _ HS2.out Try.underlying27 rfl (by kernel_rfl) ?_) | (go_at_call 15; refine (HCR.out _ HB2.out).mono ?_; rintro e w3 ⟨oa, on, oc, xa, xn, xc, rfl, hb3⟩; have HB3 := Lib.hid (Ext.trans HB2.out hb3); have HH3 := Lib.hid (HH2.out.below hb3); clear hb3) | (refine wpList_store_row rfl 30 _ _ rfl w3.heap.size (ranL F (.slice oa on oc) (.slice xa xn xc)).toArray rfl rfl 30 ranZc (Blk.new _ _ _) (by kernel_rfl) rfl (ranL_one _ _ _ _ _ _ _) ?_; generalize hw4 : (w3.alloc (Obj.cells ranZc 30)).setRow w3.heap.size (ranL F (.slice oa on oc) (.slice xa xn xc)).toArray = w4; have HB34 := Lib.hid ((by rw [← hw4]; exact Below.row (Ext.alloc (Below.refl _ _) _) (Nat.le_refl _) _ : Below w3.heap.size w3 w4)); have HA4 := Lib.hid ((by rw [← hw4]; exact (Blk.new w3 _ _).row _ : Blk w4 w3.heap.size 30 (ranL F (.slice oa on oc) (.slice xa xn xc)).toArray)); clear hw4))
  have HH4 := Lib.hid (HH3.out.below HB34.out)
  obtain ⟨hl, hm, ha', hc', hv, hcap, hcell⟩ := HH4.out.ints
  injection hv with hv1 hv2 hv3
  subst hv1; subst hv3
  have HC := Lib.hid hcell
  have p0 := ran_cell HA4.out 0 rfl; have p4 := ran_cell HA4.out 4 rfl; have p17 := ran_cell HA4.out 17 rfl
  clear hl hm hv2 hcell HH2 HH3 HH4 HS1 HS2 HCH HCR HB1 HB2
  go_loop [12, 37] (fun a i => ∃ k : Nat, k ≤ nC ∧ i = .int .i64 (k : Int) ∧ ∃ Y : Int, a = .int .i64 Y ∧ Hid (Y = sumTo G k)) (fun _ i => nC - (intOf i).toNat)
  case atStart => exact ⟨0, Nat.zero_le _, rfl, 0, rfl, (rfl : (0 : Int) = sumTo G 0)⟩
  case round =>
    obtain ⟨k, hk, rfl, Y, rfl, hY⟩ := hrel
    have hY0 : 0 ≤ Y := by rw [hY.out]; exact sumTo_nn HG.out k
    have hYm : sumTo G nC ≤ 1000000 := by have := HF.out; rcases HSUM.out with h | ⟨_, h, _⟩ <;> omega
    by_cases hlt : k < nC
    · obtain ⟨b, off, rfl, hd⟩ := HC.out (by omega)
      have ck := hd k hlt
      obtain ⟨X, hX⟩ : ∃ X, X = G k := ⟨_, rfl⟩
      have hg : ((List.range nC).map G).getD k 0 = X := by
        rw [hX, List.getD_eq_getElem?_getD, List.getElem?_map, List.getElem?_range hlt]; rfl
      rw [hg] at ck
      have hx0 : 0 ≤ X := by rw [hX]; exact HG.out k
      have hx1 : Y + X ≤ 1000000 := by
        have h1 : sumTo G (k + 1) ≤ sumTo G nC := sumTo_mono HG.out nC hlt
        have h2 : sumTo G (k + 1) = sumTo G k + G k := rfl
        have := hY.out; omega
      have HX := Lib.hid hX
      clear hX hg hd hYm HC
      go_wp2
      go_round
      case rel => exact ⟨k + 1, by omega, by go_num, _, rfl, by show Y + X = sumTo G k + G k; rw [hY.out, HX.out]⟩
      case measure => (simp [intOf]; try omega)
    · have hkn : k = nC := by omega
      have HYS : Hid (Y = sumTo G nC) := by show Y = _; rw [← hkn]; exact hY.out
      clear hYm
      rcases HSUM.out with h | ⟨h1, h2, h3⟩
      · have e1 : (Y == F.steps) = true := by rw [HYS.out, h]; simp
        clear h HSUM HC
        go_wp2
        go_ret
        exact ⟨rfl, Ext.trans HB3.out HB34.out⟩
      · have e1 : (Y == F.steps) = false := by rw [HYS.out, h2]; simp; try omega
        have e2 : (Y == F.steps - 1) = true := by rw [HYS.out, h2]; simp; try omega
        have s0 : 1 ≤ F.steps := by have := HYS.out; omega
        have s1 : F.steps ≤ 1000000 := HF.out
        rw [h1] at p0
        clear h1 h2 HSUM HC
        go_wp2
        go_ret
        exact ⟨rfl, Ext.trans HB3.out HB34.out⟩
end Go.Proofs.Ytfjgnhmmakeaeaa
