/- The document's machine: a run. -/
import Derived.Test.YtfjgnhmmakeaeaaPt
import Derived.Test.YtfjgnhmmakeaeaaBA
import Derived.LoopTactic
import Derived.Deep.Cut
namespace Go.Proofs.Ytfjgnhmmakeaeaa
open Go.RowKit Go.Maps
set_option linter.unusedVariables false
set_option linter.unusedSimpArgs false
set_option maxRecDepth 100000
open Mc
set_option maxHeartbeats 4000000 in
theorem rrun_wrong (ca ia ma : Option Addr) (nC cc nI ic mn mc : Nat) (r0 r1 r2 r3 r4 r5 r6 r7 pc fuel E W0 : Int) (c z n v : Bool) (hE : E = Mc.wary nC nI W0 fuel) (h0 : E ≠ 0) (hnC : nC ≤ 9223372036854775807) (hnI : nI ≤ 9223372036854775807)
    (w : World) (hw : ∀ w1 : World, Below w.heap.size w w1 → Calls Try.prog 18 #[stV r0 r1 r2 r3 r4 r5 r6 r7 c z n v pc (.slice ma mn mc)] w1 fun e w' => e = .returned (.int .i64 W0) ∧ Below w1.heap.size w1 w') :
    Calls Try.prog 16 #[.slice ca nC cc, stV r0 r1 r2 r3 r4 r5 r6 r7 c z n v pc (.slice ma mn mc), .slice ia nI ic, .int .i64 fuel] w fun e w' => e = .returned (.tuple #[ranZ, .int .i64 E]) ∧ Below w.heap.size w w' := by
  have HW := Lib.hid hw
  have HZ0 := Lib.hid ((by have := Blk.new (w.alloc (.cells (stC r0 r1 r2 r3 r4 r5 r6 r7 c z n v pc (.slice ma mn mc)) 27)) 30 ranZc; simpa using this : Blk ((w.alloc (.cells (stC r0 r1 r2 r3 r4 r5 r6 r7 c z n v pc (.slice ma mn mc)) 27)).alloc (.cells ranZc 30)) (w.heap.size + 1) 30 ranZc))
  clear hw
  have HE := Lib.hid hE; have H0 := Lib.hid h0
  clear hE h0
  by_cases h1 : 65536 < nC
  · have e1 : decide ((nC : Int) > 65536) = true := by simp; omega
    have HE2 : Hid (E = 4) := by show E = 4; rw [HE.out]; unfold Mc.wary; rw [if_pos (.inl h1)]
    clear h1
    go_enter Try.func16, Try.ntmps16
    go_wp2_with (first | (refine wpList_store_row rfl 30 _ _ rfl (w.heap.size + 1) ranZc rfl rfl 30 ranZc HZ0.out (by kernel_rfl) rfl ranZ_one ?_))
    exact bodyPost_ret (results_cell2 rfl _ _ (w.heap.size + 1) 30 ranZc (0, 0) _ rfl (HZ0.out.row ranZc) Try.underlying30 rfl (by kernel_rfl)) rfl ⟨by rw [HE2.out]; rfl, Below.row (Ext.alloc (Ext.alloc (Below.refl _ _) _) _) (by omega) _⟩
  have e1 : decide ((nC : Int) > 65536) = false := by simp; omega
  by_cases h2 : 65536 < nI
  · have e2 : decide ((nI : Int) > 65536) = true := by simp; omega
    have HE2 : Hid (E = 4) := by show E = 4; rw [HE.out]; unfold Mc.wary; rw [if_pos (.inr h2)]
    clear h1 h2
    go_enter Try.func16, Try.ntmps16
    go_wp2_with (first | (refine wpList_store_row rfl 30 _ _ rfl (w.heap.size + 1) ranZc rfl rfl 30 ranZc HZ0.out (by kernel_rfl) rfl ranZ_one ?_))
    exact bodyPost_ret (results_cell2 rfl _ _ (w.heap.size + 1) 30 ranZc (0, 0) _ rfl (HZ0.out.row ranZc) Try.underlying30 rfl (by kernel_rfl)) rfl ⟨by rw [HE2.out]; rfl, Below.row (Ext.alloc (Ext.alloc (Below.refl _ _) _) _) (by omega) _⟩
  have e2 : decide ((nI : Int) > 65536) = false := by simp; omega
  have HE3 : Hid (E = if W0 ≠ 0 then W0 else if fuel < 0 ∨ 1000000 < fuel then 3 else 0) := by show E = _; rw [HE.out]; unfold Mc.wary; rw [if_neg (by omega)]
  clear h1 h2 HE
  by_cases h3 : W0 = 0
  · have e3 : (W0 != 0) = false := by simpa using h3
    have HE4 : Hid (E = if fuel < 0 ∨ 1000000 < fuel then 3 else 0) := by show E = _; rw [HE3.out, if_neg (by simpa using h3)]
    clear h3 HE3
    by_cases h4 : fuel < 0
    · have e4 : decide (fuel < 0) = true := by simpa using h4
      have HE2 : Hid (E = 3) := by show E = 3; rw [HE4.out, if_pos (.inl h4)]
      clear h4
      go_enter Try.func16, Try.ntmps16
      go_wp2_with (first | (go_at_call 18; refine (HW.out _ (Ext.alloc (Ext.alloc (Below.refl _ _) _) _)).mono ?_; rintro e w1 ⟨rfl, hb1⟩; have HB1 := Lib.hid (Ext.trans (Ext.alloc (Ext.alloc (Below.refl w.heap.size w) _) _) hb1); have hz1 : w.heap.size + 2 ≤ w1.heap.size := (by have := hb1.size; simpa using this); have HZ1 := Lib.hid ((by have := Blk.new (w.alloc (.cells (stC r0 r1 r2 r3 r4 r5 r6 r7 c z n v pc (.slice ma mn mc)) 27)) 30 ranZc; simpa using this.keep hb1 : Blk w1 (w.heap.size + 1) 30 ranZc)); have HS1 := Lib.hid ((by have := (Blk.new w 27 (stC r0 r1 r2 r3 r4 r5 r6 r7 c z n v pc (.slice ma mn mc))).alloc (.cells ranZc 30); exact this.keep hb1 : Blk w1 w.heap.size 27 (stC r0 r1 r2 r3 r4 r5 r6 r7 c z n v pc (.slice ma mn mc)))); clear hb1) | (refine wpList_load_row rfl 27 _ rfl w.heap.size rfl 27 (stC r0 r1 r2 r3 r4 r5 r6 r7 c z n v pc (.slice ma mn mc)) (0, 0) _ (Blk.alloc (Blk.new w _ _) _) Try.underlying27 rfl (by kernel_rfl) ?_) | (refine wpList_store_row rfl 30 _ _ rfl (w.heap.size + 1) ranZc rfl rfl 30 ranZc HZ1.out (by kernel_rfl) rfl ranZ_one ?_))
      exact bodyPost_ret (results_cell2 rfl _ _ (w.heap.size + 1) 30 ranZc (0, 0) _ rfl (HZ1.out.row ranZc) Try.underlying30 rfl (by kernel_rfl)) rfl ⟨by rw [HE2.out]; rfl, Below.row HB1.out (by omega) _⟩
    have e4 : decide (fuel < 0) = false := by simpa using h4
    by_cases h5 : fuel > 1000000
    · have e5 : decide (fuel > 1000000) = true := by simpa using h5
      have HE2 : Hid (E = 3) := by show E = 3; rw [HE4.out, if_pos (.inr h5)]
      clear h4 h5
      go_enter Try.func16, Try.ntmps16
      go_wp2_with (first | (go_at_call 18; refine (HW.out _ (Ext.alloc (Ext.alloc (Below.refl _ _) _) _)).mono ?_; rintro e w1 ⟨rfl, hb1⟩; have HB1 := Lib.hid (Ext.trans (Ext.alloc (Ext.alloc (Below.refl w.heap.size w) _) _) hb1); have hz1 : w.heap.size + 2 ≤ w1.heap.size := (by have := hb1.size; simpa using this); have HZ1 := Lib.hid ((by have := Blk.new (w.alloc (.cells (stC r0 r1 r2 r3 r4 r5 r6 r7 c z n v pc (.slice ma mn mc)) 27)) 30 ranZc; simpa using this.keep hb1 : Blk w1 (w.heap.size + 1) 30 ranZc)); have HS1 := Lib.hid ((by have := (Blk.new w 27 (stC r0 r1 r2 r3 r4 r5 r6 r7 c z n v pc (.slice ma mn mc))).alloc (.cells ranZc 30); exact this.keep hb1 : Blk w1 w.heap.size 27 (stC r0 r1 r2 r3 r4 r5 r6 r7 c z n v pc (.slice ma mn mc)))); clear hb1) | (refine wpList_load_row rfl 27 _ rfl w.heap.size rfl 27 (stC r0 r1 r2 r3 r4 r5 r6 r7 c z n v pc (.slice ma mn mc)) (0, 0) _ (Blk.alloc (Blk.new w _ _) _) Try.underlying27 rfl (by kernel_rfl) ?_) | (refine wpList_store_row rfl 30 _ _ rfl (w.heap.size + 1) ranZc rfl rfl 30 ranZc HZ1.out (by kernel_rfl) rfl ranZ_one ?_))
      exact bodyPost_ret (results_cell2 rfl _ _ (w.heap.size + 1) 30 ranZc (0, 0) _ rfl (HZ1.out.row ranZc) Try.underlying30 rfl (by kernel_rfl)) rfl ⟨by rw [HE2.out]; rfl, Below.row HB1.out (by omega) _⟩
    exact absurd (by rw [HE4.out, if_neg (by omega)]) H0.out
  · have e3 : (W0 != 0) = true := by simpa using h3
    have HE2 : Hid (E = W0) := by show E = _; rw [HE3.out, if_pos h3]
    clear h3 HE3
    go_enter Try.func16, Try.ntmps16
    go_wp2_with (first | (go_at_call 18; refine (HW.out _ (Ext.alloc (Ext.alloc (Below.refl _ _) _) _)).mono ?_; rintro e w1 ⟨rfl, hb1⟩; have HB1 := Lib.hid (Ext.trans (Ext.alloc (Ext.alloc (Below.refl w.heap.size w) _) _) hb1); have hz1 : w.heap.size + 2 ≤ w1.heap.size := (by have := hb1.size; simpa using this); have HZ1 := Lib.hid ((by have := Blk.new (w.alloc (.cells (stC r0 r1 r2 r3 r4 r5 r6 r7 c z n v pc (.slice ma mn mc)) 27)) 30 ranZc; simpa using this.keep hb1 : Blk w1 (w.heap.size + 1) 30 ranZc)); have HS1 := Lib.hid ((by have := (Blk.new w 27 (stC r0 r1 r2 r3 r4 r5 r6 r7 c z n v pc (.slice ma mn mc))).alloc (.cells ranZc 30); exact this.keep hb1 : Blk w1 w.heap.size 27 (stC r0 r1 r2 r3 r4 r5 r6 r7 c z n v pc (.slice ma mn mc)))); clear hb1) | (refine wpList_load_row rfl 27 _ rfl w.heap.size rfl 27 (stC r0 r1 r2 r3 r4 r5 r6 r7 c z n v pc (.slice ma mn mc)) (0, 0) _ (Blk.alloc (Blk.new w _ _) _) Try.underlying27 rfl (by kernel_rfl) ?_) | (refine wpList_store_row rfl 30 _ _ rfl (w.heap.size + 1) ranZc rfl rfl 30 ranZc HZ1.out (by kernel_rfl) rfl ranZ_one ?_))
    exact bodyPost_ret (results_cell2 rfl _ _ (w.heap.size + 1) 30 ranZc (0, 0) _ rfl (HZ1.out.row ranZc) Try.underlying30 rfl (by kernel_rfl)) rfl ⟨by rw [HE2.out]; rfl, Below.row HB1.out (by omega) _⟩
set_option maxHeartbeats 16000000 in
theorem rrun_run (ca ia ma : Option Addr) (nC cc nI ic mn mc : Nat) (r0 r1 r2 r3 r4 r5 r6 r7 pc fuel : Int) (c z n v : Bool) (cd inp ms : List Int) (w : World)
    (hw : ∀ w1 : World, Below w.heap.size w w1 → Calls Try.prog 18 #[stV r0 r1 r2 r3 r4 r5 r6 r7 c z n v pc (.slice ma mn mc)] w1 fun e w' => e = .returned (.int .i64 0) ∧ Below w1.heap.size w1 w')
    (hc : Rd w 1 (.slice ca nC cc) nC (cd.map (Value.int .i64))) (hi : Rd w 1 (.slice ia nI ic) nI (inp.map (Value.int .u8))) (hm : Rd w 1 (.slice ma mn mc) mn (ms.map (Value.int .i64)))
    (hnC : nC ≤ 65536) (hnI : nI ≤ 65536) (hby : ∀ x ∈ inp, 0 ≤ x ∧ x < 256) (hf : 0 ≤ fuel ∧ fuel ≤ 1000000) (hfine : Mc.Fine nI (Mc.begin (reg8 r0 r1 r2 r3 r4 r5 r6 r7) c z n v pc ms)) (F : St)
    (hF : F = (go Mc.alone cd inp fuel.toNat (Mc.begin (reg8 r0 r1 r2 r3 r4 r5 r6 r7) c z n v pc ms) ()).1) :
    Calls Try.prog 16 #[.slice ca nC cc, stV r0 r1 r2 r3 r4 r5 r6 r7 c z n v pc (.slice ma mn mc), .slice ia nI ic, .int .i64 fuel] w fun e w' =>
      ∃ ov mv, e = .returned (.tuple #[ranV F ov mv, .int .i64 0]) ∧ w'.ownsRow w.heap.size 5 1 ov F.out.length (F.out.map (Value.int .u8)) ∧ w'.ownsRow w.heap.size 3 1 mv (top F.mem MS) ((left F.mem).map (Value.int .i64)) ∧ F.out.length ≤ 65536 ∧ Below w.heap.size w w' := by
  have HW := Lib.hid hw
  have HC := Lib.hid hc; have HI := Lib.hid hi; have HM := Lib.hid hm
  have HNC := Lib.hid hnC; have HNI := Lib.hid hnI; have HBY := Lib.hid hby; have HFU := Lib.hid hf
  have HFI := Lib.hid hfine; have HFin := Lib.hid hF
  have e1 : decide ((nC : Int) > 65536) = false := by simp; omega
  have e2 : decide ((nI : Int) > 65536) = false := by simp; omega
  have e0 : ((0 : Int) != 0) = false := rfl
  have e4 : decide (fuel < 0) = false := by simp; omega
  have e5 : decide (fuel > 1000000) = false := by simp; omega
  have hmm := run_makeMap (P := Try.prog)
  clear hw hc hi hm hnC hnI hby hf hfine hF
  go_enter Try.func16, Try.ntmps16
  go_upto_region 8 with (first | (go_at_call 18; refine (HW.out _ (Ext.alloc (Ext.alloc (Below.refl _ _) _) _)).mono ?_; rintro e w1 ⟨rfl, hb1⟩; have HB1 := Lib.hid (Ext.trans (Ext.alloc (Ext.alloc (Below.refl w.heap.size w) _) _) hb1); have hz1 : w.heap.size + 2 ≤ w1.heap.size := (by have := hb1.size; simpa using this); have HZ1 := Lib.hid ((by have := Blk.new (w.alloc (.cells (stC r0 r1 r2 r3 r4 r5 r6 r7 c z n v pc (.slice ma mn mc)) 27)) 30 ranZc; simpa using this.keep hb1 : Blk w1 (w.heap.size + 1) 30 ranZc)); have HS1 := Lib.hid ((by have := (Blk.new w 27 (stC r0 r1 r2 r3 r4 r5 r6 r7 c z n v pc (.slice ma mn mc))).alloc (.cells ranZc 30); exact this.keep hb1 : Blk w1 w.heap.size 27 (stC r0 r1 r2 r3 r4 r5 r6 r7 c z n v pc (.slice ma mn mc)))); clear hb1) | (refine wpList_load_row rfl 27 _ rfl w.heap.size rfl 27 (stC r0 r1 r2 r3 r4 r5 r6 r7 c z n v pc (.slice ma mn mc)) (0, 0) _ (Blk.alloc (Blk.new w _ _) _) Try.underlying27 rfl (by kernel_rfl) ?_))
  go_upto_region 9 with (first | (refine wpList_load_row rfl 27 _ rfl w.heap.size rfl 27 (stC r0 r1 r2 r3 r4 r5 r6 r7 c z n v pc (.slice ma mn mc)) (0, 0) _ HS1.out Try.underlying27 rfl (by kernel_rfl) ?_))
  obtain ⟨L, hL⟩ : ∃ L : Lay3, L = ⟨w1.heap.size + 1, w1.heap.size, .slice ca nC cc, .slice ia nI ic, ma, mn, mc⟩ := ⟨_, rfl⟩
  generalize hw3 : World.alloc (World.alloc w1 (Obj.map #[] 0)) _ = w3
  have HBX := Lib.hid ((by rw [hL, ← hw3]; exact box3_start w1 (.slice ca nC cc) (.slice ia nI ic) ma mn mc (reg8 r0 r1 r2 r3 r4 r5 r6 r7) c z n v pc ms : Box3 w3 w1.heap.size L 0 ms (Mc.begin (reg8 r0 r1 r2 r3 r4 r5 r6 r7) c z n v pc ms) (.slice none 0 0)))
  have HB3 := Lib.hid ((by rw [← hw3]; exact Ext.alloc (Ext.alloc (Below.refl _ _) _) _ : Below w1.heap.size w1 w3))
  have HZ3 := Lib.hid (HZ1.out.keep HB3.out)
  have HW3 := Lib.hid (Ext.trans HB1.out HB3.out)
  have HRC : Hid (∀ wr, Below w1.heap.size w3 wr → RdB wr w1.heap.size L.cv nC (cd.map (Value.int .i64)) ∧ RdB wr w1.heap.size L.iv nI (inp.map (Value.int .u8)) ∧ RdB wr w1.heap.size (.slice L.ma L.mn L.mcap) L.mn (ms.map (Value.int .i64))) := by
    intro wr hb
    rw [hL]
    exact ⟨(RdB.of (HC.out.below HB1.out)).below (HB3.out.trans hb), (RdB.of (HI.out.below HB1.out)).below (HB3.out.trans hb), (RdB.of (HM.out.below HB1.out)).below (HB3.out.trans hb)⟩
  have hmp : w1.heap.size = L.mp := by rw [hL]
  have hbb : w1.heap.size + 1 = L.bb := by rw [hL]
  clear hw3 HZ1 HS1 HW hmm e0 e1 e2 e4 e5 hL HB1 HB3 HC HM
  generalize w1.heap.size = B at *
  subst hmp
  rw [hbb]
  obtain ⟨ba, bb⟩ := HFU.out
  go_wp2
  go_loopw [12] (fun i wr => Loop3 cd inp nI fuel ms w3 L.mp L F i wr) (fun i wr => msr3 fuel L.bb i wr)
  case atStart => exact .of ⟨_, fuel.toNat, 0, _, rfl, HBX.out, Below.refl _ _, HFI.out, by show (0 : Int) + _ = _; omega, by show (0 : Int) ≤ 0; omega, fun _ => HFin.out.symm, fun h => absurd rfl h⟩
  case round =>
    obtain ⟨s, k, N, ov, rfl, hM, hB, hFi, hst, hN, hgo, hne⟩ := hrel.get
    clear hrel
    obtain ⟨c20, f20⟩ := hM.at_ 20 (.int .i64 s.steps) rfl
    have hs0 : 0 ≤ s.steps := by omega
    have HMr := Lib.hid hM; have HBr := Lib.hid hB; have HFr := Lib.hid hFi; have HST := Lib.hid hst; have HGO := Lib.hid hgo; have HNE := Lib.hid hne; have HNN := Lib.hid hN
    have HMS := Lib.hid (msr_of (fuel := fuel) c20)
    clear hM hB hFi hgo hne hst hN
    by_cases hh : s.how = 0
    · have hh2 : (s.how == 0) = true := by simpa using hh
      by_cases hsf : s.steps = fuel
      · have hsf2 : (s.steps == fuel) = true := by simpa using hsf
        have HSF := Lib.hid hsf; have HH0 := Lib.hid hh
        clear hsf hh
        go_wp2
        go_roundw
        case rel =>
          have hk0 : k = 0 := by have := HST.out; have := HSF.out; omega
          refine .of ⟨{ s with how := 3 }, k, N, ov, rfl, HMr.out.setHow 3, HBr.out, HFr.out, HST.out, HNN.out, fun h => absurd h (show (3 : Int) ≠ 0 by decide), fun _ => ?_⟩
          have := HGO.out HH0.out
          rw [hk0] at this; exact this
        case measure =>
          show 2 * _ + (if (3 : Int) = 0 then 1 else 0) < 2 * _ + (if s.how = 0 then 1 else 0)
          rw [if_pos HH0.out, if_neg (by decide)]; omega
      · have hsf2 : (s.steps == fuel) = false := by simpa using hsf
        have hlt : s.steps < fuel := by have := HST.out; omega
        obtain ⟨k', hk'⟩ : ∃ k', k = k' + 1 := ⟨k - 1, by have := HST.out; omega⟩
        have HK' := Lib.hid hk'
        have HH0 := Lib.hid hh
        have CST : Hid (∀ wx : World, Below L.mp w3 wx → Box3 wx L.mp L N ms { s with steps := s.steps + 1 } ov → Calls Try.prog 44 #[bP L] wx (Did3 L.mp L N ms ov (Mc.step cd inp { s with steps := s.steps + 1 }) wx)) := fun wx hb hm => by
          obtain ⟨q1, q2, q3⟩ := HRC.out wx hb
          exact step3_ok L.mp L N ms { s with steps := s.steps + 1 } ov nC nI cd inp HFr.out.1 (by have := HNN.out; omega) wx hm q1 HNC.out q3 q2 HNI.out HFr.out.2.2 HBY.out HFr.out.2.1
        obtain ⟨R, hR⟩ : ∃ R, R = Mc.step cd inp { s with steps := s.steps + 1 } := ⟨_, rfl⟩
        rw [← hR] at CST
        have HR := Lib.hid hR
        clear hsf hh hk' hR
        go_wp2_with (first | (go_at_call 44; refine (CST.out _ (Below.setCell HBr.out (p := ⟨L.bb, 20, none⟩) HMr.out.lo1 _) (HMr.out.setSteps _)).mono ?_; rintro e wx ⟨rfl, N', ov', hN', hm', hf'⟩; have HM' := Lib.hid hm'; have HF' := Lib.hid hf'; have HN' := Lib.hid hN'; clear hm' hf' hN'))
        go_roundw
        case rel =>
          have hT : Mc.tick cd inp s = { R.1 with how := R.2 } := by unfold Mc.tick; rw [← HR.out]
          have hst2 := Mc.tick_steps cd inp s
          have hgo2 := HGO.out HH0.out
          rw [HK'.out] at hgo2
          refine .of ⟨Mc.tick cd inp s, k', N', ov', by rw [hT], by rw [hT]; exact HM'.out.setHow _, ?_, Mc.tick_fine (cd := cd) (by have := HI.out.1; simpa using this) HBY.out s HFr.out, ?_, ?_, ?_, ?_⟩
          · exact Below.trans (Below.setCell HBr.out (p := ⟨L.bb, 20, none⟩) HMr.out.lo1 _) (HF'.out.to (HMr.out.setSteps _))
          · rw [hst2]; have := HST.out; have := HK'.out; omega
          · rw [hst2]; have := HNN.out; have := HN'.out; omega
          · intro h0
            have : (Mc.go Mc.alone cd inp (k' + 1) s ()) = Mc.go Mc.alone cd inp k' (Mc.tick cd inp s) () := by
              show (if false = true then _ else if (Mc.tick cd inp s).how = 0 then _ else _) = _
              rw [if_neg (by decide), if_pos h0]
            rw [this] at hgo2; exact hgo2
          · intro h0
            have : (Mc.go Mc.alone cd inp (k' + 1) s ()) = (Mc.tick cd inp s, ()) := by
              show (if false = true then _ else if (Mc.tick cd inp s).how = 0 then _ else _) = _
              rw [if_neg (by decide), if_neg h0]
            rw [this] at hgo2; exact hgo2
        case measure =>
          have hq := HM'.out.at_ 20 (.int .i64 R.1.steps) rfl
          have h1 := msr_of (fuel := fuel) hq.1
          have h2 : R.1.steps = s.steps + 1 := by rw [HR.out]; exact (Mc.step_steps cd inp { s with steps := s.steps + 1 }).1
          unfold msr3
          rw [HMS.out, h1, h2]
          (repeat' split) <;> omega
    · have hh2 : (s.how == 0) = false := by simpa using hh
      have HH0 := Lib.hid hh
      clear hh
      have hsF : F = s := (HNE.out HH0.out).symm
      subst hsF
      have HBt := Lib.hid (Below.trans HW3.out (HBr.out.mono (by omega)) : Below w.heap.size w wr)
      have HZt := Lib.hid (HZ3.out.below HBr.out (by omega) : Blk wr (w.heap.size + 1) 30 ranZc)
      have HLo : Hid (w.heap.size ≤ L.mp) := by show _ ≤ _; omega
      have HRM := Lib.hid (HRC.out wr HBr.out).2.2
      obtain ⟨oa, on, oc, hov⟩ : ∃ oa on oc, ov = Value.slice oa on oc := by obtain ⟨a, c, e, _⟩ := own_slice HMr.out.out; exact ⟨a, _, c, e⟩
      subst hov
      clear c20 f20 HI HNC HNI HBY HFU HFI HFin HBX HZ3 HW3 HRC HST HGO HNE HNN HMS
      obtain ⟨W0, rfl⟩ : ∃ W0, W0 = wr := ⟨_, rfl⟩
      obtain ⟨M, hMM⟩ : ∃ M : Nat, M = MS := ⟨_, rfl⟩
      have HMM := Lib.hid hMM
      have hM5 : M = 65536 := hMM
      have HM5 := Lib.hid hM5
      clear hMM hM5
      go_wp2
      go_loopw [13, 14, 15] (fun m l i wr => ∃ j : Nat, j ≤ M ∧ i = .int .i64 (j : Int) ∧ l = .int .i64 ((top F.mem j : Nat) : Int) ∧ Hid (wr.ownsRow W0.heap.size 3 1 m j (((List.range j).map F.mem).map (Value.int .i64))) ∧ Hid (Below W0.heap.size W0 wr)) (fun _ _ i _ => M - (intOf i).toNat)
      case atStart => exact ⟨0, Nat.zero_le _, rfl, rfl, World.ownsRow_nil _ _ _ _, Below.refl _ _⟩
      case round =>
        obtain ⟨j, hj, rfl, rfl, hown, hbx⟩ := hrel
        obtain ⟨xa, xc, hxv, _⟩ := own_slice hown.out
        subst hxv
        by_cases hlt : j < M
        · have hj5 : j < 65536 := by have := HM5.out; omega
          have hd : decide ((j : Int) < 65536) = true := by have := HM5.out; simp; omega
          obtain ⟨X, hX⟩ : ∃ X, X = F.mem j := ⟨_, rfl⟩
          have CLD : Hid (∀ wy : World, Below W0.heap.size W0 wy → Calls Try.prog 45 #[bP L, .int .i64 (j : Int)] wy (fun e w' => e = .returned (.int .i64 X) ∧ wy = w')) := fun wy hb => by
            have := load3_ok L.mp L N ms F (.slice oa on oc) (j : Int) (by have := HM5.out; omega) wy (HMr.out.keep hb) (HRM.out.1.below hb)
            rw [show ((j : Int) % 65536).toNat = j by have := HM5.out; omega, ← hX] at this
            exact this
          have HNX : Hid (((List.range j).map F.mem).map (Value.int .i64) ++ [.int .i64 X] = ((List.range (j + 1)).map F.mem).map (Value.int .i64)) := by
            show _ = _
            rw [List.range_succ, List.map_append, List.map_append, hX]; rfl
          have HJ1 : Hid (j ≤ 100000000) := by show j ≤ _; have := HM5.out; omega
          have HSZ : Hid (W0.heap.size ≤ wr.heap.size) := hbx.out.size
          have HJ := Lib.hid hj; have HLT := Lib.hid hlt
          by_cases hx0 : X = 0
          · have hx2 : (X != 0) = false := by simpa using hx0
            have HT : Hid (top F.mem (j + 1) = top F.mem j) := by show _ = _; exact top_zero (by rw [← hX]; exact hx0)
            clear hX hx0 hj hlt
            generalize top F.mem j = T at *
            go_wp2_with (first | (go_at_call 45; refine (CLD.out _ hbx.out).mono ?_; rintro e wy ⟨rfl, rfl⟩) | (at_builtin; refine wpList_app_int rfl _ _ rfl W0.heap.size _ _ _ _ _ _ rfl rfl hown.out rfl HJ1.out HSZ.out ?_; intro aA cA wA ho hg; have HOA := Lib.hid ho; have HGA := Lib.hid hg; clear ho hg))
            go_roundw
            case rel => exact ⟨j + 1, HLT.out, by go_num, by rw [HT.out], (by have := HOA.out; rw [HNX.out] at this; exact this), Lib.hid (hbx.out.trans (grown_below HGA.out HSZ.out (own_low hown.out)))⟩
            case measure => have := HLT.out; simp [intOf]; omega
          · have hx2 : (X != 0) = true := by simpa using hx0
            have HT : Hid (top F.mem (j + 1) = j + 1) := by show _ = _; exact top_not (by rw [← hX]; exact hx0)
            clear hX hx0 hj hlt
            generalize top F.mem j = T at *
            go_wp2_with (first | (go_at_call 45; refine (CLD.out _ hbx.out).mono ?_; rintro e wy ⟨rfl, rfl⟩) | (at_builtin; refine wpList_app_int rfl _ _ rfl W0.heap.size _ _ _ _ _ _ rfl rfl hown.out rfl HJ1.out HSZ.out ?_; intro aA cA wA ho hg; have HOA := Lib.hid ho; have HGA := Lib.hid hg; clear ho hg))
            go_roundw
            case rel => exact ⟨j + 1, HLT.out, by go_num, by rw [HT.out]; go_num, (by have := HOA.out; rw [HNX.out] at this; exact this), Lib.hid (hbx.out.trans (grown_below HGA.out HSZ.out (own_low hown.out)))⟩
            case measure => have := HLT.out; simp [intOf]; omega
        · obtain rfl : j = M := by omega
          have hd : decide ((j : Int) < 65536) = false := by have := HM5.out; simp; omega
          have HTL : Hid (top F.mem j ≤ j) := top_le F.mem j
          have HTT : Hid (top F.mem MS = top F.mem j) := by show _ = _; rw [HMM.out]
          obtain ⟨g, cap, _, hv, _, _, hcap, _⟩ := rown_open hown.out (by have := HM5.out; simp; omega)
          injection hv with hv1 hv2 hv3
          subst hv1; subst hv3
          generalize top F.mem j = T at *
          have HE := Lib.hid (box3_end HMr.out HFr.out.2.1 HTL.out HMM.out HTT.out HZt.out HLo.out (Nat.le_succ _) HBt.out hbx.out hown.out)
          have hcT : T ≤ xc := Nat.le_trans HTL.out hcap
          obtain ⟨c14, f14⟩ := (HMr.out.keep hbx.out).at_ 14 (.slice L.ma L.mn L.mcap) rfl
          clear hlt hj hcap
          go_upto_region 25 with (fail)
          generalize World.setCell wr ⟨L.bb, 14, none⟩ _ = W5 at *
          clear c14 f14
          apply Ix.wp_region 22 (fun wi => Hid (Below W5.heap.size W5 wi)) (Ix.vk [(Ix.kis (.int .i64 F.how)), (Ix.kis (bP L)), (Ix.kis (bP L)), (Ix.kis (.pointer (some ⟨L.bb, 19, none⟩))), (Ix.kis (.int .i64 F.trap)), (Ix.kis (bP L)), (Ix.kis (bP L)), (Ix.kis (.pointer (some ⟨L.bb, 18, none⟩))), (Ix.kis (.slice oa on oc)), (Ix.kis (bP L)), (Ix.kis (bP L)), (Ix.kis (.pointer (some ⟨L.bb, 17, none⟩))), (Ix.kis (.int .i64 (F.read : Int))), (Ix.kis (bP L)), (Ix.kis (bP L)), (Ix.kis (.pointer (some ⟨L.bb, 20, none⟩))), (Ix.kis (.int .i64 F.steps)), (Ix.kis (bP L)), (Ix.kis (bP L)), (Ix.kis (.pointer (some ⟨L.bb, 1, none⟩))), (Ix.kis (.agg (stL F (.slice (some ⟨g, 0, none⟩) T xc)).toArray)), (Ix.kis (ranV F (.slice oa on oc) (.slice (some ⟨g, 0, none⟩) T xc)))]) (fun _ => false) (by kernel_rfl) (by kernel_rfl) (by kernel_rfl) (fun _ _ h hb => Ext.trans h.out hb) (Ix.vk_keeps _) (Ix.not_al _) (Below.refl _ _)
          case step =>
            refine zzx 21 0 1 rfl rfl [] (by kernel_rfl) (fun wi HB => ?_) ?_
            (· (refine zze ?_; (try simp only [zzp]); refine Ix.goI_yes rfl rfl fun K hK => ?_; (try simp only [zzp] at hK); go_wp2_with (first | fail); exact hK _ _ (Below.refl _ _) rfl))
            refine zzx 20 1 2 rfl rfl [] (by kernel_rfl) (fun wi HB => ?_) ?_
            (· (refine zze ?_; (try simp only [zzp]); refine Ix.goI_yes rfl rfl fun K hK => ?_; (try simp only [zzp] at hK); go_wp2_with (first | fail); exact hK _ _ (Below.refl _ _) rfl))
            refine zzx 19 2 3 rfl rfl [(1, some 85)] (by kernel_rfl) (fun wi HB => ?_) ?_
            (· (refine zza ?_; rintro _ rfl; refine zze ?_; (try simp only [zzp]); refine Ix.goI_yes rfl rfl fun K hK => ?_; (try simp only [zzp] at hK); go_wp2_with (first | fail); exact hK _ _ (Below.refl _ _) rfl))
            refine zzx 18 3 4 rfl rfl [(2, some 86)] (by kernel_rfl) (fun wi HB => ?_) ?_
            (· (refine zza ?_; rintro _ rfl; refine zze ?_; (try simp only [zzp]); refine Ix.goI_yes rfl rfl fun K hK => ?_; (try simp only [zzp] at hK); go_wp2_with (first | fail); exact hK _ _ (Below.refl _ _) rfl))
            refine zzx 17 4 5 rfl rfl [(3, some 87)] (by kernel_rfl) (fun wi HB => ?_) ?_
            (· (have HKB := Lib.hid (HE.out.1.keep HB.out); have y19 : wi.cell? ⟨L.bb, 19, none⟩ = some (.int .i64 F.trap) := (by rw [HKB.out.cell]; rfl); have y18 : wi.cell? ⟨L.bb, 18, none⟩ = some (.slice oa on oc) := (by rw [HKB.out.cell]; rfl); have y17 : wi.cell? ⟨L.bb, 17, none⟩ = some (.int .i64 (F.read : Int)) := (by rw [HKB.out.cell]; rfl); have y20 : wi.cell? ⟨L.bb, 20, none⟩ = some (.int .i64 F.steps) := (by rw [HKB.out.cell]; rfl); refine zza ?_; rintro _ rfl; refine zze ?_; (try simp only [zzp]); refine Ix.goI_yes rfl rfl fun K hK => ?_; (try simp only [zzp] at hK); go_wp2_with (first | fail); exact hK _ _ (Below.refl _ _) rfl))
            refine zzx 16 5 6 rfl rfl [] (by kernel_rfl) (fun wi HB => ?_) ?_
            (· (refine zze ?_; (try simp only [zzp]); refine Ix.goI_yes rfl rfl fun K hK => ?_; (try simp only [zzp] at hK); go_wp2_with (first | fail); exact hK _ _ (Below.refl _ _) rfl))
            refine zzx 15 6 7 rfl rfl [(5, some 89)] (by kernel_rfl) (fun wi HB => ?_) ?_
            (· (refine zza ?_; rintro _ rfl; refine zze ?_; (try simp only [zzp]); refine Ix.goI_yes rfl rfl fun K hK => ?_; (try simp only [zzp] at hK); go_wp2_with (first | fail); exact hK _ _ (Below.refl _ _) rfl))
            refine zzx 14 7 8 rfl rfl [(6, some 90)] (by kernel_rfl) (fun wi HB => ?_) ?_
            (· (refine zza ?_; rintro _ rfl; refine zze ?_; (try simp only [zzp]); refine Ix.goI_yes rfl rfl fun K hK => ?_; (try simp only [zzp] at hK); go_wp2_with (first | fail); exact hK _ _ (Below.refl _ _) rfl))
            refine zzx 13 8 9 rfl rfl [(7, some 91)] (by kernel_rfl) (fun wi HB => ?_) ?_
            (· (have HKB := Lib.hid (HE.out.1.keep HB.out); have y19 : wi.cell? ⟨L.bb, 19, none⟩ = some (.int .i64 F.trap) := (by rw [HKB.out.cell]; rfl); have y18 : wi.cell? ⟨L.bb, 18, none⟩ = some (.slice oa on oc) := (by rw [HKB.out.cell]; rfl); have y17 : wi.cell? ⟨L.bb, 17, none⟩ = some (.int .i64 (F.read : Int)) := (by rw [HKB.out.cell]; rfl); have y20 : wi.cell? ⟨L.bb, 20, none⟩ = some (.int .i64 F.steps) := (by rw [HKB.out.cell]; rfl); refine zza ?_; rintro _ rfl; refine zze ?_; (try simp only [zzp]); refine Ix.goI_yes rfl rfl fun K hK => ?_; (try simp only [zzp] at hK); go_wp2_with (first | fail); exact hK _ _ (Below.refl _ _) rfl))
            refine zzx 12 9 10 rfl rfl [] (by kernel_rfl) (fun wi HB => ?_) ?_
            (· (refine zze ?_; (try simp only [zzp]); refine Ix.goI_yes rfl rfl fun K hK => ?_; (try simp only [zzp] at hK); go_wp2_with (first | fail); exact hK _ _ (Below.refl _ _) rfl))
            refine zzx 11 10 11 rfl rfl [(9, some 93)] (by kernel_rfl) (fun wi HB => ?_) ?_
            (· (refine zza ?_; rintro _ rfl; refine zze ?_; (try simp only [zzp]); refine Ix.goI_yes rfl rfl fun K hK => ?_; (try simp only [zzp] at hK); go_wp2_with (first | fail); exact hK _ _ (Below.refl _ _) rfl))
            refine zzx 10 11 12 rfl rfl [(10, some 94)] (by kernel_rfl) (fun wi HB => ?_) ?_
            (· (refine zza ?_; rintro _ rfl; refine zze ?_; (try simp only [zzp]); refine Ix.goI_yes rfl rfl fun K hK => ?_; (try simp only [zzp] at hK); go_wp2_with (first | fail); exact hK _ _ (Below.refl _ _) rfl))
            refine zzx 9 12 13 rfl rfl [(11, some 95)] (by kernel_rfl) (fun wi HB => ?_) ?_
            (· (have HKB := Lib.hid (HE.out.1.keep HB.out); have y19 : wi.cell? ⟨L.bb, 19, none⟩ = some (.int .i64 F.trap) := (by rw [HKB.out.cell]; rfl); have y18 : wi.cell? ⟨L.bb, 18, none⟩ = some (.slice oa on oc) := (by rw [HKB.out.cell]; rfl); have y17 : wi.cell? ⟨L.bb, 17, none⟩ = some (.int .i64 (F.read : Int)) := (by rw [HKB.out.cell]; rfl); have y20 : wi.cell? ⟨L.bb, 20, none⟩ = some (.int .i64 F.steps) := (by rw [HKB.out.cell]; rfl); refine zza ?_; rintro _ rfl; refine zze ?_; (try simp only [zzp]); refine Ix.goI_yes rfl rfl fun K hK => ?_; (try simp only [zzp] at hK); go_wp2_with (first | fail); exact hK _ _ (Below.refl _ _) rfl))
            refine zzx 8 13 14 rfl rfl [] (by kernel_rfl) (fun wi HB => ?_) ?_
            (· (refine zze ?_; (try simp only [zzp]); refine Ix.goI_yes rfl rfl fun K hK => ?_; (try simp only [zzp] at hK); go_wp2_with (first | fail); exact hK _ _ (Below.refl _ _) rfl))
            refine zzx 7 14 15 rfl rfl [(13, some 97)] (by kernel_rfl) (fun wi HB => ?_) ?_
            (· (refine zza ?_; rintro _ rfl; refine zze ?_; (try simp only [zzp]); refine Ix.goI_yes rfl rfl fun K hK => ?_; (try simp only [zzp] at hK); go_wp2_with (first | fail); exact hK _ _ (Below.refl _ _) rfl))
            refine zzx 6 15 16 rfl rfl [(14, some 98)] (by kernel_rfl) (fun wi HB => ?_) ?_
            (· (refine zza ?_; rintro _ rfl; refine zze ?_; (try simp only [zzp]); refine Ix.goI_yes rfl rfl fun K hK => ?_; (try simp only [zzp] at hK); go_wp2_with (first | fail); exact hK _ _ (Below.refl _ _) rfl))
            refine zzx 5 16 17 rfl rfl [(15, some 99)] (by kernel_rfl) (fun wi HB => ?_) ?_
            (· (have HKB := Lib.hid (HE.out.1.keep HB.out); have y19 : wi.cell? ⟨L.bb, 19, none⟩ = some (.int .i64 F.trap) := (by rw [HKB.out.cell]; rfl); have y18 : wi.cell? ⟨L.bb, 18, none⟩ = some (.slice oa on oc) := (by rw [HKB.out.cell]; rfl); have y17 : wi.cell? ⟨L.bb, 17, none⟩ = some (.int .i64 (F.read : Int)) := (by rw [HKB.out.cell]; rfl); have y20 : wi.cell? ⟨L.bb, 20, none⟩ = some (.int .i64 F.steps) := (by rw [HKB.out.cell]; rfl); refine zza ?_; rintro _ rfl; refine zze ?_; (try simp only [zzp]); refine Ix.goI_yes rfl rfl fun K hK => ?_; (try simp only [zzp] at hK); go_wp2_with (first | fail); exact hK _ _ (Below.refl _ _) rfl))
            refine zzx 4 17 18 rfl rfl [] (by kernel_rfl) (fun wi HB => ?_) ?_
            (· (refine zze ?_; (try simp only [zzp]); refine Ix.goI_yes rfl rfl fun K hK => ?_; (try simp only [zzp] at hK); go_wp2_with (first | fail); exact hK _ _ (Below.refl _ _) rfl))
            refine zzx 3 18 19 rfl rfl [(17, some 101)] (by kernel_rfl) (fun wi HB => ?_) ?_
            (· (refine zza ?_; rintro _ rfl; refine zze ?_; (try simp only [zzp]); refine Ix.goI_yes rfl rfl fun K hK => ?_; (try simp only [zzp] at hK); go_wp2_with (first | fail); exact hK _ _ (Below.refl _ _) rfl))
            refine zzx 2 19 20 rfl rfl [(18, some 102)] (by kernel_rfl) (fun wi HB => ?_) ?_
            (· (refine zza ?_; rintro _ rfl; refine zze ?_; (try simp only [zzp]); refine Ix.goI_yes rfl rfl fun K hK => ?_; (try simp only [zzp] at hK); go_wp2_with (first | fail); exact hK _ _ (Below.refl _ _) rfl))
            refine zzx 1 20 21 rfl rfl [(19, some 103)] (by kernel_rfl) (fun wi HB => ?_) ?_
            (· (have HKB := Lib.hid (HE.out.1.keep HB.out); have y19 : wi.cell? ⟨L.bb, 19, none⟩ = some (.int .i64 F.trap) := (by rw [HKB.out.cell]; rfl); have y18 : wi.cell? ⟨L.bb, 18, none⟩ = some (.slice oa on oc) := (by rw [HKB.out.cell]; rfl); have y17 : wi.cell? ⟨L.bb, 17, none⟩ = some (.int .i64 (F.read : Int)) := (by rw [HKB.out.cell]; rfl); have y20 : wi.cell? ⟨L.bb, 20, none⟩ = some (.int .i64 F.steps) := (by rw [HKB.out.cell]; rfl); refine zza ?_; rintro _ rfl; refine zze ?_; (try simp only [zzp]); refine Ix.goI_yes rfl rfl fun K hK => ?_; (try simp only [zzp] at hK); refine wp_load_sub 27 _ rfl L.bb 1 rfl 88 _ (stL F (.slice (some ⟨g, 0, none⟩) T xc)) _ HKB.out rfl Try.underlying27 rfl (by kernel_rfl) ?_; exact hK _ _ (Below.refl _ _) rfl))
            refine zzx 0 21 22 rfl rfl [(0, some 84), (4, some 88), (8, some 92), (12, some 96), (16, some 100), (20, some 104)] (by kernel_rfl) (fun wi HB => ?_) ?_
            (· (refine zza ?_; rintro _ rfl; refine zza ?_; rintro _ rfl; refine zza ?_; rintro _ rfl; refine zza ?_; rintro _ rfl; refine zza ?_; rintro _ rfl; refine zza ?_; rintro _ rfl; refine zze ?_; (try simp only [zzp]); refine Ix.goI_yes rfl rfl fun K hK => ?_; (try simp only [zzp] at hK); go_wp2_with (first | fail); exact hK _ _ (Below.refl _ _) rfl))
            exact Ix.steps_nil
          intro vsf wf HF hdf
          refine zzv 21 0 1 rfl rfl ?_; rintro _ _ rfl; refine zzv 20 1 2 rfl rfl ?_; rintro _ _ rfl; refine zzv 19 2 3 rfl rfl ?_; rintro _ _ rfl; refine zzv 18 3 4 rfl rfl ?_; rintro _ _ rfl; refine zzv 17 4 5 rfl rfl ?_; rintro _ _ rfl; refine zzv 16 5 6 rfl rfl ?_; rintro _ _ rfl; refine zzv 15 6 7 rfl rfl ?_; rintro _ _ rfl; refine zzv 14 7 8 rfl rfl ?_; rintro _ _ rfl; refine zzv 13 8 9 rfl rfl ?_; rintro _ _ rfl; refine zzv 12 9 10 rfl rfl ?_; rintro _ _ rfl; refine zzv 11 10 11 rfl rfl ?_; rintro _ _ rfl; refine zzv 10 11 12 rfl rfl ?_; rintro _ _ rfl; refine zzv 9 12 13 rfl rfl ?_; rintro _ _ rfl; refine zzv 8 13 14 rfl rfl ?_; rintro _ _ rfl; refine zzv 7 14 15 rfl rfl ?_; rintro _ _ rfl; refine zzv 6 15 16 rfl rfl ?_; rintro _ _ rfl; refine zzv 5 16 17 rfl rfl ?_; rintro _ _ rfl; refine zzv 4 17 18 rfl rfl ?_; rintro _ _ rfl; refine zzv 3 18 19 rfl rfl ?_; rintro _ _ rfl; refine zzv 2 19 20 rfl rfl ?_; rintro _ _ rfl; refine zzv 1 20 21 rfl rfl ?_; rintro _ _ rfl; refine zzv 0 21 22 rfl rfl ?_; rintro _ _ rfl
          refine Ix.allV_nil ?_
          have HZF := Lib.hid (HE.out.2.1.keep HF.out)
          (try simp only [Act.put, List.setIfInBounds_toArray, List.set_cons_zero, List.set_cons_succ, List.drop_succ_cons, List.drop_zero])
          go_wp2_with (first | (refine wpList_store_row rfl 30 _ _ rfl (w.heap.size + 1) (ranL F (.slice oa on oc) (.slice (some ⟨g, 0, none⟩) T xc)).toArray rfl rfl 30 ranZc HZF.out (by kernel_rfl) rfl (ranL_one _ _ _ _ _ _ _) ?_))
          refine Ix.only ?_
          go_wp2
          exact bodyPost_ret (results_cell2 rfl _ _ (w.heap.size + 1) 30 (ranL F (.slice oa on oc) (.slice (some ⟨g, 0, none⟩) T xc)).toArray (0, 0) _ rfl (HZF.out.row _) Try.underlying30 rfl (by kernel_rfl)) rfl ⟨_, _, rfl, (HE.out.2.2 _ HF.out _).1, (HE.out.2.2 _ HF.out _).2.1, HFr.out.2.1, (HE.out.2.2 _ HF.out _).2.2⟩
end Go.Proofs.Ytfjgnhmmakeaeaa
