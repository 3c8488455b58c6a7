/- Walk of law ProbeGoesOn: the run was stopped. -/
import Derived.Test.YtfjgnhmmakeaeaaE72
import Derived.Test.YtfjgnhmmakeaeaaE68
import Derived.Test.YtfjgnhmmakeaeaaE42
namespace Go.Proofs.Ytfjgnhmmakeaeaa
open Go.RowKit
set_option linter.unusedVariables false
set_option linter.unusedSimpArgs false
set_option maxRecDepth 100000
open Mc
theorem contains_take (ps : List Int) (x : Int) (k : Nat) (h : k < ps.length) : (ps.take (k + 1)).contains x = ((ps.take k).contains x || ps.getD k 0 == x) := by
  rw [List.take_succ_eq_append_getElem h, List.getD_eq_getElem?_getD, List.getElem?_eq_getElem h]
  rw [Bool.eq_iff_iff]
  simp only [Bool.or_eq_true, List.contains_eq_mem, decide_eq_true_eq, List.mem_append, List.mem_singleton, beq_iff_eq]
  constructor <;> (rintro (h | h); exact .inl h; exact .inr h.symm)
set_option maxHeartbeats 16000000 in
theorem goeson_much (ca pa : Option Addr) (nC cc pn pk : Nat) (ia ma ja : Option Addr) (nI ic mn mc N1 N2 N3 jn jc : Nat) (r0 r1 r2 r3 r4 r5 r6 r7 pc fuel : Int) (c z n v : Bool) (FA FB FC : St) (ps : List Int) (w : World) (h4 : FA.how = 6) (hrd : FA.read ≤ nI) (hs0 : 0 ≤ FA.steps) (hs1 : FA.steps ≤ fuel) (hfu : fuel ≤ 1000000) (hN1 : N1 ≤ 65536) (hN2 : N2 ≤ 65536) (hps : Rd w 1 (.slice pa pn pk) pn (ps.map (Value.int .i64))) (hpc : ps.contains FA.pc = true)
    (hsl : ∀ w : World, (Instr.sliceAt 28 (.slice ia nI ic) (some (.int .i64 (FA.read : Int))) none none).run Try.prog w = .ok (.slice ja jn jc) w) (hsum : decide ((N1 : Int) + (N2 : Int) > 65536) = true)
    (CR : ∀ w1 : World, Below w.heap.size w w1 → Calls Try.prog 37 #[.slice ca nC cc, stV r0 r1 r2 r3 r4 r5 r6 r7 c z n v pc (.slice ma mn mc), .slice ia nI ic, .int .i64 fuel, .slice pa pn pk] w1 fun e w' => ∃ oa oc xa xn xc, e = .returned (.tuple #[ranV FA (.slice oa N1 oc) (.slice xa xn xc), .int .i64 0]) ∧ Rd w' 1 (.slice oa N1 oc) N1 (FA.out.map (Value.int .u8)) ∧ Rd w' 1 (.slice xa xn xc) (top FA.mem MS) ((left FA.mem).map (Value.int .i64)) ∧ Below w1.heap.size w1 w')
    (CRB : ∀ (w1 : World) (xa : Option Addr) (xn xc : Nat), Rd w1 1 (.slice xa xn xc) (top FA.mem MS) ((left FA.mem).map (Value.int .i64)) → Below w.heap.size w w1 → Calls Try.prog 15 #[.slice ca nC cc, stV (FA.r 0) (FA.r 1) (FA.r 2) (FA.r 3) (FA.r 4) (FA.r 5) (FA.r 6) (FA.r 7) FA.c FA.z FA.n FA.v FA.pc (.slice xa xn xc), .slice ja jn jc, .int .i64 (fuel - FA.steps)] w1 fun e w' => ∃ ov mv, e = .returned (.tuple #[ranV FB ov mv, .int .i64 0]) ∧ w'.ownsRow w1.heap.size 5 1 ov N2 (FB.out.map (Value.int .u8)) ∧ w'.ownsRow w1.heap.size 3 1 mv (top FB.mem MS) ((left FB.mem).map (Value.int .i64)) ∧ Below w1.heap.size w1 w')
    (CRC : ∀ w1 : World, Below w.heap.size w w1 → Calls Try.prog 15 #[.slice ca nC cc, stV r0 r1 r2 r3 r4 r5 r6 r7 c z n v pc (.slice ma mn mc), .slice ia nI ic, .int .i64 fuel] w1 fun e w' => ∃ oa oc xa xn xc, e = .returned (.tuple #[ranV FC (.slice oa N3 oc) (.slice xa xn xc), .int .i64 0]) ∧ Rd w' 1 (.slice oa N3 oc) N3 (FC.out.map (Value.int .u8)) ∧ Rd w' 1 (.slice xa xn xc) (top FC.mem MS) ((left FC.mem).map (Value.int .i64)) ∧ Below w1.heap.size w1 w') :
    Calls Try.prog 14 #[.slice ca nC cc, stV r0 r1 r2 r3 r4 r5 r6 r7 c z n v pc (.slice ma mn mc), .slice ia nI ic, .int .i64 fuel, .slice pa pn pk] w fun e w' => e = .returned (.bool true) ∧ Below w.heap.size w w' := by
  have HRUN := Lib.hid hsl; clear hsl
  have HCR := Lib.hid CR; have HCRB := Lib.hid CRB; have HCRC := Lib.hid CRC
  have HRD := Lib.hid hrd; have HN1 := Lib.hid hN1; have HN2 := Lib.hid hN2; have HPS := Lib.hid hps; have HPC := Lib.hid hpc
  have hrl : decide ((FA.read : Int) > (nI : Int)) = false := decide_eq_false (by omega)
  have hsw : IntKind.i64.wrap ((N1 : Int) + (N2 : Int)) = (N1 : Int) + (N2 : Int) := by rw [IntKind.wrap_i64]; omega
  have h6 : (FA.how != 6) = false := by rw [h4]; decide
  clear CR CRB CRC hN1 hN2 hps hpc h4
  go_enter Try.func14, Try.ntmps14
  go_wp2_with (first | (go_at_call 41; refine (alive16 _).mono ?_; rintro e w1 ⟨rfl, hb1⟩; have HB1 := Lib.hid (Ext.trans (Ext.alloc (Below.refl w.heap.size w) _) hb1); have HS1 := Lib.hid ((Blk.new w 27 (stC r0 r1 r2 r3 r4 r5 r6 r7 c z n v pc (.slice ma mn mc))).keep hb1); clear hb1) | (refine wpList_load_row rfl 27 _ rfl w.heap.size rfl 27 (stC r0 r1 r2 r3 r4 r5 r6 r7 c z n v pc (.slice ma mn mc)) (0, 0) _ HS1.out Try.underlying27 rfl (by kernel_rfl) ?_) | (go_at_call 37; refine (HCR.out _ HB1.out).mono ?_; rintro e w2 ⟨oa, oc0, xa, xn, xc0, rfl, ho2, hm2, hb2⟩; have HB2 := Lib.hid (Ext.trans HB1.out hb2); have HO2 := Lib.hid ho2; have HM2 := Lib.hid hm2; have HS2 := Lib.hid (HS1.out.keep hb2); clear hb2 ho2 hm2) | (refine wpList_store_row rfl 30 _ _ rfl w2.heap.size (ranL FA (.slice oa N1 oc0) (.slice xa xn xc0)).toArray rfl rfl 30 ranZc (Blk.new _ _ _) (by kernel_rfl) rfl (ranL_one _ _ _ _ _ _ _) ?_; generalize hw3 : (w2.alloc (Obj.cells ranZc 30)).setRow w2.heap.size (ranL FA (.slice oa N1 oc0) (.slice xa xn xc0)).toArray = w3; have HB23 := Lib.hid ((by rw [← hw3]; exact Below.row (Ext.alloc (Below.refl _ _) _) (Nat.le_refl _) _ : Below w2.heap.size w2 w3)); have HA3 := Lib.hid ((by rw [← hw3]; exact (Blk.new w2 _ _).row _ : Blk w3 w2.heap.size 30 (ranL FA (.slice oa N1 oc0) (.slice xa xn xc0)).toArray)); have HS3 := Lib.hid (HS2.out.keep HB23.out); clear hw3; have HO3 := Lib.hid (HO2.out.below HB23.out); have HM3 := Lib.hid (HM2.out.below HB23.out); have p0 : w3.cell? ⟨w2.heap.size, 0, none⟩ = some (.int .i64 FA.how) := ran_cell HA3.out 0 rfl; have p4 : w3.cell? ⟨w2.heap.size, 4, none⟩ = some (.int .i64 FA.steps) := ran_cell HA3.out 4 rfl; have p17 : w3.cell? ⟨w2.heap.size, 17, none⟩ = some (.int .i64 FA.pc) := ran_cell HA3.out 17 rfl; have p3 : w3.cell? ⟨w2.heap.size, 3, none⟩ = some (.int .i64 (FA.read : Int)) := ran_cell HA3.out 3 rfl))
  have HP3 := Lib.hid (HPS.out.below (Ext.trans HB2.out HB23.out))
  obtain ⟨hpl, hpm, pa', pk', hpv, hpcap, hpcell⟩ := HP3.out.ints
  injection hpv with hp1 hp2 hp3
  subst hp1; subst hp3
  have HPL := Lib.hid hpl; have HPE := Lib.hid hpcell
  have hpm2 : pn ≤ 9223372036854775807 := by unfold maxLen at hpm; omega
  clear hpl hpm hp2 hpcell HPS HP3
  go_loop [13, 15, 59] (fun b _ i => ∃ k : Nat, k ≤ pn ∧ i = .int .i64 (k : Int) ∧ ∃ bb : Bool, b = .bool bb ∧ Hid (bb = (ps.take k).contains FA.pc)) (fun _ _ i => pn - (intOf i).toNat)
  case atStart => exact ⟨0, Nat.zero_le _, rfl, false, rfl, (by show false = _; simp)⟩
  case round =>
    obtain ⟨k, hk, rfl, bb, rfl, hbb⟩ := hrel
    by_cases hlt : k < pn
    · obtain ⟨b, off, rfl, hd⟩ := HPE.out (by omega)
      have ck := hd k hlt
      obtain ⟨X, hX⟩ : ∃ X, X = ps.getD k 0 := ⟨_, rfl⟩
      rw [← hX] at ck
      have hnx : (ps.take (k + 1)).contains FA.pc = ((ps.take k).contains FA.pc || X == FA.pc) := by
        rw [hX]; exact contains_take ps FA.pc k (by have := HPL.out; omega)
      have HNX := Lib.hid hnx
      clear hd hX HPE hnx
      cases bb
      · generalize hxe : (X == FA.pc) = xe at *
        have HXE := Lib.hid hxe
        go_wp2
        go_round
        case rel => exact ⟨k + 1, by omega, by go_num, _, rfl, by show _ = _; rw [HNX.out, ← hbb.out]; simp⟩
        case measure => (simp [intOf]; try omega)
      · go_wp2
        go_round
        case rel => exact ⟨k + 1, by omega, by go_num, true, rfl, by show _ = _; rw [HNX.out, ← hbb.out]; simp⟩
        case measure => (simp [intOf]; try omega)
    · have hkn : k = pn := by omega
      have hbt : bb = true := by
        rw [hbb.out, List.take_of_length_le (by have := HPL.out; omega)]; exact HPC.out
      subst hbt
      clear hbb HPE HPL HPC
      go_wp2
      have hrl2 : decide (nI < FA.read) = false := decide_eq_false (Nat.not_lt.2 HRD.out)
      apply Iy.wp_region 18 [16] (fun n => if n = 0 then [] else [13, 15]) (Ix.Rb) (fun n vs wi => Hid (Below w3.heap.size w3 wi) ∧ (match n with | 0 => True | _ + 1 => ∀ g o m, vs 15 = P g → vs 13 = ranV FB o m → Blk wi g 30 (ranL FB o m).toArray)) (Ix.vk [(Ix.kis _), (Ix.kis _), (Ix.kis (stV (FA.r 0) (FA.r 1) (FA.r 2) (FA.r 3) (FA.r 4) (FA.r 5) (FA.r 6) (FA.r 7) FA.c FA.z FA.n FA.v FA.pc (.slice xa xn xc0))), (Ix.kis _), (Ix.kis _), (Ix.kis _), (Ix.kis (.slice ja jn jc)), (Ix.kis _), (Ix.kis (.pointer (some ⟨w2.heap.size, 4, none⟩))), (Ix.kis (.int .i64 FA.steps)), (Ix.kis (.int .i64 (fuel - FA.steps))), (Ix.kwld (RanT FB N2 w3.heap.size) (RanT.keep FB N2 w3.heap.size)), (Ix.kwld (RanT FB N2 w3.heap.size) (RanT.keep FB N2 w3.heap.size)), (Ix.kwld (RanA FB N2 w3.heap.size) (RanA.keep FB N2 w3.heap.size)), (Ix.kis (.int .i64 0)), (Ix.kwld (New12 w3.heap.size) (New12.keep w3.heap.size)), (Ix.ksat (fun _ => True)), (Ix.kis (.int .i64 0))]) (fun k => k == 15) (by kernel_rfl) (by kernel_rfl) (by kernel_rfl) (by kernel_rfl) (by kernel_rfl) (fun n vs vs' w hk h => by cases n with | zero => exact h | succ n => exact ⟨h.1, fun g o m e1 e2 => h.2 g o m ((hk 15 (by simp)).trans e1) ((hk 13 (by simp)).trans e2)⟩) (fun _ => Below.refl _ _) (fun n vs _ _ h hb => ⟨h.1.out.trans (hb.mono h.1.out.size), by cases n with | zero => trivial | succ n => exact fun g o m e1 e2 => (h.2 g o m e1 e2).keep hb⟩) (Ix.vk_keeps _) (fun j v w hj hv => by simp only [beq_iff_eq] at hj; subst hj; obtain ⟨g, e, _, _, hg, _⟩ := hv; exact ⟨g, e, hg.lt⟩) (fun vs => ⟨Below.drew (Below.refl _ _), trivial⟩)
      case step =>
        refine Iy.steps_cons (n := 17) (i := 0) (j := 1) rfl rfl (Iy.stepI_ofN [] (by kernel_rfl) (by kernel_rfl) (fun nph vsp wi HB => ?_)) ?_
        (· (obtain ⟨HB, hbx⟩ := HB; clear hbx; refine Iv.askN_nil ?_; (try simp only [Act.put, List.setIfInBounds_toArray, List.set_cons_zero, List.set_cons_succ]); refine Iy.goI_yes rfl rfl ?_; intro K hK; (try simp only [Act.put, List.setIfInBounds_toArray, List.set_cons_zero, List.set_cons_succ] at hK); go_wp2_with (first | fail); exact hK _ _ (Below.refl _ _) rfl))
        refine Iy.steps_cons (n := 16) (i := 1) (j := 2) rfl rfl (Iy.stepI_ofN [] (by kernel_rfl) (by kernel_rfl) (fun nph vsp wi HB => ?_)) ?_
        (· (obtain ⟨HB, hbx⟩ := HB; clear hbx; refine Iv.askN_nil ?_; (try simp only [Act.put, List.setIfInBounds_toArray, List.set_cons_zero, List.set_cons_succ]); refine Iy.goI_yes rfl rfl ?_; intro K hK; (try simp only [Act.put, List.setIfInBounds_toArray, List.set_cons_zero, List.set_cons_succ] at hK); go_wp2_with (first | fail); exact hK _ _ (Below.refl _ _) rfl))
        refine Iy.steps_cons (n := 15) (i := 2) (j := 3) rfl rfl (Iy.stepI_ofN [(1, some 74)] (by kernel_rfl) (by kernel_rfl) (fun nph vsp wi HB => ?_)) ?_
        (· (obtain ⟨HB, hbx⟩ := HB; clear hbx; refine Iv.askN_cons ?_; rintro _ rfl; refine Iv.askN_nil ?_; (try simp only [Act.put, List.setIfInBounds_toArray, List.set_cons_zero, List.set_cons_succ]); refine Iy.goI_yes rfl rfl ?_; intro K hK; (try simp only [Act.put, List.setIfInBounds_toArray, List.set_cons_zero, List.set_cons_succ] at hK); refine wp_load_sub 27 _ rfl w2.heap.size 5 rfl 30 (ranL FA (.slice oa N1 oc0) (.slice xa xn xc0)).toArray (stL FA (.slice xa xn xc0)) _ (HA3.out.keep HB.out) rfl Try.underlying27 rfl (by kernel_rfl) ?_; exact hK _ _ (Below.refl _ _) rfl))
        refine Iy.steps_cons (n := 14) (i := 3) (j := 4) rfl rfl (Iy.stepI_ofN [] (by kernel_rfl) (by kernel_rfl) (fun nph vsp wi HB => ?_)) ?_
        (· (obtain ⟨HB, hbx⟩ := HB; clear hbx; refine Iv.askN_nil ?_; (try simp only [Act.put, List.setIfInBounds_toArray, List.set_cons_zero, List.set_cons_succ]); refine Iy.goI_yes rfl rfl ?_; intro K hK; (try simp only [Act.put, List.setIfInBounds_toArray, List.set_cons_zero, List.set_cons_succ] at hK); go_wp2_with (first | fail); exact hK _ _ (Below.refl _ _) rfl))
        refine Iy.steps_cons (n := 13) (i := 4) (j := 5) rfl rfl (Iy.stepI_ofN [] (by kernel_rfl) (by kernel_rfl) (fun nph vsp wi HB => ?_)) ?_
        (· (obtain ⟨HB, hbx⟩ := HB; clear hbx; refine Iv.askN_nil ?_; (try simp only [Act.put, List.setIfInBounds_toArray, List.set_cons_zero, List.set_cons_succ]); refine Iy.goI_yes rfl rfl ?_; intro K hK; (try simp only [Act.put, List.setIfInBounds_toArray, List.set_cons_zero, List.set_cons_succ] at hK); go_wp2_with (first | fail); exact hK _ _ (Below.refl _ _) rfl))
        refine Iy.steps_cons (n := 12) (i := 5) (j := 6) rfl rfl (Iy.stepI_ofN [(4, some 77)] (by kernel_rfl) (by kernel_rfl) (fun nph vsp wi HB => ?_)) ?_
        (· (obtain ⟨HB, hbx⟩ := HB; clear hbx; refine Iv.askN_cons ?_; rintro _ rfl; refine Iv.askN_nil ?_; have p3 : wi.cell? ⟨w2.heap.size, 3, none⟩ = some (.int .i64 (FA.read : Int)) := ran_cell (HA3.out.keep HB.out) 3 rfl; (try simp only [Act.put, List.setIfInBounds_toArray, List.set_cons_zero, List.set_cons_succ]); refine Iy.goI_yes rfl rfl ?_; intro K hK; (try simp only [Act.put, List.setIfInBounds_toArray, List.set_cons_zero, List.set_cons_succ] at hK); go_wp2_with (first | fail); exact hK _ _ (Below.refl _ _) rfl))
        refine Iy.steps_cons (n := 11) (i := 6) (j := 7) rfl rfl (Iy.stepI_ofN [(3, some 76), (5, some 78)] (by kernel_rfl) (by kernel_rfl) (fun nph vsp wi HB => ?_)) ?_
        (· (obtain ⟨HB, hbx⟩ := HB; clear hbx; refine Iv.askN_cons ?_; rintro _ rfl; refine Iv.askN_cons ?_; rintro _ rfl; refine Iv.askN_nil ?_; (try simp only [Act.put, List.setIfInBounds_toArray, List.set_cons_zero, List.set_cons_succ]); refine Iy.goI_yes rfl rfl ?_; intro K hK; (try simp only [Act.put, List.setIfInBounds_toArray, List.set_cons_zero, List.set_cons_succ] at hK); refine wp_slice_run 28 _ _ rfl _ _ (.slice ja jn jc) rfl rfl (HRUN.out wi) ?_; exact hK _ _ (Below.refl _ _) rfl))
        refine Iy.steps_cons (n := 10) (i := 7) (j := 8) rfl rfl (Iy.stepI_ofN [] (by kernel_rfl) (by kernel_rfl) (fun nph vsp wi HB => ?_)) ?_
        (· (obtain ⟨HB, hbx⟩ := HB; clear hbx; refine Iv.askN_nil ?_; (try simp only [Act.put, List.setIfInBounds_toArray, List.set_cons_zero, List.set_cons_succ]); refine Iy.goI_yes rfl rfl ?_; intro K hK; (try simp only [Act.put, List.setIfInBounds_toArray, List.set_cons_zero, List.set_cons_succ] at hK); go_wp2_with (first | fail); exact hK _ _ (Below.refl _ _) rfl))
        refine Iy.steps_cons (n := 9) (i := 8) (j := 9) rfl rfl (Iy.stepI_ofN [] (by kernel_rfl) (by kernel_rfl) (fun nph vsp wi HB => ?_)) ?_
        (· (obtain ⟨HB, hbx⟩ := HB; clear hbx; refine Iv.askN_nil ?_; (try simp only [Act.put, List.setIfInBounds_toArray, List.set_cons_zero, List.set_cons_succ]); refine Iy.goI_yes rfl rfl ?_; intro K hK; (try simp only [Act.put, List.setIfInBounds_toArray, List.set_cons_zero, List.set_cons_succ] at hK); go_wp2_with (first | fail); exact hK _ _ (Below.refl _ _) rfl))
        refine Iy.steps_cons (n := 8) (i := 9) (j := 10) rfl rfl (Iy.stepI_ofN [(8, some 81)] (by kernel_rfl) (by kernel_rfl) (fun nph vsp wi HB => ?_)) ?_
        (· (obtain ⟨HB, hbx⟩ := HB; clear hbx; refine Iv.askN_cons ?_; rintro _ rfl; refine Iv.askN_nil ?_; have p4 : wi.cell? ⟨w2.heap.size, 4, none⟩ = some (.int .i64 FA.steps) := ran_cell (HA3.out.keep HB.out) 4 rfl; (try simp only [Act.put, List.setIfInBounds_toArray, List.set_cons_zero, List.set_cons_succ]); refine Iy.goI_yes rfl rfl ?_; intro K hK; (try simp only [Act.put, List.setIfInBounds_toArray, List.set_cons_zero, List.set_cons_succ] at hK); go_wp2_with (first | fail); exact hK _ _ (Below.refl _ _) rfl))
        refine Iy.steps_cons (n := 7) (i := 10) (j := 11) rfl rfl (Iy.stepI_ofN [(7, some 80), (9, some 82)] (by kernel_rfl) (by kernel_rfl) (fun nph vsp wi HB => ?_)) ?_
        (· (obtain ⟨HB, hbx⟩ := HB; clear hbx; refine Iv.askN_cons ?_; rintro _ rfl; refine Iv.askN_cons ?_; rintro _ rfl; refine Iv.askN_nil ?_; (try simp only [Act.put, List.setIfInBounds_toArray, List.set_cons_zero, List.set_cons_succ]); refine Iy.goI_yes rfl rfl ?_; intro K hK; (try simp only [Act.put, List.setIfInBounds_toArray, List.set_cons_zero, List.set_cons_succ] at hK); go_wp2_with (first | fail); exact hK _ _ (Below.refl _ _) rfl))
        refine Iy.steps_cons (n := 6) (i := 11) (j := 12) rfl rfl (Iy.stepI_ofN [(0, some 73), (2, some 75), (6, some 79), (10, some 83)] (by kernel_rfl) (by kernel_rfl) (fun nph vsp wi HB => ?_)) ?_
        (· (obtain ⟨HB, hbx⟩ := HB; clear hbx; refine Iv.askN_cons ?_; rintro _ rfl; refine Iv.askN_cons ?_; rintro _ rfl; refine Iv.askN_cons ?_; rintro _ rfl; refine Iv.askN_cons ?_; rintro _ rfl; refine Iv.askN_nil ?_; (try simp only [Act.put, List.setIfInBounds_toArray, List.set_cons_zero, List.set_cons_succ]); refine Iy.goI_yes rfl rfl ?_; intro K hK; (try simp only [Act.put, List.setIfInBounds_toArray, List.set_cons_zero, List.set_cons_succ] at hK); go_wp2_with (first | (go_at_call 15; refine (HCRB.out _ _ _ _ (HM3.out.below HB.out) (Ext.trans (Ext.trans HB2.out HB23.out) HB.out)).mono ?_; rintro e wa ⟨ov, mv, rfl, hob, hmb, hba⟩)); exact hK _ _ hba ⟨_, _, rfl, own_mono HB.out.size hob, own_mono HB.out.size hmb⟩))
        refine Iy.steps_cons (n := 5) (i := 12) (j := 13) rfl rfl (Iy.stepI_ofN [(11, some 84)] (by kernel_rfl) (by kernel_rfl) (fun nph vsp wi HB => ?_)) ?_
        (· (obtain ⟨HB, hbx⟩ := HB; clear hbx; refine Iv.askN_cons ?_; rintro _ ⟨o8, m8, rfl, ho8, hm8⟩; refine Iv.askN_nil ?_; (try simp only [Act.put, List.setIfInBounds_toArray, List.set_cons_zero, List.set_cons_succ]); refine Iy.goI_yes rfl rfl ?_; intro K hK; (try simp only [Act.put, List.setIfInBounds_toArray, List.set_cons_zero, List.set_cons_succ] at hK); go_wp2_with (first | fail); exact hK _ _ (Below.refl _ _) ⟨_, _, rfl, ho8, hm8⟩))
        refine Iy.steps_cons (n := 4) (i := 13) (j := 14) rfl rfl (Iy.stepI_ofN [(12, some 72)] (by kernel_rfl) (by kernel_rfl) (fun nph vsp wi HB => ?_)) ?_
        (· (obtain ⟨HB, hbx⟩ := HB; clear hbx; refine Iv.askN_cons ?_; rintro _ ⟨o9, m9, rfl, ho9, hm9⟩; refine Iv.askN_nil ?_; (try simp only [Act.put, List.setIfInBounds_toArray, List.set_cons_zero, List.set_cons_succ]); refine Iy.goI_yes rfl rfl ?_; intro K hK; (try simp only [Act.put, List.setIfInBounds_toArray, List.set_cons_zero, List.set_cons_succ] at hK); go_wp2_with (first | fail); exact hK _ _ (Below.refl _ _) ⟨_, _, rfl, ho9, hm9⟩))
        refine Iy.steps_cons (n := 3) (i := 14) (j := 15) rfl rfl (Iy.stepI_ofN [(12, some 72)] (by kernel_rfl) (by kernel_rfl) (fun nph vsp wi HB => ?_)) ?_
        (· (obtain ⟨HB, hbx⟩ := HB; clear hbx; refine Iv.askN_cons ?_; rintro _ ⟨o9, m9, rfl, ho9, hm9⟩; refine Iv.askN_nil ?_; (try simp only [Act.put, List.setIfInBounds_toArray, List.set_cons_zero, List.set_cons_succ]); refine Iy.goI_yes rfl rfl ?_; intro K hK; (try simp only [Act.put, List.setIfInBounds_toArray, List.set_cons_zero, List.set_cons_succ] at hK); go_wp2_with (first | fail); exact hK _ _ (Below.refl _ _) rfl))
        refine Iy.steps_cons (n := 2) (i := 15) (j := 16) rfl rfl (Iy.stepI_ofN [] (by kernel_rfl) (by kernel_rfl) (fun nph vsp wi HB => ?_)) ?_
        (· (obtain ⟨HB, hbx⟩ := HB; clear hbx; refine Iv.askN_nil ?_; (try simp only [Act.put, List.setIfInBounds_toArray, List.set_cons_zero, List.set_cons_succ]); refine Iy.goI_new rfl ?_; intro K hK; (try simp only [Act.put, List.setIfInBounds_toArray, List.set_cons_zero, List.set_cons_succ] at hK); go_wp2_with (first | fail); exact hK _ (Ext.alloc (Below.refl _ _) _) ⟨_, rfl, HB.out.size, _, Blk.new _ _ _, rfl⟩))
        refine Iy.steps_cons (n := 1) (i := 16) (j := 17) rfl rfl (Iy.stepI_ofC 0 [(13, some 85), (15, some 16)] (by kernel_rfl) (by kernel_rfl) (fun vsp wi HB => ?_)) ?_
        (· (obtain ⟨HB, hbx⟩ := HB; clear hbx; refine Iv.askN_cons ?_; rintro _ ⟨⟨o10, m10, rfl, ho10, hm10⟩, ev13⟩; refine Iv.askN_cons ?_; rintro _ ⟨⟨g12, rfl, hl12, cs12, hg12, hs12⟩, ev15⟩; refine Iv.askN_nil ?_; (try simp only [Act.put, List.setIfInBounds_toArray, List.set_cons_zero, List.set_cons_succ]); refine Iy.goI_yes rfl rfl ?_; intro K hK; (try simp only [Act.put, List.setIfInBounds_toArray, List.set_cons_zero, List.set_cons_succ] at hK); refine wp_store_row 30 _ _ rfl g12 (ranL FB o10 m10).toArray rfl rfl 30 cs12 hg12 (by kernel_rfl) hs12 (ranL_one2 FB o10 m10 (own_one ho10) (own_one hm10)) ?_; exact hK undef _ ⟨⟨Below.row HB.out hl12 _, fun g o m e1 e2 => split_row hg12 (ev15.symm.trans e1) (ev13.symm.trans e2)⟩, Iy.vk_turn (by repeat (first | exact True.intro | refine And.intro (fun _ h => h) ?_ | refine And.intro (fun hne => absurd rfl hne) ?_ | refine And.intro (fun _ h => RanT.row h hg12 _) ?_ | refine And.intro (fun _ h => RanA.row h hg12 _) ?_ | refine And.intro (fun _ h => New12.row h hg12 rfl) ?_))⟩ trivial))
        refine Iy.steps_cons (n := 0) (i := 17) (j := 18) rfl rfl (Iy.stepI_ofN [(14, some 86)] (by kernel_rfl) (by kernel_rfl) (fun nph vsp wi HB => ?_)) ?_
        (· (obtain ⟨HB, hbx⟩ := HB; clear hbx; refine Iv.askN_cons ?_; rintro _ rfl; refine Iv.askN_nil ?_; (try simp only [Act.put, List.setIfInBounds_toArray, List.set_cons_zero, List.set_cons_succ]); refine Iy.goI_yes rfl rfl ?_; intro K hK; (try simp only [Act.put, List.setIfInBounds_toArray, List.set_cons_zero, List.set_cons_succ] at hK); go_wp2_with (first | fail); exact hK _ _ (Below.refl _ _) rfl))
        exact Iy.steps_nil
      intro vsf wf HF hdf
      refine Ix.allV_cons (n := 17) (j := 0) (k := 1) rfl rfl ?_; rintro _ _ rfl; refine Ix.allV_cons (n := 16) (j := 1) (k := 2) rfl rfl ?_; rintro _ _ rfl; refine Ix.allV_cons (n := 15) (j := 2) (k := 3) rfl rfl ?_; rintro _ _ rfl; refine Ix.allV_cons (n := 14) (j := 3) (k := 4) rfl rfl ?_; rintro _ _ rfl; refine Ix.allV_cons (n := 13) (j := 4) (k := 5) rfl rfl ?_; rintro _ _ rfl; refine Ix.allV_cons (n := 12) (j := 5) (k := 6) rfl rfl ?_; rintro _ _ rfl; refine Ix.allV_cons (n := 11) (j := 6) (k := 7) rfl rfl ?_; rintro _ _ rfl; refine Ix.allV_cons (n := 10) (j := 7) (k := 8) rfl rfl ?_; rintro _ _ rfl; refine Ix.allV_cons (n := 9) (j := 8) (k := 9) rfl rfl ?_; rintro _ _ rfl; refine Ix.allV_cons (n := 8) (j := 9) (k := 10) rfl rfl ?_; rintro _ _ rfl; refine Ix.allV_cons (n := 7) (j := 10) (k := 11) rfl rfl ?_; rintro _ _ rfl; refine Ix.allV_cons (n := 6) (j := 11) (k := 12) rfl rfl ?_; rintro _ _ ⟨o8, m8, rfl, ho8, hm8⟩; refine Ix.allV_cons (n := 5) (j := 12) (k := 13) rfl rfl ?_; rintro _ _ ⟨o9, m9, rfl, ho9, hm9⟩; refine Ix.allV_cons (n := 4) (j := 13) (k := 14) rfl rfl ?_; rintro _ ev13 ⟨o10, m10, rfl, ho10, hm10⟩; refine Ix.allV_cons (n := 3) (j := 14) (k := 15) rfl rfl ?_; rintro _ _ rfl; refine Ix.allV_cons (n := 2) (j := 15) (k := 16) rfl rfl ?_; rintro _ ev15 ⟨g12, rfl, hl12, cs12, hg12, hs12⟩; refine Ix.allV_cons (n := 1) (j := 16) (k := 17) rfl rfl ?_; rintro _ _ _; refine Ix.allV_cons (n := 0) (j := 17) (k := 18) rfl rfl ?_; rintro _ _ rfl
      refine Ix.allV_nil ?_
      obtain ⟨HF, hgf⟩ := HF; have HX50 := hgf g12 o10 m10 ev15 ev13; clear hgf
      (try simp only [Act.put, List.setIfInBounds_toArray, List.set_cons_zero, List.set_cons_succ, List.drop_succ_cons, List.drop_zero])
      refine Ix.nil ?_
      obtain ⟨w5, hw5⟩ : ∃ w5, w5 = wf := ⟨_, rfl⟩
      subst hw5
      have HA5 := Lib.hid (HA3.out.keep HF.out)
      have HS5 := Lib.hid (HS3.out.keep HF.out)
      have HF5 := HF
      have HOB0 := ho10
      have HMB0 := hm10
      obtain ⟨ob, ok, rfl, HOB1⟩ := own_slice2 HOB0
      obtain ⟨mb, mbk, rfl, HMB1⟩ := own_slice2 HMB0
      generalize hmbn : top FB.mem MS = mbn at *
      have HOB := Lib.hid (Rd.of_owns HOB1 (by have := HN2.out; unfold maxLen; omega))
      have HMB := Lib.hid (Rd.of_owns HMB1 (by have := top_le FB.mem MS; have hms : MS = 65536 := rfl; unfold maxLen; omega))
      have HX5 := Lib.hid HX50
      have HB5 := Lib.hid (Ext.trans (Ext.trans HB2.out HB23.out) HF5.out)
      clear HOB0 HMB0 HX50 HOB1 HMB1 hg12 ho10 hm10 ho9 hm9 ho8 hm8 hdf HF ev13 ev15 hs12
      go_wp2_with (first | (refine wpList_load_row rfl 27 _ rfl w.heap.size rfl 27 (stC r0 r1 r2 r3 r4 r5 r6 r7 c z n v pc (.slice ma mn mc)) (0, 0) _ HS5.out Try.underlying27 rfl (by kernel_rfl) ?_) | (go_at_call 15; refine (HCRC.out _ HB5.out).mono ?_; rintro e w6 ⟨oc, od, xc, xcn, xd, rfl, ho6, hm6, hb6⟩; have HB56 := Lib.hid hb6; have HO6 := Lib.hid ho6; have HM6 := Lib.hid hm6; have HX6 := Lib.hid (HX5.out.keep hb6); have HA6 := Lib.hid (HA5.out.keep hb6); have HS6 := Lib.hid (HS5.out.keep hb6); clear hb6 ho6 hm6) | (refine wpList_store_row rfl 30 _ _ rfl w6.heap.size (ranL FC (.slice oc N3 od) (.slice xc xcn xd)).toArray rfl rfl 30 ranZc (Blk.new _ _ _) (by kernel_rfl) rfl (ranL_one _ _ _ _ _ _ _) ?_; generalize hw7 : (w6.alloc (Obj.cells ranZc 30)).setRow w6.heap.size (ranL FC (.slice oc N3 od) (.slice xc xcn xd)).toArray = w7; have HB67 := Lib.hid ((by rw [← hw7]; exact Below.row (Ext.alloc (Below.refl _ _) _) (Nat.le_refl _) _ : Below w6.heap.size w6 w7)); have HC7 := Lib.hid ((by rw [← hw7]; exact (Blk.new w6 _ _).row _ : Blk w7 w6.heap.size 30 (ranL FC (.slice oc N3 od) (.slice xc xcn xd)).toArray)); clear hw7; have HX7 := Lib.hid (HX6.out.keep HB67.out); have HA7 := Lib.hid (HA6.out.keep HB67.out); have p2 : w7.cell? ⟨w2.heap.size, 2, none⟩ = some (.slice oa N1 oc0) := ran_cell HA7.out 2 rfl; have q2 : w7.cell? ⟨g12, 2, none⟩ = some (.slice ob N2 ok) := ran_cell HX7.out 2 rfl))
      go_ret
      exact ⟨rfl, Ext.trans HB5.out (Ext.trans HB56.out HB67.out)⟩
end Go.Proofs.Ytfjgnhmmakeaeaa
