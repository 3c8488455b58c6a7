/- The document's run with places to stop at: its walk. -/
import Derived.Test.YtfjgnhmmakeaeaaPt2
import Derived.Test.YtfjgnhmmakeaeaaQ7
import Derived.LoopTactic
import Derived.Deep.Cut
namespace Go.Proofs.Ytfjgnhmmakeaeaa
open Go.RowKit Go.Maps
set_option linter.unusedVariables false
set_option linter.unusedSimpArgs false
set_option maxRecDepth 100000
open Mc
theorem results_ttc {P : Program} {fn : Func} {p q r : Tmp} {ty : TypeId} (h : fn.results = #[.tmp q, .tmp r, .cell p ty]) (tmps : Array Value) (w : World) (g : Nat) (t : TypeId) (cs : Array Value) (fr : Nat × Nat) (d : TypeDesc)
    (hp : tmps.getD p undef = .pointer (some ⟨g, 0, none⟩)) (hg : w.heap[g]? = some (.cells cs t fr))
    (hu : P.underlying ty = some d) (hd : (match d with | .struct _ | .array _ _ => true | _ => false) = true) (hi : (P.info? ty).map (·.size) = some cs.size) :
    (results fn tmps).run P w = .ok (.tuple #[tmps.getD q undef, tmps.getD r undef, .agg cs]) w := by
  have hp' : tmps[p]?.getD undef = .pointer (some ⟨g, 0, none⟩) := by simpa using hp
  simp [results, h, hp', asAddr, run_loadVar_row w g t ty cs fr d hg hu hd hi]
/-- What is told and counted stands to the end. -/
theorem r16_end {B B' N ZB gh nC n : Nat} {L : Lay3} {ms : List Int} {s : St} {ov lv u : Value} {xs : List Value} {h : Nat → Int} {wr : World} (hm : Box3 wr B L N ms s ov) (hz : Blk wr ZB 30 ranZc) (hh : HitIs wr gh nC h) (ho : wr.ownsRow B' 80 17 lv n xs) (wf : World)
    (hf : Below (wr.setCell ⟨L.bb, 14, none⟩ u).heap.size (wr.setCell ⟨L.bb, 14, none⟩ u) wf) (cs' : Array Value) : HitIs (wf.setRow ZB cs') gh nC h ∧ (wf.setRow ZB cs').ownsRow B' 80 17 lv n xs := by
  obtain ⟨arr, h1, h2⟩ := hh
  have n1 : gh ≠ L.bb := h1.ne_ hm.blk (by decide)
  have n2 : gh ≠ ZB := h1.ne_ hz (by decide)
  have n3 : ZB ≠ L.bb := hz.ne_ hm.blk (by decide)
  have z5 : Blk (wr.setCell ⟨L.bb, 14, none⟩ u) ZB 30 ranZc := hz.far n3 _
  exact ⟨⟨arr, ((h1.far n1 _).keep hf).farRow n2 cs', h2⟩, ownsRow_farRow (ownsRow_below (ownsRow_far ho hm.blk (by decide) 14 u) hf) (z5.keep hf) (by decide) cs'⟩
set_option maxHeartbeats 32000000 in
theorem r16_run (ca ia ma pa : Option Addr) (nC cc nI ic mn mc np pk : Nat) (r0 r1 r2 r3 r4 r5 r6 r7 pc fuel most : Int) (c z n v : Bool) (cd inp ms ps : List Int) (w : World)
    (hc : Rd w 1 (.slice ca nC cc) nC (cd.map (Value.int .i64))) (hi : Rd w 1 (.slice ia nI ic) nI (inp.map (Value.int .u8))) (hm : Rd w 1 (.slice ma mn mc) mn (ms.map (Value.int .i64))) (hp : Rd w 1 (.slice pa np pk) np (ps.map (Value.int .i64)))
    (hnC : nC ≤ 65536) (hnI : nI ≤ 65536) (hby : ∀ x ∈ inp, 0 ≤ x ∧ x < 256) (hf : 0 ≤ fuel ∧ fuel ≤ 1000000) (hfine : Mc.Fine nI (Mc.begin (reg8 r0 r1 r2 r3 r4 r5 r6 r7) c z n v pc ms)) (F : St) (Fb : Bool) (F2 : List (Int × St)) (F3 : Nat → Int)
    (hF : (F, Fb, F2, F3) = go (envR nC cd most ps) cd inp fuel.toNat (Mc.begin (reg8 r0 r1 r2 r3 r4 r5 r6 r7) c z n v pc ms) (false, [], fun _ => 0)) :
    Calls Try.prog 39 #[.slice ca nC cc, stV r0 r1 r2 r3 r4 r5 r6 r7 c z n v pc (.slice ma mn mc), .slice ia nI ic, .int .i64 fuel, .int .i64 most, .slice pa np pk] w fun e w' =>
      ∃ lv hv ov mv, e = .returned (.tuple #[lv, hv, ranV F ov mv]) ∧ w'.ownsRow w.heap.size 5 1 ov F.out.length (F.out.map (Value.int .u8)) ∧ w'.ownsRow w.heap.size 3 1 mv (top F.mem MS) ((left F.mem).map (Value.int .i64)) ∧
        w'.ownsRow w.heap.size 80 17 lv F2.length (shR cd F2) ∧ (F2.length : Int) ≤ 1000000 ∧ Rd w' 1 hv nC (((List.range nC).map F3).map (Value.int .i64)) ∧ F.out.length ≤ 65536 ∧ Below w.heap.size w w' := by
  have HC := Lib.hid hc; have HI := Lib.hid hi; have HM := Lib.hid hm; have HP := Lib.hid hp
  have HNC := Lib.hid hnC; have HNI := Lib.hid hnI; have HBY := Lib.hid hby; have HFU := Lib.hid hf
  have HFI := Lib.hid hfine; have HFin := Lib.hid hF
  have hmm := run_makeMap (P := Try.prog)
  obtain ⟨iI, hi0, hz0, hz1, hz2⟩ := info_parts Try.infoI64
  have HIB : Hid (iI.bytes * nC ≤ 281474976710656) := by show _ ≤ _; rw [hz2]; omega
  have hn63 : nC ≤ 9223372036854775807 := by omega
  clear hc hi hm hp hnC hnI hby hf hfine hF
  go_enter Try.func39, Try.ntmps39
  go_upto_region 1 with (fail)
  generalize hw1 : World.alloc (World.alloc w _) _ = w1
  have HB1 := Lib.hid ((by rw [← hw1]; exact Ext.alloc (Ext.alloc (Below.refl _ _) _) _ : Below w.heap.size w w1))
  have HZ1' : Hid (w1.heap.size = w.heap.size + 2) := by show _ = _; rw [← hw1]; simp
  have HZ1 := Lib.hid ((by rw [← hw1]; have := Blk.new (w.alloc (.cells (stC r0 r1 r2 r3 r4 r5 r6 r7 c z n v pc (.slice ma mn mc)) 27)) 30 ranZc; simpa using this : Blk w1 (w.heap.size + 1) 30 ranZc))
  have HS1 := Lib.hid ((by rw [← hw1]; exact (Blk.new w 27 (stC r0 r1 r2 r3 r4 r5 r6 r7 c z n v pc (.slice ma mn mc))).alloc (.cells ranZc 30) : Blk w1 w.heap.size 27 (stC r0 r1 r2 r3 r4 r5 r6 r7 c z n v pc (.slice ma mn mc))))
  clear hw1
  go_upto_region 2 with (first | (refine wpList_load_row rfl 27 _ rfl w.heap.size rfl 27 (stC r0 r1 r2 r3 r4 r5 r6 r7 c z n v pc (.slice ma mn mc)) (0, 0) _ HS1.out Try.underlying27 rfl (by kernel_rfl) ?_))
  obtain ⟨L, hL⟩ : ∃ L : Lay3, L = ⟨w1.heap.size + 1, w1.heap.size, .slice ca nC cc, .slice ia nI ic, ma, mn, mc⟩ := ⟨_, rfl⟩
  generalize hw3 : World.alloc (World.alloc w1 (Obj.map #[] 0)) _ = w3
  have HBX := Lib.hid ((by rw [hL, ← hw3]; exact box3_start w1 (.slice ca nC cc) (.slice ia nI ic) ma mn mc (reg8 r0 r1 r2 r3 r4 r5 r6 r7) c z n v pc ms : Box3 w3 w1.heap.size L 0 ms (Mc.begin (reg8 r0 r1 r2 r3 r4 r5 r6 r7) c z n v pc ms) (.slice none 0 0)))
  have HB3 := Lib.hid ((by rw [← hw3]; exact Ext.alloc (Ext.alloc (Below.refl _ _) _) _ : Below w1.heap.size w1 w3))
  have HS3' : Hid (w1.heap.size ≤ w3.heap.size) := HB3.out.size
  have HBB' : Hid (w1.heap.size + 1 = L.bb) := by show _ = _; rw [hL]
  have HMP' : Hid (w1.heap.size = L.mp) := by show _ = _; rw [hL]
  clear hw3
  go_upto_region 4 with (first | (at_make; refine wpList_make_blk _ rfl _ _ 22 rfl 3 iI (.int .i64 0) Try.underlying22 hi0 hz0 hz1 rfl .i64 .i64 nC rfl rfl HIB.out hn63 ?_; intro w4 hblk hbw hsz; have HK := Lib.hid hblk; have HB4 := Lib.hid hbw; clear hblk hbw hsz))
  have hs3 : w1.heap.size ≤ w3.heap.size := HS3'.out
  have hbb : w1.heap.size + 1 = L.bb := HBB'.out
  have hmp : w1.heap.size = L.mp := HMP'.out
  clear HS3' HBB' HMP'
  have HBX4 := Lib.hid (HBX.out.keep HB4.out)
  have HZ4 := Lib.hid ((HZ1.out.keep HB3.out).keep HB4.out)
  have HW4 := Lib.hid (Ext.trans (Ext.trans HB1.out HB3.out) HB4.out)
  have HB34 := Lib.hid (Ext.trans HB3.out HB4.out)
  have HHI : Hid (HitIs w4 w3.heap.size nC (fun _ => 0)) := ⟨_, HK.out, fun j hj => by simp [hj]⟩
  have HRC : Hid (∀ wr, Below w1.heap.size w4 wr → RdB wr w1.heap.size L.cv nC (cd.map (Value.int .i64)) ∧ RdB wr w1.heap.size L.iv nI (inp.map (Value.int .u8)) ∧ RdB wr w1.heap.size (.slice L.ma L.mn L.mcap) L.mn (ms.map (Value.int .i64)) ∧ RdB wr w1.heap.size (.slice pa np pk) np (ps.map (Value.int .i64)) ∧ RdB wr w1.heap.size (.slice ca nC cc) nC (cd.map (Value.int .i64))) := by
    intro wr hb
    rw [hL]
    exact ⟨(RdB.of (HC.out.below HB1.out)).below (HB34.out.trans hb), (RdB.of (HI.out.below HB1.out)).below (HB34.out.trans hb), (RdB.of (HM.out.below HB1.out)).below (HB34.out.trans hb), (RdB.of (HP.out.below HB1.out)).below (HB34.out.trans hb), (RdB.of (HC.out.below HB1.out)).below (HB34.out.trans hb)⟩
  have HIL : Hid (inp.length = nI) := by show _ = _; have := HI.out.1; simpa using this
  have HPL : Hid (ps.length = np) := by show _ = _; have := HP.out.1; simpa using this
  clear HBX HZ1 HS1 HK hmm hL HB1 HB3 HB34 HB4 HC HM HP HI HIB hi0 hz0 hz1 hz2
  have hz1' : w.heap.size + 2 ≤ w1.heap.size := by have := HZ1'.out; omega
  clear HZ1'
  have hgh : w1.heap.size ≤ w3.heap.size := hs3
  clear hs3
  generalize w3.heap.size = gh at *
  generalize w1.heap.size = B at *
  subst hmp
  rw [hbb]
  obtain ⟨ba, bb⟩ := HFU.out
  go_wp2
  go_loopw [16, 18] (fun sv i wr => LoopR cd inp nI nC fuel most ps ms w4 L.mp L gh (F, Fb, F2, F3) i sv wr) (fun _ i wr => msr3 fuel L.bb i wr)
  case atStart => exact .of ⟨_, fuel.toNat, 0, _, [], fun _ => 0, rfl, HBX4.out, HHI.out, World.ownsRow_nil _ _ _ _, Below.refl _ _, HFI.out, by show (0 : Int) + _ = _; omega, by show (0 : Int) ≤ 0; omega, by show (0 : Int) ≤ 0; omega, fun _ => ⟨Int.le_refl _, Int.le_refl _⟩, fun _ => HFin.out.symm, fun h => absurd rfl h⟩
  case round =>
    obtain ⟨s, k, N, ov, l, h, rfl, hM, hHi, hOw, hB, hFi, hst, hN, hll, hhh, hgo, hne⟩ := hrel.get
    clear hrel
    obtain ⟨sa, sc, hsv, _⟩ := own_slice hOw
    subst hsv
    obtain ⟨c20, f20⟩ := hM.at_ 20 (.int .i64 s.steps) rfl
    obtain ⟨P, hP⟩ : ∃ P : Nat, (P : Int) = s.pc := ⟨s.pc.toNat, by have := hFi.1.2.1.1; omega⟩
    obtain ⟨c13, f13⟩ := hM.at_ 13 (.int .i64 (P : Int)) (by rw [hP]; rfl)
    have hP1 : P < 65536 := by have := hFi.1.2.1.2; omega
    have HPP := Lib.hid hP
    have hs0 : 0 ≤ s.steps := by omega
    have HMr := Lib.hid hM; have HBr := Lib.hid hB; have HFr := Lib.hid hFi; have HST := Lib.hid hst; have HGO := Lib.hid hgo; have HNE := Lib.hid hne; have HNN := Lib.hid hN; have HLL := Lib.hid hll; have HHH := Lib.hid hhh; have HHr := Lib.hid hHi; have HOr := Lib.hid hOw
    have HMS := Lib.hid (msr_of (fuel := fuel) c20)
    clear hM hB hFi hgo hne hst hN hll hhh hHi hOw hP
    by_cases hh : s.how = 0
    · have hh2 : (s.how == 0) = true := by simpa using hh
      have HH0 := Lib.hid hh
      obtain ⟨b, hb⟩ : ∃ b, b = decide (s.steps > 0) := ⟨_, rfl⟩
      have hb2 : decide (s.steps > 0) = b := hb.symm
      have HBB := Lib.hid hb
      clear hh hb
      obtain ⟨_, hnp, pa', pk', hpv, hpc, hpcell⟩ := (HRC.out wr HBr.out).2.2.2.1.1.ints
      injection hpv with hpv1 hpv2 hpv3
      subst hpv1; subst hpv3
      have HPC := Lib.hid hpcell
      have hnp63 : np ≤ 9223372036854775807 := by unfold maxLen at hnp; omega
      clear hpv2 hpc hpcell hnp
      go_wp2
      go_loop [19, 42] (fun st i => ∃ j : Nat, j ≤ np ∧ i = .int .i64 (j : Int) ∧ st = .bool (b && (ps.take j).contains (P : Int))) (fun _ i => np - (intOf i).toNat)
      case atStart => exact ⟨0, Nat.zero_le _, rfl, by cases b <;> rfl⟩
      case round =>
        obtain ⟨j, hj, rfl, rfl⟩ := hrel
        by_cases hlt : j < np
        · obtain ⟨mb, off, rfl, hcc⟩ := HPC.out (by omega)
          obtain ⟨X, hX⟩ : ∃ X, X = ps.getD j 0 := ⟨_, rfl⟩
          have hcell : wr.cell? ⟨mb, off + j, none⟩ = some (.int .i64 X) := by rw [hX]; exact hcc j hlt
          have HNX := Lib.hid (contains_next ps (P : Int) j (by rw [HPL.out]; exact hlt))
          rw [← hX] at HNX
          obtain ⟨C, hC⟩ : ∃ C, C = (ps.take j).contains (P : Int) := ⟨_, rfl⟩
          rw [← hC] at HNX ⊢
          have HLT := Lib.hid hlt
          clear hX hC hcc hj
          cases C
          · cases b
            · go_wp2
              go_round
              case rel => exact ⟨j + 1, HLT.out, by go_num, rfl⟩
              case measure => have := HLT.out; simp [intOf]; omega
            · by_cases hx : X = (P : Int)
              · have hx2 : (X == (P : Int)) = true := by simpa using hx
                have HXP := Lib.hid hx2
                clear hx
                go_wp2
                go_round
                case rel => exact ⟨j + 1, HLT.out, by go_num, by rw [HNX.out, HXP.out]; rfl⟩
                case measure => have := HLT.out; simp [intOf]; omega
              · have hx2 : (X == (P : Int)) = false := by simpa using hx
                have HXP := Lib.hid hx2
                clear hx
                go_wp2
                go_round
                case rel => exact ⟨j + 1, HLT.out, by go_num, by rw [HNX.out, HXP.out]; rfl⟩
                case measure => have := HLT.out; simp [intOf]; omega
          · cases b
            · go_wp2
              go_round
              case rel => exact ⟨j + 1, HLT.out, by go_num, rfl⟩
              case measure => have := HLT.out; simp [intOf]; omega
            · go_wp2
              go_round
              case rel => exact ⟨j + 1, HLT.out, by go_num, by rw [HNX.out]; rfl⟩
              case measure => have := HLT.out; simp [intOf]; omega
        · obtain rfl : j = np := by omega
          rw [List.take_of_length_le (by rw [HPL.out]; exact Nat.le_refl _)]
          obtain ⟨SB, hSB⟩ : ∃ S, S = (b && ps.contains (P : Int)) := ⟨_, rfl⟩
          rw [← hSB]
          have HSB := Lib.hid (show (decide (0 < s.steps) && ps.contains s.pc) = SB by rw [hSB, HBB.out, HPP.out])
          clear hSB HPC hj hb2
          cases SB
          · by_cases hsf : s.steps = fuel
            · have hsf2 : (s.steps == fuel) = true := by simpa using hsf
              have HSF := Lib.hid hsf
              clear hsf
              go_wp2
              go_roundw
              case rel =>
                have hk0 : k = 0 := by have := HST.out; have := HSF.out; omega
                have hg := HGO.out HH0.out
                rw [hk0] at hg
                have hg2 : go (envR nC cd most ps) cd inp 0 s (decide (0 < s.steps), l, h) = ({ s with how := 3 }, (true, l, h)) := by
                  show (if (decide (0 < s.steps) && ps.contains s.pc) = true then _ else _ : St × GR) = _
                  rw [HSB.out, if_neg (by decide)]; rfl
                rw [hg2] at hg
                exact .of ⟨{ s with how := 3 }, k, N, ov, l, h, rfl, HMr.out.setHow 3, HHr.out, HOr.out, HBr.out, HFr.out, HST.out, HNN.out, HLL.out, HHH.out, fun h => absurd h (show (3 : Int) ≠ 0 by decide), fun _ => by rw [← hg]; exact ⟨rfl, rfl⟩⟩
              case measure =>
                show 2 * _ + (if (3 : Int) = 0 then 1 else 0) < 2 * _ + (if s.how = 0 then 1 else 0)
                rw [if_pos HH0.out, if_neg (by decide)]; omega
            · have hsf2 : (s.steps == fuel) = false := by simpa using hsf
              have hlt2 : s.steps < fuel := by have := HST.out; omega
              obtain ⟨k', hk'⟩ : ∃ k', k = k' + 1 := ⟨k - 1, by have := HST.out; omega⟩
              subst hk'
              have CST : Hid (∀ wx : World, Below L.mp w4 wx → Box3 wx L.mp L N ms { s with steps := s.steps + 1 } ov → Calls Try.prog 44 #[bP L] wx (Did3 L.mp L N ms ov (Mc.step cd inp { s with steps := s.steps + 1 }) wx)) := fun wx hb hm => by
                obtain ⟨q1, q2, q3, q4, q5⟩ := HRC.out wx hb
                exact step3_ok L.mp L N ms { s with steps := s.steps + 1 } ov nC nI cd inp HFr.out.1 (by have := HNN.out; omega) wx hm q1 HNC.out q3 q2 HNI.out HFr.out.2.2 HBY.out HFr.out.2.1
              obtain ⟨R, hR⟩ : ∃ R, R = Mc.step cd inp { s with steps := s.steps + 1 } := ⟨_, rfl⟩
              rw [← hR] at CST
              have HR := Lib.hid hR
              clear hsf hR
              have HB20 := Lib.hid (Below.setCell HBr.out (p := ⟨L.bb, 20, none⟩) HMr.out.lo1 (.int .i64 (s.steps + 1)))
              have HM20 := Lib.hid (HMr.out.setSteps (s.steps + 1))
              have HH20 : Hid (HitIs (wr.setCell ⟨L.bb, 20, none⟩ (.int .i64 (s.steps + 1))) gh nC h) := by
                obtain ⟨arr, h1, h2⟩ := HHr.out; exact ⟨arr, h1.far (h1.ne_ HMr.out.blk (by decide)) _, h2⟩
              have HO20 := Lib.hid (ownsRow_far HOr.out HMr.out.blk (by decide) 20 (.int .i64 (s.steps + 1)))
              go_upto_region 19 with (first | (go_at_call 44; refine (CST.out _ HB20.out HM20.out).mono ?_; rintro e w5 ⟨rfl, N', ov', hN', hm', hf'⟩; have HM5 := Lib.hid hm'; have HF5 := Lib.hid hf'; have HN5 := Lib.hid hN'; clear hm' hf' hN'))
              have HH5 := Lib.hid (HH20.out.frm HF5.out HM20.out)
              have HO5 := Lib.hid (own_frm3 HO20.out HF5.out HM20.out (by decide) (by decide))
              have HB5 := Lib.hid (Below.trans HB20.out (HF5.out.to HM20.out))
              have HMS5 := Lib.hid (msr_of (fuel := fuel) (HM5.out.at_ 20 (.int .i64 R.1.steps) rfl).1)
              have HRS : Hid (R.1.steps = s.steps + 1) := by show _ = _; rw [HR.out]; exact (Mc.step_steps cd inp { s with steps := s.steps + 1 }).1
              have HHP := Lib.hid (HHH.out P)
              obtain ⟨hh1, hh2⟩ := HHP.out
              have HTK : Hid (Mc.tick cd inp s = { R.1 with how := R.2 }) := by show _ = _; unfold Mc.tick; rw [← HR.out]
              clear c20 f20 c13 f13 HMr HHr HOr HBr HB20 HM20 HH20 HO20 HF5 CST
              by_cases hat : P < nC
              case' pos =>
                obtain ⟨cp, fp⟩ := HH5.out.at_ P hat
                have hd : decide ((P : Int) < (nC : Int)) = true := by simp; omega
                go_upto_region 21 with (fail)
                have HM6 := Lib.hid (HH5.out.box HM5.out P (h P + 1))
                have HH6 := Lib.hid (HH5.out.put P hat (h P + 1))
                have HO6 := Lib.hid (HH5.out.row HO5.out P (h P + 1))
                have HB6 := Lib.hid (Below.setCell HB5.out (p := ⟨gh, P, none⟩) hgh (.int .i64 (h P + 1)))
                have HEH : Hid (upd h P (h P + 1) = if s.pc < (nC : Int) then upd h s.pc.toNat (h s.pc.toNat + 1) else h) := by
                  show _ = _; rw [← HPP.out, if_pos (by omega)]; rfl
                clear cp fp hd hat HM5 HH5 HO5 HB5
                generalize World.setCell w5 ⟨gh, P, none⟩ _ = w6 at *
                generalize upd h P (h P + 1) = h6 at *
              case' neg =>
                have hd : decide ((P : Int) < (nC : Int)) = false := by simp; omega
                go_upto_region 21 with (fail)
                have HM6 := HM5; have HH6 := HH5; have HO6 := HO5; have HB6 := HB5
                have HEH : Hid (h = if s.pc < (nC : Int) then upd h s.pc.toNat (h s.pc.toNat + 1) else h) := by
                  show _ = _; rw [← HPP.out, if_neg (by omega)]
                clear hd hat HM5 HH5 HO5 HB5
                obtain ⟨w6, rfl⟩ : ∃ w6, w6 = w5 := ⟨_, rfl⟩
                obtain ⟨h6, hh6⟩ : ∃ h6, h6 = h := ⟨_, rfl⟩
                rw [← hh6] at HH6
                replace HEH : Hid (h6 = if s.pc < (nC : Int) then upd h s.pc.toNat (h s.pc.toNat + 1) else h) := by rw [hh6]; exact HEH
                clear hh6
              all_goals
                have CON : Hid (∀ wx : World, Below L.mp w4 wx → Calls Try.prog 59 #[.slice ca nC cc, .int .i64 (P : Int)] wx (OneR (U.one cd (P : Int)).op (U.one cd (P : Int)).d (U.one cd (P : Int)).s (U.one cd (P : Int)).imm (U.one cd (P : Int)).n wx)) := fun wx hb => one2_ok _ nC cd (by have := HNC.out; omega) (P : Int) wx (HRC.out wx hb).2.2.2.2.1
                obtain ⟨X, hX⟩ : ∃ X, X = U.one cd (P : Int) := ⟨_, rfl⟩
                rw [← hX] at CON
                have HX := Lib.hid hX
                have HXP : Hid (U.one cd s.pc = X) := by show _ = _; rw [hX, HPP.out]
                clear hX
                go_upto_region 22 with (first | (go_at_call 59; refine (CON.out _ HB6.out).mono ?_; rintro e w7 ⟨rfl, hb7⟩; have HB67 := Lib.hid hb7; clear hb7))
                generalize hw8 : World.alloc w7 _ = w8
                have HI8 := Lib.hid ((by rw [← hw8]; exact Blk.new w7 _ _ : Blk w8 w7.heap.size 43 #[.int .i64 X.op, .int .i64 X.d, .int .i64 X.s, .int .i64 X.imm]))
                have HB68 := Lib.hid ((by rw [← hw8]; exact Ext.trans HB67.out (Ext.alloc (Below.refl _ _) _) : Below w6.heap.size w6 w8))
                clear hw8
                have HM8 := Lib.hid (HM6.out.keep HB68.out); have HH8 := Lib.hid (HH6.out.keep HB68.out); have HO8 := Lib.hid (ownsRow_below HO6.out HB68.out)
                have HB8 := Lib.hid (Below.trans HB6.out (HB68.out.mono HM6.out.hi))
                have HMS8 := Lib.hid (msr_of (fuel := fuel) (HM8.out.at_ 20 (.int .i64 R.1.steps) rfl).1)
                have hl63 : l.length ≤ 9223372036854775807 := by have := HLL.out; omega
                clear HM6 HH6 HO6 HB6 HB67 CON
                by_cases hn : 0 < X.n
                · have hn2 : decide (X.n > 0) = true := by simpa using hn
                  by_cases hlm : (l.length : Int) < most
                  · have hlm2 : decide ((l.length : Int) < most) = true := by simpa using hlm
                    have HEL : Hid (l ++ [((P : Int), Mc.tick cd inp s)] = if 0 < (U.one cd s.pc).n ∧ (l.length : Int) < most then l ++ [(s.pc, Mc.tick cd inp s)] else l) := by
                      show _ = _; rw [HXP.out, if_pos ⟨hn, hlm⟩, HPP.out]
                    rw [HTK.out] at HEL
                    have HK3 : Hid (l.length + 1 ≤ 10000000) := by show _ ≤ _; have := HLL.out; omega
                    obtain ⟨st, hst⟩ : ∃ st : St, st = { R.1 with how := R.2 } := ⟨_, rfl⟩
                    rw [← hst] at HEL
                    have HM9 : Hid (Box3 w8 L.mp L N' ms st ov') := by rw [hst]; exact HM8.out.setHow _
                    have HSTT := Lib.hid hst
                    clear hn hlm hst
                    go_upto_region 23 with (fail)
                    apply Ix.wp_region 15 (fun wi => Hid (Below w8.heap.size w8 wi)) (Ix.vk [(Ix.kis (.slice sa l.length sc)), (Ix.kis (.int .i64 (P : Int))), (Ix.kis (.agg #[.int .i64 X.op, .int .i64 X.d, .int .i64 X.s, .int .i64 X.imm])), (Ix.kis (bP L)), (Ix.kis (bP L)), (Ix.kis (.pointer (some ⟨L.bb, 1, none⟩))), (Ix.kis (.pointer (some ⟨L.bb, 1, none⟩))), (Ix.kis (.agg #[.int .i64 (st.r 0), .int .i64 (st.r 1), .int .i64 (st.r 2), .int .i64 (st.r 3), .int .i64 (st.r 4), .int .i64 (st.r 5), .int .i64 (st.r 6), .int .i64 (st.r 7)])), (Ix.kis (bP L)), (Ix.kis (bP L)), (Ix.kis (.pointer (some ⟨L.bb, 1, none⟩))), (Ix.kis (.pointer (some ⟨L.bb, 9, none⟩))), (Ix.kis (.agg #[.bool st.c, .bool st.z, .bool st.n, .bool st.v])), (Ix.kis (.agg #[.int .i64 (P : Int), .int .i64 X.op, .int .i64 X.d, .int .i64 X.s, .int .i64 X.imm, .int .i64 (st.r 0), .int .i64 (st.r 1), .int .i64 (st.r 2), .int .i64 (st.r 3), .int .i64 (st.r 4), .int .i64 (st.r 5), .int .i64 (st.r 6), .int .i64 (st.r 7), .bool st.c, .bool st.z, .bool st.n, .bool st.v])), (Ix.kwld (fun v w' => ∃ g, v = Value.slice (some ⟨g, 0, none⟩) 1 1 ∧ w8.heap.size ≤ g ∧ Blk w' g 80 #[.int .i64 (P : Int), .int .i64 X.op, .int .i64 X.d, .int .i64 X.s, .int .i64 X.imm, .int .i64 (st.r 0), .int .i64 (st.r 1), .int .i64 (st.r 2), .int .i64 (st.r 3), .int .i64 (st.r 4), .int .i64 (st.r 5), .int .i64 (st.r 6), .int .i64 (st.r 7), .bool st.c, .bool st.z, .bool st.n, .bool st.v]) (fun v w1 w2 h hb => by obtain ⟨g, e, hl, hi⟩ := h; exact ⟨g, e, hl, hi.keep hb⟩))]) (fun _ => false) (by kernel_rfl) (by kernel_rfl) (by kernel_rfl) (fun _ _ h hb => Ext.trans h.out hb) (Ix.vk_keeps _) (Ix.not_al _) (Below.refl _ _)
                    case step =>
                      refine zyx 14 0 1 [] (fun wi HB => ?_) <| zyx 13 1 2 [] (fun wi HB => ?_) <| zyx 12 2 3 [] (fun wi HB => ?_) <| zyx 11 3 4 [] (fun wi HB => ?_) <| zyx 10 4 5 [(3, some 112)] (fun wi HB => ?_) <| zyx 9 5 6 [(4, some 113)] (fun wi HB => ?_) <| zyx 8 6 7 [(5, some 114)] (fun wi HB => ?_) <| zyx 7 7 8 [(6, some 115)] (fun wi HB => ?_) <| zyx 6 8 9 [] (fun wi HB => ?_) <| zyx 5 9 10 [(8, some 117)] (fun wi HB => ?_) <| zyx 4 10 11 [(9, some 118)] (fun wi HB => ?_) <| zyx 3 11 12 [(10, some 119)] (fun wi HB => ?_) <| zyx 2 12 13 [(11, some 120)] (fun wi HB => ?_) <| zyx 1 13 14 [(1, some 110), (2, some 111), (7, some 116), (12, some 121)] (fun wi HB => ?_) <| zyx 0 14 15 [(13, some 122)] (fun wi HB => ?_) <| Ix.steps_nil
                      iterate 2 (· ((repeat (refine zya ?_; rintro _ rfl)); refine zye ?_; (try simp only [zyp]); refine Ix.goI_yes rfl rfl fun K hK => ?_; (try simp only [zyp] at hK); go_wp2_with (first | fail); exact hK _ _ (Below.refl _ _) rfl))
                      (· ((repeat (refine zya ?_; rintro _ rfl)); refine zye ?_; (try simp only [zyp]); refine Ix.goI_yes rfl rfl fun K hK => ?_; (try simp only [zyp] at hK); refine wp_load_row 43 _ rfl w7.heap.size rfl 43 #[.int .i64 X.op, .int .i64 X.d, .int .i64 X.s, .int .i64 X.imm] (0, 0) _ (HI8.out.keep HB.out) Try.underlying43 rfl (by kernel_rfl) ?_; exact hK _ _ (Below.refl _ _) rfl))
                      iterate 4 (· ((repeat (refine zya ?_; rintro _ rfl)); refine zye ?_; (try simp only [zyp]); refine Ix.goI_yes rfl rfl fun K hK => ?_; (try simp only [zyp] at hK); go_wp2_with (first | fail); exact hK _ _ (Below.refl _ _) rfl))
                      (· ((repeat (refine zya ?_; rintro _ rfl)); refine zye ?_; (try simp only [zyp]); refine Ix.goI_yes rfl rfl fun K hK => ?_; (try simp only [zyp] at hK); refine wp_load_sub 23 _ rfl L.bb 1 rfl 88 (cells3 L st ov') [.int .i64 (st.r 0), .int .i64 (st.r 1), .int .i64 (st.r 2), .int .i64 (st.r 3), .int .i64 (st.r 4), .int .i64 (st.r 5), .int .i64 (st.r 6), .int .i64 (st.r 7)] _ (HM9.out.blk.keep HB.out) rfl Try.underlying23 rfl (by kernel_rfl) ?_; exact hK _ _ (Below.refl _ _) rfl))
                      iterate 4 (· ((repeat (refine zya ?_; rintro _ rfl)); refine zye ?_; (try simp only [zyp]); refine Ix.goI_yes rfl rfl fun K hK => ?_; (try simp only [zyp] at hK); go_wp2_with (first | fail); exact hK _ _ (Below.refl _ _) rfl))
                      (· ((repeat (refine zya ?_; rintro _ rfl)); refine zye ?_; (try simp only [zyp]); refine Ix.goI_yes rfl rfl fun K hK => ?_; (try simp only [zyp] at hK); refine wp_load_sub 25 _ rfl L.bb 9 rfl 88 (cells3 L st ov') [.bool st.c, .bool st.z, .bool st.n, .bool st.v] _ (HM9.out.blk.keep HB.out) rfl Try.underlying25 rfl (by kernel_rfl) ?_; exact hK _ _ (Below.refl _ _) rfl))
                      (· ((repeat (refine zya ?_; rintro _ rfl)); refine zye ?_; (try simp only [zyp]); refine Ix.goI_yes rfl rfl fun K hK => ?_; (try simp only [zyp] at hK); go_wp2_with (first | fail); exact hK _ _ (Below.refl _ _) rfl))
                      (· ((repeat (refine zya ?_; rintro _ rfl)); refine zye ?_; (try simp only [zyp]); refine Ix.goI_yes rfl rfl fun K hK => ?_; (try simp only [zyp] at hK); go_wp2_with (first | fail); exact hK _ _ (Ext.alloc (Below.refl _ _) _) ⟨_, rfl, HB.out.size, Blk.new _ _ _⟩))
                    intro vsf wf HF hdf
                    refine zyv 14 0 1 ?_; rintro _ _ rfl; refine zyv 13 1 2 ?_; rintro _ _ rfl; refine zyv 12 2 3 ?_; rintro _ _ rfl; refine zyv 11 3 4 ?_; rintro _ _ rfl; refine zyv 10 4 5 ?_; rintro _ _ rfl; refine zyv 9 5 6 ?_; rintro _ _ rfl; refine zyv 8 6 7 ?_; rintro _ _ rfl; refine zyv 7 7 8 ?_; rintro _ _ rfl; refine zyv 6 8 9 ?_; rintro _ _ rfl; refine zyv 5 9 10 ?_; rintro _ _ rfl; refine zyv 4 10 11 ?_; rintro _ _ rfl; refine zyv 3 11 12 ?_; rintro _ _ rfl; refine zyv 2 12 13 ?_; rintro _ _ rfl; refine zyv 1 13 14 ?_; rintro _ _ rfl; refine zyv 0 14 15 ?_; rintro _ _ ⟨gN, rfl, hgl, hgb⟩
                    refine Ix.allV_nil ?_
                    have HNB := Lib.hid hgb; have HWF := Lib.hid (ownsRow_below HO8.out HF.out); have HMF := Lib.hid (HM8.out.keep HF.out); have HHF := Lib.hid (HH8.out.keep HF.out); have HBF := Lib.hid (Below.trans HB8.out (HF.out.mono HM8.out.hi)); have HBS := Lib.hid HMF.out.hi; have HCS := Lib.hid ((by unfold shR; rw [HX.out]; rfl : #[.int .i64 (P : Int), .int .i64 X.op, .int .i64 X.d, .int .i64 X.s, .int .i64 X.imm, .int .i64 (st.r 0), .int .i64 (st.r 1), .int .i64 (st.r 2), .int .i64 (st.r 3), .int .i64 (st.r 4), .int .i64 (st.r 5), .int .i64 (st.r 6), .int .i64 (st.r 7), .bool st.c, .bool st.z, .bool st.n, .bool st.v] = (shR cd [((P : Int), st)]).toArray)); clear hgb
                    (try simp only [Act.put, List.setIfInBounds_toArray, List.set_cons_zero, List.set_cons_succ, List.drop_succ_cons, List.drop_zero])
                    go_wp2_with (first | (at_builtin; refine wpList_app_shot2 rfl _ _ rfl L.mp (.slice sa l.length sc) l.length cd l gN ((P : Int), st) #[.int .i64 (P : Int), .int .i64 X.op, .int .i64 X.d, .int .i64 X.s, .int .i64 X.imm, .int .i64 (st.r 0), .int .i64 (st.r 1), .int .i64 (st.r 2), .int .i64 (st.r 3), .int .i64 (st.r 4), .int .i64 (st.r 5), .int .i64 (st.r 6), .int .i64 (st.r 7), .bool st.c, .bool st.z, .bool st.n, .bool st.v] rfl rfl HWF.out HNB.out HCS.out HK3.out HBS.out ?_; intro a5 c5 w9 ho5 hg5; have HO9 := Lib.hid ho5; have HG9 := Lib.hid hg5; clear ho5 hg5))
                    refine Ix.only ?_
                    go_wp2
                    go_roundw
                    case rel =>
                      have hm9 := HMF.out.grown HWF.out HG9.out
                      refine LoopR.next (l' := l ++ [((P : Int), st)]) (h' := h6) HIL.out HBY.out HR.out HFr.out HST.out HNN.out HLL.out HHH.out (HGO.out HH0.out) HSB.out hm9 HN5.out (HHF.out.grown HWF.out HG9.out) (by rw [List.length_append]; exact HO9.out) (Below.trans HBF.out (grown_below HG9.out HBS.out (own_low HWF.out))) ?_ HEH.out
                      rw [HEL.out, HSTT.out, ← HTK.out]
                    case measure =>
                      have h1 := msr_of (fuel := fuel) ((HMF.out.grown HWF.out HG9.out).at_ 20 (.int .i64 R.1.steps) rfl).1
                      unfold msr3
                      rw [HMS.out, h1, HRS.out]
                      (repeat' split) <;> omega
                  · have hlm2 : decide ((l.length : Int) < most) = false := by simpa using hlm
                    have HEL : Hid (l = if 0 < (U.one cd s.pc).n ∧ (l.length : Int) < most then l ++ [(s.pc, Mc.tick cd inp s)] else l) := by
                      show _ = _; rw [if_neg (fun e => hlm e.2)]
                    clear hn hlm
                    go_wp2
                    go_roundw
                    case rel => exact LoopR.next (l' := l) (h' := h6) HIL.out HBY.out HR.out HFr.out HST.out HNN.out HLL.out HHH.out (HGO.out HH0.out) HSB.out HM8.out HN5.out HH8.out HO8.out HB8.out HEL.out HEH.out
                    case measure =>
                      unfold msr3
                      rw [HMS.out, HMS8.out, HRS.out]
                      (repeat' split) <;> omega
                · have hn2 : decide (X.n > 0) = false := by simpa using hn
                  have HEL : Hid (l = if 0 < (U.one cd s.pc).n ∧ (l.length : Int) < most then l ++ [(s.pc, Mc.tick cd inp s)] else l) := by
                    show _ = _; rw [if_neg (fun e => hn (by rw [← HXP.out]; exact e.1))]
                  clear hn
                  go_wp2
                  go_roundw
                  case rel => exact LoopR.next (l' := l) (h' := h6) HIL.out HBY.out HR.out HFr.out HST.out HNN.out HLL.out HHH.out (HGO.out HH0.out) HSB.out HM8.out HN5.out HH8.out HO8.out HB8.out HEL.out HEH.out
                  case measure =>
                    unfold msr3
                    rw [HMS.out, HMS8.out, HRS.out]
                    (repeat' split) <;> omega
          · go_wp2
            go_roundw
            case rel =>
              have hg := HGO.out HH0.out
              have hg2 : go (envR nC cd most ps) cd inp k s (decide (0 < s.steps), l, h) = ({ s with how := 6 }, (true, l, h)) := by
                cases k with
                | zero => show (if (decide (0 < s.steps) && ps.contains s.pc) = true then _ else _ : St × GR) = _; rw [HSB.out, if_pos rfl]; rfl
                | succ k => show (if (decide (0 < s.steps) && ps.contains s.pc) = true then _ else _ : St × GR) = _; rw [HSB.out, if_pos rfl]; rfl
              rw [hg2] at hg
              exact .of ⟨{ s with how := 6 }, k, N, ov, l, h, rfl, HMr.out.setHow 6, HHr.out, HOr.out, HBr.out, HFr.out, HST.out, HNN.out, HLL.out, HHH.out, fun h => absurd h (show (6 : Int) ≠ 0 by decide), fun _ => by rw [← hg]; exact ⟨rfl, rfl⟩⟩
            case measure =>
              show 2 * _ + (if (6 : Int) = 0 then 1 else 0) < 2 * _ + (if s.how = 0 then 1 else 0)
              rw [if_pos HH0.out, if_neg (by decide)]; omega
    · have hh2 : (s.how == 0) = false := by simpa using hh
      have hsF : F = s := (HNE.out hh).1
      have hF23 : (F2, F3) = (l, h) := (HNE.out hh).2
      injection hF23 with hF2 hF3
      clear hh
      subst hsF; subst hF2; subst hF3
      have HBt := Lib.hid (Below.trans HW4.out (HBr.out.mono (by omega)) : Below w.heap.size w wr)
      have HZt := Lib.hid (HZ4.out.below HBr.out (by omega) : Blk wr (w.heap.size + 1) 30 ranZc)
      have HLo : Hid (w.heap.size ≤ L.mp) := by show _ ≤ _; omega
      have HRM := Lib.hid (HRC.out wr HBr.out).2.2.1
      have HF2 : Hid ((F2.length : Int) ≤ 1000000) := by show _ ≤ _; have := HLL.out; have := HST.out; omega
      obtain ⟨oa, on, oc, hov⟩ : ∃ oa on oc, ov = Value.slice oa on oc := by obtain ⟨a, c, e, _⟩ := own_slice HMr.out.out; exact ⟨a, _, c, e⟩
      subst hov
      clear c20 f20 c13 f13 HNI HBY HFU HFI HFin HBX4 HZ4 HW4 HRC HST HGO HNE HNN HMS HHI HIL HPL HLL HHH
      obtain ⟨W0, rfl⟩ : ∃ W0, W0 = wr := ⟨_, rfl⟩
      obtain ⟨M, hMM⟩ : ∃ M : Nat, M = MS := ⟨_, rfl⟩
      have HMM := Lib.hid hMM
      have hM5 : M = 65536 := hMM
      have HM5 := Lib.hid hM5
      clear hMM hM5
      go_wp2
      go_loopw [25, 26, 27] (fun m l i wr => ∃ j : Nat, j ≤ M ∧ i = .int .i64 (j : Int) ∧ l = .int .i64 ((top F.mem j : Nat) : Int) ∧ Hid (wr.ownsRow W0.heap.size 3 1 m j (((List.range j).map F.mem).map (Value.int .i64))) ∧ Hid (Below W0.heap.size W0 wr)) (fun _ _ i _ => M - (intOf i).toNat)
      case atStart => exact ⟨0, Nat.zero_le _, rfl, rfl, World.ownsRow_nil _ _ _ _, Below.refl _ _⟩
      case round =>
        obtain ⟨j, hj, rfl, rfl, hown, hbx⟩ := hrel
        obtain ⟨xa, xc, hxv, _⟩ := own_slice hown.out
        subst hxv
        by_cases hlt : j < M
        · have hj5 : j < 65536 := by have := HM5.out; omega
          have hd : decide ((j : Int) < 65536) = true := by have := HM5.out; simp; omega
          obtain ⟨X, hX⟩ : ∃ X, X = F.mem j := ⟨_, rfl⟩
          have CLD : Hid (∀ wy : World, Below W0.heap.size W0 wy → Calls Try.prog 45 #[bP L, .int .i64 (j : Int)] wy (fun e w' => e = .returned (.int .i64 X) ∧ wy = w')) := fun wy hb => by
            have := load3_ok L.mp L N ms F (.slice oa on oc) (j : Int) (by have := HM5.out; omega) wy (HMr.out.keep hb) (HRM.out.1.below hb)
            rw [show ((j : Int) % 65536).toNat = j by have := HM5.out; omega, ← hX] at this
            exact this
          have HNX : Hid (((List.range j).map F.mem).map (Value.int .i64) ++ [.int .i64 X] = ((List.range (j + 1)).map F.mem).map (Value.int .i64)) := by
            show _ = _
            rw [List.range_succ, List.map_append, List.map_append, hX]; rfl
          have HJ1 : Hid (j ≤ 100000000) := by show j ≤ _; have := HM5.out; omega
          have HSZ : Hid (W0.heap.size ≤ wr.heap.size) := hbx.out.size
          have HJ := Lib.hid hj; have HLT := Lib.hid hlt
          by_cases hx0 : X = 0
          · have hx2 : (X != 0) = false := by simpa using hx0
            have HT : Hid (top F.mem (j + 1) = top F.mem j) := by show _ = _; exact top_zero (by rw [← hX]; exact hx0)
            clear hX hx0 hj hlt
            generalize top F.mem j = T at *
            go_wp2_with (first | (go_at_call 45; refine (CLD.out _ hbx.out).mono ?_; rintro e wy ⟨rfl, rfl⟩) | (at_builtin; refine wpList_app_int rfl _ _ rfl W0.heap.size _ _ _ _ _ _ rfl rfl hown.out rfl HJ1.out HSZ.out ?_; intro aA cA wA ho hg; have HOA := Lib.hid ho; have HGA := Lib.hid hg; clear ho hg))
            go_roundw
            case rel => exact ⟨j + 1, HLT.out, by go_num, by rw [HT.out], (by have := HOA.out; rw [HNX.out] at this; exact this), Lib.hid (hbx.out.trans (grown_below HGA.out HSZ.out (own_low hown.out)))⟩
            case measure => have := HLT.out; simp [intOf]; omega
          · have hx2 : (X != 0) = true := by simpa using hx0
            have HT : Hid (top F.mem (j + 1) = j + 1) := by show _ = _; exact top_not (by rw [← hX]; exact hx0)
            clear hX hx0 hj hlt
            generalize top F.mem j = T at *
            go_wp2_with (first | (go_at_call 45; refine (CLD.out _ hbx.out).mono ?_; rintro e wy ⟨rfl, rfl⟩) | (at_builtin; refine wpList_app_int rfl _ _ rfl W0.heap.size _ _ _ _ _ _ rfl rfl hown.out rfl HJ1.out HSZ.out ?_; intro aA cA wA ho hg; have HOA := Lib.hid ho; have HGA := Lib.hid hg; clear ho hg))
            go_roundw
            case rel => exact ⟨j + 1, HLT.out, by go_num, by rw [HT.out]; go_num, (by have := HOA.out; rw [HNX.out] at this; exact this), Lib.hid (hbx.out.trans (grown_below HGA.out HSZ.out (own_low hown.out)))⟩
            case measure => have := HLT.out; simp [intOf]; omega
        · obtain rfl : j = M := by omega
          have hd : decide ((j : Int) < 65536) = false := by have := HM5.out; simp; omega
          have HTL : Hid (top F.mem j ≤ j) := top_le F.mem j
          have HTT : Hid (top F.mem MS = top F.mem j) := by show _ = _; rw [HMM.out]
          obtain ⟨g, cap, _, hv, _, _, hcap, _⟩ := rown_open hown.out (by have := HM5.out; simp; omega)
          injection hv with hv1 hv2 hv3
          subst hv1; subst hv3
          generalize top F.mem j = T at *
          have HE := Lib.hid (box3_end HMr.out HFr.out.2.1 HTL.out HMM.out HTT.out HZt.out HLo.out (Nat.le_succ _) HBt.out hbx.out hown.out)
          have hcT : T ≤ xc := Nat.le_trans HTL.out hcap
          obtain ⟨c14, f14⟩ := (HMr.out.keep hbx.out).at_ 14 (.slice L.ma L.mn L.mcap) rfl
          clear hlt hj hcap
          go_upto_region 34 with (fail)
          have HKE := Lib.hid (r16_end (u := .slice (some ⟨g, 0, none⟩) T xc) (HMr.out.keep hbx.out) (HZt.out.keep hbx.out) (HHr.out.keep hbx.out) (ownsRow_below HOr.out hbx.out))
          generalize World.setCell wr ⟨L.bb, 14, none⟩ _ = W5 at *
          clear c14 f14
          apply Iy.wp_region 27 [26] (fun _ => []) (Ix.Rb) (fun n vs wi => Hid (Blk wi L.bb 88 (cells3 ⟨L.bb, L.mp, L.cv, L.iv, some ⟨g, 0, none⟩, T, xc⟩ F (.slice oa on oc))) ∧ (match n with | 0 => Hid (Below W5.heap.size W5 wi) | _ + 1 => Hid (∃ wq, Below W5.heap.size W5 wq ∧ Below (wq.setRow (w.heap.size + 1) (ranL F (.slice oa on oc) (.slice (some ⟨g, 0, none⟩) T xc)).toArray).heap.size (wq.setRow (w.heap.size + 1) (ranL F (.slice oa on oc) (.slice (some ⟨g, 0, none⟩) T xc)).toArray) wi))) (Iy.vp [(Iy.is (.slice sa F2.length sc)), (Iy.is (.slice (some ⟨gh, 0, none⟩) nC nC)), (Iy.is (.int .i64 F.how)), (Iy.is (bP L)), (Iy.is (bP L)), (Iy.is (.pointer (some ⟨L.bb, 19, none⟩))), (Iy.is (.int .i64 F.trap)), (Iy.is (bP L)), (Iy.is (bP L)), (Iy.is (.pointer (some ⟨L.bb, 18, none⟩))), (Iy.is (.slice oa on oc)), (Iy.is (bP L)), (Iy.is (bP L)), (Iy.is (.pointer (some ⟨L.bb, 17, none⟩))), (Iy.is (.int .i64 (F.read : Int))), (Iy.is (bP L)), (Iy.is (bP L)), (Iy.is (.pointer (some ⟨L.bb, 20, none⟩))), (Iy.is (.int .i64 F.steps)), (Iy.is (bP L)), (Iy.is (bP L)), (Iy.is (.pointer (some ⟨L.bb, 1, none⟩))), (Iy.is (.agg (stL F (.slice (some ⟨g, 0, none⟩) T xc)).toArray)), (Iy.is (ranV F (.slice oa on oc) (.slice (some ⟨g, 0, none⟩) T xc))), (Iy.is (.slice sa F2.length sc)), (Iy.is (.slice (some ⟨gh, 0, none⟩) nC nC)), (Iy.is undef)]) (fun _ => false) (by kernel_rfl) (by kernel_rfl) (by kernel_rfl) (by kernel_rfl) (by kernel_rfl) (fun _ _ _ _ _ h => h) (fun _ => Below.refl _ _) (fun n vs _ _ h hb => ⟨h.1.out.keep hb, by cases n with | zero => exact Ext.trans h.2.out hb | succ n => (obtain ⟨wq, h1, h2⟩ := h.2.out; exact ⟨wq, h1, Ext.trans h2 hb⟩)⟩) (fun _ _ => Iy.vp_keeps _ _ _ _) (Ix.not_al _) (fun vs => ⟨HE.out.1, Lib.hid (Below.drew (Below.refl W5.heap.size W5))⟩)
          case step =>
            refine zys 26 0 1 [] (fun _ _ wi HB => ?_) <| zys 25 1 2 [] (fun _ _ wi HB => ?_) <| zys 24 2 3 [] (fun _ _ wi HB => ?_) <| zys 23 3 4 [] (fun _ _ wi HB => ?_) <| zys 22 4 5 [(3, some 150)] (fun _ _ wi HB => ?_) <| zys 21 5 6 [(4, some 151)] (fun _ _ wi HB => ?_) <| zys 20 6 7 [(5, some 152)] (fun _ _ wi HB => ?_) <| zys 19 7 8 [] (fun _ _ wi HB => ?_) <| zys 18 8 9 [(7, some 154)] (fun _ _ wi HB => ?_) <| zys 17 9 10 [(8, some 155)] (fun _ _ wi HB => ?_) <| zys 16 10 11 [(9, some 156)] (fun _ _ wi HB => ?_) <| zys 15 11 12 [] (fun _ _ wi HB => ?_) <| zys 14 12 13 [(11, some 158)] (fun _ _ wi HB => ?_) <| zys 13 13 14 [(12, some 159)] (fun _ _ wi HB => ?_) <| zys 12 14 15 [(13, some 160)] (fun _ _ wi HB => ?_) <| zys 11 15 16 [] (fun _ _ wi HB => ?_) <| zys 10 16 17 [(15, some 162)] (fun _ _ wi HB => ?_) <| zys 9 17 18 [(16, some 163)] (fun _ _ wi HB => ?_) <| zys 8 18 19 [(17, some 164)] (fun _ _ wi HB => ?_) <| zys 7 19 20 [] (fun _ _ wi HB => ?_) <| zys 6 20 21 [(19, some 166)] (fun _ _ wi HB => ?_) <| zys 5 21 22 [(20, some 167)] (fun _ _ wi HB => ?_) <| zys 4 22 23 [(21, some 168)] (fun _ _ wi HB => ?_) <| zys 3 23 24 [(2, some 149), (6, some 153), (10, some 157), (14, some 161), (18, some 165), (22, some 169)] (fun _ _ wi HB => ?_) <| zys 2 24 25 [(0, some 147)] (fun _ _ wi HB => ?_) <| zys 1 25 26 [(1, some 148)] (fun _ _ wi HB => ?_) <| zyc 0 26 27 0 [(23, some 170)] (fun vsp wi HB => ?_) <| Iy.steps_nil
            iterate 6 (· ((repeat (refine zya ?_; rintro _ rfl)); refine zye ?_; (try simp only [zyp]); refine Iy.goI_yes rfl rfl fun K hK => ?_; (try simp only [zyp] at hK); go_wp2_with (first | fail); exact hK _ _ (Below.refl _ _) rfl))
            (· (obtain ⟨HKB, _⟩ := HB; have y19 : wi.cell? ⟨L.bb, 19, none⟩ = some (.int .i64 F.trap) := (by rw [HKB.out.cell]; rfl); have y18 : wi.cell? ⟨L.bb, 18, none⟩ = some (.slice oa on oc) := (by rw [HKB.out.cell]; rfl); have y17 : wi.cell? ⟨L.bb, 17, none⟩ = some (.int .i64 (F.read : Int)) := (by rw [HKB.out.cell]; rfl); have y20 : wi.cell? ⟨L.bb, 20, none⟩ = some (.int .i64 F.steps) := (by rw [HKB.out.cell]; rfl); (repeat (refine zya ?_; rintro _ rfl)); refine zye ?_; (try simp only [zyp]); refine Iy.goI_yes rfl rfl fun K hK => ?_; (try simp only [zyp] at hK); go_wp2_with (first | fail); exact hK _ _ (Below.refl _ _) rfl))
            iterate 3 (· ((repeat (refine zya ?_; rintro _ rfl)); refine zye ?_; (try simp only [zyp]); refine Iy.goI_yes rfl rfl fun K hK => ?_; (try simp only [zyp] at hK); go_wp2_with (first | fail); exact hK _ _ (Below.refl _ _) rfl))
            (· (obtain ⟨HKB, _⟩ := HB; have y19 : wi.cell? ⟨L.bb, 19, none⟩ = some (.int .i64 F.trap) := (by rw [HKB.out.cell]; rfl); have y18 : wi.cell? ⟨L.bb, 18, none⟩ = some (.slice oa on oc) := (by rw [HKB.out.cell]; rfl); have y17 : wi.cell? ⟨L.bb, 17, none⟩ = some (.int .i64 (F.read : Int)) := (by rw [HKB.out.cell]; rfl); have y20 : wi.cell? ⟨L.bb, 20, none⟩ = some (.int .i64 F.steps) := (by rw [HKB.out.cell]; rfl); (repeat (refine zya ?_; rintro _ rfl)); refine zye ?_; (try simp only [zyp]); refine Iy.goI_yes rfl rfl fun K hK => ?_; (try simp only [zyp] at hK); go_wp2_with (first | fail); exact hK _ _ (Below.refl _ _) rfl))
            iterate 3 (· ((repeat (refine zya ?_; rintro _ rfl)); refine zye ?_; (try simp only [zyp]); refine Iy.goI_yes rfl rfl fun K hK => ?_; (try simp only [zyp] at hK); go_wp2_with (first | fail); exact hK _ _ (Below.refl _ _) rfl))
            (· (obtain ⟨HKB, _⟩ := HB; have y19 : wi.cell? ⟨L.bb, 19, none⟩ = some (.int .i64 F.trap) := (by rw [HKB.out.cell]; rfl); have y18 : wi.cell? ⟨L.bb, 18, none⟩ = some (.slice oa on oc) := (by rw [HKB.out.cell]; rfl); have y17 : wi.cell? ⟨L.bb, 17, none⟩ = some (.int .i64 (F.read : Int)) := (by rw [HKB.out.cell]; rfl); have y20 : wi.cell? ⟨L.bb, 20, none⟩ = some (.int .i64 F.steps) := (by rw [HKB.out.cell]; rfl); (repeat (refine zya ?_; rintro _ rfl)); refine zye ?_; (try simp only [zyp]); refine Iy.goI_yes rfl rfl fun K hK => ?_; (try simp only [zyp] at hK); go_wp2_with (first | fail); exact hK _ _ (Below.refl _ _) rfl))
            iterate 3 (· ((repeat (refine zya ?_; rintro _ rfl)); refine zye ?_; (try simp only [zyp]); refine Iy.goI_yes rfl rfl fun K hK => ?_; (try simp only [zyp] at hK); go_wp2_with (first | fail); exact hK _ _ (Below.refl _ _) rfl))
            (· (obtain ⟨HKB, _⟩ := HB; have y19 : wi.cell? ⟨L.bb, 19, none⟩ = some (.int .i64 F.trap) := (by rw [HKB.out.cell]; rfl); have y18 : wi.cell? ⟨L.bb, 18, none⟩ = some (.slice oa on oc) := (by rw [HKB.out.cell]; rfl); have y17 : wi.cell? ⟨L.bb, 17, none⟩ = some (.int .i64 (F.read : Int)) := (by rw [HKB.out.cell]; rfl); have y20 : wi.cell? ⟨L.bb, 20, none⟩ = some (.int .i64 F.steps) := (by rw [HKB.out.cell]; rfl); (repeat (refine zya ?_; rintro _ rfl)); refine zye ?_; (try simp only [zyp]); refine Iy.goI_yes rfl rfl fun K hK => ?_; (try simp only [zyp] at hK); go_wp2_with (first | fail); exact hK _ _ (Below.refl _ _) rfl))
            iterate 3 (· ((repeat (refine zya ?_; rintro _ rfl)); refine zye ?_; (try simp only [zyp]); refine Iy.goI_yes rfl rfl fun K hK => ?_; (try simp only [zyp] at hK); go_wp2_with (first | fail); exact hK _ _ (Below.refl _ _) rfl))
            (· (obtain ⟨HKB, _⟩ := HB; have y19 : wi.cell? ⟨L.bb, 19, none⟩ = some (.int .i64 F.trap) := (by rw [HKB.out.cell]; rfl); have y18 : wi.cell? ⟨L.bb, 18, none⟩ = some (.slice oa on oc) := (by rw [HKB.out.cell]; rfl); have y17 : wi.cell? ⟨L.bb, 17, none⟩ = some (.int .i64 (F.read : Int)) := (by rw [HKB.out.cell]; rfl); have y20 : wi.cell? ⟨L.bb, 20, none⟩ = some (.int .i64 F.steps) := (by rw [HKB.out.cell]; rfl); (repeat (refine zya ?_; rintro _ rfl)); refine zye ?_; (try simp only [zyp]); refine Iy.goI_yes rfl rfl fun K hK => ?_; (try simp only [zyp] at hK); refine wp_load_sub 27 _ rfl L.bb 1 rfl 88 _ (stL F (.slice (some ⟨g, 0, none⟩) T xc)) _ HKB.out rfl Try.underlying27 rfl (by kernel_rfl) ?_; exact hK _ _ (Below.refl _ _) rfl))
            iterate 3 (· ((repeat (refine zya ?_; rintro _ rfl)); refine zye ?_; (try simp only [zyp]); refine Iy.goI_yes rfl rfl fun K hK => ?_; (try simp only [zyp] at hK); go_wp2_with (first | fail); exact hK _ _ (Below.refl _ _) rfl))
            (· (obtain ⟨HKB, HBW⟩ := HB; refine zya ?_; rintro _ ⟨rfl, ev23⟩; refine zye ?_; (try simp only [zyp]); refine Iy.goI_yes rfl rfl fun K hK => ?_; (try simp only [zyp] at hK); refine wp_store_row 30 _ _ rfl (w.heap.size + 1) (ranL F (.slice oa on oc) (.slice (some ⟨g, 0, none⟩) T xc)).toArray rfl rfl 30 ranZc (HE.out.2.1.keep HBW.out) (by kernel_rfl) rfl (ranL_one _ _ _ _ _ _ _) ?_; exact hK _ _ ⟨⟨Lib.hid (HKB.out.farRow (HKB.out.ne_ (HE.out.2.1.keep HBW.out) (by decide)) _), Lib.hid ⟨_, HBW.out, Below.refl _ _⟩⟩, fun _ _ h => h⟩ rfl))
          intro vsf wf HF hdf
          refine zyv 26 0 1 ?_; rintro _ _ rfl; refine zyv 25 1 2 ?_; rintro _ _ rfl; refine zyv 24 2 3 ?_; rintro _ _ rfl; refine zyv 23 3 4 ?_; rintro _ _ rfl; refine zyv 22 4 5 ?_; rintro _ _ rfl; refine zyv 21 5 6 ?_; rintro _ _ rfl; refine zyv 20 6 7 ?_; rintro _ _ rfl; refine zyv 19 7 8 ?_; rintro _ _ rfl; refine zyv 18 8 9 ?_; rintro _ _ rfl; refine zyv 17 9 10 ?_; rintro _ _ rfl; refine zyv 16 10 11 ?_; rintro _ _ rfl; refine zyv 15 11 12 ?_; rintro _ _ rfl; refine zyv 14 12 13 ?_; rintro _ _ rfl; refine zyv 13 13 14 ?_; rintro _ _ rfl; refine zyv 12 14 15 ?_; rintro _ _ rfl; refine zyv 11 15 16 ?_; rintro _ _ rfl; refine zyv 10 16 17 ?_; rintro _ _ rfl; refine zyv 9 17 18 ?_; rintro _ _ rfl; refine zyv 8 18 19 ?_; rintro _ _ rfl; refine zyv 7 19 20 ?_; rintro _ _ rfl; refine zyv 6 20 21 ?_; rintro _ _ rfl; refine zyv 5 21 22 ?_; rintro _ _ rfl; refine zyv 4 22 23 ?_; rintro _ _ rfl; refine zyv 3 23 24 ?_; rintro _ _ rfl; refine zyv 2 24 25 ?_; rintro _ _ rfl; refine zyv 1 25 26 ?_; rintro _ _ rfl; refine zyv 0 26 27 ?_; rintro _ _ rfl
          refine Ix.allV_nil ?_
          obtain ⟨_, HPW⟩ := HF
          (try simp only [Act.put, List.setIfInBounds_toArray, List.set_cons_zero, List.set_cons_succ, List.drop_succ_cons, List.drop_zero])
          refine Ix.nil ?_
          obtain ⟨wq, hq1, hq2⟩ := HPW.out
          have HRB := Lib.hid (((HE.out.2.1.keep hq1).row (ranL F (.slice oa on oc) (.slice (some ⟨g, 0, none⟩) T xc)).toArray).keep hq2)
          have HEE := Lib.hid (HE.out.2.2 _ hq1 (ranL F (.slice oa on oc) (.slice (some ⟨g, 0, none⟩) T xc)).toArray)
          have HKK := Lib.hid (HKE.out _ hq1 (ranL F (.slice oa on oc) (.slice (some ⟨g, 0, none⟩) T xc)).toArray)
          have HQ2 := Lib.hid hq2
          clear HPW hq1 hq2
          go_wp2
          exact bodyPost_ret (results_ttc rfl _ _ (w.heap.size + 1) 30 (ranL F (.slice oa on oc) (.slice (some ⟨g, 0, none⟩) T xc)).toArray (0, 0) _ rfl HRB.out Try.underlying30 rfl (by kernel_rfl)) rfl ⟨_, _, _, _, rfl, ownsRow_below HEE.out.1 HQ2.out, ownsRow_below HEE.out.2.1 HQ2.out, own_mono HLo.out (ownsRow_below HKK.out.2 HQ2.out), HF2.out, (by obtain ⟨arr, h1, h2⟩ := HKK.out.1.keep HQ2.out; have h3 := rd_counts2 h1 h2 (by have := HNC.out; unfold maxLen; omega); rw [List.map_map] at h3; exact h3), HFr.out.2.1, Ext.trans HEE.out.2.2 HQ2.out⟩
end Go.Proofs.Ytfjgnhmmakeaeaa
