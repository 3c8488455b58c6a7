/- The document's machine: a step: shifts to the right -/
import Derived.Test.YtfjgnhmmakeaeaaPt2
import Derived.Test.YtfjgnhmmakeaeaaB8
import Derived.Test.YtfjgnhmmakeaeaaB7
namespace Go.Proofs.Ytfjgnhmmakeaeaa
open Go.RowKit Go.Maps
set_option linter.unusedVariables false
set_option linter.unusedSimpArgs false
set_option maxRecDepth 100000
open Mc
set_option maxHeartbeats 32000000 in
theorem step3_g9 (B : Nat) (L : Lay3) (N : Nat) (ms : List Int) (s : St) (ov : Value) (inp : List Int) (op D E imm n : Int) (d e : Nat) (hop : op = 16 ∨ op = 17 ∨ op = 18) (hI : InsOk D E n imm d e) (hok : Mc.Ok s) (hNN : N < 9000000) (w : World) (h : Box3 w B L N ms s ov) (hcv : ∃ ca cn cc, L.cv = .slice ca cn cc)
    (CI : ∀ w1 : World, Below B w w1 → Calls Try.prog 59 #[L.cv, .int .i64 s.pc] w1 (OneR op D E imm n w1)) :
    Calls Try.prog 44 #[bP L] w (Did3 B L N ms ov (Mc.exec inp op d e imm (s.pc + n) s) w) := by
  have HNN := Lib.hid hNN; have HOP := Lib.hid hop; clear hNN hop
  obtain ⟨⟨rfl, hd⟩, ⟨rfl, he⟩, hn, him0, him1⟩ := hI
  obtain ⟨P, hP⟩ : ∃ P, P = s.pc := ⟨_, rfl⟩
  have hPb := hok.2.1
  have c13e : (cells3 L s ov)[13]? = some (.int .i64 P) := by rw [hP]; rfl
  rw [← hP] at hPb CI
  have HPP := Lib.hid hP
  obtain ⟨c13, f13⟩ := h.at_ 13 (.int .i64 P) c13e
  obtain ⟨c0, f0⟩ := h.at_ 0 L.cv rfl
  obtain ⟨ca, cn, cc, hcve⟩ := hcv
  rw [hcve] at c0 CI
  have CI2 := Lib.hid CI
  have H := Lib.hid h
  have HOK := Lib.hid hok
  have HE := Lib.hid c13e
  clear h hP hcve CI hok c13e
  obtain ⟨hP0, hP1⟩ := hPb
  have HD := Lib.hid hd; have HE8 := Lib.hid he; have HN := Lib.hid hn
  have hn0 : (n == 0) = false := by simp; omega
  clear hd he
  go_enter Try.func44, Try.ntmps44
  go_wp2
  apply Iy.wp_region 15 [14] (fun n => if n = 0 then [] else [13]) (Ix.Rb) (fun n vs wi => (Hid (Box3 wi B L N ms s ov) ∧ Hid (Frm3 L ov w wi) ∧ Hid (w.heap.size ≤ wi.heap.size) ∧ wi.cell? ⟨L.bb, 13, none⟩ = some (.int .i64 P) ∧ wi.cell? ⟨L.bb, 0, none⟩ = some (.slice ca cn cc)) ∧ (match n with | 0 => True | _ + 1 => ∀ g, vs 13 = Value.pointer (some ⟨g, 0, none⟩) → Blk wi g 43 #[.int .i64 op, .int .i64 (d : Int), .int .i64 (e : Int), .int .i64 imm])) (Ix.vk [(Ix.kis _), (Ix.kis _), (Ix.kis _), (Ix.kis _), (Ix.kis _), (Ix.kis _), (Ix.kis _), (Ix.kis _), (Ix.kis _), (Ix.kis (.tuple #[insV op (d : Int) (e : Int) imm, .int .i64 n])), (Ix.kis _), (Ix.kis _), (Ix.kis _), (Ix.kwld (fun v w' => ∃ g, v = Value.pointer (some ⟨g, 0, none⟩) ∧ w.heap.size ≤ g ∧ ∃ a0 a1 a2 a3, Blk w' g 43 #[.int .i64 a0, .int .i64 a1, .int .i64 a2, .int .i64 a3]) (fun v w1 w2 h hb => by obtain ⟨g, e, hl, a0, a1, a2, a3, hi⟩ := h; exact ⟨g, e, hl, a0, a1, a2, a3, hi.keep hb⟩)), (Ix.ksat (fun _ => True))]) (fun k => k == 13) (by kernel_rfl) (by kernel_rfl) (by kernel_rfl) (by kernel_rfl) (by kernel_rfl) (fun n vs vs' w hk h => by cases n with | zero => exact h | succ n => exact ⟨h.1, fun g e => h.2 g ((hk 13 (by simp)).trans e)⟩) (fun _ => Below.refl _ _) (fun n vs _ _ h hb => ⟨⟨h.1.1.out.keep hb, h.1.2.1.out.below hb, Nat.le_trans h.1.2.2.1.out hb.size, by rw [(bcell hb).1 _ _ h.1.1.out.lt]; exact h.1.2.2.2.1, by rw [(bcell hb).1 _ _ h.1.1.out.lt]; exact h.1.2.2.2.2⟩, by cases n with | zero => trivial | succ n => exact fun g e => (h.2 g e).keep hb⟩) (Ix.vk_keeps _) (fun j v w hj hv => by simp only [beq_iff_eq] at hj; subst hj; obtain ⟨g, e, _, _, _, _, _, hg⟩ := hv; exact ⟨g, e, hg.lt⟩) (fun vs => ⟨⟨H.out.drew, Frm3.drew (Frm3.refl _ _ _), Nat.le_refl _, c13, c0⟩, trivial⟩)
  case step =>
    refine zys 14 0 1 [] (fun _ _ wi HB => ?_) <| zys 13 1 2 [(0, some 18)] (fun _ _ wi HB => ?_) <| zys 12 2 3 [(1, some 19)] (fun _ _ wi HB => ?_) <| zys 11 3 4 [(2, some 20)] (fun _ _ wi HB => ?_) <| zys 10 4 5 [] (fun _ _ wi HB => ?_) <| zys 9 5 6 [(4, some 22)] (fun _ _ wi HB => ?_) <| zys 8 6 7 [(5, some 23)] (fun _ _ wi HB => ?_) <| zys 7 7 8 [(6, some 24)] (fun _ _ wi HB => ?_) <| zys 6 8 9 [(7, some 25)] (fun _ _ wi HB => ?_) <| zys 5 9 10 [(3, some 21), (8, some 26)] (fun _ _ wi HB => ?_) <| zys 4 10 11 [(9, some 27)] (fun _ _ wi HB => ?_) <| zys 3 11 12 [(10, some 17)] (fun _ _ wi HB => ?_) <| zys 2 12 13 [(10, some 17)] (fun _ _ wi HB => ?_) <| zys 1 13 14 [] (fun _ _ wi HB => ?_) <| zyc 0 14 15 0 [(11, some 28), (13, some 3)] (fun vsp wi HB => ?_) <| Iy.steps_nil
    iterate 3 (· ((repeat (refine zya ?_; rintro _ rfl)); refine zye ?_; (try simp only [zyp]); refine Iy.goI_yes rfl rfl fun K hK => ?_; (try simp only [zyp] at hK); go_wp2_with (first | fail); exact hK _ _ (Below.refl _ _) rfl))
    (· (obtain ⟨⟨HM, HW, HZ, d13, d0⟩, _⟩ := HB; (repeat (refine zya ?_; rintro _ rfl)); refine zye ?_; (try simp only [zyp]); refine Iy.goI_yes rfl rfl fun K hK => ?_; (try simp only [zyp] at hK); go_wp2_with (first | fail); exact hK _ _ (Below.refl _ _) rfl))
    iterate 4 (· ((repeat (refine zya ?_; rintro _ rfl)); refine zye ?_; (try simp only [zyp]); refine Iy.goI_yes rfl rfl fun K hK => ?_; (try simp only [zyp] at hK); go_wp2_with (first | fail); exact hK _ _ (Below.refl _ _) rfl))
    (· (obtain ⟨⟨HM, HW, HZ, d13, d0⟩, _⟩ := HB; (repeat (refine zya ?_; rintro _ rfl)); refine zye ?_; (try simp only [zyp]); refine Iy.goI_yes rfl rfl fun K hK => ?_; (try simp only [zyp] at hK); go_wp2_with (first | fail); exact hK _ _ (Below.refl _ _) rfl))
    (· (obtain ⟨⟨HM, HW, HZ, d13, d0⟩, _⟩ := HB; (repeat (refine zya ?_; rintro _ rfl)); refine zye ?_; (try simp only [zyp]); refine Iy.goI_yes rfl rfl fun K hK => ?_; (try simp only [zyp] at hK); go_wp2_with (first | (go_at_call 59; refine (CI2.out _ (HW.out.to H.out)).mono ?_; rintro e w1 ⟨rfl, hba⟩)); exact hK _ _ hba rfl))
    iterate 3 (· ((repeat (refine zya ?_; rintro _ rfl)); refine zye ?_; (try simp only [zyp]); refine Iy.goI_yes rfl rfl fun K hK => ?_; (try simp only [zyp] at hK); go_wp2_with (first | fail); exact hK _ _ (Below.refl _ _) rfl))
    (· (obtain ⟨⟨HM, HW, HZ, d13, d0⟩, _⟩ := HB; (repeat (refine zya ?_; rintro _ rfl)); refine zye ?_; (try simp only [zyp]); refine Iy.goI_new rfl fun K hK => ?_; (try simp only [zyp] at hK); go_wp2_with (first | fail); exact hK _ (Ext.alloc (Below.refl _ _) _) ⟨_, rfl, HZ.out, 0, 0, 0, 0, Blk.new _ _ _⟩))
    (· (obtain ⟨⟨HM, HW, HZ, d13, d0⟩, _⟩ := HB; refine zya ?_; rintro _ ⟨rfl, ev11⟩; refine zya ?_; rintro _ ⟨⟨g, rfl, hgl, a0, a1, a2, a3, hgb⟩, ev13⟩; refine zye ?_; obtain ⟨i0, i1, i2, i3, j0, j1, j2, j3⟩ := In4.of_blk hgb; (try simp only [zyp]); refine Iy.goI_yes rfl rfl fun K hK => ?_; (try simp only [zyp] at hK); go_wp2_with (first | fail); (have HS := Lib.hid (ins_store3 HM.out HW.out hgl hgb op (d : Int) (e : Int) imm); exact hK undef _ ⟨⟨⟨HS.out.1, HS.out.2.1, Nat.le_trans HZ.out (Nat.le_of_eq (by simp)), ins_cell3 HM.out hgb d13 .., ins_cell3 HM.out hgb d0 ..⟩, ptr_same ev13 HS.out.2.2⟩, Iy.vk_turn (by repeat (first | exact True.intro | refine And.intro (fun _ h => h) ?_ | refine And.intro (fun hne => absurd rfl hne) ?_ | refine And.intro (fun _ h => ins_keep hgb h) ?_))⟩ trivial)))
  intro vsf wf HF hdf
  refine zyv 14 0 1 ?_; rintro _ _ rfl; refine zyv 13 1 2 ?_; rintro _ _ rfl; refine zyv 12 2 3 ?_; rintro _ _ rfl; refine zyv 11 3 4 ?_; rintro _ _ rfl; refine zyv 10 4 5 ?_; rintro _ _ rfl; refine zyv 9 5 6 ?_; rintro _ _ rfl; refine zyv 8 6 7 ?_; rintro _ _ rfl; refine zyv 7 7 8 ?_; rintro _ _ rfl; refine zyv 6 8 9 ?_; rintro _ _ rfl; refine zyv 5 9 10 ?_; rintro _ _ rfl; refine zyv 4 10 11 ?_; rintro _ _ rfl; refine zyv 3 11 12 ?_; rintro _ _ rfl; refine zyv 2 12 13 ?_; rintro _ _ rfl; refine zyv 1 13 14 ?_; rintro _ ev13 ⟨g, rfl, hgl, a0, a1, a2, a3, hgb⟩; refine zyv 0 14 15 ?_; rintro _ _ _
  refine Ix.allV_nil ?_
  obtain ⟨⟨HM, HW, HZ, d13, d0⟩, hgf⟩ := HF; have gB : B ≤ g := (Nat.le_trans H.out.hi hgl); have HG := Lib.hid (hgf g ev13); clear hgf hgb d13 d0 c13 c0
  (try simp only [Act.put, List.setIfInBounds_toArray, List.set_cons_zero, List.set_cons_succ, List.drop_succ_cons, List.drop_zero])
  go_wp2_with (first | fail)
  refine Ix.only ?_
  have hgm : ¬ g = L.bb := HG.out.ne_ HM.out.blk (by decide)
  have hmg : ¬ L.bb = g := fun e => hgm e.symm
  obtain ⟨i0, i1, i2, i3, j0, j1, j2, j3⟩ := In4.of_blk HG.out
  obtain ⟨c13, f13⟩ := HM.out.at_ 13 (.int .i64 P) HE.out
  obtain ⟨c9, f9⟩ := HM.out.at_ 9 (.bool s.c) rfl
  obtain ⟨c10, f10⟩ := HM.out.at_ 10 (.bool s.z) rfl
  obtain ⟨c11, f11⟩ := HM.out.at_ 11 (.bool s.n) rfl
  obtain ⟨c12, f12⟩ := HM.out.at_ 12 (.bool s.v) rfl
  clear f9 f10 f11 f12
  go_upto_region 6 with (fail)
  have hd := HD.out
  have he := HE8.out
  have HA : Hid (Below wf.heap.size wf (wf.alloc (Obj.cells #[Value.bool s.c, Value.bool s.z, Value.bool s.n, Value.bool s.v] 25))) := Ext.alloc (Below.refl _ _) _
  have HGF : Hid (Blk (wf.alloc (Obj.cells #[Value.bool s.c, Value.bool s.z, Value.bool s.n, Value.bool s.v] 25)) wf.heap.size 25 #[Value.bool s.c, Value.bool s.z, Value.bool s.n, Value.bool s.v]) := Blk.new _ _ _
  replace HM := Lib.hid (HM.out.keep HA.out)
  replace HG := Lib.hid (HG.out.keep HA.out)
  replace HZ := Lib.hid (Nat.le_trans HZ.out HA.out.size)
  have HZF : Hid (w.heap.size ≤ wf.heap.size) := HW.out.size
  replace HW := Lib.hid (HW.out.below HA.out)
  clear HA i0 i1 i2 i3 j0 j1 j2 j3 c13 f13 c9 c10 c11 c12 hn0
  generalize (wf.alloc (Obj.cells #[Value.bool s.c, Value.bool s.z, Value.bool s.n, Value.bool s.v] 25)) = wa at *
  generalize wf.heap.size = gf at *
  have hfb : ¬ gf = L.bb := HGF.out.ne_ HM.out.blk (by decide)
  have hbf : ¬ L.bb = gf := fun e => hfb e.symm
  have hfg : ¬ gf = g := HGF.out.ne_ HG.out (by decide)
  have hgf : ¬ g = gf := fun e => hfg e.symm
  obtain ⟨i0, i1, i2, i3, j0, j1, j2, j3⟩ := In4.of_blk HG.out
  obtain ⟨q0, q1, q2, q3⟩ := bl4 HGF.out
  obtain ⟨c13, f13⟩ := HM.out.at_ 13 (.int .i64 P) HE.out
  obtain ⟨cd, fd⟩ := HM.out.reg d hd
  obtain ⟨ce, fe⟩ := HM.out.reg e he
  have hd1 : ¬ 1 + d = 13 := (by omega)
  clear ev13 hdf
  go_quiet (fail)
  replace HM := Lib.hid (HM.out.drewN nq)
  replace HG := Lib.hid (HG.out.drewN nq)
  replace HGF := Lib.hid (HGF.out.drewN nq)
  replace HW := Lib.hid (HW.out.drewN nq)
  replace HZ : Hid (w.heap.size ≤ (wa.drewN nq).heap.size) := HZ
  clear i0 i1 i2 i3 j0 j1 j2 j3 q0 q1 q2 q3 c13 f13 cd fd ce fe
  generalize (wa.drewN nq) = wb at *
  obtain ⟨i0, i1, i2, i3, j0, j1, j2, j3⟩ := In4.of_blk HG.out
  obtain ⟨q0, q1, q2, q3⟩ := bl4 HGF.out
  obtain ⟨c13, f13⟩ := HM.out.at_ 13 (.int .i64 P) HE.out
  replace HOP := HOP.out
  rcases HOP with rfl | rfl | rfl
  · have hrd : 0 ≤ s.r d ∧ s.r d < 65536 := HOK.out.1 d hd
    obtain ⟨Z, hZ⟩ : ∃ Z, Z = Mc.shX 16 (s.r d) s.c := ⟨_, rfl⟩
    obtain ⟨TB, hTB⟩ : ∃ b, b = bit (s.r d) 15 := ⟨_, rfl⟩
    obtain ⟨LB, hLB⟩ : ∃ b, b = bit (s.r d) 0 := ⟨_, rfl⟩
    have hZb : 0 ≤ Z ∧ Z < 65536 := by rw [hZ]; unfold Mc.shX; split <;> omega
    have hG : numD (fun j => if j = 15 then false else bit (s.r d) (j + 1)) 16 = Z := by rw [hZ]; exact Mc.shr_is 16 (s.r d) s.c _ (by decide) (by simp) hrd
    have CBI : Hid (∀ w1 : World, Calls Try.prog 68 #[.int .i64 (s.r d)] w1 fun e' w' => e' = .returned (.agg (bitsA (bit (s.r d)))) ∧ Below w1.heap.size w1 w') := fun w1 => bits_ok _ hrd.1 hrd.2 w1
    have CNU : Hid (∀ w1 : World, Calls Try.prog 69 #[.agg (bitsA (fun j => if j = 15 then false else bit (s.r d) (j + 1)))] w1 fun e' w' => e' = .returned (.int .i64 Z) ∧ Below w1.heap.size w1 w') := fun w1 => by rw [← hG]; exact number_ok _ w1
    have CPL : Hid (∀ w1 : World, Box3 w1 B L N ms s ov → Calls Try.prog 66 #[bP L, .int .i64 Z, .bool LB] w1 fun e' w' => e' = .returned (.int .i64 Z) ∧ Box3 w' B L N ms (Mc.fl s LB Z false) ov ∧ Frm3 L ov w1 w') := fun w1 h1 => plain3_p B L N ms s ov Z LB hZb w1 h1
    have HZ2 := Lib.hid hZ; have HTB := Lib.hid hTB; have HLB := Lib.hid hLB; have HRD := Lib.hid hrd
    clear hZ hTB hLB hrd hZb hG
    go_upto_region 53 with (first | (go_at_call 68; refine (CBI.out _).mono ?_; rintro e' w1 ⟨rfl, hb1⟩; have HB1 := Lib.hid hb1; have HR1 := Lib.hid (one_row (w2 := w1) (bit (s.r d)) _ rfl); clear hb1) | (refine wpList_store_row rfl 113 _ _ rfl w1.heap.size (bitsA (bit (s.r d))) rfl rfl 113 (bitsA (fun _ => false)) HR1.out.1 (by kernel_rfl) (by rw [bitsA_size, bitsA_size]) (bitsA_one _) ?_))
    generalize hw0 : World.setRow _ _ _ = w0
    have HXR : Hid (Blk w0 w1.heap.size 113 (bitsA (bit (s.r d)))) := by rw [← hw0]; exact HR1.out.2.1
    have HB0 : Hid (Below w1.heap.size w1 w0) := by rw [← hw0]; exact HR1.out.2.2
    replace HM := Lib.hid (HM.out.keep HB1.out)
    replace HG := Lib.hid (HG.out.keep HB1.out)
    replace HGF := Lib.hid (HGF.out.keep HB1.out)
    replace HW := Lib.hid (HW.out.below HB1.out)
    clear hw0 HR1 HB1 CBI i0 i1 i2 i3 j0 j1 j2 j3 q0 q1 q2 q3 c13 f13
    obtain ⟨ct, ft⟩ : w0.cell? ⟨w1.heap.size, 15, none⟩ = some (.bool TB) ∧ w0.frozen? ⟨w1.heap.size, 15, none⟩ = false := ⟨by rw [HXR.out.cell, bitsA_at _ 15 (by decide), HTB.out], HXR.out.frozen 15⟩
    obtain ⟨cl, fl⟩ : w0.cell? ⟨w1.heap.size, 0, none⟩ = some (.bool LB) ∧ w0.frozen? ⟨w1.heap.size, 0, none⟩ = false := ⟨by rw [HXR.out.cell, bitsA_at _ 0 (by decide), HLB.out], HXR.out.frozen 0⟩
    go_quiet (fail)
    clear ct ft cl fl
    go_wp2
    go_loopw [15] (fun i wr => ∃ k : Nat, k ≤ 15 ∧ i = .int .i64 (k : Int) ∧ Hid (Blk wr w1.heap.size 113 (bitsA (fun j => if j < k then bit (s.r d) (j + 1) else bit (s.r d) j))) ∧ Hid (Below w1.heap.size w1 wr)) (fun i _ => 15 - (intOf i).toNat)
    case atStart => exact ⟨0, by omega, rfl, (by
      rw [bitsA_congr (fun j => if j < 0 then bit (s.r d) (j + 1) else bit (s.r d) j) (bit (s.r d)) (fun j hj => if_neg (by omega))]
      exact HXR), below_drewN HB0.out _⟩
    case round =>
      obtain ⟨k, hk, rfl, hx, hbw⟩ := hrel
      by_cases hlt : k < 15
      · obtain ⟨BP, hBP⟩ : ∃ b, b = bit (s.r d) (k + 1) := ⟨_, rfl⟩
        have cp : wr.cell? ⟨w1.heap.size, k + 1, none⟩ = some (.bool BP) := by rw [hx.out.cell, bitsA_at _ (k + 1) (by omega), if_neg (by omega), hBP]
        have cq : wr.cell? ⟨w1.heap.size, k, none⟩ = some (.bool (bit (s.r d) k)) := by rw [hx.out.cell, bitsA_at _ k (by omega), if_neg (by omega)]
        have fq := hx.out.frozen k
        have hnext : Hid (Blk (wr.setCell ⟨w1.heap.size, k, none⟩ (.bool BP)) w1.heap.size 113 (bitsA (fun j => if j < k + 1 then bit (s.r d) (j + 1) else bit (s.r d) j))) := by
          have := hx.out.set_ k (.bool BP)
          rw [bitsA_set _ (fun j => if j < k + 1 then bit (s.r d) (j + 1) else bit (s.r d) j) k BP (by rw [if_pos (by omega), hBP]) (fun j hj => by
            by_cases h : j < k
            · rw [if_pos h, if_pos (by omega)]
            · rw [if_neg h, if_neg (by omega)])] at this
          exact this
        clear hBP hx HXR HB0
        go_wp2
        go_roundw
        case rel => exact ⟨k + 1, by omega, by go_num, hnext, Below.setCell hbw.out (p := ⟨w1.heap.size, k, none⟩) (Nat.le_refl _) _⟩
        case measure => (simp [intOf]; try omega)
      · have hk15 : k = 15 := by omega
        subst hk15
        obtain ⟨i0, i1, i2, i3, j0, j1, j2, j3⟩ := In4.of_blk (HG.out.keep hbw.out)
        obtain ⟨q0, q1, q2, q3⟩ := bl4 (HGF.out.keep hbw.out)
        have cx := hx.out.cell 15
        rw [bitsA_at _ 15 (by decide)] at cx
        have fx := hx.out.frozen 15
        have HX := Lib.hid hx.out; have HBW := Lib.hid hbw.out
        clear hx hbw HXR HB0
        go_upto_region 59 with (fail)
        have HXG : Hid (Blk (wr.setCell ⟨w1.heap.size, 15, none⟩ (.bool false)) w1.heap.size 113 (bitsA (fun j => if j = 15 then false else bit (s.r d) (j + 1)))) := by
          have := HX.out.set_ 15 (.bool false)
          rw [bitsA_set _ (fun j => if j = 15 then false else bit (s.r d) (j + 1)) 15 false (by rw [if_pos rfl]) (fun j hj => shr_row (s.r d) HRD.out _ j hj)] at this
          exact this
        have HBG : Hid (Below w1.heap.size w1 (wr.setCell ⟨w1.heap.size, 15, none⟩ (.bool false))) := Below.setCell HBW.out (p := ⟨w1.heap.size, 15, none⟩) (Nat.le_refl _) _
        replace HM := Lib.hid (HM.out.keep HBG.out)
        replace HG := Lib.hid (HG.out.keep HBG.out)
        replace HW := Lib.hid (HW.out.below HBG.out)
        have hgx : ¬ w1.heap.size = L.bb := HXG.out.ne_ HM.out.blk (by decide)
        clear HX HBW HBG i0 i1 i2 i3 j0 j1 j2 j3 q0 q1 q2 q3 cx fx
        generalize (wr.setCell ⟨w1.heap.size, 15, none⟩ (.bool false)) = w5 at *
        generalize w1.heap.size = gx at *
        apply Iy.wp_region 12 [7] (fun _ => []) (Ix.Rb) (fun n vs wi => (Hid (Frm3 L ov w wi) ∧ Hid (Blk wi g 43 #[.int .i64 16, .int .i64 (d : Int), .int .i64 (e : Int), .int .i64 imm]) ∧ Hid (Blk wi gx 113 (bitsA (fun j => if j = 15 then false else bit (s.r d) (j + 1))))) ∧ (match n with | 0 => Hid (Box3 wi B L N ms s ov) | _ + 1 => Hid (Box3 wi B L N ms (Mc.fl s LB Z false) ov))) (Iy.vp [(Iy.is _), (Iy.is _), (Iy.is _), (Iy.is _), (Iy.is (.agg (bitsA (fun j => if j = 15 then false else bit (s.r d) (j + 1))))), (Iy.is (.int .i64 Z)), (Iy.is _), (Iy.is (.int .i64 Z)), (Iy.is _), (Iy.is _), (Iy.is _), (Iy.is _)]) (fun _ => false) (by kernel_rfl) (by kernel_rfl) (by kernel_rfl) (by kernel_rfl) (by kernel_rfl) (fun _ _ _ _ _ h => h) (fun _ => Below.refl _ _) (fun n vs _ _ h hb => by cases n with | zero => exact ⟨⟨h.1.1.out.below hb, h.1.2.1.out.keep hb, h.1.2.2.out.keep hb⟩, h.2.out.keep hb⟩ | succ n => exact ⟨⟨h.1.1.out.below hb, h.1.2.1.out.keep hb, h.1.2.2.out.keep hb⟩, h.2.out.keep hb⟩) (fun _ _ => Iy.vp_keeps _ _ _ _) (Ix.not_al _) (fun vs => ⟨⟨HW.out.drew, HG.out.drew, HXG.out.drew⟩, HM.out.drew⟩)
        case step =>
          refine zys 11 0 1 [] (fun _ _ wi HB => ?_) <| zys 10 1 2 [] (fun _ _ wi HB => ?_) <| zys 9 2 3 [(1, some 326)] (fun _ _ wi HB => ?_) <| zys 8 3 4 [] (fun _ _ wi HB => ?_) <| zys 7 4 5 [] (fun _ _ wi HB => ?_) <| zys 6 5 6 [(4, some 329)] (fun _ _ wi HB => ?_) <| zys 5 6 7 [] (fun _ _ wi HB => ?_) <| zyc 4 7 8 0 [(3, some 328), (5, some 330), (6, some 331)] (fun vsp wi HB => ?_) <| zys 3 8 9 [(0, some 325)] (fun _ _ wi HB => ?_) <| zys 2 9 10 [(8, some 333)] (fun _ _ wi HB => ?_) <| zys 1 10 11 [(9, some 334)] (fun _ _ wi HB => ?_) <| zys 0 11 12 [(2, some 327), (10, some 335)] (fun _ _ wi HB => ?_) <| Iy.steps_nil
          iterate 2 (· ((repeat (refine zya ?_; rintro _ rfl)); refine zye ?_; (try simp only [zyp]); refine Iy.goI_yes rfl rfl fun K hK => ?_; (try simp only [zyp] at hK); go_wp2_with (first | fail); exact hK _ _ (Below.refl _ _) rfl))
          (· (obtain ⟨⟨HW, HG, HXG⟩, HM⟩ := HB; obtain ⟨i0, i1, i2, i3, j0, j1, j2, j3⟩ := In4.of_blk HG.out; (repeat (refine zya ?_; rintro _ rfl)); refine zye ?_; (try simp only [zyp]); refine Iy.goI_yes rfl rfl fun K hK => ?_; (try simp only [zyp] at hK); go_wp2_with (first | fail); exact hK _ _ (Below.refl _ _) rfl))
          (· ((repeat (refine zya ?_; rintro _ rfl)); refine zye ?_; (try simp only [zyp]); refine Iy.goI_yes rfl rfl fun K hK => ?_; (try simp only [zyp] at hK); go_wp2_with (first | fail); exact hK _ _ (Below.refl _ _) rfl))
          (· (obtain ⟨⟨HW, HG, HXG⟩, HM⟩ := HB; obtain ⟨i0, i1, i2, i3, j0, j1, j2, j3⟩ := In4.of_blk HG.out; (repeat (refine zya ?_; rintro _ rfl)); refine zye ?_; (try simp only [zyp]); refine Iy.goI_yes rfl rfl fun K hK => ?_; (try simp only [zyp] at hK); refine wp_load_row 113 _ rfl gx rfl 113 (bitsA (fun j => if j = 15 then false else bit (s.r d) (j + 1))) (0, 0) _ HXG.out Try.underlying113 rfl (by kernel_rfl) ?_; exact hK _ _ (Below.refl _ _) rfl))
          (· (obtain ⟨⟨HW, HG, HXG⟩, HM⟩ := HB; obtain ⟨i0, i1, i2, i3, j0, j1, j2, j3⟩ := In4.of_blk HG.out; (repeat (refine zya ?_; rintro _ rfl)); refine zye ?_; (try simp only [zyp]); refine Iy.goI_yes rfl rfl fun K hK => ?_; (try simp only [zyp] at hK); go_wp2_with (first | (go_at_call 69; refine (CNU.out _).mono ?_; rintro e' w1 ⟨rfl, hba⟩)); exact hK _ _ hba rfl))
          (· ((repeat (refine zya ?_; rintro _ rfl)); refine zye ?_; (try simp only [zyp]); refine Iy.goI_yes rfl rfl fun K hK => ?_; (try simp only [zyp] at hK); go_wp2_with (first | fail); exact hK _ _ (Below.refl _ _) rfl))
          (· (obtain ⟨⟨HW, HG, HXG⟩, HM⟩ := HB; obtain ⟨i0, i1, i2, i3, j0, j1, j2, j3⟩ := In4.of_blk HG.out; refine zya ?_; rintro _ ⟨rfl, ev3⟩; refine zya ?_; rintro _ ⟨rfl, ev5⟩; refine zya ?_; rintro _ ⟨rfl, ev6⟩; refine zye ?_; (try simp only [zyp]); refine Iy.goI_yes rfl rfl fun K hK => ?_; (try simp only [zyp] at hK); go_wp2_with (first | (go_at_call 66; refine (CPL.out _ HM.out).mono ?_; rintro e' w1 ⟨rfl, hmt, hbt⟩)); exact hK _ _ ⟨⟨⟨HW.out.trans hbt, HG.out.frm3 hbt HM.out hgm (by decide), HXG.out.frm3 hbt HM.out hgx (by decide)⟩, Lib.hid hmt⟩, fun _ _ h => h⟩ rfl))
          iterate 4 (· ((repeat (refine zya ?_; rintro _ rfl)); refine zye ?_; (try simp only [zyp]); refine Iy.goI_yes rfl rfl fun K hK => ?_; (try simp only [zyp] at hK); go_wp2_with (first | fail); exact hK _ _ (Below.refl _ _) rfl))
        intro vsf wf HF hdf
        refine zyv 11 0 1 ?_; rintro _ _ rfl; refine zyv 10 1 2 ?_; rintro _ _ rfl; refine zyv 9 2 3 ?_; rintro _ _ rfl; refine zyv 8 3 4 ?_; rintro _ _ rfl; refine zyv 7 4 5 ?_; rintro _ _ rfl; refine zyv 6 5 6 ?_; rintro _ _ rfl; refine zyv 5 6 7 ?_; rintro _ _ rfl; refine zyv 4 7 8 ?_; rintro _ _ rfl; refine zyv 3 8 9 ?_; rintro _ _ rfl; refine zyv 2 9 10 ?_; rintro _ _ rfl; refine zyv 1 10 11 ?_; rintro _ _ rfl; refine zyv 0 11 12 ?_; rintro _ _ rfl
        refine Ix.allV_nil ?_
        obtain ⟨⟨HW, HG, HXG⟩, HM⟩ := HF; obtain ⟨cd, fd⟩ := HM.out.reg d hd; obtain ⟨k13, l13⟩ := HM.out.at_ 13 (.int .i64 P) HE.out
        (try simp only [Act.put, List.setIfInBounds_toArray, List.set_cons_zero, List.set_cons_succ, List.drop_succ_cons, List.drop_zero])
        go_wp2_with (first | fail)
        refine Ix.only ?_
        go_wp2
        go_ret
        obtain rfl := HPP.out
        have HX := exec_sh inp 16 d e imm (s.pc + n) s (by decide)
        rw [HX]
        have HT : ({ Mc.sh 16 (s.r d) s with r := upd s.r d (Mc.shX 16 (s.r d) s.c) } : St) = { Mc.fl s LB Z false with r := upd s.r d Z } := by
          have hc : Mc.shC 16 (s.r d) = LB := (by show (s.r d % 2 == 1) = LB; rw [HLB.out, bit_low])
          show ({ Mc.fl s (Mc.shC 16 (s.r d)) (Mc.shX 16 (s.r d) s.c) false with r := upd s.r d (Mc.shX 16 (s.r d) s.c) } : St) = _
          rw [hc, HZ2.out]
        rw [HT]
        exact ⟨rfl, N, ov, by omega, (HM.out.setR d hd Z).setPc ((s.pc + n) % 65536), Frm3.cell (Frm3.cell HW.out rfl _) rfl _⟩
  · have hrd : 0 ≤ s.r d ∧ s.r d < 65536 := HOK.out.1 d hd
    obtain ⟨Z, hZ⟩ : ∃ Z, Z = Mc.shX 17 (s.r d) s.c := ⟨_, rfl⟩
    obtain ⟨TB, hTB⟩ : ∃ b, b = bit (s.r d) 15 := ⟨_, rfl⟩
    obtain ⟨LB, hLB⟩ : ∃ b, b = bit (s.r d) 0 := ⟨_, rfl⟩
    have hZb : 0 ≤ Z ∧ Z < 65536 := by rw [hZ]; unfold Mc.shX; split <;> omega
    have hG : numD (fun j => if j = 15 then TB else bit (s.r d) (j + 1)) 16 = Z := by rw [hZ]; exact Mc.shr_is 17 (s.r d) s.c _ (by decide) (by rw [← bit_top _ hrd, ← hTB]; simp) hrd
    have CBI : Hid (∀ w1 : World, Calls Try.prog 68 #[.int .i64 (s.r d)] w1 fun e' w' => e' = .returned (.agg (bitsA (bit (s.r d)))) ∧ Below w1.heap.size w1 w') := fun w1 => bits_ok _ hrd.1 hrd.2 w1
    have CNU : Hid (∀ w1 : World, Calls Try.prog 69 #[.agg (bitsA (fun j => if j = 15 then TB else bit (s.r d) (j + 1)))] w1 fun e' w' => e' = .returned (.int .i64 Z) ∧ Below w1.heap.size w1 w') := fun w1 => by rw [← hG]; exact number_ok _ w1
    have CPL : Hid (∀ w1 : World, Box3 w1 B L N ms s ov → Calls Try.prog 66 #[bP L, .int .i64 Z, .bool LB] w1 fun e' w' => e' = .returned (.int .i64 Z) ∧ Box3 w' B L N ms (Mc.fl s LB Z false) ov ∧ Frm3 L ov w1 w') := fun w1 h1 => plain3_p B L N ms s ov Z LB hZb w1 h1
    have HZ2 := Lib.hid hZ; have HTB := Lib.hid hTB; have HLB := Lib.hid hLB; have HRD := Lib.hid hrd
    clear hZ hTB hLB hrd hZb hG
    go_upto_region 53 with (first | (go_at_call 68; refine (CBI.out _).mono ?_; rintro e' w1 ⟨rfl, hb1⟩; have HB1 := Lib.hid hb1; have HR1 := Lib.hid (one_row (w2 := w1) (bit (s.r d)) _ rfl); clear hb1) | (refine wpList_store_row rfl 113 _ _ rfl w1.heap.size (bitsA (bit (s.r d))) rfl rfl 113 (bitsA (fun _ => false)) HR1.out.1 (by kernel_rfl) (by rw [bitsA_size, bitsA_size]) (bitsA_one _) ?_))
    generalize hw0 : World.setRow _ _ _ = w0
    have HXR : Hid (Blk w0 w1.heap.size 113 (bitsA (bit (s.r d)))) := by rw [← hw0]; exact HR1.out.2.1
    have HB0 : Hid (Below w1.heap.size w1 w0) := by rw [← hw0]; exact HR1.out.2.2
    replace HM := Lib.hid (HM.out.keep HB1.out)
    replace HG := Lib.hid (HG.out.keep HB1.out)
    replace HGF := Lib.hid (HGF.out.keep HB1.out)
    replace HW := Lib.hid (HW.out.below HB1.out)
    clear hw0 HR1 HB1 CBI i0 i1 i2 i3 j0 j1 j2 j3 q0 q1 q2 q3 c13 f13
    obtain ⟨ct, ft⟩ : w0.cell? ⟨w1.heap.size, 15, none⟩ = some (.bool TB) ∧ w0.frozen? ⟨w1.heap.size, 15, none⟩ = false := ⟨by rw [HXR.out.cell, bitsA_at _ 15 (by decide), HTB.out], HXR.out.frozen 15⟩
    obtain ⟨cl, fl⟩ : w0.cell? ⟨w1.heap.size, 0, none⟩ = some (.bool LB) ∧ w0.frozen? ⟨w1.heap.size, 0, none⟩ = false := ⟨by rw [HXR.out.cell, bitsA_at _ 0 (by decide), HLB.out], HXR.out.frozen 0⟩
    go_quiet (fail)
    clear ct ft cl fl
    go_wp2
    go_loopw [15] (fun i wr => ∃ k : Nat, k ≤ 15 ∧ i = .int .i64 (k : Int) ∧ Hid (Blk wr w1.heap.size 113 (bitsA (fun j => if j < k then bit (s.r d) (j + 1) else bit (s.r d) j))) ∧ Hid (Below w1.heap.size w1 wr)) (fun i _ => 15 - (intOf i).toNat)
    case atStart => exact ⟨0, by omega, rfl, (by
      rw [bitsA_congr (fun j => if j < 0 then bit (s.r d) (j + 1) else bit (s.r d) j) (bit (s.r d)) (fun j hj => if_neg (by omega))]
      exact HXR), below_drewN HB0.out _⟩
    case round =>
      obtain ⟨k, hk, rfl, hx, hbw⟩ := hrel
      by_cases hlt : k < 15
      · obtain ⟨BP, hBP⟩ : ∃ b, b = bit (s.r d) (k + 1) := ⟨_, rfl⟩
        have cp : wr.cell? ⟨w1.heap.size, k + 1, none⟩ = some (.bool BP) := by rw [hx.out.cell, bitsA_at _ (k + 1) (by omega), if_neg (by omega), hBP]
        have cq : wr.cell? ⟨w1.heap.size, k, none⟩ = some (.bool (bit (s.r d) k)) := by rw [hx.out.cell, bitsA_at _ k (by omega), if_neg (by omega)]
        have fq := hx.out.frozen k
        have hnext : Hid (Blk (wr.setCell ⟨w1.heap.size, k, none⟩ (.bool BP)) w1.heap.size 113 (bitsA (fun j => if j < k + 1 then bit (s.r d) (j + 1) else bit (s.r d) j))) := by
          have := hx.out.set_ k (.bool BP)
          rw [bitsA_set _ (fun j => if j < k + 1 then bit (s.r d) (j + 1) else bit (s.r d) j) k BP (by rw [if_pos (by omega), hBP]) (fun j hj => by
            by_cases h : j < k
            · rw [if_pos h, if_pos (by omega)]
            · rw [if_neg h, if_neg (by omega)])] at this
          exact this
        clear hBP hx HXR HB0
        go_wp2
        go_roundw
        case rel => exact ⟨k + 1, by omega, by go_num, hnext, Below.setCell hbw.out (p := ⟨w1.heap.size, k, none⟩) (Nat.le_refl _) _⟩
        case measure => (simp [intOf]; try omega)
      · have hk15 : k = 15 := by omega
        subst hk15
        obtain ⟨i0, i1, i2, i3, j0, j1, j2, j3⟩ := In4.of_blk (HG.out.keep hbw.out)
        obtain ⟨q0, q1, q2, q3⟩ := bl4 (HGF.out.keep hbw.out)
        have cx := hx.out.cell 15
        rw [bitsA_at _ 15 (by decide)] at cx
        have fx := hx.out.frozen 15
        have HX := Lib.hid hx.out; have HBW := Lib.hid hbw.out
        clear hx hbw HXR HB0
        cases TB
        · go_upto_region 59 with (fail)
          have HXG : Hid (Blk (wr.setCell ⟨w1.heap.size, 15, none⟩ (.bool false)) w1.heap.size 113 (bitsA (fun j => if j = 15 then false else bit (s.r d) (j + 1)))) := by
            have := HX.out.set_ 15 (.bool false)
            rw [bitsA_set _ (fun j => if j = 15 then false else bit (s.r d) (j + 1)) 15 false (by rw [if_pos rfl]) (fun j hj => shr_row (s.r d) HRD.out _ j hj)] at this
            exact this
          have HBG : Hid (Below w1.heap.size w1 (wr.setCell ⟨w1.heap.size, 15, none⟩ (.bool false))) := Below.setCell HBW.out (p := ⟨w1.heap.size, 15, none⟩) (Nat.le_refl _) _
          replace HM := Lib.hid (HM.out.keep HBG.out)
          replace HG := Lib.hid (HG.out.keep HBG.out)
          replace HW := Lib.hid (HW.out.below HBG.out)
          have hgx : ¬ w1.heap.size = L.bb := HXG.out.ne_ HM.out.blk (by decide)
          clear HX HBW HBG i0 i1 i2 i3 j0 j1 j2 j3 q0 q1 q2 q3 cx fx
          generalize (wr.setCell ⟨w1.heap.size, 15, none⟩ (.bool false)) = w5 at *
          generalize w1.heap.size = gx at *
          apply Iy.wp_region 12 [7] (fun _ => []) (Ix.Rb) (fun n vs wi => (Hid (Frm3 L ov w wi) ∧ Hid (Blk wi g 43 #[.int .i64 17, .int .i64 (d : Int), .int .i64 (e : Int), .int .i64 imm]) ∧ Hid (Blk wi gx 113 (bitsA (fun j => if j = 15 then false else bit (s.r d) (j + 1))))) ∧ (match n with | 0 => Hid (Box3 wi B L N ms s ov) | _ + 1 => Hid (Box3 wi B L N ms (Mc.fl s LB Z false) ov))) (Iy.vp [(Iy.is _), (Iy.is _), (Iy.is _), (Iy.is _), (Iy.is (.agg (bitsA (fun j => if j = 15 then false else bit (s.r d) (j + 1))))), (Iy.is (.int .i64 Z)), (Iy.is _), (Iy.is (.int .i64 Z)), (Iy.is _), (Iy.is _), (Iy.is _), (Iy.is _)]) (fun _ => false) (by kernel_rfl) (by kernel_rfl) (by kernel_rfl) (by kernel_rfl) (by kernel_rfl) (fun _ _ _ _ _ h => h) (fun _ => Below.refl _ _) (fun n vs _ _ h hb => by cases n with | zero => exact ⟨⟨h.1.1.out.below hb, h.1.2.1.out.keep hb, h.1.2.2.out.keep hb⟩, h.2.out.keep hb⟩ | succ n => exact ⟨⟨h.1.1.out.below hb, h.1.2.1.out.keep hb, h.1.2.2.out.keep hb⟩, h.2.out.keep hb⟩) (fun _ _ => Iy.vp_keeps _ _ _ _) (Ix.not_al _) (fun vs => ⟨⟨HW.out.drew, HG.out.drew, HXG.out.drew⟩, HM.out.drew⟩)
          case step =>
            refine zys 11 0 1 [] (fun _ _ wi HB => ?_) <| zys 10 1 2 [] (fun _ _ wi HB => ?_) <| zys 9 2 3 [(1, some 326)] (fun _ _ wi HB => ?_) <| zys 8 3 4 [] (fun _ _ wi HB => ?_) <| zys 7 4 5 [] (fun _ _ wi HB => ?_) <| zys 6 5 6 [(4, some 329)] (fun _ _ wi HB => ?_) <| zys 5 6 7 [] (fun _ _ wi HB => ?_) <| zyc 4 7 8 0 [(3, some 328), (5, some 330), (6, some 331)] (fun vsp wi HB => ?_) <| zys 3 8 9 [(0, some 325)] (fun _ _ wi HB => ?_) <| zys 2 9 10 [(8, some 333)] (fun _ _ wi HB => ?_) <| zys 1 10 11 [(9, some 334)] (fun _ _ wi HB => ?_) <| zys 0 11 12 [(2, some 327), (10, some 335)] (fun _ _ wi HB => ?_) <| Iy.steps_nil
            iterate 2 (· ((repeat (refine zya ?_; rintro _ rfl)); refine zye ?_; (try simp only [zyp]); refine Iy.goI_yes rfl rfl fun K hK => ?_; (try simp only [zyp] at hK); go_wp2_with (first | fail); exact hK _ _ (Below.refl _ _) rfl))
            (· (obtain ⟨⟨HW, HG, HXG⟩, HM⟩ := HB; obtain ⟨i0, i1, i2, i3, j0, j1, j2, j3⟩ := In4.of_blk HG.out; (repeat (refine zya ?_; rintro _ rfl)); refine zye ?_; (try simp only [zyp]); refine Iy.goI_yes rfl rfl fun K hK => ?_; (try simp only [zyp] at hK); go_wp2_with (first | fail); exact hK _ _ (Below.refl _ _) rfl))
            (· ((repeat (refine zya ?_; rintro _ rfl)); refine zye ?_; (try simp only [zyp]); refine Iy.goI_yes rfl rfl fun K hK => ?_; (try simp only [zyp] at hK); go_wp2_with (first | fail); exact hK _ _ (Below.refl _ _) rfl))
            (· (obtain ⟨⟨HW, HG, HXG⟩, HM⟩ := HB; obtain ⟨i0, i1, i2, i3, j0, j1, j2, j3⟩ := In4.of_blk HG.out; (repeat (refine zya ?_; rintro _ rfl)); refine zye ?_; (try simp only [zyp]); refine Iy.goI_yes rfl rfl fun K hK => ?_; (try simp only [zyp] at hK); refine wp_load_row 113 _ rfl gx rfl 113 (bitsA (fun j => if j = 15 then false else bit (s.r d) (j + 1))) (0, 0) _ HXG.out Try.underlying113 rfl (by kernel_rfl) ?_; exact hK _ _ (Below.refl _ _) rfl))
            (· (obtain ⟨⟨HW, HG, HXG⟩, HM⟩ := HB; obtain ⟨i0, i1, i2, i3, j0, j1, j2, j3⟩ := In4.of_blk HG.out; (repeat (refine zya ?_; rintro _ rfl)); refine zye ?_; (try simp only [zyp]); refine Iy.goI_yes rfl rfl fun K hK => ?_; (try simp only [zyp] at hK); go_wp2_with (first | (go_at_call 69; refine (CNU.out _).mono ?_; rintro e' w1 ⟨rfl, hba⟩)); exact hK _ _ hba rfl))
            (· ((repeat (refine zya ?_; rintro _ rfl)); refine zye ?_; (try simp only [zyp]); refine Iy.goI_yes rfl rfl fun K hK => ?_; (try simp only [zyp] at hK); go_wp2_with (first | fail); exact hK _ _ (Below.refl _ _) rfl))
            (· (obtain ⟨⟨HW, HG, HXG⟩, HM⟩ := HB; obtain ⟨i0, i1, i2, i3, j0, j1, j2, j3⟩ := In4.of_blk HG.out; refine zya ?_; rintro _ ⟨rfl, ev3⟩; refine zya ?_; rintro _ ⟨rfl, ev5⟩; refine zya ?_; rintro _ ⟨rfl, ev6⟩; refine zye ?_; (try simp only [zyp]); refine Iy.goI_yes rfl rfl fun K hK => ?_; (try simp only [zyp] at hK); go_wp2_with (first | (go_at_call 66; refine (CPL.out _ HM.out).mono ?_; rintro e' w1 ⟨rfl, hmt, hbt⟩)); exact hK _ _ ⟨⟨⟨HW.out.trans hbt, HG.out.frm3 hbt HM.out hgm (by decide), HXG.out.frm3 hbt HM.out hgx (by decide)⟩, Lib.hid hmt⟩, fun _ _ h => h⟩ rfl))
            iterate 4 (· ((repeat (refine zya ?_; rintro _ rfl)); refine zye ?_; (try simp only [zyp]); refine Iy.goI_yes rfl rfl fun K hK => ?_; (try simp only [zyp] at hK); go_wp2_with (first | fail); exact hK _ _ (Below.refl _ _) rfl))
          intro vsf wf HF hdf
          refine zyv 11 0 1 ?_; rintro _ _ rfl; refine zyv 10 1 2 ?_; rintro _ _ rfl; refine zyv 9 2 3 ?_; rintro _ _ rfl; refine zyv 8 3 4 ?_; rintro _ _ rfl; refine zyv 7 4 5 ?_; rintro _ _ rfl; refine zyv 6 5 6 ?_; rintro _ _ rfl; refine zyv 5 6 7 ?_; rintro _ _ rfl; refine zyv 4 7 8 ?_; rintro _ _ rfl; refine zyv 3 8 9 ?_; rintro _ _ rfl; refine zyv 2 9 10 ?_; rintro _ _ rfl; refine zyv 1 10 11 ?_; rintro _ _ rfl; refine zyv 0 11 12 ?_; rintro _ _ rfl
          refine Ix.allV_nil ?_
          obtain ⟨⟨HW, HG, HXG⟩, HM⟩ := HF; obtain ⟨cd, fd⟩ := HM.out.reg d hd; obtain ⟨k13, l13⟩ := HM.out.at_ 13 (.int .i64 P) HE.out
          (try simp only [Act.put, List.setIfInBounds_toArray, List.set_cons_zero, List.set_cons_succ, List.drop_succ_cons, List.drop_zero])
          go_wp2_with (first | fail)
          refine Ix.only ?_
          go_wp2
          go_ret
          obtain rfl := HPP.out
          have HX := exec_sh inp 17 d e imm (s.pc + n) s (by decide)
          rw [HX]
          have HT : ({ Mc.sh 17 (s.r d) s with r := upd s.r d (Mc.shX 17 (s.r d) s.c) } : St) = { Mc.fl s LB Z false with r := upd s.r d Z } := by
            have hc : Mc.shC 17 (s.r d) = LB := (by show (s.r d % 2 == 1) = LB; rw [HLB.out, bit_low])
            show ({ Mc.fl s (Mc.shC 17 (s.r d)) (Mc.shX 17 (s.r d) s.c) false with r := upd s.r d (Mc.shX 17 (s.r d) s.c) } : St) = _
            rw [hc, HZ2.out]
          rw [HT]
          exact ⟨rfl, N, ov, by omega, (HM.out.setR d hd Z).setPc ((s.pc + n) % 65536), Frm3.cell (Frm3.cell HW.out rfl _) rfl _⟩
        · go_upto_region 59 with (fail)
          have HXG : Hid (Blk (wr.setCell ⟨w1.heap.size, 15, none⟩ (.bool true)) w1.heap.size 113 (bitsA (fun j => if j = 15 then true else bit (s.r d) (j + 1)))) := by
            have := HX.out.set_ 15 (.bool true)
            rw [bitsA_set _ (fun j => if j = 15 then true else bit (s.r d) (j + 1)) 15 true (by rw [if_pos rfl]) (fun j hj => shr_row (s.r d) HRD.out _ j hj)] at this
            exact this
          have HBG : Hid (Below w1.heap.size w1 (wr.setCell ⟨w1.heap.size, 15, none⟩ (.bool true))) := Below.setCell HBW.out (p := ⟨w1.heap.size, 15, none⟩) (Nat.le_refl _) _
          replace HM := Lib.hid (HM.out.keep HBG.out)
          replace HG := Lib.hid (HG.out.keep HBG.out)
          replace HW := Lib.hid (HW.out.below HBG.out)
          have hgx : ¬ w1.heap.size = L.bb := HXG.out.ne_ HM.out.blk (by decide)
          clear HX HBW HBG i0 i1 i2 i3 j0 j1 j2 j3 q0 q1 q2 q3 cx fx
          generalize (wr.setCell ⟨w1.heap.size, 15, none⟩ (.bool true)) = w5 at *
          generalize w1.heap.size = gx at *
          apply Iy.wp_region 12 [7] (fun _ => []) (Ix.Rb) (fun n vs wi => (Hid (Frm3 L ov w wi) ∧ Hid (Blk wi g 43 #[.int .i64 17, .int .i64 (d : Int), .int .i64 (e : Int), .int .i64 imm]) ∧ Hid (Blk wi gx 113 (bitsA (fun j => if j = 15 then true else bit (s.r d) (j + 1))))) ∧ (match n with | 0 => Hid (Box3 wi B L N ms s ov) | _ + 1 => Hid (Box3 wi B L N ms (Mc.fl s LB Z false) ov))) (Iy.vp [(Iy.is _), (Iy.is _), (Iy.is _), (Iy.is _), (Iy.is (.agg (bitsA (fun j => if j = 15 then true else bit (s.r d) (j + 1))))), (Iy.is (.int .i64 Z)), (Iy.is _), (Iy.is (.int .i64 Z)), (Iy.is _), (Iy.is _), (Iy.is _), (Iy.is _)]) (fun _ => false) (by kernel_rfl) (by kernel_rfl) (by kernel_rfl) (by kernel_rfl) (by kernel_rfl) (fun _ _ _ _ _ h => h) (fun _ => Below.refl _ _) (fun n vs _ _ h hb => by cases n with | zero => exact ⟨⟨h.1.1.out.below hb, h.1.2.1.out.keep hb, h.1.2.2.out.keep hb⟩, h.2.out.keep hb⟩ | succ n => exact ⟨⟨h.1.1.out.below hb, h.1.2.1.out.keep hb, h.1.2.2.out.keep hb⟩, h.2.out.keep hb⟩) (fun _ _ => Iy.vp_keeps _ _ _ _) (Ix.not_al _) (fun vs => ⟨⟨HW.out.drew, HG.out.drew, HXG.out.drew⟩, HM.out.drew⟩)
          case step =>
            refine zys 11 0 1 [] (fun _ _ wi HB => ?_) <| zys 10 1 2 [] (fun _ _ wi HB => ?_) <| zys 9 2 3 [(1, some 326)] (fun _ _ wi HB => ?_) <| zys 8 3 4 [] (fun _ _ wi HB => ?_) <| zys 7 4 5 [] (fun _ _ wi HB => ?_) <| zys 6 5 6 [(4, some 329)] (fun _ _ wi HB => ?_) <| zys 5 6 7 [] (fun _ _ wi HB => ?_) <| zyc 4 7 8 0 [(3, some 328), (5, some 330), (6, some 331)] (fun vsp wi HB => ?_) <| zys 3 8 9 [(0, some 325)] (fun _ _ wi HB => ?_) <| zys 2 9 10 [(8, some 333)] (fun _ _ wi HB => ?_) <| zys 1 10 11 [(9, some 334)] (fun _ _ wi HB => ?_) <| zys 0 11 12 [(2, some 327), (10, some 335)] (fun _ _ wi HB => ?_) <| Iy.steps_nil
            iterate 2 (· ((repeat (refine zya ?_; rintro _ rfl)); refine zye ?_; (try simp only [zyp]); refine Iy.goI_yes rfl rfl fun K hK => ?_; (try simp only [zyp] at hK); go_wp2_with (first | fail); exact hK _ _ (Below.refl _ _) rfl))
            (· (obtain ⟨⟨HW, HG, HXG⟩, HM⟩ := HB; obtain ⟨i0, i1, i2, i3, j0, j1, j2, j3⟩ := In4.of_blk HG.out; (repeat (refine zya ?_; rintro _ rfl)); refine zye ?_; (try simp only [zyp]); refine Iy.goI_yes rfl rfl fun K hK => ?_; (try simp only [zyp] at hK); go_wp2_with (first | fail); exact hK _ _ (Below.refl _ _) rfl))
            (· ((repeat (refine zya ?_; rintro _ rfl)); refine zye ?_; (try simp only [zyp]); refine Iy.goI_yes rfl rfl fun K hK => ?_; (try simp only [zyp] at hK); go_wp2_with (first | fail); exact hK _ _ (Below.refl _ _) rfl))
            (· (obtain ⟨⟨HW, HG, HXG⟩, HM⟩ := HB; obtain ⟨i0, i1, i2, i3, j0, j1, j2, j3⟩ := In4.of_blk HG.out; (repeat (refine zya ?_; rintro _ rfl)); refine zye ?_; (try simp only [zyp]); refine Iy.goI_yes rfl rfl fun K hK => ?_; (try simp only [zyp] at hK); refine wp_load_row 113 _ rfl gx rfl 113 (bitsA (fun j => if j = 15 then true else bit (s.r d) (j + 1))) (0, 0) _ HXG.out Try.underlying113 rfl (by kernel_rfl) ?_; exact hK _ _ (Below.refl _ _) rfl))
            (· (obtain ⟨⟨HW, HG, HXG⟩, HM⟩ := HB; obtain ⟨i0, i1, i2, i3, j0, j1, j2, j3⟩ := In4.of_blk HG.out; (repeat (refine zya ?_; rintro _ rfl)); refine zye ?_; (try simp only [zyp]); refine Iy.goI_yes rfl rfl fun K hK => ?_; (try simp only [zyp] at hK); go_wp2_with (first | (go_at_call 69; refine (CNU.out _).mono ?_; rintro e' w1 ⟨rfl, hba⟩)); exact hK _ _ hba rfl))
            (· ((repeat (refine zya ?_; rintro _ rfl)); refine zye ?_; (try simp only [zyp]); refine Iy.goI_yes rfl rfl fun K hK => ?_; (try simp only [zyp] at hK); go_wp2_with (first | fail); exact hK _ _ (Below.refl _ _) rfl))
            (· (obtain ⟨⟨HW, HG, HXG⟩, HM⟩ := HB; obtain ⟨i0, i1, i2, i3, j0, j1, j2, j3⟩ := In4.of_blk HG.out; refine zya ?_; rintro _ ⟨rfl, ev3⟩; refine zya ?_; rintro _ ⟨rfl, ev5⟩; refine zya ?_; rintro _ ⟨rfl, ev6⟩; refine zye ?_; (try simp only [zyp]); refine Iy.goI_yes rfl rfl fun K hK => ?_; (try simp only [zyp] at hK); go_wp2_with (first | (go_at_call 66; refine (CPL.out _ HM.out).mono ?_; rintro e' w1 ⟨rfl, hmt, hbt⟩)); exact hK _ _ ⟨⟨⟨HW.out.trans hbt, HG.out.frm3 hbt HM.out hgm (by decide), HXG.out.frm3 hbt HM.out hgx (by decide)⟩, Lib.hid hmt⟩, fun _ _ h => h⟩ rfl))
            iterate 4 (· ((repeat (refine zya ?_; rintro _ rfl)); refine zye ?_; (try simp only [zyp]); refine Iy.goI_yes rfl rfl fun K hK => ?_; (try simp only [zyp] at hK); go_wp2_with (first | fail); exact hK _ _ (Below.refl _ _) rfl))
          intro vsf wf HF hdf
          refine zyv 11 0 1 ?_; rintro _ _ rfl; refine zyv 10 1 2 ?_; rintro _ _ rfl; refine zyv 9 2 3 ?_; rintro _ _ rfl; refine zyv 8 3 4 ?_; rintro _ _ rfl; refine zyv 7 4 5 ?_; rintro _ _ rfl; refine zyv 6 5 6 ?_; rintro _ _ rfl; refine zyv 5 6 7 ?_; rintro _ _ rfl; refine zyv 4 7 8 ?_; rintro _ _ rfl; refine zyv 3 8 9 ?_; rintro _ _ rfl; refine zyv 2 9 10 ?_; rintro _ _ rfl; refine zyv 1 10 11 ?_; rintro _ _ rfl; refine zyv 0 11 12 ?_; rintro _ _ rfl
          refine Ix.allV_nil ?_
          obtain ⟨⟨HW, HG, HXG⟩, HM⟩ := HF; obtain ⟨cd, fd⟩ := HM.out.reg d hd; obtain ⟨k13, l13⟩ := HM.out.at_ 13 (.int .i64 P) HE.out
          (try simp only [Act.put, List.setIfInBounds_toArray, List.set_cons_zero, List.set_cons_succ, List.drop_succ_cons, List.drop_zero])
          go_wp2_with (first | fail)
          refine Ix.only ?_
          go_wp2
          go_ret
          obtain rfl := HPP.out
          have HX := exec_sh inp 17 d e imm (s.pc + n) s (by decide)
          rw [HX]
          have HT : ({ Mc.sh 17 (s.r d) s with r := upd s.r d (Mc.shX 17 (s.r d) s.c) } : St) = { Mc.fl s LB Z false with r := upd s.r d Z } := by
            have hc : Mc.shC 17 (s.r d) = LB := (by show (s.r d % 2 == 1) = LB; rw [HLB.out, bit_low])
            show ({ Mc.fl s (Mc.shC 17 (s.r d)) (Mc.shX 17 (s.r d) s.c) false with r := upd s.r d (Mc.shX 17 (s.r d) s.c) } : St) = _
            rw [hc, HZ2.out]
          rw [HT]
          exact ⟨rfl, N, ov, by omega, (HM.out.setR d hd Z).setPc ((s.pc + n) % 65536), Frm3.cell (Frm3.cell HW.out rfl _) rfl _⟩
  · have hrd : 0 ≤ s.r d ∧ s.r d < 65536 := HOK.out.1 d hd
    obtain ⟨Z, hZ⟩ : ∃ Z, Z = Mc.shX 18 (s.r d) s.c := ⟨_, rfl⟩
    obtain ⟨TB, hTB⟩ : ∃ b, b = bit (s.r d) 15 := ⟨_, rfl⟩
    obtain ⟨LB, hLB⟩ : ∃ b, b = bit (s.r d) 0 := ⟨_, rfl⟩
    have hZb : 0 ≤ Z ∧ Z < 65536 := by rw [hZ]; unfold Mc.shX; split <;> omega
    have hG : numD (fun j => if j = 15 then s.c else bit (s.r d) (j + 1)) 16 = Z := by rw [hZ]; exact Mc.shr_is 18 (s.r d) s.c _ (by decide) (by simp) hrd
    have CBI : Hid (∀ w1 : World, Calls Try.prog 68 #[.int .i64 (s.r d)] w1 fun e' w' => e' = .returned (.agg (bitsA (bit (s.r d)))) ∧ Below w1.heap.size w1 w') := fun w1 => bits_ok _ hrd.1 hrd.2 w1
    have CNU : Hid (∀ w1 : World, Calls Try.prog 69 #[.agg (bitsA (fun j => if j = 15 then s.c else bit (s.r d) (j + 1)))] w1 fun e' w' => e' = .returned (.int .i64 Z) ∧ Below w1.heap.size w1 w') := fun w1 => by rw [← hG]; exact number_ok _ w1
    have CPL : Hid (∀ w1 : World, Box3 w1 B L N ms s ov → Calls Try.prog 66 #[bP L, .int .i64 Z, .bool LB] w1 fun e' w' => e' = .returned (.int .i64 Z) ∧ Box3 w' B L N ms (Mc.fl s LB Z false) ov ∧ Frm3 L ov w1 w') := fun w1 h1 => plain3_p B L N ms s ov Z LB hZb w1 h1
    have HZ2 := Lib.hid hZ; have HTB := Lib.hid hTB; have HLB := Lib.hid hLB; have HRD := Lib.hid hrd
    clear hZ hTB hLB hrd hZb hG
    go_upto_region 53 with (first | (go_at_call 68; refine (CBI.out _).mono ?_; rintro e' w1 ⟨rfl, hb1⟩; have HB1 := Lib.hid hb1; have HR1 := Lib.hid (one_row (w2 := w1) (bit (s.r d)) _ rfl); clear hb1) | (refine wpList_store_row rfl 113 _ _ rfl w1.heap.size (bitsA (bit (s.r d))) rfl rfl 113 (bitsA (fun _ => false)) HR1.out.1 (by kernel_rfl) (by rw [bitsA_size, bitsA_size]) (bitsA_one _) ?_))
    generalize hw0 : World.setRow _ _ _ = w0
    have HXR : Hid (Blk w0 w1.heap.size 113 (bitsA (bit (s.r d)))) := by rw [← hw0]; exact HR1.out.2.1
    have HB0 : Hid (Below w1.heap.size w1 w0) := by rw [← hw0]; exact HR1.out.2.2
    replace HM := Lib.hid (HM.out.keep HB1.out)
    replace HG := Lib.hid (HG.out.keep HB1.out)
    replace HGF := Lib.hid (HGF.out.keep HB1.out)
    replace HW := Lib.hid (HW.out.below HB1.out)
    clear hw0 HR1 HB1 CBI i0 i1 i2 i3 j0 j1 j2 j3 q0 q1 q2 q3 c13 f13
    obtain ⟨ct, ft⟩ : w0.cell? ⟨w1.heap.size, 15, none⟩ = some (.bool TB) ∧ w0.frozen? ⟨w1.heap.size, 15, none⟩ = false := ⟨by rw [HXR.out.cell, bitsA_at _ 15 (by decide), HTB.out], HXR.out.frozen 15⟩
    obtain ⟨cl, fl⟩ : w0.cell? ⟨w1.heap.size, 0, none⟩ = some (.bool LB) ∧ w0.frozen? ⟨w1.heap.size, 0, none⟩ = false := ⟨by rw [HXR.out.cell, bitsA_at _ 0 (by decide), HLB.out], HXR.out.frozen 0⟩
    go_quiet (fail)
    clear ct ft cl fl
    go_wp2
    go_loopw [15] (fun i wr => ∃ k : Nat, k ≤ 15 ∧ i = .int .i64 (k : Int) ∧ Hid (Blk wr w1.heap.size 113 (bitsA (fun j => if j < k then bit (s.r d) (j + 1) else bit (s.r d) j))) ∧ Hid (Below w1.heap.size w1 wr)) (fun i _ => 15 - (intOf i).toNat)
    case atStart => exact ⟨0, by omega, rfl, (by
      rw [bitsA_congr (fun j => if j < 0 then bit (s.r d) (j + 1) else bit (s.r d) j) (bit (s.r d)) (fun j hj => if_neg (by omega))]
      exact HXR), below_drewN HB0.out _⟩
    case round =>
      obtain ⟨k, hk, rfl, hx, hbw⟩ := hrel
      by_cases hlt : k < 15
      · obtain ⟨BP, hBP⟩ : ∃ b, b = bit (s.r d) (k + 1) := ⟨_, rfl⟩
        have cp : wr.cell? ⟨w1.heap.size, k + 1, none⟩ = some (.bool BP) := by rw [hx.out.cell, bitsA_at _ (k + 1) (by omega), if_neg (by omega), hBP]
        have cq : wr.cell? ⟨w1.heap.size, k, none⟩ = some (.bool (bit (s.r d) k)) := by rw [hx.out.cell, bitsA_at _ k (by omega), if_neg (by omega)]
        have fq := hx.out.frozen k
        have hnext : Hid (Blk (wr.setCell ⟨w1.heap.size, k, none⟩ (.bool BP)) w1.heap.size 113 (bitsA (fun j => if j < k + 1 then bit (s.r d) (j + 1) else bit (s.r d) j))) := by
          have := hx.out.set_ k (.bool BP)
          rw [bitsA_set _ (fun j => if j < k + 1 then bit (s.r d) (j + 1) else bit (s.r d) j) k BP (by rw [if_pos (by omega), hBP]) (fun j hj => by
            by_cases h : j < k
            · rw [if_pos h, if_pos (by omega)]
            · rw [if_neg h, if_neg (by omega)])] at this
          exact this
        clear hBP hx HXR HB0
        go_wp2
        go_roundw
        case rel => exact ⟨k + 1, by omega, by go_num, hnext, Below.setCell hbw.out (p := ⟨w1.heap.size, k, none⟩) (Nat.le_refl _) _⟩
        case measure => (simp [intOf]; try omega)
      · have hk15 : k = 15 := by omega
        subst hk15
        obtain ⟨i0, i1, i2, i3, j0, j1, j2, j3⟩ := In4.of_blk (HG.out.keep hbw.out)
        obtain ⟨q0, q1, q2, q3⟩ := bl4 (HGF.out.keep hbw.out)
        have cx := hx.out.cell 15
        rw [bitsA_at _ 15 (by decide)] at cx
        have fx := hx.out.frozen 15
        have HX := Lib.hid hx.out; have HBW := Lib.hid hbw.out
        clear hx hbw HXR HB0
        go_upto_region 59 with (fail)
        have HXG : Hid (Blk (wr.setCell ⟨w1.heap.size, 15, none⟩ (.bool s.c)) w1.heap.size 113 (bitsA (fun j => if j = 15 then s.c else bit (s.r d) (j + 1)))) := by
          have := HX.out.set_ 15 (.bool s.c)
          rw [bitsA_set _ (fun j => if j = 15 then s.c else bit (s.r d) (j + 1)) 15 s.c (by rw [if_pos rfl]) (fun j hj => shr_row (s.r d) HRD.out _ j hj)] at this
          exact this
        have HBG : Hid (Below w1.heap.size w1 (wr.setCell ⟨w1.heap.size, 15, none⟩ (.bool s.c))) := Below.setCell HBW.out (p := ⟨w1.heap.size, 15, none⟩) (Nat.le_refl _) _
        replace HM := Lib.hid (HM.out.keep HBG.out)
        replace HG := Lib.hid (HG.out.keep HBG.out)
        replace HW := Lib.hid (HW.out.below HBG.out)
        have hgx : ¬ w1.heap.size = L.bb := HXG.out.ne_ HM.out.blk (by decide)
        clear HX HBW HBG i0 i1 i2 i3 j0 j1 j2 j3 q0 q1 q2 q3 cx fx
        generalize (wr.setCell ⟨w1.heap.size, 15, none⟩ (.bool s.c)) = w5 at *
        generalize w1.heap.size = gx at *
        apply Iy.wp_region 12 [7] (fun _ => []) (Ix.Rb) (fun n vs wi => (Hid (Frm3 L ov w wi) ∧ Hid (Blk wi g 43 #[.int .i64 18, .int .i64 (d : Int), .int .i64 (e : Int), .int .i64 imm]) ∧ Hid (Blk wi gx 113 (bitsA (fun j => if j = 15 then s.c else bit (s.r d) (j + 1))))) ∧ (match n with | 0 => Hid (Box3 wi B L N ms s ov) | _ + 1 => Hid (Box3 wi B L N ms (Mc.fl s LB Z false) ov))) (Iy.vp [(Iy.is _), (Iy.is _), (Iy.is _), (Iy.is _), (Iy.is (.agg (bitsA (fun j => if j = 15 then s.c else bit (s.r d) (j + 1))))), (Iy.is (.int .i64 Z)), (Iy.is _), (Iy.is (.int .i64 Z)), (Iy.is _), (Iy.is _), (Iy.is _), (Iy.is _)]) (fun _ => false) (by kernel_rfl) (by kernel_rfl) (by kernel_rfl) (by kernel_rfl) (by kernel_rfl) (fun _ _ _ _ _ h => h) (fun _ => Below.refl _ _) (fun n vs _ _ h hb => by cases n with | zero => exact ⟨⟨h.1.1.out.below hb, h.1.2.1.out.keep hb, h.1.2.2.out.keep hb⟩, h.2.out.keep hb⟩ | succ n => exact ⟨⟨h.1.1.out.below hb, h.1.2.1.out.keep hb, h.1.2.2.out.keep hb⟩, h.2.out.keep hb⟩) (fun _ _ => Iy.vp_keeps _ _ _ _) (Ix.not_al _) (fun vs => ⟨⟨HW.out.drew, HG.out.drew, HXG.out.drew⟩, HM.out.drew⟩)
        case step =>
          refine zys 11 0 1 [] (fun _ _ wi HB => ?_) <| zys 10 1 2 [] (fun _ _ wi HB => ?_) <| zys 9 2 3 [(1, some 326)] (fun _ _ wi HB => ?_) <| zys 8 3 4 [] (fun _ _ wi HB => ?_) <| zys 7 4 5 [] (fun _ _ wi HB => ?_) <| zys 6 5 6 [(4, some 329)] (fun _ _ wi HB => ?_) <| zys 5 6 7 [] (fun _ _ wi HB => ?_) <| zyc 4 7 8 0 [(3, some 328), (5, some 330), (6, some 331)] (fun vsp wi HB => ?_) <| zys 3 8 9 [(0, some 325)] (fun _ _ wi HB => ?_) <| zys 2 9 10 [(8, some 333)] (fun _ _ wi HB => ?_) <| zys 1 10 11 [(9, some 334)] (fun _ _ wi HB => ?_) <| zys 0 11 12 [(2, some 327), (10, some 335)] (fun _ _ wi HB => ?_) <| Iy.steps_nil
          iterate 2 (· ((repeat (refine zya ?_; rintro _ rfl)); refine zye ?_; (try simp only [zyp]); refine Iy.goI_yes rfl rfl fun K hK => ?_; (try simp only [zyp] at hK); go_wp2_with (first | fail); exact hK _ _ (Below.refl _ _) rfl))
          (· (obtain ⟨⟨HW, HG, HXG⟩, HM⟩ := HB; obtain ⟨i0, i1, i2, i3, j0, j1, j2, j3⟩ := In4.of_blk HG.out; (repeat (refine zya ?_; rintro _ rfl)); refine zye ?_; (try simp only [zyp]); refine Iy.goI_yes rfl rfl fun K hK => ?_; (try simp only [zyp] at hK); go_wp2_with (first | fail); exact hK _ _ (Below.refl _ _) rfl))
          (· ((repeat (refine zya ?_; rintro _ rfl)); refine zye ?_; (try simp only [zyp]); refine Iy.goI_yes rfl rfl fun K hK => ?_; (try simp only [zyp] at hK); go_wp2_with (first | fail); exact hK _ _ (Below.refl _ _) rfl))
          (· (obtain ⟨⟨HW, HG, HXG⟩, HM⟩ := HB; obtain ⟨i0, i1, i2, i3, j0, j1, j2, j3⟩ := In4.of_blk HG.out; (repeat (refine zya ?_; rintro _ rfl)); refine zye ?_; (try simp only [zyp]); refine Iy.goI_yes rfl rfl fun K hK => ?_; (try simp only [zyp] at hK); refine wp_load_row 113 _ rfl gx rfl 113 (bitsA (fun j => if j = 15 then s.c else bit (s.r d) (j + 1))) (0, 0) _ HXG.out Try.underlying113 rfl (by kernel_rfl) ?_; exact hK _ _ (Below.refl _ _) rfl))
          (· (obtain ⟨⟨HW, HG, HXG⟩, HM⟩ := HB; obtain ⟨i0, i1, i2, i3, j0, j1, j2, j3⟩ := In4.of_blk HG.out; (repeat (refine zya ?_; rintro _ rfl)); refine zye ?_; (try simp only [zyp]); refine Iy.goI_yes rfl rfl fun K hK => ?_; (try simp only [zyp] at hK); go_wp2_with (first | (go_at_call 69; refine (CNU.out _).mono ?_; rintro e' w1 ⟨rfl, hba⟩)); exact hK _ _ hba rfl))
          (· ((repeat (refine zya ?_; rintro _ rfl)); refine zye ?_; (try simp only [zyp]); refine Iy.goI_yes rfl rfl fun K hK => ?_; (try simp only [zyp] at hK); go_wp2_with (first | fail); exact hK _ _ (Below.refl _ _) rfl))
          (· (obtain ⟨⟨HW, HG, HXG⟩, HM⟩ := HB; obtain ⟨i0, i1, i2, i3, j0, j1, j2, j3⟩ := In4.of_blk HG.out; refine zya ?_; rintro _ ⟨rfl, ev3⟩; refine zya ?_; rintro _ ⟨rfl, ev5⟩; refine zya ?_; rintro _ ⟨rfl, ev6⟩; refine zye ?_; (try simp only [zyp]); refine Iy.goI_yes rfl rfl fun K hK => ?_; (try simp only [zyp] at hK); go_wp2_with (first | (go_at_call 66; refine (CPL.out _ HM.out).mono ?_; rintro e' w1 ⟨rfl, hmt, hbt⟩)); exact hK _ _ ⟨⟨⟨HW.out.trans hbt, HG.out.frm3 hbt HM.out hgm (by decide), HXG.out.frm3 hbt HM.out hgx (by decide)⟩, Lib.hid hmt⟩, fun _ _ h => h⟩ rfl))
          iterate 4 (· ((repeat (refine zya ?_; rintro _ rfl)); refine zye ?_; (try simp only [zyp]); refine Iy.goI_yes rfl rfl fun K hK => ?_; (try simp only [zyp] at hK); go_wp2_with (first | fail); exact hK _ _ (Below.refl _ _) rfl))
        intro vsf wf HF hdf
        refine zyv 11 0 1 ?_; rintro _ _ rfl; refine zyv 10 1 2 ?_; rintro _ _ rfl; refine zyv 9 2 3 ?_; rintro _ _ rfl; refine zyv 8 3 4 ?_; rintro _ _ rfl; refine zyv 7 4 5 ?_; rintro _ _ rfl; refine zyv 6 5 6 ?_; rintro _ _ rfl; refine zyv 5 6 7 ?_; rintro _ _ rfl; refine zyv 4 7 8 ?_; rintro _ _ rfl; refine zyv 3 8 9 ?_; rintro _ _ rfl; refine zyv 2 9 10 ?_; rintro _ _ rfl; refine zyv 1 10 11 ?_; rintro _ _ rfl; refine zyv 0 11 12 ?_; rintro _ _ rfl
        refine Ix.allV_nil ?_
        obtain ⟨⟨HW, HG, HXG⟩, HM⟩ := HF; obtain ⟨cd, fd⟩ := HM.out.reg d hd; obtain ⟨k13, l13⟩ := HM.out.at_ 13 (.int .i64 P) HE.out
        (try simp only [Act.put, List.setIfInBounds_toArray, List.set_cons_zero, List.set_cons_succ, List.drop_succ_cons, List.drop_zero])
        go_wp2_with (first | fail)
        refine Ix.only ?_
        go_wp2
        go_ret
        obtain rfl := HPP.out
        have HX := exec_sh inp 18 d e imm (s.pc + n) s (by decide)
        rw [HX]
        have HT : ({ Mc.sh 18 (s.r d) s with r := upd s.r d (Mc.shX 18 (s.r d) s.c) } : St) = { Mc.fl s LB Z false with r := upd s.r d Z } := by
          have hc : Mc.shC 18 (s.r d) = LB := (by show (s.r d % 2 == 1) = LB; rw [HLB.out, bit_low])
          show ({ Mc.fl s (Mc.shC 18 (s.r d)) (Mc.shX 18 (s.r d) s.c) false with r := upd s.r d (Mc.shX 18 (s.r d) s.c) } : St) = _
          rw [hc, HZ2.out]
        rw [HT]
        exact ⟨rfl, N, ov, by omega, (HM.out.setR d hd Z).setPc ((s.pc + n) % 65536), Frm3.cell (Frm3.cell HW.out rfl _) rfl _⟩
end Go.Proofs.Ytfjgnhmmakeaeaa
