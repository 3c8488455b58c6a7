/- The machine: a step: two words -/
import Derived.Test.YtfjgnhmmakeaeaaPt2
import Derived.Test.YtfjgnhmmakeaeaaE11
namespace Go.Proofs.Ytfjgnhmmakeaeaa
open Go.RowKit
set_option linter.unusedVariables false
set_option linter.unusedSimpArgs false
set_option maxRecDepth 100000
open Mc
set_option maxHeartbeats 8000000 in
theorem step_two (B : Nat) (L : Lay) (s : St) (ov : Value) (inp : List Int) (op : Int) (D E imm n : Int) (d e : Nat) (hI : InsOk D E n imm d e) (hok : Mc.Ok s) (w : World) (hop : 5 ≤ op ∧ op ≤ 11) (h : Mach w B L s ov) (hcv : ∃ ca cn cc, L.cv = .slice ca cn cc)
    (CI : ∀ w1 : World, Below B w w1 → Calls Try.prog 42 #[L.cv, .int .i64 s.pc] w1 (OneR op D E imm n w1)) :
    Calls Try.prog 63 #[mP L] w (Did B L ov (Mc.exec inp op d e imm (s.pc + n) s) w) := by
  have HX : Mc.exec inp op d e imm (s.pc + n) s = (goOn { two op (s.r d) (s.r e) s with r := upd s.r d (twoR op (s.r d) (s.r e) s.c) } (s.pc + n), 0) := by exact exec_two inp op d e imm _ s hop
  rw [HX]; clear HX
  obtain ⟨⟨rfl, hd⟩, ⟨rfl, he⟩, hn, him0, him1⟩ := hI
  obtain ⟨P, hP⟩ : ∃ P, P = s.pc := ⟨_, rfl⟩
  have hPb := hok.2.1
  have c12e : (cells L s ov)[12]? = some (.int .i64 P) := by rw [hP]; rfl
  rw [← hP] at hPb CI
  have HPP := Lib.hid hP
  obtain ⟨c12, f12⟩ := h.at_ 12 (.int .i64 P) c12e
  obtain ⟨c14, f14⟩ := h.at_ 14 L.cv rfl
  obtain ⟨ca, cn, cc, hcve⟩ := hcv
  rw [hcve] at c14 CI
  have CI2 := Lib.hid CI
  have H := Lib.hid h
  have HOK := Lib.hid hok
  have HE := Lib.hid c12e
  clear h hP hcve CI hok c12e
  obtain ⟨hP0, hP1⟩ := hPb
  have HD := Lib.hid hd; have HE8 := Lib.hid he; have HN := Lib.hid hn
  have hn0 : (n == 0) = false := by simp; omega
  clear hd he
  have e0 : (op == 0) = false := by simp; omega
  have e32 : (op == 32) = false := by simp; omega
  have e1 : (op == 1) = false := by simp; omega
  have e2 : (op == 2) = false := by simp; omega
  have e3 : (op == 3) = false := by simp; omega
  have e4 : (op == 4) = false := by simp; omega
  have e12 : (op == 12) = false := by simp; omega
  have e13 : (op == 13) = false := by simp; omega
  have q5 : decide (op ≥ 5) = true := by simp; omega
  have q11 : decide (op ≤ 11) = true := by simp; omega
  have HOP := Lib.hid hop; clear hop
  go_enter Try.func63, Try.ntmps63
  go_wp2
  apply Iy.wp_region 15 [14] (fun n => if n = 0 then [] else [13]) (Ix.Rb) (fun n vs wi => (Hid (Mach wi B L s ov) ∧ Hid (Frm L ov w wi) ∧ Hid (w.heap.size ≤ wi.heap.size) ∧ wi.cell? ⟨L.mb, 12, none⟩ = some (.int .i64 P) ∧ wi.cell? ⟨L.mb, 14, none⟩ = some (.slice ca cn cc)) ∧ (match n with | 0 => True | _ + 1 => ∀ g, vs 13 = Value.pointer (some ⟨g, 0, none⟩) → Blk wi g 43 #[.int .i64 op, .int .i64 (d : Int), .int .i64 (e : Int), .int .i64 imm])) (Ix.vk [(Ix.kis _), (Ix.kis _), (Ix.kis _), (Ix.kis _), (Ix.kis _), (Ix.kis _), (Ix.kis _), (Ix.kis _), (Ix.kis _), (Ix.kis (.tuple #[insV op (d : Int) (e : Int) imm, .int .i64 n])), (Ix.kis _), (Ix.kis _), (Ix.kis _), (Ix.kwld (fun v w' => ∃ g, v = Value.pointer (some ⟨g, 0, none⟩) ∧ w.heap.size ≤ g ∧ ∃ a0 a1 a2 a3, Blk w' g 43 #[.int .i64 a0, .int .i64 a1, .int .i64 a2, .int .i64 a3]) (fun v w1 w2 h hb => by obtain ⟨g, e, hl, a0, a1, a2, a3, hi⟩ := h; exact ⟨g, e, hl, a0, a1, a2, a3, hi.keep hb⟩)), (Ix.ksat (fun _ => True))]) (fun k => k == 13) (by kernel_rfl) (by kernel_rfl) (by kernel_rfl) (by kernel_rfl) (by kernel_rfl) (fun n vs vs' w hk h => by cases n with | zero => exact h | succ n => exact ⟨h.1, fun g e => h.2 g ((hk 13 (by simp)).trans e)⟩) (fun _ => Below.refl _ _) (fun n vs _ _ h hb => ⟨⟨h.1.1.out.keep hb, h.1.2.1.out.below hb, Nat.le_trans h.1.2.2.1.out hb.size, by rw [(bcell hb).1 _ _ h.1.1.out.lt]; exact h.1.2.2.2.1, by rw [(bcell hb).1 _ _ h.1.1.out.lt]; exact h.1.2.2.2.2⟩, by cases n with | zero => trivial | succ n => exact fun g e => (h.2 g e).keep hb⟩) (Ix.vk_keeps _) (fun j v w hj hv => by simp only [beq_iff_eq] at hj; subst hj; obtain ⟨g, e, _, _, _, _, _, hg⟩ := hv; exact ⟨g, e, hg.lt⟩) (fun vs => ⟨⟨H.out.drew, Frm.drew (Frm.refl _ _ _), Nat.le_refl _, c12, c14⟩, trivial⟩)
  case step =>
    refine zys 14 0 1 [] (fun _ _ wi HB => ?_) <| zys 13 1 2 [(0, some 9)] (fun _ _ wi HB => ?_) <| zys 12 2 3 [(1, some 10)] (fun _ _ wi HB => ?_) <| zys 11 3 4 [(2, some 11)] (fun _ _ wi HB => ?_) <| zys 10 4 5 [] (fun _ _ wi HB => ?_) <| zys 9 5 6 [(4, some 13)] (fun _ _ wi HB => ?_) <| zys 8 6 7 [(5, some 14)] (fun _ _ wi HB => ?_) <| zys 7 7 8 [(6, some 15)] (fun _ _ wi HB => ?_) <| zys 6 8 9 [(7, some 16)] (fun _ _ wi HB => ?_) <| zys 5 9 10 [(3, some 12), (8, some 17)] (fun _ _ wi HB => ?_) <| zys 4 10 11 [(9, some 18)] (fun _ _ wi HB => ?_) <| zys 3 11 12 [(10, some 8)] (fun _ _ wi HB => ?_) <| zys 2 12 13 [(10, some 8)] (fun _ _ wi HB => ?_) <| zys 1 13 14 [] (fun _ _ wi HB => ?_) <| zyc 0 14 15 0 [(11, some 19), (13, some 3)] (fun vsp wi HB => ?_) <| Iy.steps_nil
    iterate 3 (· ((repeat (refine zya ?_; rintro _ rfl)); refine zye ?_; (try simp only [zyp]); refine Iy.goI_yes rfl rfl fun K hK => ?_; (try simp only [zyp] at hK); go_wp2_with (first | fail); exact hK _ _ (Below.refl _ _) rfl))
    (· (obtain ⟨⟨HM, HW, HZ, d12, d14⟩, _⟩ := HB; (repeat (refine zya ?_; rintro _ rfl)); refine zye ?_; (try simp only [zyp]); refine Iy.goI_yes rfl rfl fun K hK => ?_; (try simp only [zyp] at hK); go_wp2_with (first | fail); exact hK _ _ (Below.refl _ _) rfl))
    iterate 4 (· ((repeat (refine zya ?_; rintro _ rfl)); refine zye ?_; (try simp only [zyp]); refine Iy.goI_yes rfl rfl fun K hK => ?_; (try simp only [zyp] at hK); go_wp2_with (first | fail); exact hK _ _ (Below.refl _ _) rfl))
    (· (obtain ⟨⟨HM, HW, HZ, d12, d14⟩, _⟩ := HB; (repeat (refine zya ?_; rintro _ rfl)); refine zye ?_; (try simp only [zyp]); refine Iy.goI_yes rfl rfl fun K hK => ?_; (try simp only [zyp] at hK); go_wp2_with (first | fail); exact hK _ _ (Below.refl _ _) rfl))
    (· (obtain ⟨⟨HM, HW, HZ, d12, d14⟩, _⟩ := HB; (repeat (refine zya ?_; rintro _ rfl)); refine zye ?_; (try simp only [zyp]); refine Iy.goI_yes rfl rfl fun K hK => ?_; (try simp only [zyp] at hK); go_wp2_with (first | (go_at_call 42; refine (CI2.out _ (HW.out.to H.out)).mono ?_; rintro e w1 ⟨rfl, hba⟩)); exact hK _ _ hba rfl))
    iterate 3 (· ((repeat (refine zya ?_; rintro _ rfl)); refine zye ?_; (try simp only [zyp]); refine Iy.goI_yes rfl rfl fun K hK => ?_; (try simp only [zyp] at hK); go_wp2_with (first | fail); exact hK _ _ (Below.refl _ _) rfl))
    (· (obtain ⟨⟨HM, HW, HZ, d12, d14⟩, _⟩ := HB; (repeat (refine zya ?_; rintro _ rfl)); refine zye ?_; (try simp only [zyp]); refine Iy.goI_new rfl fun K hK => ?_; (try simp only [zyp] at hK); go_wp2_with (first | fail); exact hK _ (Ext.alloc (Below.refl _ _) _) ⟨_, rfl, HZ.out, 0, 0, 0, 0, Blk.new _ _ _⟩))
    (· (obtain ⟨⟨HM, HW, HZ, d12, d14⟩, _⟩ := HB; refine zya ?_; rintro _ ⟨rfl, ev11⟩; refine zya ?_; rintro _ ⟨⟨g, rfl, hgl, a0, a1, a2, a3, hgb⟩, ev13⟩; refine zye ?_; obtain ⟨i0, i1, i2, i3, j0, j1, j2, j3⟩ := In4.of_blk hgb; (try simp only [zyp]); refine Iy.goI_yes rfl rfl fun K hK => ?_; (try simp only [zyp] at hK); go_wp2_with (first | fail); (have HS := Lib.hid (ins_store HM.out HW.out hgl hgb op (d : Int) (e : Int) imm); exact hK undef _ ⟨⟨⟨HS.out.1, HS.out.2.1, Nat.le_trans HZ.out (Nat.le_of_eq (by simp)), ins_cell HM.out hgb d12 .., ins_cell HM.out hgb d14 ..⟩, ptr_same ev13 HS.out.2.2⟩, Iy.vk_turn (by repeat (first | exact True.intro | refine And.intro (fun _ h => h) ?_ | refine And.intro (fun hne => absurd rfl hne) ?_ | refine And.intro (fun _ h => ins_keep hgb h) ?_))⟩ trivial)))
  intro vsf wf HF hdf
  refine zyv 14 0 1 ?_; rintro _ _ rfl; refine zyv 13 1 2 ?_; rintro _ _ rfl; refine zyv 12 2 3 ?_; rintro _ _ rfl; refine zyv 11 3 4 ?_; rintro _ _ rfl; refine zyv 10 4 5 ?_; rintro _ _ rfl; refine zyv 9 5 6 ?_; rintro _ _ rfl; refine zyv 8 6 7 ?_; rintro _ _ rfl; refine zyv 7 7 8 ?_; rintro _ _ rfl; refine zyv 6 8 9 ?_; rintro _ _ rfl; refine zyv 5 9 10 ?_; rintro _ _ rfl; refine zyv 4 10 11 ?_; rintro _ _ rfl; refine zyv 3 11 12 ?_; rintro _ _ rfl; refine zyv 2 12 13 ?_; rintro _ _ rfl; refine zyv 1 13 14 ?_; rintro _ ev13 ⟨g, rfl, hgl, a0, a1, a2, a3, hgb⟩; refine zyv 0 14 15 ?_; rintro _ _ _
  refine Ix.allV_nil ?_
  obtain ⟨⟨HM, HW, HZ, d12, d14⟩, hgf⟩ := HF; have gB : B ≤ g := (Nat.le_trans H.out.hi hgl); have HG := Lib.hid (hgf g ev13); clear hgf hgb d12 d14 c12 c14
  (try simp only [Act.put, List.setIfInBounds_toArray, List.set_cons_zero, List.set_cons_succ, List.drop_succ_cons, List.drop_zero])
  go_wp2_with (first | fail)
  refine Ix.only ?_
  have hgm : ¬ g = L.mb := HG.out.ne_ HM.out.blk (by decide)
  have hmg : ¬ L.mb = g := fun e => hgm e.symm
  have HGN := Lib.hid (ins_far HG.out HM.out)
  obtain ⟨i0, i1, i2, i3, j0, j1, j2, j3⟩ := In4.of_blk HG.out
  obtain ⟨c12, f12⟩ := HM.out.at_ 12 (.int .i64 P) HE.out
  have hnx : bits .and .i64 (P + n) 65535 = (P + n) % 65536 := and65 _
  have hd := HD.out
  have he := HE8.out
  have d12 : ¬ d = 12 := (by omega)
  obtain ⟨⟨rd0, rd1⟩, re0, re1⟩ : (0 ≤ s.r d ∧ s.r d < 65536) ∧ (0 ≤ s.r e ∧ s.r e < 65536) := ⟨HOK.out.1 d hd, HOK.out.1 e he⟩
  obtain ⟨Z, hZ⟩ : ∃ Z, Z = Mc.twoR op (s.r d) (s.r e) s.c := ⟨_, rfl⟩
  have CTW : Hid (∀ w1 : World, Mach w1 B L s ov → Calls Try.prog 78 #[mP L, .int .i64 op, .int .i64 (s.r d), .int .i64 (s.r e)] w1 (Turn B L (Mc.two op (s.r d) (s.r e) s) ov (.int .i64 Z) w1)) := fun w1 h1 => by rw [hZ]; exact mtwo_ok B L s ov op _ _ (show W.I _ by unfold W.I; omega) (by have := HOP.out; omega) w1 h1
  have HZ2 := Lib.hid hZ
  clear hZ
  have HEP : Hid ((cells L (Mc.two op (s.r d) (s.r e) s) ov)[12]? = some (.int .i64 P)) := by show (cells L (Mc.two op (s.r d) (s.r e) s) ov)[12]? = _; rw [show (cells L (Mc.two op (s.r d) (s.r e) s) ov)[12]? = some (.int .i64 (Mc.two op (s.r d) (s.r e) s).pc) from rfl, two_pc, HPP.out]
  have HRR : Hid ((Mc.two op (s.r d) (s.r e) s).r = s.r) := two_r _ _ _ _
  go_wp2
  clear i0 i1 i2 i3 j0 j1 j2 j3 c12 f12
  apply Iy.wp_region 19 [17] (fun _ => []) (Ix.Rb) (fun n vs wi => (Hid (Frm L ov w wi) ∧ Hid (Blk wi g 43 #[.int .i64 op, .int .i64 (d : Int), .int .i64 (e : Int), .int .i64 imm]) ∧ Hid (Regs wi L s d e)) ∧ (match n with | 0 => Hid (Mach wi B L s ov) | _ + 1 => Hid (Mach wi B L (Mc.two op (s.r d) (s.r e) s) ov))) (Iy.vp [(Iy.is _), (Iy.is _), (Iy.is _), (Iy.is _), (Iy.is _), (Iy.is _), (Iy.is _), (Iy.is _), (Iy.is _), (Iy.is _), (Iy.is _), (Iy.is _), (Iy.is _), (Iy.is _), (Iy.is _), (Iy.is _), (Iy.is _), (Iy.is (.int .i64 Z)), (Iy.is _)]) (fun _ => false) (by kernel_rfl) (by kernel_rfl) (by kernel_rfl) (by kernel_rfl) (by kernel_rfl) (fun _ _ _ _ _ h => h) (fun _ => Below.refl _ _) (fun n vs _ _ h hb => by cases n with | zero => exact ⟨⟨h.1.1.out.below hb, h.1.2.1.out.keep hb, h.1.2.2.out.keep hb⟩, h.2.out.keep hb⟩ | succ n => exact ⟨⟨h.1.1.out.below hb, h.1.2.1.out.keep hb, h.1.2.2.out.keep hb⟩, h.2.out.keep hb⟩) (fun _ _ => Iy.vp_keeps _ _ _ _) (Ix.not_al _) (fun vs => ⟨⟨HW.out.drew, HG.out.drew, HM.out.drew.regs rfl hd he⟩, HM.out.drew⟩)
  case step =>
    refine zys 18 0 1 [] (fun _ _ wi HB => ?_) <| zys 17 1 2 [] (fun _ _ wi HB => ?_) <| zys 16 2 3 [(1, some 141)] (fun _ _ wi HB => ?_) <| zys 15 3 4 [] (fun _ _ wi HB => ?_) <| zys 14 4 5 [] (fun _ _ wi HB => ?_) <| zys 13 5 6 [] (fun _ _ wi HB => ?_) <| zys 12 6 7 [] (fun _ _ wi HB => ?_) <| zys 11 7 8 [(6, some 146)] (fun _ _ wi HB => ?_) <| zys 10 8 9 [(5, some 145)] (fun _ _ wi HB => ?_) <| zys 9 9 10 [(7, some 147), (8, some 148)] (fun _ _ wi HB => ?_) <| zys 8 10 11 [(9, some 149)] (fun _ _ wi HB => ?_) <| zys 7 11 12 [] (fun _ _ wi HB => ?_) <| zys 6 12 13 [] (fun _ _ wi HB => ?_) <| zys 5 13 14 [(12, some 152)] (fun _ _ wi HB => ?_) <| zys 4 14 15 [(11, some 151)] (fun _ _ wi HB => ?_) <| zys 3 15 16 [(13, some 153), (14, some 154)] (fun _ _ wi HB => ?_) <| zys 2 16 17 [(15, some 155)] (fun _ _ wi HB => ?_) <| zyc 1 17 18 0 [(3, some 143), (4, some 144), (10, some 150), (16, some 156)] (fun vsp wi HB => ?_) <| zys 0 18 19 [(0, some 140)] (fun _ _ wi HB => ?_) <| Iy.steps_nil
    iterate 2 (· ((repeat (refine zya ?_; rintro _ rfl)); refine zye ?_; (try simp only [zyp]); refine Iy.goI_yes rfl rfl fun K hK => ?_; (try simp only [zyp] at hK); go_wp2_with (first | fail); exact hK _ _ (Below.refl _ _) rfl))
    (· (obtain ⟨⟨HW, HG, HR⟩, HM⟩ := HB; obtain ⟨i0, i1, i2, i3, j0, j1, j2, j3⟩ := In4.of_blk HG.out; obtain ⟨⟨cd, fd⟩, ⟨ce, fe⟩, hml⟩ := HR.out; (repeat (refine zya ?_; rintro _ rfl)); refine zye ?_; (try simp only [zyp]); refine Iy.goI_yes rfl rfl fun K hK => ?_; (try simp only [zyp] at hK); go_wp2_with (first | fail); exact hK _ _ (Below.refl _ _) rfl))
    iterate 4 (· ((repeat (refine zya ?_; rintro _ rfl)); refine zye ?_; (try simp only [zyp]); refine Iy.goI_yes rfl rfl fun K hK => ?_; (try simp only [zyp] at hK); go_wp2_with (first | fail); exact hK _ _ (Below.refl _ _) rfl))
    (· (obtain ⟨⟨HW, HG, HR⟩, HM⟩ := HB; obtain ⟨i0, i1, i2, i3, j0, j1, j2, j3⟩ := In4.of_blk HG.out; obtain ⟨⟨cd, fd⟩, ⟨ce, fe⟩, hml⟩ := HR.out; (repeat (refine zya ?_; rintro _ rfl)); refine zye ?_; (try simp only [zyp]); refine Iy.goI_yes rfl rfl fun K hK => ?_; (try simp only [zyp] at hK); go_wp2_with (first | fail); exact hK _ _ (Below.refl _ _) rfl))
    iterate 2 (· ((repeat (refine zya ?_; rintro _ rfl)); refine zye ?_; (try simp only [zyp]); refine Iy.goI_yes rfl rfl fun K hK => ?_; (try simp only [zyp] at hK); go_wp2_with (first | fail); exact hK _ _ (Below.refl _ _) rfl))
    (· (obtain ⟨⟨HW, HG, HR⟩, HM⟩ := HB; obtain ⟨i0, i1, i2, i3, j0, j1, j2, j3⟩ := In4.of_blk HG.out; obtain ⟨⟨cd, fd⟩, ⟨ce, fe⟩, hml⟩ := HR.out; (repeat (refine zya ?_; rintro _ rfl)); refine zye ?_; (try simp only [zyp]); refine Iy.goI_yes rfl rfl fun K hK => ?_; (try simp only [zyp] at hK); go_wp2_with (first | fail); exact hK _ _ (Below.refl _ _) rfl))
    iterate 2 (· ((repeat (refine zya ?_; rintro _ rfl)); refine zye ?_; (try simp only [zyp]); refine Iy.goI_yes rfl rfl fun K hK => ?_; (try simp only [zyp] at hK); go_wp2_with (first | fail); exact hK _ _ (Below.refl _ _) rfl))
    (· (obtain ⟨⟨HW, HG, HR⟩, HM⟩ := HB; obtain ⟨i0, i1, i2, i3, j0, j1, j2, j3⟩ := In4.of_blk HG.out; obtain ⟨⟨cd, fd⟩, ⟨ce, fe⟩, hml⟩ := HR.out; (repeat (refine zya ?_; rintro _ rfl)); refine zye ?_; (try simp only [zyp]); refine Iy.goI_yes rfl rfl fun K hK => ?_; (try simp only [zyp] at hK); go_wp2_with (first | fail); exact hK _ _ (Below.refl _ _) rfl))
    iterate 2 (· ((repeat (refine zya ?_; rintro _ rfl)); refine zye ?_; (try simp only [zyp]); refine Iy.goI_yes rfl rfl fun K hK => ?_; (try simp only [zyp] at hK); go_wp2_with (first | fail); exact hK _ _ (Below.refl _ _) rfl))
    (· (obtain ⟨⟨HW, HG, HR⟩, HM⟩ := HB; obtain ⟨i0, i1, i2, i3, j0, j1, j2, j3⟩ := In4.of_blk HG.out; obtain ⟨⟨cd, fd⟩, ⟨ce, fe⟩, hml⟩ := HR.out; (repeat (refine zya ?_; rintro _ rfl)); refine zye ?_; (try simp only [zyp]); refine Iy.goI_yes rfl rfl fun K hK => ?_; (try simp only [zyp] at hK); go_wp2_with (first | fail); exact hK _ _ (Below.refl _ _) rfl))
    (· (obtain ⟨⟨HW, HG, HR⟩, HM⟩ := HB; obtain ⟨i0, i1, i2, i3, j0, j1, j2, j3⟩ := In4.of_blk HG.out; obtain ⟨⟨cd, fd⟩, ⟨ce, fe⟩, hml⟩ := HR.out; refine zya ?_; rintro _ ⟨rfl, ev3⟩; refine zya ?_; rintro _ ⟨rfl, ev4⟩; refine zya ?_; rintro _ ⟨rfl, ev10⟩; refine zya ?_; rintro _ ⟨rfl, ev16⟩; refine zye ?_; (try simp only [zyp]); refine Iy.goI_yes rfl rfl fun K hK => ?_; (try simp only [zyp] at hK); go_wp2_with (first | (go_at_call 78; refine (CTW.out _ HM.out).mono ?_; rintro e w1 ⟨rfl, hmt, hbt⟩; have HMT := Lib.hid hmt; clear hmt)); exact hK _ _ ⟨⟨⟨Frm.tch HW.out hbt, Mc.Blk_tch HG.out hbt HGN.out, (HMT.out.regs HRR.out hd he)⟩, HMT.out⟩, fun _ _ h => h⟩ rfl))
    (· ((repeat (refine zya ?_; rintro _ rfl)); refine zye ?_; (try simp only [zyp]); refine Iy.goI_yes rfl rfl fun K hK => ?_; (try simp only [zyp] at hK); go_wp2_with (first | fail); exact hK _ _ (Below.refl _ _) rfl))
  intro vsf wf HF hdf
  refine zyv 18 0 1 ?_; rintro _ _ rfl; refine zyv 17 1 2 ?_; rintro _ _ rfl; refine zyv 16 2 3 ?_; rintro _ _ rfl; refine zyv 15 3 4 ?_; rintro _ _ rfl; refine zyv 14 4 5 ?_; rintro _ _ rfl; refine zyv 13 5 6 ?_; rintro _ _ rfl; refine zyv 12 6 7 ?_; rintro _ _ rfl; refine zyv 11 7 8 ?_; rintro _ _ rfl; refine zyv 10 8 9 ?_; rintro _ _ rfl; refine zyv 9 9 10 ?_; rintro _ _ rfl; refine zyv 8 10 11 ?_; rintro _ _ rfl; refine zyv 7 11 12 ?_; rintro _ _ rfl; refine zyv 6 12 13 ?_; rintro _ _ rfl; refine zyv 5 13 14 ?_; rintro _ _ rfl; refine zyv 4 14 15 ?_; rintro _ _ rfl; refine zyv 3 15 16 ?_; rintro _ _ rfl; refine zyv 2 16 17 ?_; rintro _ _ rfl; refine zyv 1 17 18 ?_; rintro _ _ rfl; refine zyv 0 18 19 ?_; rintro _ _ rfl
  refine Ix.allV_nil ?_
  obtain ⟨⟨HW, HG, HR⟩, HM⟩ := HF; obtain ⟨⟨cd, fd⟩, ⟨ce, fe⟩, hml⟩ := HR.out; obtain ⟨c12, f12⟩ := HM.out.at_ 12 (.int .i64 P) HEP.out
  (try simp only [Act.put, List.setIfInBounds_toArray, List.set_cons_zero, List.set_cons_succ, List.drop_succ_cons, List.drop_zero])
  go_wp2_with (first | fail)
  refine Ix.only ?_
  go_wp2
  go_ret
  obtain rfl := HPP.out
  exact ⟨rfl, ov, by have hfin := (HM.out.setR d hd Z).setPc ((s.pc + n) % 65536); rw [two_r] at hfin; rw [← HZ2.out]; exact hfin, Frm.cell (Frm.cell (HW.out) (.inl rfl) _) (.inl rfl) _⟩
end Go.Proofs.Ytfjgnhmmakeaeaa
