/- The machine: a step: two words -/
import Derived.Test.YtfjgnhmmakeaeaaPt
import Derived.Test.YtfjgnhmmakeaeaaE11
namespace Go.Proofs.Ytfjgnhmmakeaeaa
open Go.RowKit
set_option linter.unusedVariables false
set_option linter.unusedSimpArgs false
set_option maxRecDepth 100000
open Mc
set_option maxHeartbeats 8000000 in
theorem step_two (B : Nat) (L : Lay) (s : St) (ov : Value) (inp : List Int) (op : Int) (D E imm n : Int) (d e : Nat) (hI : InsOk D E n imm d e) (hok : Mc.Ok s) (w : World) (hop : 5 ≤ op ∧ op ≤ 11) (h : Mach w B L s ov) (hcv : ∃ ca cn cc, L.cv = .slice ca cn cc)
    (CI : ∀ w1 : World, Below B w w1 → Calls Try.prog 42 #[L.cv, .int .i64 s.pc] w1 (OneR op D E imm n w1)) :
    Calls Try.prog 63 #[mP L] w (Did B L ov (Mc.exec inp op d e imm (s.pc + n) s) w) := by
  have HX : Mc.exec inp op d e imm (s.pc + n) s = (goOn { two op (s.r d) (s.r e) s with r := upd s.r d (twoR op (s.r d) (s.r e) s.c) } (s.pc + n), 0) := by exact exec_two inp op d e imm _ s hop
  rw [HX]; clear HX
  obtain ⟨⟨rfl, hd⟩, ⟨rfl, he⟩, hn, him0, him1⟩ := hI
  obtain ⟨P, hP⟩ : ∃ P, P = s.pc := ⟨_, rfl⟩
  have hPb := hok.2.1
  have c12e : (cells L s ov)[12]? = some (.int .i64 P) := by rw [hP]; rfl
  rw [← hP] at hPb CI
  have HPP := Lib.hid hP
  obtain ⟨c12, f12⟩ := h.at_ 12 (.int .i64 P) c12e
  obtain ⟨c14, f14⟩ := h.at_ 14 L.cv rfl
  obtain ⟨ca, cn, cc, hcve⟩ := hcv
  rw [hcve] at c14 CI
  have CI2 := Lib.hid CI
  have H := Lib.hid h
  have HOK := Lib.hid hok
  have HE := Lib.hid c12e
  clear h hP hcve CI hok c12e
  obtain ⟨hP0, hP1⟩ := hPb
  have HD := Lib.hid hd; have HE8 := Lib.hid he; have HN := Lib.hid hn
  have hn0 : (n == 0) = false := by simp; omega
  clear hd he
  have e0 : (op == 0) = false := by simp; omega
  have e32 : (op == 32) = false := by simp; omega
  have e1 : (op == 1) = false := by simp; omega
  have e2 : (op == 2) = false := by simp; omega
  have e3 : (op == 3) = false := by simp; omega
  have e4 : (op == 4) = false := by simp; omega
  have e12 : (op == 12) = false := by simp; omega
  have e13 : (op == 13) = false := by simp; omega
  have q5 : decide (op ≥ 5) = true := by simp; omega
  have q11 : decide (op ≤ 11) = true := by simp; omega
  have HOP := Lib.hid hop; clear hop
  go_enter Try.func63, Try.ntmps63
  go_wp2
  apply Iy.wp_region 15 [14] (fun n => if n = 0 then [] else [13]) (Ix.Rb) (fun n vs wi => (Hid (Mach wi B L s ov) ∧ Hid (Frm L ov w wi) ∧ Hid (w.heap.size ≤ wi.heap.size) ∧ wi.cell? ⟨L.mb, 12, none⟩ = some (.int .i64 P) ∧ wi.cell? ⟨L.mb, 14, none⟩ = some (.slice ca cn cc)) ∧ (match n with | 0 => True | _ + 1 => ∀ g, vs 13 = Value.pointer (some ⟨g, 0, none⟩) → Blk wi g 43 #[.int .i64 op, .int .i64 (d : Int), .int .i64 (e : Int), .int .i64 imm])) (Ix.vk [(Ix.kis _), (Ix.kis _), (Ix.kis _), (Ix.kis _), (Ix.kis _), (Ix.kis _), (Ix.kis _), (Ix.kis _), (Ix.kis _), (Ix.kis (.tuple #[insV op (d : Int) (e : Int) imm, .int .i64 n])), (Ix.kis _), (Ix.kis _), (Ix.kis _), (Ix.kwld (fun v w' => ∃ g, v = Value.pointer (some ⟨g, 0, none⟩) ∧ w.heap.size ≤ g ∧ ∃ a0 a1 a2 a3, Blk w' g 43 #[.int .i64 a0, .int .i64 a1, .int .i64 a2, .int .i64 a3]) (fun v w1 w2 h hb => by obtain ⟨g, e, hl, a0, a1, a2, a3, hi⟩ := h; exact ⟨g, e, hl, a0, a1, a2, a3, hi.keep hb⟩)), (Ix.ksat (fun _ => True))]) (fun k => k == 13) (by kernel_rfl) (by kernel_rfl) (by kernel_rfl) (by kernel_rfl) (by kernel_rfl) (fun n vs vs' w hk h => by cases n with | zero => exact h | succ n => exact ⟨h.1, fun g e => h.2 g ((hk 13 (by simp)).trans e)⟩) (fun _ => Below.refl _ _) (fun n vs _ _ h hb => ⟨⟨h.1.1.out.keep hb, h.1.2.1.out.below hb, Nat.le_trans h.1.2.2.1.out hb.size, by rw [(bcell hb).1 _ _ h.1.1.out.lt]; exact h.1.2.2.2.1, by rw [(bcell hb).1 _ _ h.1.1.out.lt]; exact h.1.2.2.2.2⟩, by cases n with | zero => trivial | succ n => exact fun g e => (h.2 g e).keep hb⟩) (Ix.vk_keeps _) (fun j v w hj hv => by simp only [beq_iff_eq] at hj; subst hj; obtain ⟨g, e, _, _, _, _, _, hg⟩ := hv; exact ⟨g, e, hg.lt⟩) (fun vs => ⟨⟨H.out.drew, Frm.drew (Frm.refl _ _ _), Nat.le_refl _, c12, c14⟩, trivial⟩)
  case step =>
    refine zzs 14 0 1 rfl rfl [] (by kernel_rfl) rfl (fun nph vsp wi HB => ?_) ?_
    (· (refine zze ?_; (try simp only [zzp]); refine Iy.goI_yes rfl rfl fun K hK => ?_; (try simp only [zzp] at hK); go_wp2_with (first | fail); exact hK _ _ (Below.refl _ _) rfl))
    refine zzs 13 1 2 rfl rfl [(0, some 9)] (by kernel_rfl) rfl (fun nph vsp wi HB => ?_) ?_
    (· (refine zza ?_; rintro _ rfl; refine zze ?_; (try simp only [zzp]); refine Iy.goI_yes rfl rfl fun K hK => ?_; (try simp only [zzp] at hK); go_wp2_with (first | fail); exact hK _ _ (Below.refl _ _) rfl))
    refine zzs 12 2 3 rfl rfl [(1, some 10)] (by kernel_rfl) rfl (fun nph vsp wi HB => ?_) ?_
    (· (refine zza ?_; rintro _ rfl; refine zze ?_; (try simp only [zzp]); refine Iy.goI_yes rfl rfl fun K hK => ?_; (try simp only [zzp] at hK); go_wp2_with (first | fail); exact hK _ _ (Below.refl _ _) rfl))
    refine zzs 11 3 4 rfl rfl [(2, some 11)] (by kernel_rfl) rfl (fun nph vsp wi HB => ?_) ?_
    (· (obtain ⟨⟨HM, HW, HZ, d12, d14⟩, _⟩ := HB; refine zza ?_; rintro _ rfl; refine zze ?_; (try simp only [zzp]); refine Iy.goI_yes rfl rfl fun K hK => ?_; (try simp only [zzp] at hK); go_wp2_with (first | fail); exact hK _ _ (Below.refl _ _) rfl))
    refine zzs 10 4 5 rfl rfl [] (by kernel_rfl) rfl (fun nph vsp wi HB => ?_) ?_
    (· (refine zze ?_; (try simp only [zzp]); refine Iy.goI_yes rfl rfl fun K hK => ?_; (try simp only [zzp] at hK); go_wp2_with (first | fail); exact hK _ _ (Below.refl _ _) rfl))
    refine zzs 9 5 6 rfl rfl [(4, some 13)] (by kernel_rfl) rfl (fun nph vsp wi HB => ?_) ?_
    (· (refine zza ?_; rintro _ rfl; refine zze ?_; (try simp only [zzp]); refine Iy.goI_yes rfl rfl fun K hK => ?_; (try simp only [zzp] at hK); go_wp2_with (first | fail); exact hK _ _ (Below.refl _ _) rfl))
    refine zzs 8 6 7 rfl rfl [(5, some 14)] (by kernel_rfl) rfl (fun nph vsp wi HB => ?_) ?_
    (· (refine zza ?_; rintro _ rfl; refine zze ?_; (try simp only [zzp]); refine Iy.goI_yes rfl rfl fun K hK => ?_; (try simp only [zzp] at hK); go_wp2_with (first | fail); exact hK _ _ (Below.refl _ _) rfl))
    refine zzs 7 7 8 rfl rfl [(6, some 15)] (by kernel_rfl) rfl (fun nph vsp wi HB => ?_) ?_
    (· (refine zza ?_; rintro _ rfl; refine zze ?_; (try simp only [zzp]); refine Iy.goI_yes rfl rfl fun K hK => ?_; (try simp only [zzp] at hK); go_wp2_with (first | fail); exact hK _ _ (Below.refl _ _) rfl))
    refine zzs 6 8 9 rfl rfl [(7, some 16)] (by kernel_rfl) rfl (fun nph vsp wi HB => ?_) ?_
    (· (obtain ⟨⟨HM, HW, HZ, d12, d14⟩, _⟩ := HB; refine zza ?_; rintro _ rfl; refine zze ?_; (try simp only [zzp]); refine Iy.goI_yes rfl rfl fun K hK => ?_; (try simp only [zzp] at hK); go_wp2_with (first | fail); exact hK _ _ (Below.refl _ _) rfl))
    refine zzs 5 9 10 rfl rfl [(3, some 12), (8, some 17)] (by kernel_rfl) rfl (fun nph vsp wi HB => ?_) ?_
    (· (obtain ⟨⟨HM, HW, HZ, d12, d14⟩, _⟩ := HB; refine zza ?_; rintro _ rfl; refine zza ?_; rintro _ rfl; refine zze ?_; (try simp only [zzp]); refine Iy.goI_yes rfl rfl fun K hK => ?_; (try simp only [zzp] at hK); go_wp2_with (first | (go_at_call 42; refine (CI2.out _ (HW.out.to H.out)).mono ?_; rintro e w1 ⟨rfl, hba⟩)); exact hK _ _ hba rfl))
    refine zzs 4 10 11 rfl rfl [(9, some 18)] (by kernel_rfl) rfl (fun nph vsp wi HB => ?_) ?_
    (· (refine zza ?_; rintro _ rfl; refine zze ?_; (try simp only [zzp]); refine Iy.goI_yes rfl rfl fun K hK => ?_; (try simp only [zzp] at hK); go_wp2_with (first | fail); exact hK _ _ (Below.refl _ _) rfl))
    refine zzs 3 11 12 rfl rfl [(10, some 8)] (by kernel_rfl) rfl (fun nph vsp wi HB => ?_) ?_
    (· (refine zza ?_; rintro _ rfl; refine zze ?_; (try simp only [zzp]); refine Iy.goI_yes rfl rfl fun K hK => ?_; (try simp only [zzp] at hK); go_wp2_with (first | fail); exact hK _ _ (Below.refl _ _) rfl))
    refine zzs 2 12 13 rfl rfl [(10, some 8)] (by kernel_rfl) rfl (fun nph vsp wi HB => ?_) ?_
    (· (refine zza ?_; rintro _ rfl; refine zze ?_; (try simp only [zzp]); refine Iy.goI_yes rfl rfl fun K hK => ?_; (try simp only [zzp] at hK); go_wp2_with (first | fail); exact hK _ _ (Below.refl _ _) rfl))
    refine zzs 1 13 14 rfl rfl [] (by kernel_rfl) rfl (fun nph vsp wi HB => ?_) ?_
    (· (obtain ⟨⟨HM, HW, HZ, d12, d14⟩, _⟩ := HB; refine zze ?_; (try simp only [zzp]); refine Iy.goI_new rfl fun K hK => ?_; (try simp only [zzp] at hK); go_wp2_with (first | fail); exact hK _ (Ext.alloc (Below.refl _ _) _) ⟨_, rfl, HZ.out, 0, 0, 0, 0, Blk.new _ _ _⟩))
    refine Iy.steps_cons (n := 0) (i := 14) (j := 15) rfl rfl (Iy.stepI_ofC 0 [(11, some 19), (13, some 3)] (by kernel_rfl) (by kernel_rfl) (fun vsp wi HB => ?_)) ?_
    (· (obtain ⟨⟨HM, HW, HZ, d12, d14⟩, _⟩ := HB; refine zza ?_; rintro _ ⟨rfl, ev11⟩; refine zza ?_; rintro _ ⟨⟨g, rfl, hgl, a0, a1, a2, a3, hgb⟩, ev13⟩; refine zze ?_; obtain ⟨i0, i1, i2, i3, j0, j1, j2, j3⟩ := In4.of_blk hgb; (try simp only [zzp]); refine Iy.goI_yes rfl rfl fun K hK => ?_; (try simp only [zzp] at hK); go_wp2_with (first | fail); (have HS := Lib.hid (ins_store HM.out HW.out hgl hgb op (d : Int) (e : Int) imm); exact hK undef _ ⟨⟨⟨HS.out.1, HS.out.2.1, Nat.le_trans HZ.out (Nat.le_of_eq (by simp)), ins_cell HM.out hgb d12 .., ins_cell HM.out hgb d14 ..⟩, ptr_same ev13 HS.out.2.2⟩, Iy.vk_turn (by repeat (first | exact True.intro | refine And.intro (fun _ h => h) ?_ | refine And.intro (fun hne => absurd rfl hne) ?_ | refine And.intro (fun _ h => ins_keep hgb h) ?_))⟩ trivial)))
    exact Iy.steps_nil
  intro vsf wf HF hdf
  refine zzv 14 0 1 rfl rfl ?_; rintro _ _ rfl; refine zzv 13 1 2 rfl rfl ?_; rintro _ _ rfl; refine zzv 12 2 3 rfl rfl ?_; rintro _ _ rfl; refine zzv 11 3 4 rfl rfl ?_; rintro _ _ rfl; refine zzv 10 4 5 rfl rfl ?_; rintro _ _ rfl; refine zzv 9 5 6 rfl rfl ?_; rintro _ _ rfl; refine zzv 8 6 7 rfl rfl ?_; rintro _ _ rfl; refine zzv 7 7 8 rfl rfl ?_; rintro _ _ rfl; refine zzv 6 8 9 rfl rfl ?_; rintro _ _ rfl; refine zzv 5 9 10 rfl rfl ?_; rintro _ _ rfl; refine zzv 4 10 11 rfl rfl ?_; rintro _ _ rfl; refine zzv 3 11 12 rfl rfl ?_; rintro _ _ rfl; refine zzv 2 12 13 rfl rfl ?_; rintro _ _ rfl; refine zzv 1 13 14 rfl rfl ?_; rintro _ ev13 ⟨g, rfl, hgl, a0, a1, a2, a3, hgb⟩; refine zzv 0 14 15 rfl rfl ?_; rintro _ _ _
  refine Ix.allV_nil ?_
  obtain ⟨⟨HM, HW, HZ, d12, d14⟩, hgf⟩ := HF; have gB : B ≤ g := (Nat.le_trans H.out.hi hgl); have HG := Lib.hid (hgf g ev13); clear hgf hgb d12 d14 c12 c14
  (try simp only [Act.put, List.setIfInBounds_toArray, List.set_cons_zero, List.set_cons_succ, List.drop_succ_cons, List.drop_zero])
  go_wp2_with (first | fail)
  refine Ix.only ?_
  have hgm : ¬ g = L.mb := HG.out.ne_ HM.out.blk (by decide)
  have hmg : ¬ L.mb = g := fun e => hgm e.symm
  have HGN := Lib.hid (ins_far HG.out HM.out)
  obtain ⟨i0, i1, i2, i3, j0, j1, j2, j3⟩ := In4.of_blk HG.out
  obtain ⟨c12, f12⟩ := HM.out.at_ 12 (.int .i64 P) HE.out
  have hnx : bits .and .i64 (P + n) 65535 = (P + n) % 65536 := and65 _
  have hd := HD.out
  have he := HE8.out
  have d12 : ¬ d = 12 := (by omega)
  obtain ⟨⟨rd0, rd1⟩, re0, re1⟩ : (0 ≤ s.r d ∧ s.r d < 65536) ∧ (0 ≤ s.r e ∧ s.r e < 65536) := ⟨HOK.out.1 d hd, HOK.out.1 e he⟩
  obtain ⟨Z, hZ⟩ : ∃ Z, Z = Mc.twoR op (s.r d) (s.r e) s.c := ⟨_, rfl⟩
  have CTW : Hid (∀ w1 : World, Mach w1 B L s ov → Calls Try.prog 78 #[mP L, .int .i64 op, .int .i64 (s.r d), .int .i64 (s.r e)] w1 (Turn B L (Mc.two op (s.r d) (s.r e) s) ov (.int .i64 Z) w1)) := fun w1 h1 => by rw [hZ]; exact mtwo_ok B L s ov op _ _ (show W.I _ by unfold W.I; omega) (by have := HOP.out; omega) w1 h1
  have HZ2 := Lib.hid hZ
  clear hZ
  have HEP : Hid ((cells L (Mc.two op (s.r d) (s.r e) s) ov)[12]? = some (.int .i64 P)) := by show (cells L (Mc.two op (s.r d) (s.r e) s) ov)[12]? = _; rw [show (cells L (Mc.two op (s.r d) (s.r e) s) ov)[12]? = some (.int .i64 (Mc.two op (s.r d) (s.r e) s).pc) from rfl, two_pc, HPP.out]
  have HRR : Hid ((Mc.two op (s.r d) (s.r e) s).r = s.r) := two_r _ _ _ _
  go_wp2
  clear i0 i1 i2 i3 j0 j1 j2 j3 c12 f12
  apply Iy.wp_region 19 [17] (fun _ => []) (Ix.Rb) (fun n vs wi => (Hid (Frm L ov w wi) ∧ Hid (Blk wi g 43 #[.int .i64 op, .int .i64 (d : Int), .int .i64 (e : Int), .int .i64 imm]) ∧ Hid (Regs wi L s d e)) ∧ (match n with | 0 => Hid (Mach wi B L s ov) | _ + 1 => Hid (Mach wi B L (Mc.two op (s.r d) (s.r e) s) ov))) (Iy.vp [(Iy.is _), (Iy.is _), (Iy.is _), (Iy.is _), (Iy.is _), (Iy.is _), (Iy.is _), (Iy.is _), (Iy.is _), (Iy.is _), (Iy.is _), (Iy.is _), (Iy.is _), (Iy.is _), (Iy.is _), (Iy.is _), (Iy.is _), (Iy.is (.int .i64 Z)), (Iy.is _)]) (fun _ => false) (by kernel_rfl) (by kernel_rfl) (by kernel_rfl) (by kernel_rfl) (by kernel_rfl) (fun _ _ _ _ _ h => h) (fun _ => Below.refl _ _) (fun n vs _ _ h hb => by cases n with | zero => exact ⟨⟨h.1.1.out.below hb, h.1.2.1.out.keep hb, h.1.2.2.out.keep hb⟩, h.2.out.keep hb⟩ | succ n => exact ⟨⟨h.1.1.out.below hb, h.1.2.1.out.keep hb, h.1.2.2.out.keep hb⟩, h.2.out.keep hb⟩) (fun _ _ => Iy.vp_keeps _ _ _ _) (Ix.not_al _) (fun vs => ⟨⟨HW.out.drew, HG.out.drew, HM.out.drew.regs rfl hd he⟩, HM.out.drew⟩)
  case step =>
    refine zzs 18 0 1 rfl rfl [] (by kernel_rfl) rfl (fun nph vsp wi HB => ?_) ?_
    (· (refine zze ?_; (try simp only [zzp]); refine Iy.goI_yes rfl rfl fun K hK => ?_; (try simp only [zzp] at hK); go_wp2_with (first | fail); exact hK _ _ (Below.refl _ _) rfl))
    refine zzs 17 1 2 rfl rfl [] (by kernel_rfl) rfl (fun nph vsp wi HB => ?_) ?_
    (· (refine zze ?_; (try simp only [zzp]); refine Iy.goI_yes rfl rfl fun K hK => ?_; (try simp only [zzp] at hK); go_wp2_with (first | fail); exact hK _ _ (Below.refl _ _) rfl))
    refine zzs 16 2 3 rfl rfl [(1, some 141)] (by kernel_rfl) rfl (fun nph vsp wi HB => ?_) ?_
    (· (obtain ⟨⟨HW, HG, HR⟩, HM⟩ := HB; obtain ⟨i0, i1, i2, i3, j0, j1, j2, j3⟩ := In4.of_blk HG.out; obtain ⟨⟨cd, fd⟩, ⟨ce, fe⟩, hml⟩ := HR.out; refine zza ?_; rintro _ rfl; refine zze ?_; (try simp only [zzp]); refine Iy.goI_yes rfl rfl fun K hK => ?_; (try simp only [zzp] at hK); go_wp2_with (first | fail); exact hK _ _ (Below.refl _ _) rfl))
    refine zzs 15 3 4 rfl rfl [] (by kernel_rfl) rfl (fun nph vsp wi HB => ?_) ?_
    (· (refine zze ?_; (try simp only [zzp]); refine Iy.goI_yes rfl rfl fun K hK => ?_; (try simp only [zzp] at hK); go_wp2_with (first | fail); exact hK _ _ (Below.refl _ _) rfl))
    refine zzs 14 4 5 rfl rfl [] (by kernel_rfl) rfl (fun nph vsp wi HB => ?_) ?_
    (· (refine zze ?_; (try simp only [zzp]); refine Iy.goI_yes rfl rfl fun K hK => ?_; (try simp only [zzp] at hK); go_wp2_with (first | fail); exact hK _ _ (Below.refl _ _) rfl))
    refine zzs 13 5 6 rfl rfl [] (by kernel_rfl) rfl (fun nph vsp wi HB => ?_) ?_
    (· (refine zze ?_; (try simp only [zzp]); refine Iy.goI_yes rfl rfl fun K hK => ?_; (try simp only [zzp] at hK); go_wp2_with (first | fail); exact hK _ _ (Below.refl _ _) rfl))
    refine zzs 12 6 7 rfl rfl [] (by kernel_rfl) rfl (fun nph vsp wi HB => ?_) ?_
    (· (refine zze ?_; (try simp only [zzp]); refine Iy.goI_yes rfl rfl fun K hK => ?_; (try simp only [zzp] at hK); go_wp2_with (first | fail); exact hK _ _ (Below.refl _ _) rfl))
    refine zzs 11 7 8 rfl rfl [(6, some 146)] (by kernel_rfl) rfl (fun nph vsp wi HB => ?_) ?_
    (· (obtain ⟨⟨HW, HG, HR⟩, HM⟩ := HB; obtain ⟨i0, i1, i2, i3, j0, j1, j2, j3⟩ := In4.of_blk HG.out; obtain ⟨⟨cd, fd⟩, ⟨ce, fe⟩, hml⟩ := HR.out; refine zza ?_; rintro _ rfl; refine zze ?_; (try simp only [zzp]); refine Iy.goI_yes rfl rfl fun K hK => ?_; (try simp only [zzp] at hK); go_wp2_with (first | fail); exact hK _ _ (Below.refl _ _) rfl))
    refine zzs 10 8 9 rfl rfl [(5, some 145)] (by kernel_rfl) rfl (fun nph vsp wi HB => ?_) ?_
    (· (refine zza ?_; rintro _ rfl; refine zze ?_; (try simp only [zzp]); refine Iy.goI_yes rfl rfl fun K hK => ?_; (try simp only [zzp] at hK); go_wp2_with (first | fail); exact hK _ _ (Below.refl _ _) rfl))
    refine zzs 9 9 10 rfl rfl [(7, some 147), (8, some 148)] (by kernel_rfl) rfl (fun nph vsp wi HB => ?_) ?_
    (· (refine zza ?_; rintro _ rfl; refine zza ?_; rintro _ rfl; refine zze ?_; (try simp only [zzp]); refine Iy.goI_yes rfl rfl fun K hK => ?_; (try simp only [zzp] at hK); go_wp2_with (first | fail); exact hK _ _ (Below.refl _ _) rfl))
    refine zzs 8 10 11 rfl rfl [(9, some 149)] (by kernel_rfl) rfl (fun nph vsp wi HB => ?_) ?_
    (· (obtain ⟨⟨HW, HG, HR⟩, HM⟩ := HB; obtain ⟨i0, i1, i2, i3, j0, j1, j2, j3⟩ := In4.of_blk HG.out; obtain ⟨⟨cd, fd⟩, ⟨ce, fe⟩, hml⟩ := HR.out; refine zza ?_; rintro _ rfl; refine zze ?_; (try simp only [zzp]); refine Iy.goI_yes rfl rfl fun K hK => ?_; (try simp only [zzp] at hK); go_wp2_with (first | fail); exact hK _ _ (Below.refl _ _) rfl))
    refine zzs 7 11 12 rfl rfl [] (by kernel_rfl) rfl (fun nph vsp wi HB => ?_) ?_
    (· (refine zze ?_; (try simp only [zzp]); refine Iy.goI_yes rfl rfl fun K hK => ?_; (try simp only [zzp] at hK); go_wp2_with (first | fail); exact hK _ _ (Below.refl _ _) rfl))
    refine zzs 6 12 13 rfl rfl [] (by kernel_rfl) rfl (fun nph vsp wi HB => ?_) ?_
    (· (refine zze ?_; (try simp only [zzp]); refine Iy.goI_yes rfl rfl fun K hK => ?_; (try simp only [zzp] at hK); go_wp2_with (first | fail); exact hK _ _ (Below.refl _ _) rfl))
    refine zzs 5 13 14 rfl rfl [(12, some 152)] (by kernel_rfl) rfl (fun nph vsp wi HB => ?_) ?_
    (· (obtain ⟨⟨HW, HG, HR⟩, HM⟩ := HB; obtain ⟨i0, i1, i2, i3, j0, j1, j2, j3⟩ := In4.of_blk HG.out; obtain ⟨⟨cd, fd⟩, ⟨ce, fe⟩, hml⟩ := HR.out; refine zza ?_; rintro _ rfl; refine zze ?_; (try simp only [zzp]); refine Iy.goI_yes rfl rfl fun K hK => ?_; (try simp only [zzp] at hK); go_wp2_with (first | fail); exact hK _ _ (Below.refl _ _) rfl))
    refine zzs 4 14 15 rfl rfl [(11, some 151)] (by kernel_rfl) rfl (fun nph vsp wi HB => ?_) ?_
    (· (refine zza ?_; rintro _ rfl; refine zze ?_; (try simp only [zzp]); refine Iy.goI_yes rfl rfl fun K hK => ?_; (try simp only [zzp] at hK); go_wp2_with (first | fail); exact hK _ _ (Below.refl _ _) rfl))
    refine zzs 3 15 16 rfl rfl [(13, some 153), (14, some 154)] (by kernel_rfl) rfl (fun nph vsp wi HB => ?_) ?_
    (· (refine zza ?_; rintro _ rfl; refine zza ?_; rintro _ rfl; refine zze ?_; (try simp only [zzp]); refine Iy.goI_yes rfl rfl fun K hK => ?_; (try simp only [zzp] at hK); go_wp2_with (first | fail); exact hK _ _ (Below.refl _ _) rfl))
    refine zzs 2 16 17 rfl rfl [(15, some 155)] (by kernel_rfl) rfl (fun nph vsp wi HB => ?_) ?_
    (· (obtain ⟨⟨HW, HG, HR⟩, HM⟩ := HB; obtain ⟨i0, i1, i2, i3, j0, j1, j2, j3⟩ := In4.of_blk HG.out; obtain ⟨⟨cd, fd⟩, ⟨ce, fe⟩, hml⟩ := HR.out; refine zza ?_; rintro _ rfl; refine zze ?_; (try simp only [zzp]); refine Iy.goI_yes rfl rfl fun K hK => ?_; (try simp only [zzp] at hK); go_wp2_with (first | fail); exact hK _ _ (Below.refl _ _) rfl))
    refine Iy.steps_cons (n := 1) (i := 17) (j := 18) rfl rfl (Iy.stepI_ofC 0 [(3, some 143), (4, some 144), (10, some 150), (16, some 156)] (by kernel_rfl) (by kernel_rfl) (fun vsp wi HB => ?_)) ?_
    (· (obtain ⟨⟨HW, HG, HR⟩, HM⟩ := HB; obtain ⟨i0, i1, i2, i3, j0, j1, j2, j3⟩ := In4.of_blk HG.out; obtain ⟨⟨cd, fd⟩, ⟨ce, fe⟩, hml⟩ := HR.out; refine zza ?_; rintro _ ⟨rfl, ev3⟩; refine zza ?_; rintro _ ⟨rfl, ev4⟩; refine zza ?_; rintro _ ⟨rfl, ev10⟩; refine zza ?_; rintro _ ⟨rfl, ev16⟩; refine zze ?_; (try simp only [zzp]); refine Iy.goI_yes rfl rfl fun K hK => ?_; (try simp only [zzp] at hK); go_wp2_with (first | (go_at_call 78; refine (CTW.out _ HM.out).mono ?_; rintro e w1 ⟨rfl, hmt, hbt⟩; have HMT := Lib.hid hmt; clear hmt)); exact hK _ _ ⟨⟨⟨Frm.tch HW.out hbt, Mc.Blk_tch HG.out hbt HGN.out, (HMT.out.regs HRR.out hd he)⟩, HMT.out⟩, fun _ _ h => h⟩ rfl))
    refine zzs 0 18 19 rfl rfl [(0, some 140)] (by kernel_rfl) rfl (fun nph vsp wi HB => ?_) ?_
    (· (refine zza ?_; rintro _ rfl; refine zze ?_; (try simp only [zzp]); refine Iy.goI_yes rfl rfl fun K hK => ?_; (try simp only [zzp] at hK); go_wp2_with (first | fail); exact hK _ _ (Below.refl _ _) rfl))
    exact Iy.steps_nil
  intro vsf wf HF hdf
  refine zzv 18 0 1 rfl rfl ?_; rintro _ _ rfl; refine zzv 17 1 2 rfl rfl ?_; rintro _ _ rfl; refine zzv 16 2 3 rfl rfl ?_; rintro _ _ rfl; refine zzv 15 3 4 rfl rfl ?_; rintro _ _ rfl; refine zzv 14 4 5 rfl rfl ?_; rintro _ _ rfl; refine zzv 13 5 6 rfl rfl ?_; rintro _ _ rfl; refine zzv 12 6 7 rfl rfl ?_; rintro _ _ rfl; refine zzv 11 7 8 rfl rfl ?_; rintro _ _ rfl; refine zzv 10 8 9 rfl rfl ?_; rintro _ _ rfl; refine zzv 9 9 10 rfl rfl ?_; rintro _ _ rfl; refine zzv 8 10 11 rfl rfl ?_; rintro _ _ rfl; refine zzv 7 11 12 rfl rfl ?_; rintro _ _ rfl; refine zzv 6 12 13 rfl rfl ?_; rintro _ _ rfl; refine zzv 5 13 14 rfl rfl ?_; rintro _ _ rfl; refine zzv 4 14 15 rfl rfl ?_; rintro _ _ rfl; refine zzv 3 15 16 rfl rfl ?_; rintro _ _ rfl; refine zzv 2 16 17 rfl rfl ?_; rintro _ _ rfl; refine zzv 1 17 18 rfl rfl ?_; rintro _ _ rfl; refine zzv 0 18 19 rfl rfl ?_; rintro _ _ rfl
  refine Ix.allV_nil ?_
  obtain ⟨⟨HW, HG, HR⟩, HM⟩ := HF; obtain ⟨⟨cd, fd⟩, ⟨ce, fe⟩, hml⟩ := HR.out; obtain ⟨c12, f12⟩ := HM.out.at_ 12 (.int .i64 P) HEP.out
  (try simp only [Act.put, List.setIfInBounds_toArray, List.set_cons_zero, List.set_cons_succ, List.drop_succ_cons, List.drop_zero])
  go_wp2_with (first | fail)
  refine Ix.only ?_
  go_wp2
  go_ret
  obtain rfl := HPP.out
  exact ⟨rfl, ov, by have hfin := (HM.out.setR d hd Z).setPc ((s.pc + n) % 65536); rw [two_r] at hfin; rw [← HZ2.out]; exact hfin, Frm.cell (Frm.cell (HW.out) (.inl rfl) _) (.inl rfl) _⟩
end Go.Proofs.Ytfjgnhmmakeaeaa
