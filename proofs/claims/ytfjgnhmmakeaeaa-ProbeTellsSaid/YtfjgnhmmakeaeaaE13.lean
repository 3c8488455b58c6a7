/- The machine: a step: ld, st -/
import Derived.Test.YtfjgnhmmakeaeaaPt2
import Derived.Test.YtfjgnhmmakeaeaaE11
namespace Go.Proofs.Ytfjgnhmmakeaeaa
open Go.RowKit
set_option linter.unusedVariables false
set_option linter.unusedSimpArgs false
set_option maxRecDepth 100000
open Mc
set_option maxHeartbeats 8000000 in
theorem step_ld (B : Nat) (L : Lay) (s : St) (ov : Value) (inp : List Int) (D E imm n : Int) (d e : Nat) (hI : InsOk D E n imm d e) (hok : Mc.Ok s) (w : World) (h : Mach w B L s ov) (hcv : ∃ ca cn cc, L.cv = .slice ca cn cc)
    (CI : ∀ w1 : World, Below B w w1 → Calls Try.prog 42 #[L.cv, .int .i64 s.pc] w1 (OneR 3 D E imm n w1)) :
    Calls Try.prog 63 #[mP L] w (Did B L ov (Mc.exec inp 3 d e imm (s.pc + n) s) w) := by
  have HX : Mc.exec inp 3 d e imm (s.pc + n) s = (goOn { s with r := upd s.r d (s.mem ((s.r e + imm) % 65536).toNat) } (s.pc + n), 0) := by rfl
  rw [HX]; clear HX
  obtain ⟨⟨rfl, hd⟩, ⟨rfl, he⟩, hn, him0, him1⟩ := hI
  obtain ⟨P, hP⟩ : ∃ P, P = s.pc := ⟨_, rfl⟩
  have hPb := hok.2.1
  have c12e : (cells L s ov)[12]? = some (.int .i64 P) := by rw [hP]; rfl
  rw [← hP] at hPb CI
  have HPP := Lib.hid hP
  obtain ⟨c12, f12⟩ := h.at_ 12 (.int .i64 P) c12e
  obtain ⟨c14, f14⟩ := h.at_ 14 L.cv rfl
  obtain ⟨ca, cn, cc, hcve⟩ := hcv
  rw [hcve] at c14 CI
  have CI2 := Lib.hid CI
  have H := Lib.hid h
  have HOK := Lib.hid hok
  have HE := Lib.hid c12e
  clear h hP hcve CI hok c12e
  obtain ⟨hP0, hP1⟩ := hPb
  have HD := Lib.hid hd; have HE8 := Lib.hid he; have HN := Lib.hid hn
  have hn0 : (n == 0) = false := by simp; omega
  clear hd he
  go_enter Try.func63, Try.ntmps63
  go_wp2
  apply Iy.wp_region 15 [14] (fun n => if n = 0 then [] else [13]) (Ix.Rb) (fun n vs wi => (Hid (Mach wi B L s ov) ∧ Hid (Frm L ov w wi) ∧ Hid (w.heap.size ≤ wi.heap.size) ∧ wi.cell? ⟨L.mb, 12, none⟩ = some (.int .i64 P) ∧ wi.cell? ⟨L.mb, 14, none⟩ = some (.slice ca cn cc)) ∧ (match n with | 0 => True | _ + 1 => ∀ g, vs 13 = Value.pointer (some ⟨g, 0, none⟩) → Blk wi g 43 #[.int .i64 3, .int .i64 (d : Int), .int .i64 (e : Int), .int .i64 imm])) (Ix.vk [(Ix.kis _), (Ix.kis _), (Ix.kis _), (Ix.kis _), (Ix.kis _), (Ix.kis _), (Ix.kis _), (Ix.kis _), (Ix.kis _), (Ix.kis (.tuple #[insV 3 (d : Int) (e : Int) imm, .int .i64 n])), (Ix.kis _), (Ix.kis _), (Ix.kis _), (Ix.kwld (fun v w' => ∃ g, v = Value.pointer (some ⟨g, 0, none⟩) ∧ w.heap.size ≤ g ∧ ∃ a0 a1 a2 a3, Blk w' g 43 #[.int .i64 a0, .int .i64 a1, .int .i64 a2, .int .i64 a3]) (fun v w1 w2 h hb => by obtain ⟨g, e, hl, a0, a1, a2, a3, hi⟩ := h; exact ⟨g, e, hl, a0, a1, a2, a3, hi.keep hb⟩)), (Ix.ksat (fun _ => True))]) (fun k => k == 13) (by kernel_rfl) (by kernel_rfl) (by kernel_rfl) (by kernel_rfl) (by kernel_rfl) (fun n vs vs' w hk h => by cases n with | zero => exact h | succ n => exact ⟨h.1, fun g e => h.2 g ((hk 13 (by simp)).trans e)⟩) (fun _ => Below.refl _ _) (fun n vs _ _ h hb => ⟨⟨h.1.1.out.keep hb, h.1.2.1.out.below hb, Nat.le_trans h.1.2.2.1.out hb.size, by rw [(bcell hb).1 _ _ h.1.1.out.lt]; exact h.1.2.2.2.1, by rw [(bcell hb).1 _ _ h.1.1.out.lt]; exact h.1.2.2.2.2⟩, by cases n with | zero => trivial | succ n => exact fun g e => (h.2 g e).keep hb⟩) (Ix.vk_keeps _) (fun j v w hj hv => by simp only [beq_iff_eq] at hj; subst hj; obtain ⟨g, e, _, _, _, _, _, hg⟩ := hv; exact ⟨g, e, hg.lt⟩) (fun vs => ⟨⟨H.out.drew, Frm.drew (Frm.refl _ _ _), Nat.le_refl _, c12, c14⟩, trivial⟩)
  case step =>
    refine zys 14 0 1 [] (fun _ _ wi HB => ?_) <| zys 13 1 2 [(0, some 9)] (fun _ _ wi HB => ?_) <| zys 12 2 3 [(1, some 10)] (fun _ _ wi HB => ?_) <| zys 11 3 4 [(2, some 11)] (fun _ _ wi HB => ?_) <| zys 10 4 5 [] (fun _ _ wi HB => ?_) <| zys 9 5 6 [(4, some 13)] (fun _ _ wi HB => ?_) <| zys 8 6 7 [(5, some 14)] (fun _ _ wi HB => ?_) <| zys 7 7 8 [(6, some 15)] (fun _ _ wi HB => ?_) <| zys 6 8 9 [(7, some 16)] (fun _ _ wi HB => ?_) <| zys 5 9 10 [(3, some 12), (8, some 17)] (fun _ _ wi HB => ?_) <| zys 4 10 11 [(9, some 18)] (fun _ _ wi HB => ?_) <| zys 3 11 12 [(10, some 8)] (fun _ _ wi HB => ?_) <| zys 2 12 13 [(10, some 8)] (fun _ _ wi HB => ?_) <| zys 1 13 14 [] (fun _ _ wi HB => ?_) <| zyc 0 14 15 0 [(11, some 19), (13, some 3)] (fun vsp wi HB => ?_) <| Iy.steps_nil
    iterate 3 (· ((repeat (refine zya ?_; rintro _ rfl)); refine zye ?_; (try simp only [zyp]); refine Iy.goI_yes rfl rfl fun K hK => ?_; (try simp only [zyp] at hK); go_wp2_with (first | fail); exact hK _ _ (Below.refl _ _) rfl))
    (· (obtain ⟨⟨HM, HW, HZ, d12, d14⟩, _⟩ := HB; (repeat (refine zya ?_; rintro _ rfl)); refine zye ?_; (try simp only [zyp]); refine Iy.goI_yes rfl rfl fun K hK => ?_; (try simp only [zyp] at hK); go_wp2_with (first | fail); exact hK _ _ (Below.refl _ _) rfl))
    iterate 4 (· ((repeat (refine zya ?_; rintro _ rfl)); refine zye ?_; (try simp only [zyp]); refine Iy.goI_yes rfl rfl fun K hK => ?_; (try simp only [zyp] at hK); go_wp2_with (first | fail); exact hK _ _ (Below.refl _ _) rfl))
    (· (obtain ⟨⟨HM, HW, HZ, d12, d14⟩, _⟩ := HB; (repeat (refine zya ?_; rintro _ rfl)); refine zye ?_; (try simp only [zyp]); refine Iy.goI_yes rfl rfl fun K hK => ?_; (try simp only [zyp] at hK); go_wp2_with (first | fail); exact hK _ _ (Below.refl _ _) rfl))
    (· (obtain ⟨⟨HM, HW, HZ, d12, d14⟩, _⟩ := HB; (repeat (refine zya ?_; rintro _ rfl)); refine zye ?_; (try simp only [zyp]); refine Iy.goI_yes rfl rfl fun K hK => ?_; (try simp only [zyp] at hK); go_wp2_with (first | (go_at_call 42; refine (CI2.out _ (HW.out.to H.out)).mono ?_; rintro e w1 ⟨rfl, hba⟩)); exact hK _ _ hba rfl))
    iterate 3 (· ((repeat (refine zya ?_; rintro _ rfl)); refine zye ?_; (try simp only [zyp]); refine Iy.goI_yes rfl rfl fun K hK => ?_; (try simp only [zyp] at hK); go_wp2_with (first | fail); exact hK _ _ (Below.refl _ _) rfl))
    (· (obtain ⟨⟨HM, HW, HZ, d12, d14⟩, _⟩ := HB; (repeat (refine zya ?_; rintro _ rfl)); refine zye ?_; (try simp only [zyp]); refine Iy.goI_new rfl fun K hK => ?_; (try simp only [zyp] at hK); go_wp2_with (first | fail); exact hK _ (Ext.alloc (Below.refl _ _) _) ⟨_, rfl, HZ.out, 0, 0, 0, 0, Blk.new _ _ _⟩))
    (· (obtain ⟨⟨HM, HW, HZ, d12, d14⟩, _⟩ := HB; refine zya ?_; rintro _ ⟨rfl, ev11⟩; refine zya ?_; rintro _ ⟨⟨g, rfl, hgl, a0, a1, a2, a3, hgb⟩, ev13⟩; refine zye ?_; obtain ⟨i0, i1, i2, i3, j0, j1, j2, j3⟩ := In4.of_blk hgb; (try simp only [zyp]); refine Iy.goI_yes rfl rfl fun K hK => ?_; (try simp only [zyp] at hK); go_wp2_with (first | fail); (have HS := Lib.hid (ins_store HM.out HW.out hgl hgb 3 (d : Int) (e : Int) imm); exact hK undef _ ⟨⟨⟨HS.out.1, HS.out.2.1, Nat.le_trans HZ.out (Nat.le_of_eq (by simp)), ins_cell HM.out hgb d12 .., ins_cell HM.out hgb d14 ..⟩, ptr_same ev13 HS.out.2.2⟩, Iy.vk_turn (by repeat (first | exact True.intro | refine And.intro (fun _ h => h) ?_ | refine And.intro (fun hne => absurd rfl hne) ?_ | refine And.intro (fun _ h => ins_keep hgb h) ?_))⟩ trivial)))
  intro vsf wf HF hdf
  refine zyv 14 0 1 ?_; rintro _ _ rfl; refine zyv 13 1 2 ?_; rintro _ _ rfl; refine zyv 12 2 3 ?_; rintro _ _ rfl; refine zyv 11 3 4 ?_; rintro _ _ rfl; refine zyv 10 4 5 ?_; rintro _ _ rfl; refine zyv 9 5 6 ?_; rintro _ _ rfl; refine zyv 8 6 7 ?_; rintro _ _ rfl; refine zyv 7 7 8 ?_; rintro _ _ rfl; refine zyv 6 8 9 ?_; rintro _ _ rfl; refine zyv 5 9 10 ?_; rintro _ _ rfl; refine zyv 4 10 11 ?_; rintro _ _ rfl; refine zyv 3 11 12 ?_; rintro _ _ rfl; refine zyv 2 12 13 ?_; rintro _ _ rfl; refine zyv 1 13 14 ?_; rintro _ ev13 ⟨g, rfl, hgl, a0, a1, a2, a3, hgb⟩; refine zyv 0 14 15 ?_; rintro _ _ _
  refine Ix.allV_nil ?_
  obtain ⟨⟨HM, HW, HZ, d12, d14⟩, hgf⟩ := HF; have gB : B ≤ g := (Nat.le_trans H.out.hi hgl); have HG := Lib.hid (hgf g ev13); clear hgf hgb d12 d14 c12 c14
  (try simp only [Act.put, List.setIfInBounds_toArray, List.set_cons_zero, List.set_cons_succ, List.drop_succ_cons, List.drop_zero])
  go_wp2_with (first | fail)
  refine Ix.only ?_
  have hgm : ¬ g = L.mb := HG.out.ne_ HM.out.blk (by decide)
  have hmg : ¬ L.mb = g := fun e => hgm e.symm
  have HGN := Lib.hid (ins_far HG.out HM.out)
  obtain ⟨i0, i1, i2, i3, j0, j1, j2, j3⟩ := In4.of_blk HG.out
  obtain ⟨c12, f12⟩ := HM.out.at_ 12 (.int .i64 P) HE.out
  have hnx : bits .and .i64 (P + n) 65535 = (P + n) % 65536 := and65 _
  have hd := HD.out
  have he := HE8.out
  have d12 : ¬ d = 12 := (by omega)
  obtain ⟨⟨rd0, rd1⟩, re0, re1⟩ : (0 ≤ s.r d ∧ s.r d < 65536) ∧ (0 ≤ s.r e ∧ s.r e < 65536) := ⟨HOK.out.1 d hd, HOK.out.1 e he⟩
  obtain ⟨Z, hZ⟩ : ∃ Z, Z = s.mem ((s.r e + imm) % 65536).toNat := ⟨_, rfl⟩
  have CLD : Hid (∀ w1 : World, Mach w1 B L s ov → Calls Try.prog 76 #[mP L, .int .i64 (s.r e + imm)] w1 (fun e w' => e = .returned (.int .i64 Z) ∧ w1 = w')) := fun w1 h1 => by rw [hZ]; exact mload_ok B L s ov _ w1 h1
  have HZ2 := Lib.hid hZ
  clear hZ
  go_wp2
  clear i0 i1 i2 i3 j0 j1 j2 j3 c12 f12
  apply Ix.wp_region 15 (fun wi => Hid (Mach wi B L s ov) ∧ Hid (Frm L ov w wi) ∧ Hid (Blk wi g 43 #[.int .i64 3, .int .i64 (d : Int), .int .i64 (e : Int), .int .i64 imm])) (Ix.vk [(Ix.kis _), (Ix.kis _), (Ix.kis _), (Ix.kis _), (Ix.kis _), (Ix.kis _), (Ix.kis _), (Ix.kis _), (Ix.kis _), (Ix.kis _), (Ix.kis _), (Ix.kis _), (Ix.kis _), (Ix.kis (.int .i64 Z)), (Ix.kis _)]) (fun _ => false) (by kernel_rfl) (by kernel_rfl) (by kernel_rfl) (fun _ _ h hb => ⟨h.1.out.keep hb, h.2.1.out.below hb, h.2.2.out.keep hb⟩) (Ix.vk_keeps _) (Ix.not_al _) ⟨HM, HW, HG⟩
  case step =>
    refine zyx 14 0 1 [] (fun wi HB => ?_) <| zyx 13 1 2 [] (fun wi HB => ?_) <| zyx 12 2 3 [(1, some 76)] (fun wi HB => ?_) <| zyx 11 3 4 [] (fun wi HB => ?_) <| zyx 10 4 5 [] (fun wi HB => ?_) <| zyx 9 5 6 [] (fun wi HB => ?_) <| zyx 8 6 7 [(5, some 80)] (fun wi HB => ?_) <| zyx 7 7 8 [(4, some 79)] (fun wi HB => ?_) <| zyx 6 8 9 [(6, some 81), (7, some 82)] (fun wi HB => ?_) <| zyx 5 9 10 [(8, some 83)] (fun wi HB => ?_) <| zyx 4 10 11 [] (fun wi HB => ?_) <| zyx 3 11 12 [(10, some 85)] (fun wi HB => ?_) <| zyx 2 12 13 [(9, some 84), (11, some 86)] (fun wi HB => ?_) <| zyx 1 13 14 [(3, some 78), (12, some 87)] (fun wi HB => ?_) <| zyx 0 14 15 [(0, some 75)] (fun wi HB => ?_) <| Ix.steps_nil
    iterate 2 (· ((repeat (refine zya ?_; rintro _ rfl)); refine zye ?_; (try simp only [zyp]); refine Ix.goI_yes rfl rfl fun K hK => ?_; (try simp only [zyp] at hK); go_wp2_with (first | fail); exact hK _ _ (Below.refl _ _) rfl))
    (· (obtain ⟨HM, HW, HG⟩ := HB; obtain ⟨i0, i1, i2, i3, j0, j1, j2, j3⟩ := In4.of_blk HG.out; obtain ⟨cd, fd⟩ := HM.out.reg d hd; obtain ⟨ce, fe⟩ := HM.out.reg e he; (repeat (refine zya ?_; rintro _ rfl)); refine zye ?_; (try simp only [zyp]); refine Ix.goI_yes rfl rfl fun K hK => ?_; (try simp only [zyp] at hK); go_wp2_with (first | fail); exact hK _ _ (Below.refl _ _) rfl))
    iterate 3 (· ((repeat (refine zya ?_; rintro _ rfl)); refine zye ?_; (try simp only [zyp]); refine Ix.goI_yes rfl rfl fun K hK => ?_; (try simp only [zyp] at hK); go_wp2_with (first | fail); exact hK _ _ (Below.refl _ _) rfl))
    (· (obtain ⟨HM, HW, HG⟩ := HB; obtain ⟨i0, i1, i2, i3, j0, j1, j2, j3⟩ := In4.of_blk HG.out; obtain ⟨cd, fd⟩ := HM.out.reg d hd; obtain ⟨ce, fe⟩ := HM.out.reg e he; (repeat (refine zya ?_; rintro _ rfl)); refine zye ?_; (try simp only [zyp]); refine Ix.goI_yes rfl rfl fun K hK => ?_; (try simp only [zyp] at hK); go_wp2_with (first | fail); exact hK _ _ (Below.refl _ _) rfl))
    iterate 2 (· ((repeat (refine zya ?_; rintro _ rfl)); refine zye ?_; (try simp only [zyp]); refine Ix.goI_yes rfl rfl fun K hK => ?_; (try simp only [zyp] at hK); go_wp2_with (first | fail); exact hK _ _ (Below.refl _ _) rfl))
    (· (obtain ⟨HM, HW, HG⟩ := HB; obtain ⟨i0, i1, i2, i3, j0, j1, j2, j3⟩ := In4.of_blk HG.out; obtain ⟨cd, fd⟩ := HM.out.reg d hd; obtain ⟨ce, fe⟩ := HM.out.reg e he; (repeat (refine zya ?_; rintro _ rfl)); refine zye ?_; (try simp only [zyp]); refine Ix.goI_yes rfl rfl fun K hK => ?_; (try simp only [zyp] at hK); go_wp2_with (first | fail); exact hK _ _ (Below.refl _ _) rfl))
    (· ((repeat (refine zya ?_; rintro _ rfl)); refine zye ?_; (try simp only [zyp]); refine Ix.goI_yes rfl rfl fun K hK => ?_; (try simp only [zyp] at hK); go_wp2_with (first | fail); exact hK _ _ (Below.refl _ _) rfl))
    (· (obtain ⟨HM, HW, HG⟩ := HB; obtain ⟨i0, i1, i2, i3, j0, j1, j2, j3⟩ := In4.of_blk HG.out; obtain ⟨cd, fd⟩ := HM.out.reg d hd; obtain ⟨ce, fe⟩ := HM.out.reg e he; (repeat (refine zya ?_; rintro _ rfl)); refine zye ?_; (try simp only [zyp]); refine Ix.goI_yes rfl rfl fun K hK => ?_; (try simp only [zyp] at hK); go_wp2_with (first | fail); exact hK _ _ (Below.refl _ _) rfl))
    (· ((repeat (refine zya ?_; rintro _ rfl)); refine zye ?_; (try simp only [zyp]); refine Ix.goI_yes rfl rfl fun K hK => ?_; (try simp only [zyp] at hK); go_wp2_with (first | fail); exact hK _ _ (Below.refl _ _) rfl))
    (· (obtain ⟨HM, HW, HG⟩ := HB; obtain ⟨i0, i1, i2, i3, j0, j1, j2, j3⟩ := In4.of_blk HG.out; obtain ⟨cd, fd⟩ := HM.out.reg d hd; obtain ⟨ce, fe⟩ := HM.out.reg e he; (repeat (refine zya ?_; rintro _ rfl)); refine zye ?_; (try simp only [zyp]); refine Ix.goI_yes rfl rfl fun K hK => ?_; (try simp only [zyp] at hK); go_wp2_with (first | (go_at_call 76; refine (CLD.out _ HM.out).mono ?_; rintro e w' ⟨rfl, rfl⟩)); exact hK _ _ (Below.refl _ _) rfl))
    (· ((repeat (refine zya ?_; rintro _ rfl)); refine zye ?_; (try simp only [zyp]); refine Ix.goI_yes rfl rfl fun K hK => ?_; (try simp only [zyp] at hK); go_wp2_with (first | fail); exact hK _ _ (Below.refl _ _) rfl))
  intro vsf wf HF hdf
  refine zyv 14 0 1 ?_; rintro _ _ rfl; refine zyv 13 1 2 ?_; rintro _ _ rfl; refine zyv 12 2 3 ?_; rintro _ _ rfl; refine zyv 11 3 4 ?_; rintro _ _ rfl; refine zyv 10 4 5 ?_; rintro _ _ rfl; refine zyv 9 5 6 ?_; rintro _ _ rfl; refine zyv 8 6 7 ?_; rintro _ _ rfl; refine zyv 7 7 8 ?_; rintro _ _ rfl; refine zyv 6 8 9 ?_; rintro _ _ rfl; refine zyv 5 9 10 ?_; rintro _ _ rfl; refine zyv 4 10 11 ?_; rintro _ _ rfl; refine zyv 3 11 12 ?_; rintro _ _ rfl; refine zyv 2 12 13 ?_; rintro _ _ rfl; refine zyv 1 13 14 ?_; rintro _ _ rfl; refine zyv 0 14 15 ?_; rintro _ _ rfl
  refine Ix.allV_nil ?_
  obtain ⟨HM, HW, HG⟩ := HF; obtain ⟨i0, i1, i2, i3, j0, j1, j2, j3⟩ := In4.of_blk HG.out; obtain ⟨cd, fd⟩ := HM.out.reg d hd; obtain ⟨ce, fe⟩ := HM.out.reg e he; obtain ⟨c12, f12⟩ := HM.out.at_ 12 (.int .i64 P) HE.out
  (try simp only [Act.put, List.setIfInBounds_toArray, List.set_cons_zero, List.set_cons_succ, List.drop_succ_cons, List.drop_zero])
  go_wp2_with (first | fail)
  refine Ix.only ?_
  go_wp2
  go_ret
  obtain rfl := HPP.out
  exact ⟨rfl, ov, by rw [← HZ2.out]; exact ((HM.out.setR d hd Z).setPc ((s.pc + n) % 65536)), Frm.cell (Frm.cell (HW.out) (.inl rfl) _) (.inl rfl) _⟩
set_option maxHeartbeats 8000000 in
theorem step_st (B : Nat) (L : Lay) (s : St) (ov : Value) (inp : List Int) (D E imm n : Int) (d e : Nat) (hI : InsOk D E n imm d e) (hok : Mc.Ok s) (w : World) (h : Mach w B L s ov) (hcv : ∃ ca cn cc, L.cv = .slice ca cn cc)
    (CI : ∀ w1 : World, Below B w w1 → Calls Try.prog 42 #[L.cv, .int .i64 s.pc] w1 (OneR 4 D E imm n w1)) :
    Calls Try.prog 63 #[mP L] w (Did B L ov (Mc.exec inp 4 d e imm (s.pc + n) s) w) := by
  have HX : Mc.exec inp 4 d e imm (s.pc + n) s = (goOn { s with mem := upd s.mem ((s.r d + imm) % 65536).toNat (s.r e % 65536) } (s.pc + n), 0) := by rfl
  rw [HX]; clear HX
  obtain ⟨⟨rfl, hd⟩, ⟨rfl, he⟩, hn, him0, him1⟩ := hI
  obtain ⟨P, hP⟩ : ∃ P, P = s.pc := ⟨_, rfl⟩
  have hPb := hok.2.1
  have c12e : (cells L s ov)[12]? = some (.int .i64 P) := by rw [hP]; rfl
  rw [← hP] at hPb CI
  have HPP := Lib.hid hP
  obtain ⟨c12, f12⟩ := h.at_ 12 (.int .i64 P) c12e
  obtain ⟨c14, f14⟩ := h.at_ 14 L.cv rfl
  obtain ⟨ca, cn, cc, hcve⟩ := hcv
  rw [hcve] at c14 CI
  have CI2 := Lib.hid CI
  have H := Lib.hid h
  have HOK := Lib.hid hok
  have HE := Lib.hid c12e
  clear h hP hcve CI hok c12e
  obtain ⟨hP0, hP1⟩ := hPb
  have HD := Lib.hid hd; have HE8 := Lib.hid he; have HN := Lib.hid hn
  have hn0 : (n == 0) = false := by simp; omega
  clear hd he
  go_enter Try.func63, Try.ntmps63
  go_wp2
  apply Iy.wp_region 15 [14] (fun n => if n = 0 then [] else [13]) (Ix.Rb) (fun n vs wi => (Hid (Mach wi B L s ov) ∧ Hid (Frm L ov w wi) ∧ Hid (w.heap.size ≤ wi.heap.size) ∧ wi.cell? ⟨L.mb, 12, none⟩ = some (.int .i64 P) ∧ wi.cell? ⟨L.mb, 14, none⟩ = some (.slice ca cn cc)) ∧ (match n with | 0 => True | _ + 1 => ∀ g, vs 13 = Value.pointer (some ⟨g, 0, none⟩) → Blk wi g 43 #[.int .i64 4, .int .i64 (d : Int), .int .i64 (e : Int), .int .i64 imm])) (Ix.vk [(Ix.kis _), (Ix.kis _), (Ix.kis _), (Ix.kis _), (Ix.kis _), (Ix.kis _), (Ix.kis _), (Ix.kis _), (Ix.kis _), (Ix.kis (.tuple #[insV 4 (d : Int) (e : Int) imm, .int .i64 n])), (Ix.kis _), (Ix.kis _), (Ix.kis _), (Ix.kwld (fun v w' => ∃ g, v = Value.pointer (some ⟨g, 0, none⟩) ∧ w.heap.size ≤ g ∧ ∃ a0 a1 a2 a3, Blk w' g 43 #[.int .i64 a0, .int .i64 a1, .int .i64 a2, .int .i64 a3]) (fun v w1 w2 h hb => by obtain ⟨g, e, hl, a0, a1, a2, a3, hi⟩ := h; exact ⟨g, e, hl, a0, a1, a2, a3, hi.keep hb⟩)), (Ix.ksat (fun _ => True))]) (fun k => k == 13) (by kernel_rfl) (by kernel_rfl) (by kernel_rfl) (by kernel_rfl) (by kernel_rfl) (fun n vs vs' w hk h => by cases n with | zero => exact h | succ n => exact ⟨h.1, fun g e => h.2 g ((hk 13 (by simp)).trans e)⟩) (fun _ => Below.refl _ _) (fun n vs _ _ h hb => ⟨⟨h.1.1.out.keep hb, h.1.2.1.out.below hb, Nat.le_trans h.1.2.2.1.out hb.size, by rw [(bcell hb).1 _ _ h.1.1.out.lt]; exact h.1.2.2.2.1, by rw [(bcell hb).1 _ _ h.1.1.out.lt]; exact h.1.2.2.2.2⟩, by cases n with | zero => trivial | succ n => exact fun g e => (h.2 g e).keep hb⟩) (Ix.vk_keeps _) (fun j v w hj hv => by simp only [beq_iff_eq] at hj; subst hj; obtain ⟨g, e, _, _, _, _, _, hg⟩ := hv; exact ⟨g, e, hg.lt⟩) (fun vs => ⟨⟨H.out.drew, Frm.drew (Frm.refl _ _ _), Nat.le_refl _, c12, c14⟩, trivial⟩)
  case step =>
    refine zys 14 0 1 [] (fun _ _ wi HB => ?_) <| zys 13 1 2 [(0, some 9)] (fun _ _ wi HB => ?_) <| zys 12 2 3 [(1, some 10)] (fun _ _ wi HB => ?_) <| zys 11 3 4 [(2, some 11)] (fun _ _ wi HB => ?_) <| zys 10 4 5 [] (fun _ _ wi HB => ?_) <| zys 9 5 6 [(4, some 13)] (fun _ _ wi HB => ?_) <| zys 8 6 7 [(5, some 14)] (fun _ _ wi HB => ?_) <| zys 7 7 8 [(6, some 15)] (fun _ _ wi HB => ?_) <| zys 6 8 9 [(7, some 16)] (fun _ _ wi HB => ?_) <| zys 5 9 10 [(3, some 12), (8, some 17)] (fun _ _ wi HB => ?_) <| zys 4 10 11 [(9, some 18)] (fun _ _ wi HB => ?_) <| zys 3 11 12 [(10, some 8)] (fun _ _ wi HB => ?_) <| zys 2 12 13 [(10, some 8)] (fun _ _ wi HB => ?_) <| zys 1 13 14 [] (fun _ _ wi HB => ?_) <| zyc 0 14 15 0 [(11, some 19), (13, some 3)] (fun vsp wi HB => ?_) <| Iy.steps_nil
    iterate 3 (· ((repeat (refine zya ?_; rintro _ rfl)); refine zye ?_; (try simp only [zyp]); refine Iy.goI_yes rfl rfl fun K hK => ?_; (try simp only [zyp] at hK); go_wp2_with (first | fail); exact hK _ _ (Below.refl _ _) rfl))
    (· (obtain ⟨⟨HM, HW, HZ, d12, d14⟩, _⟩ := HB; (repeat (refine zya ?_; rintro _ rfl)); refine zye ?_; (try simp only [zyp]); refine Iy.goI_yes rfl rfl fun K hK => ?_; (try simp only [zyp] at hK); go_wp2_with (first | fail); exact hK _ _ (Below.refl _ _) rfl))
    iterate 4 (· ((repeat (refine zya ?_; rintro _ rfl)); refine zye ?_; (try simp only [zyp]); refine Iy.goI_yes rfl rfl fun K hK => ?_; (try simp only [zyp] at hK); go_wp2_with (first | fail); exact hK _ _ (Below.refl _ _) rfl))
    (· (obtain ⟨⟨HM, HW, HZ, d12, d14⟩, _⟩ := HB; (repeat (refine zya ?_; rintro _ rfl)); refine zye ?_; (try simp only [zyp]); refine Iy.goI_yes rfl rfl fun K hK => ?_; (try simp only [zyp] at hK); go_wp2_with (first | fail); exact hK _ _ (Below.refl _ _) rfl))
    (· (obtain ⟨⟨HM, HW, HZ, d12, d14⟩, _⟩ := HB; (repeat (refine zya ?_; rintro _ rfl)); refine zye ?_; (try simp only [zyp]); refine Iy.goI_yes rfl rfl fun K hK => ?_; (try simp only [zyp] at hK); go_wp2_with (first | (go_at_call 42; refine (CI2.out _ (HW.out.to H.out)).mono ?_; rintro e w1 ⟨rfl, hba⟩)); exact hK _ _ hba rfl))
    iterate 3 (· ((repeat (refine zya ?_; rintro _ rfl)); refine zye ?_; (try simp only [zyp]); refine Iy.goI_yes rfl rfl fun K hK => ?_; (try simp only [zyp] at hK); go_wp2_with (first | fail); exact hK _ _ (Below.refl _ _) rfl))
    (· (obtain ⟨⟨HM, HW, HZ, d12, d14⟩, _⟩ := HB; (repeat (refine zya ?_; rintro _ rfl)); refine zye ?_; (try simp only [zyp]); refine Iy.goI_new rfl fun K hK => ?_; (try simp only [zyp] at hK); go_wp2_with (first | fail); exact hK _ (Ext.alloc (Below.refl _ _) _) ⟨_, rfl, HZ.out, 0, 0, 0, 0, Blk.new _ _ _⟩))
    (· (obtain ⟨⟨HM, HW, HZ, d12, d14⟩, _⟩ := HB; refine zya ?_; rintro _ ⟨rfl, ev11⟩; refine zya ?_; rintro _ ⟨⟨g, rfl, hgl, a0, a1, a2, a3, hgb⟩, ev13⟩; refine zye ?_; obtain ⟨i0, i1, i2, i3, j0, j1, j2, j3⟩ := In4.of_blk hgb; (try simp only [zyp]); refine Iy.goI_yes rfl rfl fun K hK => ?_; (try simp only [zyp] at hK); go_wp2_with (first | fail); (have HS := Lib.hid (ins_store HM.out HW.out hgl hgb 4 (d : Int) (e : Int) imm); exact hK undef _ ⟨⟨⟨HS.out.1, HS.out.2.1, Nat.le_trans HZ.out (Nat.le_of_eq (by simp)), ins_cell HM.out hgb d12 .., ins_cell HM.out hgb d14 ..⟩, ptr_same ev13 HS.out.2.2⟩, Iy.vk_turn (by repeat (first | exact True.intro | refine And.intro (fun _ h => h) ?_ | refine And.intro (fun hne => absurd rfl hne) ?_ | refine And.intro (fun _ h => ins_keep hgb h) ?_))⟩ trivial)))
  intro vsf wf HF hdf
  refine zyv 14 0 1 ?_; rintro _ _ rfl; refine zyv 13 1 2 ?_; rintro _ _ rfl; refine zyv 12 2 3 ?_; rintro _ _ rfl; refine zyv 11 3 4 ?_; rintro _ _ rfl; refine zyv 10 4 5 ?_; rintro _ _ rfl; refine zyv 9 5 6 ?_; rintro _ _ rfl; refine zyv 8 6 7 ?_; rintro _ _ rfl; refine zyv 7 7 8 ?_; rintro _ _ rfl; refine zyv 6 8 9 ?_; rintro _ _ rfl; refine zyv 5 9 10 ?_; rintro _ _ rfl; refine zyv 4 10 11 ?_; rintro _ _ rfl; refine zyv 3 11 12 ?_; rintro _ _ rfl; refine zyv 2 12 13 ?_; rintro _ _ rfl; refine zyv 1 13 14 ?_; rintro _ ev13 ⟨g, rfl, hgl, a0, a1, a2, a3, hgb⟩; refine zyv 0 14 15 ?_; rintro _ _ _
  refine Ix.allV_nil ?_
  obtain ⟨⟨HM, HW, HZ, d12, d14⟩, hgf⟩ := HF; have gB : B ≤ g := (Nat.le_trans H.out.hi hgl); have HG := Lib.hid (hgf g ev13); clear hgf hgb d12 d14 c12 c14
  (try simp only [Act.put, List.setIfInBounds_toArray, List.set_cons_zero, List.set_cons_succ, List.drop_succ_cons, List.drop_zero])
  go_wp2_with (first | fail)
  refine Ix.only ?_
  have hgm : ¬ g = L.mb := HG.out.ne_ HM.out.blk (by decide)
  have hmg : ¬ L.mb = g := fun e => hgm e.symm
  have HGN := Lib.hid (ins_far HG.out HM.out)
  obtain ⟨i0, i1, i2, i3, j0, j1, j2, j3⟩ := In4.of_blk HG.out
  obtain ⟨c12, f12⟩ := HM.out.at_ 12 (.int .i64 P) HE.out
  have hnx : bits .and .i64 (P + n) 65535 = (P + n) % 65536 := and65 _
  have hd := HD.out
  have he := HE8.out
  have d12 : ¬ d = 12 := (by omega)
  obtain ⟨⟨rd0, rd1⟩, re0, re1⟩ : (0 ≤ s.r d ∧ s.r d < 65536) ∧ (0 ≤ s.r e ∧ s.r e < 65536) := ⟨HOK.out.1 d hd, HOK.out.1 e he⟩
  have CST : Hid (∀ w1 : World, Mach w1 B L s ov → Calls Try.prog 77 #[mP L, .int .i64 (s.r d + imm), .int .i64 (s.r e)] w1 (Turn B L { s with mem := upd s.mem ((s.r d + imm) % 65536).toNat (s.r e % 65536) } ov (.tuple #[]) w1)) := fun w1 h1 => mstore_ok B L s ov _ _ w1 h1
  go_wp2
  clear i0 i1 i2 i3 j0 j1 j2 j3 c12 f12
  apply Ix.wp_region 16 (fun wi => Hid (Mach wi B L s ov) ∧ Hid (Frm L ov w wi) ∧ Hid (Blk wi g 43 #[.int .i64 4, .int .i64 (d : Int), .int .i64 (e : Int), .int .i64 imm])) (Ix.vk [(Ix.kis _), (Ix.kis _), (Ix.kis _), (Ix.kis _), (Ix.kis _), (Ix.kis _), (Ix.kis _), (Ix.kis _), (Ix.kis _), (Ix.kis _), (Ix.kis _), (Ix.kis _), (Ix.kis _), (Ix.kis _), (Ix.kis _), (Ix.kis _)]) (fun _ => false) (by kernel_rfl) (by kernel_rfl) (by kernel_rfl) (fun _ _ h hb => ⟨h.1.out.keep hb, h.2.1.out.below hb, h.2.2.out.keep hb⟩) (Ix.vk_keeps _) (Ix.not_al _) ⟨HM, HW, HG⟩
  case step =>
    refine zyx 15 0 1 [] (fun wi HB => ?_) <| zyx 14 1 2 [] (fun wi HB => ?_) <| zyx 13 2 3 [] (fun wi HB => ?_) <| zyx 12 3 4 [(2, some 96)] (fun wi HB => ?_) <| zyx 11 4 5 [(1, some 95)] (fun wi HB => ?_) <| zyx 10 5 6 [(3, some 97), (4, some 98)] (fun wi HB => ?_) <| zyx 9 6 7 [(5, some 99)] (fun wi HB => ?_) <| zyx 8 7 8 [] (fun wi HB => ?_) <| zyx 7 8 9 [(7, some 101)] (fun wi HB => ?_) <| zyx 6 9 10 [(6, some 100), (8, some 102)] (fun wi HB => ?_) <| zyx 5 10 11 [] (fun wi HB => ?_) <| zyx 4 11 12 [] (fun wi HB => ?_) <| zyx 3 12 13 [(11, some 105)] (fun wi HB => ?_) <| zyx 2 13 14 [(10, some 104)] (fun wi HB => ?_) <| zyx 1 14 15 [(12, some 106), (13, some 107)] (fun wi HB => ?_) <| zyx 0 15 16 [(14, some 108)] (fun wi HB => ?_) <| Ix.steps_nil
    iterate 3 (· ((repeat (refine zya ?_; rintro _ rfl)); refine zye ?_; (try simp only [zyp]); refine Ix.goI_yes rfl rfl fun K hK => ?_; (try simp only [zyp] at hK); go_wp2_with (first | fail); exact hK _ _ (Below.refl _ _) rfl))
    (· (obtain ⟨HM, HW, HG⟩ := HB; obtain ⟨i0, i1, i2, i3, j0, j1, j2, j3⟩ := In4.of_blk HG.out; obtain ⟨cd, fd⟩ := HM.out.reg d hd; obtain ⟨ce, fe⟩ := HM.out.reg e he; (repeat (refine zya ?_; rintro _ rfl)); refine zye ?_; (try simp only [zyp]); refine Ix.goI_yes rfl rfl fun K hK => ?_; (try simp only [zyp] at hK); go_wp2_with (first | fail); exact hK _ _ (Below.refl _ _) rfl))
    iterate 2 (· ((repeat (refine zya ?_; rintro _ rfl)); refine zye ?_; (try simp only [zyp]); refine Ix.goI_yes rfl rfl fun K hK => ?_; (try simp only [zyp] at hK); go_wp2_with (first | fail); exact hK _ _ (Below.refl _ _) rfl))
    (· (obtain ⟨HM, HW, HG⟩ := HB; obtain ⟨i0, i1, i2, i3, j0, j1, j2, j3⟩ := In4.of_blk HG.out; obtain ⟨cd, fd⟩ := HM.out.reg d hd; obtain ⟨ce, fe⟩ := HM.out.reg e he; (repeat (refine zya ?_; rintro _ rfl)); refine zye ?_; (try simp only [zyp]); refine Ix.goI_yes rfl rfl fun K hK => ?_; (try simp only [zyp] at hK); go_wp2_with (first | fail); exact hK _ _ (Below.refl _ _) rfl))
    (· ((repeat (refine zya ?_; rintro _ rfl)); refine zye ?_; (try simp only [zyp]); refine Ix.goI_yes rfl rfl fun K hK => ?_; (try simp only [zyp] at hK); go_wp2_with (first | fail); exact hK _ _ (Below.refl _ _) rfl))
    (· (obtain ⟨HM, HW, HG⟩ := HB; obtain ⟨i0, i1, i2, i3, j0, j1, j2, j3⟩ := In4.of_blk HG.out; obtain ⟨cd, fd⟩ := HM.out.reg d hd; obtain ⟨ce, fe⟩ := HM.out.reg e he; (repeat (refine zya ?_; rintro _ rfl)); refine zye ?_; (try simp only [zyp]); refine Ix.goI_yes rfl rfl fun K hK => ?_; (try simp only [zyp] at hK); go_wp2_with (first | fail); exact hK _ _ (Below.refl _ _) rfl))
    iterate 3 (· ((repeat (refine zya ?_; rintro _ rfl)); refine zye ?_; (try simp only [zyp]); refine Ix.goI_yes rfl rfl fun K hK => ?_; (try simp only [zyp] at hK); go_wp2_with (first | fail); exact hK _ _ (Below.refl _ _) rfl))
    (· (obtain ⟨HM, HW, HG⟩ := HB; obtain ⟨i0, i1, i2, i3, j0, j1, j2, j3⟩ := In4.of_blk HG.out; obtain ⟨cd, fd⟩ := HM.out.reg d hd; obtain ⟨ce, fe⟩ := HM.out.reg e he; (repeat (refine zya ?_; rintro _ rfl)); refine zye ?_; (try simp only [zyp]); refine Ix.goI_yes rfl rfl fun K hK => ?_; (try simp only [zyp] at hK); go_wp2_with (first | fail); exact hK _ _ (Below.refl _ _) rfl))
    iterate 2 (· ((repeat (refine zya ?_; rintro _ rfl)); refine zye ?_; (try simp only [zyp]); refine Ix.goI_yes rfl rfl fun K hK => ?_; (try simp only [zyp] at hK); go_wp2_with (first | fail); exact hK _ _ (Below.refl _ _) rfl))
    (· (obtain ⟨HM, HW, HG⟩ := HB; obtain ⟨i0, i1, i2, i3, j0, j1, j2, j3⟩ := In4.of_blk HG.out; obtain ⟨cd, fd⟩ := HM.out.reg d hd; obtain ⟨ce, fe⟩ := HM.out.reg e he; (repeat (refine zya ?_; rintro _ rfl)); refine zye ?_; (try simp only [zyp]); refine Ix.goI_yes rfl rfl fun K hK => ?_; (try simp only [zyp] at hK); go_wp2_with (first | fail); exact hK _ _ (Below.refl _ _) rfl))
  intro vsf wf HF hdf
  refine zyv 15 0 1 ?_; rintro _ _ rfl; refine zyv 14 1 2 ?_; rintro _ _ rfl; refine zyv 13 2 3 ?_; rintro _ _ rfl; refine zyv 12 3 4 ?_; rintro _ _ rfl; refine zyv 11 4 5 ?_; rintro _ _ rfl; refine zyv 10 5 6 ?_; rintro _ _ rfl; refine zyv 9 6 7 ?_; rintro _ _ rfl; refine zyv 8 7 8 ?_; rintro _ _ rfl; refine zyv 7 8 9 ?_; rintro _ _ rfl; refine zyv 6 9 10 ?_; rintro _ _ rfl; refine zyv 5 10 11 ?_; rintro _ _ rfl; refine zyv 4 11 12 ?_; rintro _ _ rfl; refine zyv 3 12 13 ?_; rintro _ _ rfl; refine zyv 2 13 14 ?_; rintro _ _ rfl; refine zyv 1 14 15 ?_; rintro _ _ rfl; refine zyv 0 15 16 ?_; rintro _ _ rfl
  refine Ix.allV_nil ?_
  obtain ⟨HM, HW, HG⟩ := HF; obtain ⟨i0, i1, i2, i3, j0, j1, j2, j3⟩ := In4.of_blk HG.out; obtain ⟨cd, fd⟩ := HM.out.reg d hd; obtain ⟨ce, fe⟩ := HM.out.reg e he; obtain ⟨c12, f12⟩ := HM.out.at_ 12 (.int .i64 P) HE.out
  (try simp only [Act.put, List.setIfInBounds_toArray, List.set_cons_zero, List.set_cons_succ, List.drop_succ_cons, List.drop_zero])
  go_wp2_with (first | (go_at_call 77; refine (CST.out _ HM.out).mono ?_; rintro e w1 ⟨rfl, hm1, hb1⟩; obtain ⟨k12, l12⟩ := hm1.at_ 12 (.int .i64 P) HE.out; have HM1 := Lib.hid hm1; have HB1 := Lib.hid hb1; clear hm1 hb1))
  refine Ix.only ?_
  go_wp2
  go_ret
  obtain rfl := HPP.out
  exact ⟨rfl, ov, HM1.out.setPc ((s.pc + n) % 65536), Frm.cell (Frm.tch HW.out HB1.out) (.inl rfl) _⟩
end Go.Proofs.Ytfjgnhmmakeaeaa
