/- The machine: a step: out -/
import Derived.Test.YtfjgnhmmakeaeaaPt2
import Derived.Test.YtfjgnhmmakeaeaaE11
namespace Go.Proofs.Ytfjgnhmmakeaeaa
open Go.RowKit
set_option linter.unusedVariables false
set_option linter.unusedSimpArgs false
set_option maxRecDepth 100000
open Mc
set_option maxHeartbeats 8000000 in
theorem step_out (B : Nat) (L : Lay) (s : St) (ov : Value) (inp : List Int) (D E imm n : Int) (d e : Nat) (hI : InsOk D E n imm d e) (hok : Mc.Ok s) (w : World) (hfull : ¬ s.out.length = 65536) (hlen : s.out.length ≤ 65536) (h : Mach w B L s ov) (hcv : ∃ ca cn cc, L.cv = .slice ca cn cc)
    (CI : ∀ w1 : World, Below B w w1 → Calls Try.prog 42 #[L.cv, .int .i64 s.pc] w1 (OneR 30 D E imm n w1)) :
    Calls Try.prog 63 #[mP L] w (Did B L ov (Mc.exec inp 30 d e imm (s.pc + n) s) w) := by
  have HX : Mc.exec inp 30 d e imm (s.pc + n) s = (goOn { s with out := s.out ++ [s.r e % 256] } (s.pc + n), 0) := by rw [exec_out, if_neg hfull]
  rw [HX]; clear HX
  obtain ⟨⟨rfl, hd⟩, ⟨rfl, he⟩, hn, him0, him1⟩ := hI
  obtain ⟨P, hP⟩ : ∃ P, P = s.pc := ⟨_, rfl⟩
  have hPb := hok.2.1
  have c12e : (cells L s ov)[12]? = some (.int .i64 P) := by rw [hP]; rfl
  rw [← hP] at hPb CI
  have HPP := Lib.hid hP
  obtain ⟨c12, f12⟩ := h.at_ 12 (.int .i64 P) c12e
  obtain ⟨c14, f14⟩ := h.at_ 14 L.cv rfl
  obtain ⟨ca, cn, cc, hcve⟩ := hcv
  rw [hcve] at c14 CI
  have CI2 := Lib.hid CI
  have H := Lib.hid h
  have HOK := Lib.hid hok
  have HE := Lib.hid c12e
  clear h hP hcve CI hok c12e
  obtain ⟨hP0, hP1⟩ := hPb
  have HD := Lib.hid hd; have HE8 := Lib.hid he; have HN := Lib.hid hn
  have hn0 : (n == 0) = false := by simp; omega
  clear hd he
  have HFU := Lib.hid hfull; have HLEN := Lib.hid hlen
  clear hfull hlen
  go_enter Try.func63, Try.ntmps63
  go_wp2
  apply Iy.wp_region 15 [14] (fun n => if n = 0 then [] else [13]) (Ix.Rb) (fun n vs wi => (Hid (Mach wi B L s ov) ∧ Hid (Frm L ov w wi) ∧ Hid (w.heap.size ≤ wi.heap.size) ∧ wi.cell? ⟨L.mb, 12, none⟩ = some (.int .i64 P) ∧ wi.cell? ⟨L.mb, 14, none⟩ = some (.slice ca cn cc)) ∧ (match n with | 0 => True | _ + 1 => ∀ g, vs 13 = Value.pointer (some ⟨g, 0, none⟩) → Blk wi g 43 #[.int .i64 30, .int .i64 (d : Int), .int .i64 (e : Int), .int .i64 imm])) (Ix.vk [(Ix.kis _), (Ix.kis _), (Ix.kis _), (Ix.kis _), (Ix.kis _), (Ix.kis _), (Ix.kis _), (Ix.kis _), (Ix.kis _), (Ix.kis (.tuple #[insV 30 (d : Int) (e : Int) imm, .int .i64 n])), (Ix.kis _), (Ix.kis _), (Ix.kis _), (Ix.kwld (fun v w' => ∃ g, v = Value.pointer (some ⟨g, 0, none⟩) ∧ w.heap.size ≤ g ∧ ∃ a0 a1 a2 a3, Blk w' g 43 #[.int .i64 a0, .int .i64 a1, .int .i64 a2, .int .i64 a3]) (fun v w1 w2 h hb => by obtain ⟨g, e, hl, a0, a1, a2, a3, hi⟩ := h; exact ⟨g, e, hl, a0, a1, a2, a3, hi.keep hb⟩)), (Ix.ksat (fun _ => True))]) (fun k => k == 13) (by kernel_rfl) (by kernel_rfl) (by kernel_rfl) (by kernel_rfl) (by kernel_rfl) (fun n vs vs' w hk h => by cases n with | zero => exact h | succ n => exact ⟨h.1, fun g e => h.2 g ((hk 13 (by simp)).trans e)⟩) (fun _ => Below.refl _ _) (fun n vs _ _ h hb => ⟨⟨h.1.1.out.keep hb, h.1.2.1.out.below hb, Nat.le_trans h.1.2.2.1.out hb.size, by rw [(bcell hb).1 _ _ h.1.1.out.lt]; exact h.1.2.2.2.1, by rw [(bcell hb).1 _ _ h.1.1.out.lt]; exact h.1.2.2.2.2⟩, by cases n with | zero => trivial | succ n => exact fun g e => (h.2 g e).keep hb⟩) (Ix.vk_keeps _) (fun j v w hj hv => by simp only [beq_iff_eq] at hj; subst hj; obtain ⟨g, e, _, _, _, _, _, hg⟩ := hv; exact ⟨g, e, hg.lt⟩) (fun vs => ⟨⟨H.out.drew, Frm.drew (Frm.refl _ _ _), Nat.le_refl _, c12, c14⟩, trivial⟩)
  case step =>
    refine zys 14 0 1 [] (fun _ _ wi HB => ?_) <| zys 13 1 2 [(0, some 9)] (fun _ _ wi HB => ?_) <| zys 12 2 3 [(1, some 10)] (fun _ _ wi HB => ?_) <| zys 11 3 4 [(2, some 11)] (fun _ _ wi HB => ?_) <| zys 10 4 5 [] (fun _ _ wi HB => ?_) <| zys 9 5 6 [(4, some 13)] (fun _ _ wi HB => ?_) <| zys 8 6 7 [(5, some 14)] (fun _ _ wi HB => ?_) <| zys 7 7 8 [(6, some 15)] (fun _ _ wi HB => ?_) <| zys 6 8 9 [(7, some 16)] (fun _ _ wi HB => ?_) <| zys 5 9 10 [(3, some 12), (8, some 17)] (fun _ _ wi HB => ?_) <| zys 4 10 11 [(9, some 18)] (fun _ _ wi HB => ?_) <| zys 3 11 12 [(10, some 8)] (fun _ _ wi HB => ?_) <| zys 2 12 13 [(10, some 8)] (fun _ _ wi HB => ?_) <| zys 1 13 14 [] (fun _ _ wi HB => ?_) <| zyc 0 14 15 0 [(11, some 19), (13, some 3)] (fun vsp wi HB => ?_) <| Iy.steps_nil
    iterate 3 (· ((repeat (refine zya ?_; rintro _ rfl)); refine zye ?_; (try simp only [zyp]); refine Iy.goI_yes rfl rfl fun K hK => ?_; (try simp only [zyp] at hK); go_wp2_with (first | fail); exact hK _ _ (Below.refl _ _) rfl))
    (· (obtain ⟨⟨HM, HW, HZ, d12, d14⟩, _⟩ := HB; (repeat (refine zya ?_; rintro _ rfl)); refine zye ?_; (try simp only [zyp]); refine Iy.goI_yes rfl rfl fun K hK => ?_; (try simp only [zyp] at hK); go_wp2_with (first | fail); exact hK _ _ (Below.refl _ _) rfl))
    iterate 4 (· ((repeat (refine zya ?_; rintro _ rfl)); refine zye ?_; (try simp only [zyp]); refine Iy.goI_yes rfl rfl fun K hK => ?_; (try simp only [zyp] at hK); go_wp2_with (first | fail); exact hK _ _ (Below.refl _ _) rfl))
    (· (obtain ⟨⟨HM, HW, HZ, d12, d14⟩, _⟩ := HB; (repeat (refine zya ?_; rintro _ rfl)); refine zye ?_; (try simp only [zyp]); refine Iy.goI_yes rfl rfl fun K hK => ?_; (try simp only [zyp] at hK); go_wp2_with (first | fail); exact hK _ _ (Below.refl _ _) rfl))
    (· (obtain ⟨⟨HM, HW, HZ, d12, d14⟩, _⟩ := HB; (repeat (refine zya ?_; rintro _ rfl)); refine zye ?_; (try simp only [zyp]); refine Iy.goI_yes rfl rfl fun K hK => ?_; (try simp only [zyp] at hK); go_wp2_with (first | (go_at_call 42; refine (CI2.out _ (HW.out.to H.out)).mono ?_; rintro e w1 ⟨rfl, hba⟩)); exact hK _ _ hba rfl))
    iterate 3 (· ((repeat (refine zya ?_; rintro _ rfl)); refine zye ?_; (try simp only [zyp]); refine Iy.goI_yes rfl rfl fun K hK => ?_; (try simp only [zyp] at hK); go_wp2_with (first | fail); exact hK _ _ (Below.refl _ _) rfl))
    (· (obtain ⟨⟨HM, HW, HZ, d12, d14⟩, _⟩ := HB; (repeat (refine zya ?_; rintro _ rfl)); refine zye ?_; (try simp only [zyp]); refine Iy.goI_new rfl fun K hK => ?_; (try simp only [zyp] at hK); go_wp2_with (first | fail); exact hK _ (Ext.alloc (Below.refl _ _) _) ⟨_, rfl, HZ.out, 0, 0, 0, 0, Blk.new _ _ _⟩))
    (· (obtain ⟨⟨HM, HW, HZ, d12, d14⟩, _⟩ := HB; refine zya ?_; rintro _ ⟨rfl, ev11⟩; refine zya ?_; rintro _ ⟨⟨g, rfl, hgl, a0, a1, a2, a3, hgb⟩, ev13⟩; refine zye ?_; obtain ⟨i0, i1, i2, i3, j0, j1, j2, j3⟩ := In4.of_blk hgb; (try simp only [zyp]); refine Iy.goI_yes rfl rfl fun K hK => ?_; (try simp only [zyp] at hK); go_wp2_with (first | fail); (have HS := Lib.hid (ins_store HM.out HW.out hgl hgb 30 (d : Int) (e : Int) imm); exact hK undef _ ⟨⟨⟨HS.out.1, HS.out.2.1, Nat.le_trans HZ.out (Nat.le_of_eq (by simp)), ins_cell HM.out hgb d12 .., ins_cell HM.out hgb d14 ..⟩, ptr_same ev13 HS.out.2.2⟩, Iy.vk_turn (by repeat (first | exact True.intro | refine And.intro (fun _ h => h) ?_ | refine And.intro (fun hne => absurd rfl hne) ?_ | refine And.intro (fun _ h => ins_keep hgb h) ?_))⟩ trivial)))
  intro vsf wf HF hdf
  refine zyv 14 0 1 ?_; rintro _ _ rfl; refine zyv 13 1 2 ?_; rintro _ _ rfl; refine zyv 12 2 3 ?_; rintro _ _ rfl; refine zyv 11 3 4 ?_; rintro _ _ rfl; refine zyv 10 4 5 ?_; rintro _ _ rfl; refine zyv 9 5 6 ?_; rintro _ _ rfl; refine zyv 8 6 7 ?_; rintro _ _ rfl; refine zyv 7 7 8 ?_; rintro _ _ rfl; refine zyv 6 8 9 ?_; rintro _ _ rfl; refine zyv 5 9 10 ?_; rintro _ _ rfl; refine zyv 4 10 11 ?_; rintro _ _ rfl; refine zyv 3 11 12 ?_; rintro _ _ rfl; refine zyv 2 12 13 ?_; rintro _ _ rfl; refine zyv 1 13 14 ?_; rintro _ ev13 ⟨g, rfl, hgl, a0, a1, a2, a3, hgb⟩; refine zyv 0 14 15 ?_; rintro _ _ _
  refine Ix.allV_nil ?_
  obtain ⟨⟨HM, HW, HZ, d12, d14⟩, hgf⟩ := HF; have gB : B ≤ g := (Nat.le_trans H.out.hi hgl); have HG := Lib.hid (hgf g ev13); clear hgf hgb d12 d14 c12 c14
  (try simp only [Act.put, List.setIfInBounds_toArray, List.set_cons_zero, List.set_cons_succ, List.drop_succ_cons, List.drop_zero])
  go_wp2_with (first | fail)
  refine Ix.only ?_
  have hgm : ¬ g = L.mb := HG.out.ne_ HM.out.blk (by decide)
  have hmg : ¬ L.mb = g := fun e => hgm e.symm
  have HGN := Lib.hid (ins_far HG.out HM.out)
  obtain ⟨i0, i1, i2, i3, j0, j1, j2, j3⟩ := In4.of_blk HG.out
  obtain ⟨c12, f12⟩ := HM.out.at_ 12 (.int .i64 P) HE.out
  have hnx : bits .and .i64 (P + n) 65535 = (P + n) % 65536 := and65 _
  have hd := HD.out
  have he := HE8.out
  have d12 : ¬ d = 12 := (by omega)
  obtain ⟨⟨rd0, rd1⟩, re0, re1⟩ : (0 ≤ s.r d ∧ s.r d < 65536) ∧ (0 ≤ s.r e ∧ s.r e < 65536) := ⟨HOK.out.1 d hd, HOK.out.1 e he⟩
  obtain ⟨X, hX⟩ : ∃ X, X = s.r e % 256 := ⟨_, rfl⟩
  have hwu : IntKind.u8.wrap (s.r e) = X := by rw [hX, IntKind.wrap_u8]
  obtain ⟨N, hN⟩ : ∃ N, N = s.out.length := ⟨_, rfl⟩
  have hown := HM.out.out
  rw [← hN] at hown
  obtain ⟨oa, oc, hov, hob⟩ := own_slice hown
  have HE18 : Hid ((cells L s ov)[18]? = some (.slice oa N oc)) := by show (cells L s ov)[18]? = _; rw [← hov]; rfl
  obtain ⟨c18, f18⟩ := HM.out.at_ 18 (.slice oa N oc) HE18.out
  have hfl : ((N : Int) == 65536) = false := by simp; have := HFU.out; omega
  have hX8 : (Lit.int .u8 X).wf = true := by rw [hX]; simp [Lit.wf]; have h0 : IntKind.u8.min = 0 := rfl; have h1 : IntKind.u8.max = 255 := rfl; omega
  have hX2 := Lib.hid hX; have hN2 := Lib.hid hN; have HOV := Lib.hid hov
  have HOWN := Lib.hid hown; have HLE := Lib.hid HLEN.out
  have HE12 : Hid ((cells L s ov)[12]? = some (.int .i64 P)) := HE.out
  obtain ⟨iU, hi, hz0, hz1, hz2⟩ := info_parts Try.infoU8
  have hob2 : Hid (∀ k, ov.ownBlock = some k → k < wf.heap.size) := fun k hk => (hob k hk).2
  have HFL : Hid (N ≤ 65536) := by rw [hN]; exact HLEN.out
  clear hX hN hov hown hob
  go_wp2
  clear i0 i1 i2 i3 j0 j1 j2 j3 c12 f12 c18 f18
  apply Iy.wp_region 15 [14] (fun _ => []) (Ix.Rb) (fun n vs wi => (Hid (Frm L ov w wi) ∧ Hid (Blk wi g 43 #[.int .i64 30, .int .i64 (d : Int), .int .i64 (e : Int), .int .i64 imm]) ∧ Hid (Regs wi L s d e) ∧ Hid (wf.heap.size ≤ wi.heap.size) ∧ Hid (MachB wi B L s ov)) ∧ (match n with | 0 => Hid (wi.ownsRow B 5 1 ov N (s.out.map (Value.int .u8))) | _ + 1 => True)) (Ix.vk [(Ix.kis _), (Ix.kis _), (Ix.kis _), (Ix.kis _), (Ix.kis _), (Ix.kis _), (Ix.kis _), (Ix.kis _), (Ix.kis _), (Ix.kis _), (Ix.kis _), (Ix.kis _), (Ix.kis _), (Ix.kwld (fun v w' => ∃ g1, v = Value.slice (some ⟨g1, 0, none⟩) 1 1 ∧ wf.heap.size ≤ g1 ∧ w'.cell? ⟨g1, 0, none⟩ = some (.int .u8 X)) (fun v w1 w2 h hb => by obtain ⟨g1, e, hl, hi⟩ := h; exact ⟨g1, e, hl, by rw [(bcell hb).1 _ _ (World.block_lt_of_cell? _ ⟨g1, 0, none⟩ hi)]; exact hi⟩)), (Ix.kwld (fun v w' => ∃ a c, v = Value.slice a (N + 1) c ∧ w'.ownsRow B 5 1 (Value.slice a (N + 1) c) (N + 1) (s.out.map (Value.int .u8) ++ [.int .u8 X])) (fun v w1 w2 h hb => by obtain ⟨a, c, e, ho⟩ := h; exact ⟨a, c, e, ownsRow_below ho hb⟩))]) (fun _ => false) (by kernel_rfl) (by kernel_rfl) (by kernel_rfl) (by kernel_rfl) (by kernel_rfl) (fun _ _ _ _ _ h => h) (fun _ => Below.refl _ _) (fun n vs _ _ h hb => ⟨⟨h.1.1.out.below hb, h.1.2.1.out.keep hb, h.1.2.2.1.out.keep hb, Nat.le_trans h.1.2.2.2.1.out hb.size, h.1.2.2.2.2.out.keep hb⟩, by cases n with | zero => exact ownsRow_below h.2.out hb | succ n => trivial⟩) (Ix.vk_keeps _) (Ix.not_al _) (fun vs => ⟨⟨HW.out.drew, HG.out.drew, HM.out.drew.regs rfl hd he, Nat.le_refl _, HM.out.drew.b⟩, HOWN.out⟩)
  case step =>
    refine zys 14 0 1 [] (fun _ _ wi HB => ?_) <| zys 13 1 2 [] (fun _ _ wi HB => ?_) <| zys 12 2 3 [(1, some 245)] (fun _ _ wi HB => ?_) <| zys 11 3 4 [(2, some 246)] (fun _ _ wi HB => ?_) <| zys 10 4 5 [(3, some 247)] (fun _ _ wi HB => ?_) <| zys 9 5 6 [(4, some 248)] (fun _ _ wi HB => ?_) <| zys 8 6 7 [] (fun _ _ wi HB => ?_) <| zys 7 7 8 [] (fun _ _ wi HB => ?_) <| zys 6 8 9 [(7, some 251)] (fun _ _ wi HB => ?_) <| zys 5 9 10 [(6, some 250)] (fun _ _ wi HB => ?_) <| zys 4 10 11 [(8, some 252), (9, some 253)] (fun _ _ wi HB => ?_) <| zys 3 11 12 [(10, some 254)] (fun _ _ wi HB => ?_) <| zys 2 12 13 [(11, some 255)] (fun _ _ wi HB => ?_) <| zys 1 13 14 [(12, some 256)] (fun _ _ wi HB => ?_) <| zyc 0 14 15 0 [(5, some 249), (13, some 257)] (fun vsp wi HB => ?_) <| Iy.steps_nil
    iterate 5 (· ((repeat (refine zya ?_; rintro _ rfl)); refine zye ?_; (try simp only [zyp]); refine Iy.goI_yes rfl rfl fun K hK => ?_; (try simp only [zyp] at hK); go_wp2_with (first | fail); exact hK _ _ (Below.refl _ _) rfl))
    (· (obtain ⟨⟨HW, HG, HR, HN0, HMB⟩, HO⟩ := HB; obtain ⟨i0, i1, i2, i3, j0, j1, j2, j3⟩ := In4.of_blk HG.out; obtain ⟨⟨cd, fd⟩, ⟨ce, fe⟩, hml⟩ := HR.out; obtain ⟨c18, f18⟩ := HMB.out.at_ 18 (.slice oa N oc) HE18.out; (repeat (refine zya ?_; rintro _ rfl)); refine zye ?_; (try simp only [zyp]); refine Iy.goI_yes rfl rfl fun K hK => ?_; (try simp only [zyp] at hK); go_wp2_with (first | fail); exact hK _ _ (Below.refl _ _) rfl))
    iterate 2 (· ((repeat (refine zya ?_; rintro _ rfl)); refine zye ?_; (try simp only [zyp]); refine Iy.goI_yes rfl rfl fun K hK => ?_; (try simp only [zyp] at hK); go_wp2_with (first | fail); exact hK _ _ (Below.refl _ _) rfl))
    (· (obtain ⟨⟨HW, HG, HR, HN0, HMB⟩, HO⟩ := HB; obtain ⟨i0, i1, i2, i3, j0, j1, j2, j3⟩ := In4.of_blk HG.out; obtain ⟨⟨cd, fd⟩, ⟨ce, fe⟩, hml⟩ := HR.out; obtain ⟨c18, f18⟩ := HMB.out.at_ 18 (.slice oa N oc) HE18.out; (repeat (refine zya ?_; rintro _ rfl)); refine zye ?_; (try simp only [zyp]); refine Iy.goI_yes rfl rfl fun K hK => ?_; (try simp only [zyp] at hK); go_wp2_with (first | fail); exact hK _ _ (Below.refl _ _) rfl))
    iterate 2 (· ((repeat (refine zya ?_; rintro _ rfl)); refine zye ?_; (try simp only [zyp]); refine Iy.goI_yes rfl rfl fun K hK => ?_; (try simp only [zyp] at hK); go_wp2_with (first | fail); exact hK _ _ (Below.refl _ _) rfl))
    iterate 2 (· (obtain ⟨⟨HW, HG, HR, HN0, HMB⟩, HO⟩ := HB; obtain ⟨i0, i1, i2, i3, j0, j1, j2, j3⟩ := In4.of_blk HG.out; obtain ⟨⟨cd, fd⟩, ⟨ce, fe⟩, hml⟩ := HR.out; obtain ⟨c18, f18⟩ := HMB.out.at_ 18 (.slice oa N oc) HE18.out; (repeat (refine zya ?_; rintro _ rfl)); refine zye ?_; (try simp only [zyp]); refine Iy.goI_yes rfl rfl fun K hK => ?_; (try simp only [zyp] at hK); go_wp2_with (first | fail); exact hK _ _ (Below.refl _ _) rfl))
    (· (obtain ⟨⟨HW, HG, HR, HN0, HMB⟩, HO⟩ := HB; obtain ⟨i0, i1, i2, i3, j0, j1, j2, j3⟩ := In4.of_blk HG.out; obtain ⟨⟨cd, fd⟩, ⟨ce, fe⟩, hml⟩ := HR.out; obtain ⟨c18, f18⟩ := HMB.out.at_ 18 (.slice oa N oc) HE18.out; (repeat (refine zya ?_; rintro _ rfl)); refine zye ?_; (try simp only [zyp]); refine Iy.goI_yes rfl rfl fun K hK => ?_; (try simp only [zyp] at hK); go_wp2_with (first | fail); exact hK _ _ (Ext.alloc (Below.refl _ _) _) ⟨_, rfl, HN0.out, by simp [go_sem]⟩))
    (· (obtain ⟨⟨HW, HG, HR, HN0, HMB⟩, HO⟩ := HB; obtain ⟨i0, i1, i2, i3, j0, j1, j2, j3⟩ := In4.of_blk HG.out; obtain ⟨⟨cd, fd⟩, ⟨ce, fe⟩, hml⟩ := HR.out; obtain ⟨c18, f18⟩ := HMB.out.at_ 18 (.slice oa N oc) HE18.out; refine zya ?_; rintro _ ⟨rfl, ev5⟩; refine zya ?_; rintro _ ⟨⟨g1, rfl, hgl1, hc1⟩, ev13⟩; refine zye ?_; (try simp only [zyp]); refine Iy.goI_yes rfl rfl fun K hK => ?_; (try simp only [zyp] at hK); refine wp_append_own _ _ _ 28 rfl B 5 iU (.int .u8 0) 1 1 Try.underlying28 hi hz0 hz1 hz2 rfl (by decide) ov N (s.out.map (Value.int .u8)) (by rw [HOV.out]; rfl) HO.out ⟨g1, 0, none⟩ 1 1 [.int .u8 X] rfl rfl (one_at hc1) (one_cell rfl) (by have := HFL.out; unfold maxLen; omega) (by have := HFL.out; omega) HMB.out.hi ?_; intro v' w' ho hgr hnl; exact hK _ _ ⟨⟨⟨HW.out.grown hgr, HG.out.grown hgr (own_ne HO.out HG.out (by decide)), (HMB.out.grown hgr HO.out).regs rfl hd he, Nat.le_trans HN0.out hgr.size, HMB.out.grown hgr HO.out⟩, True.intro⟩, Iy.vk_turn (by repeat (first | exact True.intro | refine And.intro (fun _ h => h) ?_ | refine And.intro (fun hne => absurd rfl hne) ?_ | refine And.intro (fun _ h => slice_keep (hob2.out) hgr h) ?_))⟩ (own_slice2 ho)))
  intro vsf wf HF hdf
  refine zyv 14 0 1 ?_; rintro _ _ rfl; refine zyv 13 1 2 ?_; rintro _ _ rfl; refine zyv 12 2 3 ?_; rintro _ _ rfl; refine zyv 11 3 4 ?_; rintro _ _ rfl; refine zyv 10 4 5 ?_; rintro _ _ rfl; refine zyv 9 5 6 ?_; rintro _ _ rfl; refine zyv 8 6 7 ?_; rintro _ _ rfl; refine zyv 7 7 8 ?_; rintro _ _ rfl; refine zyv 6 8 9 ?_; rintro _ _ rfl; refine zyv 5 9 10 ?_; rintro _ _ rfl; refine zyv 4 10 11 ?_; rintro _ _ rfl; refine zyv 3 11 12 ?_; rintro _ _ rfl; refine zyv 2 12 13 ?_; rintro _ _ rfl; refine zyv 1 13 14 ?_; rintro _ _ ⟨g1, rfl, hgl1, hc1⟩; refine zyv 0 14 15 ?_; rintro _ _ ⟨oa2, oc2, rfl, hov2⟩
  refine Ix.allV_nil ?_
  obtain ⟨⟨HW, HG, HR, HN0, HMB⟩, HO⟩ := HF; obtain ⟨c18, f18⟩ := HMB.out.at_ 18 (.slice oa N oc) HE18.out; obtain ⟨c12, f12⟩ := HMB.out.at_ 12 (.int .i64 P) HE12.out
  (try simp only [Act.put, List.setIfInBounds_toArray, List.set_cons_zero, List.set_cons_succ, List.drop_succ_cons, List.drop_zero])
  go_wp2_with (first | fail)
  refine Ix.only ?_
  go_wp2
  go_ret
  obtain rfl := HPP.out
  exact ⟨rfl, .slice oa2 (N + 1) oc2, (HMB.out.told (s.r e % 256) (by rw [← hX2.out, ← hN2.out]; exact hov2)).setPc ((s.pc + n) % 65536), Frm.cell (Frm.cell HW.out (.inl rfl) _) (.inl rfl) _⟩
set_option maxHeartbeats 8000000 in
theorem step_full (B : Nat) (L : Lay) (s : St) (ov : Value) (inp : List Int) (D E imm n : Int) (d e : Nat) (hI : InsOk D E n imm d e) (hok : Mc.Ok s) (w : World) (hfull : s.out.length = 65536) (h : Mach w B L s ov) (hcv : ∃ ca cn cc, L.cv = .slice ca cn cc)
    (CI : ∀ w1 : World, Below B w w1 → Calls Try.prog 42 #[L.cv, .int .i64 s.pc] w1 (OneR 30 D E imm n w1)) :
    Calls Try.prog 63 #[mP L] w (Did B L ov (Mc.exec inp 30 d e imm (s.pc + n) s) w) := by
  have HX : Mc.exec inp 30 d e imm (s.pc + n) s = (s, 5) := by rw [exec_out, if_pos hfull]
  rw [HX]; clear HX
  obtain ⟨⟨rfl, hd⟩, ⟨rfl, he⟩, hn, him0, him1⟩ := hI
  obtain ⟨P, hP⟩ : ∃ P, P = s.pc := ⟨_, rfl⟩
  have hPb := hok.2.1
  have c12e : (cells L s ov)[12]? = some (.int .i64 P) := by rw [hP]; rfl
  rw [← hP] at hPb CI
  have HPP := Lib.hid hP
  obtain ⟨c12, f12⟩ := h.at_ 12 (.int .i64 P) c12e
  obtain ⟨c14, f14⟩ := h.at_ 14 L.cv rfl
  obtain ⟨ca, cn, cc, hcve⟩ := hcv
  rw [hcve] at c14 CI
  have CI2 := Lib.hid CI
  have H := Lib.hid h
  have HOK := Lib.hid hok
  have HE := Lib.hid c12e
  clear h hP hcve CI hok c12e
  obtain ⟨hP0, hP1⟩ := hPb
  have HD := Lib.hid hd; have HE8 := Lib.hid he; have HN := Lib.hid hn
  have hn0 : (n == 0) = false := by simp; omega
  clear hd he
  have HFU := Lib.hid hfull
  clear hfull
  go_enter Try.func63, Try.ntmps63
  go_wp2
  apply Iy.wp_region 15 [14] (fun n => if n = 0 then [] else [13]) (Ix.Rb) (fun n vs wi => (Hid (Mach wi B L s ov) ∧ Hid (Frm L ov w wi) ∧ Hid (w.heap.size ≤ wi.heap.size) ∧ wi.cell? ⟨L.mb, 12, none⟩ = some (.int .i64 P) ∧ wi.cell? ⟨L.mb, 14, none⟩ = some (.slice ca cn cc)) ∧ (match n with | 0 => True | _ + 1 => ∀ g, vs 13 = Value.pointer (some ⟨g, 0, none⟩) → Blk wi g 43 #[.int .i64 30, .int .i64 (d : Int), .int .i64 (e : Int), .int .i64 imm])) (Ix.vk [(Ix.kis _), (Ix.kis _), (Ix.kis _), (Ix.kis _), (Ix.kis _), (Ix.kis _), (Ix.kis _), (Ix.kis _), (Ix.kis _), (Ix.kis (.tuple #[insV 30 (d : Int) (e : Int) imm, .int .i64 n])), (Ix.kis _), (Ix.kis _), (Ix.kis _), (Ix.kwld (fun v w' => ∃ g, v = Value.pointer (some ⟨g, 0, none⟩) ∧ w.heap.size ≤ g ∧ ∃ a0 a1 a2 a3, Blk w' g 43 #[.int .i64 a0, .int .i64 a1, .int .i64 a2, .int .i64 a3]) (fun v w1 w2 h hb => by obtain ⟨g, e, hl, a0, a1, a2, a3, hi⟩ := h; exact ⟨g, e, hl, a0, a1, a2, a3, hi.keep hb⟩)), (Ix.ksat (fun _ => True))]) (fun k => k == 13) (by kernel_rfl) (by kernel_rfl) (by kernel_rfl) (by kernel_rfl) (by kernel_rfl) (fun n vs vs' w hk h => by cases n with | zero => exact h | succ n => exact ⟨h.1, fun g e => h.2 g ((hk 13 (by simp)).trans e)⟩) (fun _ => Below.refl _ _) (fun n vs _ _ h hb => ⟨⟨h.1.1.out.keep hb, h.1.2.1.out.below hb, Nat.le_trans h.1.2.2.1.out hb.size, by rw [(bcell hb).1 _ _ h.1.1.out.lt]; exact h.1.2.2.2.1, by rw [(bcell hb).1 _ _ h.1.1.out.lt]; exact h.1.2.2.2.2⟩, by cases n with | zero => trivial | succ n => exact fun g e => (h.2 g e).keep hb⟩) (Ix.vk_keeps _) (fun j v w hj hv => by simp only [beq_iff_eq] at hj; subst hj; obtain ⟨g, e, _, _, _, _, _, hg⟩ := hv; exact ⟨g, e, hg.lt⟩) (fun vs => ⟨⟨H.out.drew, Frm.drew (Frm.refl _ _ _), Nat.le_refl _, c12, c14⟩, trivial⟩)
  case step =>
    refine zys 14 0 1 [] (fun _ _ wi HB => ?_) <| zys 13 1 2 [(0, some 9)] (fun _ _ wi HB => ?_) <| zys 12 2 3 [(1, some 10)] (fun _ _ wi HB => ?_) <| zys 11 3 4 [(2, some 11)] (fun _ _ wi HB => ?_) <| zys 10 4 5 [] (fun _ _ wi HB => ?_) <| zys 9 5 6 [(4, some 13)] (fun _ _ wi HB => ?_) <| zys 8 6 7 [(5, some 14)] (fun _ _ wi HB => ?_) <| zys 7 7 8 [(6, some 15)] (fun _ _ wi HB => ?_) <| zys 6 8 9 [(7, some 16)] (fun _ _ wi HB => ?_) <| zys 5 9 10 [(3, some 12), (8, some 17)] (fun _ _ wi HB => ?_) <| zys 4 10 11 [(9, some 18)] (fun _ _ wi HB => ?_) <| zys 3 11 12 [(10, some 8)] (fun _ _ wi HB => ?_) <| zys 2 12 13 [(10, some 8)] (fun _ _ wi HB => ?_) <| zys 1 13 14 [] (fun _ _ wi HB => ?_) <| zyc 0 14 15 0 [(11, some 19), (13, some 3)] (fun vsp wi HB => ?_) <| Iy.steps_nil
    iterate 3 (· ((repeat (refine zya ?_; rintro _ rfl)); refine zye ?_; (try simp only [zyp]); refine Iy.goI_yes rfl rfl fun K hK => ?_; (try simp only [zyp] at hK); go_wp2_with (first | fail); exact hK _ _ (Below.refl _ _) rfl))
    (· (obtain ⟨⟨HM, HW, HZ, d12, d14⟩, _⟩ := HB; (repeat (refine zya ?_; rintro _ rfl)); refine zye ?_; (try simp only [zyp]); refine Iy.goI_yes rfl rfl fun K hK => ?_; (try simp only [zyp] at hK); go_wp2_with (first | fail); exact hK _ _ (Below.refl _ _) rfl))
    iterate 4 (· ((repeat (refine zya ?_; rintro _ rfl)); refine zye ?_; (try simp only [zyp]); refine Iy.goI_yes rfl rfl fun K hK => ?_; (try simp only [zyp] at hK); go_wp2_with (first | fail); exact hK _ _ (Below.refl _ _) rfl))
    (· (obtain ⟨⟨HM, HW, HZ, d12, d14⟩, _⟩ := HB; (repeat (refine zya ?_; rintro _ rfl)); refine zye ?_; (try simp only [zyp]); refine Iy.goI_yes rfl rfl fun K hK => ?_; (try simp only [zyp] at hK); go_wp2_with (first | fail); exact hK _ _ (Below.refl _ _) rfl))
    (· (obtain ⟨⟨HM, HW, HZ, d12, d14⟩, _⟩ := HB; (repeat (refine zya ?_; rintro _ rfl)); refine zye ?_; (try simp only [zyp]); refine Iy.goI_yes rfl rfl fun K hK => ?_; (try simp only [zyp] at hK); go_wp2_with (first | (go_at_call 42; refine (CI2.out _ (HW.out.to H.out)).mono ?_; rintro e w1 ⟨rfl, hba⟩)); exact hK _ _ hba rfl))
    iterate 3 (· ((repeat (refine zya ?_; rintro _ rfl)); refine zye ?_; (try simp only [zyp]); refine Iy.goI_yes rfl rfl fun K hK => ?_; (try simp only [zyp] at hK); go_wp2_with (first | fail); exact hK _ _ (Below.refl _ _) rfl))
    (· (obtain ⟨⟨HM, HW, HZ, d12, d14⟩, _⟩ := HB; (repeat (refine zya ?_; rintro _ rfl)); refine zye ?_; (try simp only [zyp]); refine Iy.goI_new rfl fun K hK => ?_; (try simp only [zyp] at hK); go_wp2_with (first | fail); exact hK _ (Ext.alloc (Below.refl _ _) _) ⟨_, rfl, HZ.out, 0, 0, 0, 0, Blk.new _ _ _⟩))
    (· (obtain ⟨⟨HM, HW, HZ, d12, d14⟩, _⟩ := HB; refine zya ?_; rintro _ ⟨rfl, ev11⟩; refine zya ?_; rintro _ ⟨⟨g, rfl, hgl, a0, a1, a2, a3, hgb⟩, ev13⟩; refine zye ?_; obtain ⟨i0, i1, i2, i3, j0, j1, j2, j3⟩ := In4.of_blk hgb; (try simp only [zyp]); refine Iy.goI_yes rfl rfl fun K hK => ?_; (try simp only [zyp] at hK); go_wp2_with (first | fail); (have HS := Lib.hid (ins_store HM.out HW.out hgl hgb 30 (d : Int) (e : Int) imm); exact hK undef _ ⟨⟨⟨HS.out.1, HS.out.2.1, Nat.le_trans HZ.out (Nat.le_of_eq (by simp)), ins_cell HM.out hgb d12 .., ins_cell HM.out hgb d14 ..⟩, ptr_same ev13 HS.out.2.2⟩, Iy.vk_turn (by repeat (first | exact True.intro | refine And.intro (fun _ h => h) ?_ | refine And.intro (fun hne => absurd rfl hne) ?_ | refine And.intro (fun _ h => ins_keep hgb h) ?_))⟩ trivial)))
  intro vsf wf HF hdf
  refine zyv 14 0 1 ?_; rintro _ _ rfl; refine zyv 13 1 2 ?_; rintro _ _ rfl; refine zyv 12 2 3 ?_; rintro _ _ rfl; refine zyv 11 3 4 ?_; rintro _ _ rfl; refine zyv 10 4 5 ?_; rintro _ _ rfl; refine zyv 9 5 6 ?_; rintro _ _ rfl; refine zyv 8 6 7 ?_; rintro _ _ rfl; refine zyv 7 7 8 ?_; rintro _ _ rfl; refine zyv 6 8 9 ?_; rintro _ _ rfl; refine zyv 5 9 10 ?_; rintro _ _ rfl; refine zyv 4 10 11 ?_; rintro _ _ rfl; refine zyv 3 11 12 ?_; rintro _ _ rfl; refine zyv 2 12 13 ?_; rintro _ _ rfl; refine zyv 1 13 14 ?_; rintro _ ev13 ⟨g, rfl, hgl, a0, a1, a2, a3, hgb⟩; refine zyv 0 14 15 ?_; rintro _ _ _
  refine Ix.allV_nil ?_
  obtain ⟨⟨HM, HW, HZ, d12, d14⟩, hgf⟩ := HF; have gB : B ≤ g := (Nat.le_trans H.out.hi hgl); have HG := Lib.hid (hgf g ev13); clear hgf hgb d12 d14 c12 c14
  (try simp only [Act.put, List.setIfInBounds_toArray, List.set_cons_zero, List.set_cons_succ, List.drop_succ_cons, List.drop_zero])
  go_wp2_with (first | fail)
  refine Ix.only ?_
  have hgm : ¬ g = L.mb := HG.out.ne_ HM.out.blk (by decide)
  have hmg : ¬ L.mb = g := fun e => hgm e.symm
  have HGN := Lib.hid (ins_far HG.out HM.out)
  obtain ⟨i0, i1, i2, i3, j0, j1, j2, j3⟩ := In4.of_blk HG.out
  obtain ⟨c12, f12⟩ := HM.out.at_ 12 (.int .i64 P) HE.out
  have hnx : bits .and .i64 (P + n) 65535 = (P + n) % 65536 := and65 _
  obtain ⟨oa, oc, hov, hob⟩ := own_slice HM.out.out
  have HE18 : Hid ((cells L s ov)[18]? = some (.slice oa 65536 oc)) := by show (cells L s ov)[18]? = _; rw [← HFU.out, ← hov]; rfl
  obtain ⟨c18, f18⟩ := HM.out.at_ 18 (.slice oa 65536 oc) HE18.out
  clear hov hob
  go_wp2
  go_ret
  exact ⟨rfl, ov, HM.out, HW.out⟩
end Go.Proofs.Ytfjgnhmmakeaeaa
