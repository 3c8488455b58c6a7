/- The document's machine: a step, whole. -/
import Derived.Test.YtfjgnhmmakeaeaaPt2
import Derived.Test.YtfjgnhmmakeaeaaBT
import Derived.Test.YtfjgnhmmakeaeaaBS
import Derived.Test.YtfjgnhmmakeaeaaS4
import Derived.Test.YtfjgnhmmakeaeaaS5
import Derived.Test.YtfjgnhmmakeaeaaS7
import Derived.Test.YtfjgnhmmakeaeaaS8
import Derived.Test.YtfjgnhmmakeaeaaS9
import Derived.Test.YtfjgnhmmakeaeaaE21
namespace Go.Proofs.Ytfjgnhmmakeaeaa
open Go.RowKit Go.Maps
set_option linter.unusedVariables false
set_option linter.unusedSimpArgs false
set_option maxRecDepth 100000
open Mc
set_option maxHeartbeats 8000000 in
/-- No instruction is there. -/
theorem step3_bad (B : Nat) (L : Lay3) (N : Nat) (ms : List Int) (s : St) (ov : Value) (op dd ee imm : Int) (w : World) (h : Box3 w B L N ms s ov) (hcv : ∃ ca cn cc, L.cv = .slice ca cn cc)
    (CI : ∀ w1 : World, Below B w w1 → Calls Try.prog 59 #[L.cv, .int .i64 s.pc] w1 (OneR op dd ee imm 0 w1)) :
    Calls Try.prog 44 #[bP L] w (Did3 B L N ms ov (s, 4) w) := by
  obtain ⟨P, hP⟩ : ∃ P, P = s.pc := ⟨_, rfl⟩
  have c13e : (cells3 L s ov)[13]? = some (.int .i64 P) := by rw [hP]; rfl
  rw [← hP] at CI
  obtain ⟨c13, f13⟩ := h.at_ 13 (.int .i64 P) c13e
  obtain ⟨c0, f0⟩ := h.at_ 0 L.cv rfl
  obtain ⟨ca, cn, cc, hcve⟩ := hcv
  rw [hcve] at c0 CI
  have CI2 := Lib.hid CI
  have H := Lib.hid h
  clear h hP hcve CI c13e
  go_enter Try.func44, Try.ntmps44
  go_wp2
  apply Iy.wp_region 15 [14] (fun n => if n = 0 then [] else [13]) (Ix.Rb) (fun n vs wi => (Hid (Box3 wi B L N ms s ov) ∧ Hid (Frm3 L ov w wi) ∧ Hid (w.heap.size ≤ wi.heap.size) ∧ wi.cell? ⟨L.bb, 13, none⟩ = some (.int .i64 P) ∧ wi.cell? ⟨L.bb, 0, none⟩ = some (.slice ca cn cc)) ∧ (match n with | 0 => True | _ + 1 => ∀ g, vs 13 = Value.pointer (some ⟨g, 0, none⟩) → Blk wi g 43 #[.int .i64 op, .int .i64 dd, .int .i64 ee, .int .i64 imm])) (Ix.vk [(Ix.kis _), (Ix.kis _), (Ix.kis _), (Ix.kis _), (Ix.kis _), (Ix.kis _), (Ix.kis _), (Ix.kis _), (Ix.kis _), (Ix.kis (.tuple #[insV op dd ee imm, .int .i64 0])), (Ix.kis _), (Ix.kis _), (Ix.kis _), (Ix.kwld (fun v w' => ∃ g, v = Value.pointer (some ⟨g, 0, none⟩) ∧ w.heap.size ≤ g ∧ ∃ a0 a1 a2 a3, Blk w' g 43 #[.int .i64 a0, .int .i64 a1, .int .i64 a2, .int .i64 a3]) (fun v w1 w2 h hb => by obtain ⟨g, e, hl, a0, a1, a2, a3, hi⟩ := h; exact ⟨g, e, hl, a0, a1, a2, a3, hi.keep hb⟩)), (Ix.ksat (fun _ => True))]) (fun k => k == 13) (by kernel_rfl) (by kernel_rfl) (by kernel_rfl) (by kernel_rfl) (by kernel_rfl) (fun n vs vs' w hk h => by cases n with | zero => exact h | succ n => exact ⟨h.1, fun g e => h.2 g ((hk 13 (by simp)).trans e)⟩) (fun _ => Below.refl _ _) (fun n vs _ _ h hb => ⟨⟨h.1.1.out.keep hb, h.1.2.1.out.below hb, Nat.le_trans h.1.2.2.1.out hb.size, by rw [(bcell hb).1 _ _ h.1.1.out.lt]; exact h.1.2.2.2.1, by rw [(bcell hb).1 _ _ h.1.1.out.lt]; exact h.1.2.2.2.2⟩, by cases n with | zero => trivial | succ n => exact fun g e => (h.2 g e).keep hb⟩) (Ix.vk_keeps _) (fun j v w hj hv => by simp only [beq_iff_eq] at hj; subst hj; obtain ⟨g, e, _, _, _, _, _, hg⟩ := hv; exact ⟨g, e, hg.lt⟩) (fun vs => ⟨⟨H.out.drew, Frm3.drew (Frm3.refl _ _ _), Nat.le_refl _, c13, c0⟩, trivial⟩)
  case step =>
    refine zys 14 0 1 [] (fun _ _ wi HB => ?_) <| zys 13 1 2 [(0, some 18)] (fun _ _ wi HB => ?_) <| zys 12 2 3 [(1, some 19)] (fun _ _ wi HB => ?_) <| zys 11 3 4 [(2, some 20)] (fun _ _ wi HB => ?_) <| zys 10 4 5 [] (fun _ _ wi HB => ?_) <| zys 9 5 6 [(4, some 22)] (fun _ _ wi HB => ?_) <| zys 8 6 7 [(5, some 23)] (fun _ _ wi HB => ?_) <| zys 7 7 8 [(6, some 24)] (fun _ _ wi HB => ?_) <| zys 6 8 9 [(7, some 25)] (fun _ _ wi HB => ?_) <| zys 5 9 10 [(3, some 21), (8, some 26)] (fun _ _ wi HB => ?_) <| zys 4 10 11 [(9, some 27)] (fun _ _ wi HB => ?_) <| zys 3 11 12 [(10, some 17)] (fun _ _ wi HB => ?_) <| zys 2 12 13 [(10, some 17)] (fun _ _ wi HB => ?_) <| zys 1 13 14 [] (fun _ _ wi HB => ?_) <| zyc 0 14 15 0 [(11, some 28), (13, some 3)] (fun vsp wi HB => ?_) <| Iy.steps_nil
    iterate 3 (· ((repeat (refine zya ?_; rintro _ rfl)); refine zye ?_; (try simp only [zyp]); refine Iy.goI_yes rfl rfl fun K hK => ?_; (try simp only [zyp] at hK); go_wp2_with (first | fail); exact hK _ _ (Below.refl _ _) rfl))
    (· (obtain ⟨⟨HM, HW, HZ, d13, d0⟩, _⟩ := HB; (repeat (refine zya ?_; rintro _ rfl)); refine zye ?_; (try simp only [zyp]); refine Iy.goI_yes rfl rfl fun K hK => ?_; (try simp only [zyp] at hK); go_wp2_with (first | fail); exact hK _ _ (Below.refl _ _) rfl))
    iterate 4 (· ((repeat (refine zya ?_; rintro _ rfl)); refine zye ?_; (try simp only [zyp]); refine Iy.goI_yes rfl rfl fun K hK => ?_; (try simp only [zyp] at hK); go_wp2_with (first | fail); exact hK _ _ (Below.refl _ _) rfl))
    (· (obtain ⟨⟨HM, HW, HZ, d13, d0⟩, _⟩ := HB; (repeat (refine zya ?_; rintro _ rfl)); refine zye ?_; (try simp only [zyp]); refine Iy.goI_yes rfl rfl fun K hK => ?_; (try simp only [zyp] at hK); go_wp2_with (first | fail); exact hK _ _ (Below.refl _ _) rfl))
    (· (obtain ⟨⟨HM, HW, HZ, d13, d0⟩, _⟩ := HB; (repeat (refine zya ?_; rintro _ rfl)); refine zye ?_; (try simp only [zyp]); refine Iy.goI_yes rfl rfl fun K hK => ?_; (try simp only [zyp] at hK); go_wp2_with (first | (go_at_call 59; refine (CI2.out _ (HW.out.to H.out)).mono ?_; rintro e w1 ⟨rfl, hba⟩)); exact hK _ _ hba rfl))
    iterate 3 (· ((repeat (refine zya ?_; rintro _ rfl)); refine zye ?_; (try simp only [zyp]); refine Iy.goI_yes rfl rfl fun K hK => ?_; (try simp only [zyp] at hK); go_wp2_with (first | fail); exact hK _ _ (Below.refl _ _) rfl))
    (· (obtain ⟨⟨HM, HW, HZ, d13, d0⟩, _⟩ := HB; (repeat (refine zya ?_; rintro _ rfl)); refine zye ?_; (try simp only [zyp]); refine Iy.goI_new rfl fun K hK => ?_; (try simp only [zyp] at hK); go_wp2_with (first | fail); exact hK _ (Ext.alloc (Below.refl _ _) _) ⟨_, rfl, HZ.out, 0, 0, 0, 0, Blk.new _ _ _⟩))
    (· (obtain ⟨⟨HM, HW, HZ, d13, d0⟩, _⟩ := HB; refine zya ?_; rintro _ ⟨rfl, ev11⟩; refine zya ?_; rintro _ ⟨⟨g, rfl, hgl, a0, a1, a2, a3, hgb⟩, ev13⟩; refine zye ?_; obtain ⟨i0, i1, i2, i3, j0, j1, j2, j3⟩ := In4.of_blk hgb; (try simp only [zyp]); refine Iy.goI_yes rfl rfl fun K hK => ?_; (try simp only [zyp] at hK); go_wp2_with (first | fail); (have HS := Lib.hid (ins_store3 HM.out HW.out hgl hgb op dd ee imm); exact hK undef _ ⟨⟨⟨HS.out.1, HS.out.2.1, Nat.le_trans HZ.out (Nat.le_of_eq (by simp)), ins_cell3 HM.out hgb d13 .., ins_cell3 HM.out hgb d0 ..⟩, ptr_same ev13 HS.out.2.2⟩, Iy.vk_turn (by repeat (first | exact True.intro | refine And.intro (fun _ h => h) ?_ | refine And.intro (fun hne => absurd rfl hne) ?_ | refine And.intro (fun _ h => ins_keep hgb h) ?_))⟩ trivial)))
  intro vsf wf HF hdf
  refine zyv 14 0 1 ?_; rintro _ _ rfl; refine zyv 13 1 2 ?_; rintro _ _ rfl; refine zyv 12 2 3 ?_; rintro _ _ rfl; refine zyv 11 3 4 ?_; rintro _ _ rfl; refine zyv 10 4 5 ?_; rintro _ _ rfl; refine zyv 9 5 6 ?_; rintro _ _ rfl; refine zyv 8 6 7 ?_; rintro _ _ rfl; refine zyv 7 7 8 ?_; rintro _ _ rfl; refine zyv 6 8 9 ?_; rintro _ _ rfl; refine zyv 5 9 10 ?_; rintro _ _ rfl; refine zyv 4 10 11 ?_; rintro _ _ rfl; refine zyv 3 11 12 ?_; rintro _ _ rfl; refine zyv 2 12 13 ?_; rintro _ _ rfl; refine zyv 1 13 14 ?_; rintro _ ev13 ⟨g, rfl, hgl, a0, a1, a2, a3, hgb⟩; refine zyv 0 14 15 ?_; rintro _ _ _
  refine Ix.allV_nil ?_
  obtain ⟨⟨HM, HW, HZ, d13, d0⟩, hgf⟩ := HF; have gB : B ≤ g := (Nat.le_trans H.out.hi hgl); have HG := Lib.hid (hgf g ev13); clear hgf hgb d13 d0 c13 c0
  (try simp only [Act.put, List.setIfInBounds_toArray, List.set_cons_zero, List.set_cons_succ, List.drop_succ_cons, List.drop_zero])
  go_wp2_with (first | fail)
  refine Ix.only ?_
  go_wp2
  go_ret
  exact ⟨rfl, N, ov, by omega, HM.out, HW.out⟩
/-- THE STEP. -/
theorem step3_ok (B : Nat) (L : Lay3) (N : Nat) (ms : List Int) (s : St) (ov : Value) (nC nI : Nat) (cd inp : List Int) (hok : Mc.Ok s) (hNN : N < 9000000) (w : World) (h : Box3 w B L N ms s ov) (hc : RdB w B L.cv nC (cd.map (Value.int .i64))) (hnC : nC ≤ 65536)
    (hmb : RdB w B (.slice L.ma L.mn L.mcap) L.mn (ms.map (Value.int .i64))) (hib : RdB w B L.iv nI (inp.map (Value.int .u8))) (hnI : nI ≤ 65536) (hrd : s.read ≤ nI) (hby : ∀ x ∈ inp, 0 ≤ x ∧ x < 256) (hlen : s.out.length ≤ 65536) :
    Calls Try.prog 44 #[bP L] w (Did3 B L N ms ov (Mc.step cd inp s) w) := by
  have CI : ∀ w1 : World, Below B w w1 → Calls Try.prog 59 #[L.cv, .int .i64 s.pc] w1 (OneR (U.one cd s.pc).op (U.one cd s.pc).d (U.one cd s.pc).s (U.one cd s.pc).imm (U.one cd s.pc).n w1) := fun w1 hb => one2_ok L.cv nC cd (by omega) s.pc w1 (hc.below hb).1
  have hcv : ∃ ca cn cc, L.cv = .slice ca cn cc := by
    obtain ⟨⟨_, _, a, cap, hv, _⟩, _⟩ := hc
    exact ⟨a, nC, cap, hv⟩
  unfold Mc.step
  by_cases hz : (U.one cd s.pc).n = 0
  · rw [if_pos hz]
    rw [hz] at CI
    exact step3_bad B L N ms s ov _ _ _ _ w h hcv CI
  rw [if_neg hz]
  obtain ⟨⟨o0, o1⟩, ⟨d0, d1⟩, ⟨s0, s1⟩, hn, i0, i1⟩ := U.one_in cd s.pc hz
  have hI : InsOk (U.one cd s.pc).d (U.one cd s.pc).s (U.one cd s.pc).n (U.one cd s.pc).imm (U.one cd s.pc).d.toNat (U.one cd s.pc).s.toNat := ⟨⟨by omega, by omega⟩, ⟨by omega, by omega⟩, hn, i0, i1⟩
  generalize (U.one cd s.pc).op = op at *
  generalize (U.one cd s.pc).d = D at *
  generalize (U.one cd s.pc).s = E at *
  generalize (U.one cd s.pc).n = n at *
  generalize (U.one cd s.pc).imm = imm at *
  generalize D.toNat = d at *
  generalize E.toNat = e at *
  rcases (show (op = 0 ∨ op = 32 ∨ op = 1 ∨ op = 2 ∨ op = 4 ∨ op = 28 ∨ op = 29) ∨ (op = 19 ∨ op = 20 ∨ op = 21 ∨ op = 22 ∨ op = 23 ∨ op = 24 ∨ op = 25 ∨ op = 26 ∨ op = 27) ∨ (op = 12 ∨ op = 13) ∨ (op = 3 ∨ op = 31) ∨ (op = 5 ∨ op = 6 ∨ op = 7 ∨ op = 8) ∨ op = 30 ∨ (op = 9 ∨ op = 10 ∨ op = 11) ∨ (op = 14 ∨ op = 15) ∨ (op = 16 ∨ op = 17 ∨ op = 18) by omega) with
    h1 | h1 | h1 | h1 | h1 | h1 | h1 | h1 | h1
  · exact step3_g1 B L N ms s ov inp op D E imm n d e h1 hI hok hNN w hmb h hcv CI
  · exact step3_g2 B L N ms s ov inp op D E imm n d e h1 hI hok hNN w hmb h hcv CI
  · exact step3_g3 B L N ms s ov inp op D E imm n d e h1 hI hok hNN w h hcv CI
  · exact step3_g4 B L N ms s ov inp op D E imm n d e h1 hI hok hNN w hmb nI hib hnI hrd hby h hcv CI
  · exact step3_g5 B L N ms s ov inp op D E imm n d e h1 hI hok hNN w h hcv CI
  · exact step3_g6 B L N ms s ov inp op D E imm n d e h1 hI hok hNN w hlen h hcv CI
  · exact step3_g7 B L N ms s ov inp op D E imm n d e h1 hI hok hNN w h hcv CI
  · exact step3_g8 B L N ms s ov inp op D E imm n d e h1 hI hok hNN w h hcv CI
  · exact step3_g9 B L N ms s ov inp op D E imm n d e h1 hI hok hNN w h hcv CI
end Go.Proofs.Ytfjgnhmmakeaeaa
