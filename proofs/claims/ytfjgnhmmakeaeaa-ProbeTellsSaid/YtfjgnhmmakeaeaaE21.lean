/- The machine: a step, whole. -/
import Derived.Test.YtfjgnhmmakeaeaaPt2
import Derived.Test.YtfjgnhmmakeaeaaE12
import Derived.Test.YtfjgnhmmakeaeaaE13
import Derived.Test.YtfjgnhmmakeaeaaE14
import Derived.Test.YtfjgnhmmakeaeaaE15
import Derived.Test.YtfjgnhmmakeaeaaE16
import Derived.Test.YtfjgnhmmakeaeaaE17
import Derived.Test.YtfjgnhmmakeaeaaE18
import Derived.Test.YtfjgnhmmakeaeaaE19
import Derived.Test.YtfjgnhmmakeaeaaE20
namespace Go.Proofs.Ytfjgnhmmakeaeaa
open Go.RowKit
set_option linter.unusedVariables false
set_option linter.unusedSimpArgs false
set_option maxRecDepth 100000
open Mc

/-- A step, whole. -/
def Mc.step (cd inp : List Int) (s : St) : St × Int :=
  if (U.one cd s.pc).n = 0 then (s, 4)
  else Mc.exec inp (U.one cd s.pc).op (U.one cd s.pc).d.toNat (U.one cd s.pc).s.toNat (U.one cd s.pc).imm (s.pc + (U.one cd s.pc).n) s
namespace U
theorem hk_bd {op : Int} (h : hk op = true) : 0 ≤ op ∧ op ≤ 32 := by simpa [hk] using h
/-- What One gives is an instruction. -/
theorem one_in (ws : List Int) (pc : Int) (h : (one ws pc).n ≠ 0) : (0 ≤ (one ws pc).op ∧ (one ws pc).op ≤ 32) ∧ (0 ≤ (one ws pc).d ∧ (one ws pc).d < 8) ∧ (0 ≤ (one ws pc).s ∧ (one ws pc).s < 8) ∧ ((one ws pc).n = 1 ∨ (one ws pc).n = 2) ∧ 0 ≤ (one ws pc).imm ∧ (one ws pc).imm < 65536 := by
  unfold one at h ⊢
  split at h
  · exact absurd rfl h
  rename_i h1
  rw [if_neg h1]
  split at h
  · exact absurd rfl h
  rename_i h2
  rw [if_neg h2]
  split at h
  · exact absurd rfl h
  rename_i h3
  rw [if_neg h3]
  have hop : 0 ≤ opOf (ws.getD pc.toNat 0) ∧ opOf (ws.getD pc.toNat 0) ≤ 32 := by
    have h3' : first (ws.getD pc.toNat 0) = true := by simpa using h3
    unfold first at h3'
    simp only [Bool.and_eq_true] at h3'
    exact hk_bd h3'.1.1.1
  have hd : 0 ≤ dOf (ws.getD pc.toNat 0) ∧ dOf (ws.getD pc.toNat 0) < 8 := by unfold dOf; omega
  have hs : 0 ≤ sOf (ws.getD pc.toNat 0) ∧ sOf (ws.getD pc.toNat 0) < 8 := by unfold sOf; omega
  split at h
  · rename_i h4
    rw [if_pos h4]
    exact ⟨hop, hd, hs, .inl rfl, Int.le_refl _, show (0 : Int) < 65536 by decide⟩
  rename_i h4
  rw [if_neg h4]
  split at h
  · exact absurd rfl h
  rename_i h5
  rw [if_neg h5]
  split at h
  · exact absurd rfl h
  rename_i h6
  rw [if_neg h6]
  refine ⟨hop, hd, hs, .inr rfl, ?_⟩
  have h6' : wd (ws.getD (pc.toNat + 1) 0) = true := by simpa using h6
  have h7 := of_decide_eq_true h6'
  exact ⟨h7.1, show ws.getD (pc.toNat + 1) 0 < 65536 by omega⟩
end U
set_option maxHeartbeats 8000000 in
/-- No instruction is there. -/
theorem step_bad (B : Nat) (L : Lay) (s : St) (ov : Value) (w : World) (h : Mach w B L s ov) (hcv : ∃ ca cn cc, L.cv = .slice ca cn cc)
    (CI : ∀ w1 : World, Below B w w1 → Calls Try.prog 42 #[L.cv, .int .i64 s.pc] w1 (fun e w' => ∃ a b c d, e = .returned (.tuple #[insV a b c d, .int .i64 0]) ∧ Below w1.heap.size w1 w')) :
    Calls Try.prog 63 #[mP L] w (Did B L ov (s, 4) w) := by
  obtain ⟨P, hP⟩ : ∃ P, P = s.pc := ⟨_, rfl⟩
  have c12e : (cells L s ov)[12]? = some (.int .i64 P) := by rw [hP]; rfl
  rw [← hP] at CI
  obtain ⟨c12, f12⟩ := h.at_ 12 (.int .i64 P) c12e
  obtain ⟨c14, f14⟩ := h.at_ 14 L.cv rfl
  obtain ⟨ca, cn, cc, hcve⟩ := hcv
  rw [hcve] at c14 CI
  have CI2 := Lib.hid CI
  have H := Lib.hid h
  clear h hP hcve CI c12e
  go_enter Try.func63, Try.ntmps63
  go_wp2
  apply Iy.wp_region 15 [14] (fun _ => []) (Ix.Rb) (fun n vs wi => (Hid (Mach wi B L s ov) ∧ Hid (Frm L ov w wi) ∧ Hid (w.heap.size ≤ wi.heap.size) ∧ wi.cell? ⟨L.mb, 12, none⟩ = some (.int .i64 P) ∧ wi.cell? ⟨L.mb, 14, none⟩ = some (.slice ca cn cc))) (Ix.vk [(Ix.kis _), (Ix.kis _), (Ix.kis _), (Ix.kis _), (Ix.kis _), (Ix.kis _), (Ix.kis _), (Ix.kis _), (Ix.kis _), (Ix.ksat (fun v => ∃ a b c d, v = .tuple #[insV a b c d, .int .i64 0])), (Ix.ksat (fun v => ∃ a b c d, v = .tuple #[insV a b c d, .int .i64 0])), (Ix.ksat (fun v => ∃ a b c d, v = insV a b c d)), (Ix.kis _), (Ix.kwld (fun v w' => ∃ g, v = Value.pointer (some ⟨g, 0, none⟩) ∧ w.heap.size ≤ g ∧ ∃ a0 a1 a2 a3, Blk w' g 43 #[.int .i64 a0, .int .i64 a1, .int .i64 a2, .int .i64 a3]) (fun v w1 w2 h hb => by obtain ⟨g, e, hl, a0, a1, a2, a3, hi⟩ := h; exact ⟨g, e, hl, a0, a1, a2, a3, hi.keep hb⟩)), (Ix.ksat (fun _ => True))]) (fun k => k == 13) (by kernel_rfl) (by kernel_rfl) (by kernel_rfl) (by kernel_rfl) (by kernel_rfl) (fun _ _ _ _ _ h => h) (fun _ => Below.refl _ _) (fun n vs _ _ h hb => ⟨h.1.out.keep hb, h.2.1.out.below hb, Nat.le_trans h.2.2.1.out hb.size, by rw [(bcell hb).1 _ _ h.1.out.lt]; exact h.2.2.2.1, by rw [(bcell hb).1 _ _ h.1.out.lt]; exact h.2.2.2.2⟩) (Ix.vk_keeps _) (fun j v w hj hv => by simp only [beq_iff_eq] at hj; subst hj; obtain ⟨g, e, _, _, _, _, _, hg⟩ := hv; exact ⟨g, e, hg.lt⟩) (fun vs => ⟨H.out.drew, Frm.drew (Frm.refl _ _ _), Nat.le_refl _, c12, c14⟩)
  case step =>
    refine zys 14 0 1 [] (fun _ _ wi HB => ?_) <| zys 13 1 2 [(0, some 9)] (fun _ _ wi HB => ?_) <| zys 12 2 3 [(1, some 10)] (fun _ _ wi HB => ?_) <| zys 11 3 4 [(2, some 11)] (fun _ _ wi HB => ?_) <| zys 10 4 5 [] (fun _ _ wi HB => ?_) <| zys 9 5 6 [(4, some 13)] (fun _ _ wi HB => ?_) <| zys 8 6 7 [(5, some 14)] (fun _ _ wi HB => ?_) <| zys 7 7 8 [(6, some 15)] (fun _ _ wi HB => ?_) <| zys 6 8 9 [(7, some 16)] (fun _ _ wi HB => ?_) <| zys 5 9 10 [(3, some 12), (8, some 17)] (fun _ _ wi HB => ?_) <| zys 4 10 11 [(9, some 18)] (fun _ _ wi HB => ?_) <| zys 3 11 12 [(10, some 8)] (fun _ _ wi HB => ?_) <| zys 2 12 13 [(10, some 8)] (fun _ _ wi HB => ?_) <| zys 1 13 14 [] (fun _ _ wi HB => ?_) <| zyc 0 14 15 0 [(11, some 19), (13, some 3)] (fun vsp wi HB => ?_) <| Iy.steps_nil
    iterate 3 (· ((repeat (refine zya ?_; rintro _ rfl)); refine zye ?_; (try simp only [zyp]); refine Iy.goI_yes rfl rfl fun K hK => ?_; (try simp only [zyp] at hK); go_wp2_with (first | fail); exact hK _ _ (Below.refl _ _) rfl))
    (· (obtain ⟨HM, HW, HZ, d12, d14⟩ := HB; (repeat (refine zya ?_; rintro _ rfl)); refine zye ?_; (try simp only [zyp]); refine Iy.goI_yes rfl rfl fun K hK => ?_; (try simp only [zyp] at hK); go_wp2_with (first | fail); exact hK _ _ (Below.refl _ _) rfl))
    iterate 4 (· ((repeat (refine zya ?_; rintro _ rfl)); refine zye ?_; (try simp only [zyp]); refine Iy.goI_yes rfl rfl fun K hK => ?_; (try simp only [zyp] at hK); go_wp2_with (first | fail); exact hK _ _ (Below.refl _ _) rfl))
    (· (obtain ⟨HM, HW, HZ, d12, d14⟩ := HB; (repeat (refine zya ?_; rintro _ rfl)); refine zye ?_; (try simp only [zyp]); refine Iy.goI_yes rfl rfl fun K hK => ?_; (try simp only [zyp] at hK); go_wp2_with (first | fail); exact hK _ _ (Below.refl _ _) rfl))
    (· (obtain ⟨HM, HW, HZ, d12, d14⟩ := HB; (repeat (refine zya ?_; rintro _ rfl)); refine zye ?_; (try simp only [zyp]); refine Iy.goI_yes rfl rfl fun K hK => ?_; (try simp only [zyp] at hK); go_wp2_with (first | (go_at_call 42; refine (CI2.out _ (HW.out.to H.out)).mono ?_; rintro e w1 ⟨ra, rb, rc, rd, rfl, hba⟩)); exact hK _ _ hba ⟨_, _, _, _, rfl⟩))
    iterate 2 (· (obtain ⟨HM, HW, HZ, d12, d14⟩ := HB; refine zya ?_; rintro _ ⟨ia, ib, ic, id_, rfl⟩; refine zye ?_; (try simp only [zyp]); refine Iy.goI_yes rfl rfl fun K hK => ?_; (try simp only [zyp] at hK); go_wp2_with (first | fail); exact hK _ _ (Below.refl _ _) ⟨_, _, _, _, rfl⟩))
    (· (refine zya ?_; rintro _ ⟨ia, ib, ic, id_, rfl⟩; refine zye ?_; (try simp only [zyp]); refine Iy.goI_yes rfl rfl fun K hK => ?_; (try simp only [zyp] at hK); go_wp2_with (first | fail); exact hK _ _ (Below.refl _ _) rfl))
    (· (obtain ⟨HM, HW, HZ, d12, d14⟩ := HB; (repeat (refine zya ?_; rintro _ rfl)); refine zye ?_; (try simp only [zyp]); refine Iy.goI_new rfl fun K hK => ?_; (try simp only [zyp] at hK); go_wp2_with (first | fail); exact hK _ (Ext.alloc (Below.refl _ _) _) ⟨_, rfl, HZ.out, 0, 0, 0, 0, Blk.new _ _ _⟩))
    (· (obtain ⟨HM, HW, HZ, d12, d14⟩ := HB; refine zya ?_; rintro _ ⟨⟨ia, ib, ic, id_, rfl⟩, ev11⟩; refine zya ?_; rintro _ ⟨⟨g, rfl, hgl, a0, a1, a2, a3, hgb⟩, ev13⟩; refine zye ?_; obtain ⟨i0, i1, i2, i3, j0, j1, j2, j3⟩ := In4.of_blk hgb; (try simp only [zyp]); refine Iy.goI_yes rfl rfl fun K hK => ?_; (try simp only [zyp] at hK); go_wp2_with (first | fail); (have HS := Lib.hid (ins_store HM.out HW.out hgl hgb ia ib ic id_); exact hK undef _ ⟨⟨HS.out.1, HS.out.2.1, Nat.le_trans HZ.out (Nat.le_of_eq (by simp)), ins_cell HM.out hgb d12 .., ins_cell HM.out hgb d14 ..⟩, Iy.vk_turn (by repeat (first | exact True.intro | refine And.intro (fun _ h => h) ?_ | refine And.intro (fun hne => absurd rfl hne) ?_ | refine And.intro (fun _ h => ins_keep hgb h) ?_))⟩ trivial)))
  intro vsf wf HF hdf
  refine zyv 14 0 1 ?_; rintro _ _ rfl; refine zyv 13 1 2 ?_; rintro _ _ rfl; refine zyv 12 2 3 ?_; rintro _ _ rfl; refine zyv 11 3 4 ?_; rintro _ _ rfl; refine zyv 10 4 5 ?_; rintro _ _ rfl; refine zyv 9 5 6 ?_; rintro _ _ rfl; refine zyv 8 6 7 ?_; rintro _ _ rfl; refine zyv 7 7 8 ?_; rintro _ _ rfl; refine zyv 6 8 9 ?_; rintro _ _ rfl; refine zyv 5 9 10 ?_; rintro _ _ ⟨ia, ib, ic, id_, rfl⟩; refine zyv 4 10 11 ?_; rintro _ _ ⟨ia, ib, ic, id_, rfl⟩; refine zyv 3 11 12 ?_; rintro _ _ ⟨ia, ib, ic, id_, rfl⟩; refine zyv 2 12 13 ?_; rintro _ _ rfl; refine zyv 1 13 14 ?_; rintro _ ev13 ⟨g, rfl, hgl, a0, a1, a2, a3, hgb⟩; refine zyv 0 14 15 ?_; rintro _ _ _
  refine Ix.allV_nil ?_
  obtain ⟨HM, HW, HZ, d12, d14⟩ := HF
  (try simp only [Act.put, List.setIfInBounds_toArray, List.set_cons_zero, List.set_cons_succ, List.drop_succ_cons, List.drop_zero])
  go_wp2_with (first | fail)
  refine Ix.only ?_
  go_wp2
  go_ret
  exact ⟨rfl, ov, HM.out, HW.out⟩
/-- THE STEP. -/
theorem mstep_ok (B : Nat) (L : Lay) (s : St) (ov : Value) (nC nI : Nat) (cd inp : List Int) (hok : Mc.Ok s) (w : World) (h : Mach w B L s ov) (hc : RdB w B L.cv nC (cd.map (Value.int .i64))) (hnC : nC ≤ 65536)
    (hib : RdB w B L.iv nI (inp.map (Value.int .u8))) (hnI : nI ≤ 65536) (hrd : s.read ≤ nI) (hby : ∀ x ∈ inp, 0 ≤ x ∧ x < 256) (hlen : s.out.length ≤ 65536) :
    Calls Try.prog 63 #[mP L] w (Did B L ov (Mc.step cd inp s) w) := by
  have CI : ∀ w1 : World, Below B w w1 → Calls Try.prog 42 #[L.cv, .int .i64 s.pc] w1 (OneR (U.one cd s.pc).op (U.one cd s.pc).d (U.one cd s.pc).s (U.one cd s.pc).imm (U.one cd s.pc).n w1) := fun w1 hb => one_ok L.cv nC cd (by omega) s.pc w1 (hc.below hb).1
  have hcv : ∃ ca cn cc, L.cv = .slice ca cn cc := by
    obtain ⟨⟨_, _, a, cap, hv, _⟩, _⟩ := hc
    exact ⟨a, nC, cap, hv⟩
  unfold Mc.step
  by_cases hz : (U.one cd s.pc).n = 0
  · rw [if_pos hz]
    refine step_bad B L s ov w h hcv (fun w1 hb => (CI w1 hb).mono ?_)
    rintro e w' ⟨he, hb2⟩
    rw [hz] at he
    exact ⟨_, _, _, _, he, hb2⟩
  rw [if_neg hz]
  obtain ⟨⟨o0, o1⟩, ⟨d0, d1⟩, ⟨s0, s1⟩, hn, i0, i1⟩ := U.one_in cd s.pc hz
  have hI : InsOk (U.one cd s.pc).d (U.one cd s.pc).s (U.one cd s.pc).n (U.one cd s.pc).imm (U.one cd s.pc).d.toNat (U.one cd s.pc).s.toNat := ⟨⟨by omega, by omega⟩, ⟨by omega, by omega⟩, hn, i0, i1⟩
  generalize (U.one cd s.pc).op = op at *
  generalize (U.one cd s.pc).d = D at *
  generalize (U.one cd s.pc).s = E at *
  generalize (U.one cd s.pc).n = n at *
  generalize (U.one cd s.pc).imm = imm at *
  generalize D.toNat = d at *
  generalize E.toNat = e at *
  rcases (show op = 0 ∨ op = 32 ∨ op = 1 ∨ op = 2 ∨ op = 3 ∨ op = 4 ∨ op = 12 ∨ op = 13 ∨ (5 ≤ op ∧ op ≤ 11) ∨ (14 ≤ op ∧ op ≤ 18) ∨ (19 ≤ op ∧ op ≤ 25) ∨ op = 26 ∨ op = 27 ∨ op = 28 ∨ op = 29 ∨ op = 31 ∨ op = 30 by omega) with
    rfl | rfl | rfl | rfl | rfl | rfl | rfl | rfl | h1 | h1 | h1 | rfl | rfl | rfl | rfl | rfl | rfl
  · exact step_halt B L s ov inp D E imm n d e hI hok w h hcv CI
  · exact step_trap B L s ov inp D E imm n d e hI hok w h hcv CI
  · exact step_mov B L s ov inp D E imm n d e hI hok w h hcv CI
  · exact step_ldi B L s ov inp D E imm n d e hI hok w h hcv CI
  · exact step_ld B L s ov inp D E imm n d e hI hok w h hcv CI
  · exact step_st B L s ov inp D E imm n d e hI hok w h hcv CI
  · exact step_cmp12 B L s ov inp D E imm n d e hI hok w h hcv CI
  · exact step_cmp13 B L s ov inp D E imm n d e hI hok w h hcv CI
  · exact step_two B L s ov inp op D E imm n d e hI hok w h1 h hcv CI
  · exact step_sh B L s ov inp op D E imm n d e hI hok w h1 h hcv CI
  · cases hg : Mc.goes s op
    · exact step_goes_false B L s ov inp op D E imm n d e hI hok w h1 hg h hcv CI
    · exact step_goes_true B L s ov inp op D E imm n d e hI hok w h1 hg h hcv CI
  · exact step_call B L s ov inp D E imm n d e hI hok w h hcv CI
  · exact step_ret B L s ov inp D E imm n d e hI hok w h hcv CI
  · exact step_push B L s ov inp D E imm n d e hI hok w h hcv CI
  · exact step_pop B L s ov inp D E imm n d e hI hok w h hcv CI
  · exact step_in B L s ov inp D E imm n d e hI hok w nI hib hnI hrd hby h hcv CI
  · by_cases hf : s.out.length = 65536
    · exact step_full B L s ov inp D E imm n d e hI hok w hf h hcv CI
    · exact step_out B L s ov inp D E imm n d e hI hok w hf hlen h hcv CI
end Go.Proofs.Ytfjgnhmmakeaeaa
