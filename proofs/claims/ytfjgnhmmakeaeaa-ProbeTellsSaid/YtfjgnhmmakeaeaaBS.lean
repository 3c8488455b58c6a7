/- The document's machine: a step: cmp, cpc -/
import Derived.Test.YtfjgnhmmakeaeaaPt2
import Derived.Test.YtfjgnhmmakeaeaaB8
namespace Go.Proofs.Ytfjgnhmmakeaeaa
open Go.RowKit Go.Maps
set_option linter.unusedVariables false
set_option linter.unusedSimpArgs false
set_option maxRecDepth 100000
open Mc
set_option maxHeartbeats 32000000 in
theorem step3_g3 (B : Nat) (L : Lay3) (N : Nat) (ms : List Int) (s : St) (ov : Value) (inp : List Int) (op D E imm n : Int) (d e : Nat) (hop : op = 12 ∨ op = 13) (hI : InsOk D E n imm d e) (hok : Mc.Ok s) (hNN : N < 9000000) (w : World) (h : Box3 w B L N ms s ov) (hcv : ∃ ca cn cc, L.cv = .slice ca cn cc)
    (CI : ∀ w1 : World, Below B w w1 → Calls Try.prog 59 #[L.cv, .int .i64 s.pc] w1 (OneR op D E imm n w1)) :
    Calls Try.prog 44 #[bP L] w (Did3 B L N ms ov (Mc.exec inp op d e imm (s.pc + n) s) w) := by
  have HNN := Lib.hid hNN; have HOP := Lib.hid hop; clear hNN hop
  obtain ⟨⟨rfl, hd⟩, ⟨rfl, he⟩, hn, him0, him1⟩ := hI
  obtain ⟨P, hP⟩ : ∃ P, P = s.pc := ⟨_, rfl⟩
  have hPb := hok.2.1
  have c13e : (cells3 L s ov)[13]? = some (.int .i64 P) := by rw [hP]; rfl
  rw [← hP] at hPb CI
  have HPP := Lib.hid hP
  obtain ⟨c13, f13⟩ := h.at_ 13 (.int .i64 P) c13e
  obtain ⟨c0, f0⟩ := h.at_ 0 L.cv rfl
  obtain ⟨ca, cn, cc, hcve⟩ := hcv
  rw [hcve] at c0 CI
  have CI2 := Lib.hid CI
  have H := Lib.hid h
  have HOK := Lib.hid hok
  have HE := Lib.hid c13e
  clear h hP hcve CI hok c13e
  obtain ⟨hP0, hP1⟩ := hPb
  have HD := Lib.hid hd; have HE8 := Lib.hid he; have HN := Lib.hid hn
  have hn0 : (n == 0) = false := by simp; omega
  clear hd he
  go_enter Try.func44, Try.ntmps44
  go_wp2
  apply Iy.wp_region 15 [14] (fun n => if n = 0 then [] else [13]) (Ix.Rb) (fun n vs wi => (Hid (Box3 wi B L N ms s ov) ∧ Hid (Frm3 L ov w wi) ∧ Hid (w.heap.size ≤ wi.heap.size) ∧ wi.cell? ⟨L.bb, 13, none⟩ = some (.int .i64 P) ∧ wi.cell? ⟨L.bb, 0, none⟩ = some (.slice ca cn cc)) ∧ (match n with | 0 => True | _ + 1 => ∀ g, vs 13 = Value.pointer (some ⟨g, 0, none⟩) → Blk wi g 43 #[.int .i64 op, .int .i64 (d : Int), .int .i64 (e : Int), .int .i64 imm])) (Ix.vk [(Ix.kis _), (Ix.kis _), (Ix.kis _), (Ix.kis _), (Ix.kis _), (Ix.kis _), (Ix.kis _), (Ix.kis _), (Ix.kis _), (Ix.kis (.tuple #[insV op (d : Int) (e : Int) imm, .int .i64 n])), (Ix.kis _), (Ix.kis _), (Ix.kis _), (Ix.kwld (fun v w' => ∃ g, v = Value.pointer (some ⟨g, 0, none⟩) ∧ w.heap.size ≤ g ∧ ∃ a0 a1 a2 a3, Blk w' g 43 #[.int .i64 a0, .int .i64 a1, .int .i64 a2, .int .i64 a3]) (fun v w1 w2 h hb => by obtain ⟨g, e, hl, a0, a1, a2, a3, hi⟩ := h; exact ⟨g, e, hl, a0, a1, a2, a3, hi.keep hb⟩)), (Ix.ksat (fun _ => True))]) (fun k => k == 13) (by kernel_rfl) (by kernel_rfl) (by kernel_rfl) (by kernel_rfl) (by kernel_rfl) (fun n vs vs' w hk h => by cases n with | zero => exact h | succ n => exact ⟨h.1, fun g e => h.2 g ((hk 13 (by simp)).trans e)⟩) (fun _ => Below.refl _ _) (fun n vs _ _ h hb => ⟨⟨h.1.1.out.keep hb, h.1.2.1.out.below hb, Nat.le_trans h.1.2.2.1.out hb.size, by rw [(bcell hb).1 _ _ h.1.1.out.lt]; exact h.1.2.2.2.1, by rw [(bcell hb).1 _ _ h.1.1.out.lt]; exact h.1.2.2.2.2⟩, by cases n with | zero => trivial | succ n => exact fun g e => (h.2 g e).keep hb⟩) (Ix.vk_keeps _) (fun j v w hj hv => by simp only [beq_iff_eq] at hj; subst hj; obtain ⟨g, e, _, _, _, _, _, hg⟩ := hv; exact ⟨g, e, hg.lt⟩) (fun vs => ⟨⟨H.out.drew, Frm3.drew (Frm3.refl _ _ _), Nat.le_refl _, c13, c0⟩, trivial⟩)
  case step =>
    refine zys 14 0 1 [] (fun _ _ wi HB => ?_) <| zys 13 1 2 [(0, some 18)] (fun _ _ wi HB => ?_) <| zys 12 2 3 [(1, some 19)] (fun _ _ wi HB => ?_) <| zys 11 3 4 [(2, some 20)] (fun _ _ wi HB => ?_) <| zys 10 4 5 [] (fun _ _ wi HB => ?_) <| zys 9 5 6 [(4, some 22)] (fun _ _ wi HB => ?_) <| zys 8 6 7 [(5, some 23)] (fun _ _ wi HB => ?_) <| zys 7 7 8 [(6, some 24)] (fun _ _ wi HB => ?_) <| zys 6 8 9 [(7, some 25)] (fun _ _ wi HB => ?_) <| zys 5 9 10 [(3, some 21), (8, some 26)] (fun _ _ wi HB => ?_) <| zys 4 10 11 [(9, some 27)] (fun _ _ wi HB => ?_) <| zys 3 11 12 [(10, some 17)] (fun _ _ wi HB => ?_) <| zys 2 12 13 [(10, some 17)] (fun _ _ wi HB => ?_) <| zys 1 13 14 [] (fun _ _ wi HB => ?_) <| zyc 0 14 15 0 [(11, some 28), (13, some 3)] (fun vsp wi HB => ?_) <| Iy.steps_nil
    iterate 3 (· ((repeat (refine zya ?_; rintro _ rfl)); refine zye ?_; (try simp only [zyp]); refine Iy.goI_yes rfl rfl fun K hK => ?_; (try simp only [zyp] at hK); go_wp2_with (first | fail); exact hK _ _ (Below.refl _ _) rfl))
    (· (obtain ⟨⟨HM, HW, HZ, d13, d0⟩, _⟩ := HB; (repeat (refine zya ?_; rintro _ rfl)); refine zye ?_; (try simp only [zyp]); refine Iy.goI_yes rfl rfl fun K hK => ?_; (try simp only [zyp] at hK); go_wp2_with (first | fail); exact hK _ _ (Below.refl _ _) rfl))
    iterate 4 (· ((repeat (refine zya ?_; rintro _ rfl)); refine zye ?_; (try simp only [zyp]); refine Iy.goI_yes rfl rfl fun K hK => ?_; (try simp only [zyp] at hK); go_wp2_with (first | fail); exact hK _ _ (Below.refl _ _) rfl))
    (· (obtain ⟨⟨HM, HW, HZ, d13, d0⟩, _⟩ := HB; (repeat (refine zya ?_; rintro _ rfl)); refine zye ?_; (try simp only [zyp]); refine Iy.goI_yes rfl rfl fun K hK => ?_; (try simp only [zyp] at hK); go_wp2_with (first | fail); exact hK _ _ (Below.refl _ _) rfl))
    (· (obtain ⟨⟨HM, HW, HZ, d13, d0⟩, _⟩ := HB; (repeat (refine zya ?_; rintro _ rfl)); refine zye ?_; (try simp only [zyp]); refine Iy.goI_yes rfl rfl fun K hK => ?_; (try simp only [zyp] at hK); go_wp2_with (first | (go_at_call 59; refine (CI2.out _ (HW.out.to H.out)).mono ?_; rintro e w1 ⟨rfl, hba⟩)); exact hK _ _ hba rfl))
    iterate 3 (· ((repeat (refine zya ?_; rintro _ rfl)); refine zye ?_; (try simp only [zyp]); refine Iy.goI_yes rfl rfl fun K hK => ?_; (try simp only [zyp] at hK); go_wp2_with (first | fail); exact hK _ _ (Below.refl _ _) rfl))
    (· (obtain ⟨⟨HM, HW, HZ, d13, d0⟩, _⟩ := HB; (repeat (refine zya ?_; rintro _ rfl)); refine zye ?_; (try simp only [zyp]); refine Iy.goI_new rfl fun K hK => ?_; (try simp only [zyp] at hK); go_wp2_with (first | fail); exact hK _ (Ext.alloc (Below.refl _ _) _) ⟨_, rfl, HZ.out, 0, 0, 0, 0, Blk.new _ _ _⟩))
    (· (obtain ⟨⟨HM, HW, HZ, d13, d0⟩, _⟩ := HB; refine zya ?_; rintro _ ⟨rfl, ev11⟩; refine zya ?_; rintro _ ⟨⟨g, rfl, hgl, a0, a1, a2, a3, hgb⟩, ev13⟩; refine zye ?_; obtain ⟨i0, i1, i2, i3, j0, j1, j2, j3⟩ := In4.of_blk hgb; (try simp only [zyp]); refine Iy.goI_yes rfl rfl fun K hK => ?_; (try simp only [zyp] at hK); go_wp2_with (first | fail); (have HS := Lib.hid (ins_store3 HM.out HW.out hgl hgb op (d : Int) (e : Int) imm); exact hK undef _ ⟨⟨⟨HS.out.1, HS.out.2.1, Nat.le_trans HZ.out (Nat.le_of_eq (by simp)), ins_cell3 HM.out hgb d13 .., ins_cell3 HM.out hgb d0 ..⟩, ptr_same ev13 HS.out.2.2⟩, Iy.vk_turn (by repeat (first | exact True.intro | refine And.intro (fun _ h => h) ?_ | refine And.intro (fun hne => absurd rfl hne) ?_ | refine And.intro (fun _ h => ins_keep hgb h) ?_))⟩ trivial)))
  intro vsf wf HF hdf
  refine zyv 14 0 1 ?_; rintro _ _ rfl; refine zyv 13 1 2 ?_; rintro _ _ rfl; refine zyv 12 2 3 ?_; rintro _ _ rfl; refine zyv 11 3 4 ?_; rintro _ _ rfl; refine zyv 10 4 5 ?_; rintro _ _ rfl; refine zyv 9 5 6 ?_; rintro _ _ rfl; refine zyv 8 6 7 ?_; rintro _ _ rfl; refine zyv 7 7 8 ?_; rintro _ _ rfl; refine zyv 6 8 9 ?_; rintro _ _ rfl; refine zyv 5 9 10 ?_; rintro _ _ rfl; refine zyv 4 10 11 ?_; rintro _ _ rfl; refine zyv 3 11 12 ?_; rintro _ _ rfl; refine zyv 2 12 13 ?_; rintro _ _ rfl; refine zyv 1 13 14 ?_; rintro _ ev13 ⟨g, rfl, hgl, a0, a1, a2, a3, hgb⟩; refine zyv 0 14 15 ?_; rintro _ _ _
  refine Ix.allV_nil ?_
  obtain ⟨⟨HM, HW, HZ, d13, d0⟩, hgf⟩ := HF; have gB : B ≤ g := (Nat.le_trans H.out.hi hgl); have HG := Lib.hid (hgf g ev13); clear hgf hgb d13 d0 c13 c0
  (try simp only [Act.put, List.setIfInBounds_toArray, List.set_cons_zero, List.set_cons_succ, List.drop_succ_cons, List.drop_zero])
  go_wp2_with (first | fail)
  refine Ix.only ?_
  have hgm : ¬ g = L.bb := HG.out.ne_ HM.out.blk (by decide)
  have hmg : ¬ L.bb = g := fun e => hgm e.symm
  obtain ⟨i0, i1, i2, i3, j0, j1, j2, j3⟩ := In4.of_blk HG.out
  obtain ⟨c13, f13⟩ := HM.out.at_ 13 (.int .i64 P) HE.out
  obtain ⟨c9, f9⟩ := HM.out.at_ 9 (.bool s.c) rfl
  obtain ⟨c10, f10⟩ := HM.out.at_ 10 (.bool s.z) rfl
  obtain ⟨c11, f11⟩ := HM.out.at_ 11 (.bool s.n) rfl
  obtain ⟨c12, f12⟩ := HM.out.at_ 12 (.bool s.v) rfl
  clear f9 f10 f11 f12
  go_upto_region 6 with (fail)
  have hd := HD.out
  have he := HE8.out
  have HA : Hid (Below wf.heap.size wf (wf.alloc (Obj.cells #[Value.bool s.c, Value.bool s.z, Value.bool s.n, Value.bool s.v] 25))) := Ext.alloc (Below.refl _ _) _
  have HGF : Hid (Blk (wf.alloc (Obj.cells #[Value.bool s.c, Value.bool s.z, Value.bool s.n, Value.bool s.v] 25)) wf.heap.size 25 #[Value.bool s.c, Value.bool s.z, Value.bool s.n, Value.bool s.v]) := Blk.new _ _ _
  replace HM := Lib.hid (HM.out.keep HA.out)
  replace HG := Lib.hid (HG.out.keep HA.out)
  replace HZ := Lib.hid (Nat.le_trans HZ.out HA.out.size)
  have HZF : Hid (w.heap.size ≤ wf.heap.size) := HW.out.size
  replace HW := Lib.hid (HW.out.below HA.out)
  clear HA i0 i1 i2 i3 j0 j1 j2 j3 c13 f13 c9 c10 c11 c12 hn0
  generalize (wf.alloc (Obj.cells #[Value.bool s.c, Value.bool s.z, Value.bool s.n, Value.bool s.v] 25)) = wa at *
  generalize wf.heap.size = gf at *
  have hfb : ¬ gf = L.bb := HGF.out.ne_ HM.out.blk (by decide)
  have hbf : ¬ L.bb = gf := fun e => hfb e.symm
  have hfg : ¬ gf = g := HGF.out.ne_ HG.out (by decide)
  have hgf : ¬ g = gf := fun e => hfg e.symm
  obtain ⟨i0, i1, i2, i3, j0, j1, j2, j3⟩ := In4.of_blk HG.out
  obtain ⟨q0, q1, q2, q3⟩ := bl4 HGF.out
  obtain ⟨c13, f13⟩ := HM.out.at_ 13 (.int .i64 P) HE.out
  obtain ⟨cd, fd⟩ := HM.out.reg d hd
  obtain ⟨ce, fe⟩ := HM.out.reg e he
  have hd1 : ¬ 1 + d = 13 := (by omega)
  clear ev13 hdf
  go_quiet (fail)
  replace HM := Lib.hid (HM.out.drewN nq)
  replace HG := Lib.hid (HG.out.drewN nq)
  replace HGF := Lib.hid (HGF.out.drewN nq)
  replace HW := Lib.hid (HW.out.drewN nq)
  replace HZ : Hid (w.heap.size ≤ (wa.drewN nq).heap.size) := HZ
  clear i0 i1 i2 i3 j0 j1 j2 j3 q0 q1 q2 q3 c13 f13 cd fd ce fe
  generalize (wa.drewN nq) = wb at *
  obtain ⟨i0, i1, i2, i3, j0, j1, j2, j3⟩ := In4.of_blk HG.out
  obtain ⟨q0, q1, q2, q3⟩ := bl4 HGF.out
  obtain ⟨c13, f13⟩ := HM.out.at_ 13 (.int .i64 P) HE.out
  replace HOP := HOP.out
  rcases HOP with rfl | rfl
  · obtain ⟨Rr, hRr⟩ : ∃ R, R = W.dR (s.r d) (s.r e) false := ⟨_, rfl⟩
    obtain ⟨Cc, hCc⟩ : ∃ R, R = W.dC (s.r d) (s.r e) false := ⟨_, rfl⟩
    obtain ⟨Zz, hZz⟩ : ∃ R, R = W.fZ Rr := ⟨_, rfl⟩
    obtain ⟨Nn, hNn⟩ : ∃ R, R = W.fN Rr := ⟨_, rfl⟩
    obtain ⟨Vv, hVv⟩ : ∃ R, R = W.dV (s.r d) (s.r e) false := ⟨_, rfl⟩
    have CDI : Hid (∀ w1 : World, Calls Try.prog 65 #[.int .i64 (s.r d), .int .i64 (s.r e), .bool false] w1 fun e' w' => e' = .returned (.tuple #[.int .i64 Rr, .agg #[.bool Cc, .bool Zz, .bool Nn, .bool Vv]]) ∧ Below w1.heap.size w1 w') := fun w1 => by rw [hZz, hNn, hCc, hRr, hVv]; exact refDiff_agg _ _ _ w1
    have HR5 := Lib.hid (And.intro hRr (And.intro hCc (And.intro hZz (And.intro hNn hVv))))
    clear hRr hCc hZz hNn hVv
    go_wp2_with (first | (go_at_call 65; refine (CDI.out _).mono ?_; rintro e' w1 ⟨rfl, hb1⟩; have HBX := Lib.hid (HM.out.keep hb1); have HFX := Lib.hid (HW.out.below hb1); have HG1 := Lib.hid (HG.out.keep hb1); have HGF1 := Lib.hid (HGF.out.keep hb1); obtain ⟨k13, l13⟩ := HBX.out.at_ 13 (.int .i64 P) HE.out; obtain ⟨k9, l9⟩ := HBX.out.at_ 9 (.bool s.c) rfl; obtain ⟨k10, l10⟩ := HBX.out.at_ 10 (.bool s.z) rfl; obtain ⟨k11, l11⟩ := HBX.out.at_ 11 (.bool s.n) rfl; obtain ⟨k12, l12⟩ := HBX.out.at_ 12 (.bool s.v) rfl; obtain ⟨p0, p1, p2, p3⟩ := bl4 HGF1.out; clear hb1))
    go_ret
    obtain rfl := HPP.out
    have HX : Mc.exec inp 12 d e imm (s.pc + n) s = (goOn (two 12 (s.r d) (s.r e) s) (s.pc + n), 0) := by rfl
    rw [HX]
    obtain ⟨rfl, rfl, rfl, rfl, rfl⟩ := HR5.out
    exact ⟨rfl, N, ov, by omega, (HBX.out.setFl _ _ _ _).setPc ((s.pc + n) % 65536), Frm3.cell (Frm3.fl HFX.out _ _ _ _) rfl _⟩
  · obtain ⟨Rr, hRr⟩ : ∃ R, R = W.dR (s.r d) (s.r e) s.c := ⟨_, rfl⟩
    obtain ⟨Cc, hCc⟩ : ∃ R, R = W.dC (s.r d) (s.r e) s.c := ⟨_, rfl⟩
    obtain ⟨Zz, hZz⟩ : ∃ R, R = W.fZ Rr := ⟨_, rfl⟩
    obtain ⟨Nn, hNn⟩ : ∃ R, R = W.fN Rr := ⟨_, rfl⟩
    obtain ⟨Vv, hVv⟩ : ∃ R, R = W.dV (s.r d) (s.r e) s.c := ⟨_, rfl⟩
    have CDI : Hid (∀ w1 : World, Calls Try.prog 65 #[.int .i64 (s.r d), .int .i64 (s.r e), .bool s.c] w1 fun e' w' => e' = .returned (.tuple #[.int .i64 Rr, .agg #[.bool Cc, .bool Zz, .bool Nn, .bool Vv]]) ∧ Below w1.heap.size w1 w') := fun w1 => by rw [hZz, hNn, hCc, hRr, hVv]; exact refDiff_agg _ _ _ w1
    have HR5 := Lib.hid (And.intro hRr (And.intro hCc (And.intro hZz (And.intro hNn hVv))))
    clear hRr hCc hZz hNn hVv
    obtain ⟨bz, hbz⟩ : ∃ b, b = s.z := ⟨_, rfl⟩
    have HZQ := Lib.hid hbz
    have HGF2 : Hid (Blk wb gf 25 #[Value.bool s.c, Value.bool bz, Value.bool s.n, Value.bool s.v]) := by rw [hbz]; exact HGF
    replace HGF := HGF2
    clear HGF2 hbz q1
    have q1 := (bl4 HGF.out).2.1
    cases bz
    · go_upto_region 33 with (first | (go_at_call 65; refine (CDI.out _).mono ?_; rintro e' w1 ⟨rfl, hb1⟩; have HBX := Lib.hid (HM.out.keep hb1); have HFX := Lib.hid (HW.out.below hb1); have HG1 := Lib.hid (HG.out.keep hb1); have HGF1 := Lib.hid (HGF.out.keep hb1); obtain ⟨k13, l13⟩ := HBX.out.at_ 13 (.int .i64 P) HE.out; obtain ⟨k9, l9⟩ := HBX.out.at_ 9 (.bool s.c) rfl; obtain ⟨k10, l10⟩ := HBX.out.at_ 10 (.bool s.z) rfl; obtain ⟨k11, l11⟩ := HBX.out.at_ 11 (.bool s.n) rfl; obtain ⟨k12, l12⟩ := HBX.out.at_ 12 (.bool s.v) rfl; obtain ⟨p0, p1, p2, p3⟩ := bl4 HGF1.out; clear hb1))
      have HB2 := Lib.hid (HBX.out.setFl Cc Zz Nn Vv)
      have HF2 := Lib.hid (HFX.out.fl (.bool Cc) (.bool Zz) (.bool Nn) (.bool Vv))
      have p1 : ((((w1.setCell ⟨L.bb, 9, none⟩ (.bool Cc)).setCell ⟨L.bb, 10, none⟩ (.bool Zz)).setCell ⟨L.bb, 11, none⟩ (.bool Nn)).setCell ⟨L.bb, 12, none⟩ (.bool Vv)).cell? ⟨gf, 1, none⟩ = some (Value.bool false) := by
        rw [cell?_setCell_far _ hfb, cell?_setCell_far _ hfb, cell?_setCell_far _ hfb, cell?_setCell_far _ hfb]; exact (bl4 HGF1.out).2.1
      clear HBX HFX HG1 HGF1 k13 l13 k9 l9 k10 l10 k11 l11 k12 l12 p0 p2 p3
      generalize ((((w1.setCell ⟨L.bb, 9, none⟩ (.bool Cc)).setCell ⟨L.bb, 10, none⟩ (.bool Zz)).setCell ⟨L.bb, 11, none⟩ (.bool Nn)).setCell ⟨L.bb, 12, none⟩ (.bool Vv)) = w2 at *
      obtain ⟨k10, l10⟩ := HB2.out.at_ 10 (.bool Zz) rfl
      obtain ⟨k13, l13⟩ := HB2.out.at_ 13 (.int .i64 P) HE.out
      go_wp2
      go_ret
      obtain rfl := HPP.out
      have HX : Mc.exec inp 13 d e imm (s.pc + n) s = (goOn (two 13 (s.r d) (s.r e) s) (s.pc + n), 0) := by rfl
      rw [HX]
      obtain ⟨rfl, rfl, rfl, rfl, rfl⟩ := HR5.out
      have HT : Mc.two 13 (s.r d) (s.r e) s = { s with c := W.dC (s.r d) (s.r e) s.c, z := false, n := W.fN (W.dR (s.r d) (s.r e) s.c), v := W.dV (s.r d) (s.r e) s.c } := by
        show ({ Mc.fl s (W.dC (s.r d) (s.r e) s.c) (W.dR (s.r d) (s.r e) s.c) (W.dV (s.r d) (s.r e) s.c) with z := W.fZ (W.dR (s.r d) (s.r e) s.c) && s.z } : St) = _
        rw [← HZQ.out, Bool.and_false]; rfl
      rw [HT]
      exact ⟨rfl, N, ov, by omega, (HB2.out.set 10 (.bool false) { s with c := W.dC (s.r d) (s.r e) s.c, z := false, n := W.fN (W.dR (s.r d) (s.r e) s.c), v := W.dV (s.r d) (s.r e) s.c } rfl rfl rfl).setPc ((s.pc + n) % 65536), Frm3.cell (Frm3.cell HF2.out rfl _) rfl _⟩
    · go_upto_region 33 with (first | (go_at_call 65; refine (CDI.out _).mono ?_; rintro e' w1 ⟨rfl, hb1⟩; have HBX := Lib.hid (HM.out.keep hb1); have HFX := Lib.hid (HW.out.below hb1); have HG1 := Lib.hid (HG.out.keep hb1); have HGF1 := Lib.hid (HGF.out.keep hb1); obtain ⟨k13, l13⟩ := HBX.out.at_ 13 (.int .i64 P) HE.out; obtain ⟨k9, l9⟩ := HBX.out.at_ 9 (.bool s.c) rfl; obtain ⟨k10, l10⟩ := HBX.out.at_ 10 (.bool s.z) rfl; obtain ⟨k11, l11⟩ := HBX.out.at_ 11 (.bool s.n) rfl; obtain ⟨k12, l12⟩ := HBX.out.at_ 12 (.bool s.v) rfl; obtain ⟨p0, p1, p2, p3⟩ := bl4 HGF1.out; clear hb1))
      have HB2 := Lib.hid (HBX.out.setFl Cc Zz Nn Vv)
      have HF2 := Lib.hid (HFX.out.fl (.bool Cc) (.bool Zz) (.bool Nn) (.bool Vv))
      have p1 : ((((w1.setCell ⟨L.bb, 9, none⟩ (.bool Cc)).setCell ⟨L.bb, 10, none⟩ (.bool Zz)).setCell ⟨L.bb, 11, none⟩ (.bool Nn)).setCell ⟨L.bb, 12, none⟩ (.bool Vv)).cell? ⟨gf, 1, none⟩ = some (Value.bool true) := by
        rw [cell?_setCell_far _ hfb, cell?_setCell_far _ hfb, cell?_setCell_far _ hfb, cell?_setCell_far _ hfb]; exact (bl4 HGF1.out).2.1
      clear HBX HFX HG1 HGF1 k13 l13 k9 l9 k10 l10 k11 l11 k12 l12 p0 p2 p3
      generalize ((((w1.setCell ⟨L.bb, 9, none⟩ (.bool Cc)).setCell ⟨L.bb, 10, none⟩ (.bool Zz)).setCell ⟨L.bb, 11, none⟩ (.bool Nn)).setCell ⟨L.bb, 12, none⟩ (.bool Vv)) = w2 at *
      obtain ⟨k10, l10⟩ := HB2.out.at_ 10 (.bool Zz) rfl
      obtain ⟨k13, l13⟩ := HB2.out.at_ 13 (.int .i64 P) HE.out
      go_wp2
      go_ret
      obtain rfl := HPP.out
      have HX : Mc.exec inp 13 d e imm (s.pc + n) s = (goOn (two 13 (s.r d) (s.r e) s) (s.pc + n), 0) := by rfl
      rw [HX]
      obtain ⟨rfl, rfl, rfl, rfl, rfl⟩ := HR5.out
      have HT : Mc.two 13 (s.r d) (s.r e) s = { s with c := W.dC (s.r d) (s.r e) s.c, z := W.fZ (W.dR (s.r d) (s.r e) s.c), n := W.fN (W.dR (s.r d) (s.r e) s.c), v := W.dV (s.r d) (s.r e) s.c } := by
        show ({ Mc.fl s (W.dC (s.r d) (s.r e) s.c) (W.dR (s.r d) (s.r e) s.c) (W.dV (s.r d) (s.r e) s.c) with z := W.fZ (W.dR (s.r d) (s.r e) s.c) && s.z } : St) = _
        rw [← HZQ.out, Bool.and_true]; rfl
      rw [HT]
      exact ⟨rfl, N, ov, by omega, HB2.out.setPc ((s.pc + n) % 65536), Frm3.cell (HF2.out) rfl _⟩
end Go.Proofs.Ytfjgnhmmakeaeaa
/- The document's machine: a step: out -/
namespace Go.Proofs.Ytfjgnhmmakeaeaa
open Go.RowKit Go.Maps
set_option linter.unusedVariables false
set_option linter.unusedSimpArgs false
set_option maxRecDepth 100000
open Mc
set_option maxHeartbeats 32000000 in
theorem step3_g6 (B : Nat) (L : Lay3) (N : Nat) (ms : List Int) (s : St) (ov : Value) (inp : List Int) (op D E imm n : Int) (d e : Nat) (hop : op = 30) (hI : InsOk D E n imm d e) (hok : Mc.Ok s) (hNN : N < 9000000) (w : World) (hlen : s.out.length ≤ 65536) (h : Box3 w B L N ms s ov) (hcv : ∃ ca cn cc, L.cv = .slice ca cn cc)
    (CI : ∀ w1 : World, Below B w w1 → Calls Try.prog 59 #[L.cv, .int .i64 s.pc] w1 (OneR op D E imm n w1)) :
    Calls Try.prog 44 #[bP L] w (Did3 B L N ms ov (Mc.exec inp op d e imm (s.pc + n) s) w) := by
  have HNN := Lib.hid hNN; have HOP := Lib.hid hop; clear hNN hop
  obtain ⟨⟨rfl, hd⟩, ⟨rfl, he⟩, hn, him0, him1⟩ := hI
  obtain ⟨P, hP⟩ : ∃ P, P = s.pc := ⟨_, rfl⟩
  have hPb := hok.2.1
  have c13e : (cells3 L s ov)[13]? = some (.int .i64 P) := by rw [hP]; rfl
  rw [← hP] at hPb CI
  have HPP := Lib.hid hP
  obtain ⟨c13, f13⟩ := h.at_ 13 (.int .i64 P) c13e
  obtain ⟨c0, f0⟩ := h.at_ 0 L.cv rfl
  obtain ⟨ca, cn, cc, hcve⟩ := hcv
  rw [hcve] at c0 CI
  have CI2 := Lib.hid CI
  have H := Lib.hid h
  have HOK := Lib.hid hok
  have HE := Lib.hid c13e
  clear h hP hcve CI hok c13e
  obtain ⟨hP0, hP1⟩ := hPb
  have HD := Lib.hid hd; have HE8 := Lib.hid he; have HN := Lib.hid hn
  have hn0 : (n == 0) = false := by simp; omega
  have HLEN := Lib.hid hlen
  clear hlen
  clear hd he
  go_enter Try.func44, Try.ntmps44
  go_wp2
  apply Iy.wp_region 15 [14] (fun n => if n = 0 then [] else [13]) (Ix.Rb) (fun n vs wi => (Hid (Box3 wi B L N ms s ov) ∧ Hid (Frm3 L ov w wi) ∧ Hid (w.heap.size ≤ wi.heap.size) ∧ wi.cell? ⟨L.bb, 13, none⟩ = some (.int .i64 P) ∧ wi.cell? ⟨L.bb, 0, none⟩ = some (.slice ca cn cc)) ∧ (match n with | 0 => True | _ + 1 => ∀ g, vs 13 = Value.pointer (some ⟨g, 0, none⟩) → Blk wi g 43 #[.int .i64 op, .int .i64 (d : Int), .int .i64 (e : Int), .int .i64 imm])) (Ix.vk [(Ix.kis _), (Ix.kis _), (Ix.kis _), (Ix.kis _), (Ix.kis _), (Ix.kis _), (Ix.kis _), (Ix.kis _), (Ix.kis _), (Ix.kis (.tuple #[insV op (d : Int) (e : Int) imm, .int .i64 n])), (Ix.kis _), (Ix.kis _), (Ix.kis _), (Ix.kwld (fun v w' => ∃ g, v = Value.pointer (some ⟨g, 0, none⟩) ∧ w.heap.size ≤ g ∧ ∃ a0 a1 a2 a3, Blk w' g 43 #[.int .i64 a0, .int .i64 a1, .int .i64 a2, .int .i64 a3]) (fun v w1 w2 h hb => by obtain ⟨g, e, hl, a0, a1, a2, a3, hi⟩ := h; exact ⟨g, e, hl, a0, a1, a2, a3, hi.keep hb⟩)), (Ix.ksat (fun _ => True))]) (fun k => k == 13) (by kernel_rfl) (by kernel_rfl) (by kernel_rfl) (by kernel_rfl) (by kernel_rfl) (fun n vs vs' w hk h => by cases n with | zero => exact h | succ n => exact ⟨h.1, fun g e => h.2 g ((hk 13 (by simp)).trans e)⟩) (fun _ => Below.refl _ _) (fun n vs _ _ h hb => ⟨⟨h.1.1.out.keep hb, h.1.2.1.out.below hb, Nat.le_trans h.1.2.2.1.out hb.size, by rw [(bcell hb).1 _ _ h.1.1.out.lt]; exact h.1.2.2.2.1, by rw [(bcell hb).1 _ _ h.1.1.out.lt]; exact h.1.2.2.2.2⟩, by cases n with | zero => trivial | succ n => exact fun g e => (h.2 g e).keep hb⟩) (Ix.vk_keeps _) (fun j v w hj hv => by simp only [beq_iff_eq] at hj; subst hj; obtain ⟨g, e, _, _, _, _, _, hg⟩ := hv; exact ⟨g, e, hg.lt⟩) (fun vs => ⟨⟨H.out.drew, Frm3.drew (Frm3.refl _ _ _), Nat.le_refl _, c13, c0⟩, trivial⟩)
  case step =>
    refine zys 14 0 1 [] (fun _ _ wi HB => ?_) <| zys 13 1 2 [(0, some 18)] (fun _ _ wi HB => ?_) <| zys 12 2 3 [(1, some 19)] (fun _ _ wi HB => ?_) <| zys 11 3 4 [(2, some 20)] (fun _ _ wi HB => ?_) <| zys 10 4 5 [] (fun _ _ wi HB => ?_) <| zys 9 5 6 [(4, some 22)] (fun _ _ wi HB => ?_) <| zys 8 6 7 [(5, some 23)] (fun _ _ wi HB => ?_) <| zys 7 7 8 [(6, some 24)] (fun _ _ wi HB => ?_) <| zys 6 8 9 [(7, some 25)] (fun _ _ wi HB => ?_) <| zys 5 9 10 [(3, some 21), (8, some 26)] (fun _ _ wi HB => ?_) <| zys 4 10 11 [(9, some 27)] (fun _ _ wi HB => ?_) <| zys 3 11 12 [(10, some 17)] (fun _ _ wi HB => ?_) <| zys 2 12 13 [(10, some 17)] (fun _ _ wi HB => ?_) <| zys 1 13 14 [] (fun _ _ wi HB => ?_) <| zyc 0 14 15 0 [(11, some 28), (13, some 3)] (fun vsp wi HB => ?_) <| Iy.steps_nil
    iterate 3 (· ((repeat (refine zya ?_; rintro _ rfl)); refine zye ?_; (try simp only [zyp]); refine Iy.goI_yes rfl rfl fun K hK => ?_; (try simp only [zyp] at hK); go_wp2_with (first | fail); exact hK _ _ (Below.refl _ _) rfl))
    (· (obtain ⟨⟨HM, HW, HZ, d13, d0⟩, _⟩ := HB; (repeat (refine zya ?_; rintro _ rfl)); refine zye ?_; (try simp only [zyp]); refine Iy.goI_yes rfl rfl fun K hK => ?_; (try simp only [zyp] at hK); go_wp2_with (first | fail); exact hK _ _ (Below.refl _ _) rfl))
    iterate 4 (· ((repeat (refine zya ?_; rintro _ rfl)); refine zye ?_; (try simp only [zyp]); refine Iy.goI_yes rfl rfl fun K hK => ?_; (try simp only [zyp] at hK); go_wp2_with (first | fail); exact hK _ _ (Below.refl _ _) rfl))
    (· (obtain ⟨⟨HM, HW, HZ, d13, d0⟩, _⟩ := HB; (repeat (refine zya ?_; rintro _ rfl)); refine zye ?_; (try simp only [zyp]); refine Iy.goI_yes rfl rfl fun K hK => ?_; (try simp only [zyp] at hK); go_wp2_with (first | fail); exact hK _ _ (Below.refl _ _) rfl))
    (· (obtain ⟨⟨HM, HW, HZ, d13, d0⟩, _⟩ := HB; (repeat (refine zya ?_; rintro _ rfl)); refine zye ?_; (try simp only [zyp]); refine Iy.goI_yes rfl rfl fun K hK => ?_; (try simp only [zyp] at hK); go_wp2_with (first | (go_at_call 59; refine (CI2.out _ (HW.out.to H.out)).mono ?_; rintro e w1 ⟨rfl, hba⟩)); exact hK _ _ hba rfl))
    iterate 3 (· ((repeat (refine zya ?_; rintro _ rfl)); refine zye ?_; (try simp only [zyp]); refine Iy.goI_yes rfl rfl fun K hK => ?_; (try simp only [zyp] at hK); go_wp2_with (first | fail); exact hK _ _ (Below.refl _ _) rfl))
    (· (obtain ⟨⟨HM, HW, HZ, d13, d0⟩, _⟩ := HB; (repeat (refine zya ?_; rintro _ rfl)); refine zye ?_; (try simp only [zyp]); refine Iy.goI_new rfl fun K hK => ?_; (try simp only [zyp] at hK); go_wp2_with (first | fail); exact hK _ (Ext.alloc (Below.refl _ _) _) ⟨_, rfl, HZ.out, 0, 0, 0, 0, Blk.new _ _ _⟩))
    (· (obtain ⟨⟨HM, HW, HZ, d13, d0⟩, _⟩ := HB; refine zya ?_; rintro _ ⟨rfl, ev11⟩; refine zya ?_; rintro _ ⟨⟨g, rfl, hgl, a0, a1, a2, a3, hgb⟩, ev13⟩; refine zye ?_; obtain ⟨i0, i1, i2, i3, j0, j1, j2, j3⟩ := In4.of_blk hgb; (try simp only [zyp]); refine Iy.goI_yes rfl rfl fun K hK => ?_; (try simp only [zyp] at hK); go_wp2_with (first | fail); (have HS := Lib.hid (ins_store3 HM.out HW.out hgl hgb op (d : Int) (e : Int) imm); exact hK undef _ ⟨⟨⟨HS.out.1, HS.out.2.1, Nat.le_trans HZ.out (Nat.le_of_eq (by simp)), ins_cell3 HM.out hgb d13 .., ins_cell3 HM.out hgb d0 ..⟩, ptr_same ev13 HS.out.2.2⟩, Iy.vk_turn (by repeat (first | exact True.intro | refine And.intro (fun _ h => h) ?_ | refine And.intro (fun hne => absurd rfl hne) ?_ | refine And.intro (fun _ h => ins_keep hgb h) ?_))⟩ trivial)))
  intro vsf wf HF hdf
  refine zyv 14 0 1 ?_; rintro _ _ rfl; refine zyv 13 1 2 ?_; rintro _ _ rfl; refine zyv 12 2 3 ?_; rintro _ _ rfl; refine zyv 11 3 4 ?_; rintro _ _ rfl; refine zyv 10 4 5 ?_; rintro _ _ rfl; refine zyv 9 5 6 ?_; rintro _ _ rfl; refine zyv 8 6 7 ?_; rintro _ _ rfl; refine zyv 7 7 8 ?_; rintro _ _ rfl; refine zyv 6 8 9 ?_; rintro _ _ rfl; refine zyv 5 9 10 ?_; rintro _ _ rfl; refine zyv 4 10 11 ?_; rintro _ _ rfl; refine zyv 3 11 12 ?_; rintro _ _ rfl; refine zyv 2 12 13 ?_; rintro _ _ rfl; refine zyv 1 13 14 ?_; rintro _ ev13 ⟨g, rfl, hgl, a0, a1, a2, a3, hgb⟩; refine zyv 0 14 15 ?_; rintro _ _ _
  refine Ix.allV_nil ?_
  obtain ⟨⟨HM, HW, HZ, d13, d0⟩, hgf⟩ := HF; have gB : B ≤ g := (Nat.le_trans H.out.hi hgl); have HG := Lib.hid (hgf g ev13); clear hgf hgb d13 d0 c13 c0
  (try simp only [Act.put, List.setIfInBounds_toArray, List.set_cons_zero, List.set_cons_succ, List.drop_succ_cons, List.drop_zero])
  go_wp2_with (first | fail)
  refine Ix.only ?_
  have hgm : ¬ g = L.bb := HG.out.ne_ HM.out.blk (by decide)
  have hmg : ¬ L.bb = g := fun e => hgm e.symm
  obtain ⟨i0, i1, i2, i3, j0, j1, j2, j3⟩ := In4.of_blk HG.out
  obtain ⟨c13, f13⟩ := HM.out.at_ 13 (.int .i64 P) HE.out
  obtain ⟨c9, f9⟩ := HM.out.at_ 9 (.bool s.c) rfl
  obtain ⟨c10, f10⟩ := HM.out.at_ 10 (.bool s.z) rfl
  obtain ⟨c11, f11⟩ := HM.out.at_ 11 (.bool s.n) rfl
  obtain ⟨c12, f12⟩ := HM.out.at_ 12 (.bool s.v) rfl
  clear f9 f10 f11 f12
  go_upto_region 6 with (fail)
  have hd := HD.out
  have he := HE8.out
  have HA : Hid (Below wf.heap.size wf (wf.alloc (Obj.cells #[Value.bool s.c, Value.bool s.z, Value.bool s.n, Value.bool s.v] 25))) := Ext.alloc (Below.refl _ _) _
  have HGF : Hid (Blk (wf.alloc (Obj.cells #[Value.bool s.c, Value.bool s.z, Value.bool s.n, Value.bool s.v] 25)) wf.heap.size 25 #[Value.bool s.c, Value.bool s.z, Value.bool s.n, Value.bool s.v]) := Blk.new _ _ _
  replace HM := Lib.hid (HM.out.keep HA.out)
  replace HG := Lib.hid (HG.out.keep HA.out)
  replace HZ := Lib.hid (Nat.le_trans HZ.out HA.out.size)
  have HZF : Hid (w.heap.size ≤ wf.heap.size) := HW.out.size
  replace HW := Lib.hid (HW.out.below HA.out)
  clear HA i0 i1 i2 i3 j0 j1 j2 j3 c13 f13 c9 c10 c11 c12 hn0
  generalize (wf.alloc (Obj.cells #[Value.bool s.c, Value.bool s.z, Value.bool s.n, Value.bool s.v] 25)) = wa at *
  generalize wf.heap.size = gf at *
  have hfb : ¬ gf = L.bb := HGF.out.ne_ HM.out.blk (by decide)
  have hbf : ¬ L.bb = gf := fun e => hfb e.symm
  have hfg : ¬ gf = g := HGF.out.ne_ HG.out (by decide)
  have hgf : ¬ g = gf := fun e => hfg e.symm
  obtain ⟨i0, i1, i2, i3, j0, j1, j2, j3⟩ := In4.of_blk HG.out
  obtain ⟨q0, q1, q2, q3⟩ := bl4 HGF.out
  obtain ⟨c13, f13⟩ := HM.out.at_ 13 (.int .i64 P) HE.out
  obtain ⟨cd, fd⟩ := HM.out.reg d hd
  obtain ⟨ce, fe⟩ := HM.out.reg e he
  have hd1 : ¬ 1 + d = 13 := (by omega)
  clear ev13 hdf
  go_quiet (fail)
  replace HM := Lib.hid (HM.out.drewN nq)
  replace HG := Lib.hid (HG.out.drewN nq)
  replace HGF := Lib.hid (HGF.out.drewN nq)
  replace HW := Lib.hid (HW.out.drewN nq)
  replace HZ : Hid (w.heap.size ≤ (wa.drewN nq).heap.size) := HZ
  clear i0 i1 i2 i3 j0 j1 j2 j3 q0 q1 q2 q3 c13 f13 cd fd ce fe
  generalize (wa.drewN nq) = wb at *
  obtain ⟨i0, i1, i2, i3, j0, j1, j2, j3⟩ := In4.of_blk HG.out
  obtain ⟨q0, q1, q2, q3⟩ := bl4 HGF.out
  obtain ⟨c13, f13⟩ := HM.out.at_ 13 (.int .i64 P) HE.out
  replace HOP := HOP.out
  subst HOP
  obtain ⟨X, hX⟩ : ∃ X, X = s.r e % 256 := ⟨_, rfl⟩
  have hwu : IntKind.u8.wrap (s.r e % 256) = X := by rw [hX, IntKind.wrap_u8]; omega
  have re0 : 0 ≤ s.r e := (HOK.out.1 e he).1
  obtain ⟨N1, hN1⟩ : ∃ N1, N1 = s.out.length := ⟨_, rfl⟩
  have hlen := HLEN.out
  have hown := HM.out.out
  rw [← hN1] at hown hlen
  obtain ⟨oa, oc, hov, hob⟩ := own_slice hown
  obtain ⟨c18, f18⟩ := HM.out.at_ 18 (.slice oa N1 oc) (by rw [← hov]; rfl)
  have HOWN : Hid (wb.ownsRow B 5 1 (.slice oa N1 oc) N1 (s.out.map (Value.int .u8))) := by rw [← hov]; exact hown
  have HHI := Lib.hid HM.out.hi
  have HX2 := Lib.hid hX; have HN2 := Lib.hid hN1; have HOV := Lib.hid hov
  by_cases hfull : N1 = 65536
  · have hfl : ((N1 : Int) == 65536) = true := by simp; omega
    clear hX hN1 hov hown hob
    go_wp2
    go_ret
    obtain rfl := HPP.out
    have HX : Mc.exec inp 30 d e imm (s.pc + n) s = (s, 5) := by rw [exec_out, if_pos (by rw [← HN2.out]; exact hfull)]
    rw [HX]
    exact ⟨rfl, N, ov, by omega, HM.out, HW.out⟩
  · have hfl : ((N1 : Int) == 65536) = false := by simp; omega
    have HNF := Lib.hid hfull
    obtain ⟨iU, hi, hz0, hz1, hz2⟩ := info_parts Try.infoU8
    clear hX hN1 hov hown hob hfull
    go_upto_region 93 with (fail)
    go_wp2_with (first | (at_builtin; refine wpList_append_own _ rfl _ _ 28 rfl B 5 iU (.int .u8 0) 1 1 Try.underlying28 hi hz0 hz1 hz2 rfl (by decide) (.slice oa N1 oc) N1 (s.out.map (Value.int .u8)) rfl (HOWN.out.alloc _) ⟨wb.heap.size, 0, none⟩ 1 1 [.int .u8 X] rfl rfl (one_new rfl _ _) (one_cell rfl) (by unfold maxLen; omega) (by omega) (by have := HHI.out; simp; omega) ?_; intro v' w' ho hgr _; obtain ⟨a', c', hv', _⟩ := own_slice ho; subst hv'; have HT := Lib.hid ((HM.out.keep (Ext.alloc (Below.refl _ _) (.cells #[.int .u8 X] 5))).told (by rw [HOV.out]; exact hgr) (x := X) (by rw [← HN2.out]; exact ho)); have c18' : w'.cell? ⟨L.bb, 18, none⟩ = some (.slice oa N1 oc) := (by rw [HT.out.1.cell, HOV.out]; rfl); have f18' := HT.out.1.frozen 18; have HFG := Lib.hid ((HW.out.below (Ext.alloc (Below.refl _ _) (.cells #[.int .u8 X] 5))).grown (by rw [HOV.out]; exact hgr)); obtain ⟨k13, l13⟩ : w'.cell? ⟨L.bb, 13, none⟩ = some (.int .i64 P) ∧ w'.frozen? ⟨L.bb, 13, none⟩ = false := ⟨(by rw [HT.out.1.cell]; rw [HPP.out]; rfl), HT.out.1.frozen 13⟩; clear ho hgr))
    go_ret
    obtain rfl := HPP.out
    have HX : Mc.exec inp 30 d e imm (s.pc + n) s = (goOn { s with out := s.out ++ [s.r e % 256] } (s.pc + n), 0) := by rw [exec_out, if_neg (by rw [← HN2.out]; exact HNF.out)]
    rw [HX, ← HX2.out]
    exact ⟨rfl, N, _, by omega, HT.out.2.setPc ((s.pc + n) % 65536), Frm3.cell (Frm3.cell (HFG.out) rfl _) rfl _⟩
end Go.Proofs.Ytfjgnhmmakeaeaa
