/- The document's machine: a step: and, or, xor -/
import Derived.Test.YtfjgnhmmakeaeaaPt2
import Derived.Test.YtfjgnhmmakeaeaaB8
import Derived.Test.YtfjgnhmmakeaeaaR11
namespace Go.Proofs.Ytfjgnhmmakeaeaa
open Go.RowKit Go.Maps
set_option linter.unusedVariables false
set_option linter.unusedSimpArgs false
set_option maxRecDepth 100000
open Mc
set_option maxHeartbeats 32000000 in
theorem step3_g7 (B : Nat) (L : Lay3) (N : Nat) (ms : List Int) (s : St) (ov : Value) (inp : List Int) (op D E imm n : Int) (d e : Nat) (hop : op = 9 ∨ op = 10 ∨ op = 11) (hI : InsOk D E n imm d e) (hok : Mc.Ok s) (hNN : N < 9000000) (w : World) (h : Box3 w B L N ms s ov) (hcv : ∃ ca cn cc, L.cv = .slice ca cn cc)
    (CI : ∀ w1 : World, Below B w w1 → Calls Try.prog 59 #[L.cv, .int .i64 s.pc] w1 (OneR op D E imm n w1)) :
    Calls Try.prog 44 #[bP L] w (Did3 B L N ms ov (Mc.exec inp op d e imm (s.pc + n) s) w) := by
  have HNN := Lib.hid hNN; have HOP := Lib.hid hop; clear hNN hop
  obtain ⟨⟨rfl, hd⟩, ⟨rfl, he⟩, hn, him0, him1⟩ := hI
  obtain ⟨P, hP⟩ : ∃ P, P = s.pc := ⟨_, rfl⟩
  have hPb := hok.2.1
  have c13e : (cells3 L s ov)[13]? = some (.int .i64 P) := by rw [hP]; rfl
  rw [← hP] at hPb CI
  have HPP := Lib.hid hP
  obtain ⟨c13, f13⟩ := h.at_ 13 (.int .i64 P) c13e
  obtain ⟨c0, f0⟩ := h.at_ 0 L.cv rfl
  obtain ⟨ca, cn, cc, hcve⟩ := hcv
  rw [hcve] at c0 CI
  have CI2 := Lib.hid CI
  have H := Lib.hid h
  have HOK := Lib.hid hok
  have HE := Lib.hid c13e
  clear h hP hcve CI hok c13e
  obtain ⟨hP0, hP1⟩ := hPb
  have HD := Lib.hid hd; have HE8 := Lib.hid he; have HN := Lib.hid hn
  have hn0 : (n == 0) = false := by simp; omega
  clear hd he
  go_enter Try.func44, Try.ntmps44
  go_wp2
  apply Iy.wp_region 15 [14] (fun n => if n = 0 then [] else [13]) (Ix.Rb) (fun n vs wi => (Hid (Box3 wi B L N ms s ov) ∧ Hid (Frm3 L ov w wi) ∧ Hid (w.heap.size ≤ wi.heap.size) ∧ wi.cell? ⟨L.bb, 13, none⟩ = some (.int .i64 P) ∧ wi.cell? ⟨L.bb, 0, none⟩ = some (.slice ca cn cc)) ∧ (match n with | 0 => True | _ + 1 => ∀ g, vs 13 = Value.pointer (some ⟨g, 0, none⟩) → Blk wi g 43 #[.int .i64 op, .int .i64 (d : Int), .int .i64 (e : Int), .int .i64 imm])) (Ix.vk [(Ix.kis _), (Ix.kis _), (Ix.kis _), (Ix.kis _), (Ix.kis _), (Ix.kis _), (Ix.kis _), (Ix.kis _), (Ix.kis _), (Ix.kis (.tuple #[insV op (d : Int) (e : Int) imm, .int .i64 n])), (Ix.kis _), (Ix.kis _), (Ix.kis _), (Ix.kwld (fun v w' => ∃ g, v = Value.pointer (some ⟨g, 0, none⟩) ∧ w.heap.size ≤ g ∧ ∃ a0 a1 a2 a3, Blk w' g 43 #[.int .i64 a0, .int .i64 a1, .int .i64 a2, .int .i64 a3]) (fun v w1 w2 h hb => by obtain ⟨g, e, hl, a0, a1, a2, a3, hi⟩ := h; exact ⟨g, e, hl, a0, a1, a2, a3, hi.keep hb⟩)), (Ix.ksat (fun _ => True))]) (fun k => k == 13) (by kernel_rfl) (by kernel_rfl) (by kernel_rfl) (by kernel_rfl) (by kernel_rfl) (fun n vs vs' w hk h => by cases n with | zero => exact h | succ n => exact ⟨h.1, fun g e => h.2 g ((hk 13 (by simp)).trans e)⟩) (fun _ => Below.refl _ _) (fun n vs _ _ h hb => ⟨⟨h.1.1.out.keep hb, h.1.2.1.out.below hb, Nat.le_trans h.1.2.2.1.out hb.size, by rw [(bcell hb).1 _ _ h.1.1.out.lt]; exact h.1.2.2.2.1, by rw [(bcell hb).1 _ _ h.1.1.out.lt]; exact h.1.2.2.2.2⟩, by cases n with | zero => trivial | succ n => exact fun g e => (h.2 g e).keep hb⟩) (Ix.vk_keeps _) (fun j v w hj hv => by simp only [beq_iff_eq] at hj; subst hj; obtain ⟨g, e, _, _, _, _, _, hg⟩ := hv; exact ⟨g, e, hg.lt⟩) (fun vs => ⟨⟨H.out.drew, Frm3.drew (Frm3.refl _ _ _), Nat.le_refl _, c13, c0⟩, trivial⟩)
  case step =>
    refine zys 14 0 1 [] (fun _ _ wi HB => ?_) <| zys 13 1 2 [(0, some 18)] (fun _ _ wi HB => ?_) <| zys 12 2 3 [(1, some 19)] (fun _ _ wi HB => ?_) <| zys 11 3 4 [(2, some 20)] (fun _ _ wi HB => ?_) <| zys 10 4 5 [] (fun _ _ wi HB => ?_) <| zys 9 5 6 [(4, some 22)] (fun _ _ wi HB => ?_) <| zys 8 6 7 [(5, some 23)] (fun _ _ wi HB => ?_) <| zys 7 7 8 [(6, some 24)] (fun _ _ wi HB => ?_) <| zys 6 8 9 [(7, some 25)] (fun _ _ wi HB => ?_) <| zys 5 9 10 [(3, some 21), (8, some 26)] (fun _ _ wi HB => ?_) <| zys 4 10 11 [(9, some 27)] (fun _ _ wi HB => ?_) <| zys 3 11 12 [(10, some 17)] (fun _ _ wi HB => ?_) <| zys 2 12 13 [(10, some 17)] (fun _ _ wi HB => ?_) <| zys 1 13 14 [] (fun _ _ wi HB => ?_) <| zyc 0 14 15 0 [(11, some 28), (13, some 3)] (fun vsp wi HB => ?_) <| Iy.steps_nil
    iterate 3 (· ((repeat (refine zya ?_; rintro _ rfl)); refine zye ?_; (try simp only [zyp]); refine Iy.goI_yes rfl rfl fun K hK => ?_; (try simp only [zyp] at hK); go_wp2_with (first | fail); exact hK _ _ (Below.refl _ _) rfl))
    (· (obtain ⟨⟨HM, HW, HZ, d13, d0⟩, _⟩ := HB; (repeat (refine zya ?_; rintro _ rfl)); refine zye ?_; (try simp only [zyp]); refine Iy.goI_yes rfl rfl fun K hK => ?_; (try simp only [zyp] at hK); go_wp2_with (first | fail); exact hK _ _ (Below.refl _ _) rfl))
    iterate 4 (· ((repeat (refine zya ?_; rintro _ rfl)); refine zye ?_; (try simp only [zyp]); refine Iy.goI_yes rfl rfl fun K hK => ?_; (try simp only [zyp] at hK); go_wp2_with (first | fail); exact hK _ _ (Below.refl _ _) rfl))
    (· (obtain ⟨⟨HM, HW, HZ, d13, d0⟩, _⟩ := HB; (repeat (refine zya ?_; rintro _ rfl)); refine zye ?_; (try simp only [zyp]); refine Iy.goI_yes rfl rfl fun K hK => ?_; (try simp only [zyp] at hK); go_wp2_with (first | fail); exact hK _ _ (Below.refl _ _) rfl))
    (· (obtain ⟨⟨HM, HW, HZ, d13, d0⟩, _⟩ := HB; (repeat (refine zya ?_; rintro _ rfl)); refine zye ?_; (try simp only [zyp]); refine Iy.goI_yes rfl rfl fun K hK => ?_; (try simp only [zyp] at hK); go_wp2_with (first | (go_at_call 59; refine (CI2.out _ (HW.out.to H.out)).mono ?_; rintro e w1 ⟨rfl, hba⟩)); exact hK _ _ hba rfl))
    iterate 3 (· ((repeat (refine zya ?_; rintro _ rfl)); refine zye ?_; (try simp only [zyp]); refine Iy.goI_yes rfl rfl fun K hK => ?_; (try simp only [zyp] at hK); go_wp2_with (first | fail); exact hK _ _ (Below.refl _ _) rfl))
    (· (obtain ⟨⟨HM, HW, HZ, d13, d0⟩, _⟩ := HB; (repeat (refine zya ?_; rintro _ rfl)); refine zye ?_; (try simp only [zyp]); refine Iy.goI_new rfl fun K hK => ?_; (try simp only [zyp] at hK); go_wp2_with (first | fail); exact hK _ (Ext.alloc (Below.refl _ _) _) ⟨_, rfl, HZ.out, 0, 0, 0, 0, Blk.new _ _ _⟩))
    (· (obtain ⟨⟨HM, HW, HZ, d13, d0⟩, _⟩ := HB; refine zya ?_; rintro _ ⟨rfl, ev11⟩; refine zya ?_; rintro _ ⟨⟨g, rfl, hgl, a0, a1, a2, a3, hgb⟩, ev13⟩; refine zye ?_; obtain ⟨i0, i1, i2, i3, j0, j1, j2, j3⟩ := In4.of_blk hgb; (try simp only [zyp]); refine Iy.goI_yes rfl rfl fun K hK => ?_; (try simp only [zyp] at hK); go_wp2_with (first | fail); (have HS := Lib.hid (ins_store3 HM.out HW.out hgl hgb op (d : Int) (e : Int) imm); exact hK undef _ ⟨⟨⟨HS.out.1, HS.out.2.1, Nat.le_trans HZ.out (Nat.le_of_eq (by simp)), ins_cell3 HM.out hgb d13 .., ins_cell3 HM.out hgb d0 ..⟩, ptr_same ev13 HS.out.2.2⟩, Iy.vk_turn (by repeat (first | exact True.intro | refine And.intro (fun _ h => h) ?_ | refine And.intro (fun hne => absurd rfl hne) ?_ | refine And.intro (fun _ h => ins_keep hgb h) ?_))⟩ trivial)))
  intro vsf wf HF hdf
  refine zyv 14 0 1 ?_; rintro _ _ rfl; refine zyv 13 1 2 ?_; rintro _ _ rfl; refine zyv 12 2 3 ?_; rintro _ _ rfl; refine zyv 11 3 4 ?_; rintro _ _ rfl; refine zyv 10 4 5 ?_; rintro _ _ rfl; refine zyv 9 5 6 ?_; rintro _ _ rfl; refine zyv 8 6 7 ?_; rintro _ _ rfl; refine zyv 7 7 8 ?_; rintro _ _ rfl; refine zyv 6 8 9 ?_; rintro _ _ rfl; refine zyv 5 9 10 ?_; rintro _ _ rfl; refine zyv 4 10 11 ?_; rintro _ _ rfl; refine zyv 3 11 12 ?_; rintro _ _ rfl; refine zyv 2 12 13 ?_; rintro _ _ rfl; refine zyv 1 13 14 ?_; rintro _ ev13 ⟨g, rfl, hgl, a0, a1, a2, a3, hgb⟩; refine zyv 0 14 15 ?_; rintro _ _ _
  refine Ix.allV_nil ?_
  obtain ⟨⟨HM, HW, HZ, d13, d0⟩, hgf⟩ := HF; have gB : B ≤ g := (Nat.le_trans H.out.hi hgl); have HG := Lib.hid (hgf g ev13); clear hgf hgb d13 d0 c13 c0
  (try simp only [Act.put, List.setIfInBounds_toArray, List.set_cons_zero, List.set_cons_succ, List.drop_succ_cons, List.drop_zero])
  go_wp2_with (first | fail)
  refine Ix.only ?_
  have hgm : ¬ g = L.bb := HG.out.ne_ HM.out.blk (by decide)
  have hmg : ¬ L.bb = g := fun e => hgm e.symm
  obtain ⟨i0, i1, i2, i3, j0, j1, j2, j3⟩ := In4.of_blk HG.out
  obtain ⟨c13, f13⟩ := HM.out.at_ 13 (.int .i64 P) HE.out
  obtain ⟨c9, f9⟩ := HM.out.at_ 9 (.bool s.c) rfl
  obtain ⟨c10, f10⟩ := HM.out.at_ 10 (.bool s.z) rfl
  obtain ⟨c11, f11⟩ := HM.out.at_ 11 (.bool s.n) rfl
  obtain ⟨c12, f12⟩ := HM.out.at_ 12 (.bool s.v) rfl
  clear f9 f10 f11 f12
  go_upto_region 6 with (fail)
  have hd := HD.out
  have he := HE8.out
  have HA : Hid (Below wf.heap.size wf (wf.alloc (Obj.cells #[Value.bool s.c, Value.bool s.z, Value.bool s.n, Value.bool s.v] 25))) := Ext.alloc (Below.refl _ _) _
  have HGF : Hid (Blk (wf.alloc (Obj.cells #[Value.bool s.c, Value.bool s.z, Value.bool s.n, Value.bool s.v] 25)) wf.heap.size 25 #[Value.bool s.c, Value.bool s.z, Value.bool s.n, Value.bool s.v]) := Blk.new _ _ _
  replace HM := Lib.hid (HM.out.keep HA.out)
  replace HG := Lib.hid (HG.out.keep HA.out)
  replace HZ := Lib.hid (Nat.le_trans HZ.out HA.out.size)
  have HZF : Hid (w.heap.size ≤ wf.heap.size) := HW.out.size
  replace HW := Lib.hid (HW.out.below HA.out)
  clear HA i0 i1 i2 i3 j0 j1 j2 j3 c13 f13 c9 c10 c11 c12 hn0
  generalize (wf.alloc (Obj.cells #[Value.bool s.c, Value.bool s.z, Value.bool s.n, Value.bool s.v] 25)) = wa at *
  generalize wf.heap.size = gf at *
  have hfb : ¬ gf = L.bb := HGF.out.ne_ HM.out.blk (by decide)
  have hbf : ¬ L.bb = gf := fun e => hfb e.symm
  have hfg : ¬ gf = g := HGF.out.ne_ HG.out (by decide)
  have hgf : ¬ g = gf := fun e => hfg e.symm
  obtain ⟨i0, i1, i2, i3, j0, j1, j2, j3⟩ := In4.of_blk HG.out
  obtain ⟨q0, q1, q2, q3⟩ := bl4 HGF.out
  obtain ⟨c13, f13⟩ := HM.out.at_ 13 (.int .i64 P) HE.out
  obtain ⟨cd, fd⟩ := HM.out.reg d hd
  obtain ⟨ce, fe⟩ := HM.out.reg e he
  have hd1 : ¬ 1 + d = 13 := (by omega)
  clear ev13 hdf
  go_quiet (fail)
  replace HM := Lib.hid (HM.out.drewN nq)
  replace HG := Lib.hid (HG.out.drewN nq)
  replace HGF := Lib.hid (HGF.out.drewN nq)
  replace HW := Lib.hid (HW.out.drewN nq)
  replace HZ : Hid (w.heap.size ≤ (wa.drewN nq).heap.size) := HZ
  clear i0 i1 i2 i3 j0 j1 j2 j3 q0 q1 q2 q3 c13 f13 cd fd ce fe
  generalize (wa.drewN nq) = wb at *
  obtain ⟨i0, i1, i2, i3, j0, j1, j2, j3⟩ := In4.of_blk HG.out
  obtain ⟨q0, q1, q2, q3⟩ := bl4 HGF.out
  obtain ⟨c13, f13⟩ := HM.out.at_ 13 (.int .i64 P) HE.out
  replace HOP := HOP.out
  rcases HOP with rfl | rfl | rfl
  · obtain ⟨hrd, hre⟩ : (0 ≤ s.r d ∧ s.r d < 65536) ∧ (0 ≤ s.r e ∧ s.r e < 65536) := ⟨HOK.out.1 d hd, HOK.out.1 e he⟩
    obtain ⟨Z, hZ⟩ : ∃ Z, Z = Mc.twoR 9 (s.r d) (s.r e) false := ⟨_, rfl⟩
    have hZb : 0 ≤ Z ∧ Z < 65536 := by rw [hZ]; show 0 ≤ bits _ .i64 _ _ % 65536 ∧ bits _ .i64 _ _ % 65536 < 65536; omega
    have CLO : Hid (∀ w1 : World, Calls Try.prog 67 #[.int .i64 9, .int .i64 (s.r d), .int .i64 (s.r e)] w1 fun e' w' => e' = .returned (.int .i64 Z) ∧ Below w1.heap.size w1 w') := fun w1 => by rw [hZ]; exact logic9 _ _ hrd hre w1
    have CPL : Hid (∀ w1 : World, Box3 w1 B L N ms s ov → Calls Try.prog 66 #[bP L, .int .i64 Z, .bool false] w1 fun e' w' => e' = .returned (.int .i64 Z) ∧ Box3 w' B L N ms (Mc.fl s false Z false) ov ∧ Frm3 L ov w1 w') := fun w1 h1 => plain3_p B L N ms s ov Z false hZb w1 h1
    have HZ2 := Lib.hid hZ
    clear hZ hrd hre hZb
    go_wp2
    clear i0 i1 i2 i3 j0 j1 j2 j3 q0 q1 q2 q3 c13 f13
    apply Iy.wp_region 14 [9] (fun _ => []) (Ix.Rb) (fun n vs wi => (Hid (Frm3 L ov w wi) ∧ Hid (Blk wi g 43 #[.int .i64 9, .int .i64 (d : Int), .int .i64 (e : Int), .int .i64 imm])) ∧ (match n with | 0 => Hid (Box3 wi B L N ms s ov) | _ + 1 => Hid (Box3 wi B L N ms (Mc.fl s false Z false) ov))) (Iy.vp [(Iy.is _), (Iy.is _), (Iy.is _), (Iy.is _), (Iy.is _), (Iy.is _), (Iy.is _), (Iy.is _), (Iy.is (.int .i64 Z)), (Iy.is (.int .i64 Z)), (Iy.is _), (Iy.is _), (Iy.is _), (Iy.is _)]) (fun _ => false) (by kernel_rfl) (by kernel_rfl) (by kernel_rfl) (by kernel_rfl) (by kernel_rfl) (fun _ _ _ _ _ h => h) (fun _ => Below.refl _ _) (fun n vs _ _ h hb => by cases n with | zero => exact ⟨⟨h.1.1.out.below hb, h.1.2.out.keep hb⟩, h.2.out.keep hb⟩ | succ n => exact ⟨⟨h.1.1.out.below hb, h.1.2.out.keep hb⟩, h.2.out.keep hb⟩) (fun _ _ => Iy.vp_keeps _ _ _ _) (Ix.not_al _) (fun vs => ⟨⟨HW.out.drew, HG.out.drew⟩, HM.out.drew⟩)
    case step =>
      refine zys 13 0 1 [] (fun _ _ wi HB => ?_) <| zys 12 1 2 [] (fun _ _ wi HB => ?_) <| zys 11 2 3 [(1, some 239)] (fun _ _ wi HB => ?_) <| zys 10 3 4 [] (fun _ _ wi HB => ?_) <| zys 9 4 5 [] (fun _ _ wi HB => ?_) <| zys 8 5 6 [(4, some 242)] (fun _ _ wi HB => ?_) <| zys 7 6 7 [] (fun _ _ wi HB => ?_) <| zys 6 7 8 [] (fun _ _ wi HB => ?_) <| zys 5 8 9 [(5, some 243), (6, some 244), (7, some 245)] (fun _ _ wi HB => ?_) <| zyc 4 9 10 0 [(3, some 241), (8, some 246)] (fun vsp wi HB => ?_) <| zys 3 10 11 [(0, some 238)] (fun _ _ wi HB => ?_) <| zys 2 11 12 [(10, some 248)] (fun _ _ wi HB => ?_) <| zys 1 12 13 [(11, some 249)] (fun _ _ wi HB => ?_) <| zys 0 13 14 [(2, some 240), (12, some 250)] (fun _ _ wi HB => ?_) <| Iy.steps_nil
      iterate 2 (· ((repeat (refine zya ?_; rintro _ rfl)); refine zye ?_; (try simp only [zyp]); refine Iy.goI_yes rfl rfl fun K hK => ?_; (try simp only [zyp] at hK); go_wp2_with (first | fail); exact hK _ _ (Below.refl _ _) rfl))
      (· (obtain ⟨⟨HW, HG⟩, HM⟩ := HB; obtain ⟨i0, i1, i2, i3, j0, j1, j2, j3⟩ := In4.of_blk HG.out; (repeat (refine zya ?_; rintro _ rfl)); refine zye ?_; (try simp only [zyp]); refine Iy.goI_yes rfl rfl fun K hK => ?_; (try simp only [zyp] at hK); go_wp2_with (first | fail); exact hK _ _ (Below.refl _ _) rfl))
      iterate 2 (· ((repeat (refine zya ?_; rintro _ rfl)); refine zye ?_; (try simp only [zyp]); refine Iy.goI_yes rfl rfl fun K hK => ?_; (try simp only [zyp] at hK); go_wp2_with (first | fail); exact hK _ _ (Below.refl _ _) rfl))
      (· (obtain ⟨⟨HW, HG⟩, HM⟩ := HB; obtain ⟨i0, i1, i2, i3, j0, j1, j2, j3⟩ := In4.of_blk HG.out; (repeat (refine zya ?_; rintro _ rfl)); refine zye ?_; (try simp only [zyp]); refine Iy.goI_yes rfl rfl fun K hK => ?_; (try simp only [zyp] at hK); go_wp2_with (first | fail); exact hK _ _ (Below.refl _ _) rfl))
      iterate 2 (· ((repeat (refine zya ?_; rintro _ rfl)); refine zye ?_; (try simp only [zyp]); refine Iy.goI_yes rfl rfl fun K hK => ?_; (try simp only [zyp] at hK); go_wp2_with (first | fail); exact hK _ _ (Below.refl _ _) rfl))
      (· (obtain ⟨⟨HW, HG⟩, HM⟩ := HB; obtain ⟨i0, i1, i2, i3, j0, j1, j2, j3⟩ := In4.of_blk HG.out; (repeat (refine zya ?_; rintro _ rfl)); refine zye ?_; (try simp only [zyp]); refine Iy.goI_yes rfl rfl fun K hK => ?_; (try simp only [zyp] at hK); go_wp2_with (first | (go_at_call 67; refine (CLO.out _).mono ?_; rintro e' w1 ⟨rfl, hba⟩)); exact hK _ _ hba rfl))
      (· (obtain ⟨⟨HW, HG⟩, HM⟩ := HB; obtain ⟨i0, i1, i2, i3, j0, j1, j2, j3⟩ := In4.of_blk HG.out; refine zya ?_; rintro _ ⟨rfl, ev3⟩; refine zya ?_; rintro _ ⟨rfl, ev8⟩; refine zye ?_; (try simp only [zyp]); refine Iy.goI_yes rfl rfl fun K hK => ?_; (try simp only [zyp] at hK); go_wp2_with (first | (go_at_call 66; refine (CPL.out _ HM.out).mono ?_; rintro e' w1 ⟨rfl, hmt, hbt⟩)); exact hK _ _ ⟨⟨⟨HW.out.trans hbt, HG.out.frm3 hbt HM.out hgm (by decide)⟩, Lib.hid hmt⟩, fun _ _ h => h⟩ rfl))
      iterate 4 (· ((repeat (refine zya ?_; rintro _ rfl)); refine zye ?_; (try simp only [zyp]); refine Iy.goI_yes rfl rfl fun K hK => ?_; (try simp only [zyp] at hK); go_wp2_with (first | fail); exact hK _ _ (Below.refl _ _) rfl))
    intro vsf wf HF hdf
    refine zyv 13 0 1 ?_; rintro _ _ rfl; refine zyv 12 1 2 ?_; rintro _ _ rfl; refine zyv 11 2 3 ?_; rintro _ _ rfl; refine zyv 10 3 4 ?_; rintro _ _ rfl; refine zyv 9 4 5 ?_; rintro _ _ rfl; refine zyv 8 5 6 ?_; rintro _ _ rfl; refine zyv 7 6 7 ?_; rintro _ _ rfl; refine zyv 6 7 8 ?_; rintro _ _ rfl; refine zyv 5 8 9 ?_; rintro _ _ rfl; refine zyv 4 9 10 ?_; rintro _ _ rfl; refine zyv 3 10 11 ?_; rintro _ _ rfl; refine zyv 2 11 12 ?_; rintro _ _ rfl; refine zyv 1 12 13 ?_; rintro _ _ rfl; refine zyv 0 13 14 ?_; rintro _ _ rfl
    refine Ix.allV_nil ?_
    obtain ⟨⟨HW, HG⟩, HM⟩ := HF; obtain ⟨cd, fd⟩ := HM.out.reg d hd; obtain ⟨k13, l13⟩ := HM.out.at_ 13 (.int .i64 P) HE.out
    (try simp only [Act.put, List.setIfInBounds_toArray, List.set_cons_zero, List.set_cons_succ, List.drop_succ_cons, List.drop_zero])
    go_wp2_with (first | fail)
    refine Ix.only ?_
    go_wp2
    go_ret
    obtain rfl := HPP.out
    have HX := exec_two inp 9 d e imm (s.pc + n) s (by decide)
    rw [HX]
    have HT : ({ Mc.two 9 (s.r d) (s.r e) s with r := upd s.r d (Mc.twoR 9 (s.r d) (s.r e) s.c) } : St) = { Mc.fl s false Z false with r := upd s.r d Z } := by rw [HZ2.out]; rfl
    rw [HT]
    exact ⟨rfl, N, ov, by omega, (HM.out.setR d hd Z).setPc ((s.pc + n) % 65536), Frm3.cell (Frm3.cell (HW.out) rfl _) rfl _⟩
  · obtain ⟨hrd, hre⟩ : (0 ≤ s.r d ∧ s.r d < 65536) ∧ (0 ≤ s.r e ∧ s.r e < 65536) := ⟨HOK.out.1 d hd, HOK.out.1 e he⟩
    obtain ⟨Z, hZ⟩ : ∃ Z, Z = Mc.twoR 10 (s.r d) (s.r e) false := ⟨_, rfl⟩
    have hZb : 0 ≤ Z ∧ Z < 65536 := by rw [hZ]; show 0 ≤ bits _ .i64 _ _ % 65536 ∧ bits _ .i64 _ _ % 65536 < 65536; omega
    have CLO : Hid (∀ w1 : World, Calls Try.prog 67 #[.int .i64 10, .int .i64 (s.r d), .int .i64 (s.r e)] w1 fun e' w' => e' = .returned (.int .i64 Z) ∧ Below w1.heap.size w1 w') := fun w1 => by rw [hZ]; exact logic10 _ _ hrd hre w1
    have CPL : Hid (∀ w1 : World, Box3 w1 B L N ms s ov → Calls Try.prog 66 #[bP L, .int .i64 Z, .bool false] w1 fun e' w' => e' = .returned (.int .i64 Z) ∧ Box3 w' B L N ms (Mc.fl s false Z false) ov ∧ Frm3 L ov w1 w') := fun w1 h1 => plain3_p B L N ms s ov Z false hZb w1 h1
    have HZ2 := Lib.hid hZ
    clear hZ hrd hre hZb
    go_wp2
    clear i0 i1 i2 i3 j0 j1 j2 j3 q0 q1 q2 q3 c13 f13
    apply Iy.wp_region 14 [9] (fun _ => []) (Ix.Rb) (fun n vs wi => (Hid (Frm3 L ov w wi) ∧ Hid (Blk wi g 43 #[.int .i64 10, .int .i64 (d : Int), .int .i64 (e : Int), .int .i64 imm])) ∧ (match n with | 0 => Hid (Box3 wi B L N ms s ov) | _ + 1 => Hid (Box3 wi B L N ms (Mc.fl s false Z false) ov))) (Iy.vp [(Iy.is _), (Iy.is _), (Iy.is _), (Iy.is _), (Iy.is _), (Iy.is _), (Iy.is _), (Iy.is _), (Iy.is (.int .i64 Z)), (Iy.is (.int .i64 Z)), (Iy.is _), (Iy.is _), (Iy.is _), (Iy.is _)]) (fun _ => false) (by kernel_rfl) (by kernel_rfl) (by kernel_rfl) (by kernel_rfl) (by kernel_rfl) (fun _ _ _ _ _ h => h) (fun _ => Below.refl _ _) (fun n vs _ _ h hb => by cases n with | zero => exact ⟨⟨h.1.1.out.below hb, h.1.2.out.keep hb⟩, h.2.out.keep hb⟩ | succ n => exact ⟨⟨h.1.1.out.below hb, h.1.2.out.keep hb⟩, h.2.out.keep hb⟩) (fun _ _ => Iy.vp_keeps _ _ _ _) (Ix.not_al _) (fun vs => ⟨⟨HW.out.drew, HG.out.drew⟩, HM.out.drew⟩)
    case step =>
      refine zys 13 0 1 [] (fun _ _ wi HB => ?_) <| zys 12 1 2 [] (fun _ _ wi HB => ?_) <| zys 11 2 3 [(1, some 239)] (fun _ _ wi HB => ?_) <| zys 10 3 4 [] (fun _ _ wi HB => ?_) <| zys 9 4 5 [] (fun _ _ wi HB => ?_) <| zys 8 5 6 [(4, some 242)] (fun _ _ wi HB => ?_) <| zys 7 6 7 [] (fun _ _ wi HB => ?_) <| zys 6 7 8 [] (fun _ _ wi HB => ?_) <| zys 5 8 9 [(5, some 243), (6, some 244), (7, some 245)] (fun _ _ wi HB => ?_) <| zyc 4 9 10 0 [(3, some 241), (8, some 246)] (fun vsp wi HB => ?_) <| zys 3 10 11 [(0, some 238)] (fun _ _ wi HB => ?_) <| zys 2 11 12 [(10, some 248)] (fun _ _ wi HB => ?_) <| zys 1 12 13 [(11, some 249)] (fun _ _ wi HB => ?_) <| zys 0 13 14 [(2, some 240), (12, some 250)] (fun _ _ wi HB => ?_) <| Iy.steps_nil
      iterate 2 (· ((repeat (refine zya ?_; rintro _ rfl)); refine zye ?_; (try simp only [zyp]); refine Iy.goI_yes rfl rfl fun K hK => ?_; (try simp only [zyp] at hK); go_wp2_with (first | fail); exact hK _ _ (Below.refl _ _) rfl))
      (· (obtain ⟨⟨HW, HG⟩, HM⟩ := HB; obtain ⟨i0, i1, i2, i3, j0, j1, j2, j3⟩ := In4.of_blk HG.out; (repeat (refine zya ?_; rintro _ rfl)); refine zye ?_; (try simp only [zyp]); refine Iy.goI_yes rfl rfl fun K hK => ?_; (try simp only [zyp] at hK); go_wp2_with (first | fail); exact hK _ _ (Below.refl _ _) rfl))
      iterate 2 (· ((repeat (refine zya ?_; rintro _ rfl)); refine zye ?_; (try simp only [zyp]); refine Iy.goI_yes rfl rfl fun K hK => ?_; (try simp only [zyp] at hK); go_wp2_with (first | fail); exact hK _ _ (Below.refl _ _) rfl))
      (· (obtain ⟨⟨HW, HG⟩, HM⟩ := HB; obtain ⟨i0, i1, i2, i3, j0, j1, j2, j3⟩ := In4.of_blk HG.out; (repeat (refine zya ?_; rintro _ rfl)); refine zye ?_; (try simp only [zyp]); refine Iy.goI_yes rfl rfl fun K hK => ?_; (try simp only [zyp] at hK); go_wp2_with (first | fail); exact hK _ _ (Below.refl _ _) rfl))
      iterate 2 (· ((repeat (refine zya ?_; rintro _ rfl)); refine zye ?_; (try simp only [zyp]); refine Iy.goI_yes rfl rfl fun K hK => ?_; (try simp only [zyp] at hK); go_wp2_with (first | fail); exact hK _ _ (Below.refl _ _) rfl))
      (· (obtain ⟨⟨HW, HG⟩, HM⟩ := HB; obtain ⟨i0, i1, i2, i3, j0, j1, j2, j3⟩ := In4.of_blk HG.out; (repeat (refine zya ?_; rintro _ rfl)); refine zye ?_; (try simp only [zyp]); refine Iy.goI_yes rfl rfl fun K hK => ?_; (try simp only [zyp] at hK); go_wp2_with (first | (go_at_call 67; refine (CLO.out _).mono ?_; rintro e' w1 ⟨rfl, hba⟩)); exact hK _ _ hba rfl))
      (· (obtain ⟨⟨HW, HG⟩, HM⟩ := HB; obtain ⟨i0, i1, i2, i3, j0, j1, j2, j3⟩ := In4.of_blk HG.out; refine zya ?_; rintro _ ⟨rfl, ev3⟩; refine zya ?_; rintro _ ⟨rfl, ev8⟩; refine zye ?_; (try simp only [zyp]); refine Iy.goI_yes rfl rfl fun K hK => ?_; (try simp only [zyp] at hK); go_wp2_with (first | (go_at_call 66; refine (CPL.out _ HM.out).mono ?_; rintro e' w1 ⟨rfl, hmt, hbt⟩)); exact hK _ _ ⟨⟨⟨HW.out.trans hbt, HG.out.frm3 hbt HM.out hgm (by decide)⟩, Lib.hid hmt⟩, fun _ _ h => h⟩ rfl))
      iterate 4 (· ((repeat (refine zya ?_; rintro _ rfl)); refine zye ?_; (try simp only [zyp]); refine Iy.goI_yes rfl rfl fun K hK => ?_; (try simp only [zyp] at hK); go_wp2_with (first | fail); exact hK _ _ (Below.refl _ _) rfl))
    intro vsf wf HF hdf
    refine zyv 13 0 1 ?_; rintro _ _ rfl; refine zyv 12 1 2 ?_; rintro _ _ rfl; refine zyv 11 2 3 ?_; rintro _ _ rfl; refine zyv 10 3 4 ?_; rintro _ _ rfl; refine zyv 9 4 5 ?_; rintro _ _ rfl; refine zyv 8 5 6 ?_; rintro _ _ rfl; refine zyv 7 6 7 ?_; rintro _ _ rfl; refine zyv 6 7 8 ?_; rintro _ _ rfl; refine zyv 5 8 9 ?_; rintro _ _ rfl; refine zyv 4 9 10 ?_; rintro _ _ rfl; refine zyv 3 10 11 ?_; rintro _ _ rfl; refine zyv 2 11 12 ?_; rintro _ _ rfl; refine zyv 1 12 13 ?_; rintro _ _ rfl; refine zyv 0 13 14 ?_; rintro _ _ rfl
    refine Ix.allV_nil ?_
    obtain ⟨⟨HW, HG⟩, HM⟩ := HF; obtain ⟨cd, fd⟩ := HM.out.reg d hd; obtain ⟨k13, l13⟩ := HM.out.at_ 13 (.int .i64 P) HE.out
    (try simp only [Act.put, List.setIfInBounds_toArray, List.set_cons_zero, List.set_cons_succ, List.drop_succ_cons, List.drop_zero])
    go_wp2_with (first | fail)
    refine Ix.only ?_
    go_wp2
    go_ret
    obtain rfl := HPP.out
    have HX := exec_two inp 10 d e imm (s.pc + n) s (by decide)
    rw [HX]
    have HT : ({ Mc.two 10 (s.r d) (s.r e) s with r := upd s.r d (Mc.twoR 10 (s.r d) (s.r e) s.c) } : St) = { Mc.fl s false Z false with r := upd s.r d Z } := by rw [HZ2.out]; rfl
    rw [HT]
    exact ⟨rfl, N, ov, by omega, (HM.out.setR d hd Z).setPc ((s.pc + n) % 65536), Frm3.cell (Frm3.cell (HW.out) rfl _) rfl _⟩
  · obtain ⟨hrd, hre⟩ : (0 ≤ s.r d ∧ s.r d < 65536) ∧ (0 ≤ s.r e ∧ s.r e < 65536) := ⟨HOK.out.1 d hd, HOK.out.1 e he⟩
    obtain ⟨Z, hZ⟩ : ∃ Z, Z = Mc.twoR 11 (s.r d) (s.r e) false := ⟨_, rfl⟩
    have hZb : 0 ≤ Z ∧ Z < 65536 := by rw [hZ]; show 0 ≤ bits _ .i64 _ _ % 65536 ∧ bits _ .i64 _ _ % 65536 < 65536; omega
    have CLO : Hid (∀ w1 : World, Calls Try.prog 67 #[.int .i64 11, .int .i64 (s.r d), .int .i64 (s.r e)] w1 fun e' w' => e' = .returned (.int .i64 Z) ∧ Below w1.heap.size w1 w') := fun w1 => by rw [hZ]; exact logic11 _ _ hrd hre w1
    have CPL : Hid (∀ w1 : World, Box3 w1 B L N ms s ov → Calls Try.prog 66 #[bP L, .int .i64 Z, .bool false] w1 fun e' w' => e' = .returned (.int .i64 Z) ∧ Box3 w' B L N ms (Mc.fl s false Z false) ov ∧ Frm3 L ov w1 w') := fun w1 h1 => plain3_p B L N ms s ov Z false hZb w1 h1
    have HZ2 := Lib.hid hZ
    clear hZ hrd hre hZb
    go_wp2
    clear i0 i1 i2 i3 j0 j1 j2 j3 q0 q1 q2 q3 c13 f13
    apply Iy.wp_region 14 [9] (fun _ => []) (Ix.Rb) (fun n vs wi => (Hid (Frm3 L ov w wi) ∧ Hid (Blk wi g 43 #[.int .i64 11, .int .i64 (d : Int), .int .i64 (e : Int), .int .i64 imm])) ∧ (match n with | 0 => Hid (Box3 wi B L N ms s ov) | _ + 1 => Hid (Box3 wi B L N ms (Mc.fl s false Z false) ov))) (Iy.vp [(Iy.is _), (Iy.is _), (Iy.is _), (Iy.is _), (Iy.is _), (Iy.is _), (Iy.is _), (Iy.is _), (Iy.is (.int .i64 Z)), (Iy.is (.int .i64 Z)), (Iy.is _), (Iy.is _), (Iy.is _), (Iy.is _)]) (fun _ => false) (by kernel_rfl) (by kernel_rfl) (by kernel_rfl) (by kernel_rfl) (by kernel_rfl) (fun _ _ _ _ _ h => h) (fun _ => Below.refl _ _) (fun n vs _ _ h hb => by cases n with | zero => exact ⟨⟨h.1.1.out.below hb, h.1.2.out.keep hb⟩, h.2.out.keep hb⟩ | succ n => exact ⟨⟨h.1.1.out.below hb, h.1.2.out.keep hb⟩, h.2.out.keep hb⟩) (fun _ _ => Iy.vp_keeps _ _ _ _) (Ix.not_al _) (fun vs => ⟨⟨HW.out.drew, HG.out.drew⟩, HM.out.drew⟩)
    case step =>
      refine zys 13 0 1 [] (fun _ _ wi HB => ?_) <| zys 12 1 2 [] (fun _ _ wi HB => ?_) <| zys 11 2 3 [(1, some 239)] (fun _ _ wi HB => ?_) <| zys 10 3 4 [] (fun _ _ wi HB => ?_) <| zys 9 4 5 [] (fun _ _ wi HB => ?_) <| zys 8 5 6 [(4, some 242)] (fun _ _ wi HB => ?_) <| zys 7 6 7 [] (fun _ _ wi HB => ?_) <| zys 6 7 8 [] (fun _ _ wi HB => ?_) <| zys 5 8 9 [(5, some 243), (6, some 244), (7, some 245)] (fun _ _ wi HB => ?_) <| zyc 4 9 10 0 [(3, some 241), (8, some 246)] (fun vsp wi HB => ?_) <| zys 3 10 11 [(0, some 238)] (fun _ _ wi HB => ?_) <| zys 2 11 12 [(10, some 248)] (fun _ _ wi HB => ?_) <| zys 1 12 13 [(11, some 249)] (fun _ _ wi HB => ?_) <| zys 0 13 14 [(2, some 240), (12, some 250)] (fun _ _ wi HB => ?_) <| Iy.steps_nil
      iterate 2 (· ((repeat (refine zya ?_; rintro _ rfl)); refine zye ?_; (try simp only [zyp]); refine Iy.goI_yes rfl rfl fun K hK => ?_; (try simp only [zyp] at hK); go_wp2_with (first | fail); exact hK _ _ (Below.refl _ _) rfl))
      (· (obtain ⟨⟨HW, HG⟩, HM⟩ := HB; obtain ⟨i0, i1, i2, i3, j0, j1, j2, j3⟩ := In4.of_blk HG.out; (repeat (refine zya ?_; rintro _ rfl)); refine zye ?_; (try simp only [zyp]); refine Iy.goI_yes rfl rfl fun K hK => ?_; (try simp only [zyp] at hK); go_wp2_with (first | fail); exact hK _ _ (Below.refl _ _) rfl))
      iterate 2 (· ((repeat (refine zya ?_; rintro _ rfl)); refine zye ?_; (try simp only [zyp]); refine Iy.goI_yes rfl rfl fun K hK => ?_; (try simp only [zyp] at hK); go_wp2_with (first | fail); exact hK _ _ (Below.refl _ _) rfl))
      (· (obtain ⟨⟨HW, HG⟩, HM⟩ := HB; obtain ⟨i0, i1, i2, i3, j0, j1, j2, j3⟩ := In4.of_blk HG.out; (repeat (refine zya ?_; rintro _ rfl)); refine zye ?_; (try simp only [zyp]); refine Iy.goI_yes rfl rfl fun K hK => ?_; (try simp only [zyp] at hK); go_wp2_with (first | fail); exact hK _ _ (Below.refl _ _) rfl))
      iterate 2 (· ((repeat (refine zya ?_; rintro _ rfl)); refine zye ?_; (try simp only [zyp]); refine Iy.goI_yes rfl rfl fun K hK => ?_; (try simp only [zyp] at hK); go_wp2_with (first | fail); exact hK _ _ (Below.refl _ _) rfl))
      (· (obtain ⟨⟨HW, HG⟩, HM⟩ := HB; obtain ⟨i0, i1, i2, i3, j0, j1, j2, j3⟩ := In4.of_blk HG.out; (repeat (refine zya ?_; rintro _ rfl)); refine zye ?_; (try simp only [zyp]); refine Iy.goI_yes rfl rfl fun K hK => ?_; (try simp only [zyp] at hK); go_wp2_with (first | (go_at_call 67; refine (CLO.out _).mono ?_; rintro e' w1 ⟨rfl, hba⟩)); exact hK _ _ hba rfl))
      (· (obtain ⟨⟨HW, HG⟩, HM⟩ := HB; obtain ⟨i0, i1, i2, i3, j0, j1, j2, j3⟩ := In4.of_blk HG.out; refine zya ?_; rintro _ ⟨rfl, ev3⟩; refine zya ?_; rintro _ ⟨rfl, ev8⟩; refine zye ?_; (try simp only [zyp]); refine Iy.goI_yes rfl rfl fun K hK => ?_; (try simp only [zyp] at hK); go_wp2_with (first | (go_at_call 66; refine (CPL.out _ HM.out).mono ?_; rintro e' w1 ⟨rfl, hmt, hbt⟩)); exact hK _ _ ⟨⟨⟨HW.out.trans hbt, HG.out.frm3 hbt HM.out hgm (by decide)⟩, Lib.hid hmt⟩, fun _ _ h => h⟩ rfl))
      iterate 4 (· ((repeat (refine zya ?_; rintro _ rfl)); refine zye ?_; (try simp only [zyp]); refine Iy.goI_yes rfl rfl fun K hK => ?_; (try simp only [zyp] at hK); go_wp2_with (first | fail); exact hK _ _ (Below.refl _ _) rfl))
    intro vsf wf HF hdf
    refine zyv 13 0 1 ?_; rintro _ _ rfl; refine zyv 12 1 2 ?_; rintro _ _ rfl; refine zyv 11 2 3 ?_; rintro _ _ rfl; refine zyv 10 3 4 ?_; rintro _ _ rfl; refine zyv 9 4 5 ?_; rintro _ _ rfl; refine zyv 8 5 6 ?_; rintro _ _ rfl; refine zyv 7 6 7 ?_; rintro _ _ rfl; refine zyv 6 7 8 ?_; rintro _ _ rfl; refine zyv 5 8 9 ?_; rintro _ _ rfl; refine zyv 4 9 10 ?_; rintro _ _ rfl; refine zyv 3 10 11 ?_; rintro _ _ rfl; refine zyv 2 11 12 ?_; rintro _ _ rfl; refine zyv 1 12 13 ?_; rintro _ _ rfl; refine zyv 0 13 14 ?_; rintro _ _ rfl
    refine Ix.allV_nil ?_
    obtain ⟨⟨HW, HG⟩, HM⟩ := HF; obtain ⟨cd, fd⟩ := HM.out.reg d hd; obtain ⟨k13, l13⟩ := HM.out.at_ 13 (.int .i64 P) HE.out
    (try simp only [Act.put, List.setIfInBounds_toArray, List.set_cons_zero, List.set_cons_succ, List.drop_succ_cons, List.drop_zero])
    go_wp2_with (first | fail)
    refine Ix.only ?_
    go_wp2
    go_ret
    obtain rfl := HPP.out
    have HX := exec_two inp 11 d e imm (s.pc + n) s (by decide)
    rw [HX]
    have HT : ({ Mc.two 11 (s.r d) (s.r e) s with r := upd s.r d (Mc.twoR 11 (s.r d) (s.r e) s.c) } : St) = { Mc.fl s false Z false with r := upd s.r d Z } := by rw [HZ2.out]; rfl
    rw [HT]
    exact ⟨rfl, N, ov, by omega, (HM.out.setR d hd Z).setPc ((s.pc + n) % 65536), Frm3.cell (Frm3.cell (HW.out) rfl _) rfl _⟩
end Go.Proofs.Ytfjgnhmmakeaeaa
