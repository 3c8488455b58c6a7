/- Walk of emu.Watch: a run that another may stop. -/
import Derived.Test.YtfjgnhmmakeaeaaPt2
import Derived.Test.YtfjgnhmmakeaeaaBB
import Derived.Test.YtfjgnhmmakeaeaaB0
import Derived.LoopTactic
import Derived.Deep.Cut
namespace Go.Proofs.Ytfjgnhmmakeaeaa
open Go.RowKit
set_option linter.unusedVariables false
set_option linter.unusedSimpArgs false
set_option maxRecDepth 100000
open Mc

set_option maxHeartbeats 16000000 in
theorem watchS_run {G : Type} {E : Env G} {l0 : Nat → Prop} (caps : Array Value) (ca ia ma : Option Addr) (nC cc nI ic mn mc : Nat) (r0 r1 r2 r3 r4 r5 r6 r7 pc fuel : Int) (c z n v : Bool) (cd inp ms : List Int) (w : World) (Y : Eyes E w.heap.size l0) (g0 : G)
    (Jn : G → St → Prop) (hI0 : Jn g0 (Mc.begin (reg8 r0 r1 r2 r3 r4 r5 r6 r7) c z n v pc ms)) (hIv : ∀ g s, Jn g s → Jn (E.dG (E.sG g s.pc) s.pc (tick cd inp s)) (tick cd inp s)) (hE : ∀ (g : G) (a : Int) (s : St), E.dG g a s = g) (hds : Stops Y 56 (fun a => #[.int .i64 a] ++ caps)) (hlk : Y.Look w l0 g0)
    (hw : ∀ w1 : World, Below w.heap.size w w1 → Calls Try.prog 61 #[.slice ca nC cc, stV r0 r1 r2 r3 r4 r5 r6 r7 c z n v pc (.slice ma mn mc), .slice ia nI ic, .int .i64 fuel] w1 fun e w' => e = .returned (.int .i64 0) ∧ Below w1.heap.size w1 w')
    (hcb : ∀ wx, Bel w.heap.size l0 w wx → RdB wx w.heap.size (.slice ca nC cc) nC (cd.map (Value.int .i64))) (hib : ∀ wx, Bel w.heap.size l0 w wx → RdB wx w.heap.size (.slice ia nI ic) nI (inp.map (Value.int .u8))) (hm : Rd w 1 (.slice ma mn mc) mn (ms.map (Value.int .i64)))
    (hnC : nC ≤ 65536) (hnI : nI ≤ 65536) (hmn : mn ≤ 65536) (hby : ∀ x ∈ inp, 0 ≤ x ∧ x < 256) (hf : 0 ≤ fuel ∧ fuel ≤ 1000000) (hfine : Mc.Fine nI (Mc.begin (reg8 r0 r1 r2 r3 r4 r5 r6 r7) c z n v pc ms)) (F : St) (Fg : G)
    (hF : (F, Fg) = go E cd inp fuel.toNat (Mc.begin (reg8 r0 r1 r2 r3 r4 r5 r6 r7) c z n v pc ms) g0) :
    Calls Try.prog 43 #[.slice ca nC cc, stV r0 r1 r2 r3 r4 r5 r6 r7 c z n v pc (.slice ma mn mc), .slice ia nI ic, .int .i64 fuel, .func (.func 56) #[] caps, .nilFunc] w fun e w' =>
      ∃ ov mv l, e = .returned (.tuple #[ranV F ov mv, .int .i64 0]) ∧ w'.ownsRow w.heap.size 5 1 ov F.out.length (F.out.map (Value.int .u8)) ∧ w'.ownsRow w.heap.size 3 1 mv (top F.mem MS) ((left F.mem).map (Value.int .i64)) ∧ F.out.length ≤ 65536 ∧ Y.Look w' l Fg ∧ (∀ b, l b → l0 b ∨ w.heap.size ≤ b) ∧ Bel w.heap.size l0 w w' := by
  have HI0 := Lib.hid hI0; have HIv := Lib.hid hIv; have HEN := Lib.hid hE; have HDS := Lib.hid hds; have HLK := Lib.hid hlk
  have hc : Rd w 1 (.slice ca nC cc) nC (cd.map (Value.int .i64)) := (hcb w (Bel.refl _ _ _)).1
  have hi : Rd w 1 (.slice ia nI ic) nI (inp.map (Value.int .u8)) := (hib w (Bel.refl _ _ _)).1
  have HCB := Lib.hid hcb; have HIB := Lib.hid hib
  clear hI0 hIv hE hds hlk hcb hib
  have HW := Lib.hid hw
  have HC := Lib.hid hc; have HI := Lib.hid hi; have HM := Lib.hid hm
  have HNC := Lib.hid hnC; have HNI := Lib.hid hnI; have HMN := Lib.hid hmn; have HBY := Lib.hid hby; have HFU := Lib.hid hf
  have HFI := Lib.hid hfine; have HFin := Lib.hid hF
  obtain ⟨KK, hK⟩ : ∃ KK : Nat, (KK : Int) = 65536 - (mn : Int) := ⟨65536 - mn, by omega⟩
  have hlm : (65536 : Int) - (mn : Int) = (KK : Int) := hK.symm
  have HK : Hid (mn + KK = 65536) := by show mn + KK = _; omega
  have hmn2 : mn ≤ 65536 := hmn
  clear hw hc hi hm hnC hnI hmn hby hf hfine hF hK
  have e0 : ((0 : Int) != 0) = false := rfl
  have q96 : ∀ w, (binOp .neq 96 (.func (.func 56) #[] caps) .nilFunc).run Try.prog w = .ok (.bool true) w := fun w => by kernel_rfl
  have q103 : ∀ w, (binOp .neq 103 .nilFunc .nilFunc).run Try.prog w = .ok (.bool false) w := fun w => by kernel_rfl
  go_enter Try.func43, Try.ntmps43
  go_wp2_with (first | (go_at_call 61; refine (HW.out _ (Ext.alloc (Ext.alloc (Below.refl _ _) _) _)).mono ?_; rintro e w1 ⟨rfl, hb1⟩; have HB1 := Lib.hid (Ext.trans (Ext.alloc (Ext.alloc (Below.refl w.heap.size w) _) _) hb1); have hz1 : w.heap.size + 2 ≤ w1.heap.size := (by have := hb1.size; simpa using this); have HZ1 := Lib.hid ((by have := Blk.new (w.alloc (.cells (stC r0 r1 r2 r3 r4 r5 r6 r7 c z n v pc (.slice ma mn mc)) 27)) 30 ranZc; simpa using this.keep hb1 : Blk w1 (w.heap.size + 1) 30 ranZc)); have HS1 := Lib.hid ((by have := (Blk.new w 27 (stC r0 r1 r2 r3 r4 r5 r6 r7 c z n v pc (.slice ma mn mc))).alloc (.cells ranZc 30); exact this.keep hb1 : Blk w1 w.heap.size 27 (stC r0 r1 r2 r3 r4 r5 r6 r7 c z n v pc (.slice ma mn mc)))); clear hb1) | (refine wpList_load_row rfl 27 _ rfl w.heap.size rfl 27 (stC r0 r1 r2 r3 r4 r5 r6 r7 c z n v pc (.slice ma mn mc)) (0, 0) _ HS1.out Try.underlying27 rfl (by kernel_rfl) ?_))
  generalize hw2 : w1.alloc (Obj.cells (mac0 r0 r1 r2 r3 r4 r5 r6 r7 c z n v pc (.slice ma mn mc) (.slice ca nC cc) (.slice ia nI ic)) 107) = w2
  have HMB := Lib.hid ((by rw [← hw2]; exact Blk.new w1 _ _ : Blk w2 w1.heap.size 107 (mac0 r0 r1 r2 r3 r4 r5 r6 r7 c z n v pc (.slice ma mn mc) (.slice ca nC cc) (.slice ia nI ic))))
  have HB2 := Lib.hid ((by rw [← hw2]; exact Ext.alloc (Below.refl _ _) _ : Below w1.heap.size w1 w2))
  have hz2 : w2.heap.size = w1.heap.size + 1 := by rw [← hw2]; simp
  clear hw2
  have HS2 := Lib.hid (HS1.out.keep HB2.out); have HZ2 := Lib.hid (HZ1.out.keep HB2.out); have HM2 := Lib.hid (HM.out.below (Ext.trans HB1.out HB2.out))
  have HML : Hid (ms.length = mn) := by show ms.length = mn; have := HM.out.1; simpa using this
  have CCL : Hid (∀ w3 : World, Below w2.heap.size w2 w3 → Calls Try.prog 62 #[.slice ma mn mc] w3 fun e w' => ∃ v', e = .returned v' ∧ w'.ownsRow w3.heap.size 3 1 v' mn (ms.map (Value.int .i64)) ∧ Below w3.heap.size w3 w') := fun w3 hb => clone_ok _ mn _ HMN.out (by intro u hu; obtain ⟨x, _, rfl⟩ := List.mem_map.1 hu; rfl) w3 (HM2.out.below hb)
  clear HZ1 HS1 HW
  apply Iy.wp_region 9 [8] (fun _ => []) (Ix.Rb) (fun nn vs wi => Hid (Below w2.heap.size w2 wi)) (Ix.vk [(Ix.kis _), (Ix.kis _), (Ix.kis _), (Ix.kwld (fun v w' => ∃ a k, v = Value.slice a mn k ∧ w'.ownsRow w2.heap.size 3 1 (Value.slice a mn k) mn (ms.map (Value.int .i64))) (fun v wa wb h hb => by obtain ⟨a, k, e, ho⟩ := h; exact ⟨a, k, e, ownsRow_below ho hb⟩)), (Ix.kis _), (Ix.kis _), (Ix.kis _), (Ix.kis (.int .i64 (KK : Int))), (Ix.kwld (fun v w' => ∃ g cap, v = Value.slice (some ⟨g, 0, none⟩) MS cap ∧ MS ≤ cap ∧ w2.heap.size ≤ g ∧ MemIs w' g (memOf ms)) (fun v wa wb h hb => by obtain ⟨g, cap, e, h1, h2, h3⟩ := h; exact ⟨g, cap, e, h1, h2, h3.keep hb⟩))]) (fun _ => false) (by kernel_rfl) (by kernel_rfl) (by kernel_rfl) (by kernel_rfl) (by kernel_rfl) (fun _ _ _ _ _ h => h) (fun _ => Below.refl _ _) (fun nn vs _ _ h hb => h.out.trans (hb.mono h.out.size)) (Ix.vk_keeps _) (Ix.not_al _) (fun vs => Below.drew (Below.refl _ _))
  case step =>
    refine zys 8 0 1 [] (fun _ _ wi HB => ?_) <| zys 7 1 2 [] (fun _ _ wi HB => ?_) <| zys 6 2 3 [(1, some 33)] (fun _ _ wi HB => ?_) <| zys 5 3 4 [(2, some 34)] (fun _ _ wi HB => ?_) <| zys 4 4 5 [] (fun _ _ wi HB => ?_) <| zys 3 5 6 [(4, some 36)] (fun _ _ wi HB => ?_) <| zys 2 6 7 [(5, some 37)] (fun _ _ wi HB => ?_) <| zys 1 7 8 [(6, some 38)] (fun _ _ wi HB => ?_) <| zyc 0 8 9 0 [(3, some 35), (7, some 39)] (fun vsp wi HB => ?_) <| Iy.steps_nil
    iterate 2 (· ((repeat (refine zya ?_; rintro _ rfl)); refine zye ?_; (try simp only [zyp]); refine Iy.goI_yes rfl rfl fun K hK => ?_; (try simp only [zyp] at hK); go_wp2_with (first | fail); exact hK _ _ (Below.refl _ _) rfl))
    (· (have s13 : wi.cell? ⟨w.heap.size, 13, none⟩ = some (.slice ma mn mc) := (by rw [(HS2.out.keep HB.out).cell]; rfl); (repeat (refine zya ?_; rintro _ rfl)); refine zye ?_; (try simp only [zyp]); refine Iy.goI_yes rfl rfl fun K hK => ?_; (try simp only [zyp] at hK); go_wp2_with (first | fail); exact hK _ _ (Below.refl _ _) rfl))
    (· (have s13 : wi.cell? ⟨w.heap.size, 13, none⟩ = some (.slice ma mn mc) := (by rw [(HS2.out.keep HB.out).cell]; rfl); (repeat (refine zya ?_; rintro _ rfl)); refine zye ?_; (try simp only [zyp]); refine Iy.goI_yes rfl rfl fun K hK => ?_; (try simp only [zyp] at hK); go_wp2_with (first | (go_at_call 62; refine (CCL.out _ HB.out).mono ?_; rintro e wc ⟨vc, rfl, hown, hbc⟩)); exact hK _ _ hbc (own_slice2 (own_mono HB.out.size hown))))
    (· ((repeat (refine zya ?_; rintro _ rfl)); refine zye ?_; (try simp only [zyp]); refine Iy.goI_yes rfl rfl fun K hK => ?_; (try simp only [zyp] at hK); go_wp2_with (first | fail); exact hK _ _ (Below.refl _ _) rfl))
    iterate 2 (· (have s13 : wi.cell? ⟨w.heap.size, 13, none⟩ = some (.slice ma mn mc) := (by rw [(HS2.out.keep HB.out).cell]; rfl); (repeat (refine zya ?_; rintro _ rfl)); refine zye ?_; (try simp only [zyp]); refine Iy.goI_yes rfl rfl fun K hK => ?_; (try simp only [zyp] at hK); go_wp2_with (first | fail); exact hK _ _ (Below.refl _ _) rfl))
    (· ((repeat (refine zya ?_; rintro _ rfl)); refine zye ?_; (try simp only [zyp]); refine Iy.goI_yes rfl rfl fun K hK => ?_; (try simp only [zyp] at hK); go_wp2_with (first | fail); exact hK _ _ (Below.refl _ _) rfl))
    (· (have s13 : wi.cell? ⟨w.heap.size, 13, none⟩ = some (.slice ma mn mc) := (by rw [(HS2.out.keep HB.out).cell]; rfl); refine zya ?_; rintro _ ⟨⟨xa, xk, rfl, hxo⟩, ev3⟩; refine zya ?_; rintro _ ⟨rfl, ev7⟩; refine zye ?_; (try simp only [zyp]); refine Iy.goI_yes rfl rfl fun K hK => ?_; (try simp only [zyp] at hK); obtain ⟨v8, w8, hr8, ho8, hg8, hk8⟩ := own_append_zeros wi w2.heap.size 22 (.slice xa mn xk) mn _ hxo KK (by have := HK.out; omega) HB.out.size; refine Lib.wp_append_run _ _ _ 22 3 rfl _ _ rfl rfl v8 w8 hr8 ?_; exact hK _ _ ⟨HB.out.trans (grown_below hg8 HB.out.size (own_low hxo)), Iy.vk_turn (by repeat (first | exact True.intro | refine And.intro (fun _ h => h) ?_ | refine And.intro (fun hne => absurd rfl hne) ?_ | refine And.intro (fun _ h => ⟨xa, xk, ev3, hk8⟩) ?_))⟩ (own_mem (k := KK) (by rw [HML.out]; exact HK.out) (by rw [HML.out]; exact ho8))))
  intro vsf wf HF hdf
  refine zyv 8 0 1 ?_; rintro _ _ rfl; refine zyv 7 1 2 ?_; rintro _ _ rfl; refine zyv 6 2 3 ?_; rintro _ _ rfl; refine zyv 5 3 4 ?_; rintro _ _ ⟨xa, xk, rfl, hxo⟩; refine zyv 4 4 5 ?_; rintro _ _ rfl; refine zyv 3 5 6 ?_; rintro _ _ rfl; refine zyv 2 6 7 ?_; rintro _ _ rfl; refine zyv 1 7 8 ?_; rintro _ _ rfl; refine zyv 0 8 9 ?_; rintro _ _ ⟨gm, gcap, rfl, hgc, hgl, hgm⟩
  refine Ix.allV_nil ?_
  obtain ⟨m13, f13⟩ : wf.cell? ⟨w1.heap.size, 13, none⟩ = some (.slice ma mn mc) ∧ wf.frozen? ⟨w1.heap.size, 13, none⟩ = false := (by have := HMB.out.keep HF.out; exact ⟨by rw [this.cell]; rfl, this.frozen 13⟩)
  (try simp only [Act.put, List.setIfInBounds_toArray, List.set_cons_zero, List.set_cons_succ, List.drop_succ_cons, List.drop_zero])
  go_wp2_with (first | fail)
  refine Ix.only ?_
  generalize hw3 : wf.setCell ⟨w1.heap.size, 13, none⟩ (Value.slice (some ⟨gm, 0, none⟩) MS gcap) = w3
  have HMach := Lib.hid ((by
    rw [← hw3]
    exact ⟨(HMB.out.keep HF.out).set_ 13 _, hgm.far (by show gm ≠ w1.heap.size; omega) _, Nat.le_refl _, by show w1.heap.size ≤ gm; omega, hgc, World.ownsRow_nil _ _ _ _⟩ : Mach w3 w1.heap.size ⟨w1.heap.size, gm, gcap, .slice ca nC cc, .slice ia nI ic⟩ (Mc.begin (reg8 r0 r1 r2 r3 r4 r5 r6 r7) c z n v pc ms) (.slice none 0 0)))
  have HB3 := Lib.hid ((by rw [← hw3]; exact Below.setCell (Ext.trans HB1.out (Ext.trans HB2.out HF.out)) (p := ⟨w1.heap.size, 13, none⟩) (by show w.heap.size ≤ w1.heap.size; omega) _ : Below w.heap.size w w3))
  have HZ3 := Lib.hid ((by rw [← hw3]; exact (HZ2.out.keep HF.out).far (by show w.heap.size + 1 ≠ w1.heap.size; omega) _ : Blk w3 (w.heap.size + 1) 30 ranZc))
  have HLK3 := Lib.hid (Y.below HLK.out (Nat.le_refl _) HB3.out)
  have HRC : Hid (∀ wr, Bel w1.heap.size l0 w3 wr → RdB wr w1.heap.size (.slice ca nC cc) nC (cd.map (Value.int .i64)) ∧ RdB wr w1.heap.size (.slice ia nI ic) nI (inp.map (Value.int .u8))) := by
    intro wr hb
    have hb0 : Bel w.heap.size l0 w wr := (Bel.of HB3.out).trans (hb.mono (by omega) (fun _ _ h => h))
    exact ⟨(HCB.out wr hb0).up (by omega), (HIB.out wr hb0).up (by omega)⟩
  have HL0 : Hid (∀ b, l0 b → b < w.heap.size) := fun b hb => Y.lt HLK.out hb
  clear hw3 m13 f13 hgm hxo HZ2 HS2 HMB HB2 HM2 HF
  generalize w1.heap.size = B at *
  obtain ⟨L, hL⟩ : ∃ L : Lay, L = ⟨B, gm, gcap, .slice ca nC cc, .slice ia nI ic⟩ := ⟨_, rfl⟩
  rw [← hL] at HMach
  have HLe := Lib.hid hL
  have hLm : B = L.mb := by rw [hL]
  have hLg : gm = L.gm := by rw [hL]
  have hLc : gcap = L.cap := by rw [hL]
  clear hL
  subst hLm; subst hLg; subst hLc
  obtain ⟨ba, bb⟩ := HFU.out
  clear HLK
  have HLK := HLK3
  clear HLK3
  have HKL : Hid (¬ l0 L.gm) := fun k => by have := HL0.out _ k; have h2 := HMach.out.lo2; omega
  have hw3s : w.heap.size ≤ w3.heap.size := HB3.out.size
  have hwL : w.heap.size + 2 ≤ L.mb := (by omega)
  have HL3 := Lib.hid HMach.out.lt
  go_wp2
  go_loopw [16] (fun _ wr => LoopE E Y Jn cd inp nI fuel w3 L (F, Fg) wr) (fun _ wr => msr fuel L.mb wr)
  case atStart => exact .of ⟨_, fuel.toNat, _, g0, l0, HMach.out, Bel.refl _ _ _, HLK.out, HKL.out, fun b hb => .inl hb, HI0.out, HFI.out, by show (0 : Int) + _ = _; omega, Int.le_refl _, fun _ => HFin.out.symm, fun h => absurd rfl h⟩
  case round =>
    obtain ⟨s, k, ov, g, l, hM, hB, hLk, hLg, hLl, hIr, hFi, hst, hs0, hgo, hne⟩ := hrel.get
    clear hrel
    obtain ⟨c16, f16⟩ := hM.at_ 16 (.int .i64 s.how) rfl
    obtain ⟨c20, f20⟩ := hM.at_ 20 (.int .i64 s.steps) rfl
    obtain ⟨c12, f12⟩ := hM.at_ 12 (.int .i64 s.pc) rfl
    have HMr := Lib.hid hM; have HBr := Lib.hid hB; have HLr := Lib.hid hLk; have HGr := Lib.hid hLg; have HLl := Lib.hid hLl; have HFr := Lib.hid hFi; have HIr := Lib.hid hIr; have HST := Lib.hid hst; have HGO := Lib.hid hgo; have HNE := Lib.hid hne
    have HMS := Lib.hid (msr_of (fuel := fuel) c20)
    clear hM hB hLk hLg hLl hIr hFi hgo hne hst
    by_cases hh : s.how = 0
    · rw [hh] at c16
      obtain ⟨sb, hsb⟩ : ∃ b, b = E.sB g s.pc := ⟨_, rfl⟩
      have CSP : Hid (Calls Try.prog 56 (#[.int .i64 s.pc] ++ caps) wr fun e w' => e = .returned (.bool sb) ∧ ∃ l', Y.Look w' l' (E.sG g s.pc) ∧ Bel wr.heap.size l wr w' ∧ ∀ b, l' b → l b ∨ wr.heap.size ≤ b) := by
        have := HDS.out s.pc l g wr HFr.out.1.2.1 HLr.out (fun b hb => (HLl.out b hb).imp id (fun h => by omega))
        rw [← hsb] at this; exact this
      have HSB := Lib.hid hsb
      have HH0 := Lib.hid hh
      clear hsb
      cases sb with
      | true =>
        clear hh
        go_upto_region 16 with ((refine CSP.out.mono ?_; rintro e wy ⟨rfl, l', hk', hb', hl'⟩; obtain ⟨d16, e16⟩ := (Y.mach HLr.out HMr.out HGr.out hb').at_ 16 (.int .i64 s.how) rfl; obtain ⟨d20, e20⟩ := (Y.mach HLr.out HMr.out HGr.out hb').at_ 20 (.int .i64 s.steps) rfl; obtain ⟨d12, e12⟩ := (Y.mach HLr.out HMr.out HGr.out hb').at_ 12 (.int .i64 s.pc) rfl; have HMy := Lib.hid (Y.mach HLr.out HMr.out HGr.out hb'); have HLy := Lib.hid hk'; have HBy := Lib.hid (HBr.out.trans (hb'.mono (Nat.le_of_lt HMr.out.lt) (fun b hb hlb => (HLl.out b hlb).resolve_right (by have := HL3.out; omega)))); have HGy := Lib.hid (fun hb => (hl' _ hb).elim HGr.out (fun h => by have := HMr.out.glt; omega) : ¬ l' L.gm); have HLly := Lib.hid (fun b hb => (hl' b hb).elim (HLl.out b) (fun h => .inr (by have := HBr.out.size; omega)) : ∀ b, l' b → l0 b ∨ w3.heap.size ≤ b); clear hk' hb' hl'))
        obtain ⟨GG, hGG⟩ : ∃ GG, GG = E.sG g s.pc := ⟨_, rfl⟩
        have HFe : Hid (({ s with how := 6 }, GG) = (F, Fg)) := by
          have := HGO.out HH0.out
          rw [hGG]
          cases k <;> (unfold go at this; rw [← HSB.out, if_pos rfl] at this; exact this)
        rw [← hGG] at HLy
        clear hGG
        have HMt0 := Lib.hid (HMy.out.setHow 6)
        have HBt0 := Lib.hid (Bel.cell HBy.out (p := ⟨L.mb, 16, none⟩) (Nat.le_refl _) (.int .i64 6))
        have HKt0 := Lib.hid (Y.cell HLy.out HMy.out (by omega) 16 (.int .i64 6))
        have HFt : Hid (Mc.Fine nI F) := by
          show Mc.Fine nI F
          have := HFe.out; injection this with e1 e2; rw [← e1]; exact HFr.out
        obtain ⟨he1, he2⟩ : { s with how := 6 } = F ∧ GG = Fg := (by have := HFe.out; injection this with e1 e2; exact ⟨e1, e2⟩)
        have HFe1 := Lib.hid he1; have HFe2 := Lib.hid he2
        clear he1 he2 HFe
        rw [HFe1.out] at HMt0
        rw [HFe2.out] at HKt0
        have HLt : Hid (∀ b, l' b → l0 b ∨ w.heap.size ≤ b) := fun b hb => (HLly.out b hb).imp id (fun h => by omega)
        have HLo : Hid (w.heap.size ≤ L.mb) := by show _ ≤ _; omega
        have HZt : Hid (Blk (wy.setCell ⟨L.mb, 16, none⟩ (Value.int .i64 6)) (w.heap.size + 1) 30 ranZc) := HZ3.out.bel HBt0.out (by omega) (fun k => by have := HL0.out _ k; omega)
        generalize wy.setCell ⟨L.mb, 16, none⟩ (Value.int .i64 6) = W at *
        have HMt := HMt0
        have HKt := HKt0
        have HBt : Hid (Bel w.heap.size l0 w W) := (Bel.of HB3.out).trans (HBt0.out.mono (by omega) (fun _ _ h => h))
        clear HMt0 HKt0 HBt0 HFe1 HFe2
        clear c16 f16 c20 f20 c12 f12 d16 e16 d20 e20 d12 e12 HMy HBy HLy HGy HLly HMr HBr HLr HGr HLl HIr HFr HST HGO HNE HMS HH0 HSB CSP
        obtain ⟨oa, on, oc, hov⟩ : ∃ oa on oc, ov = Value.slice oa on oc := by obtain ⟨a, c, e, _⟩ := own_slice HMt.out.out; exact ⟨a, _, c, e⟩
        subst hov
        obtain ⟨c13, f13⟩ := HMt.out.at_ 13 (.slice (some ⟨L.gm, 0, none⟩) MS L.cap) rfl
        have hMS : MS ≤ 9223372036854775807 := (by have : MS = 65536 := rfl; omega)
        clear HC HI HM HNC HNI HMN HBY HFU HFI HFin HK HB1 HMach HB3 HZ3 HRC HLe HML CCL HDS HLK HKL HL0 HI0 HIv HCB HIB HEN
        go_wp2
        go_loop [17] (fun i => ∃ j : Nat, j ≤ MS ∧ i = .int .i64 (j : Int) ∧ Hid (top F.mem MS = top F.mem j)) (fun i => (intOf i).toNat)
        case atStart => exact ⟨MS, Nat.le_refl _, rfl, (rfl : _ = _)⟩
        case round =>
          obtain ⟨j, hk, rfl, htop⟩ := hrel
          rcases j with _ | j
          · have HT : Hid (top F.mem MS = 0) := htop
            have CCT : Hid (Calls Try.prog 62 #[.slice (some ⟨L.gm, 0, none⟩) 0 L.cap] W fun e w' => ∃ v', e = .returned v' ∧ w'.ownsRow W.heap.size 3 1 v' 0 (((List.range 0).map F.mem).map (Value.int .i64)) ∧ Below W.heap.size W w') := clone_ok _ 0 _ (by have : MS = 65536 := rfl; omega) (by intro u hu; obtain ⟨x, _, rfl⟩ := List.mem_map.1 hu; rfl) W (HMt.out.mem.rd 0 L.cap hk (Nat.le_trans hk HMt.out.cap))
            have hkc : 0 ≤ L.cap := Nat.le_trans hk HMt.out.cap
            have hkm : 0 ≤ MS := hk
            go_wp2_with (first | (go_at_call 62; refine CCT.out.mono ?_; rintro e wc ⟨vc, rfl, hown, hbc⟩; obtain ⟨va, vk, rfl, ho⟩ := own_slice2 hown; have HE := Lib.hid (run_end2 Y HMt.out HFt.out.2.1 hk HT.out HZt.out HLo.out (Nat.le_succ _) HBt.out HKt.out hbc ho); obtain ⟨k13, l13⟩ := (HMt.out.keep hbc).at_ 13 (.slice (some ⟨L.gm, 0, none⟩) MS L.cap) rfl; clear hown ho hbc) | (refine wpList_load_sub rfl 27 _ rfl L.mb 0 rfl 107 (mac5 L F (.slice oa on oc) (.slice va _ vk)) (stL F (.slice va _ vk)) _ HE.out.1 rfl Try.underlying27 rfl (by kernel_rfl) ?_) | (refine wpList_store_sub rfl 27 _ _ rfl L.mb 21 (stL F (.slice va _ vk)) rfl rfl 107 (mac5 L F (.slice oa on oc) (.slice va _ vk)) (mac6 L F (.slice oa on oc) (.slice va _ vk)) HE.out.1 (by kernel_rfl) (by simp) (stL_one _ _ _ _) rfl ?_) | (refine wpList_load_sub rfl 30 _ rfl L.mb 16 rfl 107 (mac6 L F (.slice oa on oc) (.slice va _ vk)) (ranL F (.slice oa on oc) (.slice va _ vk)) _ HE.out.2.1 rfl Try.underlying30 rfl (by kernel_rfl) ?_) | (refine wpList_store_row rfl 30 _ _ rfl (w.heap.size + 1) (ranL F (.slice oa on oc) (.slice va _ vk)).toArray rfl rfl 30 ranZc HE.out.2.2.1 (by kernel_rfl) rfl (ranL_one _ _ _ _ _ _ _) ?_))
            exact bodyPost_ret (results_cell2 rfl _ _ (w.heap.size + 1) 30 (ranL F (.slice oa on oc) (.slice va _ vk)).toArray (0, 0) _ rfl (HE.out.2.2.1.row _) Try.underlying30 rfl (by kernel_rfl)) rfl ⟨_, _, l', rfl, (HE.out.2.2.2 _).1, (HE.out.2.2.2 _).2.1, HFt.out.2.1, (HE.out.2.2.2 _).2.2.1, HLt.out, (HE.out.2.2.2 _).2.2.2⟩
          · obtain ⟨X, hX⟩ : ∃ X, X = F.mem j := ⟨_, rfl⟩
            have hj : j < MS := (by omega)
            have hj2 : j < L.cap := Nat.lt_of_lt_of_le hj HMt.out.cap
            obtain ⟨mj, fj⟩ := HMt.out.mcell j hj
            rw [← hX] at mj
            by_cases hx0 : X = 0
            · have hx2 : (X == 0) = true := by simpa using hx0
              have HN : Hid (top F.mem MS = top F.mem j) := by show _ = _; rw [htop.out]; exact top_zero (by rw [← hX]; exact hx0)
              clear hX hx0
              go_wp2
              go_round
              case rel => exact ⟨j, by omega, by go_num, HN⟩
              case measure => (simp [intOf]; try omega)
            · have hx2 : (X == 0) = false := by simpa using hx0
              have HT : Hid (top F.mem MS = j + 1) := by show _ = _; rw [htop.out]; exact top_not (by rw [← hX]; exact hx0)
              clear hX hx0
              have CCT : Hid (Calls Try.prog 62 #[.slice (some ⟨L.gm, 0, none⟩) (j + 1) L.cap] W fun e w' => ∃ v', e = .returned v' ∧ w'.ownsRow W.heap.size 3 1 v' (j + 1) (((List.range (j + 1)).map F.mem).map (Value.int .i64)) ∧ Below W.heap.size W w') := clone_ok _ (j + 1) _ (by have : MS = 65536 := rfl; omega) (by intro u hu; obtain ⟨x, _, rfl⟩ := List.mem_map.1 hu; rfl) W (HMt.out.mem.rd (j + 1) L.cap hk (Nat.le_trans hk HMt.out.cap))
              have hkc : (j + 1) ≤ L.cap := Nat.le_trans hk HMt.out.cap
              have hkm : (j + 1) ≤ MS := hk
              go_wp2_with (first | (go_at_call 62; refine CCT.out.mono ?_; rintro e wc ⟨vc, rfl, hown, hbc⟩; obtain ⟨va, vk, rfl, ho⟩ := own_slice2 hown; have HE := Lib.hid (run_end2 Y HMt.out HFt.out.2.1 hk HT.out HZt.out HLo.out (Nat.le_succ _) HBt.out HKt.out hbc ho); obtain ⟨k13, l13⟩ := (HMt.out.keep hbc).at_ 13 (.slice (some ⟨L.gm, 0, none⟩) MS L.cap) rfl; clear hown ho hbc) | (refine wpList_load_sub rfl 27 _ rfl L.mb 0 rfl 107 (mac5 L F (.slice oa on oc) (.slice va _ vk)) (stL F (.slice va _ vk)) _ HE.out.1 rfl Try.underlying27 rfl (by kernel_rfl) ?_) | (refine wpList_store_sub rfl 27 _ _ rfl L.mb 21 (stL F (.slice va _ vk)) rfl rfl 107 (mac5 L F (.slice oa on oc) (.slice va _ vk)) (mac6 L F (.slice oa on oc) (.slice va _ vk)) HE.out.1 (by kernel_rfl) (by simp) (stL_one _ _ _ _) rfl ?_) | (refine wpList_load_sub rfl 30 _ rfl L.mb 16 rfl 107 (mac6 L F (.slice oa on oc) (.slice va _ vk)) (ranL F (.slice oa on oc) (.slice va _ vk)) _ HE.out.2.1 rfl Try.underlying30 rfl (by kernel_rfl) ?_) | (refine wpList_store_row rfl 30 _ _ rfl (w.heap.size + 1) (ranL F (.slice oa on oc) (.slice va _ vk)).toArray rfl rfl 30 ranZc HE.out.2.2.1 (by kernel_rfl) rfl (ranL_one _ _ _ _ _ _ _) ?_))
              exact bodyPost_ret (results_cell2 rfl _ _ (w.heap.size + 1) 30 (ranL F (.slice oa on oc) (.slice va _ vk)).toArray (0, 0) _ rfl (HE.out.2.2.1.row _) Try.underlying30 rfl (by kernel_rfl)) rfl ⟨_, _, l', rfl, (HE.out.2.2.2 _).1, (HE.out.2.2.2 _).2.1, HFt.out.2.1, (HE.out.2.2.2 _).2.2.1, HLt.out, (HE.out.2.2.2 _).2.2.2⟩

      | false =>
        by_cases hsf : s.steps = fuel
        · have hsf2 : (s.steps == fuel) = true := by simpa using hsf
          have HSF := Lib.hid hsf
          clear hsf hh
          go_upto_region 16 with ((refine CSP.out.mono ?_; rintro e wy ⟨rfl, l', hk', hb', hl'⟩; obtain ⟨d16, e16⟩ := (Y.mach HLr.out HMr.out HGr.out hb').at_ 16 (.int .i64 s.how) rfl; obtain ⟨d20, e20⟩ := (Y.mach HLr.out HMr.out HGr.out hb').at_ 20 (.int .i64 s.steps) rfl; obtain ⟨d12, e12⟩ := (Y.mach HLr.out HMr.out HGr.out hb').at_ 12 (.int .i64 s.pc) rfl; have HMy := Lib.hid (Y.mach HLr.out HMr.out HGr.out hb'); have HLy := Lib.hid hk'; have HBy := Lib.hid (HBr.out.trans (hb'.mono (Nat.le_of_lt HMr.out.lt) (fun b hb hlb => (HLl.out b hlb).resolve_right (by have := HL3.out; omega)))); have HGy := Lib.hid (fun hb => (hl' _ hb).elim HGr.out (fun h => by have := HMr.out.glt; omega) : ¬ l' L.gm); have HLly := Lib.hid (fun b hb => (hl' b hb).elim (HLl.out b) (fun h => .inr (by have := HBr.out.size; omega)) : ∀ b, l' b → l0 b ∨ w3.heap.size ≤ b); clear hk' hb' hl'))
          have hk0 : k = 0 := (by have := HST.out; have := HSF.out; omega)
          obtain ⟨GG, hGG⟩ : ∃ GG, GG = E.sG g s.pc := ⟨_, rfl⟩
          have HFe : Hid (({ s with how := 3 }, GG) = (F, Fg)) := by
            have := HGO.out HH0.out
            rw [hGG]
            rw [hk0] at this; unfold go at this; rw [← HSB.out, if_neg (by decide)] at this; exact this
          rw [← hGG] at HLy
          clear hGG HSF
          have HMt0 := Lib.hid (HMy.out.setHow 3)
          have HBt0 := Lib.hid (Bel.cell HBy.out (p := ⟨L.mb, 16, none⟩) (Nat.le_refl _) (.int .i64 3))
          have HKt0 := Lib.hid (Y.cell HLy.out HMy.out (by omega) 16 (.int .i64 3))
          have HFt : Hid (Mc.Fine nI F) := by
            show Mc.Fine nI F
            have := HFe.out; injection this with e1 e2; rw [← e1]; exact HFr.out
          obtain ⟨he1, he2⟩ : { s with how := 3 } = F ∧ GG = Fg := (by have := HFe.out; injection this with e1 e2; exact ⟨e1, e2⟩)
          have HFe1 := Lib.hid he1; have HFe2 := Lib.hid he2
          clear he1 he2 HFe
          rw [HFe1.out] at HMt0
          rw [HFe2.out] at HKt0
          have HLt : Hid (∀ b, l' b → l0 b ∨ w.heap.size ≤ b) := fun b hb => (HLly.out b hb).imp id (fun h => by omega)
          have HLo : Hid (w.heap.size ≤ L.mb) := by show _ ≤ _; omega
          have HZt : Hid (Blk (wy.setCell ⟨L.mb, 16, none⟩ (Value.int .i64 3)) (w.heap.size + 1) 30 ranZc) := HZ3.out.bel HBt0.out (by omega) (fun k => by have := HL0.out _ k; omega)
          generalize wy.setCell ⟨L.mb, 16, none⟩ (Value.int .i64 3) = W at *
          have HMt := HMt0
          have HKt := HKt0
          have HBt : Hid (Bel w.heap.size l0 w W) := (Bel.of HB3.out).trans (HBt0.out.mono (by omega) (fun _ _ h => h))
          clear HMt0 HKt0 HBt0 HFe1 HFe2
          clear c16 f16 c20 f20 c12 f12 d16 e16 d20 e20 d12 e12 HMy HBy HLy HGy HLly HMr HBr HLr HGr HLl HIr HFr HST HGO HNE HMS HH0 HSB CSP
          obtain ⟨oa, on, oc, hov⟩ : ∃ oa on oc, ov = Value.slice oa on oc := by obtain ⟨a, c, e, _⟩ := own_slice HMt.out.out; exact ⟨a, _, c, e⟩
          subst hov
          obtain ⟨c13, f13⟩ := HMt.out.at_ 13 (.slice (some ⟨L.gm, 0, none⟩) MS L.cap) rfl
          have hMS : MS ≤ 9223372036854775807 := (by have : MS = 65536 := rfl; omega)
          clear HC HI HM HNC HNI HMN HBY HFU HFI HFin HK HB1 HMach HB3 HZ3 HRC HLe HML CCL HDS HLK HKL HL0 HI0 HIv HCB HIB HEN
          go_wp2
          go_loop [17] (fun i => ∃ j : Nat, j ≤ MS ∧ i = .int .i64 (j : Int) ∧ Hid (top F.mem MS = top F.mem j)) (fun i => (intOf i).toNat)
          case atStart => exact ⟨MS, Nat.le_refl _, rfl, (rfl : _ = _)⟩
          case round =>
            obtain ⟨j, hk, rfl, htop⟩ := hrel
            rcases j with _ | j
            · have HT : Hid (top F.mem MS = 0) := htop
              have CCT : Hid (Calls Try.prog 62 #[.slice (some ⟨L.gm, 0, none⟩) 0 L.cap] W fun e w' => ∃ v', e = .returned v' ∧ w'.ownsRow W.heap.size 3 1 v' 0 (((List.range 0).map F.mem).map (Value.int .i64)) ∧ Below W.heap.size W w') := clone_ok _ 0 _ (by have : MS = 65536 := rfl; omega) (by intro u hu; obtain ⟨x, _, rfl⟩ := List.mem_map.1 hu; rfl) W (HMt.out.mem.rd 0 L.cap hk (Nat.le_trans hk HMt.out.cap))
              have hkc : 0 ≤ L.cap := Nat.le_trans hk HMt.out.cap
              have hkm : 0 ≤ MS := hk
              go_wp2_with (first | (go_at_call 62; refine CCT.out.mono ?_; rintro e wc ⟨vc, rfl, hown, hbc⟩; obtain ⟨va, vk, rfl, ho⟩ := own_slice2 hown; have HE := Lib.hid (run_end2 Y HMt.out HFt.out.2.1 hk HT.out HZt.out HLo.out (Nat.le_succ _) HBt.out HKt.out hbc ho); obtain ⟨k13, l13⟩ := (HMt.out.keep hbc).at_ 13 (.slice (some ⟨L.gm, 0, none⟩) MS L.cap) rfl; clear hown ho hbc) | (refine wpList_load_sub rfl 27 _ rfl L.mb 0 rfl 107 (mac5 L F (.slice oa on oc) (.slice va _ vk)) (stL F (.slice va _ vk)) _ HE.out.1 rfl Try.underlying27 rfl (by kernel_rfl) ?_) | (refine wpList_store_sub rfl 27 _ _ rfl L.mb 21 (stL F (.slice va _ vk)) rfl rfl 107 (mac5 L F (.slice oa on oc) (.slice va _ vk)) (mac6 L F (.slice oa on oc) (.slice va _ vk)) HE.out.1 (by kernel_rfl) (by simp) (stL_one _ _ _ _) rfl ?_) | (refine wpList_load_sub rfl 30 _ rfl L.mb 16 rfl 107 (mac6 L F (.slice oa on oc) (.slice va _ vk)) (ranL F (.slice oa on oc) (.slice va _ vk)) _ HE.out.2.1 rfl Try.underlying30 rfl (by kernel_rfl) ?_) | (refine wpList_store_row rfl 30 _ _ rfl (w.heap.size + 1) (ranL F (.slice oa on oc) (.slice va _ vk)).toArray rfl rfl 30 ranZc HE.out.2.2.1 (by kernel_rfl) rfl (ranL_one _ _ _ _ _ _ _) ?_))
              exact bodyPost_ret (results_cell2 rfl _ _ (w.heap.size + 1) 30 (ranL F (.slice oa on oc) (.slice va _ vk)).toArray (0, 0) _ rfl (HE.out.2.2.1.row _) Try.underlying30 rfl (by kernel_rfl)) rfl ⟨_, _, l', rfl, (HE.out.2.2.2 _).1, (HE.out.2.2.2 _).2.1, HFt.out.2.1, (HE.out.2.2.2 _).2.2.1, HLt.out, (HE.out.2.2.2 _).2.2.2⟩
            · obtain ⟨X, hX⟩ : ∃ X, X = F.mem j := ⟨_, rfl⟩
              have hj : j < MS := (by omega)
              have hj2 : j < L.cap := Nat.lt_of_lt_of_le hj HMt.out.cap
              obtain ⟨mj, fj⟩ := HMt.out.mcell j hj
              rw [← hX] at mj
              by_cases hx0 : X = 0
              · have hx2 : (X == 0) = true := by simpa using hx0
                have HN : Hid (top F.mem MS = top F.mem j) := by show _ = _; rw [htop.out]; exact top_zero (by rw [← hX]; exact hx0)
                clear hX hx0
                go_wp2
                go_round
                case rel => exact ⟨j, by omega, by go_num, HN⟩
                case measure => (simp [intOf]; try omega)
              · have hx2 : (X == 0) = false := by simpa using hx0
                have HT : Hid (top F.mem MS = j + 1) := by show _ = _; rw [htop.out]; exact top_not (by rw [← hX]; exact hx0)
                clear hX hx0
                have CCT : Hid (Calls Try.prog 62 #[.slice (some ⟨L.gm, 0, none⟩) (j + 1) L.cap] W fun e w' => ∃ v', e = .returned v' ∧ w'.ownsRow W.heap.size 3 1 v' (j + 1) (((List.range (j + 1)).map F.mem).map (Value.int .i64)) ∧ Below W.heap.size W w') := clone_ok _ (j + 1) _ (by have : MS = 65536 := rfl; omega) (by intro u hu; obtain ⟨x, _, rfl⟩ := List.mem_map.1 hu; rfl) W (HMt.out.mem.rd (j + 1) L.cap hk (Nat.le_trans hk HMt.out.cap))
                have hkc : (j + 1) ≤ L.cap := Nat.le_trans hk HMt.out.cap
                have hkm : (j + 1) ≤ MS := hk
                go_wp2_with (first | (go_at_call 62; refine CCT.out.mono ?_; rintro e wc ⟨vc, rfl, hown, hbc⟩; obtain ⟨va, vk, rfl, ho⟩ := own_slice2 hown; have HE := Lib.hid (run_end2 Y HMt.out HFt.out.2.1 hk HT.out HZt.out HLo.out (Nat.le_succ _) HBt.out HKt.out hbc ho); obtain ⟨k13, l13⟩ := (HMt.out.keep hbc).at_ 13 (.slice (some ⟨L.gm, 0, none⟩) MS L.cap) rfl; clear hown ho hbc) | (refine wpList_load_sub rfl 27 _ rfl L.mb 0 rfl 107 (mac5 L F (.slice oa on oc) (.slice va _ vk)) (stL F (.slice va _ vk)) _ HE.out.1 rfl Try.underlying27 rfl (by kernel_rfl) ?_) | (refine wpList_store_sub rfl 27 _ _ rfl L.mb 21 (stL F (.slice va _ vk)) rfl rfl 107 (mac5 L F (.slice oa on oc) (.slice va _ vk)) (mac6 L F (.slice oa on oc) (.slice va _ vk)) HE.out.1 (by kernel_rfl) (by simp) (stL_one _ _ _ _) rfl ?_) | (refine wpList_load_sub rfl 30 _ rfl L.mb 16 rfl 107 (mac6 L F (.slice oa on oc) (.slice va _ vk)) (ranL F (.slice oa on oc) (.slice va _ vk)) _ HE.out.2.1 rfl Try.underlying30 rfl (by kernel_rfl) ?_) | (refine wpList_store_row rfl 30 _ _ rfl (w.heap.size + 1) (ranL F (.slice oa on oc) (.slice va _ vk)).toArray rfl rfl 30 ranZc HE.out.2.2.1 (by kernel_rfl) rfl (ranL_one _ _ _ _ _ _ _) ?_))
                exact bodyPost_ret (results_cell2 rfl _ _ (w.heap.size + 1) 30 (ranL F (.slice oa on oc) (.slice va _ vk)).toArray (0, 0) _ rfl (HE.out.2.2.1.row _) Try.underlying30 rfl (by kernel_rfl)) rfl ⟨_, _, l', rfl, (HE.out.2.2.2 _).1, (HE.out.2.2.2 _).2.1, HFt.out.2.1, (HE.out.2.2.2 _).2.2.1, HLt.out, (HE.out.2.2.2 _).2.2.2⟩

        · have hsf2 : (s.steps == fuel) = false := by simpa using hsf
          have hlt : s.steps < fuel := by have := HST.out; omega
          obtain ⟨k', hk'⟩ : ∃ k', k = k' + 1 := ⟨k - 1, by have := HST.out; omega⟩
          have HK' := Lib.hid hk'
          have CST : Hid (∀ wx : World, Bel L.mb l0 w3 wx → Mach wx L.mb L { s with steps := s.steps + 1 } ov → Calls Try.prog 63 #[mP L] wx (Did L.mb L ov (Mc.step cd inp { s with steps := s.steps + 1 }) wx)) := fun wx hb hm => by
            obtain ⟨q1, q2⟩ := HRC.out wx hb
            exact mstep_ok L.mb L { s with steps := s.steps + 1 } ov nC nI cd inp HFr.out.1 wx hm (by rw [HLe.out] at *; exact q1) HNC.out (by rw [HLe.out] at *; exact q2) HNI.out HFr.out.2.2 HBY.out HFr.out.2.1
          obtain ⟨R, hR⟩ : ∃ R, R = Mc.step cd inp { s with steps := s.steps + 1 } := ⟨_, rfl⟩
          rw [← hR] at CST
          have HR := Lib.hid hR
          have hT : { R.1 with how := R.2 } = Mc.tick cd inp s := by unfold Mc.tick; rw [← hR]
          have HT := Lib.hid hT
          have HTF : Hid (Mc.Fine nI (Mc.tick cd inp s)) := Mc.tick_fine (cd := cd) (by have := HI.out.1; simpa using this) HBY.out s HFr.out
          clear hsf hh hk' hR hT
          go_wp2_with (first | (go_at_call 63; refine (CST.out _ (Bel.cell HBy.out (p := ⟨L.mb, 20, none⟩) (Nat.le_refl _) _) (HMy.out.setSteps _)).mono ?_; rintro e wx ⟨rfl, ov', hm', hf'⟩; obtain ⟨p16, g16⟩ := hm'.at_ 16 (.int .i64 R.1.how) rfl; have HM' := Lib.hid hm'; have HF' := Lib.hid hf'; have HB' := Lib.hid ((Bel.cell HBy.out (p := ⟨L.mb, 20, none⟩) (Nat.le_refl _) _).trans (Bel.of (hf'.to (HMy.out.setSteps _)))); have HL' := Lib.hid (Y.step (Y.cell HLy.out HMy.out (by omega) 20 _) (HMy.out.setSteps _) (by omega) HGy.out hf'); clear hm' hf') | (refine CSP.out.mono ?_; rintro e wy ⟨rfl, l', hk', hb', hl'⟩; obtain ⟨d16, e16⟩ := (Y.mach HLr.out HMr.out HGr.out hb').at_ 16 (.int .i64 s.how) rfl; obtain ⟨d20, e20⟩ := (Y.mach HLr.out HMr.out HGr.out hb').at_ 20 (.int .i64 s.steps) rfl; obtain ⟨d12, e12⟩ := (Y.mach HLr.out HMr.out HGr.out hb').at_ 12 (.int .i64 s.pc) rfl; have HMy := Lib.hid (Y.mach HLr.out HMr.out HGr.out hb'); have HLy := Lib.hid hk'; have HBy := Lib.hid (HBr.out.trans (hb'.mono (Nat.le_of_lt HMr.out.lt) (fun b hb hlb => (HLl.out b hlb).resolve_right (by have := HL3.out; omega)))); have HGy := Lib.hid (fun hb => (hl' _ hb).elim HGr.out (fun h => by have := HMr.out.glt; omega) : ¬ l' L.gm); have HLly := Lib.hid (fun b hb => (hl' b hb).elim (HLl.out b) (fun h => .inr (by have := HBr.out.size; omega)) : ∀ b, l' b → l0 b ∨ w3.heap.size ≤ b); clear hk' hb' hl'))
          have HMz : Hid (Mach (wx.setCell ⟨L.mb, 16, none⟩ (.int .i64 R.2)) L.mb L { R.1 with how := R.2 } ov') := HM'.out.setHow _
          have HLz := Lib.hid (Y.cell HL'.out HM'.out (by omega) 16 (.int .i64 R.2))
          go_roundw
          case rel =>
            have hst2 := Mc.tick_steps cd inp s
            have hgo2 := HGO.out HH0.out
            rw [HK'.out] at hgo2
            unfold go at hgo2
            rw [← HSB.out, if_neg (by decide)] at hgo2
            simp only [HEN.out] at hgo2
            rw [HT.out] at HMz
            have hI2 := HIv.out g s HIr.out
            simp only [HEN.out] at hI2
            refine .of ⟨Mc.tick cd inp s, k', ov', _, l', HMz.out, Bel.cell HB'.out (p := ⟨L.mb, 16, none⟩) (Nat.le_refl _) _, HLz.out, HGy.out, HLly.out, hI2, HTF.out, ?_, ?_, ?_, ?_⟩
            · rw [hst2]; have := HST.out; have := HK'.out; omega
            · rw [hst2]; omega
            · intro h0
              rw [if_pos h0] at hgo2; exact hgo2
            · intro h0
              rw [if_neg h0] at hgo2; exact hgo2
          case measure =>
            have hq := HMz.out.at_ 20 (.int .i64 R.1.steps) rfl
            have h1 := msr_of (fuel := fuel) hq.1
            have h2 : R.1.steps = s.steps + 1 := by rw [HR.out]; exact (Mc.step_steps cd inp { s with steps := s.steps + 1 }).1
            rw [HMS.out, h1, h2]
            omega
    · have hh2 : (s.how == 0) = false := by simpa using hh
      have HH0 := Lib.hid hh
      clear hh
      go_upto_region 16 with (fail)
      have hsF := HNE.out HH0.out
      injection hsF with hs1 hs2
      have hs1' := hs1.symm; have hs2' := hs2.symm
      clear hs1 hs2
      subst hs1'; subst hs2'
      have HFt := HFr
      have HMt := HMr
      have HKt := HLr
      have HBt : Hid (Bel w.heap.size l0 w wr) := (Bel.of HB3.out).trans (HBr.out.mono (by omega) (fun _ _ h => h))
      have HLt : Hid (∀ b, l b → l0 b ∨ w.heap.size ≤ b) := fun b hb => (HLl.out b hb).imp id (fun h => by omega)
      have HLo : Hid (w.heap.size ≤ L.mb) := by show _ ≤ _; omega
      have HZt : Hid (Blk wr (w.heap.size + 1) 30 ranZc) := HZ3.out.bel HBr.out (by omega) (fun k => by have := HL0.out _ k; omega)
      clear c16 f16 c20 f20 c12 f12 HMr HBr HLr HGr HLl HIr HFr HST HGO HNE HMS HH0
      obtain ⟨oa, on, oc, hov⟩ : ∃ oa on oc, ov = Value.slice oa on oc := by obtain ⟨a, c, e, _⟩ := own_slice HMt.out.out; exact ⟨a, _, c, e⟩
      subst hov
      obtain ⟨c13, f13⟩ := HMt.out.at_ 13 (.slice (some ⟨L.gm, 0, none⟩) MS L.cap) rfl
      have hMS : MS ≤ 9223372036854775807 := (by have : MS = 65536 := rfl; omega)
      clear HC HI HM HNC HNI HMN HBY HFU HFI HFin HK HB1 HMach HB3 HZ3 HRC HLe HML CCL HDS HLK HKL HL0 HI0 HIv HCB HIB HEN
      go_wp2
      go_loop [17] (fun i => ∃ j : Nat, j ≤ MS ∧ i = .int .i64 (j : Int) ∧ Hid (top F.mem MS = top F.mem j)) (fun i => (intOf i).toNat)
      case atStart => exact ⟨MS, Nat.le_refl _, rfl, (rfl : _ = _)⟩
      case round =>
        obtain ⟨j, hk, rfl, htop⟩ := hrel
        rcases j with _ | j
        · have HT : Hid (top F.mem MS = 0) := htop
          have CCT : Hid (Calls Try.prog 62 #[.slice (some ⟨L.gm, 0, none⟩) 0 L.cap] wr fun e w' => ∃ v', e = .returned v' ∧ w'.ownsRow wr.heap.size 3 1 v' 0 (((List.range 0).map F.mem).map (Value.int .i64)) ∧ Below wr.heap.size wr w') := clone_ok _ 0 _ (by have : MS = 65536 := rfl; omega) (by intro u hu; obtain ⟨x, _, rfl⟩ := List.mem_map.1 hu; rfl) wr (HMt.out.mem.rd 0 L.cap hk (Nat.le_trans hk HMt.out.cap))
          have hkc : 0 ≤ L.cap := Nat.le_trans hk HMt.out.cap
          have hkm : 0 ≤ MS := hk
          go_wp2_with (first | (go_at_call 62; refine CCT.out.mono ?_; rintro e wc ⟨vc, rfl, hown, hbc⟩; obtain ⟨va, vk, rfl, ho⟩ := own_slice2 hown; have HE := Lib.hid (run_end2 Y HMt.out HFt.out.2.1 hk HT.out HZt.out HLo.out (Nat.le_succ _) HBt.out HKt.out hbc ho); obtain ⟨k13, l13⟩ := (HMt.out.keep hbc).at_ 13 (.slice (some ⟨L.gm, 0, none⟩) MS L.cap) rfl; clear hown ho hbc) | (refine wpList_load_sub rfl 27 _ rfl L.mb 0 rfl 107 (mac5 L F (.slice oa on oc) (.slice va _ vk)) (stL F (.slice va _ vk)) _ HE.out.1 rfl Try.underlying27 rfl (by kernel_rfl) ?_) | (refine wpList_store_sub rfl 27 _ _ rfl L.mb 21 (stL F (.slice va _ vk)) rfl rfl 107 (mac5 L F (.slice oa on oc) (.slice va _ vk)) (mac6 L F (.slice oa on oc) (.slice va _ vk)) HE.out.1 (by kernel_rfl) (by simp) (stL_one _ _ _ _) rfl ?_) | (refine wpList_load_sub rfl 30 _ rfl L.mb 16 rfl 107 (mac6 L F (.slice oa on oc) (.slice va _ vk)) (ranL F (.slice oa on oc) (.slice va _ vk)) _ HE.out.2.1 rfl Try.underlying30 rfl (by kernel_rfl) ?_) | (refine wpList_store_row rfl 30 _ _ rfl (w.heap.size + 1) (ranL F (.slice oa on oc) (.slice va _ vk)).toArray rfl rfl 30 ranZc HE.out.2.2.1 (by kernel_rfl) rfl (ranL_one _ _ _ _ _ _ _) ?_))
          exact bodyPost_ret (results_cell2 rfl _ _ (w.heap.size + 1) 30 (ranL F (.slice oa on oc) (.slice va _ vk)).toArray (0, 0) _ rfl (HE.out.2.2.1.row _) Try.underlying30 rfl (by kernel_rfl)) rfl ⟨_, _, l, rfl, (HE.out.2.2.2 _).1, (HE.out.2.2.2 _).2.1, HFt.out.2.1, (HE.out.2.2.2 _).2.2.1, HLt.out, (HE.out.2.2.2 _).2.2.2⟩
        · obtain ⟨X, hX⟩ : ∃ X, X = F.mem j := ⟨_, rfl⟩
          have hj : j < MS := (by omega)
          have hj2 : j < L.cap := Nat.lt_of_lt_of_le hj HMt.out.cap
          obtain ⟨mj, fj⟩ := HMt.out.mcell j hj
          rw [← hX] at mj
          by_cases hx0 : X = 0
          · have hx2 : (X == 0) = true := by simpa using hx0
            have HN : Hid (top F.mem MS = top F.mem j) := by show _ = _; rw [htop.out]; exact top_zero (by rw [← hX]; exact hx0)
            clear hX hx0
            go_wp2
            go_round
            case rel => exact ⟨j, by omega, by go_num, HN⟩
            case measure => (simp [intOf]; try omega)
          · have hx2 : (X == 0) = false := by simpa using hx0
            have HT : Hid (top F.mem MS = j + 1) := by show _ = _; rw [htop.out]; exact top_not (by rw [← hX]; exact hx0)
            clear hX hx0
            have CCT : Hid (Calls Try.prog 62 #[.slice (some ⟨L.gm, 0, none⟩) (j + 1) L.cap] wr fun e w' => ∃ v', e = .returned v' ∧ w'.ownsRow wr.heap.size 3 1 v' (j + 1) (((List.range (j + 1)).map F.mem).map (Value.int .i64)) ∧ Below wr.heap.size wr w') := clone_ok _ (j + 1) _ (by have : MS = 65536 := rfl; omega) (by intro u hu; obtain ⟨x, _, rfl⟩ := List.mem_map.1 hu; rfl) wr (HMt.out.mem.rd (j + 1) L.cap hk (Nat.le_trans hk HMt.out.cap))
            have hkc : (j + 1) ≤ L.cap := Nat.le_trans hk HMt.out.cap
            have hkm : (j + 1) ≤ MS := hk
            go_wp2_with (first | (go_at_call 62; refine CCT.out.mono ?_; rintro e wc ⟨vc, rfl, hown, hbc⟩; obtain ⟨va, vk, rfl, ho⟩ := own_slice2 hown; have HE := Lib.hid (run_end2 Y HMt.out HFt.out.2.1 hk HT.out HZt.out HLo.out (Nat.le_succ _) HBt.out HKt.out hbc ho); obtain ⟨k13, l13⟩ := (HMt.out.keep hbc).at_ 13 (.slice (some ⟨L.gm, 0, none⟩) MS L.cap) rfl; clear hown ho hbc) | (refine wpList_load_sub rfl 27 _ rfl L.mb 0 rfl 107 (mac5 L F (.slice oa on oc) (.slice va _ vk)) (stL F (.slice va _ vk)) _ HE.out.1 rfl Try.underlying27 rfl (by kernel_rfl) ?_) | (refine wpList_store_sub rfl 27 _ _ rfl L.mb 21 (stL F (.slice va _ vk)) rfl rfl 107 (mac5 L F (.slice oa on oc) (.slice va _ vk)) (mac6 L F (.slice oa on oc) (.slice va _ vk)) HE.out.1 (by kernel_rfl) (by simp) (stL_one _ _ _ _) rfl ?_) | (refine wpList_load_sub rfl 30 _ rfl L.mb 16 rfl 107 (mac6 L F (.slice oa on oc) (.slice va _ vk)) (ranL F (.slice oa on oc) (.slice va _ vk)) _ HE.out.2.1 rfl Try.underlying30 rfl (by kernel_rfl) ?_) | (refine wpList_store_row rfl 30 _ _ rfl (w.heap.size + 1) (ranL F (.slice oa on oc) (.slice va _ vk)).toArray rfl rfl 30 ranZc HE.out.2.2.1 (by kernel_rfl) rfl (ranL_one _ _ _ _ _ _ _) ?_))
            exact bodyPost_ret (results_cell2 rfl _ _ (w.heap.size + 1) 30 (ranL F (.slice oa on oc) (.slice va _ vk)).toArray (0, 0) _ rfl (HE.out.2.2.1.row _) Try.underlying30 rfl (by kernel_rfl)) rfl ⟨_, _, l, rfl, (HE.out.2.2.2 _).1, (HE.out.2.2.2 _).2.1, HFt.out.2.1, (HE.out.2.2.2 _).2.2.1, HLt.out, (HE.out.2.2.2 _).2.2.2⟩

end Go.Proofs.Ytfjgnhmmakeaeaa
