/- Walk of emu.Wrong: what is wrong with a state. -/
import Derived.Test.YtfjgnhmmakeaeaaPt2
import Derived.Test.YtfjgnhmmakeaeaaB3
import Derived.Test.YtfjgnhmmakeaeaaB0
import Derived.LoopTactic
import Derived.Test.YtfjgnhmmakeaeaaE11
import Derived.Lib.SliceRun
import Derived.Lib.AppendZerosOnto
namespace Go.Proofs.Ytfjgnhmmakeaeaa
open Go.RowKit
set_option linter.unusedVariables false
set_option linter.unusedSimpArgs false
set_option maxRecDepth 100000
open Mc

abbrev stV (r0 r1 r2 r3 r4 r5 r6 r7 : Int) (c z n v : Bool) (pc : Int) (mem : Value) : Value :=
  .agg #[.int .i64 r0, .int .i64 r1, .int .i64 r2, .int .i64 r3, .int .i64 r4, .int .i64 r5, .int .i64 r6, .int .i64 r7, .bool c, .bool z, .bool n, .bool v, .int .i64 pc, mem]
/-- In a word's range. -/
def Mc.inr (x : Int) : Bool := decide (0 ≤ x ∧ x < 65536)
/-- 'append(s, x)' where there is no room. -/
theorem wp_append_grow {P : Program} {w : World} {o : Oper} {a : Act} {K : Act → World → Prop} {Q : Exit → Act → World → Prop} (s x : Operand) (t : TypeId)
    (ho : o.op = .call { callee := .builtin .append, args := #[s, x], argTypes := #[t, t] })
    (e : TypeId) (i : TypeInfo) (z : Value) (ht : P.underlying t = some (.slice e)) (hi : P.info? e = some i) (hz : i.zero = some z)
    (b : Addr) (sLen sCap : Nat) (olds : List Value) (hs : a.eval s = .slice (some b) sLen sCap) (hlo : olds.length = sLen * i.size) (holds : ∀ j v, olds[j]? = some v → w.cell? (b.add j) = some v)
    (ad : Addr) (n c : Nat) (news : List Value) (hx : a.eval x = .slice (some ad) n c) (hl : news.length = n * i.size) (hnews : ∀ j v, news[j]? = some v → w.cell? (ad.add j) = some v)
    (hg : sCap < sLen + n) (h63 : ((sLen + n : Nat) : Int) ≤ 9223372036854775807) (hfit : Builtin.nextslicecap (sLen + n) sCap * i.bytes ≤ 281474976710656)
    (h : ∀ cap cs, K (a.put o.dst (.slice (some ⟨w.heap.size, 0, none⟩) (sLen + n) cap)) (w.drew.alloc (.cells (olds.toArray ++ news.toArray ++ cs) e))) : o.wp P a w K Q := by
  have hr := run_append_grow (P := P) w t o.type e i z ht hi hz b sLen sCap olds hlo holds ad n c news hl hnews hg h63 hfit
  unfold Oper.wp execOp
  simp only [ho, resolve, invoke, builtin, Sem.run_bind, Sem.run_pure, Result.andThen_ok, List.map_toArray, List.map_cons, List.map_nil, hs, hx, hr]
  exact h _ _
set_option maxHeartbeats 4000000 in
theorem wrong_many (r0 r1 r2 r3 r4 r5 r6 r7 pc : Int) (c z n v : Bool) (ma : Option Addr) (mn mc : Nat) (h : 65536 < mn) (w : World) :
    Calls Try.prog 17 #[stV r0 r1 r2 r3 r4 r5 r6 r7 c z n v pc (.slice ma mn mc)] w fun e w' => e = .returned (.int .i64 4) ∧ Below w.heap.size w w' := by
  have h1 : decide ((mn : Int) > 65536) = true := by simp; omega
  go_enter Try.func17, Try.ntmps17
  go_wp2
  go_ret
  exact ⟨rfl, Ext.alloc (Below.refl _ _) _⟩
theorem blk_holds {w : World} {g : Nat} {t : TypeId} {cs : Array Value} (h : Blk w g t cs) (l : List Value) (hp : ∃ r, cs.toList = l ++ r) : ∀ j v, l[j]? = some v → w.cell? ((⟨g, 0, none⟩ : Addr).add j) = some v := by
  intro j v hj
  obtain ⟨r, hr⟩ := hp
  have e : (⟨g, 0, none⟩ : Addr).add j = ⟨g, j, none⟩ := by rcases j with _ | j <;> simp [Addr.add]
  rw [e, h.cell, ← Array.getElem?_toList, hr, List.getElem?_append_left (List.getElem?_eq_some_iff.1 hj).1, hj]
/-- Cells from a block's first one on. -/
def HasL (w : World) (g : Nat) (l : List Value) : Prop := ∀ j v, l[j]? = some v → w.cell? ⟨g, j, none⟩ = some v
theorem HasL.keep {w w' : World} {g : Nat} {l : List Value} (h : HasL w g l) (hb : Below w.heap.size w w') : HasL w' g l := fun j v hj => by
  have := h j v hj
  rw [(bcell hb).1 _ _ (World.block_lt_of_cell? _ ⟨g, j, none⟩ this)]; exact this
theorem HasL.of_blk {w : World} {g : Nat} {t : TypeId} {cs : Array Value} (h : Blk w g t cs) (l : List Value) (hp : ∃ r, cs.toList = l ++ r) : HasL w g l := by
  intro j v hj
  obtain ⟨r, hr⟩ := hp
  rw [h.cell, ← Array.getElem?_toList, hr, List.getElem?_append_left (List.getElem?_eq_some_iff.1 hj).1, hj]
theorem HasL.ints {w : World} {g : Nat} {xs : List Int} (h : HasL w g (xs.map (Value.int .i64))) : ∀ j, j < xs.length → w.cell? ⟨g, j, none⟩ = some (.int .i64 (xs.getD j 0)) := fun j hj =>
  h j _ (by simp [List.getD_eq_getElem?_getD, List.getElem?_eq_getElem hj])
theorem all_no {l : List Int} {f : Int → Bool} {k : Nat} (hk : k < l.length) (h : f (l.getD k 0) = false) : l.all f = false := by
  cases he : l.all f with
  | false => rfl
  | true =>
    rw [List.all_eq_true] at he
    have := he (l.getD k 0) (by rw [List.getD_eq_getElem?_getD, List.getElem?_eq_getElem hk]; simp)
    rw [h] at this; cases this
theorem all_next {l : List Int} {f : Int → Bool} {k : Nat} (hk : k < l.length) : (l.take (k + 1)).all f = ((l.take k).all f && f (l.getD k 0)) := by
  rw [List.take_add_one, List.getElem?_eq_getElem hk, List.all_append, List.getD_eq_getElem?_getD, List.getElem?_eq_getElem hk]
  simp
theorem Try.infoI64 : (Try.prog.info? 3).map (fun i => (i.zero, i.size, i.bytes)) = some (some (.int .i64 0), 1, 8) := by kernel_rfl
set_option maxHeartbeats 8000000 in
theorem wrong_in (r0 r1 r2 r3 r4 r5 r6 r7 pc : Int) (c z n v : Bool) (ma : Option Addr) (mn mc : Nat) (ms : List Int) (h : mn ≤ 65536) (w : World) (hr : Rd w 1 (.slice ma mn mc) mn (ms.map (Value.int .i64))) :
    Calls Try.prog 17 #[stV r0 r1 r2 r3 r4 r5 r6 r7 c z n v pc (.slice ma mn mc)] w fun e w' => e = .returned (.int .i64 (if ([r0, r1, r2, r3, r4, r5, r6, r7, pc] ++ ms).all Mc.inr then 0 else 3)) ∧ Below w.heap.size w w' := by
  have h1 : decide ((mn : Int) > 65536) = false := by simp; omega
  obtain ⟨iI, hi, hz0, hz1, hz2⟩ := info_parts Try.infoI64
  have HR := Lib.hid hr
  have HMN := Lib.hid h
  clear hr h
  obtain ⟨L9, hL9⟩ : ∃ L, L = [r0, r1, r2, r3, r4, r5, r6, r7, pc] := ⟨_, rfl⟩
  rw [← hL9]
  have HL9 := Lib.hid hL9
  clear hL9
  obtain ⟨VV, hVV⟩ : ∃ V : Int, V = if (L9 ++ ms).all Mc.inr then 0 else 3 := ⟨_, rfl⟩
  rw [← hVV]
  have HVV := Lib.hid hVV; clear hVV
  obtain ⟨n9, hn9⟩ : ∃ k : Nat, k = 9 := ⟨_, rfl⟩
  have HN9 := Lib.hid hn9
  have HB9 : Hid (n9 ≤ 9223372036854775807) := by show n9 ≤ _; omega
  clear hn9
  go_enter Try.func17, Try.ntmps17
  go_wp2
  obtain ⟨wb, hwb⟩ : ∃ wb, wb = w.alloc (.cells #[.int .i64 r0, .int .i64 r1, .int .i64 r2, .int .i64 r3, .int .i64 r4, .int .i64 r5, .int .i64 r6, .int .i64 r7, .bool c, .bool z, .bool n, .bool v, .int .i64 pc, .slice ma mn mc] 27) := ⟨_, rfl⟩
  rw [← hwb]
  have HBX : Hid (Blk wb w.heap.size 27 #[.int .i64 r0, .int .i64 r1, .int .i64 r2, .int .i64 r3, .int .i64 r4, .int .i64 r5, .int .i64 r6, .int .i64 r7, .bool c, .bool z, .bool n, .bool v, .int .i64 pc, .slice ma mn mc]) := by rw [hwb]; exact Blk.new _ _ _
  have HW0 : Hid (Below w.heap.size w wb) := by rw [hwb]; exact Ext.alloc (Below.refl _ _) _
  clear hwb
  apply Ix.wp_region 8 (fun wi => Hid (Below wb.heap.size wb wi) ∧ Hid (Blk wi w.heap.size 27 #[.int .i64 r0, .int .i64 r1, .int .i64 r2, .int .i64 r3, .int .i64 r4, .int .i64 r5, .int .i64 r6, .int .i64 r7, .bool c, .bool z, .bool n, .bool v, .int .i64 pc, .slice ma mn mc])) (Ix.vk [(Ix.kis _), (Ix.kis _), (Ix.kis _), (Ix.kis _), (Ix.kwld (fun v w' => ∃ g1, v = Value.slice (some ⟨g1, 0, none⟩) 1 1 ∧ w'.cell? ⟨g1, 0, none⟩ = some (.int .i64 pc)) (fun v w1 w2 h hb => by obtain ⟨g1, e, hi⟩ := h; exact ⟨g1, e, by rw [(bcell hb).1 _ _ (World.block_lt_of_cell? _ ⟨g1, 0, none⟩ hi)]; exact hi⟩)), (Ix.kwld (fun v w' => ∃ g2 cap, v = Value.slice (some ⟨g2, 0, none⟩) n9 cap ∧ HasL w' g2 [.int .i64 r0, .int .i64 r1, .int .i64 r2, .int .i64 r3, .int .i64 r4, .int .i64 r5, .int .i64 r6, .int .i64 r7, .int .i64 pc]) (fun v w1 w2 h hb => by obtain ⟨g1, cap, e, hi⟩ := h; exact ⟨g1, cap, e, hi.keep hb⟩)), (Ix.kis (.int .i64 (n9 : Int))), (Ix.kis _)]) (fun _ => false) (by kernel_rfl) (by kernel_rfl) (by kernel_rfl) (fun _ _ h hb => ⟨Ext.trans h.1.out hb, h.2.out.keep hb⟩) (Ix.vk_keeps _) (Ix.not_al _) ⟨Below.refl _ _, HBX⟩
  case step =>
    refine zyx 7 0 1 [] (fun wi HB => ?_) <| zyx 6 1 2 [(0, some 11)] (fun wi HB => ?_) <| zyx 5 2 3 [] (fun wi HB => ?_) <| zyx 4 3 4 [(2, some 13)] (fun wi HB => ?_) <| zyx 3 4 5 [(3, some 14)] (fun wi HB => ?_) <| zyx 2 5 6 [(1, some 12), (4, some 15)] (fun wi HB => ?_) <| zyx 1 6 7 [(5, some 16)] (fun wi HB => ?_) <| zyx 0 7 8 [] (fun wi HB => ?_) <| Ix.steps_nil
    (· ((repeat (refine zya ?_; rintro _ rfl)); refine zye ?_; (try simp only [zyp]); refine Ix.goI_yes rfl rfl fun K hK => ?_; (try simp only [zyp] at hK); go_wp2_with (first | fail); exact hK _ _ (Below.refl _ _) rfl))
    (· (obtain ⟨HW, HX⟩ := HB; have d12 : wi.cell? ⟨w.heap.size, 12, none⟩ = some (.int .i64 pc) := (by rw [HX.out.cell]; rfl); (repeat (refine zya ?_; rintro _ rfl)); refine zye ?_; (try simp only [zyp]); refine Ix.goI_yes rfl rfl fun K hK => ?_; (try simp only [zyp] at hK); go_wp2_with (first | fail); exact hK _ _ (Below.refl _ _) rfl))
    (· ((repeat (refine zya ?_; rintro _ rfl)); refine zye ?_; (try simp only [zyp]); refine Ix.goI_yes rfl rfl fun K hK => ?_; (try simp only [zyp] at hK); go_wp2_with (first | fail); exact hK _ _ (Below.refl _ _) rfl))
    (· (obtain ⟨HW, HX⟩ := HB; have d12 : wi.cell? ⟨w.heap.size, 12, none⟩ = some (.int .i64 pc) := (by rw [HX.out.cell]; rfl); (repeat (refine zya ?_; rintro _ rfl)); refine zye ?_; (try simp only [zyp]); refine Ix.goI_yes rfl rfl fun K hK => ?_; (try simp only [zyp] at hK); go_wp2_with (first | fail); exact hK _ _ (Below.refl _ _) rfl))
    (· (obtain ⟨HW, HX⟩ := HB; have d12 : wi.cell? ⟨w.heap.size, 12, none⟩ = some (.int .i64 pc) := (by rw [HX.out.cell]; rfl); (repeat (refine zya ?_; rintro _ rfl)); refine zye ?_; (try simp only [zyp]); refine Ix.goI_yes rfl rfl fun K hK => ?_; (try simp only [zyp] at hK); go_wp2_with (first | fail); exact hK _ _ (Ext.alloc (Below.refl _ _) _) ⟨_, rfl, by simp [go_sem]⟩))
    (· (obtain ⟨HW, HX⟩ := HB; have d12 : wi.cell? ⟨w.heap.size, 12, none⟩ = some (.int .i64 pc) := (by rw [HX.out.cell]; rfl); refine zya ?_; rintro _ rfl; refine zya ?_; rintro _ ⟨g1, rfl, hc1⟩; refine zye ?_; (try simp only [zyp]); refine Ix.goI_yes rfl rfl fun K hK => ?_; (try simp only [zyp] at hK); refine wp_append_grow _ _ 22 rfl 3 iI (.int .i64 0) Try.underlying22 hi hz0 ⟨w.heap.size, 0, none⟩ 8 8 [.int .i64 r0, .int .i64 r1, .int .i64 r2, .int .i64 r3, .int .i64 r4, .int .i64 r5, .int .i64 r6, .int .i64 r7] rfl (by rw [hz1]; rfl) (blk_holds HX.out _ ⟨_, rfl⟩) ⟨g1, 0, none⟩ 1 1 [.int .i64 pc] rfl (by rw [hz1]; rfl) (one_at hc1) (by omega) (by omega) (growslice_fits (by omega) (by rw [hz2]; omega)) ?_; intro cap cs; exact hK _ _ (Ext.alloc (Ext.drew (Below.refl _ _)) _) ⟨_, cap, by rw [HN9.out]; rfl, HasL.of_blk (Blk.new _ _ _) _ ⟨_, by simp; rfl⟩⟩))
    (· (obtain ⟨HW, HX⟩ := HB; have d12 : wi.cell? ⟨w.heap.size, 12, none⟩ = some (.int .i64 pc) := (by rw [HX.out.cell]; rfl); refine zya ?_; rintro _ ⟨g2, cap2, rfl, hh2⟩; refine zye ?_; (try simp only [zyp]); refine Ix.goI_yes rfl rfl fun K hK => ?_; (try simp only [zyp] at hK); go_wp2_with (first | fail); exact hK _ _ (Below.refl _ _) rfl))
    (· ((repeat (refine zya ?_; rintro _ rfl)); refine zye ?_; (try simp only [zyp]); refine Ix.goI_yes rfl rfl fun K hK => ?_; (try simp only [zyp] at hK); go_wp2_with (first | fail); exact hK _ _ (Below.refl _ _) rfl))
  intro vsf wf HF hdf
  refine zyv 7 0 1 ?_; rintro _ _ rfl; refine zyv 6 1 2 ?_; rintro _ _ rfl; refine zyv 5 2 3 ?_; rintro _ _ rfl; refine zyv 4 3 4 ?_; rintro _ _ rfl; refine zyv 3 4 5 ?_; rintro _ _ ⟨g1, rfl, hc1⟩; refine zyv 2 5 6 ?_; rintro _ _ ⟨g2, cap2, rfl, hh2⟩; refine zyv 1 6 7 ?_; rintro _ _ rfl; refine zyv 0 7 8 ?_; rintro _ _ rfl
  refine Ix.allV_nil ?_
  have hb9 := HB9.out; obtain ⟨HW, HX⟩ := HF; have d13 : wf.cell? ⟨w.heap.size, 13, none⟩ = some (.slice ma mn mc) := (by rw [HX.out.cell]; rfl); have HH2 := Lib.hid hh2; clear hh2 hc1
  (try simp only [Act.put, List.setIfInBounds_toArray, List.set_cons_zero, List.set_cons_succ, List.drop_succ_cons, List.drop_zero])
  refine Ix.nil ?_
  go_wp2
  clear hdf
  have HQ2 := Lib.hid (HasL.ints (xs := [r0, r1, r2, r3, r4, r5, r6, r7, pc]) HH2.out)
  go_loop [18] (fun i => ∃ k : Nat, k ≤ n9 ∧ i = .int .i64 k ∧ Hid ((L9.take k).all Mc.inr = true)) (fun i => n9 - (intOf i).toNat)
  case atStart => exact ⟨0, Nat.zero_le _, rfl, (rfl : _ = true)⟩
  case round =>
    obtain ⟨k, hk, rfl, hall⟩ := hrel
    by_cases hlt : k < n9
    · obtain ⟨x, hx⟩ : ∃ x, x = L9.getD k 0 := ⟨_, rfl⟩
      have hcell : wf.cell? ⟨g2, k, none⟩ = some (.int .i64 x) := by rw [hx, HL9.out]; exact HQ2.out k (by rw [HN9.out] at hlt; exact hlt)
      have HX2 := Lib.hid hx
      have HLT := Lib.hid hlt
      have hl9 : Hid (k < L9.length) := by show k < L9.length; rw [HL9.out]; rw [HN9.out] at hlt; exact hlt
      clear hx
      by_cases hx0 : x < 0
      · have HV : Hid ((L9 ++ ms).all Mc.inr = false) := by show _ = _; rw [List.all_append, all_no hl9.out (by rw [← HX2.out]; unfold Mc.inr; simp; omega)]; rfl
        have hd0 : decide (x < 0) = true := by simpa using hx0
        go_wp2
        go_ret
        exact ⟨by rw [HVV.out, HV.out]; rfl, Ext.trans HW0.out HW.out⟩
      · have hd0 : decide (x < 0) = false := by simpa using hx0
        by_cases hx1 : x > 65535
        · have HV : Hid ((L9 ++ ms).all Mc.inr = false) := by show _ = _; rw [List.all_append, all_no hl9.out (by rw [← HX2.out]; unfold Mc.inr; simp; omega)]; rfl
          have hd1 : decide (x > 65535) = true := by simpa using hx1
          go_wp2
          go_ret
          exact ⟨by rw [HVV.out, HV.out]; rfl, Ext.trans HW0.out HW.out⟩
        · have hd1 : decide (x > 65535) = false := by simpa using hx1
          have HN : Hid ((L9.take (k + 1)).all Mc.inr = true) := by show _ = _; rw [all_next hl9.out, hall.out, ← HX2.out]; unfold Mc.inr; simp; omega
          go_wp2
          go_round
          case rel => exact ⟨k + 1, by omega, by go_num, HN⟩
          case measure => simp [intOf]; omega
    · have hk9 : k = 9 := by have := HN9.out; omega
      have HA9 : Hid (L9.all Mc.inr = true) := by show _ = _; have := hall.out; rw [hk9] at this; rwa [List.take_of_length_le (by rw [HL9.out]; simp)] at this
      obtain rfl : k = n9 := by have := HN9.out; omega
      clear hall hk9
      go_wp2
      obtain ⟨hml0, hmm, ma', mc', hmv, hmc, hmcell⟩ := (HR.out.below (Ext.trans HW0.out HW.out)).ints
      injection hmv with hmv1 hmv2 hmv3
      subst hmv1; subst hmv3
      have HML := Lib.hid hml0
      have HMC := Lib.hid hmcell
      have hmn2 : mn ≤ 9223372036854775807 := by have := HMN.out; omega
      clear hml0 hmm hmc hmcell hmv2
      go_loop [32] (fun i => ∃ k : Nat, k ≤ mn ∧ i = .int .i64 k ∧ Hid ((ms.take k).all Mc.inr = true)) (fun i => mn - (intOf i).toNat)
      case atStart => exact ⟨0, Nat.zero_le _, rfl, (rfl : _ = true)⟩
      case round =>
        obtain ⟨j, hk, rfl, hall⟩ := hrel
        by_cases hlt : j < mn
        · obtain ⟨mb, off, rfl, hcc⟩ := HMC.out (by omega)
          obtain ⟨x, hx⟩ : ∃ x, x = ms.getD j 0 := ⟨_, rfl⟩
          have hcell : wf.cell? ⟨mb, off + j, none⟩ = some (.int .i64 x) := by rw [hx]; exact hcc j hlt
          have HX2 := Lib.hid hx
          have hl9 : Hid (j < ms.length) := by show j < ms.length; rw [HML.out]; exact hlt
          clear hx hcc
          by_cases hx0 : x < 0
          · have HV : Hid ((L9 ++ ms).all Mc.inr = false) := by show _ = _; rw [List.all_append, all_no hl9.out (by rw [← HX2.out]; unfold Mc.inr; simp; omega)]; simp
            have hd0 : decide (x < 0) = true := by simpa using hx0
            go_wp2
            go_ret
            exact ⟨by rw [HVV.out, HV.out]; rfl, Ext.trans HW0.out HW.out⟩
          · have hd0 : decide (x < 0) = false := by simpa using hx0
            by_cases hx1 : x > 65535
            · have HV : Hid ((L9 ++ ms).all Mc.inr = false) := by show _ = _; rw [List.all_append, all_no hl9.out (by rw [← HX2.out]; unfold Mc.inr; simp; omega)]; simp
              have hd1 : decide (x > 65535) = true := by simpa using hx1
              go_wp2
              go_ret
              exact ⟨by rw [HVV.out, HV.out]; rfl, Ext.trans HW0.out HW.out⟩
            · have hd1 : decide (x > 65535) = false := by simpa using hx1
              have HN : Hid ((ms.take (j + 1)).all Mc.inr = true) := by show _ = _; rw [all_next hl9.out, hall.out, ← HX2.out]; unfold Mc.inr; simp; omega
              go_wp2
              go_round
              case rel => exact ⟨j + 1, by omega, by go_num, HN⟩
              case measure => simp [intOf]; omega
        · obtain rfl : j = mn := by omega
          have HAM : Hid ((L9 ++ ms).all Mc.inr = true) := by show _ = _; have := hall.out; rw [List.take_of_length_le (by rw [HML.out]; exact Nat.le_refl _)] at this; rw [List.all_append, HA9.out, this]; rfl
          clear hall
          go_wp2
          go_ret
          exact ⟨by rw [HVV.out, HAM.out]; rfl, Ext.trans HW0.out HW.out⟩
/-- What is wrong with a state, of its words. -/
def Mc.wr (rs : List Int) (pc : Int) (ms : List Int) : Int := if 65536 < ms.length then 4 else if (rs ++ [pc] ++ ms).all Mc.inr then 0 else 3
theorem wrong_ok (r0 r1 r2 r3 r4 r5 r6 r7 pc : Int) (c z n v : Bool) (mv : Value) (mn : Nat) (ms : List Int) (w : World) (hr : Rd w 1 mv mn (ms.map (Value.int .i64))) :
    Calls Try.prog 17 #[stV r0 r1 r2 r3 r4 r5 r6 r7 c z n v pc mv] w fun e w' => e = .returned (.int .i64 (Mc.wr [r0, r1, r2, r3, r4, r5, r6, r7] pc ms)) ∧ Below w.heap.size w w' := by
  obtain ⟨hl, hm, ma, mc, hv, _, _⟩ := hr.ints
  subst hv
  unfold Mc.wr
  by_cases h : 65536 < mn
  · rw [if_pos (by omega)]; exact wrong_many r0 r1 r2 r3 r4 r5 r6 r7 pc c z n v ma mn mc h w
  · rw [if_neg (by omega)]; exact wrong_in r0 r1 r2 r3 r4 r5 r6 r7 pc c z n v ma mn mc ms (by omega) w hr
end Go.Proofs.Ytfjgnhmmakeaeaa
/- Walks of slices.Clone and emu.wary. -/
namespace Go.Proofs.Ytfjgnhmmakeaeaa
open Go.RowKit
set_option linter.unusedVariables false
set_option linter.unusedSimpArgs false
set_option maxRecDepth 100000
open Mc

theorem addr_add (b off j : Nat) : (⟨b, off, none⟩ : Addr).add j = ⟨b, off + j, none⟩ := by rcases j with _ | j <;> simp [Addr.add]
set_option maxHeartbeats 4000000 in
/-- A copy of a slice of numbers, of its own. -/
theorem clone_ok (v : Value) (n : Nat) (cs : List Value) (hn : n ≤ 65536) (h1 : ∀ u ∈ cs, u.oneCell' = true) (w : World) (hr : Rd w 1 v n cs) :
    Calls Try.prog 62 #[v] w fun e w' => ∃ v', e = .returned v' ∧ w'.ownsRow w.heap.size 3 1 v' n cs ∧ Below w.heap.size w w' := by
  obtain ⟨hl, hm, a, cap, rfl, hcap, hcell⟩ := hr
  obtain ⟨iI, hi, hz0, hz1, hz2⟩ := info_parts Try.infoI64
  cases a with
  | none =>
    have hnil : cs = [] := by
      rcases cs with _ | ⟨x, r⟩
      · rfl
      · obtain ⟨b, off, ha, _⟩ := hcell (by simp); cases ha
    subst hnil
    obtain rfl : n = 0 := by simpa using hl.symm
    have hq : ∀ w, (binOp .eql 22 (.slice none 0 cap) (.slice none 0 0)).run Try.prog w = .ok (.bool true) w := fun w => Lib.run_eql_slice_nil w _ _ none 0 cap 0 0 Try.underlying22
    go_enter Try.func62, Try.ntmps62
    go_wp2
    go_ret
    exact ⟨_, rfl, World.ownsRow_nil _ _ _ _, Below.refl _ _⟩
  | some ad =>
    have hq : ∀ w, (binOp .eql 22 (.slice (some ad) n cap) (.slice none 0 0)).run Try.prog w = .ok (.bool false) w := fun w => Lib.run_eql_slice_nil w _ _ (some ad) n cap 0 0 Try.underlying22
    have HC : Hid (∀ j u, cs[j]? = some u → w.cell? (ad.add j) = some u ∧ ad.block < w.heap.size) := fun j u hu => by
      have hne : cs ≠ [] := by intro e; subst e; simp at hu
      obtain ⟨b, off, ha, hj⟩ := hcell hne
      injection ha with ha
      subst ha
      have := hj j u hu
      exact ⟨by rw [addr_add]; exact this, World.block_lt_of_cell? w ⟨b, off + j, none⟩ this⟩
    have HL := Lib.hid hl
    clear hcell hl
    go_enter Try.func62, Try.ntmps62
    go_wp2_with (first | (at_builtin; refine wpList_append_own _ rfl _ _ 22 rfl w.heap.size 3 iI (.int .i64 0) 1 8 Try.underlying22 hi hz0 hz1 hz2 rfl (by decide) _ _ _ rfl (World.ownsRow_lit w #[] 0 (Nat.le_refl _) (by decide) rfl) ad n cap cs rfl ?c1 ?c2 h1 ?c3 ?c4 ?c5 ?_))
    case c1 => rw [HL.out]
    case c2 =>
      intro j u hj
      obtain ⟨hc, hlt⟩ := HC.out j u hj
      have hblk : (ad.add j).block = ad.block := by rcases j with _ | j <;> simp [Addr.add]
      exact (Below.cell (Ext.alloc (Below.refl w.heap.size w) (.cells #[] 3)) (p := ad.add j) (by rw [hblk]; exact hlt)).trans hc
    case c3 => unfold maxLen; omega
    case c4 => omega
    case c5 => simp
    intro v' w1 hown hgrow _
    have hb1 : Hid (Below w.heap.size w w1) := Below.trans (Ext.alloc (Below.refl _ _) (.cells #[] 3)) (grown_below hgrow (by simp) (fun k hk => by
      have := own_low (World.ownsRow_lit (base := w.heap.size) (e := 3) (size := 1) w #[] 0 (Nat.le_refl _) (by decide) rfl) k hk; exact this))
    have HO : Hid (w1.ownsRow w.heap.size 3 1 v' n cs) := by show w1.ownsRow w.heap.size 3 1 v' n cs; simpa using hown
    clear hgrow hown
    go_wp2
    go_ret
    exact ⟨_, rfl, HO.out, hb1.out⟩
/-- What is wrong with what a run is given. -/
def Mc.wary (nC nI : Nat) (wr fuel : Int) : Int := if 65536 < nC ∨ 65536 < nI then 4 else if wr ≠ 0 then wr else if fuel < 0 ∨ 1000000 < fuel then 3 else 0
set_option maxHeartbeats 4000000 in
theorem wary_ok (cv iv : Value) (nC nI : Nat) (ca ia : Option Addr) (cc ic : Nat) (hcv : cv = .slice ca nC cc) (hiv : iv = .slice ia nI ic) (hnC : nC ≤ 9223372036854775807) (hnI : nI ≤ 9223372036854775807) (r0 r1 r2 r3 r4 r5 r6 r7 pc fuel : Int) (c z n v : Bool) (mv : Value) (mn : Nat) (ms : List Int) (w : World) (hr : Rd w 1 mv mn (ms.map (Value.int .i64))) :
    Calls Try.prog 61 #[cv, stV r0 r1 r2 r3 r4 r5 r6 r7 c z n v pc mv, iv, .int .i64 fuel] w fun e w' => e = .returned (.int .i64 (Mc.wary nC nI (Mc.wr [r0, r1, r2, r3, r4, r5, r6, r7] pc ms) fuel)) ∧ Below w.heap.size w w' := by
  subst hcv; subst hiv
  obtain ⟨hml, hmm, ma, mc, rfl, _, _⟩ := hr.ints
  obtain ⟨W0, hW0⟩ : ∃ W0, W0 = Mc.wr [r0, r1, r2, r3, r4, r5, r6, r7] pc ms := ⟨_, rfl⟩
  rw [← hW0]
  have CW : Hid (∀ w1 : World, Below w.heap.size w w1 → Calls Try.prog 17 #[stV r0 r1 r2 r3 r4 r5 r6 r7 c z n v pc (.slice ma mn mc)] w1 fun e w' => e = .returned (.int .i64 W0) ∧ Below w1.heap.size w1 w') := fun w1 hb => by
    rw [hW0]; exact wrong_ok r0 r1 r2 r3 r4 r5 r6 r7 pc c z n v _ mn ms w1 (hr.below hb)
  obtain ⟨V, hV⟩ : ∃ V, V = Mc.wary nC nI W0 fuel := ⟨_, rfl⟩
  rw [← hV]
  have HV := Lib.hid hV
  clear hV hW0 hr hml
  by_cases h1 : 65536 < nC
  · have e1 : decide ((nC : Int) > 65536) = true := by simp; omega
    have HE : Hid (V = 4) := by show V = 4; rw [HV.out]; unfold Mc.wary; rw [if_pos (.inl h1)]
    clear h1
    go_enter Try.func61, Try.ntmps61
    go_wp2
    go_ret
    exact ⟨by rw [HE.out]; rfl, Ext.alloc (Below.refl _ _) _⟩
  have e1 : decide ((nC : Int) > 65536) = false := by simp; omega
  by_cases h2 : 65536 < nI
  · have e2 : decide ((nI : Int) > 65536) = true := by simp; omega
    have HE : Hid (V = 4) := by show V = 4; rw [HV.out]; unfold Mc.wary; rw [if_pos (.inr h2)]
    clear h1 h2
    go_enter Try.func61, Try.ntmps61
    go_wp2
    go_ret
    exact ⟨by rw [HE.out]; rfl, Ext.alloc (Below.refl _ _) _⟩
  have e2 : decide ((nI : Int) > 65536) = false := by simp; omega
  have HV2 : Hid (V = if W0 ≠ 0 then W0 else if fuel < 0 ∨ 1000000 < fuel then 3 else 0) := by show V = _; rw [HV.out]; unfold Mc.wary; rw [if_neg (by omega)]
  clear h1 h2 HV
  by_cases h3 : W0 = 0
  · have e3 : (W0 != 0) = false := by simp [h3]
    have HV3 : Hid (V = if fuel < 0 ∨ 1000000 < fuel then 3 else 0) := by show V = _; rw [HV2.out, if_neg (by simp [h3])]
    clear h3 HV2
    by_cases h4 : fuel < 0
    · have e4 : decide (fuel < 0) = true := by simpa using h4
      have HE : Hid (V = 3) := by show V = 3; rw [HV3.out, if_pos (.inl h4)]
      clear h4
      go_enter Try.func61, Try.ntmps61
      go_wp2_with (first | (go_at_call 17; refine (CW.out _ (Ext.alloc (Below.refl _ _) _)).mono ?_; rintro e w1 ⟨rfl, hb1⟩; have HB1 := Lib.hid (Ext.trans (Ext.alloc (Below.refl _ _) _) hb1); clear hb1))
      go_ret
      exact ⟨by rw [HE.out]; rfl, HB1.out⟩
    have e4 : decide (fuel < 0) = false := by simpa using h4
    by_cases h5 : fuel > 1000000
    · have e5 : decide (fuel > 1000000) = true := by simpa using h5
      have HE : Hid (V = 3) := by show V = 3; rw [HV3.out, if_pos (.inr h5)]
      clear h4 h5
      go_enter Try.func61, Try.ntmps61
      go_wp2_with (first | (go_at_call 17; refine (CW.out _ (Ext.alloc (Below.refl _ _) _)).mono ?_; rintro e w1 ⟨rfl, hb1⟩; have HB1 := Lib.hid (Ext.trans (Ext.alloc (Below.refl _ _) _) hb1); clear hb1))
      go_ret
      exact ⟨by rw [HE.out]; rfl, HB1.out⟩
    have e5 : decide (fuel > 1000000) = false := by simpa using h5
    have HE : Hid (V = 0) := by show V = 0; rw [HV3.out, if_neg (by omega)]
    clear h4 h5
    go_enter Try.func61, Try.ntmps61
    go_wp2_with (first | (go_at_call 17; refine (CW.out _ (Ext.alloc (Below.refl _ _) _)).mono ?_; rintro e w1 ⟨rfl, hb1⟩; have HB1 := Lib.hid (Ext.trans (Ext.alloc (Below.refl _ _) _) hb1); clear hb1))
    go_ret
    exact ⟨by rw [HE.out]; rfl, HB1.out⟩
  · have e3 : (W0 != 0) = true := by simpa using h3
    have HE : Hid (V = W0) := by show V = _; rw [HV2.out, if_pos h3]
    clear h3 HV2
    go_enter Try.func61, Try.ntmps61
    go_wp2_with (first | (go_at_call 17; refine (CW.out _ (Ext.alloc (Below.refl _ _) _)).mono ?_; rintro e w1 ⟨rfl, hb1⟩; have HB1 := Lib.hid (Ext.trans (Ext.alloc (Below.refl _ _) _) hb1); clear hb1))
    go_ret
    exact ⟨by rw [HE.out]; rfl, HB1.out⟩
end Go.Proofs.Ytfjgnhmmakeaeaa

/- 'append(s, make([]int, k)...)' to a slice of the call's own. -/
namespace Go.Proofs.Ytfjgnhmmakeaeaa
open Go.RowKit
set_option linter.unusedVariables false
set_option linter.unusedSimpArgs false
set_option maxRecDepth 100000

theorem zeroCells_int (m : Nat) : (Builtin.zeroCells (Value.int .i64 0).cells m).toList = List.replicate m (.int .i64 0) := by
  unfold Builtin.zeroCells
  rw [show (Value.int .i64 0).cells = #[.int .i64 0] from rfl]
  simp [Nat.mod_one, List.map_const']
theorem own_append_zeros (w : World) (base ty : Nat) (v : Value) (n : Nat) (xs : List Value) (hown : w.ownsRow base 3 1 v n xs) (m : Nat) (h63 : n + m ≤ 65536) (hbase : base ≤ w.heap.size) :
    ∃ v' w', (Builtin.append_ #[22, 3] ty #[v, .int .i64 (m : Int)]).run Try.prog w = .ok v' w' ∧ w'.ownsRow base 3 1 v' (n + m) (xs ++ List.replicate m (.int .i64 0)) ∧ w.grownBy w' v.ownBlock ∧ w'.ownsRow base 3 1 v n xs := by
  obtain ⟨i, hi, hz, hsize, hby⟩ := info_parts Try.infoI64
  have ht := Try.underlying22
  have hw0 : IntKind.i64.wrap 0 = 0 := rfl
  have htn := Try.underlying3
  have hmx : n + m ≤ maxLen := by unfold maxLen; omega
  have hlen : (xs ++ List.replicate m (Value.int .i64 0)).length = n + m := by have := hown.1; simp; omega
  have grown : ∀ (old : Nat), old < n + m → ∀ (row : Option Nat) (zs : Array Value), zs.size = grownCap w (n + m) old 3 - (n + m) →
      (w.drew.alloc (.cells (xs.toArray ++ Builtin.zeroCells (Value.int .i64 0).cells m ++ zs) 3)).ownsRow base 3 1
        (.slice (some ⟨w.heap.size, 0, none⟩) (n + m) (grownCap w (n + m) old 3)) (n + m) (xs ++ List.replicate m (Value.int .i64 0)) ∧
      w.grownBy (w.drew.alloc (.cells (xs.toArray ++ Builtin.zeroCells (Value.int .i64 0).cells m ++ zs) 3)) row := by
    intro old ho row zs hzs
    have hge := grownCap_ge w (n + m) old 3
    have hcm : grownCap w (n + m) old 3 ≤ maxLen := grownCap_le_maxLen w (n + m) old 3 hmx
    refine ⟨⟨by rw [hlen]; omega, .inr ⟨w.heap.size, _, _, rfl, hbase, heap_alloc_new w.drew _, hge, hcm, ?_, ?_⟩⟩, ⟨rfl, rfl, rfl, by simp, fun k hk _ => Below.heap_alloc w.drew _ k hk⟩⟩
    · have h1 := hown.1
      have h2 : (Builtin.zeroCells (Value.int .i64 0).cells m).size = m := by rw [size_zeroCells]; exact Nat.mul_one m
      simp only [Array.size_append, List.size_toArray, h2, hzs]
      omega
    · simp only [Array.toList_append, zeroCells_int]
      rw [Nat.mul_one, ← hlen]
      exact List.take_left
  rcases hown.2 with ⟨rfl, rfl⟩ | ⟨g, cap, cur, rfl, hbg, hg, hnc, hcm, hcs, htake⟩
  · have hx : xs = [] := List.eq_nil_of_length_eq_zero (by simpa using hown.1)
    subst hx
    by_cases hm : m = 0
    · subst hm
      refine ⟨.slice none 0 0, w, ?_, World.ownsRow_nil w base _ 1, ⟨rfl, rfl, rfl, Nat.le_refl _, fun _ _ _ => rfl⟩, hown⟩
      simp [Builtin.append_, run_underlying ht, run_underlying htn, sizeOf, typeInfo, hi, hsize, hby, asInt, asIntOf, hw0]
    · have hr := Lib.run_append_nil_zeros (P := Try.prog) w 22 3 ty 3 i (.int .i64 0) .i64 .i64 ht htn hi hz m (by omega) (by omega) (by omega) (by rw [hby]; omega)
      have hgr := grown 0 (by omega) (Value.ownBlock (.slice none 0 0)) (Builtin.zeroCells (Value.int .i64 0).cells (grownCap w m 0 3 - m)) (by rw [size_zeroCells]; simp [Value.cells])
      simp only [Nat.zero_add, List.nil_append, Array.empty_append] at hgr ⊢
      exact ⟨_, _, hr, hgr.1, hgr.2, ownsRow_below hown (Ext.alloc (Ext.drew (Below.refl _ _)) _)⟩
  · by_cases hroom : n + m ≤ cap
    · have hst := run_storeCells_at Try.prog g n 3 (List.replicate m (Value.int .i64 0)) 0 cur w hg (by simp; omega) (by intro u hu; rw [List.eq_of_mem_replicate hu]; rfl)
      simp only [Nat.add_zero] at hst
      have hw : IntKind.i64.wrap (m : Int) = m := by rw [IntKind.wrap_i64]; omega
      have hneg : ¬ ((m : Int) < 0) := by omega
      have h48i : ¬ (281474976710656 < (m : Int) * 8) := by omega
      have hr : (Builtin.append_ #[22, 3] ty #[.slice (some ⟨g, 0, none⟩) n cap, .int .i64 (m : Int)]).run Try.prog w =
          .ok (.slice (some ⟨g, 0, none⟩) (n + m) cap) (w.setRow g (cur.toList.take n ++ List.replicate m (Value.int .i64 0) ++ cur.toList.drop (n + (List.replicate m (Value.int .i64 0)).length)).toArray) := by
        by_cases hm : m = 0
        · subst hm
          have e : (cur.toList.take n ++ List.replicate 0 (Value.int .i64 0) ++ cur.toList.drop (n + (List.replicate 0 (Value.int .i64 0)).length)).toArray = cur := by simp
          have hnc2 : n ≤ cap := by omega
          simp only [List.replicate_zero, storeCells] at hst ⊢
          simp [Builtin.append_, run_underlying ht, run_underlying htn, sizeOf, typeInfo, hi, hsize, hby, asInt, asIntOf, hw0, hnc2, storeCells]
          simpa [storeCells] using hst
        · simp [Builtin.append_, run_underlying ht, run_underlying htn, sizeOf, typeInfo, zeroValue, hi, hz, hsize, hby, asInt, asIntOf, hw, hneg, h48i, hm, hroom, zeroCells_int, Addr.add_lit, hst]
      refine ⟨_, _, hr, ⟨by rw [hlen]; omega, .inr ⟨g, cap, _, rfl, hbg, setRow_heap w g cur _ _ _ hg, hroom, hcm, ?_, ?_⟩⟩, ⟨rfl, rfl, rfl, by simp, fun k _ hk => setRow_other w g k _ (fun e => hk (by simp [Value.ownBlock, e]))⟩, ⟨hown.1, .inr ⟨g, cap, _, rfl, hbg, setRow_heap w g cur _ _ _ hg, hnc, hcm, ?_, ?_⟩⟩⟩
      · simp only [List.size_toArray, List.length_append, List.length_take, List.length_drop, Array.length_toList, List.length_replicate]
        omega
      · have ht2 : cur.toList.take n = xs := by simpa using htake
        rw [ht2, Nat.mul_one, ← hlen]
        exact List.take_left
      · simp only [List.size_toArray, List.length_append, List.length_take, List.length_drop, Array.length_toList, List.length_replicate]
        omega
      · have ht2 : cur.toList.take n = xs := by simpa using htake
        have hxl : xs.length = n := by have := hown.1; omega
        rw [ht2, Nat.mul_one, List.append_assoc]
        show (xs ++ _).take n = xs
        rw [← hxl]; exact List.take_left
    · have holds : ∀ j u, xs[j]? = some u → w.cell? ((⟨g, 0, none⟩ : Addr).add j) = some u := hown.cells (g := g) rfl
      have hf := run_firstCells_some (P := Try.prog) w.drew i.size n ⟨g, 0, none⟩ n cap xs (by rw [hsize]; exact hown.1) (by simpa using holds)
      have hr := Lib.run_append_grow_zeros (P := Try.prog) w 22 3 ty 3 i (.int .i64 0) .i64 .i64 ht htn hi hz (some ⟨g, 0, none⟩) n cap xs hf m (by omega) (by omega) (by omega) (by omega) (by rw [hby]; omega) (growslice_fits (by omega) (by rw [hby]; omega))
      have hgr := grown cap (by omega) (Value.ownBlock (.slice (some ⟨g, 0, none⟩) n cap)) (Builtin.zeroCells (Value.int .i64 0).cells (grownCap w (n + m) cap 3 - (n + m))) (by rw [size_zeroCells]; simp [Value.cells])
      exact ⟨_, _, hr, hgr.1, hgr.2, ownsRow_below hown (Ext.alloc (Ext.drew (Below.refl _ _)) _)⟩
end Go.Proofs.Ytfjgnhmmakeaeaa
