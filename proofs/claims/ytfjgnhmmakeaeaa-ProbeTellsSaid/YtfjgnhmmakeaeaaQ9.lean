/- The document's probe: what is wrong; whether steps are the same. -/
import Derived.Test.YtfjgnhmmakeaeaaPt2
import Derived.Test.YtfjgnhmmakeaeaaQ7
import Derived.LoopTactic
import Derived.Deep.Cut
namespace Go.Proofs.Ytfjgnhmmakeaeaa
open Go.RowKit
set_option linter.unusedVariables false
set_option linter.unusedSimpArgs false
set_option maxRecDepth 100000
open Mc
set_option maxHeartbeats 4000000 in
theorem wrong16_ok (nC nI : Nat) (ca ia : Option Addr) (cc ic : Nat) (hnC : nC ≤ 9223372036854775807) (hnI : nI ≤ 9223372036854775807) (r0 r1 r2 r3 r4 r5 r6 r7 pc fuel W0 : Int) (c z n v : Bool) (ma : Option Addr) (mn mc : Nat) (w : World)
    (hw : ∀ w1 : World, Below w.heap.size w w1 → Calls Try.prog 18 #[stV r0 r1 r2 r3 r4 r5 r6 r7 c z n v pc (.slice ma mn mc)] w1 fun e w' => e = .returned (.int .i64 W0) ∧ Below w1.heap.size w1 w') :
    Calls Try.prog 35 #[.slice ca nC cc, stV r0 r1 r2 r3 r4 r5 r6 r7 c z n v pc (.slice ma mn mc), .slice ia nI ic, .int .i64 fuel] w fun e w' => e = .returned (.int .i64 (Mc.wary nC nI W0 fuel)) ∧ Below w.heap.size w w' := by
  have CW := Lib.hid hw
  clear hw
  obtain ⟨V, hV⟩ : ∃ V, V = Mc.wary nC nI W0 fuel := ⟨_, rfl⟩
  rw [← hV]
  unfold Mc.wary at hV
  by_cases h1 : 65536 < nC
  · have e1 : decide ((nC : Int) > 65536) = true := by simp; omega
    have HE : Hid (V = 4) := by show V = 4; rw [hV, if_pos (.inl h1)]
    clear h1 hV
    go_enter Try.func35, Try.ntmps35
    go_wp2
    go_ret
    exact ⟨by rw [HE.out]; rfl, Ext.alloc (Below.refl _ _) _⟩
  have e1 : decide ((nC : Int) > 65536) = false := by simp; omega
  by_cases h2 : 65536 < nI
  · have e2 : decide ((nI : Int) > 65536) = true := by simp; omega
    have HE : Hid (V = 4) := by show V = 4; rw [hV, if_pos (.inr h2)]
    clear h1 h2 hV
    go_enter Try.func35, Try.ntmps35
    go_wp2
    go_ret
    exact ⟨by rw [HE.out]; rfl, Ext.alloc (Below.refl _ _) _⟩
  have e2 : decide ((nI : Int) > 65536) = false := by simp; omega
  rw [if_neg (by omega)] at hV
  clear h1 h2
  by_cases h3 : W0 = 0
  · have e3 : (W0 != 0) = false := by simpa using h3
    rw [if_neg (by simpa using h3)] at hV
    clear h3
    by_cases h4 : fuel < 0
    · have e4 : decide (fuel < 0) = true := by simpa using h4
      have HE : Hid (V = 3) := by show V = 3; rw [hV, if_pos (.inl h4)]
      clear h4 hV
      go_enter Try.func35, Try.ntmps35
      go_wp2_with (first | (go_at_call 18; refine (CW.out _ (Ext.alloc (Below.refl _ _) _)).mono ?_; rintro e w1 ⟨rfl, hb1⟩; have HB1 := Lib.hid (Ext.trans (Ext.alloc (Below.refl _ _) _) hb1); clear hb1))
      go_ret
      exact ⟨by rw [HE.out]; rfl, HB1.out⟩
    have e4 : decide (fuel < 0) = false := by simpa using h4
    by_cases h5 : fuel > 1000000
    · have e5 : decide (fuel > 1000000) = true := by simpa using h5
      have HE : Hid (V = 3) := by show V = 3; rw [hV, if_pos (.inr h5)]
      clear h4 h5 hV
      go_enter Try.func35, Try.ntmps35
      go_wp2_with (first | (go_at_call 18; refine (CW.out _ (Ext.alloc (Below.refl _ _) _)).mono ?_; rintro e w1 ⟨rfl, hb1⟩; have HB1 := Lib.hid (Ext.trans (Ext.alloc (Below.refl _ _) _) hb1); clear hb1))
      go_ret
      exact ⟨by rw [HE.out]; rfl, HB1.out⟩
    have e5 : decide (fuel > 1000000) = false := by simpa using h5
    have HE : Hid (V = 0) := by show V = 0; rw [hV, if_neg (by omega)]
    clear h4 h5 hV
    go_enter Try.func35, Try.ntmps35
    go_wp2_with (first | (go_at_call 18; refine (CW.out _ (Ext.alloc (Below.refl _ _) _)).mono ?_; rintro e w1 ⟨rfl, hb1⟩; have HB1 := Lib.hid (Ext.trans (Ext.alloc (Below.refl _ _) _) hb1); clear hb1))
    go_ret
    exact ⟨by rw [HE.out]; rfl, HB1.out⟩
  · have e3 : (W0 != 0) = true := by simpa using h3
    have HE : Hid (V = W0) := by show V = _; rw [hV, if_pos h3]
    clear h3 hV
    go_enter Try.func35, Try.ntmps35
    go_wp2_with (first | (go_at_call 18; refine (CW.out _ (Ext.alloc (Below.refl _ _) _)).mono ?_; rintro e w1 ⟨rfl, hb1⟩; have HB1 := Lib.hid (Ext.trans (Ext.alloc (Below.refl _ _) _) hb1); clear hb1))
    go_ret
    exact ⟨by rw [HE.out]; rfl, HB1.out⟩
theorem eq_ins2 (d : Nat) (a0 a1 a2 a3 : Int) (w : World) : (Op.equalIn (d + 2) 43 (.agg #[.int .i64 a0, .int .i64 a1, .int .i64 a2, .int .i64 a3]) (.agg #[.int .i64 a0, .int .i64 a1, .int .i64 a2, .int .i64 a3])).run Try.prog w = .ok true w := by
  obtain ⟨i, hi, hz0, hz1, hz2⟩ := info_parts Try.infoI64
  have u3 := Try.underlying3
  have hag : ∀ w, (isAgg 3).run Try.prog w = .ok false w := fun w => by unfold isAgg; rw [Sem.run_bind, run_underlying u3 w]; rfl
  have hsz : ∀ w, (sizeOf 3).run Try.prog w = .ok 1 w := fun w => by simp [sizeOf, typeInfo, hi, hz1]
  have hS : Try.prog.underlying 43 = some (.struct (Try.prog.fieldsOf 43)) := by kernel_rfl
  have hp : Try.prog.stoodInHeld 43 = false := by kernel_rfl
  rw [show d + 2 = (d + 1) + 1 from rfl, run_equalIn_agg w (d + 1) 43 _ _ hS hp]
  simp only [Program.fieldsOf, Try.underlying43]
  go_simp
theorem eq_flags2 (d : Nat) (a0 a1 a2 a3 : Bool) (w : World) :
    (Op.equalIn (d + 2) 25 (.agg #[.bool a0, .bool a1, .bool a2, .bool a3]) (.agg #[.bool a0, .bool a1, .bool a2, .bool a3])).run Try.prog w = .ok true w := by
  have u4 := Try.underlying4
  have hag : ∀ w, (isAgg 4).run Try.prog w = .ok false w := fun w => by unfold isAgg; rw [Sem.run_bind, run_underlying u4 w]; rfl
  have hsz : ∀ w, (sizeOf 4).run Try.prog w = .ok 1 w := fun w => by kernel_rfl
  have hS : Try.prog.underlying 25 = some (.struct (Try.prog.fieldsOf 25)) := by kernel_rfl
  have hp : Try.prog.stoodInHeld 25 = false := by kernel_rfl
  rw [show d + 2 = (d + 1) + 1 from rfl, run_equalIn_agg w (d + 1) 25 _ _ hS hp]
  simp only [Program.fieldsOf, Try.underlying25]
  go_simp
theorem eq_regs2 (d : Nat) (a0 a1 a2 a3 a4 a5 a6 a7 : Int) (w : World) :
    (Op.equalIn (d + 2) 23 (.agg #[.int .i64 a0, .int .i64 a1, .int .i64 a2, .int .i64 a3, .int .i64 a4, .int .i64 a5, .int .i64 a6, .int .i64 a7]) (.agg #[.int .i64 a0, .int .i64 a1, .int .i64 a2, .int .i64 a3, .int .i64 a4, .int .i64 a5, .int .i64 a6, .int .i64 a7])).run Try.prog w = .ok true w := by
  obtain ⟨i, hi, hz0, hz1, hz2⟩ := info_parts Try.infoI64
  have u3 := Try.underlying3
  have hag : ∀ w, (isAgg 3).run Try.prog w = .ok false w := fun w => by unfold isAgg; rw [Sem.run_bind, run_underlying u3 w]; rfl
  have hsz : ∀ w, (sizeOf 3).run Try.prog w = .ok 1 w := fun w => by simp [sizeOf, typeInfo, hi, hz1]
  rw [show d + 2 = (d + 1) + 1 from rfl, Op.equalIn]
  simp only [Sem.run_bind, run_underlying Try.underlying23, Result.andThen_ok, hsz]
  simp only [Std.Legacy.Range.forIn_eq_forIn_range', Std.Legacy.Range.size, Nat.sub_zero, Nat.add_sub_cancel, Nat.div_one, List.range'_succ, List.range'_zero, List.forIn_cons, List.forIn_nil]
  go_simp
set_option maxHeartbeats 1000000 in
theorem eq_shot (cd : List Int) (x : Int × St) (w : World) : (Op.equalIn 10000 80 (.agg (shL cd x).toArray) (.agg (shL cd x).toArray)).run Try.prog w = .ok true w := by
  obtain ⟨i, hi, hz0, hz1, hz2⟩ := info_parts Try.infoI64
  have u3 := Try.underlying3
  have hag : ∀ w, (isAgg 3).run Try.prog w = .ok false w := fun w => by unfold isAgg; rw [Sem.run_bind, run_underlying u3 w]; rfl
  have hag2 : ∀ w, (isAgg 43).run Try.prog w = .ok true w := fun w => by kernel_rfl
  have hag3 : ∀ w, (isAgg 23).run Try.prog w = .ok true w := fun w => by kernel_rfl
  have hag4 : ∀ w, (isAgg 25).run Try.prog w = .ok true w := fun w => by kernel_rfl
  have hsz : ∀ w, (sizeOf 3).run Try.prog w = .ok 1 w := fun w => by simp [sizeOf, typeInfo, hi, hz1]
  have hsz2 : ∀ w, (sizeOf 43).run Try.prog w = .ok 4 w := fun w => by kernel_rfl
  have hsz3 : ∀ w, (sizeOf 23).run Try.prog w = .ok 8 w := fun w => by kernel_rfl
  have hsz4 : ∀ w, (sizeOf 25).run Try.prog w = .ok 4 w := fun w => by kernel_rfl
  have hS : Try.prog.underlying 80 = some (.struct (Try.prog.fieldsOf 80)) := by kernel_rfl
  have hp : Try.prog.stoodInHeld 80 = false := by kernel_rfl
  rw [show (10000 : Nat) = (9997 + 2) + 1 from rfl, run_equalIn_agg w (9997 + 2) 80 _ _ hS hp]
  simp only [Program.fieldsOf, Try.underlying80]
  have q1 := eq_ins2 9997; have q2 := eq_regs2 9997; have q3 := eq_flags2 9997
  go_simp
theorem shR_at2 (cd : List Int) : ∀ (l : List (Int × St)) (k : Nat) (x : Int × St), l[k]? = some x → ((shR cd l).drop (k * 17)).take 17 = shL cd x
  | [], k, x, h => by cases h
  | y :: l, 0, x, h => by
    simp at h; subst h
    show ((shL cd y ++ shR cd l).drop (0 * 17)).take 17 = _
    rw [Nat.zero_mul, List.drop_zero, List.take_append_of_le_length (by simp)]; rfl
  | y :: l, k + 1, x, h => by
    rw [List.getElem?_cons_succ] at h
    show ((shL cd y ++ shR cd l).drop ((k + 1) * 17)).take 17 = _
    rw [show (k + 1) * 17 = 17 + k * 17 by omega, ← List.drop_drop, List.drop_append_of_le_length (by simp)]
    have : (shL cd y).drop 17 = [] := rfl
    rw [this, List.nil_append]
    exact shR_at2 cd l k x h
theorem wpList_load_rowG {P : Program} {ops : Array Oper} {rest : List Oper} {o : Oper} {a : Act} {w : World} {Q : Exit → Act → World → Prop} (hw : Region.wanted o (yielded ops a.tmps) = true) (ty : TypeId) (x : Operand) (ho : o.op = .load ty x)
    (g : Nat) (hx : a.eval x = .pointer (some ⟨g, 0, none⟩)) (t : TypeId) (cs : Array Value) (fr : Nat × Nat) (d : TypeDesc) (hg : w.heap[g]? = some (.cells cs t fr))
    (hu : P.underlying ty = some d) (hd : (match d with | .struct _ | .array _ _ => true | _ => false) = true) (hi : (P.info? ty).map (·.size) = some cs.size)
    (h : wpList P ops Q rest (a.put o.dst (.agg cs)) w) : wpList P ops Q (o :: rest) a w :=
  wpList_step fun K hK => by rw [if_pos hw]; exact wp_load_row ty x ho g hx t cs fr d hg hu hd hi (hK _ _ h)
theorem wpList_load_subG {P : Program} {ops : Array Oper} {rest : List Oper} {o : Oper} {a : Act} {w : World} {Q : Exit → Act → World → Prop} (hw : Region.wanted o (yielded ops a.tmps) = true) (ty : TypeId) (x : Operand) (ho : o.op = .load ty x)
    (g k : Nat) (hx : a.eval x = .pointer (some ⟨g, k, none⟩)) (t : TypeId) (cs : Array Value) (vs : List Value) (d : TypeDesc) (hg : Blk w g t cs) (hvs : (cs.toList.drop k).take vs.length = vs)
    (hu : P.underlying ty = some d) (hd : (match d with | .struct _ | .array _ _ => true | _ => false) = true) (hi : (P.info? ty).map (·.size) = some vs.length)
    (h : wpList P ops Q rest (a.put o.dst (.agg vs.toArray)) w) : wpList P ops Q (o :: rest) a w :=
  wpList_step fun K hK => by rw [if_pos hw]; exact wp_load_sub ty x ho g k hx t cs vs d hg hvs hu hd hi (hK _ _ h)
theorem own_rowC {w : World} {B e s n : Nat} {v : Value} {xs : List Value} (h : w.ownsRow B e s v n xs) (hn : 0 < n) : ∃ g cap cur, v = .slice (some ⟨g, 0, none⟩) n cap ∧ Blk w g e cur ∧ n ≤ cap ∧ cur.toList.take (n * s) = xs := by
  rcases h.2 with ⟨rfl, hz⟩ | ⟨g, cap, cur, rfl, hbg, hg, hnc, hcm, hcs, htake⟩
  · omega
  · exact ⟨g, cap, cur, rfl, hg, hnc, htake⟩
theorem row_sub2 {cur xs : List Value} {m k : Nat} (h : cur.take m = xs) (hk : k + 17 ≤ m) : (cur.drop k).take 17 = (xs.drop k).take 17 := by
  rw [← h, List.drop_take, List.take_take, Nat.min_eq_left (by omega)]
theorem own_shots {w : World} {B n : Nat} {v : Value} {cd : List Int} {l : List (Int × St)} (h : w.ownsRow B 80 17 v n (shR cd l)) (hl : l.length = n) (k : Nat) (x : Int × St) (hx : l[k]? = some x) : ∃ g cap cur, v = .slice (some ⟨g, 0, none⟩) n cap ∧ Blk w g 80 cur ∧ (cur.toList.drop (k * 17)).take 17 = shL cd x := by
  have hk : k < l.length := (List.getElem?_eq_some_iff.1 hx).1
  obtain ⟨g, cap, cur, hv, hb, _, ht⟩ := own_rowC h (by omega)
  exact ⟨g, cap, cur, hv, hb, (row_sub2 ht (by omega)).trans (shR_at2 cd l k x hx)⟩
set_option maxHeartbeats 8000000 in
theorem same16_ok (u v : Value) (n B1 B2 : Nat) (cd : List Int) (l : List (Int × St)) (hl : l.length = n) (hn : n ≤ 1000000) (w : World) (hu : w.ownsRow B1 80 17 u n (shR cd l)) (hv : w.ownsRow B2 80 17 v n (shR cd l)) :
    Calls Try.prog 40 #[u, v] w fun e w' => e = .returned (.bool true) ∧ Below w.heap.size w w' := by
  obtain ⟨ua, uc, rfl, _⟩ := own_slice hu
  obtain ⟨va, vc, rfl, _⟩ := own_slice hv
  have HU := Lib.hid hu; have HV := Lib.hid hv; have HL := Lib.hid hl
  have hnn : ((n : Int) != (n : Int)) = false := by simp
  clear hu hv hl
  go_enter Try.func40, Try.ntmps40
  go_wp2
  go_loopw [13] (fun i wr => ∃ k : Nat, k ≤ n ∧ i = .int .i64 (k : Int) ∧ Hid (Below w.heap.size w wr)) (fun i _ => n - (intOf i).toNat)
  case atStart => exact ⟨0, Nat.zero_le _, rfl, Below.refl _ _⟩
  case round =>
    obtain ⟨k, hk, rfl, hbw⟩ := hrel
    by_cases hlt : k < n
    · obtain ⟨x, hx⟩ : ∃ x, l[k]? = some x := ⟨_, List.getElem?_eq_getElem (by rw [HL.out]; exact hlt)⟩
      obtain ⟨g1, c1, u1, e1, b1, t1⟩ := own_shots HU.out HL.out k x hx
      obtain ⟨g2, c2, u2, e2, b2, t2⟩ := own_shots HV.out HL.out k x hx
      injection e1 with e1a e1b e1c
      injection e2 with e2a e2b e2c
      subst e1a; subst e1c; subst e2a; subst e2c
      have q := eq_shot cd x
      obtain ⟨SH, hSH⟩ : ∃ SH, SH = shL cd x := ⟨_, rfl⟩
      have HLN : Hid (SH.length = 17) := by show _ = _; rw [hSH]; rfl
      rw [← hSH] at q t1 t2
      have HB1 := Lib.hid (b1.keep hbw.out); have HB2 := Lib.hid (b2.keep hbw.out)
      have HT1 : Hid ((u1.toList.drop (k * 17)).take SH.length = SH) := by show _ = _; rw [HLN.out]; exact t1
      have HT2 : Hid ((u2.toList.drop (k * 17)).take SH.length = SH) := by show _ = _; rw [HLN.out]; exact t2
      have HSZ : Hid ((Try.prog.info? 80).map (·.size) = some SH.length) := by show _ = _; rw [HLN.out]; kernel_rfl
      have HLT := Lib.hid hlt
      clear hx hSH t1 t2 b1 b2 e1b e2b
      go_upto_region 6 with (fail)
      apply Ix.wp_region 9 (fun wi => Hid (Below wr.heap.size wr wi)) (Ix.vk [(Ix.kis (.slice (some ⟨g1, 0, none⟩) n uc)), (Ix.kis (.int .i64 (k : Int))), (Ix.kis (.pointer (some ⟨g1, k * 17, none⟩))), (Ix.kis (.agg SH.toArray)), (Ix.kis (.slice (some ⟨g2, 0, none⟩) n vc)), (Ix.kis (.int .i64 (k : Int))), (Ix.kis (.pointer (some ⟨g2, k * 17, none⟩))), (Ix.kis (.agg SH.toArray)), (Ix.kis (.bool false))]) (fun _ => false) (by kernel_rfl) (by kernel_rfl) (by kernel_rfl) (fun _ _ h hb => Ext.trans h.out hb) (Ix.vk_keeps _) (Ix.not_al _) (Below.refl _ _)
      case step =>
        refine zyx 8 0 1 [] (fun wi HB => ?_) <| zyx 7 1 2 [] (fun wi HB => ?_) <| zyx 6 2 3 [(0, some 16), (1, some 17)] (fun wi HB => ?_) <| zyx 5 3 4 [(2, some 18)] (fun wi HB => ?_) <| zyx 4 4 5 [] (fun wi HB => ?_) <| zyx 3 5 6 [] (fun wi HB => ?_) <| zyx 2 6 7 [(4, some 20), (5, some 21)] (fun wi HB => ?_) <| zyx 1 7 8 [(6, some 22)] (fun wi HB => ?_) <| zyx 0 8 9 [(3, some 19), (7, some 23)] (fun wi HB => ?_) <| Ix.steps_nil
        iterate 3 (· ((repeat (refine zya ?_; rintro _ rfl)); refine zye ?_; (try simp only [zyp]); refine Ix.goI_yes rfl rfl fun K hK => ?_; (try simp only [zyp] at hK); go_wp2_with (first | fail); exact hK _ _ (Below.refl _ _) rfl))
        (· ((repeat (refine zya ?_; rintro _ rfl)); refine zye ?_; (try simp only [zyp]); refine Ix.goI_yes rfl rfl fun K hK => ?_; (try simp only [zyp] at hK); refine wp_load_sub 80 _ rfl g1 (k * 17) rfl 80 u1 SH _ (HB1.out.keep HB.out) HT1.out Try.underlying80 rfl HSZ.out ?_; exact hK _ _ (Below.refl _ _) rfl))
        iterate 3 (· ((repeat (refine zya ?_; rintro _ rfl)); refine zye ?_; (try simp only [zyp]); refine Ix.goI_yes rfl rfl fun K hK => ?_; (try simp only [zyp] at hK); go_wp2_with (first | fail); exact hK _ _ (Below.refl _ _) rfl))
        (· ((repeat (refine zya ?_; rintro _ rfl)); refine zye ?_; (try simp only [zyp]); refine Ix.goI_yes rfl rfl fun K hK => ?_; (try simp only [zyp] at hK); refine wp_load_sub 80 _ rfl g2 (k * 17) rfl 80 u2 SH _ (HB2.out.keep HB.out) HT2.out Try.underlying80 rfl HSZ.out ?_; exact hK _ _ (Below.refl _ _) rfl))
        (· ((repeat (refine zya ?_; rintro _ rfl)); refine zye ?_; (try simp only [zyp]); refine Ix.goI_yes rfl rfl fun K hK => ?_; (try simp only [zyp] at hK); go_wp2_with (first | fail); exact hK _ _ (Below.refl _ _) rfl))
      intro vsf wf HF hdf
      refine zyv 8 0 1 ?_; rintro _ _ rfl; refine zyv 7 1 2 ?_; rintro _ _ rfl; refine zyv 6 2 3 ?_; rintro _ _ rfl; refine zyv 5 3 4 ?_; rintro _ _ rfl; refine zyv 4 4 5 ?_; rintro _ _ rfl; refine zyv 3 5 6 ?_; rintro _ _ rfl; refine zyv 2 6 7 ?_; rintro _ _ rfl; refine zyv 1 7 8 ?_; rintro _ _ rfl; refine zyv 0 8 9 ?_; rintro _ _ rfl
      refine Ix.allV_nil ?_
      (try simp only [Act.put, List.setIfInBounds_toArray, List.set_cons_zero, List.set_cons_succ, List.drop_succ_cons, List.drop_zero])
      refine Ix.nil ?_
      go_wp2
      go_roundw
      case rel => exact ⟨k + 1, HLT.out, by go_num, Lib.hid (Ext.trans hbw.out HF.out)⟩
      case measure => have := HLT.out; simp [intOf]; omega
    · obtain rfl : k = n := by omega
      go_wp2
      go_ret
      exact ⟨rfl, hbw.out⟩
end Go.Proofs.Ytfjgnhmmakeaeaa
