/- Walk of law EmuRuns. -/
import Derived.Test.YtfjgnhmmakeaeaaPt
import Derived.Test.YtfjgnhmmakeaeaaQ4
import Derived.Test.YtfjgnhmmakeaeaaB0
import Derived.Deep.Cut
namespace Go.Proofs.Ytfjgnhmmakeaeaa
open Go.RowKit
set_option linter.unusedVariables false
set_option linter.unusedSimpArgs false
set_option maxRecDepth 100000
open Mc
set_option maxHeartbeats 16000000 in
theorem eruns_at (cv iv : Value) (ma : Option Addr) (mn mc : Nat) (r0 r1 r2 r3 r4 r5 r6 r7 pc fuel E1 W1 : Int) (c z n v : Bool) (rl : World → List Value → Prop) (w : World)
    (hone : ∀ w' l, rl w' l → l.toArray.all (·.oneCell') = true ∧ l.length = 19) (hkeep : ∀ w1 w2 l, rl w1 l → Below w1.heap.size w1 w2 → rl w2 l)
    (CE : ∀ w1 : World, Below w.heap.size w w1 → Calls Try.prog 15 #[cv, stV r0 r1 r2 r3 r4 r5 r6 r7 c z n v pc (.slice ma mn mc), iv, .int .i64 fuel] w1 fun e w' => ∃ l, e = .returned (.tuple #[.agg l.toArray, .int .i64 E1]) ∧ rl w' l ∧ Below w1.heap.size w1 w')
    (CF : ∀ w1 : World, Below w.heap.size w w1 → Calls Try.prog 16 #[cv, stV r0 r1 r2 r3 r4 r5 r6 r7 c z n v pc (.slice ma mn mc), iv, .int .i64 fuel] w1 fun e w' => ∃ l, e = .returned (.tuple #[.agg l.toArray, .int .i64 E1]) ∧ rl w' l ∧ Below w1.heap.size w1 w')
    (CW : ∀ w1 : World, Below w.heap.size w w1 → Calls Try.prog 17 #[stV r0 r1 r2 r3 r4 r5 r6 r7 c z n v pc (.slice ma mn mc)] w1 fun e w' => e = .returned (.int .i64 W1) ∧ Below w1.heap.size w1 w')
    (CX : ∀ w1 : World, Below w.heap.size w w1 → Calls Try.prog 18 #[stV r0 r1 r2 r3 r4 r5 r6 r7 c z n v pc (.slice ma mn mc)] w1 fun e w' => e = .returned (.int .i64 W1) ∧ Below w1.heap.size w1 w')
    (CS : ∀ (w1 : World) (l l' : List Value), rl w1 l → rl w1 l' → Calls Try.prog 19 #[.agg l.toArray, .agg l'.toArray] w1 fun e w' => e = .returned (.bool true) ∧ Below w1.heap.size w1 w') :
    Calls Try.prog 3 #[cv, stV r0 r1 r2 r3 r4 r5 r6 r7 c z n v pc (.slice ma mn mc), iv, .int .i64 fuel] w fun e w' => e = .returned (.bool true) ∧ Below w.heap.size w w' := by
  have HCE := Lib.hid CE; have HCF := Lib.hid CF; have HCW := Lib.hid CW; have HCX := Lib.hid CX; have HCS := Lib.hid CS; have HONE := Lib.hid hone; have HKEEP := Lib.hid hkeep
  clear CE CF CW CX CS hone hkeep
  go_enter Try.func3, Try.ntmps3
  go_upto_region 3 with (first | (refine wpList_load_row rfl 27 _ rfl w.heap.size rfl 27 (stC r0 r1 r2 r3 r4 r5 r6 r7 c z n v pc (.slice ma mn mc)) (0, 0) _ (Blk.new w _ _) Try.underlying27 rfl (by kernel_rfl) ?_) | (go_at_call 15; refine (HCE.out _ (Ext.alloc (Below.refl _ _) _)).mono ?_; rintro e w2 ⟨l1, rfl, hl2, hb2⟩; have HB2 := Lib.hid (Ext.trans (Ext.alloc (Below.refl w.heap.size w) _) hb2); have HL2 := Lib.hid hl2; have HO2 := Lib.hid (HONE.out _ _ hl2); have HS2 := Lib.hid ((Blk.new w 27 (stC r0 r1 r2 r3 r4 r5 r6 r7 c z n v pc (.slice ma mn mc))).keep hb2); clear hb2 hl2) | (refine wpList_store_row rfl 30 _ _ rfl w2.heap.size l1.toArray rfl rfl 30 ranZc (Blk.new _ _ _) (by rw [List.size_toArray, HO2.out.2]; kernel_rfl) (by simp [HO2.out.2]) HO2.out.1 ?_; generalize hw3 : (w2.alloc (Obj.cells ranZc 30)).setRow w2.heap.size l1.toArray = w3; have HB23 := Lib.hid ((by rw [← hw3]; exact Below.row (Ext.alloc (Below.refl _ _) _) (Nat.le_refl _) _ : Below w2.heap.size w2 w3)); have HA3 := Lib.hid ((by rw [← hw3]; exact (Blk.new w2 _ _).row _ : Blk w3 w2.heap.size 30 l1.toArray)); have HS3 := Lib.hid (HS2.out.keep HB23.out); have HL3 := Lib.hid (HKEEP.out _ _ _ HL2.out HB23.out); clear hw3) | (refine wpList_load_row rfl 27 _ rfl w.heap.size rfl 27 (stC r0 r1 r2 r3 r4 r5 r6 r7 c z n v pc (.slice ma mn mc)) (0, 0) _ HS3.out Try.underlying27 rfl (by kernel_rfl) ?_) | (go_at_call 16; refine (HCF.out _ (Ext.trans HB2.out HB23.out)).mono ?_; rintro e w4 ⟨l2, rfl, hl4, hb4⟩; have HB4 := Lib.hid (Ext.trans (Ext.trans HB2.out HB23.out) hb4); have HK4 := Lib.hid hl4; have HO4 := Lib.hid (HONE.out _ _ hl4); have HA4 := Lib.hid (HA3.out.keep hb4); have HL4 := Lib.hid (HKEEP.out _ _ _ HL3.out hb4); have HS4 := Lib.hid (HS3.out.keep hb4); have hq4 : w2.heap.size < w4.heap.size := (Nat.lt_of_lt_of_le HA3.out.lt hb4.size); clear hb4 hl4) | (refine wpList_store_row rfl 30 _ _ rfl w4.heap.size l2.toArray rfl rfl 30 ranZc (Blk.new _ _ _) (by rw [List.size_toArray, HO4.out.2]; kernel_rfl) (by simp [HO4.out.2]) HO4.out.1 ?_; generalize hw5 : (w4.alloc (Obj.cells ranZc 30)).setRow w4.heap.size l2.toArray = w5; have HB45 := Lib.hid ((by rw [← hw5]; exact Below.row (Ext.alloc (Below.refl _ _) _) (Nat.le_refl _) _ : Below w4.heap.size w4 w5)); have HA5 := Lib.hid (HA4.out.keep HB45.out); have HX5 := Lib.hid ((by rw [← hw5]; exact (Blk.new w4 _ _).row _ : Blk w5 w4.heap.size 30 l2.toArray)); have HS5 := Lib.hid (HS4.out.keep HB45.out); have HL5 := Lib.hid (HKEEP.out _ _ _ HL4.out HB45.out); have HK5 := Lib.hid (HKEEP.out _ _ _ HK4.out HB45.out); clear hw5))
  have HB5 := Lib.hid (Ext.trans HB4.out HB45.out)
  clear HS2 HS3 HS4 HA3 HA4 HL2 HL3 HL4 HK4 HB23 HB45 HB2 HCE HCF HONE HB4
  apply Ix.wp_region 15 (fun wi => Hid (Below w5.heap.size w5 wi)) (Ix.vk [(Ix.kis (stV r0 r1 r2 r3 r4 r5 r6 r7 c z n v pc (.slice ma mn mc))), (Ix.kis (.int .i64 W1)), (Ix.kis (stV r0 r1 r2 r3 r4 r5 r6 r7 c z n v pc (.slice ma mn mc))), (Ix.kis (.int .i64 W1)), (Ix.kis (.bool true)), (Ix.kis (.bool true)), (Ix.kis (.int .i64 E1)), (Ix.kis (.int .i64 E1)), (Ix.kis (.bool true)), (Ix.kis (.bool true)), (Ix.kis (.bool true)), (Ix.kis (.agg l1.toArray)), (Ix.kis (.agg l2.toArray)), (Ix.kis (.bool true)), (Ix.kis (.bool true))]) (fun _ => false) (by kernel_rfl) (by kernel_rfl) (by kernel_rfl) (fun _ _ h hb => Ext.trans h.out hb) (Ix.vk_keeps _) (Ix.not_al _) (Below.refl _ _)
  case step =>
    refine zzx 14 0 1 rfl rfl [] (by kernel_rfl) (fun wi HB => ?_) ?_
    (· (refine zze ?_; (try simp only [zzp]); refine Ix.goI_yes rfl rfl fun K hK => ?_; (try simp only [zzp] at hK); refine wp_load_row 27 _ rfl w.heap.size rfl 27 (stC r0 r1 r2 r3 r4 r5 r6 r7 c z n v pc (.slice ma mn mc)) (0, 0) _ (HS5.out.keep HB.out) Try.underlying27 rfl (by kernel_rfl) ?_; exact hK _ _ (Below.refl _ _) rfl))
    refine zzx 13 1 2 rfl rfl [(0, some 29)] (by kernel_rfl) (fun wi HB => ?_) ?_
    (· (refine zza ?_; rintro _ rfl; refine zze ?_; (try simp only [zzp]); refine Ix.goI_yes rfl rfl fun K hK => ?_; (try simp only [zzp] at hK); go_wp2_with (first | (go_at_call 17; refine (HCW.out _ (Ext.trans HB5.out HB.out)).mono ?_; rintro e wa ⟨rfl, hba⟩)); exact hK _ _ hba rfl))
    refine zzx 12 2 3 rfl rfl [] (by kernel_rfl) (fun wi HB => ?_) ?_
    (· (refine zze ?_; (try simp only [zzp]); refine Ix.goI_yes rfl rfl fun K hK => ?_; (try simp only [zzp] at hK); refine wp_load_row 27 _ rfl w.heap.size rfl 27 (stC r0 r1 r2 r3 r4 r5 r6 r7 c z n v pc (.slice ma mn mc)) (0, 0) _ (HS5.out.keep HB.out) Try.underlying27 rfl (by kernel_rfl) ?_; exact hK _ _ (Below.refl _ _) rfl))
    refine zzx 11 3 4 rfl rfl [(2, some 31)] (by kernel_rfl) (fun wi HB => ?_) ?_
    (· (refine zza ?_; rintro _ rfl; refine zze ?_; (try simp only [zzp]); refine Ix.goI_yes rfl rfl fun K hK => ?_; (try simp only [zzp] at hK); go_wp2_with (first | (go_at_call 18; refine (HCX.out _ (Ext.trans HB5.out HB.out)).mono ?_; rintro e wa ⟨rfl, hba⟩)); exact hK _ _ hba rfl))
    refine zzx 10 4 5 rfl rfl [(1, some 30), (3, some 32)] (by kernel_rfl) (fun wi HB => ?_) ?_
    (· (refine zza ?_; rintro _ rfl; refine zza ?_; rintro _ rfl; refine zze ?_; (try simp only [zzp]); refine Ix.goI_yes rfl rfl fun K hK => ?_; (try simp only [zzp] at hK); go_wp2_with (first | fail); exact hK _ _ (Below.refl _ _) rfl))
    refine zzx 9 5 6 rfl rfl [(4, some 33)] (by kernel_rfl) (fun wi HB => ?_) ?_
    (· (refine zza ?_; rintro _ rfl; refine zze ?_; (try simp only [zzp]); refine Ix.goI_yes rfl rfl fun K hK => ?_; (try simp only [zzp] at hK); go_wp2_with (first | fail); exact hK _ _ (Below.refl _ _) rfl))
    refine zzx 8 6 7 rfl rfl [(5, some 34)] (by kernel_rfl) (fun wi HB => ?_) ?_
    (· (refine zza ?_; rintro _ rfl; refine zze ?_; (try simp only [zzp]); refine Ix.goI_yes rfl rfl fun K hK => ?_; (try simp only [zzp] at hK); go_wp2_with (first | fail); exact hK _ _ (Below.refl _ _) rfl))
    refine zzx 7 7 8 rfl rfl [(5, some 34)] (by kernel_rfl) (fun wi HB => ?_) ?_
    (· (refine zza ?_; rintro _ rfl; refine zze ?_; (try simp only [zzp]); refine Ix.goI_yes rfl rfl fun K hK => ?_; (try simp only [zzp] at hK); go_wp2_with (first | fail); exact hK _ _ (Below.refl _ _) rfl))
    refine zzx 6 8 9 rfl rfl [(5, some 34), (6, some 35), (7, some 36)] (by kernel_rfl) (fun wi HB => ?_) ?_
    (· (refine zza ?_; rintro _ rfl; refine zza ?_; rintro _ rfl; refine zza ?_; rintro _ rfl; refine zze ?_; (try simp only [zzp]); refine Ix.goI_yes rfl rfl fun K hK => ?_; (try simp only [zzp] at hK); go_wp2_with (first | fail); exact hK _ _ (Below.refl _ _) rfl))
    refine zzx 5 9 10 rfl rfl [(5, some 34), (8, some 37)] (by kernel_rfl) (fun wi HB => ?_) ?_
    (· (refine zza ?_; rintro _ rfl; refine zza ?_; rintro _ rfl; refine zze ?_; (try simp only [zzp]); refine Ix.goI_yes rfl rfl fun K hK => ?_; (try simp only [zzp] at hK); go_wp2_with (first | fail); exact hK _ _ (Below.refl _ _) rfl))
    refine zzx 4 10 11 rfl rfl [(9, some 38)] (by kernel_rfl) (fun wi HB => ?_) ?_
    (· (refine zza ?_; rintro _ rfl; refine zze ?_; (try simp only [zzp]); refine Ix.goI_yes rfl rfl fun K hK => ?_; (try simp only [zzp] at hK); go_wp2_with (first | fail); exact hK _ _ (Below.refl _ _) rfl))
    refine zzx 3 11 12 rfl rfl [(10, some 39)] (by kernel_rfl) (fun wi HB => ?_) ?_
    (· (refine zza ?_; rintro _ rfl; refine zze ?_; (try simp only [zzp]); refine Ix.goI_yes rfl rfl fun K hK => ?_; (try simp only [zzp] at hK); refine wp_load_row 30 _ rfl w2.heap.size rfl 30 l1.toArray (0, 0) _ (HA5.out.keep HB.out) Try.underlying30 rfl (by rw [List.size_toArray, HO2.out.2]; kernel_rfl) ?_; exact hK _ _ (Below.refl _ _) rfl))
    refine zzx 2 12 13 rfl rfl [(10, some 39)] (by kernel_rfl) (fun wi HB => ?_) ?_
    (· (refine zza ?_; rintro _ rfl; refine zze ?_; (try simp only [zzp]); refine Ix.goI_yes rfl rfl fun K hK => ?_; (try simp only [zzp] at hK); refine wp_load_row 30 _ rfl w4.heap.size rfl 30 l2.toArray (0, 0) _ (HX5.out.keep HB.out) Try.underlying30 rfl (by rw [List.size_toArray, HO4.out.2]; kernel_rfl) ?_; exact hK _ _ (Below.refl _ _) rfl))
    refine zzx 1 13 14 rfl rfl [(10, some 39), (11, some 40), (12, some 41)] (by kernel_rfl) (fun wi HB => ?_) ?_
    (· (refine zza ?_; rintro _ rfl; refine zza ?_; rintro _ rfl; refine zza ?_; rintro _ rfl; refine zze ?_; (try simp only [zzp]); refine Ix.goI_yes rfl rfl fun K hK => ?_; (try simp only [zzp] at hK); go_wp2_with (first | (go_at_call 19; refine (HCS.out _ _ _ (HKEEP.out _ _ _ HL5.out HB.out) (HKEEP.out _ _ _ HK5.out HB.out)).mono ?_; rintro e wa ⟨rfl, hba⟩)); exact hK _ _ hba rfl))
    refine zzx 0 14 15 rfl rfl [(10, some 39), (13, some 42)] (by kernel_rfl) (fun wi HB => ?_) ?_
    (· (refine zza ?_; rintro _ rfl; refine zza ?_; rintro _ rfl; refine zze ?_; (try simp only [zzp]); refine Ix.goI_yes rfl rfl fun K hK => ?_; (try simp only [zzp] at hK); go_wp2_with (first | fail); exact hK _ _ (Below.refl _ _) rfl))
    exact Ix.steps_nil
  intro vsf wf HF hdf
  refine zzv 14 0 1 rfl rfl ?_; rintro _ _ rfl; refine zzv 13 1 2 rfl rfl ?_; rintro _ _ rfl; refine zzv 12 2 3 rfl rfl ?_; rintro _ _ rfl; refine zzv 11 3 4 rfl rfl ?_; rintro _ _ rfl; refine zzv 10 4 5 rfl rfl ?_; rintro _ _ rfl; refine zzv 9 5 6 rfl rfl ?_; rintro _ _ rfl; refine zzv 8 6 7 rfl rfl ?_; rintro _ _ rfl; refine zzv 7 7 8 rfl rfl ?_; rintro _ _ rfl; refine zzv 6 8 9 rfl rfl ?_; rintro _ _ rfl; refine zzv 5 9 10 rfl rfl ?_; rintro _ _ rfl; refine zzv 4 10 11 rfl rfl ?_; rintro _ _ rfl; refine zzv 3 11 12 rfl rfl ?_; rintro _ _ rfl; refine zzv 2 12 13 rfl rfl ?_; rintro _ _ rfl; refine zzv 1 13 14 rfl rfl ?_; rintro _ _ rfl; refine zzv 0 14 15 rfl rfl ?_; rintro _ _ rfl
  refine Ix.allV_nil ?_
  (try simp only [Act.put, List.setIfInBounds_toArray, List.set_cons_zero, List.set_cons_succ, List.drop_succ_cons, List.drop_zero])
  go_wp2_with (first | fail)
  refine Ix.only ?_
  go_wp2
  go_ret
  exact ⟨rfl, Ext.trans HB5.out HF.out⟩
end Go.Proofs.Ytfjgnhmmakeaeaa
