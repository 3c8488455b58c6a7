/- Walk of law EmuStack. -/
import Derived.Test.YtfjgnhmmakeaeaaE49
import Derived.Test.YtfjgnhmmakeaeaaEc
import Derived.Test.YtfjgnhmmakeaeaaB0
import Derived.Deep.Cut
namespace Go.Proofs.Ytfjgnhmmakeaeaa
open Go.RowKit
set_option linter.unusedVariables false
set_option linter.unusedSimpArgs false
set_option maxRecDepth 100000
open Mc
def wantL (xs : List Int) (k : Nat) : List Int := xs.reverse.take k
theorem wantL_next (xs : List Int) (k : Nat) (h : k < xs.length) : wantL xs (k + 1) = wantL xs k ++ [xs.getD (xs.length - 1 - k) 0] := by
  unfold wantL
  rw [List.take_add_one, List.getElem?_eq_getElem (by simpa using h), List.getElem_reverse, List.getD_eq_getElem?_getD, List.getElem?_eq_getElem (by omega)]; rfl
theorem wantL_all (xs : List Int) : wantL xs xs.length = xs.reverse := by unfold wantL; rw [List.take_of_length_le (by simp)]
theorem puL_next (xs : List Int) (k : Nat) (h : k < xs.length) : puL (xs.take (k + 1)) = puL (xs.take k) ++ pu (xs.getD k 0) := by
  rw [List.take_add_one, List.getElem?_eq_getElem h, Option.toList_some, puL_snoc, List.getD_eq_getElem?_getD, List.getElem?_eq_getElem h]; rfl
set_option maxHeartbeats 16000000 in
theorem stack_at (ma : Option Addr) (mn mc : Nat) (r0 r1 r2 r3 r4 r5 r6 r7 pc R1 : Int) (c z n v : Bool) (lv : Value) (n' : Nat) (xs : List Int) (F : St) (w : World) (hln : n' ≤ 100) (hl : Rd w 1 lv n' (xs.map (Value.int .i64)))
    (CW : ∀ w1 : World, Below w.heap.size w w1 → Calls Try.prog 17 #[stV r0 r1 r2 r3 r4 r5 r6 r7 c z n v pc (.slice ma mn mc)] w1 fun e w' => e = .returned (.int .i64 0) ∧ Below w1.heap.size w1 w')
    (CR : (∀ x ∈ xs, Wd x) → ∀ (B : Nat) (o : Value) (wr : World), wr.ownsRow B 43 4 o (2 * n' + 2 * n') (insR (puL xs ++ poL n')) → w.heap.size ≤ B → B ≤ wr.heap.size → Below w.heap.size w wr → Calls Try.prog 23 #[stV r0 r1 r2 r3 r4 r5 r6 r7 c z n v 0 (.slice ma mn mc), o] wr fun e w' => ∃ oa oc xa xn xc, e = .returned (.tuple #[ranV F (.slice oa n' oc) (.slice xa xn xc), .bool true]) ∧ Rd w' 1 (.slice oa n' oc) n' (F.out.map (Value.int .u8)) ∧ wr.grownBy w' o.ownBlock)
    (hF7 : (∀ x ∈ xs, Wd x) → F.r 7 = r7) (hF1 : (∀ x ∈ xs, Wd x) → F.r 1 = R1) (hFo : (∀ x ∈ xs, Wd x) → F.out = xs.reverse.map (· % 256)) (hR1 : 0 < n' → R1 = xs.getD 0 0) :
    Calls Try.prog 6 #[stV r0 r1 r2 r3 r4 r5 r6 r7 c z n v pc (.slice ma mn mc), lv] w fun e w' => e = .returned (.bool true) ∧ Below w.heap.size w w' := by
  obtain ⟨hxl, hmax, la, lc, rfl, hlc, hcell⟩ := hl.ints
  have HCW := Lib.hid CW; have HCR0 := Lib.hid CR; have HF7 := Lib.hid hF7; have HF1 := Lib.hid hF1; have HFO := Lib.hid hFo; have HR1 := Lib.hid hR1; have HXL := Lib.hid hxl; have HLN := Lib.hid hln; have HCELL := Lib.hid hcell
  have hgt : decide ((n' : Int) > 100) = false := by simp; omega
  clear CW CR hF7 hF1 hFo hR1 hl hmax hlc hcell hxl
  go_enter Try.func6, Try.ntmps6
  go_wp2_with (first | (go_at_call 20; refine (alive3 _).mono ?_; rintro e w1 ⟨rfl, hb1⟩; have HB1 := Lib.hid (Ext.trans (Ext.alloc (Below.refl w.heap.size w) _) hb1); have HS1 := Lib.hid ((Blk.new w 27 (stC r0 r1 r2 r3 r4 r5 r6 r7 c z n v pc (.slice ma mn mc))).keep hb1); clear hb1) | (refine wpList_load_row rfl 27 _ rfl w.heap.size rfl 27 (stC r0 r1 r2 r3 r4 r5 r6 r7 c z n v pc (.slice ma mn mc)) (0, 0) _ HS1.out Try.underlying27 rfl (by kernel_rfl) ?_) | (go_at_call 17; refine (HCW.out _ HB1.out).mono ?_; rintro e w2 ⟨rfl, hb2⟩; have HB2 := Lib.hid (Ext.trans HB1.out hb2); have HS2 := Lib.hid (HS1.out.keep hb2); obtain ⟨c12, f12⟩ := state_cell HS2.out 12 rfl; clear hb2))
  generalize hw3 : w2.setCell ⟨w.heap.size, 12, none⟩ (.int .i64 0) = w3
  have HS3 : Hid (Blk w3 w.heap.size 27 (stC r0 r1 r2 r3 r4 r5 r6 r7 c z n v 0 (.slice ma mn mc))) := by rw [← hw3]; exact HS2.out.set_ 12 _
  have HB3 : Hid (Below w.heap.size w w3) := by rw [← hw3]; exact Ext.setCell HB2.out (Nat.le_refl _) _
  have HLW : Hid (∀ wx, Below w3.heap.size w3 wx → Below w.heap.size w wx) := fun wx hx => Ext.trans HB3.out hx
  clear c12 f12 hw3 HS2 HS1 HB2 HB1
  go_loopw [5, 6, 25] (fun o u i wr => ∃ k : Nat, k ≤ n' ∧ i = .int .i64 k ∧ Hid (wr.ownsRow w3.heap.size 43 4 o (2 * k) (insR (puL (xs.take k)))) ∧ Hid (wr.ownsRow w3.heap.size 3 1 u k ((wantL xs k).map (Value.int .i64))) ∧ Hid (Below w3.heap.size w3 wr ∧ w3.heap.size ≤ wr.heap.size) ∧ Hid (∀ x ∈ xs.take k, Wd x)) (fun _ _ i _ => n' - (intOf i).toNat)
  case atStart => exact ⟨0, Nat.zero_le _, rfl, World.ownsRow_nil _ _ _ _, World.ownsRow_nil _ _ _ _, ⟨Below.refl _ _, Nat.le_refl _⟩, fun x hx => by simp at hx⟩
  case round =>
    obtain ⟨k, hk, rfl, HO0, HU0, hbw, HW⟩ := hrel
    obtain ⟨oa, oc, hov, HO1⟩ := own_slice2 HO0.out
    subst hov
    obtain ⟨ua, uc, huv, HU1⟩ := own_slice2 HU0.out
    subst huv
    have HO := Lib.hid HO1; have HU := Lib.hid HU1
    clear HO0 HU0 HO1 HU1
    have HK1 : Hid (2 * k + 2 ≤ 100000) := by show 2 * k + 2 ≤ 100000; omega
    have HK2 : Hid (k ≤ 100000000) := by show k ≤ 100000000; omega
    by_cases hlt : k < n'
    · obtain ⟨lb, lo, rfl, hc⟩ := HCELL.out (by omega)
      obtain ⟨X, hX⟩ : ∃ X, X = xs.getD k 0 := ⟨_, rfl⟩
      obtain ⟨Y, hY⟩ : ∃ Y, Y = xs.getD (n' - 1 - k) 0 := ⟨_, rfl⟩
      have cX0 := hc k hlt
      have cY0 := hc (n' - 1 - k) (by omega)
      rw [← hX] at cX0; rw [← hY] at cY0
      have HLB : Hid (lb < w.heap.size) := World.block_lt_of_cell? w ⟨lb, lo + k, none⟩ cX0
      have HLY := Lib.hid cY0
      have cX : wr.cell? ⟨lb, lo + k, none⟩ = some (.int .i64 X) := by rw [(bcell (HLW.out wr hbw.out.1)).1 _ _ HLB.out]; exact cX0
      have hidx : (n' : Int) - 1 - (k : Int) = ((n' - 1 - k : Nat) : Int) := by omega
      have HX := Lib.hid hX; have HY := Lib.hid hY
      clear hX hY cX0 cY0 hc
      by_cases hx0 : X < 0
      · go_wp2
        go_ret
        exact ⟨rfl, HLW.out _ hbw.out.1⟩
      by_cases hx1 : 65535 < X
      · go_wp2
        go_ret
        exact ⟨rfl, HLW.out _ hbw.out.1⟩
      go_wp2_with (first | (at_builtin; refine wpList_app_ins rfl _ _ rfl w3.heap.size (.slice oa (2 * k) oc) (2 * k) 2 (puL (xs.take k)) _ (pu X) #[.int .i64 2, .int .i64 0, .int .i64 0, .int .i64 X, .int .i64 28, .int .i64 0, .int .i64 0, .int .i64 0] rfl rfl (HO.out.alloc _) (Blk.new _ _ _) rfl rfl HK1.out (Nat.le_trans hbw.out.2 (Nat.le_of_lt (lt_alloc _ _))) ?_; intro a1 c1 wA hoA hgA hatA; have HOA := Lib.hid hoA; have HUA := Lib.hid (kept_alloc HU.out HO.out ne_int' hgA); have HBZ := low_alloc hbw.out.1 hbw.out.2 HO.out hgA; have HBA := Lib.hid HBZ.1; have HZA := Lib.hid HBZ.2; clear HBZ; have cY : wA.cell? ⟨lb, lo + (n' - 1 - k), none⟩ = some (.int .i64 Y) := (((bcell (HLW.out wA HBA.out)).1 _ _ HLB.out).trans HLY.out); clear hoA hgA hatA) | (at_builtin; refine wpList_app_int rfl _ _ rfl w3.heap.size ua k uc ((wantL xs k).map (Value.int .i64)) _ Y rfl rfl HUA.out rfl HK2.out HZA.out ?_; intro a2 c2 wB hoB hgB; have HUB := Lib.hid hoB; have HOB := Lib.hid (HOA.out.kept hgB (own_apart HOA.out HUA.out ne_int)); have HBB := Lib.hid (low_le HBA.out HZA.out hgB (own_low HUA.out)); have HZB := Lib.hid (Nat.le_trans HZA.out hgB.size); clear hoB hgB))
      go_roundw
      case rel =>
        refine ⟨k + 1, by omega, by go_num, ?_, ?_, ⟨HBB.out, HZB.out⟩, ?_⟩
        · have h := HOB.out
          rw [HX.out] at h
          rw [puL_next xs k (by rw [HXL.out]; omega), show 2 * (k + 1) = 2 * k + 2 by omega]; exact h
        · have h := HUB.out
          rw [HY.out] at h
          rw [wantL_next xs k (by rw [HXL.out]; omega), HXL.out, List.map_append]; exact h
        · intro x hx
          rw [List.take_add_one, List.mem_append] at hx
          rcases hx with hx | hx
          · exact HW.out x hx
          · have : x = X := by
              rw [List.getElem?_eq_getElem (by rw [HXL.out]; omega)] at hx
              rw [HX.out, List.getD_eq_getElem?_getD, List.getElem?_eq_getElem (by rw [HXL.out]; omega)]
              simpa using hx
            subst this
            exact ⟨by omega, by omega⟩
      case measure => simp [intOf]; omega
    · obtain rfl : k = n' := by omega
      have hall : ∀ x ∈ xs, Wd x := by have := HW.out; rw [← HXL.out, List.take_length] at this; exact this
      have HF7' := Lib.hid (HF7.out hall); have HF1' := Lib.hid (HF1.out hall); have HFO' := Lib.hid (HFO.out hall); have HCR := Lib.hid (HCR0.out hall)
      have hF7 : F.r 7 = r7 := HF7'.out
      have hF1 : F.r 1 = R1 := HF1'.out
      have HOx := HO.out; have HUx := HU.out
      rw [← HXL.out, List.take_length, HXL.out] at HOx
      rw [← HXL.out, wantL_all, HXL.out] at HUx
      have HOy := Lib.hid HOx; have HUy := Lib.hid HUx
      clear HOx HUx HO HU HW
      go_wp2
      go_loopw [5, 56] (fun o i wq => ∃ j : Nat, j ≤ k ∧ i = .int .i64 j ∧ Hid (wq.ownsRow w3.heap.size 43 4 o (2 * k + 2 * j) (insR (puL xs ++ poL j))) ∧ Hid (wq.ownsRow w3.heap.size 3 1 (.slice ua k uc) k (xs.reverse.map (Value.int .i64))) ∧ Hid (Below w3.heap.size w3 wq ∧ w3.heap.size ≤ wq.heap.size)) (fun _ i _ => k - (intOf i).toNat)
      case atStart => exact ⟨0, Nat.zero_le _, rfl, by have := HOy.out; show wr.ownsRow _ _ _ _ (2 * k + 2 * 0) (insR (puL xs ++ [])); rw [List.append_nil]; exact this, HUy.out, hbw.out⟩
      case round =>
        clear HOy HUy hbw HK1
        obtain ⟨j, hj, rfl, HO0, HU, hbw⟩ := hrel
        obtain ⟨oa, oc, hov, HO1⟩ := own_slice2 HO0.out
        subst hov
        have HO := Lib.hid HO1
        clear HO0 HO1
        have HK1 : Hid (2 * k + 2 * j + 2 ≤ 100000) := by show 2 * k + 2 * j + 2 ≤ 100000; omega
        have HSR : Hid (Blk _ w.heap.size 27 (stC r0 r1 r2 r3 r4 r5 r6 r7 c z n v 0 (.slice ma mn mc))) := HS3.out.below hbw.out.1 HS3.out.lt
        by_cases hjt : j < k
        · go_wp2_with (first | (at_builtin; refine wpList_app_ins rfl _ _ rfl w3.heap.size (.slice oa (2 * k + 2 * j) oc) (2 * k + 2 * j) 2 (puL xs ++ poL j) _ po #[.int .i64 29, .int .i64 1, .int .i64 0, .int .i64 0, .int .i64 30, .int .i64 0, .int .i64 1, .int .i64 0] rfl rfl (HO.out.alloc _) (Blk.new _ _ _) rfl rfl HK1.out (Nat.le_trans hbw.out.2 (Nat.le_of_lt (lt_alloc _ _))) ?_; intro a1 c1 wA hoA hgA hatA; have HOA := Lib.hid hoA; have HUA := Lib.hid (kept_alloc HU.out HO.out ne_int' hgA); have HBZ := low_alloc hbw.out.1 hbw.out.2 HO.out hgA; have HBA := Lib.hid HBZ.1; have HZA := Lib.hid HBZ.2; clear HBZ; clear hoA hgA hatA))
          go_roundw
          case rel =>
            refine ⟨j + 1, by omega, by go_num, ?_, HUA.out, ⟨HBA.out, HZA.out⟩⟩
            have h := HOA.out
            rw [show puL xs ++ poL (j + 1) = puL xs ++ poL j ++ po from (List.append_assoc ..).symm, show 2 * k + 2 * (j + 1) = 2 * k + 2 * j + 2 by omega]; exact h
          case measure => simp [intOf]; omega
        · obtain rfl : j = k := by omega
          have hrr : (r7 != r7) = false := by simp
          have nn : ((j : Int) != (j : Int)) = false := by simp
          go_wp2_with (first | (refine wpList_load_row rfl 27 _ rfl w.heap.size rfl 27 (stC r0 r1 r2 r3 r4 r5 r6 r7 c z n v 0 (.slice ma mn mc)) (0, 0) _ HSR.out Try.underlying27 rfl (by kernel_rfl) ?_) | (go_at_call 23; refine (HCR.out _ _ _ HO.out HB3.out.size hbw.out.2 (HLW.out _ hbw.out.1)).mono ?_; rintro e w4 ⟨ra, rc, xa, xn, xc, rfl, hm4, hg4⟩; have HOU4 := Lib.hid hm4; have HU4 := Lib.hid (HU.out.kept hg4 (own_apart HU.out HO.out ne_int')); have HS4 := Lib.hid (grown_keep HSR.out HO.out ne_state hg4); have HB4 := Lib.hid (low_le hbw.out.1 hbw.out.2 hg4 (own_low HO.out)); have HZ4 := Lib.hid (Nat.le_trans hbw.out.2 hg4.size); clear hg4 hm4) | (refine wpList_store_row rfl 30 _ _ rfl w4.heap.size (ranL F (.slice ra j rc) (.slice xa xn xc)).toArray rfl rfl 30 ranZc (Blk.new _ _ _) (by kernel_rfl) rfl (ranL_one _ _ _ _ _ _ _) ?_; generalize hw5 : (w4.alloc (Obj.cells ranZc 30)).setRow w4.heap.size (ranL F (.slice ra j rc) (.slice xa xn xc)).toArray = w5; have HB45 := Lib.hid ((by rw [← hw5]; exact Below.row (Ext.alloc (Below.refl _ _) _) (Nat.le_refl _) _ : Below w4.heap.size w4 w5)); have HA5 := Lib.hid ((by rw [← hw5]; exact (Blk.new w4 _ _).row _ : Blk w5 w4.heap.size 30 (ranL F (.slice ra j rc) (.slice xa xn xc)).toArray)); have HU5 := Lib.hid (ownsRow_below HU4.out HB45.out); have HO5 := Lib.hid (HOU4.out.below HB45.out); have HS5 := Lib.hid (HS4.out.keep HB45.out); have HB5 := Lib.hid (Below.trans HB4.out (HB45.out.mono HZ4.out)); have p6 : w5.cell? ⟨w4.heap.size, 6, none⟩ = some (.int .i64 R1) := ((ran_cell HA5.out 6 rfl).trans (by rw [hF1])); have p12 : w5.cell? ⟨w4.heap.size, 12, none⟩ = some (.int .i64 r7) := ((ran_cell HA5.out 12 rfl).trans (by rw [hF7])); have p2 : w5.cell? ⟨w4.heap.size, 2, none⟩ = some (.slice ra j rc) := ran_cell HA5.out 2 rfl; obtain ⟨s7, s7f⟩ := state_cell HS5.out 7 rfl; clear hw5))
          clear HOU4 HU4 HS4 HB4 HZ4 HB45 HS5 HO HU hbw HSR
          obtain ⟨hol, _, oba, obc, hob, _, hocell⟩ := HO5.out.ints
          have HRU := Rd.of_owns HU5.out (by unfold maxLen; omega)
          obtain ⟨hul, _, uba, ubc, hub, _, hucell⟩ := HRU.ints
          injection hob with hob1 _ hob3
          injection hub with hub1 _ hub3
          subst hob1; subst hob3; subst hub1; subst hub3
          have HOC := Lib.hid hocell; have HUC := Lib.hid hucell
          clear HO5 HU5 HRU hocell hucell
          have hw5 : Hid (Below w.heap.size w w5) := Ext.trans HB3.out HB5.out
          go_loopw [92] (fun i wz => ∃ q : Nat, q ≤ j ∧ i = .int .i64 q ∧ Hid (∃ m, wz = w5.drewN m)) (fun i _ => j - (intOf i).toNat)
          case atStart => exact ⟨0, Nat.zero_le _, rfl, ⟨0, rfl⟩⟩
          case round =>
            obtain ⟨q, hq, rfl, hwz⟩ := hrel
            obtain ⟨m, rfl⟩ := hwz.out
            clear hwz
            by_cases hqt : q < j
            · obtain ⟨ob, oo, rfl, hoc⟩ := HOC.out (by omega)
              obtain ⟨ub, uo, rfl, huc⟩ := HUC.out (by omega)
              obtain ⟨Y, hY⟩ : ∃ Y, Y = xs.reverse.getD q 0 := ⟨_, rfl⟩
              have hYw : Wd Y := by
                rw [hY, List.getD_eq_getElem?_getD, List.getElem?_eq_getElem (by rw [List.length_reverse, HXL.out]; omega)]
                exact hall _ (List.mem_reverse.1 (List.getElem_mem _))
              obtain ⟨Z, hZ⟩ : ∃ Z, Z = Y % 256 := ⟨_, rfl⟩
              have co : w5.cell? ⟨ob, oo + q, none⟩ = some (.int .u8 Z) := by
                have := hoc q hqt
                rw [HFO'.out, List.getD_eq_getElem?_getD, List.getElem?_map] at this
                rw [this, hZ, hY, List.getD_eq_getElem?_getD, List.getElem?_eq_getElem (by rw [List.length_reverse, HXL.out]; omega)]; rfl
              have cu : w5.cell? ⟨ub, uo + q, none⟩ = some (.int .i64 Y) := by
                have := huc q hqt
                rw [this, hY]
              unfold Wd at hYw
              have hmod : Y.tmod 256 = Z := by rw [hZ, Int.tmod_eq_emod_of_nonneg hYw.1]
              have hsg : IntKind.i64.signed = true := rfl
              have hw64 : IntKind.i64.wrap Z = Z := by rw [IntKind.wrap_i64]; omega
              have hzz : (Z != Z) = false := by simp
              have HYY := Lib.hid hY; have HZZ := Lib.hid hZ
              clear hY hZ hoc huc
              go_wp2
              refine Rg.wp_region [] (by kernel_rfl) (by kernel_rfl) ?_
              repeat (first | (refine Rg.wpL_nil ?_) | (refine Rg.wpL_skip rfl ?_; simp only [Act.put, List.setIfInBounds_toArray, List.set_cons_zero, List.set_cons_succ]) | (refine Rg.wpL_q rfl rfl (fun K hK => ?_); go_big_quiet_op; refine hK _ ?_; clear hK K) | (refine Rg.wpL_w rfl rfl (fun K hK => ?_); go_wp2_with (first | fail | fail)))
              go_wp2
              go_roundw
              case rel => exact ⟨q + 1, by omega, by go_num, ⟨m + 1, rfl⟩⟩
              case measure => simp [intOf]; omega
            · obtain rfl : q = j := by omega
              go_wp2
              generalize hw6 : w5.drewN m = w6
              have HB6 : Hid (Below w5.heap.size w5 w6) := by rw [← hw6]; exact below_drewN (Below.refl _ _) m
              clear hw6
              have HA6 := Lib.hid (HA5.out.keep HB6.out)
              clear HA5 p6 p12 p2 s7 s7f
              by_cases hq0 : q = 0
              · have hz : ((q : Int) == 0) = true := by simp [hq0]
                clear hq0
                apply Ix.wp_region 16 (fun wi => Hid (Below w6.heap.size w6 wi)) (Ix.vk [(Ix.kis _), (Ix.kis (.int .i64 (q : Int))), (Ix.kis (.bool true)), (Ix.kis (.bool true)), (Ix.kis undef), (Ix.kis undef), (Ix.kis undef), (Ix.kis undef), (Ix.kis undef), (Ix.kis undef), (Ix.kis undef), (Ix.kis undef), (Ix.kis undef), (Ix.kis undef), (Ix.kis undef), (Ix.kis (.bool true))]) (fun _ => false) (by kernel_rfl) (by kernel_rfl) (by kernel_rfl) (fun _ _ h hb => h.out.trans (hb.mono h.out.size)) (Ix.vk_keeps _) (Ix.not_al _) (Below.refl _ _)
                case step =>
                  refine Ix.steps_cons (n := 15) (i := 0) (j := 1) rfl rfl (Ix.stepI_ofN [] (by kernel_rfl) (fun wi HB => ?_)) ?_
                  (· (refine Iv.askN_nil ?_; (try simp only [Act.put, List.setIfInBounds_toArray, List.set_cons_zero, List.set_cons_succ]); refine Ix.goI_yes rfl rfl ?_; intro K hK; (try simp only [Act.put, List.setIfInBounds_toArray, List.set_cons_zero, List.set_cons_succ] at hK); go_wp2_with (first | fail); exact hK _ _ (Below.refl _ _) rfl))
                  refine Ix.steps_cons (n := 14) (i := 1) (j := 2) rfl rfl (Ix.stepI_ofN [(0, some 108)] (by kernel_rfl) (fun wi HB => ?_)) ?_
                  (· (refine Iv.askN_cons ?_; rintro _ rfl; refine Iv.askN_nil ?_; (try simp only [Act.put, List.setIfInBounds_toArray, List.set_cons_zero, List.set_cons_succ]); refine Ix.goI_yes rfl rfl ?_; intro K hK; (try simp only [Act.put, List.setIfInBounds_toArray, List.set_cons_zero, List.set_cons_succ] at hK); go_wp2_with (first | fail); exact hK _ _ (Below.refl _ _) rfl))
                  refine Ix.steps_cons (n := 13) (i := 2) (j := 3) rfl rfl (Ix.stepI_ofN [(1, some 109)] (by kernel_rfl) (fun wi HB => ?_)) ?_
                  (· (refine Iv.askN_cons ?_; rintro _ rfl; refine Iv.askN_nil ?_; (try simp only [Act.put, List.setIfInBounds_toArray, List.set_cons_zero, List.set_cons_succ]); refine Ix.goI_yes rfl rfl ?_; intro K hK; (try simp only [Act.put, List.setIfInBounds_toArray, List.set_cons_zero, List.set_cons_succ] at hK); go_wp2_with (first | fail); exact hK _ _ (Below.refl _ _) rfl))
                  refine Ix.steps_cons (n := 12) (i := 3) (j := 4) rfl rfl (Ix.stepI_ofN [(2, some 110)] (by kernel_rfl) (fun wi HB => ?_)) ?_
                  (· (refine Iv.askN_cons ?_; rintro _ rfl; refine Iv.askN_nil ?_; (try simp only [Act.put, List.setIfInBounds_toArray, List.set_cons_zero, List.set_cons_succ]); refine Ix.goI_yes rfl rfl ?_; intro K hK; (try simp only [Act.put, List.setIfInBounds_toArray, List.set_cons_zero, List.set_cons_succ] at hK); go_wp2_with (first | fail); exact hK _ _ (Below.refl _ _) rfl))
                  refine Ix.steps_cons (n := 11) (i := 4) (j := 5) rfl rfl (Ix.stepI_ofN [(3, some 111)] (by kernel_rfl) (fun wi HB => ?_)) ?_
                  (· (refine Iv.askN_cons ?_; rintro _ rfl; refine Iv.askN_nil ?_; (try simp only [Act.put, List.setIfInBounds_toArray, List.set_cons_zero, List.set_cons_succ]); exact Ix.goI_no rfl rfl rfl))
                  refine Ix.steps_cons (n := 10) (i := 5) (j := 6) rfl rfl (Ix.stepI_ofN [(3, some 111), (4, some 112)] (by kernel_rfl) (fun wi HB => ?_)) ?_
                  (· (refine Iv.askN_cons ?_; rintro _ rfl; refine Iv.askN_cons ?_; rintro _ rfl; refine Iv.askN_nil ?_; (try simp only [Act.put, List.setIfInBounds_toArray, List.set_cons_zero, List.set_cons_succ]); exact Ix.goI_no rfl rfl rfl))
                  refine Ix.steps_cons (n := 9) (i := 6) (j := 7) rfl rfl (Ix.stepI_ofN [(3, some 111), (5, some 113)] (by kernel_rfl) (fun wi HB => ?_)) ?_
                  (· (refine Iv.askN_cons ?_; rintro _ rfl; refine Iv.askN_cons ?_; rintro _ rfl; refine Iv.askN_nil ?_; (try simp only [Act.put, List.setIfInBounds_toArray, List.set_cons_zero, List.set_cons_succ]); exact Ix.goI_no rfl rfl rfl))
                  refine Ix.steps_cons (n := 8) (i := 7) (j := 8) rfl rfl (Ix.stepI_ofN [(3, some 111), (6, some 114)] (by kernel_rfl) (fun wi HB => ?_)) ?_
                  (· (refine Iv.askN_cons ?_; rintro _ rfl; refine Iv.askN_cons ?_; rintro _ rfl; refine Iv.askN_nil ?_; (try simp only [Act.put, List.setIfInBounds_toArray, List.set_cons_zero, List.set_cons_succ]); exact Ix.goI_no rfl rfl rfl))
                  refine Ix.steps_cons (n := 7) (i := 8) (j := 9) rfl rfl (Ix.stepI_ofN [(3, some 111)] (by kernel_rfl) (fun wi HB => ?_)) ?_
                  (· (refine Iv.askN_cons ?_; rintro _ rfl; refine Iv.askN_nil ?_; (try simp only [Act.put, List.setIfInBounds_toArray, List.set_cons_zero, List.set_cons_succ]); exact Ix.goI_no rfl rfl rfl))
                  refine Ix.steps_cons (n := 6) (i := 9) (j := 10) rfl rfl (Ix.stepI_ofN [(3, some 111)] (by kernel_rfl) (fun wi HB => ?_)) ?_
                  (· (refine Iv.askN_cons ?_; rintro _ rfl; refine Iv.askN_nil ?_; (try simp only [Act.put, List.setIfInBounds_toArray, List.set_cons_zero, List.set_cons_succ]); exact Ix.goI_no rfl rfl rfl))
                  refine Ix.steps_cons (n := 5) (i := 10) (j := 11) rfl rfl (Ix.stepI_ofN [(3, some 111), (9, some 117)] (by kernel_rfl) (fun wi HB => ?_)) ?_
                  (· (refine Iv.askN_cons ?_; rintro _ rfl; refine Iv.askN_cons ?_; rintro _ rfl; refine Iv.askN_nil ?_; (try simp only [Act.put, List.setIfInBounds_toArray, List.set_cons_zero, List.set_cons_succ]); exact Ix.goI_no rfl rfl rfl))
                  refine Ix.steps_cons (n := 4) (i := 11) (j := 12) rfl rfl (Ix.stepI_ofN [(3, some 111), (10, some 118)] (by kernel_rfl) (fun wi HB => ?_)) ?_
                  (· (refine Iv.askN_cons ?_; rintro _ rfl; refine Iv.askN_cons ?_; rintro _ rfl; refine Iv.askN_nil ?_; (try simp only [Act.put, List.setIfInBounds_toArray, List.set_cons_zero, List.set_cons_succ]); exact Ix.goI_no rfl rfl rfl))
                  refine Ix.steps_cons (n := 3) (i := 12) (j := 13) rfl rfl (Ix.stepI_ofN [(3, some 111), (8, some 116), (11, some 119)] (by kernel_rfl) (fun wi HB => ?_)) ?_
                  (· (refine Iv.askN_cons ?_; rintro _ rfl; refine Iv.askN_cons ?_; rintro _ rfl; refine Iv.askN_cons ?_; rintro _ rfl; refine Iv.askN_nil ?_; (try simp only [Act.put, List.setIfInBounds_toArray, List.set_cons_zero, List.set_cons_succ]); exact Ix.goI_no rfl rfl rfl))
                  refine Ix.steps_cons (n := 2) (i := 13) (j := 14) rfl rfl (Ix.stepI_ofN [(3, some 111), (12, some 120)] (by kernel_rfl) (fun wi HB => ?_)) ?_
                  (· (refine Iv.askN_cons ?_; rintro _ rfl; refine Iv.askN_cons ?_; rintro _ rfl; refine Iv.askN_nil ?_; (try simp only [Act.put, List.setIfInBounds_toArray, List.set_cons_zero, List.set_cons_succ]); exact Ix.goI_no rfl rfl rfl))
                  refine Ix.steps_cons (n := 1) (i := 14) (j := 15) rfl rfl (Ix.stepI_ofN [(3, some 111), (7, some 115), (13, some 121)] (by kernel_rfl) (fun wi HB => ?_)) ?_
                  (· (refine Iv.askN_cons ?_; rintro _ rfl; refine Iv.askN_cons ?_; rintro _ rfl; refine Iv.askN_cons ?_; rintro _ rfl; refine Iv.askN_nil ?_; (try simp only [Act.put, List.setIfInBounds_toArray, List.set_cons_zero, List.set_cons_succ]); exact Ix.goI_no rfl rfl rfl))
                  refine Ix.steps_cons (n := 0) (i := 15) (j := 16) rfl rfl (Ix.stepI_ofN [(3, some 111), (14, some 122)] (by kernel_rfl) (fun wi HB => ?_)) ?_
                  (· (refine Iv.askN_cons ?_; rintro _ rfl; refine Iv.askN_cons ?_; rintro _ rfl; refine Iv.askN_nil ?_; (try simp only [Act.put, List.setIfInBounds_toArray, List.set_cons_zero, List.set_cons_succ]); refine Ix.goI_yes rfl rfl ?_; intro K hK; (try simp only [Act.put, List.setIfInBounds_toArray, List.set_cons_zero, List.set_cons_succ] at hK); go_wp2_with (first | fail); exact hK _ _ (Below.refl _ _) rfl))
                  exact Ix.steps_nil
                intro vsf wf HF hdf
                refine Ix.allV_cons (n := 15) (j := 0) (k := 1) rfl rfl ?_; rintro _ _ rfl; refine Ix.allV_cons (n := 14) (j := 1) (k := 2) rfl rfl ?_; rintro _ _ rfl; refine Ix.allV_cons (n := 13) (j := 2) (k := 3) rfl rfl ?_; rintro _ _ rfl; refine Ix.allV_cons (n := 12) (j := 3) (k := 4) rfl rfl ?_; rintro _ _ rfl; refine Ix.allV_cons (n := 11) (j := 4) (k := 5) rfl rfl ?_; rintro _ _ rfl; refine Ix.allV_cons (n := 10) (j := 5) (k := 6) rfl rfl ?_; rintro _ _ rfl; refine Ix.allV_cons (n := 9) (j := 6) (k := 7) rfl rfl ?_; rintro _ _ rfl; refine Ix.allV_cons (n := 8) (j := 7) (k := 8) rfl rfl ?_; rintro _ _ rfl; refine Ix.allV_cons (n := 7) (j := 8) (k := 9) rfl rfl ?_; rintro _ _ rfl; refine Ix.allV_cons (n := 6) (j := 9) (k := 10) rfl rfl ?_; rintro _ _ rfl; refine Ix.allV_cons (n := 5) (j := 10) (k := 11) rfl rfl ?_; rintro _ _ rfl; refine Ix.allV_cons (n := 4) (j := 11) (k := 12) rfl rfl ?_; rintro _ _ rfl; refine Ix.allV_cons (n := 3) (j := 12) (k := 13) rfl rfl ?_; rintro _ _ rfl; refine Ix.allV_cons (n := 2) (j := 13) (k := 14) rfl rfl ?_; rintro _ _ rfl; refine Ix.allV_cons (n := 1) (j := 14) (k := 15) rfl rfl ?_; rintro _ _ rfl; refine Ix.allV_cons (n := 0) (j := 15) (k := 16) rfl rfl ?_; rintro _ _ rfl
                refine Ix.allV_nil ?_
                (try simp only [Act.put, List.setIfInBounds_toArray, List.set_cons_zero, List.set_cons_succ, List.drop_succ_cons, List.drop_zero])
                go_wp2_with (first | fail)
                refine Ix.only ?_
                go_wp2
                go_ret
                exact ⟨rfl, Ext.trans (Ext.trans hw5.out HB6.out) HF.out⟩
              · have hz : ((q : Int) == 0) = false := by simp; omega
                obtain ⟨ub, uo, rfl, huc⟩ := HUC.out (by omega)
                have hix : (q : Int) - 1 = ((q - 1 : Nat) : Int) := by omega
                have hR : (R1 == R1) = true := by simp
                have cu : w6.cell? ⟨ub, uo + (q - 1), none⟩ = some (.int .i64 R1) := by
                  have h1 := huc (q - 1) (by omega)
                  have hlt := World.block_lt_of_cell? w5 ⟨ub, uo + (q - 1), none⟩ h1
                  rw [(bcell HB6.out).1 _ _ hlt, h1, HR1.out (by omega)]
                  congr 2
                  rw [List.getD_eq_getElem?_getD, List.getD_eq_getElem?_getD, List.getElem?_eq_getElem (by rw [List.length_reverse, HXL.out]; omega), List.getElem_reverse, List.getElem?_eq_getElem (by rw [HXL.out]; omega)]
                  simp [HXL.out]
                have HCU := Lib.hid cu
                clear huc cu
                apply Ix.wp_region 16 (fun wi => Hid (Below w6.heap.size w6 wi)) (Ix.vk [(Ix.kis _), (Ix.kis (.int .i64 (q : Int))), (Ix.kis (.bool false)), (Ix.kis (.bool false)), (Ix.kis _), (Ix.kis _), (Ix.kis _), (Ix.kis (.int .i64 R1)), (Ix.kis _), (Ix.kis _), (Ix.kis (.int .i64 (q : Int))), (Ix.kis (.int .i64 ((q - 1 : Nat) : Int))), (Ix.kis (.pointer (some ⟨ub, uo + (q - 1), none⟩))), (Ix.kis (.int .i64 R1)), (Ix.kis (.bool true)), (Ix.kis (.bool true))]) (fun _ => false) (by kernel_rfl) (by kernel_rfl) (by kernel_rfl) (fun _ _ h hb => h.out.trans (hb.mono h.out.size)) (Ix.vk_keeps _) (Ix.not_al _) (Below.refl _ _)
                case step =>
                  refine Ix.steps_cons (n := 15) (i := 0) (j := 1) rfl rfl (Ix.stepI_ofN [] (by kernel_rfl) (fun wi HB => ?_)) ?_
                  (· (refine Iv.askN_nil ?_; (try simp only [Act.put, List.setIfInBounds_toArray, List.set_cons_zero, List.set_cons_succ]); refine Ix.goI_yes rfl rfl ?_; intro K hK; (try simp only [Act.put, List.setIfInBounds_toArray, List.set_cons_zero, List.set_cons_succ] at hK); go_wp2_with (first | fail); exact hK _ _ (Below.refl _ _) rfl))
                  refine Ix.steps_cons (n := 14) (i := 1) (j := 2) rfl rfl (Ix.stepI_ofN [(0, some 108)] (by kernel_rfl) (fun wi HB => ?_)) ?_
                  (· (refine Iv.askN_cons ?_; rintro _ rfl; refine Iv.askN_nil ?_; (try simp only [Act.put, List.setIfInBounds_toArray, List.set_cons_zero, List.set_cons_succ]); refine Ix.goI_yes rfl rfl ?_; intro K hK; (try simp only [Act.put, List.setIfInBounds_toArray, List.set_cons_zero, List.set_cons_succ] at hK); go_wp2_with (first | fail); exact hK _ _ (Below.refl _ _) rfl))
                  refine Ix.steps_cons (n := 13) (i := 2) (j := 3) rfl rfl (Ix.stepI_ofN [(1, some 109)] (by kernel_rfl) (fun wi HB => ?_)) ?_
                  (· (refine Iv.askN_cons ?_; rintro _ rfl; refine Iv.askN_nil ?_; (try simp only [Act.put, List.setIfInBounds_toArray, List.set_cons_zero, List.set_cons_succ]); refine Ix.goI_yes rfl rfl ?_; intro K hK; (try simp only [Act.put, List.setIfInBounds_toArray, List.set_cons_zero, List.set_cons_succ] at hK); go_wp2_with (first | fail); exact hK _ _ (Below.refl _ _) rfl))
                  refine Ix.steps_cons (n := 12) (i := 3) (j := 4) rfl rfl (Ix.stepI_ofN [(2, some 110)] (by kernel_rfl) (fun wi HB => ?_)) ?_
                  (· (refine Iv.askN_cons ?_; rintro _ rfl; refine Iv.askN_nil ?_; (try simp only [Act.put, List.setIfInBounds_toArray, List.set_cons_zero, List.set_cons_succ]); refine Ix.goI_yes rfl rfl ?_; intro K hK; (try simp only [Act.put, List.setIfInBounds_toArray, List.set_cons_zero, List.set_cons_succ] at hK); go_wp2_with (first | fail); exact hK _ _ (Below.refl _ _) rfl))
                  refine Ix.steps_cons (n := 11) (i := 4) (j := 5) rfl rfl (Ix.stepI_ofN [(3, some 111)] (by kernel_rfl) (fun wi HB => ?_)) ?_
                  (· (refine Iv.askN_cons ?_; rintro _ rfl; refine Iv.askN_nil ?_; (try simp only [Act.put, List.setIfInBounds_toArray, List.set_cons_zero, List.set_cons_succ]); refine Ix.goI_yes rfl rfl ?_; intro K hK; (try simp only [Act.put, List.setIfInBounds_toArray, List.set_cons_zero, List.set_cons_succ] at hK); go_wp2_with (first | fail); exact hK _ _ (Below.refl _ _) rfl))
                  refine Ix.steps_cons (n := 10) (i := 5) (j := 6) rfl rfl (Ix.stepI_ofN [(3, some 111), (4, some 112)] (by kernel_rfl) (fun wi HB => ?_)) ?_
                  (· (refine Iv.askN_cons ?_; rintro _ rfl; refine Iv.askN_cons ?_; rintro _ rfl; refine Iv.askN_nil ?_; (try simp only [Act.put, List.setIfInBounds_toArray, List.set_cons_zero, List.set_cons_succ]); refine Ix.goI_yes rfl rfl ?_; intro K hK; (try simp only [Act.put, List.setIfInBounds_toArray, List.set_cons_zero, List.set_cons_succ] at hK); go_wp2_with (first | fail); exact hK _ _ (Below.refl _ _) rfl))
                  refine Ix.steps_cons (n := 9) (i := 6) (j := 7) rfl rfl (Ix.stepI_ofN [(3, some 111), (5, some 113)] (by kernel_rfl) (fun wi HB => ?_)) ?_
                  (· (refine Iv.askN_cons ?_; rintro _ rfl; refine Iv.askN_cons ?_; rintro _ rfl; refine Iv.askN_nil ?_; (try simp only [Act.put, List.setIfInBounds_toArray, List.set_cons_zero, List.set_cons_succ]); refine Ix.goI_yes rfl rfl ?_; intro K hK; (try simp only [Act.put, List.setIfInBounds_toArray, List.set_cons_zero, List.set_cons_succ] at hK); go_wp2_with (first | fail); exact hK _ _ (Below.refl _ _) rfl))
                  refine Ix.steps_cons (n := 8) (i := 7) (j := 8) rfl rfl (Ix.stepI_ofN [(3, some 111), (6, some 114)] (by kernel_rfl) (fun wi HB => ?_)) ?_
                  (· (refine Iv.askN_cons ?_; rintro _ rfl; refine Iv.askN_cons ?_; rintro _ rfl; refine Iv.askN_nil ?_; have k7 : wi.cell? ⟨w4.heap.size, 6, none⟩ = some (.int .i64 R1) := ((ran_cell (HA6.out.keep HB.out) 6 rfl).trans (by rw [hF1])); (try simp only [Act.put, List.setIfInBounds_toArray, List.set_cons_zero, List.set_cons_succ]); refine Ix.goI_yes rfl rfl ?_; intro K hK; (try simp only [Act.put, List.setIfInBounds_toArray, List.set_cons_zero, List.set_cons_succ] at hK); go_wp2_with (first | fail); exact hK _ _ (Below.refl _ _) rfl))
                  refine Ix.steps_cons (n := 7) (i := 8) (j := 9) rfl rfl (Ix.stepI_ofN [(3, some 111)] (by kernel_rfl) (fun wi HB => ?_)) ?_
                  (· (refine Iv.askN_cons ?_; rintro _ rfl; refine Iv.askN_nil ?_; (try simp only [Act.put, List.setIfInBounds_toArray, List.set_cons_zero, List.set_cons_succ]); refine Ix.goI_yes rfl rfl ?_; intro K hK; (try simp only [Act.put, List.setIfInBounds_toArray, List.set_cons_zero, List.set_cons_succ] at hK); go_wp2_with (first | fail); exact hK _ _ (Below.refl _ _) rfl))
                  refine Ix.steps_cons (n := 6) (i := 9) (j := 10) rfl rfl (Ix.stepI_ofN [(3, some 111)] (by kernel_rfl) (fun wi HB => ?_)) ?_
                  (· (refine Iv.askN_cons ?_; rintro _ rfl; refine Iv.askN_nil ?_; (try simp only [Act.put, List.setIfInBounds_toArray, List.set_cons_zero, List.set_cons_succ]); refine Ix.goI_yes rfl rfl ?_; intro K hK; (try simp only [Act.put, List.setIfInBounds_toArray, List.set_cons_zero, List.set_cons_succ] at hK); go_wp2_with (first | fail); exact hK _ _ (Below.refl _ _) rfl))
                  refine Ix.steps_cons (n := 5) (i := 10) (j := 11) rfl rfl (Ix.stepI_ofN [(3, some 111), (9, some 117)] (by kernel_rfl) (fun wi HB => ?_)) ?_
                  (· (refine Iv.askN_cons ?_; rintro _ rfl; refine Iv.askN_cons ?_; rintro _ rfl; refine Iv.askN_nil ?_; (try simp only [Act.put, List.setIfInBounds_toArray, List.set_cons_zero, List.set_cons_succ]); refine Ix.goI_yes rfl rfl ?_; intro K hK; (try simp only [Act.put, List.setIfInBounds_toArray, List.set_cons_zero, List.set_cons_succ] at hK); go_wp2_with (first | fail); exact hK _ _ (Below.refl _ _) rfl))
                  refine Ix.steps_cons (n := 4) (i := 11) (j := 12) rfl rfl (Ix.stepI_ofN [(3, some 111), (10, some 118)] (by kernel_rfl) (fun wi HB => ?_)) ?_
                  (· (refine Iv.askN_cons ?_; rintro _ rfl; refine Iv.askN_cons ?_; rintro _ rfl; refine Iv.askN_nil ?_; (try simp only [Act.put, List.setIfInBounds_toArray, List.set_cons_zero, List.set_cons_succ]); refine Ix.goI_yes rfl rfl ?_; intro K hK; (try simp only [Act.put, List.setIfInBounds_toArray, List.set_cons_zero, List.set_cons_succ] at hK); go_wp2_with (first | fail); exact hK _ _ (Below.refl _ _) rfl))
                  refine Ix.steps_cons (n := 3) (i := 12) (j := 13) rfl rfl (Ix.stepI_ofN [(3, some 111), (8, some 116), (11, some 119)] (by kernel_rfl) (fun wi HB => ?_)) ?_
                  (· (refine Iv.askN_cons ?_; rintro _ rfl; refine Iv.askN_cons ?_; rintro _ rfl; refine Iv.askN_cons ?_; rintro _ rfl; refine Iv.askN_nil ?_; (try simp only [Act.put, List.setIfInBounds_toArray, List.set_cons_zero, List.set_cons_succ]); refine Ix.goI_yes rfl rfl ?_; intro K hK; (try simp only [Act.put, List.setIfInBounds_toArray, List.set_cons_zero, List.set_cons_succ] at hK); go_wp2_with (first | fail); exact hK _ _ (Below.refl _ _) rfl))
                  refine Ix.steps_cons (n := 2) (i := 13) (j := 14) rfl rfl (Ix.stepI_ofN [(3, some 111), (12, some 120)] (by kernel_rfl) (fun wi HB => ?_)) ?_
                  (· (refine Iv.askN_cons ?_; rintro _ rfl; refine Iv.askN_cons ?_; rintro _ rfl; refine Iv.askN_nil ?_; have k13 : wi.cell? ⟨ub, uo + (q - 1), none⟩ = some (.int .i64 R1) := (((bcell HB.out).1 _ _ (World.block_lt_of_cell? w6 ⟨ub, uo + (q - 1), none⟩ HCU.out)).trans HCU.out); (try simp only [Act.put, List.setIfInBounds_toArray, List.set_cons_zero, List.set_cons_succ]); refine Ix.goI_yes rfl rfl ?_; intro K hK; (try simp only [Act.put, List.setIfInBounds_toArray, List.set_cons_zero, List.set_cons_succ] at hK); go_wp2_with (first | fail); exact hK _ _ (Below.refl _ _) rfl))
                  refine Ix.steps_cons (n := 1) (i := 14) (j := 15) rfl rfl (Ix.stepI_ofN [(3, some 111), (7, some 115), (13, some 121)] (by kernel_rfl) (fun wi HB => ?_)) ?_
                  (· (refine Iv.askN_cons ?_; rintro _ rfl; refine Iv.askN_cons ?_; rintro _ rfl; refine Iv.askN_cons ?_; rintro _ rfl; refine Iv.askN_nil ?_; (try simp only [Act.put, List.setIfInBounds_toArray, List.set_cons_zero, List.set_cons_succ]); refine Ix.goI_yes rfl rfl ?_; intro K hK; (try simp only [Act.put, List.setIfInBounds_toArray, List.set_cons_zero, List.set_cons_succ] at hK); go_wp2_with (first | fail); exact hK _ _ (Below.refl _ _) rfl))
                  refine Ix.steps_cons (n := 0) (i := 15) (j := 16) rfl rfl (Ix.stepI_ofN [(3, some 111), (14, some 122)] (by kernel_rfl) (fun wi HB => ?_)) ?_
                  (· (refine Iv.askN_cons ?_; rintro _ rfl; refine Iv.askN_cons ?_; rintro _ rfl; refine Iv.askN_nil ?_; (try simp only [Act.put, List.setIfInBounds_toArray, List.set_cons_zero, List.set_cons_succ]); refine Ix.goI_yes rfl rfl ?_; intro K hK; (try simp only [Act.put, List.setIfInBounds_toArray, List.set_cons_zero, List.set_cons_succ] at hK); go_wp2_with (first | fail); exact hK _ _ (Below.refl _ _) rfl))
                  exact Ix.steps_nil
                intro vsf wf HF hdf
                refine Ix.allV_cons (n := 15) (j := 0) (k := 1) rfl rfl ?_; rintro _ _ rfl; refine Ix.allV_cons (n := 14) (j := 1) (k := 2) rfl rfl ?_; rintro _ _ rfl; refine Ix.allV_cons (n := 13) (j := 2) (k := 3) rfl rfl ?_; rintro _ _ rfl; refine Ix.allV_cons (n := 12) (j := 3) (k := 4) rfl rfl ?_; rintro _ _ rfl; refine Ix.allV_cons (n := 11) (j := 4) (k := 5) rfl rfl ?_; rintro _ _ rfl; refine Ix.allV_cons (n := 10) (j := 5) (k := 6) rfl rfl ?_; rintro _ _ rfl; refine Ix.allV_cons (n := 9) (j := 6) (k := 7) rfl rfl ?_; rintro _ _ rfl; refine Ix.allV_cons (n := 8) (j := 7) (k := 8) rfl rfl ?_; rintro _ _ rfl; refine Ix.allV_cons (n := 7) (j := 8) (k := 9) rfl rfl ?_; rintro _ _ rfl; refine Ix.allV_cons (n := 6) (j := 9) (k := 10) rfl rfl ?_; rintro _ _ rfl; refine Ix.allV_cons (n := 5) (j := 10) (k := 11) rfl rfl ?_; rintro _ _ rfl; refine Ix.allV_cons (n := 4) (j := 11) (k := 12) rfl rfl ?_; rintro _ _ rfl; refine Ix.allV_cons (n := 3) (j := 12) (k := 13) rfl rfl ?_; rintro _ _ rfl; refine Ix.allV_cons (n := 2) (j := 13) (k := 14) rfl rfl ?_; rintro _ _ rfl; refine Ix.allV_cons (n := 1) (j := 14) (k := 15) rfl rfl ?_; rintro _ _ rfl; refine Ix.allV_cons (n := 0) (j := 15) (k := 16) rfl rfl ?_; rintro _ _ rfl
                refine Ix.allV_nil ?_
                (try simp only [Act.put, List.setIfInBounds_toArray, List.set_cons_zero, List.set_cons_succ, List.drop_succ_cons, List.drop_zero])
                go_wp2_with (first | fail)
                refine Ix.only ?_
                go_wp2
                go_ret
                exact ⟨rfl, Ext.trans (Ext.trans hw5.out HB6.out) HF.out⟩
set_option maxHeartbeats 8000000 in
theorem stack_none (ma : Option Addr) (mn mc : Nat) (r0 r1 r2 r3 r4 r5 r6 r7 pc E1 : Int) (c z n v : Bool) (lv : Value) (w : World) (h0 : (E1 != 0) = true)
    (CW : ∀ w1 : World, Below w.heap.size w w1 → Calls Try.prog 17 #[stV r0 r1 r2 r3 r4 r5 r6 r7 c z n v pc (.slice ma mn mc)] w1 fun e w' => e = .returned (.int .i64 E1) ∧ Below w1.heap.size w1 w') :
    Calls Try.prog 6 #[stV r0 r1 r2 r3 r4 r5 r6 r7 c z n v pc (.slice ma mn mc), lv] w fun e w' => e = .returned (.bool true) ∧ Below w.heap.size w w' := by
  have HCW := Lib.hid CW
  clear CW
  go_enter Try.func6, Try.ntmps6
  go_wp2_with (first | (go_at_call 20; refine (alive3 _).mono ?_; rintro e w1 ⟨rfl, hb1⟩; have HB1 := Lib.hid (Ext.trans (Ext.alloc (Below.refl w.heap.size w) _) hb1); have HS1 := Lib.hid ((Blk.new w 27 (stC r0 r1 r2 r3 r4 r5 r6 r7 c z n v pc (.slice ma mn mc))).keep hb1); clear hb1) | (refine wpList_load_row rfl 27 _ rfl w.heap.size rfl 27 (stC r0 r1 r2 r3 r4 r5 r6 r7 c z n v pc (.slice ma mn mc)) (0, 0) _ HS1.out Try.underlying27 rfl (by kernel_rfl) ?_) | (go_at_call 17; refine (HCW.out _ HB1.out).mono ?_; rintro e w2 ⟨rfl, hb2⟩; have HB2 := Lib.hid (Ext.trans HB1.out hb2); have HS2 := Lib.hid (HS1.out.keep hb2); obtain ⟨c12, f12⟩ := state_cell HS2.out 12 rfl; clear hb2))
  go_ret
  exact ⟨rfl, HB2.out⟩
set_option maxHeartbeats 8000000 in
theorem stack_long (ma la : Option Addr) (mn mc lc : Nat) (r0 r1 r2 r3 r4 r5 r6 r7 pc : Int) (c z n v : Bool) (n' : Nat) (w : World) (hgt : decide ((n' : Int) > 100) = true)
    (CW : ∀ w1 : World, Below w.heap.size w w1 → Calls Try.prog 17 #[stV r0 r1 r2 r3 r4 r5 r6 r7 c z n v pc (.slice ma mn mc)] w1 fun e w' => e = .returned (.int .i64 0) ∧ Below w1.heap.size w1 w') :
    Calls Try.prog 6 #[stV r0 r1 r2 r3 r4 r5 r6 r7 c z n v pc (.slice ma mn mc), .slice la n' lc] w fun e w' => e = .returned (.bool true) ∧ Below w.heap.size w w' := by
  have HCW := Lib.hid CW
  clear CW
  go_enter Try.func6, Try.ntmps6
  go_wp2_with (first | (go_at_call 20; refine (alive3 _).mono ?_; rintro e w1 ⟨rfl, hb1⟩; have HB1 := Lib.hid (Ext.trans (Ext.alloc (Below.refl w.heap.size w) _) hb1); have HS1 := Lib.hid ((Blk.new w 27 (stC r0 r1 r2 r3 r4 r5 r6 r7 c z n v pc (.slice ma mn mc))).keep hb1); clear hb1) | (refine wpList_load_row rfl 27 _ rfl w.heap.size rfl 27 (stC r0 r1 r2 r3 r4 r5 r6 r7 c z n v pc (.slice ma mn mc)) (0, 0) _ HS1.out Try.underlying27 rfl (by kernel_rfl) ?_) | (go_at_call 17; refine (HCW.out _ HB1.out).mono ?_; rintro e w2 ⟨rfl, hb2⟩; have HB2 := Lib.hid (Ext.trans HB1.out hb2); have HS2 := Lib.hid (HS1.out.keep hb2); obtain ⟨c12, f12⟩ := state_cell HS2.out 12 rfl; clear hb2))
  go_ret
  exact ⟨rfl, HB2.out⟩
theorem stack_ok (mv lv : Value) (mn n' : Nat) (r0 r1 r2 r3 r4 r5 r6 r7 pc : Int) (c z n v : Bool) (ms xs : List Int) (w : World) (hm : Rd w 1 mv mn (ms.map (Value.int .i64))) (hl : Rd w 1 lv n' (xs.map (Value.int .i64))) :
    Calls Try.prog 6 #[stV r0 r1 r2 r3 r4 r5 r6 r7 c z n v pc mv, lv] w fun e w' => e = .returned (.bool true) ∧ Below w.heap.size w w' := by
  obtain ⟨hml, _, ma, mc, hmv, _, _⟩ := hm.ints
  obtain ⟨hll, _, la, lc, hlv, _, _⟩ := hl.ints
  subst hmv
  have CW := fun (w1 : World) (hb : Below w.heap.size w w1) => wrong_ok r0 r1 r2 r3 r4 r5 r6 r7 pc c z n v (.slice ma mn mc) mn ms w1 (hm.below hb)
  by_cases h0 : Mc.wr [r0, r1, r2, r3, r4, r5, r6, r7] pc ms = 0
  · have hz := wary_zero (nC := 0) (nI := 0) (r0 := r0) (r1 := r1) (r2 := r2) (r3 := r3) (r4 := r4) (r5 := r5) (r6 := r6) (r7 := r7) (pc := pc) (fuel := 0) (ms := ms) (by rw [h0]; rfl)
    obtain ⟨_, _, hlen, _, hreg, _, hmem⟩ := hz
    rw [h0] at CW
    by_cases hn : n' ≤ 100
    · obtain ⟨F, hF⟩ : ∃ F, Mc.ends (U.encs (puL xs ++ poL xs.length ++ [haltI])) [] 1000 r0 r1 r2 r3 r4 r5 r6 r7 c z n v 0 ms = F := ⟨_, rfl⟩
      have hrun : (∀ x ∈ xs, Wd x) → _ := fun hx => stk_run xs r0 r1 r2 r3 r4 r5 r6 r7 c z n v ms (hreg r7 (by simp)) hx (by omega) F hF
      have hwr : Mc.wr [r0, r1, r2, r3, r4, r5, r6, r7] 0 ms = 0 := by
        unfold Mc.wr
        rw [if_neg (by omega), if_pos]
        rw [List.all_eq_true]
        intro y hy
        have : Wd y := by
          simp only [List.mem_append, List.mem_singleton] at hy
          rcases hy with (hy | rfl) | hy
          · exact hreg y hy
          · exact ⟨by decide, by decide⟩
          · exact hmem y hy
        unfold Mc.inr
        exact decide_eq_true this
      have hl4 : (puL xs ++ poL n').length = 2 * n' + 2 * n' := by rw [List.length_append, puL_len, poL_len, hll]
      refine stack_at ma mn mc r0 r1 r2 r3 r4 r5 r6 r7 pc (xs.headD r1) c z n v lv n' xs F w hn hl CW (fun hx B o wr own hwB hB hb => ?_) (fun hx => (hrun hx).2.1) (fun hx => (hrun hx).2.2.2) (fun hx => (hrun hx).2.2.1) (fun hp => ?_)
      · have hgB : ∀ w2, wr.grownBy w2 o.ownBlock → Below w.heap.size wr w2 := fun w2 hg => grown_below hg (Nat.le_trans hwB hB) (fun k hk => ⟨Nat.le_trans hwB (own_low own k hk).1, (own_low own k hk).2⟩)
        obtain ⟨f1, f2, f3, f4⟩ := hrun hx
        have hfl : F.out.length = n' := by rw [f3]; simp [hll]
        rw [hll] at hF
        refine (runs_ok o (2 * n' + 2 * n') (puL xs ++ poL n') B r0 r1 r2 r3 r4 r5 r6 r7 0 c z n v (.slice ma mn mc) mn ms F wr hl4 (by omega) (fun i hi => (stk_in xs n' hx i hi).1) own hB (fun w2 hg => hm.below (Below.trans hb (hgB w2 hg))) hwr hF f1 ?_).mono ?_
        · unfold U.encs; rw [List.flatMap_append, List.flatMap_append, List.length_append, List.length_append]
          have h1 := puL_enc xs; have h2 := poL_enc n'; unfold U.encs at h1 h2
          rw [h1, h2]
          have : (List.flatMap U.enc [haltI]).length = 1 := rfl
          rw [this]; omega
        · rintro e w' ⟨oa, oc, xa, xn, xc, rfl, q1, q2, q3⟩
          rw [hfl] at q1 ⊢
          exact ⟨oa, oc, xa, xn, xc, rfl, Rd.of_owns q1 (by unfold maxLen; omega), q3⟩
      · cases xs with
        | nil => simp at hll; omega
        | cons x xs => rfl
    · subst hlv
      exact stack_long ma la mn mc lc r0 r1 r2 r3 r4 r5 r6 r7 pc c z n v n' w (by simp; omega) CW
  · exact stack_none ma mn mc r0 r1 r2 r3 r4 r5 r6 r7 pc _ c z n v lv w (by simpa using h0) CW
end Go.Proofs.Ytfjgnhmmakeaeaa
