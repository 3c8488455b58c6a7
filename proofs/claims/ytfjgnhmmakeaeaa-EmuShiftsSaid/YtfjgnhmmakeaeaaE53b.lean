/- Walk of law EmuShifts: one of its ways. -/
import Derived.Test.YtfjgnhmmakeaeaaE52
namespace Go.Proofs.Ytfjgnhmmakeaeaa
open Go.RowKit
set_option linter.unusedVariables false
set_option linter.unusedSimpArgs false
set_option maxRecDepth 100000
open Mc
set_option maxHeartbeats 16000000 in
theorem shifts_atb (n : Nat) (a x0 x1 x2 x3 P Q : Int) (F G : St) (w : World) (hn : n = 1 ∨ n = 2 ∨ n = 4)
    (hst : rgA n x0 x1 x2 x3 = stC x0 x1 x2 x3 0 0 0 0 false false false false 0 (.slice none 0 0))
    (CS : ∀ w1 : World, Calls Try.prog 27 #[.int .u64 a, .int .i64 32] w1 fun e w' => ∃ xa xc, e = .returned (.tuple #[.slice xa n xc, .int .i64 0]) ∧ Rd w' 1 (.slice xa n xc) n (([x0, x1, x2, x3].take n).map (Value.int .i64)) ∧ Below w1.heap.size w1 w')
    (CU : ∀ (B : Nat) (o : Value) (wr : World), wr.ownsRow B 43 4 o n (insR (upS n)) → B ≤ wr.heap.size → Calls Try.prog 23 #[stV x0 x1 x2 x3 0 0 0 0 false false false false 0 (.slice none 0 0), o] wr fun e w' => ∃ oa oc xa xn xc, e = .returned (.tuple #[ranV F (.slice oa 0 oc) (.slice xa xn xc), .bool true]) ∧ wr.grownBy w' o.ownBlock)
    (CD : ∀ (B : Nat) (o : Value) (wr : World), wr.ownsRow B 43 4 o n (insR (dnS 16 n)) → B ≤ wr.heap.size → Calls Try.prog 23 #[stV x0 x1 x2 x3 0 0 0 0 false false false false 0 (.slice none 0 0), o] wr fun e w' => ∃ oa oc xa xn xc, e = .returned (.tuple #[ranV G (.slice oa 0 oc) (.slice xa xn xc), .bool true]) ∧ wr.grownBy w' o.ownBlock)
    (JF : W.joinE ([F.r 0, F.r 1, F.r 2, F.r 3].take n) = 0 ∧ W.joinV ([F.r 0, F.r 1, F.r 2, F.r 3].take n) = P) (JG : W.joinE ([G.r 0, G.r 1, G.r 2, G.r 3].take n) = 0 ∧ W.joinV ([G.r 0, G.r 1, G.r 2, G.r 3].take n) = Q)
    (CL : ∀ w1 : World, Calls Try.prog 29 #[.int .u64 a, .int .u64 1, .int .i64 32] w1 fun e w' => e = .returned (.tuple #[.int .u64 P, .int .i64 0]) ∧ Below w1.heap.size w1 w')
    (CM : ∀ w1 : World, Calls Try.prog 30 #[.int .u64 a, .int .u64 1, .int .i64 32, .bool false] w1 fun e w' => e = .returned (.tuple #[.int .u64 Q, .int .i64 0]) ∧ Below w1.heap.size w1 w')
    (hFc : F.c = decide (32767 < [x0, x1, x2, x3].getD (n - 1) 0)) (hGc : G.c = (x0 % 2 == 1)) (hx0 : 0 ≤ x0) :
    Calls Try.prog 9 #[.int .u64 a, .int .i64 32, .bool false] w fun e w' => e = .returned (.bool true) ∧ Below w.heap.size w w' := by
  have HCS := Lib.hid CS; have HCU := Lib.hid CU; have HCD := Lib.hid CD; have HJF := Lib.hid JF; have HJG := Lib.hid JG; have HCL := Lib.hid CL; have HCM := Lib.hid CM; have HFC := Lib.hid hFc; have HGC := Lib.hid hGc; have HST := Lib.hid hst; have HN := Lib.hid hn; have HX0 := Lib.hid hx0
  have hn1 : 1 ≤ n := by omega
  have hn4 : n ≤ 4 := by omega
  have hnI : 0 < (n : Int) := by omega
  clear CS CU CD JF JG CL CM hFc hGc hst hx0
  clear hn
  go_enter Try.func9, Try.ntmps9
  go_wp2_with (first | (go_at_call 20; refine (alive3 _).mono ?_; rintro e w1 ⟨rfl, hb1⟩; have HB1 := Lib.hid hb1; clear hb1) | (go_at_call 27; refine (HCS.out _).mono ?_; rintro e w2 ⟨xa, xc, rfl, hr2, hb2⟩; have HB2 := Lib.hid (Ext.trans HB1.out hb2); have HX2 := Lib.hid hr2; clear hb2 hr2))
  generalize hw3 : w2.alloc (Obj.cells (stC 0 0 0 0 0 0 0 0 false false false false 0 (.slice none 0 0)) 27) = w3
  have HS3 : Hid (Blk w3 w2.heap.size 27 (rgA 0 x0 x1 x2 x3)) := by rw [← hw3]; exact Blk.new _ _ _
  have HB3 : Hid (Below w2.heap.size w2 w3) := by rw [← hw3]; exact Ext.alloc (Below.refl _ _) _
  have HZ3 : Hid (w3.heap.size = w2.heap.size + 1) := by rw [← hw3]; show (w2.alloc _).heap.size = _; simp
  have hB23 : Hid (w2.heap.size ≤ w3.heap.size) := by show w2.heap.size ≤ w3.heap.size; have := HZ3.out; omega
  clear hw3
  go_loopw [10, 11, 47] (fun o d i wr => ∃ k : Nat, k ≤ n ∧ i = .int .i64 k ∧ Hid (wr.ownsRow w3.heap.size 43 4 o k (insR (upR k))) ∧ Hid (wr.ownsRow w3.heap.size 43 4 d k (insR (dnP n k))) ∧ Hid (o.ownBlock = none ∨ o.ownBlock ≠ d.ownBlock) ∧ Hid (Blk wr w2.heap.size 27 (rgA k x0 x1 x2 x3)) ∧ Hid (Below w2.heap.size w2 wr ∧ w3.heap.size ≤ wr.heap.size)) (fun _ _ i _ => n - (intOf i).toNat)
  case atStart => exact ⟨0, Nat.zero_le _, rfl, World.ownsRow_nil _ _ _ _, World.ownsRow_nil _ _ _ _, .inl rfl, HS3.out, HB3.out, Nat.le_refl _⟩
  case round =>
    obtain ⟨k, hk, rfl, HO0, HD0, HAP, HSR, hbw⟩ := hrel
    obtain ⟨ua, uc, huv, HU1⟩ := own_slice2 HO0.out
    subst huv
    obtain ⟨da, dc, hdv, HD1⟩ := own_slice2 HD0.out
    subst hdv
    have HU := Lib.hid HU1; have HD := Lib.hid HD1
    clear HO0 HD0 HU1 HD1
    by_cases hlt : k < n
    · obtain ⟨jj1, jj2, xa', xc', hxv, jj3, hxc⟩ := HX2.out.ints
      clear jj1 jj2 jj3
      injection hxv with hx1 hx2 hx3
      clear hx2
      subst hx1; subst hx3
      obtain ⟨xb, xo, rfl, hc⟩ := hxc (by omega)
      obtain ⟨X, hX⟩ : ∃ X, X = [x0, x1, x2, x3].getD k 0 := ⟨_, rfl⟩
      have cX0 := hc k hlt
      have hXe : ([x0, x1, x2, x3].take n).getD k 0 = X := by
        rw [hX, List.getD_eq_getElem?_getD, List.getD_eq_getElem?_getD, List.getElem?_take, if_pos hlt]
      rw [hXe] at cX0
      have cX : wr.cell? ⟨xb, xo + k, none⟩ = some (.int .i64 X) := ((bcell hbw.out.1).1 _ _ (World.block_lt_of_cell? w2 ⟨xb, xo + k, none⟩ cX0)).trans cX0
      obtain ⟨hnx, hcur⟩ := rgA_next k (by omega) x0 x1 x2 x3
      rw [← hX] at hnx
      obtain ⟨cS, fS⟩ := state_cell HSR.out k hcur
      have HSS : Hid (Blk (wr.setCell ⟨w2.heap.size, k, none⟩ (.int .i64 X)) w2.heap.size 27 (rgA (k + 1) x0 x1 x2 x3)) := by
        have := HSR.out.set_ k (.int .i64 X)
        rw [hnx] at this; exact this
      have hneU : (Value.slice ua k uc).ownBlock ≠ some w2.heap.size := fun e => own_ne HU.out HSR.out ne_state e.symm
      have hneD : (Value.slice da k dc).ownBlock ≠ some w2.heap.size := fun e => own_ne HD.out HSR.out ne_state e.symm
      have HUS : Hid ((wr.setCell ⟨w2.heap.size, k, none⟩ (.int .i64 X)).ownsRow w3.heap.size 43 4 (.slice ua k uc) k (insR (upR k))) := own_elsewhere HU.out (p := ⟨w2.heap.size, k, none⟩) hneU _
      have HDS : Hid ((wr.setCell ⟨w2.heap.size, k, none⟩ (.int .i64 X)).ownsRow w3.heap.size 43 4 (.slice da k dc) k (insR (dnP n k))) := own_elsewhere HD.out (p := ⟨w2.heap.size, k, none⟩) hneD _
      have hsz : (wr.setCell ⟨w2.heap.size, k, none⟩ (.int .i64 X)).heap.size = wr.heap.size := by simp
      have hBS : Hid (w3.heap.size ≤ (wr.setCell ⟨w2.heap.size, k, none⟩ (.int .i64 X)).heap.size) := by show w3.heap.size ≤ _; rw [hsz]; exact hbw.out.2
      have hBL : Hid (Below w2.heap.size w2 (wr.setCell ⟨w2.heap.size, k, none⟩ (.int .i64 X))) := Ext.setCell hbw.out.1 (Nat.le_refl _) _
      have HLS : Hid (w3.heap.size ≤ ((wr.setCell ⟨w2.heap.size, k, none⟩ (.int .i64 X)).alloc (.cells #[.int .i64 15, .int .i64 (k : Int), .int .i64 0, .int .i64 0] 43)).heap.size) := Nat.le_trans hBS.out (Nat.le_of_lt (lt_alloc _ _))
      have HNW : Hid (Blk ((wr.setCell ⟨w2.heap.size, k, none⟩ (.int .i64 X)).alloc (.cells #[.int .i64 15, .int .i64 (k : Int), .int .i64 0, .int .i64 0] 43)) wr.heap.size 43 #[.int .i64 15, .int .i64 (k : Int), .int .i64 0, .int .i64 0]) := by
        have := Blk.new (wr.setCell ⟨w2.heap.size, k, none⟩ (.int .i64 X)) 43 #[.int .i64 15, .int .i64 (k : Int), .int .i64 0, .int .i64 0]
        rw [hsz] at this; exact this
      have HK1 : Hid (k + 1 ≤ 100000) := by show k + 1 ≤ 100000; omega
      have hidx : (n : Int) - 1 - (k : Int) = ((n - 1 - k : Nat) : Int) := by omega
      have hk4 : (k : Int) < 8 := by omega
      clear hsz cX0 hXe hcur hneU hneD hnx hc hX
      go_wp2_with (first | (at_builtin; refine wpList_app_ins rfl _ _ rfl w3.heap.size (.slice ua k uc) k 1 (upR k) _ [⟨15, k, 0, 0⟩] #[.int .i64 15, .int .i64 (k : Int), .int .i64 0, .int .i64 0] rfl rfl (HUS.out.alloc _) HNW.out rfl rfl HK1.out HLS.out ?_; intro a1 c1 wA hoA hgA hatA; have HUA := Lib.hid hoA; have HDA := Lib.hid (kept_alloc2 HDS.out (apart_symm HAP.out) hgA); have HSA := Lib.hid (blk_alloc HSS.out HUS.out ne_state hgA); have HAA := Lib.hid (apart_symm (apart_alloc HDS.out (apart_symm HAP.out) hatA)); have HBZ := low_alloc2 hBL.out hB23.out hBS.out HUS.out hgA; have HBA := Lib.hid HBZ.1; have HZA := Lib.hid HBZ.2; clear hoA hgA hatA HBZ) | (at_builtin; refine wpList_app_ins rfl _ _ rfl w3.heap.size (.slice da k dc) k 1 (dnP n k) _ [⟨18, ((n - 1 - k : Nat) : Int), 0, 0⟩] #[.int .i64 18, .int .i64 ((n - 1 - k : Nat) : Int), .int .i64 0, .int .i64 0] rfl rfl (HDA.out.alloc _) (Blk.new _ _ _) rfl rfl HK1.out (Nat.le_trans HZA.out (Nat.le_of_lt (lt_alloc _ _))) ?_; intro a2 c2 wB hoB hgB hatB; have HDB := Lib.hid hoB; have HUB := Lib.hid (kept_alloc2 HUA.out HAA.out hgB); have HSB := Lib.hid (blk_alloc HSA.out HDA.out ne_state hgB); have HAB := Lib.hid (apart_alloc HUA.out HAA.out hatB); have HBZ := low_alloc2 HBA.out hB23.out HZA.out HDA.out hgB; have HBB := Lib.hid HBZ.1; have HZB := Lib.hid HBZ.2; clear hoB hgB hatB HBZ))
      go_roundw
      case rel => exact ⟨k + 1, by omega, by go_num, by rw [upR_next]; exact HUB.out, by rw [dnP_next]; exact HDB.out, HAB.out, HSB.out, HBB.out, HZB.out⟩
      case measure => simp [intOf]; omega
    · obtain rfl : k = n := by omega
      obtain ⟨ef1, ef2, ef3⟩ := up_first HN.out
      obtain ⟨ed1, ed2, ed3⟩ := dn_first 16 HN.out
      obtain ⟨ug, ucx, huq, hugB, hugl, cu0, fu0⟩ := own_first HU.out ef2 ef3
      injection huq with huq1 huq2 huq3
      subst huq1; subst huq3; clear huq2
      obtain ⟨dg, dcx, hdq, hdgB, hdgl, cd0, fd0⟩ := own_first HD.out ed2 ed3
      injection hdq with hdq1 hdq2 hdq3
      subst hdq1; subst hdq3; clear hdq2
      have hud : ug ≠ dg := by
        rcases HAP.out with h | h
        · cases h
        · intro e; subst e; exact h rfl
      have HU4p : Hid (((wr.setCell ⟨ug, 0, none⟩ (.int .i64 14)).setCell ⟨dg, 0, none⟩ (.int .i64 16)).ownsRow w3.heap.size 43 4 (.slice (some ⟨ug, 0, none⟩) k uc) k (insR (upS k))) := by
        have h1 := own_set HU.out 0 (.int .i64 14)
        rw [ef1] at h1
        exact own_elsewhere h1 (p := ⟨dg, 0, none⟩) (fun e => hud (by simpa [Value.ownBlock] using e)) _
      have HD4p : Hid (((wr.setCell ⟨ug, 0, none⟩ (.int .i64 14)).setCell ⟨dg, 0, none⟩ (.int .i64 16)).ownsRow w3.heap.size 43 4 (.slice (some ⟨dg, 0, none⟩) k dc) k (insR (dnS 16 k))) := by
        have h1 := own_set (own_elsewhere HD.out (p := ⟨ug, 0, none⟩) (fun e => hud (by simpa [Value.ownBlock] using e.symm)) (.int .i64 14)) 0 (.int .i64 16)
        rw [ed1] at h1; exact h1
      have hnu : w2.heap.size ≠ ug := by have := HZ3.out; omega
      have hnd : w2.heap.size ≠ dg := by have := HZ3.out; omega
      have HS4p : Hid (Blk ((wr.setCell ⟨ug, 0, none⟩ (.int .i64 14)).setCell ⟨dg, 0, none⟩ (.int .i64 16)) w2.heap.size 27 (stC x0 x1 x2 x3 0 0 0 0 false false false false 0 (.slice none 0 0))) := by
        have h := HSR.out
        rw [HST.out] at h
        exact (h.far (p := ⟨ug, 0, none⟩) hnu _).far (p := ⟨dg, 0, none⟩) hnd _
      have HB4p : Hid (Below w2.heap.size w2 ((wr.setCell ⟨ug, 0, none⟩ (.int .i64 14)).setCell ⟨dg, 0, none⟩ (.int .i64 16))) := Ext.setCell (Ext.setCell hbw.out.1 (by show w2.heap.size ≤ ug; have := HZ3.out; omega) _) (by show w2.heap.size ≤ dg; have := HZ3.out; omega) _
      have hZ4p : w3.heap.size ≤ ((wr.setCell ⟨ug, 0, none⟩ (.int .i64 14)).setCell ⟨dg, 0, none⟩ (.int .i64 16)).heap.size := by have := hbw.out.2; simpa using this
      have HZ4p := Lib.hid hZ4p
      have cd1 : (wr.setCell ⟨ug, 0, none⟩ (.int .i64 14)).cell? ⟨dg, 0, none⟩ = some (.int .i64 18) := by rw [cell?_setCell_far wr (fun e => hud e.symm)]; exact cd0
      have fd1 : (wr.setCell ⟨ug, 0, none⟩ (.int .i64 14)).frozen? ⟨dg, 0, none⟩ = false := by simpa using fd0
      have hkI : 0 < (k : Int) := by omega
      have hk8 : (k : Int) ≤ 8 := by omega
      have HK4 : Hid (k ≤ 4) := hn4
      have HJ1 : Hid (∀ (v : Value) (w1 : World), Rd w1 1 v k (([F.r 0, F.r 1, F.r 2, F.r 3].take k).map (Value.int .i64)) → Calls Try.prog 28 #[v] w1 fun e w' => e = .returned (.tuple #[.int .u64 P, .int .i64 0]) ∧ w1 = w') := fun v w1 hr => by
        have := join_any v k _ w1 hr
        rw [HJF.out.1, HJF.out.2] at this; exact this
      have HJ2 : Hid (∀ (v : Value) (w1 : World), Rd w1 1 v k (([G.r 0, G.r 1, G.r 2, G.r 3].take k).map (Value.int .i64)) → Calls Try.prog 28 #[v] w1 fun e w' => e = .returned (.tuple #[.int .u64 Q, .int .i64 0]) ∧ w1 = w') := fun v w1 hr => by
        have := join_any v k _ w1 hr
        rw [HJG.out.1, HJG.out.2] at this; exact this
      clear hk hlt
      clear ef1 ef2 ef3 ed1 ed2 ed3 hZ4p HU HD hugl hdgl
      go_wp2_with (first | (refine wpList_load_row rfl 27 _ rfl w2.heap.size rfl 27 (stC x0 x1 x2 x3 0 0 0 0 false false false false 0 (.slice none 0 0)) (0, 0) _ HS4p.out Try.underlying27 rfl (by kernel_rfl) ?_; generalize hw4 : (wr.setCell ⟨ug, 0, none⟩ (.int .i64 14)).setCell ⟨dg, 0, none⟩ (.int .i64 16) = w4; have HU4 := Lib.hid ((by rw [← hw4]; exact HU4p.out : w4.ownsRow w3.heap.size 43 4 (.slice (some ⟨ug, 0, none⟩) k uc) k (insR (upS k)))); have HD4 := Lib.hid ((by rw [← hw4]; exact HD4p.out : w4.ownsRow w3.heap.size 43 4 (.slice (some ⟨dg, 0, none⟩) k dc) k (insR (dnS 16 k)))); have HS4 := Lib.hid ((by rw [← hw4]; exact HS4p.out : Blk w4 w2.heap.size 27 (stC x0 x1 x2 x3 0 0 0 0 false false false false 0 (.slice none 0 0)))); have HB4 := Lib.hid ((by rw [← hw4]; exact HB4p.out : Below w2.heap.size w2 w4)); have HZ4 := Lib.hid ((by rw [← hw4]; exact HZ4p.out : w3.heap.size ≤ w4.heap.size)); clear hw4 HU4p HD4p HS4p HB4p HZ4p cu0 fu0 cd0 fd0 cd1 fd1) | (go_at_call_of 23 (Value.slice (some ⟨ug, 0, none⟩) k uc); refine (HCU.out _ _ _ HU4.out HZ4.out).mono ?_; rintro e w5 ⟨oa, oc, ya, yn, yc, rfl, hg5⟩; have HD5 := Lib.hid (HD4.out.kept hg5 (.inr (fun e => hud (by simpa [Value.ownBlock] using e.symm)))); have HS5 := Lib.hid (grown_keep HS4.out HU4.out ne_state hg5); have HB5 := Lib.hid (low_le HB4.out (Nat.le_trans hB23.out HZ4.out) hg5 (own_low (own_mono hB23.out HU4.out))); have HZ5 := Lib.hid (Nat.le_trans HZ4.out hg5.size); clear hg5) | (refine wpList_store_row rfl 30 _ _ rfl w5.heap.size (ranL F (.slice oa 0 oc) (.slice ya yn yc)).toArray rfl rfl 30 ranZc (Blk.new _ _ _) (by kernel_rfl) rfl (ranL_one _ _ _ _ _ _ _) ?_; generalize hw6 : (w5.alloc (Obj.cells ranZc 30)).setRow w5.heap.size (ranL F (.slice oa 0 oc) (.slice ya yn yc)).toArray = w6; have HB56 := Lib.hid ((by rw [← hw6]; exact Below.row (Ext.alloc (Below.refl _ _) _) (Nat.le_refl _) _ : Below w5.heap.size w5 w6)); have HR6 := Lib.hid ((by rw [← hw6]; exact (Blk.new w5 _ _).row _ : Blk w6 w5.heap.size 30 (ranL F (.slice oa 0 oc) (.slice ya yn yc)).toArray)); have HD6 := Lib.hid (ownsRow_below HD5.out HB56.out); have HS6 := Lib.hid (HS5.out.keep HB56.out); have HB6 := Lib.hid (Ext.trans HB5.out HB56.out); have HZ6 := Lib.hid (Nat.le_trans HZ5.out HB56.out.size); clear hw6) | (refine wpList_load_row rfl 27 _ rfl w2.heap.size rfl 27 (stC x0 x1 x2 x3 0 0 0 0 false false false false 0 (.slice none 0 0)) (0, 0) _ HS6.out Try.underlying27 rfl (by kernel_rfl) ?_) | (go_at_call_of 23 (Value.slice (some ⟨dg, 0, none⟩) k dc); refine (HCD.out _ _ _ HD6.out HZ6.out).mono ?_; rintro e w7 ⟨oa2, oc2, ya2, yn2, yc2, rfl, hg7⟩; have HR7 := Lib.hid (grown_keep HR6.out HD6.out ne_ran hg7); have HB7 := Lib.hid (low_le HB6.out (Nat.le_trans hB23.out HZ6.out) hg7 (own_low (own_mono hB23.out HD6.out))); have HZ7 := Lib.hid (Nat.le_trans HZ6.out hg7.size); clear hg7) | (refine wpList_store_row rfl 30 _ _ rfl w7.heap.size (ranL G (.slice oa2 0 oc2) (.slice ya2 yn2 yc2)).toArray rfl rfl 30 ranZc (Blk.new _ _ _) (by kernel_rfl) rfl (ranL_one _ _ _ _ _ _ _) ?_; generalize hw8 : (w7.alloc (Obj.cells ranZc 30)).setRow w7.heap.size (ranL G (.slice oa2 0 oc2) (.slice ya2 yn2 yc2)).toArray = w8; have HB78 := Lib.hid ((by rw [← hw8]; exact Below.row (Ext.alloc (Below.refl _ _) _) (Nat.le_refl _) _ : Below w7.heap.size w7 w8)); have HG8 := Lib.hid ((by rw [← hw8]; exact (Blk.new w7 _ _).row _ : Blk w8 w7.heap.size 30 (ranL G (.slice oa2 0 oc2) (.slice ya2 yn2 yc2)).toArray)); have HR8 := Lib.hid (HR7.out.keep HB78.out); have HB8 := Lib.hid (Ext.trans HB7.out HB78.out); clear hw8) | (go_at_call_of 28 (Value.slice (some ⟨w5.heap.size, 5, none⟩) k 8); refine (HJ1.out _ _ (ran_regs HR8.out k HK4.out)).mono ?_; rintro e w9 ⟨rfl, rfl⟩) | (go_at_call_of 28 (Value.slice (some ⟨w7.heap.size, 5, none⟩) k 8); refine (HJ2.out _ _ (ran_regs HG8.out k HK4.out)).mono ?_; rintro e w9 ⟨rfl, rfl⟩) | (go_at_call 29; refine (HCL.out _).mono ?_; rintro e w9 ⟨rfl, hb9⟩; have HG9 := Lib.hid (HG8.out.keep hb9); have HR9 := Lib.hid (HR8.out.keep hb9); have HB9 := Lib.hid (Ext.trans HB8.out hb9); clear hb9) | (go_at_call 30; refine (HCM.out _).mono ?_; rintro e w10 ⟨rfl, hb10⟩; have HG10 := Lib.hid (HG9.out.keep hb10); have HR10 := Lib.hid (HR9.out.keep hb10); have HB10 := Lib.hid (Ext.trans HB9.out hb10); clear hb10))
      have hPP : (P == P) = true := by simp
      have hQQ : (Q == Q) = true := by simp
      obtain ⟨FC, hFC⟩ : ∃ FC, FC = F.c := ⟨_, rfl⟩
      obtain ⟨GC, hGC⟩ : ∃ GC, GC = G.c := ⟨_, rfl⟩
      obtain ⟨XN, hXN⟩ : ∃ XN, XN = [x0, x1, x2, x3].getD (k - 1) 0 := ⟨_, rfl⟩
      have hf1 : decide (XN > 32767) = FC := by rw [hFC, HFC.out, hXN]
      have hm2 : x0.tmod 2 = x0 % 2 := by rw [Int.tmod_eq_emod_of_nonneg HX0.out]
      have hg1 : (x0 % 2 == 1) = GC := by rw [hGC, HGC.out]
      have hcc : (FC == FC) = true := by simp
      have hgg : (GC == GC) = true := by simp
      have hix : (k : Int) - 1 = ((k - 1 : Nat) : Int) := by omega
      obtain ⟨jj1, jj2, xa', xc', hxv, jj3, hxc⟩ := HX2.out.ints
      clear jj1 jj2 jj3
      injection hxv with hx1 hx2 hx3
      clear hx2
      subst hx1; subst hx3
      obtain ⟨xb, xo, rfl, hc⟩ := hxc (by omega)
      have cN0 := hc (k - 1) (by omega)
      have cZ0 := hc 0 (by omega)
      have hXe : ([x0, x1, x2, x3].take k).getD (k - 1) 0 = XN := by
        rw [hXN, List.getD_eq_getElem?_getD, List.getD_eq_getElem?_getD, List.getElem?_take, if_pos (by omega)]
      have hZe : ([x0, x1, x2, x3].take k).getD 0 0 = x0 := by
        rw [List.getD_eq_getElem?_getD, List.getElem?_take, if_pos (by omega)]; rfl
      rw [hXe] at cN0; rw [hZe] at cZ0
      have hxl : xb < w2.heap.size := World.block_lt_of_cell? w2 ⟨xb, xo + (k - 1), none⟩ cN0
      have HCN : Hid (w10.cell? ⟨xb, xo + (k - 1), none⟩ = some (.int .i64 XN)) := ((bcell HB10.out).1 _ _ hxl).trans cN0
      have HCZ : Hid (w10.cell? ⟨xb, xo, none⟩ = some (.int .i64 x0)) := ((bcell HB10.out).1 _ _ hxl).trans cZ0
      have HFCC := Lib.hid hFC; have HGCC := Lib.hid hGC
      clear hXe hZe cN0 cZ0 hxl hc hXN hFC hGC
      clear HG8 HR8 HB8 HG9 HR9 HB9 HS4 HB4 HZ4 HU4 HD4 HD5 HS5 HB5 HZ5 HB56 HR6 HD6 HS6 HB6 HZ6 HR7 HB7 HZ7 HB78 HCU HCD HJ1 HJ2 HCL HCM HSR HS3 HB3 HZ3 HAP hbw hud hnu hnd HST HN HJF HJG HCS HB1 HX2 HK4 hugB hdgB HFC HGC HX0
      apply Ix.wp_region 42 (fun wi => Hid (Below w10.heap.size w10 wi)) (Ix.vk [(Ix.kis _), (Ix.kis (.bool true)), (Ix.kis (.bool true)), (Ix.kis _), (Ix.kis (.bool true)), (Ix.kis (.bool true)), (Ix.kis (.bool true)), (Ix.kis _), (Ix.kis _), (Ix.kis (.bool true)), (Ix.kis (.bool true)), (Ix.kis (.bool true)), (Ix.kis _), (Ix.kis _), (Ix.kis (.bool true)), (Ix.kis (.bool true)), (Ix.kis (.bool true)), (Ix.kis _), (Ix.kis _), (Ix.kis _), (Ix.kis (.bool FC)), (Ix.kis _), (Ix.kis _), (Ix.kis (.int .i64 (k : Int))), (Ix.kis (.int .i64 ((k - 1 : Nat) : Int))), (Ix.kis (.pointer (some ⟨xb, xo + (k - 1), none⟩))), (Ix.kis (.int .i64 XN)), (Ix.kis (.bool FC)), (Ix.kis (.bool true)), (Ix.kis (.bool true)), (Ix.kis (.bool true)), (Ix.kis _), (Ix.kis _), (Ix.kis _), (Ix.kis (.bool GC)), (Ix.kis _), (Ix.kis (.pointer (some ⟨xb, xo, none⟩))), (Ix.kis (.int .i64 x0)), (Ix.kis (.int .i64 (x0 % 2))), (Ix.kis (.bool GC)), (Ix.kis (.bool true)), (Ix.kis (.bool true))]) (fun _ => false) (by kernel_rfl) (by kernel_rfl) (by kernel_rfl) (fun _ _ h hb => h.out.trans (hb.mono h.out.size)) (Ix.vk_keeps _) (Ix.not_al _) (Below.refl _ _)
      case step =>
        refine Ix.steps_cons (n := 41) (i := 0) (j := 1) rfl rfl (Ix.stepI_ofN [] (by kernel_rfl) (fun wi HB => ?_)) ?_
        (· (refine Iv.askN_nil ?_; (try simp only [Act.put, List.setIfInBounds_toArray, List.set_cons_zero, List.set_cons_succ]); refine Ix.goI_yes rfl rfl ?_; intro K hK; (try simp only [Act.put, List.setIfInBounds_toArray, List.set_cons_zero, List.set_cons_succ] at hK); go_wp2_with (first | fail); exact hK _ _ (Below.refl _ _) rfl))
        refine Ix.steps_cons (n := 40) (i := 1) (j := 2) rfl rfl (Ix.stepI_ofN [(0, some 128)] (by kernel_rfl) (fun wi HB => ?_)) ?_
        (· (refine Iv.askN_cons ?_; rintro _ rfl; refine Iv.askN_nil ?_; (try simp only [Act.put, List.setIfInBounds_toArray, List.set_cons_zero, List.set_cons_succ]); refine Ix.goI_yes rfl rfl ?_; intro K hK; (try simp only [Act.put, List.setIfInBounds_toArray, List.set_cons_zero, List.set_cons_succ] at hK); go_wp2_with (first | fail); exact hK _ _ (Below.refl _ _) rfl))
        refine Ix.steps_cons (n := 39) (i := 2) (j := 3) rfl rfl (Ix.stepI_ofN [(1, some 129)] (by kernel_rfl) (fun wi HB => ?_)) ?_
        (· (refine Iv.askN_cons ?_; rintro _ rfl; refine Iv.askN_nil ?_; (try simp only [Act.put, List.setIfInBounds_toArray, List.set_cons_zero, List.set_cons_succ]); refine Ix.goI_yes rfl rfl ?_; intro K hK; (try simp only [Act.put, List.setIfInBounds_toArray, List.set_cons_zero, List.set_cons_succ] at hK); go_wp2_with (first | fail); exact hK _ _ (Below.refl _ _) rfl))
        refine Ix.steps_cons (n := 38) (i := 3) (j := 4) rfl rfl (Ix.stepI_ofN [(2, some 130)] (by kernel_rfl) (fun wi HB => ?_)) ?_
        (· (refine Iv.askN_cons ?_; rintro _ rfl; refine Iv.askN_nil ?_; (try simp only [Act.put, List.setIfInBounds_toArray, List.set_cons_zero, List.set_cons_succ]); refine Ix.goI_yes rfl rfl ?_; intro K hK; (try simp only [Act.put, List.setIfInBounds_toArray, List.set_cons_zero, List.set_cons_succ] at hK); go_wp2_with (first | fail); exact hK _ _ (Below.refl _ _) rfl))
        refine Ix.steps_cons (n := 37) (i := 4) (j := 5) rfl rfl (Ix.stepI_ofN [(2, some 130), (3, some 131)] (by kernel_rfl) (fun wi HB => ?_)) ?_
        (· (refine Iv.askN_cons ?_; rintro _ rfl; refine Iv.askN_cons ?_; rintro _ rfl; refine Iv.askN_nil ?_; (try simp only [Act.put, List.setIfInBounds_toArray, List.set_cons_zero, List.set_cons_succ]); refine Ix.goI_yes rfl rfl ?_; intro K hK; (try simp only [Act.put, List.setIfInBounds_toArray, List.set_cons_zero, List.set_cons_succ] at hK); go_wp2_with (first | fail); exact hK _ _ (Below.refl _ _) rfl))
        refine Ix.steps_cons (n := 36) (i := 5) (j := 6) rfl rfl (Ix.stepI_ofN [(2, some 130), (4, some 132)] (by kernel_rfl) (fun wi HB => ?_)) ?_
        (· (refine Iv.askN_cons ?_; rintro _ rfl; refine Iv.askN_cons ?_; rintro _ rfl; refine Iv.askN_nil ?_; (try simp only [Act.put, List.setIfInBounds_toArray, List.set_cons_zero, List.set_cons_succ]); refine Ix.goI_yes rfl rfl ?_; intro K hK; (try simp only [Act.put, List.setIfInBounds_toArray, List.set_cons_zero, List.set_cons_succ] at hK); go_wp2_with (first | fail); exact hK _ _ (Below.refl _ _) rfl))
        refine Ix.steps_cons (n := 35) (i := 6) (j := 7) rfl rfl (Ix.stepI_ofN [(5, some 133)] (by kernel_rfl) (fun wi HB => ?_)) ?_
        (· (refine Iv.askN_cons ?_; rintro _ rfl; refine Iv.askN_nil ?_; (try simp only [Act.put, List.setIfInBounds_toArray, List.set_cons_zero, List.set_cons_succ]); refine Ix.goI_yes rfl rfl ?_; intro K hK; (try simp only [Act.put, List.setIfInBounds_toArray, List.set_cons_zero, List.set_cons_succ] at hK); go_wp2_with (first | fail); exact hK _ _ (Below.refl _ _) rfl))
        refine Ix.steps_cons (n := 34) (i := 7) (j := 8) rfl rfl (Ix.stepI_ofN [(6, some 134)] (by kernel_rfl) (fun wi HB => ?_)) ?_
        (· (refine Iv.askN_cons ?_; rintro _ rfl; refine Iv.askN_nil ?_; (try simp only [Act.put, List.setIfInBounds_toArray, List.set_cons_zero, List.set_cons_succ]); refine Ix.goI_yes rfl rfl ?_; intro K hK; (try simp only [Act.put, List.setIfInBounds_toArray, List.set_cons_zero, List.set_cons_succ] at hK); go_wp2_with (first | fail); exact hK _ _ (Below.refl _ _) rfl))
        refine Ix.steps_cons (n := 33) (i := 8) (j := 9) rfl rfl (Ix.stepI_ofN [(6, some 134)] (by kernel_rfl) (fun wi HB => ?_)) ?_
        (· (refine Iv.askN_cons ?_; rintro _ rfl; refine Iv.askN_nil ?_; (try simp only [Act.put, List.setIfInBounds_toArray, List.set_cons_zero, List.set_cons_succ]); refine Ix.goI_yes rfl rfl ?_; intro K hK; (try simp only [Act.put, List.setIfInBounds_toArray, List.set_cons_zero, List.set_cons_succ] at hK); go_wp2_with (first | fail); exact hK _ _ (Below.refl _ _) rfl))
        refine Ix.steps_cons (n := 32) (i := 9) (j := 10) rfl rfl (Ix.stepI_ofN [(6, some 134), (7, some 135), (8, some 136)] (by kernel_rfl) (fun wi HB => ?_)) ?_
        (· (refine Iv.askN_cons ?_; rintro _ rfl; refine Iv.askN_cons ?_; rintro _ rfl; refine Iv.askN_cons ?_; rintro _ rfl; refine Iv.askN_nil ?_; (try simp only [Act.put, List.setIfInBounds_toArray, List.set_cons_zero, List.set_cons_succ]); refine Ix.goI_yes rfl rfl ?_; intro K hK; (try simp only [Act.put, List.setIfInBounds_toArray, List.set_cons_zero, List.set_cons_succ] at hK); go_wp2_with (first | fail); exact hK _ _ (Below.refl _ _) rfl))
        refine Ix.steps_cons (n := 31) (i := 10) (j := 11) rfl rfl (Ix.stepI_ofN [(6, some 134), (9, some 137)] (by kernel_rfl) (fun wi HB => ?_)) ?_
        (· (refine Iv.askN_cons ?_; rintro _ rfl; refine Iv.askN_cons ?_; rintro _ rfl; refine Iv.askN_nil ?_; (try simp only [Act.put, List.setIfInBounds_toArray, List.set_cons_zero, List.set_cons_succ]); refine Ix.goI_yes rfl rfl ?_; intro K hK; (try simp only [Act.put, List.setIfInBounds_toArray, List.set_cons_zero, List.set_cons_succ] at hK); go_wp2_with (first | fail); exact hK _ _ (Below.refl _ _) rfl))
        refine Ix.steps_cons (n := 30) (i := 11) (j := 12) rfl rfl (Ix.stepI_ofN [(10, some 138)] (by kernel_rfl) (fun wi HB => ?_)) ?_
        (· (refine Iv.askN_cons ?_; rintro _ rfl; refine Iv.askN_nil ?_; (try simp only [Act.put, List.setIfInBounds_toArray, List.set_cons_zero, List.set_cons_succ]); refine Ix.goI_yes rfl rfl ?_; intro K hK; (try simp only [Act.put, List.setIfInBounds_toArray, List.set_cons_zero, List.set_cons_succ] at hK); go_wp2_with (first | fail); exact hK _ _ (Below.refl _ _) rfl))
        refine Ix.steps_cons (n := 29) (i := 12) (j := 13) rfl rfl (Ix.stepI_ofN [(11, some 139)] (by kernel_rfl) (fun wi HB => ?_)) ?_
        (· (refine Iv.askN_cons ?_; rintro _ rfl; refine Iv.askN_nil ?_; (try simp only [Act.put, List.setIfInBounds_toArray, List.set_cons_zero, List.set_cons_succ]); refine Ix.goI_yes rfl rfl ?_; intro K hK; (try simp only [Act.put, List.setIfInBounds_toArray, List.set_cons_zero, List.set_cons_succ] at hK); go_wp2_with (first | fail); exact hK _ _ (Below.refl _ _) rfl))
        refine Ix.steps_cons (n := 28) (i := 13) (j := 14) rfl rfl (Ix.stepI_ofN [(11, some 139)] (by kernel_rfl) (fun wi HB => ?_)) ?_
        (· (refine Iv.askN_cons ?_; rintro _ rfl; refine Iv.askN_nil ?_; (try simp only [Act.put, List.setIfInBounds_toArray, List.set_cons_zero, List.set_cons_succ]); refine Ix.goI_yes rfl rfl ?_; intro K hK; (try simp only [Act.put, List.setIfInBounds_toArray, List.set_cons_zero, List.set_cons_succ] at hK); go_wp2_with (first | fail); exact hK _ _ (Below.refl _ _) rfl))
        refine Ix.steps_cons (n := 27) (i := 14) (j := 15) rfl rfl (Ix.stepI_ofN [(11, some 139), (12, some 140), (13, some 141)] (by kernel_rfl) (fun wi HB => ?_)) ?_
        (· (refine Iv.askN_cons ?_; rintro _ rfl; refine Iv.askN_cons ?_; rintro _ rfl; refine Iv.askN_cons ?_; rintro _ rfl; refine Iv.askN_nil ?_; (try simp only [Act.put, List.setIfInBounds_toArray, List.set_cons_zero, List.set_cons_succ]); refine Ix.goI_yes rfl rfl ?_; intro K hK; (try simp only [Act.put, List.setIfInBounds_toArray, List.set_cons_zero, List.set_cons_succ] at hK); go_wp2_with (first | fail); exact hK _ _ (Below.refl _ _) rfl))
        refine Ix.steps_cons (n := 26) (i := 15) (j := 16) rfl rfl (Ix.stepI_ofN [(11, some 139), (14, some 142)] (by kernel_rfl) (fun wi HB => ?_)) ?_
        (· (refine Iv.askN_cons ?_; rintro _ rfl; refine Iv.askN_cons ?_; rintro _ rfl; refine Iv.askN_nil ?_; (try simp only [Act.put, List.setIfInBounds_toArray, List.set_cons_zero, List.set_cons_succ]); refine Ix.goI_yes rfl rfl ?_; intro K hK; (try simp only [Act.put, List.setIfInBounds_toArray, List.set_cons_zero, List.set_cons_succ] at hK); go_wp2_with (first | fail); exact hK _ _ (Below.refl _ _) rfl))
        refine Ix.steps_cons (n := 25) (i := 16) (j := 17) rfl rfl (Ix.stepI_ofN [(15, some 143)] (by kernel_rfl) (fun wi HB => ?_)) ?_
        (· (refine Iv.askN_cons ?_; rintro _ rfl; refine Iv.askN_nil ?_; (try simp only [Act.put, List.setIfInBounds_toArray, List.set_cons_zero, List.set_cons_succ]); refine Ix.goI_yes rfl rfl ?_; intro K hK; (try simp only [Act.put, List.setIfInBounds_toArray, List.set_cons_zero, List.set_cons_succ] at hK); go_wp2_with (first | fail); exact hK _ _ (Below.refl _ _) rfl))
        refine Ix.steps_cons (n := 24) (i := 17) (j := 18) rfl rfl (Ix.stepI_ofN [(16, some 144)] (by kernel_rfl) (fun wi HB => ?_)) ?_
        (· (refine Iv.askN_cons ?_; rintro _ rfl; refine Iv.askN_nil ?_; (try simp only [Act.put, List.setIfInBounds_toArray, List.set_cons_zero, List.set_cons_succ]); refine Ix.goI_yes rfl rfl ?_; intro K hK; (try simp only [Act.put, List.setIfInBounds_toArray, List.set_cons_zero, List.set_cons_succ] at hK); go_wp2_with (first | fail); exact hK _ _ (Below.refl _ _) rfl))
        refine Ix.steps_cons (n := 23) (i := 18) (j := 19) rfl rfl (Ix.stepI_ofN [(16, some 144), (17, some 145)] (by kernel_rfl) (fun wi HB => ?_)) ?_
        (· (refine Iv.askN_cons ?_; rintro _ rfl; refine Iv.askN_cons ?_; rintro _ rfl; refine Iv.askN_nil ?_; (try simp only [Act.put, List.setIfInBounds_toArray, List.set_cons_zero, List.set_cons_succ]); refine Ix.goI_yes rfl rfl ?_; intro K hK; (try simp only [Act.put, List.setIfInBounds_toArray, List.set_cons_zero, List.set_cons_succ] at hK); go_wp2_with (first | fail); exact hK _ _ (Below.refl _ _) rfl))
        refine Ix.steps_cons (n := 22) (i := 19) (j := 20) rfl rfl (Ix.stepI_ofN [(16, some 144), (18, some 146)] (by kernel_rfl) (fun wi HB => ?_)) ?_
        (· (refine Iv.askN_cons ?_; rintro _ rfl; refine Iv.askN_cons ?_; rintro _ rfl; refine Iv.askN_nil ?_; (try simp only [Act.put, List.setIfInBounds_toArray, List.set_cons_zero, List.set_cons_succ]); refine Ix.goI_yes rfl rfl ?_; intro K hK; (try simp only [Act.put, List.setIfInBounds_toArray, List.set_cons_zero, List.set_cons_succ] at hK); go_wp2_with (first | fail); exact hK _ _ (Below.refl _ _) rfl))
        refine Ix.steps_cons (n := 21) (i := 20) (j := 21) rfl rfl (Ix.stepI_ofN [(16, some 144), (19, some 147)] (by kernel_rfl) (fun wi HB => ?_)) ?_
        (· (refine Iv.askN_cons ?_; rintro _ rfl; refine Iv.askN_cons ?_; rintro _ rfl; refine Iv.askN_nil ?_; have k20 : wi.cell? ⟨w5.heap.size, 13, none⟩ = some (.bool FC) := ((ran_cell (HR10.out.keep HB.out) 13 rfl).trans (by rw [HFCC.out])); (try simp only [Act.put, List.setIfInBounds_toArray, List.set_cons_zero, List.set_cons_succ]); refine Ix.goI_yes rfl rfl ?_; intro K hK; (try simp only [Act.put, List.setIfInBounds_toArray, List.set_cons_zero, List.set_cons_succ] at hK); go_wp2_with (first | fail); exact hK _ _ (Below.refl _ _) rfl))
        refine Ix.steps_cons (n := 20) (i := 21) (j := 22) rfl rfl (Ix.stepI_ofN [(16, some 144)] (by kernel_rfl) (fun wi HB => ?_)) ?_
        (· (refine Iv.askN_cons ?_; rintro _ rfl; refine Iv.askN_nil ?_; (try simp only [Act.put, List.setIfInBounds_toArray, List.set_cons_zero, List.set_cons_succ]); refine Ix.goI_yes rfl rfl ?_; intro K hK; (try simp only [Act.put, List.setIfInBounds_toArray, List.set_cons_zero, List.set_cons_succ] at hK); go_wp2_with (first | fail); exact hK _ _ (Below.refl _ _) rfl))
        refine Ix.steps_cons (n := 19) (i := 22) (j := 23) rfl rfl (Ix.stepI_ofN [(16, some 144)] (by kernel_rfl) (fun wi HB => ?_)) ?_
        (· (refine Iv.askN_cons ?_; rintro _ rfl; refine Iv.askN_nil ?_; (try simp only [Act.put, List.setIfInBounds_toArray, List.set_cons_zero, List.set_cons_succ]); refine Ix.goI_yes rfl rfl ?_; intro K hK; (try simp only [Act.put, List.setIfInBounds_toArray, List.set_cons_zero, List.set_cons_succ] at hK); go_wp2_with (first | fail); exact hK _ _ (Below.refl _ _) rfl))
        refine Ix.steps_cons (n := 18) (i := 23) (j := 24) rfl rfl (Ix.stepI_ofN [(16, some 144), (22, some 150)] (by kernel_rfl) (fun wi HB => ?_)) ?_
        (· (refine Iv.askN_cons ?_; rintro _ rfl; refine Iv.askN_cons ?_; rintro _ rfl; refine Iv.askN_nil ?_; (try simp only [Act.put, List.setIfInBounds_toArray, List.set_cons_zero, List.set_cons_succ]); refine Ix.goI_yes rfl rfl ?_; intro K hK; (try simp only [Act.put, List.setIfInBounds_toArray, List.set_cons_zero, List.set_cons_succ] at hK); go_wp2_with (first | fail); exact hK _ _ (Below.refl _ _) rfl))
        refine Ix.steps_cons (n := 17) (i := 24) (j := 25) rfl rfl (Ix.stepI_ofN [(16, some 144), (23, some 151)] (by kernel_rfl) (fun wi HB => ?_)) ?_
        (· (refine Iv.askN_cons ?_; rintro _ rfl; refine Iv.askN_cons ?_; rintro _ rfl; refine Iv.askN_nil ?_; (try simp only [Act.put, List.setIfInBounds_toArray, List.set_cons_zero, List.set_cons_succ]); refine Ix.goI_yes rfl rfl ?_; intro K hK; (try simp only [Act.put, List.setIfInBounds_toArray, List.set_cons_zero, List.set_cons_succ] at hK); go_wp2_with (first | fail); exact hK _ _ (Below.refl _ _) rfl))
        refine Ix.steps_cons (n := 16) (i := 25) (j := 26) rfl rfl (Ix.stepI_ofN [(16, some 144), (21, some 149), (24, some 152)] (by kernel_rfl) (fun wi HB => ?_)) ?_
        (· (refine Iv.askN_cons ?_; rintro _ rfl; refine Iv.askN_cons ?_; rintro _ rfl; refine Iv.askN_cons ?_; rintro _ rfl; refine Iv.askN_nil ?_; (try simp only [Act.put, List.setIfInBounds_toArray, List.set_cons_zero, List.set_cons_succ]); refine Ix.goI_yes rfl rfl ?_; intro K hK; (try simp only [Act.put, List.setIfInBounds_toArray, List.set_cons_zero, List.set_cons_succ] at hK); go_wp2_with (first | fail); exact hK _ _ (Below.refl _ _) rfl))
        refine Ix.steps_cons (n := 15) (i := 26) (j := 27) rfl rfl (Ix.stepI_ofN [(16, some 144), (25, some 153)] (by kernel_rfl) (fun wi HB => ?_)) ?_
        (· (refine Iv.askN_cons ?_; rintro _ rfl; refine Iv.askN_cons ?_; rintro _ rfl; refine Iv.askN_nil ?_; have k26 : wi.cell? ⟨xb, xo + (k - 1), none⟩ = some (.int .i64 XN) := (((bcell HB.out).1 _ _ (World.block_lt_of_cell? w10 ⟨xb, xo + (k - 1), none⟩ HCN.out)).trans HCN.out); (try simp only [Act.put, List.setIfInBounds_toArray, List.set_cons_zero, List.set_cons_succ]); refine Ix.goI_yes rfl rfl ?_; intro K hK; (try simp only [Act.put, List.setIfInBounds_toArray, List.set_cons_zero, List.set_cons_succ] at hK); go_wp2_with (first | fail); exact hK _ _ (Below.refl _ _) rfl))
        refine Ix.steps_cons (n := 14) (i := 27) (j := 28) rfl rfl (Ix.stepI_ofN [(16, some 144), (26, some 154)] (by kernel_rfl) (fun wi HB => ?_)) ?_
        (· (refine Iv.askN_cons ?_; rintro _ rfl; refine Iv.askN_cons ?_; rintro _ rfl; refine Iv.askN_nil ?_; (try simp only [Act.put, List.setIfInBounds_toArray, List.set_cons_zero, List.set_cons_succ]); refine Ix.goI_yes rfl rfl ?_; intro K hK; (try simp only [Act.put, List.setIfInBounds_toArray, List.set_cons_zero, List.set_cons_succ] at hK); go_wp2_with (first | fail); exact hK _ _ (Below.refl _ _) rfl))
        refine Ix.steps_cons (n := 13) (i := 28) (j := 29) rfl rfl (Ix.stepI_ofN [(16, some 144), (20, some 148), (27, some 155)] (by kernel_rfl) (fun wi HB => ?_)) ?_
        (· (refine Iv.askN_cons ?_; rintro _ rfl; refine Iv.askN_cons ?_; rintro _ rfl; refine Iv.askN_cons ?_; rintro _ rfl; refine Iv.askN_nil ?_; (try simp only [Act.put, List.setIfInBounds_toArray, List.set_cons_zero, List.set_cons_succ]); refine Ix.goI_yes rfl rfl ?_; intro K hK; (try simp only [Act.put, List.setIfInBounds_toArray, List.set_cons_zero, List.set_cons_succ] at hK); go_wp2_with (first | fail); exact hK _ _ (Below.refl _ _) rfl))
        refine Ix.steps_cons (n := 12) (i := 29) (j := 30) rfl rfl (Ix.stepI_ofN [(16, some 144), (28, some 156)] (by kernel_rfl) (fun wi HB => ?_)) ?_
        (· (refine Iv.askN_cons ?_; rintro _ rfl; refine Iv.askN_cons ?_; rintro _ rfl; refine Iv.askN_nil ?_; (try simp only [Act.put, List.setIfInBounds_toArray, List.set_cons_zero, List.set_cons_succ]); refine Ix.goI_yes rfl rfl ?_; intro K hK; (try simp only [Act.put, List.setIfInBounds_toArray, List.set_cons_zero, List.set_cons_succ] at hK); go_wp2_with (first | fail); exact hK _ _ (Below.refl _ _) rfl))
        refine Ix.steps_cons (n := 11) (i := 30) (j := 31) rfl rfl (Ix.stepI_ofN [(29, some 157)] (by kernel_rfl) (fun wi HB => ?_)) ?_
        (· (refine Iv.askN_cons ?_; rintro _ rfl; refine Iv.askN_nil ?_; (try simp only [Act.put, List.setIfInBounds_toArray, List.set_cons_zero, List.set_cons_succ]); refine Ix.goI_yes rfl rfl ?_; intro K hK; (try simp only [Act.put, List.setIfInBounds_toArray, List.set_cons_zero, List.set_cons_succ] at hK); go_wp2_with (first | fail); exact hK _ _ (Below.refl _ _) rfl))
        refine Ix.steps_cons (n := 10) (i := 31) (j := 32) rfl rfl (Ix.stepI_ofN [(30, some 158)] (by kernel_rfl) (fun wi HB => ?_)) ?_
        (· (refine Iv.askN_cons ?_; rintro _ rfl; refine Iv.askN_nil ?_; (try simp only [Act.put, List.setIfInBounds_toArray, List.set_cons_zero, List.set_cons_succ]); refine Ix.goI_yes rfl rfl ?_; intro K hK; (try simp only [Act.put, List.setIfInBounds_toArray, List.set_cons_zero, List.set_cons_succ] at hK); go_wp2_with (first | fail); exact hK _ _ (Below.refl _ _) rfl))
        refine Ix.steps_cons (n := 9) (i := 32) (j := 33) rfl rfl (Ix.stepI_ofN [(30, some 158), (31, some 159)] (by kernel_rfl) (fun wi HB => ?_)) ?_
        (· (refine Iv.askN_cons ?_; rintro _ rfl; refine Iv.askN_cons ?_; rintro _ rfl; refine Iv.askN_nil ?_; (try simp only [Act.put, List.setIfInBounds_toArray, List.set_cons_zero, List.set_cons_succ]); refine Ix.goI_yes rfl rfl ?_; intro K hK; (try simp only [Act.put, List.setIfInBounds_toArray, List.set_cons_zero, List.set_cons_succ] at hK); go_wp2_with (first | fail); exact hK _ _ (Below.refl _ _) rfl))
        refine Ix.steps_cons (n := 8) (i := 33) (j := 34) rfl rfl (Ix.stepI_ofN [(30, some 158), (32, some 160)] (by kernel_rfl) (fun wi HB => ?_)) ?_
        (· (refine Iv.askN_cons ?_; rintro _ rfl; refine Iv.askN_cons ?_; rintro _ rfl; refine Iv.askN_nil ?_; (try simp only [Act.put, List.setIfInBounds_toArray, List.set_cons_zero, List.set_cons_succ]); refine Ix.goI_yes rfl rfl ?_; intro K hK; (try simp only [Act.put, List.setIfInBounds_toArray, List.set_cons_zero, List.set_cons_succ] at hK); go_wp2_with (first | fail); exact hK _ _ (Below.refl _ _) rfl))
        refine Ix.steps_cons (n := 7) (i := 34) (j := 35) rfl rfl (Ix.stepI_ofN [(30, some 158), (33, some 161)] (by kernel_rfl) (fun wi HB => ?_)) ?_
        (· (refine Iv.askN_cons ?_; rintro _ rfl; refine Iv.askN_cons ?_; rintro _ rfl; refine Iv.askN_nil ?_; have k34 : wi.cell? ⟨w7.heap.size, 13, none⟩ = some (.bool GC) := ((ran_cell (HG10.out.keep HB.out) 13 rfl).trans (by rw [HGCC.out])); (try simp only [Act.put, List.setIfInBounds_toArray, List.set_cons_zero, List.set_cons_succ]); refine Ix.goI_yes rfl rfl ?_; intro K hK; (try simp only [Act.put, List.setIfInBounds_toArray, List.set_cons_zero, List.set_cons_succ] at hK); go_wp2_with (first | fail); exact hK _ _ (Below.refl _ _) rfl))
        refine Ix.steps_cons (n := 6) (i := 35) (j := 36) rfl rfl (Ix.stepI_ofN [(30, some 158)] (by kernel_rfl) (fun wi HB => ?_)) ?_
        (· (refine Iv.askN_cons ?_; rintro _ rfl; refine Iv.askN_nil ?_; (try simp only [Act.put, List.setIfInBounds_toArray, List.set_cons_zero, List.set_cons_succ]); refine Ix.goI_yes rfl rfl ?_; intro K hK; (try simp only [Act.put, List.setIfInBounds_toArray, List.set_cons_zero, List.set_cons_succ] at hK); go_wp2_with (first | fail); exact hK _ _ (Below.refl _ _) rfl))
        refine Ix.steps_cons (n := 5) (i := 36) (j := 37) rfl rfl (Ix.stepI_ofN [(30, some 158), (35, some 163)] (by kernel_rfl) (fun wi HB => ?_)) ?_
        (· (refine Iv.askN_cons ?_; rintro _ rfl; refine Iv.askN_cons ?_; rintro _ rfl; refine Iv.askN_nil ?_; (try simp only [Act.put, List.setIfInBounds_toArray, List.set_cons_zero, List.set_cons_succ]); refine Ix.goI_yes rfl rfl ?_; intro K hK; (try simp only [Act.put, List.setIfInBounds_toArray, List.set_cons_zero, List.set_cons_succ] at hK); go_wp2_with (first | fail); exact hK _ _ (Below.refl _ _) rfl))
        refine Ix.steps_cons (n := 4) (i := 37) (j := 38) rfl rfl (Ix.stepI_ofN [(30, some 158), (36, some 164)] (by kernel_rfl) (fun wi HB => ?_)) ?_
        (· (refine Iv.askN_cons ?_; rintro _ rfl; refine Iv.askN_cons ?_; rintro _ rfl; refine Iv.askN_nil ?_; have k37 : wi.cell? ⟨xb, xo, none⟩ = some (.int .i64 x0) := (((bcell HB.out).1 _ _ (World.block_lt_of_cell? w10 ⟨xb, xo, none⟩ HCZ.out)).trans HCZ.out); (try simp only [Act.put, List.setIfInBounds_toArray, List.set_cons_zero, List.set_cons_succ]); refine Ix.goI_yes rfl rfl ?_; intro K hK; (try simp only [Act.put, List.setIfInBounds_toArray, List.set_cons_zero, List.set_cons_succ] at hK); go_wp2_with (first | fail); exact hK _ _ (Below.refl _ _) rfl))
        refine Ix.steps_cons (n := 3) (i := 38) (j := 39) rfl rfl (Ix.stepI_ofN [(30, some 158), (37, some 165)] (by kernel_rfl) (fun wi HB => ?_)) ?_
        (· (refine Iv.askN_cons ?_; rintro _ rfl; refine Iv.askN_cons ?_; rintro _ rfl; refine Iv.askN_nil ?_; (try simp only [Act.put, List.setIfInBounds_toArray, List.set_cons_zero, List.set_cons_succ]); refine Ix.goI_yes rfl rfl ?_; intro K hK; (try simp only [Act.put, List.setIfInBounds_toArray, List.set_cons_zero, List.set_cons_succ] at hK); go_wp2_with (first | fail); exact hK _ _ (Below.refl _ _) rfl))
        refine Ix.steps_cons (n := 2) (i := 39) (j := 40) rfl rfl (Ix.stepI_ofN [(30, some 158), (38, some 166)] (by kernel_rfl) (fun wi HB => ?_)) ?_
        (· (refine Iv.askN_cons ?_; rintro _ rfl; refine Iv.askN_cons ?_; rintro _ rfl; refine Iv.askN_nil ?_; (try simp only [Act.put, List.setIfInBounds_toArray, List.set_cons_zero, List.set_cons_succ]); refine Ix.goI_yes rfl rfl ?_; intro K hK; (try simp only [Act.put, List.setIfInBounds_toArray, List.set_cons_zero, List.set_cons_succ] at hK); go_wp2_with (first | fail); exact hK _ _ (Below.refl _ _) rfl))
        refine Ix.steps_cons (n := 1) (i := 40) (j := 41) rfl rfl (Ix.stepI_ofN [(30, some 158), (34, some 162), (39, some 167)] (by kernel_rfl) (fun wi HB => ?_)) ?_
        (· (refine Iv.askN_cons ?_; rintro _ rfl; refine Iv.askN_cons ?_; rintro _ rfl; refine Iv.askN_cons ?_; rintro _ rfl; refine Iv.askN_nil ?_; (try simp only [Act.put, List.setIfInBounds_toArray, List.set_cons_zero, List.set_cons_succ]); refine Ix.goI_yes rfl rfl ?_; intro K hK; (try simp only [Act.put, List.setIfInBounds_toArray, List.set_cons_zero, List.set_cons_succ] at hK); go_wp2_with (first | fail); exact hK _ _ (Below.refl _ _) rfl))
        refine Ix.steps_cons (n := 0) (i := 41) (j := 42) rfl rfl (Ix.stepI_ofN [(30, some 158), (40, some 168)] (by kernel_rfl) (fun wi HB => ?_)) ?_
        (· (refine Iv.askN_cons ?_; rintro _ rfl; refine Iv.askN_cons ?_; rintro _ rfl; refine Iv.askN_nil ?_; (try simp only [Act.put, List.setIfInBounds_toArray, List.set_cons_zero, List.set_cons_succ]); refine Ix.goI_yes rfl rfl ?_; intro K hK; (try simp only [Act.put, List.setIfInBounds_toArray, List.set_cons_zero, List.set_cons_succ] at hK); go_wp2_with (first | fail); exact hK _ _ (Below.refl _ _) rfl))
        exact Ix.steps_nil
      intro vsf wf HF hdf
      refine Ix.allV_cons (n := 41) (j := 0) (k := 1) rfl rfl ?_; rintro _ _ rfl; refine Ix.allV_cons (n := 40) (j := 1) (k := 2) rfl rfl ?_; rintro _ _ rfl; refine Ix.allV_cons (n := 39) (j := 2) (k := 3) rfl rfl ?_; rintro _ _ rfl; refine Ix.allV_cons (n := 38) (j := 3) (k := 4) rfl rfl ?_; rintro _ _ rfl; refine Ix.allV_cons (n := 37) (j := 4) (k := 5) rfl rfl ?_; rintro _ _ rfl; refine Ix.allV_cons (n := 36) (j := 5) (k := 6) rfl rfl ?_; rintro _ _ rfl; refine Ix.allV_cons (n := 35) (j := 6) (k := 7) rfl rfl ?_; rintro _ _ rfl; refine Ix.allV_cons (n := 34) (j := 7) (k := 8) rfl rfl ?_; rintro _ _ rfl; refine Ix.allV_cons (n := 33) (j := 8) (k := 9) rfl rfl ?_; rintro _ _ rfl; refine Ix.allV_cons (n := 32) (j := 9) (k := 10) rfl rfl ?_; rintro _ _ rfl; refine Ix.allV_cons (n := 31) (j := 10) (k := 11) rfl rfl ?_; rintro _ _ rfl; refine Ix.allV_cons (n := 30) (j := 11) (k := 12) rfl rfl ?_; rintro _ _ rfl; refine Ix.allV_cons (n := 29) (j := 12) (k := 13) rfl rfl ?_; rintro _ _ rfl; refine Ix.allV_cons (n := 28) (j := 13) (k := 14) rfl rfl ?_; rintro _ _ rfl; refine Ix.allV_cons (n := 27) (j := 14) (k := 15) rfl rfl ?_; rintro _ _ rfl; refine Ix.allV_cons (n := 26) (j := 15) (k := 16) rfl rfl ?_; rintro _ _ rfl; refine Ix.allV_cons (n := 25) (j := 16) (k := 17) rfl rfl ?_; rintro _ _ rfl; refine Ix.allV_cons (n := 24) (j := 17) (k := 18) rfl rfl ?_; rintro _ _ rfl; refine Ix.allV_cons (n := 23) (j := 18) (k := 19) rfl rfl ?_; rintro _ _ rfl; refine Ix.allV_cons (n := 22) (j := 19) (k := 20) rfl rfl ?_; rintro _ _ rfl; refine Ix.allV_cons (n := 21) (j := 20) (k := 21) rfl rfl ?_; rintro _ _ rfl; refine Ix.allV_cons (n := 20) (j := 21) (k := 22) rfl rfl ?_; rintro _ _ rfl; refine Ix.allV_cons (n := 19) (j := 22) (k := 23) rfl rfl ?_; rintro _ _ rfl; refine Ix.allV_cons (n := 18) (j := 23) (k := 24) rfl rfl ?_; rintro _ _ rfl; refine Ix.allV_cons (n := 17) (j := 24) (k := 25) rfl rfl ?_; rintro _ _ rfl; refine Ix.allV_cons (n := 16) (j := 25) (k := 26) rfl rfl ?_; rintro _ _ rfl; refine Ix.allV_cons (n := 15) (j := 26) (k := 27) rfl rfl ?_; rintro _ _ rfl; refine Ix.allV_cons (n := 14) (j := 27) (k := 28) rfl rfl ?_; rintro _ _ rfl; refine Ix.allV_cons (n := 13) (j := 28) (k := 29) rfl rfl ?_; rintro _ _ rfl; refine Ix.allV_cons (n := 12) (j := 29) (k := 30) rfl rfl ?_; rintro _ _ rfl; refine Ix.allV_cons (n := 11) (j := 30) (k := 31) rfl rfl ?_; rintro _ _ rfl; refine Ix.allV_cons (n := 10) (j := 31) (k := 32) rfl rfl ?_; rintro _ _ rfl; refine Ix.allV_cons (n := 9) (j := 32) (k := 33) rfl rfl ?_; rintro _ _ rfl; refine Ix.allV_cons (n := 8) (j := 33) (k := 34) rfl rfl ?_; rintro _ _ rfl; refine Ix.allV_cons (n := 7) (j := 34) (k := 35) rfl rfl ?_; rintro _ _ rfl; refine Ix.allV_cons (n := 6) (j := 35) (k := 36) rfl rfl ?_; rintro _ _ rfl; refine Ix.allV_cons (n := 5) (j := 36) (k := 37) rfl rfl ?_; rintro _ _ rfl; refine Ix.allV_cons (n := 4) (j := 37) (k := 38) rfl rfl ?_; rintro _ _ rfl; refine Ix.allV_cons (n := 3) (j := 38) (k := 39) rfl rfl ?_; rintro _ _ rfl; refine Ix.allV_cons (n := 2) (j := 39) (k := 40) rfl rfl ?_; rintro _ _ rfl; refine Ix.allV_cons (n := 1) (j := 40) (k := 41) rfl rfl ?_; rintro _ _ rfl; refine Ix.allV_cons (n := 0) (j := 41) (k := 42) rfl rfl ?_; rintro _ _ rfl
      refine Ix.allV_nil ?_
      (try simp only [Act.put, List.setIfInBounds_toArray, List.set_cons_zero, List.set_cons_succ, List.drop_succ_cons, List.drop_zero])
      go_wp2_with (first | fail)
      refine Ix.only ?_
      go_wp2
      go_ret
      exact ⟨rfl, Ext.trans (Ext.trans HB2.out HB10.out) HF.out⟩
end Go.Proofs.Ytfjgnhmmakeaeaa
