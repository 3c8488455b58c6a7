/- The document's machine: what is wrong with a state. -/
import Derived.Test.YtfjgnhmmakeaeaaB8
import Derived.Test.YtfjgnhmmakeaeaaB1
import Derived.Test.YtfjgnhmmakeaeaaEa
import Derived.Test.YtfjgnhmmakeaeaaAp
import Derived.Test.YtfjgnhmmakeaeaaS10
import Derived.Test.YtfjgnhmmakeaeaaB9
namespace Go.Proofs.Ytfjgnhmmakeaeaa
open Go.RowKit
set_option linter.unusedVariables false
set_option linter.unusedSimpArgs false
set_option maxRecDepth 100000
open Mc
theorem rown_open {w : World} {B e s n : Nat} {v : Value} {xs : List Value} (h : w.ownsRow B e s v n xs) (hx : 0 < xs.length) : ∃ g cap cur, v = .slice (some ⟨g, 0, none⟩) n cap ∧ B ≤ g ∧ Blk w g e cur ∧ n ≤ cap ∧ cap ≤ maxLen ∧ cur.size = cap * s ∧ cur.toList.take (n * s) = xs := by
  rcases h.2 with ⟨rfl, hz⟩ | ⟨g, cap, cur, rfl, hbg, hg, hnc, hcm, hcs, htake⟩
  · rw [h.1, hz] at hx; omega
  · exact ⟨g, cap, cur, rfl, hbg, hg, hnc, hcm, hcs, htake⟩
theorem rown_of_blk {w : World} {B e s n cap g : Nat} {cur : Array Value} (hB : B ≤ g) (hb : Blk w g e cur) (hnc : n ≤ cap) (hcm : cap ≤ maxLen) (hcs : cur.size = cap * s) : w.ownsRow B e s (.slice (some ⟨g, 0, none⟩) n cap) n (cur.toList.take (n * s)) :=
  ⟨by rw [List.length_take, Array.length_toList, hcs]; exact Nat.min_eq_left (Nat.mul_le_mul_right _ hnc), .inr ⟨g, cap, cur, rfl, hB, hb, hnc, hcm, hcs, rfl⟩⟩
set_option maxHeartbeats 4000000 in
theorem rwrong_many (r0 r1 r2 r3 r4 r5 r6 r7 pc : Int) (c z n v : Bool) (ma : Option Addr) (mn mc : Nat) (h : 65536 < mn) (w : World) :
    Calls Try.prog 18 #[stV r0 r1 r2 r3 r4 r5 r6 r7 c z n v pc (.slice ma mn mc)] w fun e w' => e = .returned (.int .i64 4) ∧ Below w.heap.size w w' := by
  have h1 : decide ((mn : Int) > 65536) = true := by simp; omega
  go_enter Try.func18, Try.ntmps18
  go_wp2
  go_ret
  exact ⟨rfl, Ext.alloc (Below.refl _ _) _⟩
theorem all_ints (l : List Int) : ∀ u ∈ l.map (Value.int .i64), u.oneCell' = true := by
  intro u hu
  obtain ⟨x, _, rfl⟩ := List.mem_map.1 hu
  rfl
set_option maxHeartbeats 8000000 in
theorem rwrong_in (r0 r1 r2 r3 r4 r5 r6 r7 pc : Int) (c z n v : Bool) (ma : Option Addr) (mn mc : Nat) (ms : List Int) (h : mn ≤ 65536) (w : World) (hr : Rd w 1 (.slice ma mn mc) mn (ms.map (Value.int .i64))) :
    Calls Try.prog 18 #[stV r0 r1 r2 r3 r4 r5 r6 r7 c z n v pc (.slice ma mn mc)] w fun e w' => e = .returned (.int .i64 (if ([pc] ++ ms ++ [r0, r1, r2, r3, r4, r5, r6, r7]).all Mc.inr then 0 else 3)) ∧ Below w.heap.size w w' := by
  have h1 : decide ((mn : Int) > 65536) = false := by simp; omega
  obtain ⟨iI, hi, hz0, hz1, hz2⟩ := info_parts Try.infoI64
  have hlen : ms.length = mn := by have := hr.1; simpa using this
  have HLEN := Lib.hid hlen
  have HMN := Lib.hid h
  obtain ⟨VV, hVV⟩ : ∃ V : Int, V = if ([pc] ++ ms ++ [r0, r1, r2, r3, r4, r5, r6, r7]).all Mc.inr then 0 else 3 := ⟨_, rfl⟩
  rw [← hVV]
  have HVV := Lib.hid hVV; clear hVV
  obtain ⟨wb, hwb⟩ : ∃ wb, wb = w.alloc (.cells #[.int .i64 r0, .int .i64 r1, .int .i64 r2, .int .i64 r3, .int .i64 r4, .int .i64 r5, .int .i64 r6, .int .i64 r7, .bool c, .bool z, .bool n, .bool v, .int .i64 pc, .slice ma mn mc] 27) := ⟨_, rfl⟩
  have HBX : Hid (Blk wb w.heap.size 27 #[.int .i64 r0, .int .i64 r1, .int .i64 r2, .int .i64 r3, .int .i64 r4, .int .i64 r5, .int .i64 r6, .int .i64 r7, .bool c, .bool z, .bool n, .bool v, .int .i64 pc, .slice ma mn mc]) := by rw [hwb]; exact Blk.new _ _ _
  have HW0 : Hid (Below w.heap.size w wb) := by rw [hwb]; exact Ext.alloc (Below.refl _ _) _
  have hwbs : wb.heap.size = w.heap.size + 1 := by rw [hwb]; simp
  obtain ⟨wc, hwc⟩ : ∃ wc, wc = wb.alloc (.cells #[.int .i64 pc] 3) := ⟨_, rfl⟩
  have hb1 : Below wb.heap.size wb wc := by rw [hwc]; exact Ext.alloc (Below.refl _ _) _
  have hown0 : wc.ownsRow wb.heap.size 3 1 (.slice (some ⟨wb.heap.size, 0, none⟩) 1 1) 1 [.int .i64 pc] := by
    have := rown_of_blk (w := wc) (B := wb.heap.size) (e := 3) (s := 1) (n := 1) (cap := 1) (g := wb.heap.size) (cur := #[.int .i64 pc]) (Nat.le_refl _) (by rw [hwc]; exact Blk.new _ _ _) (Nat.le_refl _) (by decide) rfl
    exact this
  obtain ⟨v16, w16, hr16, ho16, hg16, _⟩ := run_append_keep (P := Try.prog) (w := wc) wb.heap.size 22 22 3 iI (.int .i64 0) 8 Try.underlying22 hi hz0 hz1 hz2 rfl _ 1 _ hown0 (.slice ma mn mc) mn (ms.map (Value.int .i64)) (hr.below (Ext.trans HW0.out hb1)) (all_ints _) (by unfold maxLen; omega) (by omega) hb1.size
  have HO16 := Lib.hid ho16
  have HB16 : Hid (Below wb.heap.size wb w16) := hb1.trans (grown_below hg16 hb1.size (own_low hown0))
  have c3 : wb.cell? ⟨w.heap.size, 13, none⟩ = some (.slice ma mn mc) := by rw [HBX.out.cell]; rfl
  have c2 : wb.cell? ⟨w.heap.size, 12, none⟩ = some (.int .i64 pc) := by rw [HBX.out.cell]; rfl
  have c3c : wc.cell? ⟨w.heap.size, 13, none⟩ = some (.slice ma mn mc) := by rw [(HBX.out.keep hb1).cell]; rfl
  clear ho16 hg16 hown0 hb1 hr h hlen
  subst hwc
  rw [hwbs] at hr16
  go_enter Try.func18, Try.ntmps18
  go_upto_region 3 with (fail)
  rw [← hwb]
  clear hwb
  go_wp2_with (first | (at_builtin; refine Lib.wpList_append_run _ rfl _ _ 22 22 rfl _ _ rfl rfl v16 w16 hr16 ?_))
  obtain ⟨RS, hRS⟩ : ∃ l, l = [r0, r1, r2, r3, r4, r5, r6, r7] := ⟨_, rfl⟩
  rw [← hRS] at HVV
  have HRS := Lib.hid hRS
  clear hRS c3 c2 c3c hr16
  go_loopw [3, 17] (fun l i wr => ∃ k : Nat, k ≤ 8 ∧ i = .int .i64 k ∧ Hid (wr.ownsRow wb.heap.size 3 1 l (1 + mn + k) (([pc] ++ ms ++ RS.take k).map (Value.int .i64))) ∧ Hid (Below wb.heap.size wb wr)) (fun _ i _ => 8 - (intOf i).toNat)
  case atStart => exact ⟨0, Nat.zero_le _, rfl, (by show w16.ownsRow _ _ _ _ _ _; have := HO16.out; simpa using this), HB16⟩
  case round =>
    obtain ⟨k, hk, rfl, HO, HBW⟩ := hrel
    obtain ⟨oa, oc, hov, _⟩ := own_slice HO.out
    subst hov
    by_cases hlt : k < 8
    · obtain ⟨x, hx⟩ : ∃ x, x = RS.getD k 0 := ⟨_, rfl⟩
      have hcell : wr.cell? ⟨w.heap.size, k, none⟩ = some (.int .i64 x) := by
        rw [(HBX.out.keep HBW.out).cell, hx, HRS.out]
        rcases k with _ | _ | _ | _ | _ | _ | _ | _ | k <;> first | rfl | omega
      have HNX : Hid (([pc] ++ ms ++ RS.take k).map (Value.int .i64) ++ [.int .i64 x] = ([pc] ++ ms ++ RS.take (k + 1)).map (Value.int .i64)) := by
        have h8 : k < RS.length := by rw [HRS.out]; exact hlt
        show _ = _
        rw [List.take_add_one, List.getElem?_eq_getElem h8, hx, List.getD_eq_getElem?_getD, List.getElem?_eq_getElem h8]
        simp only [List.map_append, List.append_assoc, Option.getD_some, Option.toList_some, List.map_cons, List.map_nil]
      have HM1 : Hid (1 + mn + k ≤ 100000000) := by show _ ≤ _; have := HMN.out; omega
      have HSZ : Hid (wb.heap.size ≤ wr.heap.size) := HBW.out.size
      clear hx
      go_wp2_with (first | (at_builtin; refine wpList_app_int rfl _ _ rfl wb.heap.size _ _ _ _ _ _ rfl rfl HO.out rfl HM1.out HSZ.out ?_; intro aA cA wA ho hg; have HOA := Lib.hid ho; have HGA := Lib.hid hg; clear ho hg))
      go_roundw
      case rel => exact ⟨k + 1, by omega, by go_num, (by have := HOA.out; rw [HNX.out] at this; exact this), Lib.hid (HBW.out.trans (grown_below HGA.out HSZ.out (own_low HO.out)))⟩
      case measure => simp [intOf]; omega
    · obtain rfl : k = 8 := by omega
      obtain ⟨XS, hXS⟩ : ∃ l, l = [pc] ++ ms ++ RS := ⟨_, rfl⟩
      have HOX : Hid (wr.ownsRow wb.heap.size 3 1 (.slice oa (1 + mn + 8) oc) (1 + mn + 8) (XS.map (Value.int .i64))) := by
        have := HO.out
        rw [List.take_of_length_le (by rw [HRS.out]; exact Nat.le_refl _), ← hXS] at this; exact this
      rw [← hXS] at HVV
      have hxl : XS.length = 1 + mn + 8 := by rw [hXS, HRS.out]; simp [HLEN.out]; omega
      clear HO hXS
      obtain ⟨N, hN⟩ : ∃ N, N = 1 + mn + 8 := ⟨_, rfl⟩
      rw [← hN] at HOX hxl ⊢
      have hN1 : N ≤ 65545 ∧ 0 < N := by have := HMN.out; omega
      have HXL := Lib.hid hxl
      obtain ⟨g, cap, cur, hv, hgb, hbk, hcap, _, _, hcs⟩ := rown_open HOX.out (by simp; omega)
      injection hv with hv1 hv2 hv3
      subst hv1; subst hv3
      have HC : Hid (∀ j, j < N → wr.cell? ⟨g, j, none⟩ = some (.int .i64 (XS.getD j 0))) := fun j hj => by
        rw [hbk.cell, ← Array.getElem?_toList]
        have h1 : (cur.toList.take (N * 1))[j]? = (XS.map (Value.int .i64))[j]? := by rw [hcs]
        rw [List.getElem?_take_of_lt (by omega)] at h1
        rw [h1, List.getElem?_map, List.getD_eq_getElem?_getD, List.getElem?_eq_getElem (by rw [hxl]; exact hj)]; rfl
      have HBZ := Lib.hid (Ext.trans HW0.out HBW.out)
      clear hbk hcs hcap hv2 hgb hxl hN HOX HO16 HB16
      obtain ⟨hNa, hNb⟩ := hN1
      go_wp2
      go_loop [30] (fun i => ∃ k : Nat, k ≤ N ∧ i = .int .i64 k ∧ Hid ((XS.take k).all Mc.inr = true)) (fun i => N - (intOf i).toNat)
      case atStart => exact ⟨0, Nat.zero_le _, rfl, (rfl : _ = true)⟩
      case round =>
        obtain ⟨j, hk, rfl, hall⟩ := hrel
        by_cases hlt : j < N
        · obtain ⟨x, hx⟩ : ∃ x, x = XS.getD j 0 := ⟨_, rfl⟩
          have hcell : wr.cell? ⟨g, j, none⟩ = some (.int .i64 x) := by rw [hx]; exact HC.out j hlt
          have HX2 := Lib.hid hx
          have hl9 : Hid (j < XS.length) := by show j < XS.length; rw [HXL.out]; exact hlt
          clear hx
          by_cases hx0 : x < 0
          · have HV : Hid (XS.all Mc.inr = false) := by show _ = _; rw [all_no hl9.out (by rw [← HX2.out]; unfold Mc.inr; simp; omega)]
            have hd0 : decide (x < 0) = true := by simpa using hx0
            go_wp2
            go_ret
            exact ⟨by rw [HVV.out, HV.out]; rfl, HBZ.out⟩
          · have hd0 : decide (x < 0) = false := by simpa using hx0
            by_cases hx1 : x > 65535
            · have HV : Hid (XS.all Mc.inr = false) := by show _ = _; rw [all_no hl9.out (by rw [← HX2.out]; unfold Mc.inr; simp; omega)]
              have hd1 : decide (x > 65535) = true := by simpa using hx1
              go_wp2
              go_ret
              exact ⟨by rw [HVV.out, HV.out]; rfl, HBZ.out⟩
            · have hd1 : decide (x > 65535) = false := by simpa using hx1
              have HN : Hid ((XS.take (j + 1)).all Mc.inr = true) := by show _ = _; rw [all_next hl9.out, hall.out, ← HX2.out]; unfold Mc.inr; simp; omega
              go_wp2
              go_round
              case rel => exact ⟨j + 1, by omega, by go_num, HN⟩
              case measure => simp [intOf]; omega
        · obtain rfl : j = N := by omega
          have HAM : Hid (XS.all Mc.inr = true) := by show _ = _; have := hall.out; rw [List.take_of_length_le (by rw [HXL.out]; exact Nat.le_refl _)] at this; exact this
          clear hall
          go_wp2
          go_ret
          exact ⟨by rw [HVV.out, HAM.out]; rfl, HBZ.out⟩
theorem wr_turn (rs : List Int) (pc : Int) (ms : List Int) : ([pc] ++ ms ++ rs).all Mc.inr = (rs ++ [pc] ++ ms).all Mc.inr := by
  simp only [List.all_append, List.all_cons, List.all_nil, Bool.and_true]
  cases rs.all Mc.inr <;> cases Mc.inr pc <;> cases ms.all Mc.inr <;> rfl
theorem rwrong_ok (r0 r1 r2 r3 r4 r5 r6 r7 pc : Int) (c z n v : Bool) (mv : Value) (mn : Nat) (ms : List Int) (w : World) (hr : Rd w 1 mv mn (ms.map (Value.int .i64))) :
    Calls Try.prog 18 #[stV r0 r1 r2 r3 r4 r5 r6 r7 c z n v pc mv] w fun e w' => e = .returned (.int .i64 (Mc.wr [r0, r1, r2, r3, r4, r5, r6, r7] pc ms)) ∧ Below w.heap.size w w' := by
  obtain ⟨hl, hm, ma, mc, hv, _, _⟩ := hr.ints
  subst hv
  unfold Mc.wr
  by_cases h : 65536 < mn
  · rw [if_pos (by omega)]; exact rwrong_many r0 r1 r2 r3 r4 r5 r6 r7 pc c z n v ma mn mc h w
  · rw [if_neg (by omega), ← wr_turn]; exact rwrong_in r0 r1 r2 r3 r4 r5 r6 r7 pc c z n v ma mn mc ms (by omega) w hr
end Go.Proofs.Ytfjgnhmmakeaeaa
/- The document's machine: how a run begins and ends in memory. No condition. -/
namespace Go.Proofs.Ytfjgnhmmakeaeaa
open Go.RowKit Go.Maps
set_option linter.unusedVariables false
set_option linter.unusedSimpArgs false
set_option maxRecDepth 100000
open Mc
theorem Box3.setHow {w : World} {B : Nat} {L : Lay3} {N : Nat} {ms : List Int} {s : St} {ov : Value} (h : Box3 w B L N ms s ov) (x : Int) : Box3 w B L N ms { s with how := x } ov := ⟨h.blk, h.put, h.lo1, h.lo2, h.out⟩
theorem Box3.setSteps {w : World} {B : Nat} {L : Lay3} {N : Nat} {ms : List Int} {s : St} {ov : Value} (h : Box3 w B L N ms s ov) (x : Int) : Box3 (w.setCell ⟨L.bb, 20, none⟩ (.int .i64 x)) B L N ms { s with steps := x } ov := h.set 20 _ { s with steps := x } rfl rfl rfl
/-- The box as it is made. -/
theorem box3_start (w : World) (cv iv : Value) (ma : Option Addr) (mn mc : Nat) (r : Nat → Int) (c z n v : Bool) (pc : Int) (ms : List Int) :
    Box3 ((w.alloc (.map #[] 0)).alloc (.cells (cells3 ⟨w.heap.size + 1, w.heap.size, cv, iv, ma, mn, mc⟩ (Mc.begin r c z n v pc ms) (.slice none 0 0)) 88)) w.heap.size ⟨w.heap.size + 1, w.heap.size, cv, iv, ma, mn, mc⟩ 0 ms (Mc.begin r c z n v pc ms) (.slice none 0 0) := by
  refine ⟨?_, ?_, Nat.le_succ _, Nat.le_refl _, World.ownsRow_nil _ _ _ _⟩
  · have := Blk.new (w.alloc (.map #[] 0)) 88 (cells3 ⟨w.heap.size + 1, w.heap.size, cv, iv, ma, mn, mc⟩ (Mc.begin r c z n v pc ms) (.slice none 0 0))
    simpa using this
  · refine ⟨.map [], (World.ownsMap_made w Try.prog 3 (plainElem Try.prog 3)).alloc _, fun j hj => ⟨fun h => ?_, fun _ => rfl⟩⟩
    cases h
/-- The loop of a run, at its head. -/
structure Loop3 (cd inp : List Int) (nI : Nat) (fuel : Int) (ms : List Int) (w3 : World) (B : Nat) (L : Lay3) (fin : St) (i : Value) (wr : World) : Prop where
  of ::
  get : ∃ (s : St) (n N : Nat) (ov : Value), i = .int .i64 s.how ∧ Box3 wr B L N ms s ov ∧ Below B w3 wr ∧ Fine nI s ∧ s.steps + n = fuel ∧ (N : Int) ≤ s.steps ∧ (s.how = 0 → (go Mc.alone cd inp n s ()).1 = fin) ∧ (s.how ≠ 0 → s = fin)
def msr3 (fuel : Int) (bb : Nat) (i : Value) (w : World) : Nat := 2 * msr fuel bb w + (if intOf i = 0 then 1 else 0)
theorem own_take {w : World} {B e s n k c : Nat} {a : Option Addr} {xs : List Value} (h : w.ownsRow B e s (.slice a n c) n xs) (hk : k ≤ n) : w.ownsRow B e s (.slice a k c) k (xs.take (k * s)) := by
  obtain ⟨hl, h2⟩ := h
  refine ⟨by rw [List.length_take, hl, Nat.min_eq_left (Nat.mul_le_mul_right _ hk)], ?_⟩
  rcases h2 with ⟨h3, rfl⟩ | ⟨g', cap, cur, hv, hbb, hg', hc, hm, hsz, htake⟩
  · obtain rfl : k = 0 := by omega
    injection h3 with h4 h5 h6
    subst h4; subst h6
    exact .inl ⟨rfl, rfl⟩
  · injection hv with h4 h5 h6
    subst h4; subst h6
    exact .inr ⟨g', _, cur, rfl, hbb, hg', by omega, hm, hsz, by rw [← htake, List.take_take, Nat.min_eq_left (Nat.mul_le_mul_right _ hk)]⟩
/-- The box at the end. -/
theorem box3_end {w W wr : World} {B N ZB : Nat} {L : Lay3} {ms : List Int} {s : St} {ov : Value} {g k m c : Nat} (h : Box3 W B L N ms s ov) (hlo : s.out.length ≤ 65536) (hk : k ≤ m) (hm : m = MS) (ht : top s.mem MS = k) (hz : Blk W ZB 30 ranZc) (hB : w.heap.size ≤ B) (hZ : w.heap.size ≤ ZB)
    (hw : Below w.heap.size w W) (hb : Below W.heap.size W wr) (ho : wr.ownsRow W.heap.size 3 1 (.slice (some ⟨g, 0, none⟩) m c) m (((List.range m).map s.mem).map (Value.int .i64))) :
    Blk (wr.setCell ⟨L.bb, 14, none⟩ (.slice (some ⟨g, 0, none⟩) k c)) L.bb 88 (cells3 ⟨L.bb, L.mp, L.cv, L.iv, some ⟨g, 0, none⟩, k, c⟩ s ov) ∧
    Blk (wr.setCell ⟨L.bb, 14, none⟩ (.slice (some ⟨g, 0, none⟩) k c)) ZB 30 ranZc ∧
    ∀ wf, Below (wr.setCell ⟨L.bb, 14, none⟩ (.slice (some ⟨g, 0, none⟩) k c)).heap.size (wr.setCell ⟨L.bb, 14, none⟩ (.slice (some ⟨g, 0, none⟩) k c)) wf → ∀ cs', ((wf.setRow ZB cs').ownsRow w.heap.size 5 1 ov s.out.length (s.out.map (Value.int .u8)) ∧
      (wf.setRow ZB cs').ownsRow w.heap.size 3 1 (.slice (some ⟨g, 0, none⟩) k c) (top s.mem MS) ((left s.mem).map (Value.int .i64)) ∧
      Below w.heap.size w (wf.setRow ZB cs')) := by
  have hb3 := h.keep hb
  have hz3 := hz.keep hb
  have hne : ZB ≠ L.bb := fun e => by subst e; exact hb3.blk.ne_ hz3 (by decide) rfl
  have z5 : Blk (wr.setCell ⟨L.bb, 14, none⟩ (.slice (some ⟨g, 0, none⟩) k c)) ZB 30 ranZc := hz3.far hne _
  refine ⟨hb3.blk.set_ 14 _, z5, fun wf hf cs' => ⟨?_, ?_, ?_⟩⟩
  · exact own_mono hB (ownsRow_farRow (ownsRow_below (ownsRow_far hb3.out hb3.blk (by decide) 14 _) hf) (z5.keep hf) (by decide) cs')
  · have h1 := own_take ho hk
    rw [Nat.mul_one, ← List.map_take, ← List.map_take, List.take_range, Nat.min_eq_left hk] at h1
    have := ownsRow_farRow (ownsRow_below (ownsRow_far h1 hb3.blk (by decide) 14 (.slice (some ⟨g, 0, none⟩) k c)) hf) (z5.keep hf) (by decide) cs'
    rw [show left s.mem = (List.range k).map s.mem by unfold left; rw [ht], ht]
    exact own_mono hw.size this
  · exact Below.row (Ext.trans (Below.setCell (Ext.trans hw hb) (p := ⟨L.bb, 14, none⟩) (Nat.le_trans hB h.lo1) _) hf) hZ _
end Go.Proofs.Ytfjgnhmmakeaeaa
