/- Walk of ref3.SameBytes. -/
import Derived.Test.YtfjgnhmmakeaeaaB0
import Derived.Test.YtfjgnhmmakeaeaaE28
import Derived.Laws.StructEq
import Derived.ChangeKeysEq
import Derived.Test.YtfjgnhmmakeaeaaB2
namespace Go.Proofs.Ytfjgnhmmakeaeaa
open Go.RowKit
set_option linter.unusedSimpArgs false
set_option linter.unusedVariables false
set_option maxRecDepth 100000

set_option maxHeartbeats 4000000 in
theorem sameb_long (bx ox cx byy oy cyy n : Nat) (xs ys : List Int) (hl : xs.length = n) (hl2 : ys.length = n) (hm : n ≤ 9223372036854775807) (w : World)
    (hx : Hid (∀ j, j < n → w.cell? ⟨bx, ox + j, none⟩ = some (.int .u8 (xs.getD j 0)))) (hy : Hid (∀ j, j < n → w.cell? ⟨byy, oy + j, none⟩ = some (.int .u8 (ys.getD j 0)))) :
    Calls Try.prog 21 #[.slice (some ⟨bx, ox, none⟩) n cx, .slice (some ⟨byy, oy, none⟩) n cyy] w fun e w' => e = .returned (.bool (decide (xs = ys))) ∧ Below w.heap.size w w' := by
  have HL := Lib.hid hl; have HL2 := Lib.hid hl2; clear hl hl2
  have nn : ((n : Int) != (n : Int)) = false := by simp
  go_enter Try.func21, Try.ntmps21
  go_wp2
  go_loopw [5, 13] (fun _ i wr => ∃ k : Nat, k ≤ n ∧ i = .int .i64 k ∧ Hid (∀ j, j < k → xs.getD j 0 = ys.getD j 0) ∧ Hid (∃ m, wr = w.drewN m)) (fun _ i _ => n - (intOf i).toNat)
  case atStart => exact ⟨0, Nat.zero_le _, rfl, (fun j hj => by omega), ⟨0, rfl⟩⟩
  case round =>
    obtain ⟨k, hk, rfl, he, hw⟩ := hrel
    obtain ⟨m, rfl⟩ := hw.out
    clear hw
    by_cases hlt : k < n
    · obtain ⟨X, hX⟩ : ∃ X, X = xs.getD k 0 := ⟨_, rfl⟩
      obtain ⟨Y, hY⟩ : ∃ Y, Y = ys.getD k 0 := ⟨_, rfl⟩
      have cx : w.cell? ⟨bx, ox + k, none⟩ = some (.int .u8 X) := by rw [hX]; exact hx.out k hlt
      have cy : w.cell? ⟨byy, oy + k, none⟩ = some (.int .u8 Y) := by rw [hY]; exact hy.out k hlt
      have HX := Lib.hid hX; have HY := Lib.hid hY; clear hX hY
      by_cases hxy : X = Y
      · have hb : (X != Y) = false := by simp [hxy]
        have HXY := Lib.hid hxy; clear hxy
        go_wp2
        refine Rg.wp_region [] (by kernel_rfl) (by kernel_rfl) ?_
        repeat (first | (refine Rg.wpL_nil ?_) | (refine Rg.wpL_skip rfl ?_; simp only [Act.put, List.setIfInBounds_toArray, List.set_cons_zero, List.set_cons_succ]) | (refine Rg.wpL_q rfl rfl (fun K hK => ?_); go_big_quiet_op; refine hK _ ?_; clear hK K) | (refine Rg.wpL_w rfl rfl (fun K hK => ?_); go_wp2_with (first | fail | fail)))
        go_wp2
        go_roundw
        case rel => exact ⟨k + 1, by omega, by go_num, (fun j hj => by
          by_cases hjk : j < k
          · exact he.out j hjk
          · obtain rfl : j = k := by omega
            rw [← HX.out, ← HY.out]; exact HXY.out), ⟨m + 1, rfl⟩⟩
        case measure => simp [intOf]; omega
      · have hb : (X != Y) = true := by simpa using hxy
        have HXY := Lib.hid hxy; clear hxy
        go_wp2
        refine Rg.wp_region [] (by kernel_rfl) (by kernel_rfl) ?_
        repeat (first | (refine Rg.wpL_nil ?_) | (refine Rg.wpL_skip rfl ?_; simp only [Act.put, List.setIfInBounds_toArray, List.set_cons_zero, List.set_cons_succ]) | (refine Rg.wpL_q rfl rfl (fun K hK => ?_); go_big_quiet_op; refine hK _ ?_; clear hK K) | (refine Rg.wpL_w rfl rfl (fun K hK => ?_); go_wp2_with (first | fail | fail)))
        go_wp2
        go_ret
        exact ⟨W.ret1 (W.bool (by rw [list_ne_at (k := k) (by rw [← HX.out, ← HY.out]; exact HXY.out)])), below_drewN (Below.refl _ _) (m + 1)⟩
    · obtain rfl : k = n := by omega
      go_wp2
      go_ret
      exact ⟨W.ret1 (W.bool (by rw [list_eq_of (xs := xs) (ys := ys) (by rw [HL.out, HL2.out]) (fun j hj => he.out j (by rw [← HL.out]; exact hj))]; simp)), below_drewN (Below.refl _ _) m⟩
set_option maxHeartbeats 1000000 in
theorem sameb_len (a b : Option Addr) (n m ca cb : Nat) (hn : n ≤ 9223372036854775807) (hm : m ≤ 9223372036854775807) (h : n ≠ m) (w : World) :
    Calls Try.prog 21 #[.slice a n ca, .slice b m cb] w fun e w' => e = .returned (.bool false) ∧ Below w.heap.size w w' := by
  have nn : ((n : Int) != (m : Int)) = true := by simp; omega
  go_enter Try.func21, Try.ntmps21
  go_wp2
  go_ret
  exact ⟨rfl, Below.refl _ _⟩
set_option maxHeartbeats 1000000 in
theorem sameb_nil (a b : Option Addr) (ca cb : Nat) (w : World) :
    Calls Try.prog 21 #[.slice a 0 ca, .slice b 0 cb] w fun e w' => e = .returned (.bool true) ∧ Below w.heap.size w w' := by
  go_enter Try.func21, Try.ntmps21
  go_wp2
  refine wp_loop_rounds 1 ?_
  rw [rounds_succ]
  go_wp2
  go_ret
  exact ⟨rfl, Below.refl _ _⟩
/-- THE CONTRACT OF Same. -/
theorem sameb_ok (u v : Value) (n m : Nat) (xs ys : List Int) (w : World) (hu : Rd w 1 u n (xs.map (Value.int .u8))) (hv : Rd w 1 v m (ys.map (Value.int .u8))) :
    Calls Try.prog 21 #[u, v] w fun e w' => e = .returned (.bool (decide (xs = ys))) ∧ Below w.heap.size w w' := by
  obtain ⟨lx, mx, a, ca, rfl, hca, ra⟩ := hu.ints
  obtain ⟨ly, my, b, cb, rfl, hcb, rb⟩ := hv.ints
  have hmx : n ≤ 9223372036854775807 := by unfold maxLen at mx; omega
  have hmy : m ≤ 9223372036854775807 := by unfold maxLen at my; omega
  by_cases h : n = m
  · subst h
    by_cases h0 : n = 0
    · subst h0
      have e1 := List.eq_nil_of_length_eq_zero lx; have e2 := List.eq_nil_of_length_eq_zero ly
      subst e1; subst e2
      exact sameb_nil a b ca cb w
    · obtain ⟨bx, ox, rfl, cx⟩ := ra (by omega)
      obtain ⟨byy, oy, rfl, cy⟩ := rb (by omega)
      exact sameb_long bx ox ca byy oy cb n xs ys lx ly hmx w cx cy
  · have e : decide (xs = ys) = false := by rw [decide_eq_false_iff_not]; intro e; subst e; exact h (lx.symm.trans ly)
    rw [e]
    exact sameb_len a b n m ca cb hmx hmy h w
end Go.Proofs.Ytfjgnhmmakeaeaa
/- Walks of ref3.SameState and ref3.Same. -/
namespace Go.Proofs.Ytfjgnhmmakeaeaa
open Go.RowKit
set_option linter.unusedVariables false
set_option linter.unusedSimpArgs false
set_option maxRecDepth 100000
open Mc

theorem wp_load_sub {P : Program} {o : Oper} {a : Act} {w : World} {K : Act → World → Prop} {Q : Exit → Act → World → Prop} (ty : TypeId) (x : Operand) (ho : o.op = .load ty x)
    (g k : Nat) (hx : a.eval x = .pointer (some ⟨g, k, none⟩)) (t : TypeId) (cs : Array Value) (vs : List Value) (d : TypeDesc) (hg : Blk w g t cs) (hvs : (cs.toList.drop k).take vs.length = vs)
    (hu : P.underlying ty = some d) (hd : (match d with | .struct _ | .array _ _ => true | _ => false) = true) (hi : (P.info? ty).map (·.size) = some vs.length)
    (h : K (a.put o.dst (.agg vs.toArray)) w) : o.wp P a w K Q := by
  unfold Oper.wp execOp
  simp only [ho, hx, Instr.loadAt, Instr.sureAddr, Sem.run_bind, Sem.run_pure, Result.andThen_ok, run_load_sub w g k t ty cs vs d hg hvs hu hd hi]
  exact h
theorem eq_regs (a0 a1 a2 a3 a4 a5 a6 a7 b0 b1 b2 b3 b4 b5 b6 b7 : Int) (w : World) :
    (Op.equalIn 10000 23 (.agg #[.int .i64 a0, .int .i64 a1, .int .i64 a2, .int .i64 a3, .int .i64 a4, .int .i64 a5, .int .i64 a6, .int .i64 a7]) (.agg #[.int .i64 b0, .int .i64 b1, .int .i64 b2, .int .i64 b3, .int .i64 b4, .int .i64 b5, .int .i64 b6, .int .i64 b7])).run Try.prog w =
      .ok (decide ([a0, a1, a2, a3, a4, a5, a6, a7] = [b0, b1, b2, b3, b4, b5, b6, b7])) w := by
  obtain ⟨i, hi, hz0, hz1, hz2⟩ := info_parts Try.infoI64
  have u3 := Try.underlying3
  have hag : ∀ w, (isAgg 3).run Try.prog w = .ok false w := fun w => by unfold isAgg; rw [Sem.run_bind, run_underlying u3 w]; rfl
  have hsz : ∀ w, (sizeOf 3).run Try.prog w = .ok 1 w := fun w => by simp [sizeOf, typeInfo, hi, hz1]
  rw [show (10000 : Nat) = 9999 + 1 from rfl, Op.equalIn]
  simp only [Sem.run_bind, run_underlying Try.underlying23, Result.andThen_ok, hsz]
  simp only [Std.Legacy.Range.forIn_eq_forIn_range', Std.Legacy.Range.size, Nat.sub_zero, Nat.add_sub_cancel, Nat.div_one, List.range'_succ, List.range'_zero, List.forIn_cons, List.forIn_nil]
  go_simp
  (repeat' split) <;> simp_all
theorem eq_flags (a0 a1 a2 a3 b0 b1 b2 b3 : Bool) (w : World) :
    (Op.equalIn 10000 25 (.agg #[.bool a0, .bool a1, .bool a2, .bool a3]) (.agg #[.bool b0, .bool b1, .bool b2, .bool b3])).run Try.prog w = .ok (decide ([a0, a1, a2, a3] = [b0, b1, b2, b3])) w := by
  have u4 := Try.underlying4
  have hag : ∀ w, (isAgg 4).run Try.prog w = .ok false w := fun w => by unfold isAgg; rw [Sem.run_bind, run_underlying u4 w]; rfl
  have hsz : ∀ w, (sizeOf 4).run Try.prog w = .ok 1 w := fun w => by kernel_rfl
  have hS : Try.prog.underlying 25 = some (.struct (Try.prog.fieldsOf 25)) := by kernel_rfl
  have hp : Try.prog.stoodInHeld 25 = false := by kernel_rfl
  rw [show (10000 : Nat) = 9999 + 1 from rfl, run_equalIn_agg w 9999 25 _ _ hS hp]
  simp only [Program.fieldsOf, Try.underlying25]
  go_simp
  (repeat' split) <;> simp_all
set_option maxHeartbeats 8000000 in
theorem sameState_at (a0 a1 a2 a3 a4 a5 a6 a7 b0 b1 b2 b3 b4 b5 b6 b7 pa pb : Int) (ac az an av bc bz bn bv R E P M : Bool) (va vb : Value) (ha : ∃ x l k, va = .slice x l k) (hb : ∃ x l k, vb = .slice x l k) (w : World)
    (h1 : R = decide ([a0, a1, a2, a3, a4, a5, a6, a7] = [b0, b1, b2, b3, b4, b5, b6, b7])) (h2 : E = decide ([ac, az, an, av] = [bc, bz, bn, bv])) (h3 : (pa == pb) = P)
    (hs : ∀ w1 : World, Below w.heap.size w w1 → Calls Try.prog 26 #[va, vb] w1 fun e w' => e = .returned (.bool M) ∧ Below w1.heap.size w1 w') :
    Calls Try.prog 22 #[stV a0 a1 a2 a3 a4 a5 a6 a7 ac az an av pa va, stV b0 b1 b2 b3 b4 b5 b6 b7 bc bz bn bv pb vb] w fun e w' => e = .returned (.bool (R && E && P && M)) ∧ Below w.heap.size w w' := by
  have q1 : ∀ w, (Op.equalIn 10000 23 (.agg #[.int .i64 a0, .int .i64 a1, .int .i64 a2, .int .i64 a3, .int .i64 a4, .int .i64 a5, .int .i64 a6, .int .i64 a7]) (.agg #[.int .i64 b0, .int .i64 b1, .int .i64 b2, .int .i64 b3, .int .i64 b4, .int .i64 b5, .int .i64 b6, .int .i64 b7])).run Try.prog w = .ok R w := fun w => by rw [h1]; exact eq_regs ..
  have q2 : ∀ w, (Op.equalIn 10000 25 (.agg #[.bool ac, .bool az, .bool an, .bool av]) (.agg #[.bool bc, .bool bz, .bool bn, .bool bv])).run Try.prog w = .ok E w := fun w => by rw [h2]; exact eq_flags ..
  have HS := Lib.hid hs
  obtain ⟨xa, la, ka, rfl⟩ := ha
  obtain ⟨xb, lb, kb, rfl⟩ := hb
  clear hs h1 h2
  cases R
  · go_enter Try.func22, Try.ntmps22
    go_wp2
    go_ret
    exact ⟨rfl, Ext.alloc (Ext.alloc (Below.refl _ _) _) _⟩
  cases E
  · go_enter Try.func22, Try.ntmps22
    go_wp2
    go_ret
    exact ⟨rfl, Ext.alloc (Ext.alloc (Below.refl _ _) _) _⟩
  cases P
  · go_enter Try.func22, Try.ntmps22
    go_wp2
    go_ret
    exact ⟨rfl, Ext.alloc (Ext.alloc (Below.refl _ _) _) _⟩
  · go_enter Try.func22, Try.ntmps22
    go_wp2_with (first | (go_at_call 26; refine (HS.out _ (Ext.alloc (Ext.alloc (Below.refl _ _) _) _)).mono ?_; rintro e wx ⟨rfl, hbx⟩; have HB := Lib.hid (Ext.trans (Ext.alloc (Ext.alloc (Below.refl w.heap.size w) _) _) hbx); clear hbx))
    go_ret
    exact ⟨rfl, HB.out⟩
set_option maxHeartbeats 8000000 in
theorem sameRan_at (ah at_ ar as_ a0 a1 a2 a3 a4 a5 a6 a7 ap bh bt br bs b0 b1 b2 b3 b4 b5 b6 b7 bp : Int) (ac az an av bc bz bn bv C1 C2 C3 C4 SB SS : Bool) (ao am bo bm : Value) (hao : ∃ x l k, ao = .slice x l k) (ham : ∃ x l k, am = .slice x l k) (hbo : ∃ x l k, bo = .slice x l k) (hbm : ∃ x l k, bm = .slice x l k) (w : World)
    (h1 : (ah == bh) = C1) (h2 : (at_ == bt) = C2) (h3 : (ar == br) = C3) (h4 : (as_ == bs) = C4)
    (hsb : ∀ w1 : World, Below w.heap.size w w1 → Calls Try.prog 21 #[ao, bo] w1 fun e w' => e = .returned (.bool SB) ∧ Below w1.heap.size w1 w')
    (hss : ∀ w1 : World, Below w.heap.size w w1 → Calls Try.prog 22 #[stV a0 a1 a2 a3 a4 a5 a6 a7 ac az an av ap am, stV b0 b1 b2 b3 b4 b5 b6 b7 bc bz bn bv bp bm] w1 fun e w' => e = .returned (.bool SS) ∧ Below w1.heap.size w1 w') :
    Calls Try.prog 19 #[.agg #[.int .i64 ah, .int .i64 at_, ao, .int .i64 ar, .int .i64 as_, .int .i64 a0, .int .i64 a1, .int .i64 a2, .int .i64 a3, .int .i64 a4, .int .i64 a5, .int .i64 a6, .int .i64 a7, .bool ac, .bool az, .bool an, .bool av, .int .i64 ap, am], .agg #[.int .i64 bh, .int .i64 bt, bo, .int .i64 br, .int .i64 bs, .int .i64 b0, .int .i64 b1, .int .i64 b2, .int .i64 b3, .int .i64 b4, .int .i64 b5, .int .i64 b6, .int .i64 b7, .bool bc, .bool bz, .bool bn, .bool bv, .int .i64 bp, bm]] w fun e w' => e = .returned (.bool (C1 && C2 && C3 && C4 && SB && SS)) ∧ Below w.heap.size w w' := by
  have HSB := Lib.hid hsb; have HSS := Lib.hid hss
  clear hsb hss
  obtain ⟨xo, lo, ko, rfl⟩ := hao
  obtain ⟨xm, lm, km, rfl⟩ := ham
  obtain ⟨yo, mo, jo, rfl⟩ := hbo
  obtain ⟨ym, mm, jm, rfl⟩ := hbm
  have HA0 : Hid (Blk ((w.alloc (.cells #[.int .i64 ah, .int .i64 at_, (.slice xo lo ko), .int .i64 ar, .int .i64 as_, .int .i64 a0, .int .i64 a1, .int .i64 a2, .int .i64 a3, .int .i64 a4, .int .i64 a5, .int .i64 a6, .int .i64 a7, .bool ac, .bool az, .bool an, .bool av, .int .i64 ap, (.slice xm lm km)] 30)).alloc (.cells #[.int .i64 bh, .int .i64 bt, (.slice yo mo jo), .int .i64 br, .int .i64 bs, .int .i64 b0, .int .i64 b1, .int .i64 b2, .int .i64 b3, .int .i64 b4, .int .i64 b5, .int .i64 b6, .int .i64 b7, .bool bc, .bool bz, .bool bn, .bool bv, .int .i64 bp, (.slice ym mm jm)] 30)) w.heap.size 30 #[.int .i64 ah, .int .i64 at_, (.slice xo lo ko), .int .i64 ar, .int .i64 as_, .int .i64 a0, .int .i64 a1, .int .i64 a2, .int .i64 a3, .int .i64 a4, .int .i64 a5, .int .i64 a6, .int .i64 a7, .bool ac, .bool az, .bool an, .bool av, .int .i64 ap, (.slice xm lm km)]) := (Blk.new w _ _).alloc _
  have HB0 : Hid (Blk ((w.alloc (.cells #[.int .i64 ah, .int .i64 at_, (.slice xo lo ko), .int .i64 ar, .int .i64 as_, .int .i64 a0, .int .i64 a1, .int .i64 a2, .int .i64 a3, .int .i64 a4, .int .i64 a5, .int .i64 a6, .int .i64 a7, .bool ac, .bool az, .bool an, .bool av, .int .i64 ap, (.slice xm lm km)] 30)).alloc (.cells #[.int .i64 bh, .int .i64 bt, (.slice yo mo jo), .int .i64 br, .int .i64 bs, .int .i64 b0, .int .i64 b1, .int .i64 b2, .int .i64 b3, .int .i64 b4, .int .i64 b5, .int .i64 b6, .int .i64 b7, .bool bc, .bool bz, .bool bn, .bool bv, .int .i64 bp, (.slice ym mm jm)] 30)) (w.heap.size + 1) 30 #[.int .i64 bh, .int .i64 bt, (.slice yo mo jo), .int .i64 br, .int .i64 bs, .int .i64 b0, .int .i64 b1, .int .i64 b2, .int .i64 b3, .int .i64 b4, .int .i64 b5, .int .i64 b6, .int .i64 b7, .bool bc, .bool bz, .bool bn, .bool bv, .int .i64 bp, (.slice ym mm jm)]) := by show Blk _ _ _ _; have := Blk.new (w.alloc (.cells #[.int .i64 ah, .int .i64 at_, (.slice xo lo ko), .int .i64 ar, .int .i64 as_, .int .i64 a0, .int .i64 a1, .int .i64 a2, .int .i64 a3, .int .i64 a4, .int .i64 a5, .int .i64 a6, .int .i64 a7, .bool ac, .bool az, .bool an, .bool av, .int .i64 ap, (.slice xm lm km)] 30)) 30 #[.int .i64 bh, .int .i64 bt, (.slice yo mo jo), .int .i64 br, .int .i64 bs, .int .i64 b0, .int .i64 b1, .int .i64 b2, .int .i64 b3, .int .i64 b4, .int .i64 b5, .int .i64 b6, .int .i64 b7, .bool bc, .bool bz, .bool bn, .bool bv, .int .i64 bp, (.slice ym mm jm)]; simpa using this
  cases C1
  · go_enter Try.func19, Try.ntmps19
    go_wp2
    go_ret
    exact ⟨rfl, Ext.alloc (Ext.alloc (Below.refl _ _) _) _⟩
  cases C2
  · go_enter Try.func19, Try.ntmps19
    go_wp2
    go_ret
    exact ⟨rfl, Ext.alloc (Ext.alloc (Below.refl _ _) _) _⟩
  cases C3
  · go_enter Try.func19, Try.ntmps19
    go_wp2
    go_ret
    exact ⟨rfl, Ext.alloc (Ext.alloc (Below.refl _ _) _) _⟩
  cases C4
  · go_enter Try.func19, Try.ntmps19
    go_wp2
    go_ret
    exact ⟨rfl, Ext.alloc (Ext.alloc (Below.refl _ _) _) _⟩
  cases SB
  · go_enter Try.func19, Try.ntmps19
    go_wp2_with (first | (go_at_call 21; refine (HSB.out _ (Ext.alloc (Ext.alloc (Below.refl _ _) _) _)).mono ?_; rintro e wx ⟨rfl, hbx⟩; have HB := Lib.hid (Ext.trans (Ext.alloc (Ext.alloc (Below.refl w.heap.size w) _) _) hbx); have HA1 := Lib.hid (HA0.out.keep hbx); have HA2 := Lib.hid (HB0.out.keep hbx); clear hbx))
    go_ret
    exact ⟨rfl, HB.out⟩
  · go_enter Try.func19, Try.ntmps19
    go_wp2_with (first | (go_at_call 21; refine (HSB.out _ (Ext.alloc (Ext.alloc (Below.refl _ _) _) _)).mono ?_; rintro e wx ⟨rfl, hbx⟩; have HB := Lib.hid (Ext.trans (Ext.alloc (Ext.alloc (Below.refl w.heap.size w) _) _) hbx); have HA1 := Lib.hid (HA0.out.keep hbx); have HA2 := Lib.hid (HB0.out.keep hbx); clear hbx; have y5 : wx.cell? ⟨w.heap.size, 5, none⟩ = some (.int .i64 a0) := (by rw [HA1.out.cell]; rfl); have y6 : wx.cell? ⟨w.heap.size, 6, none⟩ = some (.int .i64 a1) := (by rw [HA1.out.cell]; rfl); have y7 : wx.cell? ⟨w.heap.size, 7, none⟩ = some (.int .i64 a2) := (by rw [HA1.out.cell]; rfl); have y8 : wx.cell? ⟨w.heap.size, 8, none⟩ = some (.int .i64 a3) := (by rw [HA1.out.cell]; rfl); have y9 : wx.cell? ⟨w.heap.size, 9, none⟩ = some (.int .i64 a4) := (by rw [HA1.out.cell]; rfl); have y10 : wx.cell? ⟨w.heap.size, 10, none⟩ = some (.int .i64 a5) := (by rw [HA1.out.cell]; rfl); have y11 : wx.cell? ⟨w.heap.size, 11, none⟩ = some (.int .i64 a6) := (by rw [HA1.out.cell]; rfl); have y12 : wx.cell? ⟨w.heap.size, 12, none⟩ = some (.int .i64 a7) := (by rw [HA1.out.cell]; rfl); have y13 : wx.cell? ⟨w.heap.size, 13, none⟩ = some (.bool ac) := (by rw [HA1.out.cell]; rfl); have y14 : wx.cell? ⟨w.heap.size, 14, none⟩ = some (.bool az) := (by rw [HA1.out.cell]; rfl); have y15 : wx.cell? ⟨w.heap.size, 15, none⟩ = some (.bool an) := (by rw [HA1.out.cell]; rfl); have y16 : wx.cell? ⟨w.heap.size, 16, none⟩ = some (.bool av) := (by rw [HA1.out.cell]; rfl); have y17 : wx.cell? ⟨w.heap.size, 17, none⟩ = some (.int .i64 ap) := (by rw [HA1.out.cell]; rfl); have y18 : wx.cell? ⟨w.heap.size, 18, none⟩ = some (.slice xm lm km) := (by rw [HA1.out.cell]; rfl); have z5 : wx.cell? ⟨w.heap.size + 1, 5, none⟩ = some (.int .i64 b0) := (by rw [HA2.out.cell]; rfl); have z6 : wx.cell? ⟨w.heap.size + 1, 6, none⟩ = some (.int .i64 b1) := (by rw [HA2.out.cell]; rfl); have z7 : wx.cell? ⟨w.heap.size + 1, 7, none⟩ = some (.int .i64 b2) := (by rw [HA2.out.cell]; rfl); have z8 : wx.cell? ⟨w.heap.size + 1, 8, none⟩ = some (.int .i64 b3) := (by rw [HA2.out.cell]; rfl); have z9 : wx.cell? ⟨w.heap.size + 1, 9, none⟩ = some (.int .i64 b4) := (by rw [HA2.out.cell]; rfl); have z10 : wx.cell? ⟨w.heap.size + 1, 10, none⟩ = some (.int .i64 b5) := (by rw [HA2.out.cell]; rfl); have z11 : wx.cell? ⟨w.heap.size + 1, 11, none⟩ = some (.int .i64 b6) := (by rw [HA2.out.cell]; rfl); have z12 : wx.cell? ⟨w.heap.size + 1, 12, none⟩ = some (.int .i64 b7) := (by rw [HA2.out.cell]; rfl); have z13 : wx.cell? ⟨w.heap.size + 1, 13, none⟩ = some (.bool bc) := (by rw [HA2.out.cell]; rfl); have z14 : wx.cell? ⟨w.heap.size + 1, 14, none⟩ = some (.bool bz) := (by rw [HA2.out.cell]; rfl); have z15 : wx.cell? ⟨w.heap.size + 1, 15, none⟩ = some (.bool bn) := (by rw [HA2.out.cell]; rfl); have z16 : wx.cell? ⟨w.heap.size + 1, 16, none⟩ = some (.bool bv) := (by rw [HA2.out.cell]; rfl); have z17 : wx.cell? ⟨w.heap.size + 1, 17, none⟩ = some (.int .i64 bp) := (by rw [HA2.out.cell]; rfl); have z18 : wx.cell? ⟨w.heap.size + 1, 18, none⟩ = some (.slice ym mm jm) := (by rw [HA2.out.cell]; rfl)) | (go_at_call 22; refine (HSS.out _ HB.out).mono ?_; rintro e wy ⟨rfl, hby⟩; have HY := Lib.hid (Ext.trans HB.out hby); clear hby))
    go_ret
    exact ⟨rfl, HY.out⟩
end Go.Proofs.Ytfjgnhmmakeaeaa

/- Plain: who has more time comes to the same. No condition. -/
namespace Go.Proofs.Ytfjgnhmmakeaeaa
open Go.RowKit
set_option linter.unusedVariables false
set_option linter.unusedSimpArgs false
set_option maxRecDepth 100000
namespace Mc
/-- A run alone. -/
def goA (cd inp : List Int) : Nat → St → St
  | 0, s => { s with how := 3 }
  | n + 1, s => if (tick cd inp s).how = 0 then goA cd inp n (tick cd inp s) else tick cd inp s
theorem go_alone (E : Env Unit) (hE : ∀ g p, E.sB g p = false) (cd inp : List Int) : ∀ (n : Nat) (s : St) (g : Unit), (go E cd inp n s g).1 = goA cd inp n s
  | 0, s, g => by show (if E.sB g s.pc then _ else _ : St × Unit).1 = _; rw [hE, if_neg (by decide)]; rfl
  | n + 1, s, g => by
    show (if E.sB g s.pc then _ else (if (tick cd inp s).how = 0 then go E cd inp n (tick cd inp s) _ else _) : St × Unit).1 = (if (tick cd inp s).how = 0 then _ else _)
    rw [hE, if_neg (by decide)]
    split
    · exact go_alone E hE cd inp n _ _
    · rfl
theorem n03 : (0 : Int) ≠ 3 := by decide
theorem n13 : (1 : Int) ≠ 3 := by decide
theorem n23 : (2 : Int) ≠ 3 := by decide
theorem n43 : (4 : Int) ≠ 3 := by decide
theorem n53 : (5 : Int) ≠ 3 := by decide
/-- An instruction ends otherwise than by time. -/
theorem exec_how (inp : List Int) (op : Int) (d e : Nat) (imm next : Int) (s : St) : (exec inp op d e imm next s).2 ≠ 3 := by
  unfold exec
  iterate 16 (refine ite_ind (M := fun r : St × Int => r.2 ≠ 3) (fun hyp => ?_) (fun hyp => ?_); (· first | exact n13 | exact n23 | exact n03 | exact n53))
  exact n03
theorem tick_how (cd inp : List Int) (s : St) : (tick cd inp s).how ≠ 3 := by
  show (step cd inp _).2 ≠ 3
  unfold step
  split
  · exact n43
  · exact exec_how _ _ _ _ _ _ _
/-- With more time: the same, if it ended. -/
theorem goA_more (cd inp : List Int) : ∀ (n m : Nat) (s : St), n ≤ m → (goA cd inp n s).how ≠ 3 → goA cd inp m s = goA cd inp n s
  | 0, m, s, _, h => absurd rfl h
  | n + 1, 0, s, hm, _ => by omega
  | n + 1, m + 1, s, hm, h => by
    unfold goA at h ⊢
    split at h
    · rename_i h0; rw [if_pos h0, if_pos h0]; exact goA_more cd inp n m _ (by omega) h
    · rename_i h0; rw [if_neg h0, if_neg h0]
/-- Cut anywhere. -/
theorem goA_split (cd inp : List Int) : ∀ (n m : Nat) (s : St), (goA cd inp n s).how = 3 → ∃ t, goA cd inp n s = { t with how := 3 } ∧ goA cd inp (n + m) s = goA cd inp m t
  | 0, m, s, _ => ⟨s, rfl, by rw [Nat.zero_add]⟩
  | n + 1, m, s, h => by
    unfold goA at h
    split at h
    · rename_i h0
      obtain ⟨t, h1, h2⟩ := goA_split cd inp n m _ h
      refine ⟨t, ?_, ?_⟩
      · show (if _ then _ else _) = _; rw [if_pos h0]; exact h1
      · rw [show n + 1 + m = (n + m) + 1 by omega]; show (if _ then _ else _) = _; rw [if_pos h0]; exact h2
    · exact absurd h (tick_how cd inp s)
/-- What was told is told first; nothing is unread; time goes on. -/
def Le (s t : St) : Prop := (∃ r, t.out = s.out ++ r) ∧ s.read ≤ t.read ∧ s.steps ≤ t.steps
theorem Le.refl (s : St) : Le s s := ⟨⟨[], by simp⟩, Nat.le_refl _, Int.le_refl _⟩
theorem Le.trans {a b c : St} (h : Le a b) (k : Le b c) : Le a c := by
  obtain ⟨⟨r, hr⟩, h2, h3⟩ := h
  obtain ⟨⟨q, hq⟩, k2, k3⟩ := k
  exact ⟨⟨r ++ q, by rw [hq, hr, List.append_assoc]⟩, Nat.le_trans h2 k2, Int.le_trans h3 k3⟩
theorem exec_le (inp : List Int) (op : Int) (d e : Nat) (imm next : Int) (s : St) : Le s (exec inp op d e imm next s).1 := by
  have hs := (exec_steps inp op d e imm next s).1
  suffices h : (∃ r, (exec inp op d e imm next s).1.out = s.out ++ r) ∧ s.read ≤ (exec inp op d e imm next s).1.read from ⟨h.1, h.2, by rw [hs]; exact Int.le_refl _⟩
  clear hs
  have same : ∀ t : St, t.out = s.out → t.read = s.read → (∃ r, t.out = s.out ++ r) ∧ s.read ≤ t.read := fun t h1 h2 => ⟨⟨[], by rw [h1]; simp⟩, by rw [h2]; exact Nat.le_refl _⟩
  unfold exec
  iterate 14 (refine ite_ind (M := fun r : St × Int => (∃ q, r.1.out = s.out ++ q) ∧ s.read ≤ r.1.read) (fun hyp => ?_) (fun hyp => ?_); (· first | exact same _ rfl rfl | exact same _ (two_out _ _ _ _) (two_read _ _ _ _)))
  refine ite_ind (M := fun r : St × Int => (∃ q, r.1.out = s.out ++ q) ∧ s.read ≤ r.1.read) (fun hyp => ?_) (fun hyp => ?_)
  · show (∃ q, (came inp d s).out = s.out ++ q) ∧ s.read ≤ (came inp d s).read
    unfold came; split
    · exact same _ rfl rfl
    · exact ⟨⟨[], by simp⟩, Nat.le_succ _⟩
  refine ite_ind (M := fun r : St × Int => (∃ q, r.1.out = s.out ++ q) ∧ s.read ≤ r.1.read) (fun hyp => ?_) (fun hyp => ?_)
  · exact same _ rfl rfl
  · exact ⟨⟨[s.r e % 256], rfl⟩, Nat.le_refl _⟩
theorem tick_le (cd inp : List Int) (s : St) : Le s (tick cd inp s) := by
  have h : Le { s with steps := s.steps + 1 } (step cd inp { s with steps := s.steps + 1 }).1 := by
    unfold step; split
    · exact Le.refl _
    · exact exec_le _ _ _ _ _ _ _
  obtain ⟨h1, h2, h3⟩ := h
  exact ⟨h1, h2, by rw [tick_steps]; omega⟩
theorem goA_le (cd inp : List Int) : ∀ (n : Nat) (s : St), Le s (goA cd inp n s)
  | 0, s => ⟨⟨[], by show s.out = _; simp⟩, Nat.le_refl _, Int.le_refl _⟩
  | n + 1, s => by
    unfold goA; split
    · exact (tick_le cd inp s).trans (goA_le cd inp n _)
    · exact tick_le cd inp s
/-- More time tells more. -/
theorem goA_grows (cd inp : List Int) (n m : Nat) (s : St) (h : n ≤ m) : Le (goA cd inp n s) (goA cd inp m s) := by
  by_cases h3 : (goA cd inp n s).how = 3
  · obtain ⟨t, h1, h2⟩ := goA_split cd inp n (m - n) s h3
    rw [show n + (m - n) = m by omega] at h2
    rw [h1, h2]
    exact goA_le cd inp (m - n) t
  · rw [goA_more cd inp n m s h h3]; exact Le.refl _
/-- Who ran out of time took it all. -/
theorem goA_steps (cd inp : List Int) : ∀ (n : Nat) (s : St), (goA cd inp n s).how = 3 → (goA cd inp n s).steps = s.steps + n
  | 0, s, _ => by show s.steps = s.steps + 0; omega
  | n + 1, s, h => by
    unfold goA at h ⊢
    split at h
    · rename_i h0; rw [if_pos h0, goA_steps cd inp n _ h, tick_steps]; omega
    · exact absurd h (tick_how cd inp s)
end Mc
end Go.Proofs.Ytfjgnhmmakeaeaa

/- Runs: what is the same; words stay words. -/
namespace Go.Proofs.Ytfjgnhmmakeaeaa
open Go.RowKit
set_option linter.unusedVariables false
set_option linter.unusedSimpArgs false
set_option maxRecDepth 100000
open Mc
theorem ran_cell {w : World} {g : Nat} {l : List Value} (h : Blk w g 30 l.toArray) (k : Nat) {v : Value} (hv : l[k]? = some v) : w.cell? ⟨g, k, none⟩ = some v := by rw [h.cell]; simpa using hv
theorem goA_fine {cd inp : List Int} {nI : Nat} (hn : inp.length = nI) (hby : ∀ x ∈ inp, 0 ≤ x ∧ x < 256) : ∀ (n : Nat) (s : St), Fine nI s → Fine nI (goA cd inp n s)
  | 0, s, h => h
  | n + 1, s, h => by
    unfold goA; split
    · exact goA_fine hn hby n _ (tick_fine hn hby s h)
    · exact tick_fine hn hby s h
theorem runR_ok {F : St} {w w' : World} {e : Ending} (h : RunR 0 F w e w') :
    ∃ oa oc xa xn xc, e = .returned (.tuple #[ranV F (.slice oa F.out.length oc) (.slice xa xn xc), .int .i64 0]) ∧ Rd w' 1 (.slice oa F.out.length oc) F.out.length (F.out.map (Value.int .u8)) ∧ Rd w' 1 (.slice xa xn xc) (top F.mem MS) ((left F.mem).map (Value.int .i64)) ∧ Below w.heap.size w w' := by
  rcases h with ⟨h, _⟩ | ⟨_, ov, mv, he, q1, q2, q3, q4⟩
  · exact absurd rfl h
  · obtain ⟨oa, oc, rfl, _⟩ := own_slice q1
    obtain ⟨xa, xc, rfl, _⟩ := own_slice q2
    have hk : top F.mem MS ≤ 65536 := top_le F.mem MS
    have hm : (65536 : Nat) ≤ maxLen := by unfold maxLen; omega
    exact ⟨oa, oc, xa, _, xc, he, Rd.of_owns q1 (Nat.le_trans q3 hm), Rd.of_owns q2 (Nat.le_trans hk hm), q4⟩
/-- Two states that are the same. -/
theorem sameSt_self (F G : St) (m1 m2 : Value) (n1 n2 : Nat) (w : World) (hr : ∀ k, k < 8 → F.r k = G.r k) (hf : F.c = G.c ∧ F.z = G.z ∧ F.n = G.n ∧ F.v = G.v) (hp : F.pc = G.pc) (xs ys : List Int) (hxy : xs = ys) (h1 : Rd w 1 m1 n1 (xs.map (Value.int .i64))) (h2 : Rd w 1 m2 n2 (ys.map (Value.int .i64))) :
    Calls Try.prog 22 #[stV (F.r 0) (F.r 1) (F.r 2) (F.r 3) (F.r 4) (F.r 5) (F.r 6) (F.r 7) F.c F.z F.n F.v F.pc m1, stV (G.r 0) (G.r 1) (G.r 2) (G.r 3) (G.r 4) (G.r 5) (G.r 6) (G.r 7) G.c G.z G.n G.v G.pc m2] w fun e w' => e = .returned (.bool true) ∧ Below w.heap.size w w' := by
  obtain ⟨hc, hz, hn, hv⟩ := hf
  subst hxy
  refine (sameState_at (F.r 0) (F.r 1) (F.r 2) (F.r 3) (F.r 4) (F.r 5) (F.r 6) (F.r 7) (G.r 0) (G.r 1) (G.r 2) (G.r 3) (G.r 4) (G.r 5) (G.r 6) (G.r 7) F.pc G.pc F.c F.z F.n F.v G.c G.z G.n G.v true true true true m1 m2 (by obtain ⟨_, _, a, c, hs, _⟩ := h1.ints; exact ⟨a, _, c, hs⟩) (by obtain ⟨_, _, a, c, hs, _⟩ := h2.ints; exact ⟨a, _, c, hs⟩) w ?_ ?_ ?_ (fun w1 hb => ?_)).mono (fun e w' h => h)
  · rw [hr 0 (by omega), hr 1 (by omega), hr 2 (by omega), hr 3 (by omega), hr 4 (by omega), hr 5 (by omega), hr 6 (by omega), hr 7 (by omega)]; simp
  · rw [hc, hz, hn, hv]; simp
  · rw [hp]; simp
  · have := same_ok m1 m2 n1 n2 xs xs w1 (h1.below hb) (h2.below hb)
    rw [show decide (xs = xs) = true from by simp] at this
    exact this
theorem sameRan_self (F : St) (o1 o2 m1 m2 : Value) (a1 a2 n1 n2 : Nat) (w : World) (g1 : Rd w 1 o1 a1 (F.out.map (Value.int .u8))) (g2 : Rd w 1 o2 a2 (F.out.map (Value.int .u8))) (h1 : Rd w 1 m1 n1 ((left F.mem).map (Value.int .i64))) (h2 : Rd w 1 m2 n2 ((left F.mem).map (Value.int .i64))) :
    Calls Try.prog 19 #[ranV F o1 m1, ranV F o2 m2] w fun e w' => e = .returned (.bool true) ∧ Below w.heap.size w w' := by
  refine (sameRan_at F.how F.trap F.read F.steps (F.r 0) (F.r 1) (F.r 2) (F.r 3) (F.r 4) (F.r 5) (F.r 6) (F.r 7) F.pc F.how F.trap F.read F.steps (F.r 0) (F.r 1) (F.r 2) (F.r 3) (F.r 4) (F.r 5) (F.r 6) (F.r 7) F.pc F.c F.z F.n F.v F.c F.z F.n F.v true true true true true true o1 m1 o2 m2 (by obtain ⟨_, _, a, c, hs, _⟩ := g1.ints; exact ⟨a, _, c, hs⟩) (by obtain ⟨_, _, a, c, hs, _⟩ := h1.ints; exact ⟨a, _, c, hs⟩) (by obtain ⟨_, _, a, c, hs, _⟩ := g2.ints; exact ⟨a, _, c, hs⟩) (by obtain ⟨_, _, a, c, hs, _⟩ := h2.ints; exact ⟨a, _, c, hs⟩) w (by simp) (by simp) (by simp) (by simp) (fun w1 hb => ?_) (fun w1 hb => ?_)).mono (fun e w' h => h)
  · have := sameb_ok o1 o2 a1 a2 F.out F.out w1 (g1.below hb) (g2.below hb)
    rw [show decide (F.out = F.out) = true from by simp] at this
    exact this
  · exact sameSt_self F F m1 m2 n1 n2 w1 (fun k _ => rfl) ⟨rfl, rfl, rfl, rfl⟩ rfl _ _ rfl (h1.below hb) (h2.below hb)
theorem wary_more {nC nI : Nat} {W fuel more : Int} (h : Mc.wary nC nI W fuel = 0) (h1 : ¬ more < fuel) (h2 : ¬ more > 1000000) : Mc.wary nC nI W more = 0 := by
  unfold Mc.wary at h ⊢
  split at h
  · exact absurd h (by decide)
  rename_i a1
  rw [if_neg a1]
  split at h
  · rename_i a2; exact absurd h a2
  rename_i a2
  rw [if_neg a2]
  split at h
  · exact absurd h (by decide)
  rename_i a3
  rw [if_neg (by omega)]
end Go.Proofs.Ytfjgnhmmakeaeaa
