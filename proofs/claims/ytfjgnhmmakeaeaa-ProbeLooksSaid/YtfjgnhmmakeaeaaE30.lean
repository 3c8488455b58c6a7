/- Walks of ref3.SameState and ref3.Same. -/
import Derived.Test.YtfjgnhmmakeaeaaE29
import Derived.Test.YtfjgnhmmakeaeaaE28
import Derived.Laws.StructEq
import Derived.ChangeKeysEq
namespace Go.Proofs.Ytfjgnhmmakeaeaa
open Go.RowKit
set_option linter.unusedVariables false
set_option linter.unusedSimpArgs false
set_option maxRecDepth 100000
open Mc

theorem wp_load_sub {P : Program} {o : Oper} {a : Act} {w : World} {K : Act → World → Prop} {Q : Exit → Act → World → Prop} (ty : TypeId) (x : Operand) (ho : o.op = .load ty x)
    (g k : Nat) (hx : a.eval x = .pointer (some ⟨g, k, none⟩)) (t : TypeId) (cs : Array Value) (vs : List Value) (d : TypeDesc) (hg : Blk w g t cs) (hvs : (cs.toList.drop k).take vs.length = vs)
    (hu : P.underlying ty = some d) (hd : (match d with | .struct _ | .array _ _ => true | _ => false) = true) (hi : (P.info? ty).map (·.size) = some vs.length)
    (h : K (a.put o.dst (.agg vs.toArray)) w) : o.wp P a w K Q := by
  unfold Oper.wp execOp
  simp only [ho, hx, Instr.loadAt, Instr.sureAddr, Sem.run_bind, Sem.run_pure, Result.andThen_ok, run_load_sub w g k t ty cs vs d hg hvs hu hd hi]
  exact h
theorem eq_regs (a0 a1 a2 a3 a4 a5 a6 a7 b0 b1 b2 b3 b4 b5 b6 b7 : Int) (w : World) :
    (Op.equalIn 10000 23 (.agg #[.int .i64 a0, .int .i64 a1, .int .i64 a2, .int .i64 a3, .int .i64 a4, .int .i64 a5, .int .i64 a6, .int .i64 a7]) (.agg #[.int .i64 b0, .int .i64 b1, .int .i64 b2, .int .i64 b3, .int .i64 b4, .int .i64 b5, .int .i64 b6, .int .i64 b7])).run Try.prog w =
      .ok (decide ([a0, a1, a2, a3, a4, a5, a6, a7] = [b0, b1, b2, b3, b4, b5, b6, b7])) w := by
  obtain ⟨i, hi, hz0, hz1, hz2⟩ := info_parts Try.infoI64
  have u3 := Try.underlying3
  have hag : ∀ w, (isAgg 3).run Try.prog w = .ok false w := fun w => by unfold isAgg; rw [Sem.run_bind, run_underlying u3 w]; rfl
  have hsz : ∀ w, (sizeOf 3).run Try.prog w = .ok 1 w := fun w => by simp [sizeOf, typeInfo, hi, hz1]
  rw [show (10000 : Nat) = 9999 + 1 from rfl, Op.equalIn]
  simp only [Sem.run_bind, run_underlying Try.underlying23, Result.andThen_ok, hsz]
  simp only [Std.Legacy.Range.forIn_eq_forIn_range', Std.Legacy.Range.size, Nat.sub_zero, Nat.add_sub_cancel, Nat.div_one, List.range'_succ, List.range'_zero, List.forIn_cons, List.forIn_nil]
  go_simp
  (repeat' split) <;> simp_all
theorem eq_flags (a0 a1 a2 a3 b0 b1 b2 b3 : Bool) (w : World) :
    (Op.equalIn 10000 25 (.agg #[.bool a0, .bool a1, .bool a2, .bool a3]) (.agg #[.bool b0, .bool b1, .bool b2, .bool b3])).run Try.prog w = .ok (decide ([a0, a1, a2, a3] = [b0, b1, b2, b3])) w := by
  have u4 := Try.underlying4
  have hag : ∀ w, (isAgg 4).run Try.prog w = .ok false w := fun w => by unfold isAgg; rw [Sem.run_bind, run_underlying u4 w]; rfl
  have hsz : ∀ w, (sizeOf 4).run Try.prog w = .ok 1 w := fun w => by kernel_rfl
  have hS : Try.prog.underlying 25 = some (.struct (Try.prog.fieldsOf 25)) := by kernel_rfl
  have hp : Try.prog.stoodInHeld 25 = false := by kernel_rfl
  rw [show (10000 : Nat) = 9999 + 1 from rfl, run_equalIn_agg w 9999 25 _ _ hS hp]
  simp only [Program.fieldsOf, Try.underlying25]
  go_simp
  (repeat' split) <;> simp_all
set_option maxHeartbeats 8000000 in
theorem sameState_at (a0 a1 a2 a3 a4 a5 a6 a7 b0 b1 b2 b3 b4 b5 b6 b7 pa pb : Int) (ac az an av bc bz bn bv R E P M : Bool) (va vb : Value) (ha : ∃ x l k, va = .slice x l k) (hb : ∃ x l k, vb = .slice x l k) (w : World)
    (h1 : R = decide ([a0, a1, a2, a3, a4, a5, a6, a7] = [b0, b1, b2, b3, b4, b5, b6, b7])) (h2 : E = decide ([ac, az, an, av] = [bc, bz, bn, bv])) (h3 : (pa == pb) = P)
    (hs : ∀ w1 : World, Below w.heap.size w w1 → Calls Try.prog 26 #[va, vb] w1 fun e w' => e = .returned (.bool M) ∧ Below w1.heap.size w1 w') :
    Calls Try.prog 22 #[stV a0 a1 a2 a3 a4 a5 a6 a7 ac az an av pa va, stV b0 b1 b2 b3 b4 b5 b6 b7 bc bz bn bv pb vb] w fun e w' => e = .returned (.bool (R && E && P && M)) ∧ Below w.heap.size w w' := by
  have q1 : ∀ w, (Op.equalIn 10000 23 (.agg #[.int .i64 a0, .int .i64 a1, .int .i64 a2, .int .i64 a3, .int .i64 a4, .int .i64 a5, .int .i64 a6, .int .i64 a7]) (.agg #[.int .i64 b0, .int .i64 b1, .int .i64 b2, .int .i64 b3, .int .i64 b4, .int .i64 b5, .int .i64 b6, .int .i64 b7])).run Try.prog w = .ok R w := fun w => by rw [h1]; exact eq_regs ..
  have q2 : ∀ w, (Op.equalIn 10000 25 (.agg #[.bool ac, .bool az, .bool an, .bool av]) (.agg #[.bool bc, .bool bz, .bool bn, .bool bv])).run Try.prog w = .ok E w := fun w => by rw [h2]; exact eq_flags ..
  have HS := Lib.hid hs
  obtain ⟨xa, la, ka, rfl⟩ := ha
  obtain ⟨xb, lb, kb, rfl⟩ := hb
  clear hs h1 h2
  cases R
  · go_enter Try.func22, Try.ntmps22
    go_wp2
    go_ret
    exact ⟨rfl, Ext.alloc (Ext.alloc (Below.refl _ _) _) _⟩
  cases E
  · go_enter Try.func22, Try.ntmps22
    go_wp2
    go_ret
    exact ⟨rfl, Ext.alloc (Ext.alloc (Below.refl _ _) _) _⟩
  cases P
  · go_enter Try.func22, Try.ntmps22
    go_wp2
    go_ret
    exact ⟨rfl, Ext.alloc (Ext.alloc (Below.refl _ _) _) _⟩
  · go_enter Try.func22, Try.ntmps22
    go_wp2_with (first | (go_at_call 26; refine (HS.out _ (Ext.alloc (Ext.alloc (Below.refl _ _) _) _)).mono ?_; rintro e wx ⟨rfl, hbx⟩; have HB := Lib.hid (Ext.trans (Ext.alloc (Ext.alloc (Below.refl w.heap.size w) _) _) hbx); clear hbx))
    go_ret
    exact ⟨rfl, HB.out⟩
set_option maxHeartbeats 8000000 in
theorem sameRan_at (ah at_ ar as_ a0 a1 a2 a3 a4 a5 a6 a7 ap bh bt br bs b0 b1 b2 b3 b4 b5 b6 b7 bp : Int) (ac az an av bc bz bn bv C1 C2 C3 C4 SB SS : Bool) (ao am bo bm : Value) (hao : ∃ x l k, ao = .slice x l k) (ham : ∃ x l k, am = .slice x l k) (hbo : ∃ x l k, bo = .slice x l k) (hbm : ∃ x l k, bm = .slice x l k) (w : World)
    (h1 : (ah == bh) = C1) (h2 : (at_ == bt) = C2) (h3 : (ar == br) = C3) (h4 : (as_ == bs) = C4)
    (hsb : ∀ w1 : World, Below w.heap.size w w1 → Calls Try.prog 21 #[ao, bo] w1 fun e w' => e = .returned (.bool SB) ∧ Below w1.heap.size w1 w')
    (hss : ∀ w1 : World, Below w.heap.size w w1 → Calls Try.prog 22 #[stV a0 a1 a2 a3 a4 a5 a6 a7 ac az an av ap am, stV b0 b1 b2 b3 b4 b5 b6 b7 bc bz bn bv bp bm] w1 fun e w' => e = .returned (.bool SS) ∧ Below w1.heap.size w1 w') :
    Calls Try.prog 19 #[.agg #[.int .i64 ah, .int .i64 at_, ao, .int .i64 ar, .int .i64 as_, .int .i64 a0, .int .i64 a1, .int .i64 a2, .int .i64 a3, .int .i64 a4, .int .i64 a5, .int .i64 a6, .int .i64 a7, .bool ac, .bool az, .bool an, .bool av, .int .i64 ap, am], .agg #[.int .i64 bh, .int .i64 bt, bo, .int .i64 br, .int .i64 bs, .int .i64 b0, .int .i64 b1, .int .i64 b2, .int .i64 b3, .int .i64 b4, .int .i64 b5, .int .i64 b6, .int .i64 b7, .bool bc, .bool bz, .bool bn, .bool bv, .int .i64 bp, bm]] w fun e w' => e = .returned (.bool (C1 && C2 && C3 && C4 && SB && SS)) ∧ Below w.heap.size w w' := by
  have HSB := Lib.hid hsb; have HSS := Lib.hid hss
  clear hsb hss
  obtain ⟨xo, lo, ko, rfl⟩ := hao
  obtain ⟨xm, lm, km, rfl⟩ := ham
  obtain ⟨yo, mo, jo, rfl⟩ := hbo
  obtain ⟨ym, mm, jm, rfl⟩ := hbm
  have HA0 : Hid (Blk ((w.alloc (.cells #[.int .i64 ah, .int .i64 at_, (.slice xo lo ko), .int .i64 ar, .int .i64 as_, .int .i64 a0, .int .i64 a1, .int .i64 a2, .int .i64 a3, .int .i64 a4, .int .i64 a5, .int .i64 a6, .int .i64 a7, .bool ac, .bool az, .bool an, .bool av, .int .i64 ap, (.slice xm lm km)] 30)).alloc (.cells #[.int .i64 bh, .int .i64 bt, (.slice yo mo jo), .int .i64 br, .int .i64 bs, .int .i64 b0, .int .i64 b1, .int .i64 b2, .int .i64 b3, .int .i64 b4, .int .i64 b5, .int .i64 b6, .int .i64 b7, .bool bc, .bool bz, .bool bn, .bool bv, .int .i64 bp, (.slice ym mm jm)] 30)) w.heap.size 30 #[.int .i64 ah, .int .i64 at_, (.slice xo lo ko), .int .i64 ar, .int .i64 as_, .int .i64 a0, .int .i64 a1, .int .i64 a2, .int .i64 a3, .int .i64 a4, .int .i64 a5, .int .i64 a6, .int .i64 a7, .bool ac, .bool az, .bool an, .bool av, .int .i64 ap, (.slice xm lm km)]) := (Blk.new w _ _).alloc _
  have HB0 : Hid (Blk ((w.alloc (.cells #[.int .i64 ah, .int .i64 at_, (.slice xo lo ko), .int .i64 ar, .int .i64 as_, .int .i64 a0, .int .i64 a1, .int .i64 a2, .int .i64 a3, .int .i64 a4, .int .i64 a5, .int .i64 a6, .int .i64 a7, .bool ac, .bool az, .bool an, .bool av, .int .i64 ap, (.slice xm lm km)] 30)).alloc (.cells #[.int .i64 bh, .int .i64 bt, (.slice yo mo jo), .int .i64 br, .int .i64 bs, .int .i64 b0, .int .i64 b1, .int .i64 b2, .int .i64 b3, .int .i64 b4, .int .i64 b5, .int .i64 b6, .int .i64 b7, .bool bc, .bool bz, .bool bn, .bool bv, .int .i64 bp, (.slice ym mm jm)] 30)) (w.heap.size + 1) 30 #[.int .i64 bh, .int .i64 bt, (.slice yo mo jo), .int .i64 br, .int .i64 bs, .int .i64 b0, .int .i64 b1, .int .i64 b2, .int .i64 b3, .int .i64 b4, .int .i64 b5, .int .i64 b6, .int .i64 b7, .bool bc, .bool bz, .bool bn, .bool bv, .int .i64 bp, (.slice ym mm jm)]) := by show Blk _ _ _ _; have := Blk.new (w.alloc (.cells #[.int .i64 ah, .int .i64 at_, (.slice xo lo ko), .int .i64 ar, .int .i64 as_, .int .i64 a0, .int .i64 a1, .int .i64 a2, .int .i64 a3, .int .i64 a4, .int .i64 a5, .int .i64 a6, .int .i64 a7, .bool ac, .bool az, .bool an, .bool av, .int .i64 ap, (.slice xm lm km)] 30)) 30 #[.int .i64 bh, .int .i64 bt, (.slice yo mo jo), .int .i64 br, .int .i64 bs, .int .i64 b0, .int .i64 b1, .int .i64 b2, .int .i64 b3, .int .i64 b4, .int .i64 b5, .int .i64 b6, .int .i64 b7, .bool bc, .bool bz, .bool bn, .bool bv, .int .i64 bp, (.slice ym mm jm)]; simpa using this
  cases C1
  · go_enter Try.func19, Try.ntmps19
    go_wp2
    go_ret
    exact ⟨rfl, Ext.alloc (Ext.alloc (Below.refl _ _) _) _⟩
  cases C2
  · go_enter Try.func19, Try.ntmps19
    go_wp2
    go_ret
    exact ⟨rfl, Ext.alloc (Ext.alloc (Below.refl _ _) _) _⟩
  cases C3
  · go_enter Try.func19, Try.ntmps19
    go_wp2
    go_ret
    exact ⟨rfl, Ext.alloc (Ext.alloc (Below.refl _ _) _) _⟩
  cases C4
  · go_enter Try.func19, Try.ntmps19
    go_wp2
    go_ret
    exact ⟨rfl, Ext.alloc (Ext.alloc (Below.refl _ _) _) _⟩
  cases SB
  · go_enter Try.func19, Try.ntmps19
    go_wp2_with (first | (go_at_call 21; refine (HSB.out _ (Ext.alloc (Ext.alloc (Below.refl _ _) _) _)).mono ?_; rintro e wx ⟨rfl, hbx⟩; have HB := Lib.hid (Ext.trans (Ext.alloc (Ext.alloc (Below.refl w.heap.size w) _) _) hbx); have HA1 := Lib.hid (HA0.out.keep hbx); have HA2 := Lib.hid (HB0.out.keep hbx); clear hbx))
    go_ret
    exact ⟨rfl, HB.out⟩
  · go_enter Try.func19, Try.ntmps19
    go_wp2_with (first | (go_at_call 21; refine (HSB.out _ (Ext.alloc (Ext.alloc (Below.refl _ _) _) _)).mono ?_; rintro e wx ⟨rfl, hbx⟩; have HB := Lib.hid (Ext.trans (Ext.alloc (Ext.alloc (Below.refl w.heap.size w) _) _) hbx); have HA1 := Lib.hid (HA0.out.keep hbx); have HA2 := Lib.hid (HB0.out.keep hbx); clear hbx; have y5 : wx.cell? ⟨w.heap.size, 5, none⟩ = some (.int .i64 a0) := (by rw [HA1.out.cell]; rfl); have y6 : wx.cell? ⟨w.heap.size, 6, none⟩ = some (.int .i64 a1) := (by rw [HA1.out.cell]; rfl); have y7 : wx.cell? ⟨w.heap.size, 7, none⟩ = some (.int .i64 a2) := (by rw [HA1.out.cell]; rfl); have y8 : wx.cell? ⟨w.heap.size, 8, none⟩ = some (.int .i64 a3) := (by rw [HA1.out.cell]; rfl); have y9 : wx.cell? ⟨w.heap.size, 9, none⟩ = some (.int .i64 a4) := (by rw [HA1.out.cell]; rfl); have y10 : wx.cell? ⟨w.heap.size, 10, none⟩ = some (.int .i64 a5) := (by rw [HA1.out.cell]; rfl); have y11 : wx.cell? ⟨w.heap.size, 11, none⟩ = some (.int .i64 a6) := (by rw [HA1.out.cell]; rfl); have y12 : wx.cell? ⟨w.heap.size, 12, none⟩ = some (.int .i64 a7) := (by rw [HA1.out.cell]; rfl); have y13 : wx.cell? ⟨w.heap.size, 13, none⟩ = some (.bool ac) := (by rw [HA1.out.cell]; rfl); have y14 : wx.cell? ⟨w.heap.size, 14, none⟩ = some (.bool az) := (by rw [HA1.out.cell]; rfl); have y15 : wx.cell? ⟨w.heap.size, 15, none⟩ = some (.bool an) := (by rw [HA1.out.cell]; rfl); have y16 : wx.cell? ⟨w.heap.size, 16, none⟩ = some (.bool av) := (by rw [HA1.out.cell]; rfl); have y17 : wx.cell? ⟨w.heap.size, 17, none⟩ = some (.int .i64 ap) := (by rw [HA1.out.cell]; rfl); have y18 : wx.cell? ⟨w.heap.size, 18, none⟩ = some (.slice xm lm km) := (by rw [HA1.out.cell]; rfl); have z5 : wx.cell? ⟨w.heap.size + 1, 5, none⟩ = some (.int .i64 b0) := (by rw [HA2.out.cell]; rfl); have z6 : wx.cell? ⟨w.heap.size + 1, 6, none⟩ = some (.int .i64 b1) := (by rw [HA2.out.cell]; rfl); have z7 : wx.cell? ⟨w.heap.size + 1, 7, none⟩ = some (.int .i64 b2) := (by rw [HA2.out.cell]; rfl); have z8 : wx.cell? ⟨w.heap.size + 1, 8, none⟩ = some (.int .i64 b3) := (by rw [HA2.out.cell]; rfl); have z9 : wx.cell? ⟨w.heap.size + 1, 9, none⟩ = some (.int .i64 b4) := (by rw [HA2.out.cell]; rfl); have z10 : wx.cell? ⟨w.heap.size + 1, 10, none⟩ = some (.int .i64 b5) := (by rw [HA2.out.cell]; rfl); have z11 : wx.cell? ⟨w.heap.size + 1, 11, none⟩ = some (.int .i64 b6) := (by rw [HA2.out.cell]; rfl); have z12 : wx.cell? ⟨w.heap.size + 1, 12, none⟩ = some (.int .i64 b7) := (by rw [HA2.out.cell]; rfl); have z13 : wx.cell? ⟨w.heap.size + 1, 13, none⟩ = some (.bool bc) := (by rw [HA2.out.cell]; rfl); have z14 : wx.cell? ⟨w.heap.size + 1, 14, none⟩ = some (.bool bz) := (by rw [HA2.out.cell]; rfl); have z15 : wx.cell? ⟨w.heap.size + 1, 15, none⟩ = some (.bool bn) := (by rw [HA2.out.cell]; rfl); have z16 : wx.cell? ⟨w.heap.size + 1, 16, none⟩ = some (.bool bv) := (by rw [HA2.out.cell]; rfl); have z17 : wx.cell? ⟨w.heap.size + 1, 17, none⟩ = some (.int .i64 bp) := (by rw [HA2.out.cell]; rfl); have z18 : wx.cell? ⟨w.heap.size + 1, 18, none⟩ = some (.slice ym mm jm) := (by rw [HA2.out.cell]; rfl)) | (go_at_call 22; refine (HSS.out _ HB.out).mono ?_; rintro e wy ⟨rfl, hby⟩; have HY := Lib.hid (Ext.trans HB.out hby); clear hby))
    go_ret
    exact ⟨rfl, HY.out⟩
end Go.Proofs.Ytfjgnhmmakeaeaa
