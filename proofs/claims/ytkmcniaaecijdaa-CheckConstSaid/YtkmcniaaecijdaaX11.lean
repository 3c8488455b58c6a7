/- Walk of the law CheckConst. No condition. -/
import Derived.Test.YtkmcniaaecijdaaX10
import Derived.LoopTactic
import Derived.Deep.Cut
namespace Go.Proofs.Ytkmcniaaecijdaa
open Go.RowKit
set_option linter.unusedVariables false
set_option linter.unusedSimpArgs false
set_option maxRecDepth 100000
theorem Chg.below_new {w w1 w2 : World} {g : Nat} (h : Below w.heap.size w w1) (hg : w.heap.size ≤ g) (hc : Chg g w1 w2) : Below w.heap.size w w2 := Below.chg h (Nat.le_refl _) hg hc
set_option maxHeartbeats 4000000 in
theorem const_walk (x : X) (cs : List Value) (w : World) (hX : XAt w x cs) (hw : X.Wf x) : Calls Try.prog 4 #[.agg cs.toArray] w fun e w' => e = .returned (.bool true) ∧ Below w.heap.size w w' := by
  obtain ⟨a, c, rfl, _⟩ := hX.open
  obtain ⟨xk, hxk⟩ : ∃ z, z = x.kind := ⟨_, rfl⟩
  obtain ⟨xn, hxn⟩ : ∃ z, z = x.num := ⟨_, rfl⟩
  obtain ⟨xb, hxb⟩ : ∃ z, z = x.bits := ⟨_, rfl⟩
  obtain ⟨xs, hxs⟩ : ∃ z, z = x.sg := ⟨_, rfl⟩
  obtain ⟨xm, hxm⟩ : ∃ z, z = x.name := ⟨_, rfl⟩
  obtain ⟨xl, hxl⟩ : ∃ z, z = x.kids.length := ⟨_, rfl⟩
  rw [← hxk, ← hxn, ← hxb, ← hxs, ← hxm, ← hxl] at hX ⊢
  have HX := Lib.hid hX
  have HCN : Hid (∀ w1 g, XAt w1 x (X.cells xk xn xb xs xm (.slice a xl c)) → CntB w1 g 0 → Calls Try.prog 12 #[P g, .agg #[.int .i64 xk, .int .u64 xn, .int .i64 xb, .bool xs, .string xm, .slice a xl c], .int .i64 1] w1 (CntR g w1 (X.cnt x 0 1))) := fun w1 g h1 h2 => cexpr_ok g x hw w1 _ 0 1 h1 h2 (by omega) (by omega) (by omega)
  obtain ⟨rc, rn, hr⟩ : ∃ rc rn, X.cnt x 0 1 = (rc, rn) := ⟨_, _, rfl⟩
  rw [hr] at HCN
  have K0 := Lib.hid (show Bx (w.alloc (.cells #[.int .i64 xk, .int .u64 xn, .int .i64 xb, .bool xs, .string xm, .slice a xl c] 36)) w.heap.size xk xn xb xs xm (.slice a xl c) from Blk.new _ _ _)
  obtain ⟨x0, x1, x2, x3, x4, x5⟩ := Bx.six K0.out
  have HB0 := Lib.hid (Ext.alloc (Below.refl w.heap.size w) (.cells #[.int .i64 xk, .int .u64 xn, .int .i64 xb, .bool xs, .string xm, .slice a xl c] 36))
  have HBC : Hid (CntB ((w.alloc (.cells #[.int .i64 xk, .int .u64 xn, .int .i64 xb, .bool xs, .string xm, .slice a xl c] 36)).alloc (.cells #[.int .i64 0] 39)) (w.heap.size + 1) 0) := by
    have := Blk.new (w.alloc (.cells #[.int .i64 xk, .int .u64 xn, .int .i64 xb, .bool xs, .string xm, .slice a xl c] 36)) 39 #[.int .i64 0]
    show Blk _ _ _ _
    simpa using this
  have HBB := Lib.hid (Ext.alloc HB0.out (.cells #[.int .i64 0] 39))
  have HKB := Lib.hid (show Bx _ _ _ _ _ _ _ _ from K0.out.alloc (.cells #[.int .i64 0] 39))
  by_cases h0 : rc = 0
  · subst h0
    have hs : X.Shp x := X.cnt_shp x 0 1 (by rw [hr])
    have HC : Hid (∀ w1, XAt w1 x (X.cells xk xn xb xs xm (.slice a xl c)) → Calls Try.prog 13 #[.agg #[.int .i64 xk, .int .u64 xn, .int .i64 xb, .bool xs, .string xm, .slice a xl c]] w1 (UnR (X.cst x).n (X.cst x).b (X.cst x).s (X.cst x).e w1)) := fun w1 h => con_ok x hs hw w1 _ h
    have HR : Hid (∀ w1, XAt w1 x (X.cells xk xn xb xs xm (.slice a xl c)) → Calls Try.prog 14 #[.agg #[.int .i64 xk, .int .u64 xn, .int .i64 xb, .bool xs, .string xm, .slice a xl c]] w1 (UnR (X.cst x).n (X.cst x).b (X.cst x).s (X.cst x).e w1)) := fun w1 h => rcon_ok x hs hw w1 _ h
    obtain ⟨n, hn⟩ : ∃ n, n = (X.cst x).n := ⟨_, rfl⟩
    obtain ⟨b, hb⟩ : ∃ n, n = (X.cst x).b := ⟨_, rfl⟩
    obtain ⟨s, hsg⟩ : ∃ n, n = (X.cst x).s := ⟨_, rfl⟩
    obtain ⟨e, he⟩ : ∃ n, n = (X.cst x).e := ⟨_, rfl⟩
    rw [← hn, ← hb, ← hsg, ← he] at HC HR
    clear hr hs hw hX hn hb hsg he hxk hxn hxb hxs hxm hxl
    go_enter Try.func4, Try.ntmps4
    go_wp2_with (first | (go_at_call 12; refine (HCN.out _ _ (HX.out.keep HBB.out) HBC.out).mono ?_; rintro e w2 ⟨rfl, hc2, _⟩; have HB2 := Lib.hid (Chg.below_new HBB.out (Nat.le_succ _) hc2); have K2 := Lib.hid (HKB.out.grown hc2 (by intro h; injection h with h; omega)); clear hc2 x0 x1 x2 x3 x4 x5; obtain ⟨x0, x1, x2, x3, x4, x5⟩ := Bx.six K2.out) | (go_at_call 13; refine (HC.out _ (HX.out.keep HB2.out)).mono ?_; rintro e w3 ⟨rfl, hb3⟩; have HB3 := Lib.hid (Ext.alloc (Ext.trans HB2.out hb3) (.cells #[.int .i64 b, .bool s] 31)); have K3 := Lib.hid ((K2.out.keep hb3).alloc (.cells #[.int .i64 b, .bool s] 31)); have T3 := Lib.hid (Ty.new w3 rfl b s 31); clear hb3 x0 x1 x2 x3 x4 x5; obtain ⟨x0, x1, x2, x3, x4, x5⟩ := Bx.six K3.out) | (go_at_call 14; refine (HR.out _ (HX.out.keep HB3.out)).mono ?_; rintro e w4 ⟨rfl, hb4⟩; have HB4 := Lib.hid (Ext.alloc (Ext.trans HB3.out hb4) (.cells #[.int .i64 b, .bool s] 31)); have T4 := Lib.hid ((T3.out.below hb4).below (Ext.alloc (Below.refl _ _) (.cells #[.int .i64 b, .bool s] 31))); have U4 := Lib.hid (Ty.new w4 rfl b s 31); clear hb4 x0 x1 x2 x3 x4 x5; obtain ⟨t0, t1, t2, t3⟩ := T4.out; obtain ⟨u0, u1, u2, u3⟩ := U4.out))
    all_goals go_ret
    all_goals exact ⟨rfl, HB4.out⟩
  · have hq : (rc == 0) = false := by simpa using h0
    clear hr hw hX h0 hxk hxn hxb hxs hxm hxl
    go_enter Try.func4, Try.ntmps4
    go_wp2_with (first | (go_at_call 12; refine (HCN.out _ _ (HX.out.keep HBB.out) HBC.out).mono ?_; rintro e w2 ⟨rfl, hc2, _⟩; have HB2 := Lib.hid (Chg.below_new HBB.out (Nat.le_succ _) hc2); clear hc2))
    go_ret
    exact ⟨rfl, HB2.out⟩
end Go.Proofs.Ytkmcniaaecijdaa
