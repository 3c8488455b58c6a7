/- Numbers of any size as objects: Uint64, Int64, Sign, Cmp, sum. -/
import Derived.Test.YtkmcniaaecijdaaN14
import Derived.Test.YtkmcniaaecijdaaNA
namespace Go.Proofs.Ytkmcniaaecijdaa
open Go.RowKit
set_option linter.unusedVariables false
set_option linter.unusedSimpArgs false
set_option maxRecDepth 100000

set_option maxHeartbeats 2000000 in
theorem uint64_ok (g : Nat) (z : Int) (w : World) (hz : Io w g z) :
    Calls Try.prog 82 #[P g] w fun e w' => e = .returned (.int .u64 ((z.natAbs % 18446744073709551616 : Nat) : Int)) ∧ w = w' := by
  obtain ⟨A, l, cap, c0, k1, hn, hl⟩ := hz.cells
  obtain ⟨n, hnn⟩ : ∃ n, n = z.natAbs := ⟨_, rfl⟩
  rw [← hnn] at hn hl ⊢
  have HP := Lib.hid (N.plain_two n)
  obtain ⟨hm, A', cap', e', hc, ha⟩ := hn.open_
  injection e' with e1 e2 e3
  subst e1 e2 e3
  unfold maxLen at hm
  have HH : Hid (∀ j, N.ln n ≤ j → N.wd n j = 0) := fun j hj => N.wd_high (N.lt_ln n) hj
  obtain ⟨L, hL⟩ : ∃ L, L = N.ln n := ⟨_, rfl⟩
  rw [← hL] at hm hc ha k1
  have HA := Lib.hid ha; have HL := Lib.hid hL; clear ha hL hn hl hz c0 hnn
  rcases (show L = 0 ∨ L = 1 ∨ 2 ≤ L by omega) with h0 | h0 | h0
  · have e : Hid (((n % 18446744073709551616 : Nat) : Int) = 0) := by
      have := HP.out; have h1 := HH.out 0 (by rw [← HL.out]; omega); have h2 := HH.out 1 (by rw [← HL.out]; omega)
      show ((n % 18446744073709551616 : Nat) : Int) = 0
      omega
    subst h0
    go_enter Try.func82, Try.ntmps82
    go_wp2
    go_ret
    exact ⟨W.ret1 (W.u64 e.out.symm), rfl⟩
  · subst h0
    obtain ⟨b, off, rfl, hcell⟩ := HA.out (by omega)
    obtain ⟨X, hX⟩ : ∃ X : Int, X = (N.wd n 0 : Nat) := ⟨_, rfl⟩
    have d0 : w.cell? ⟨b, off, none⟩ = some (.int .u32 X) := by rw [hX]; exact hcell 0 (by omega)
    have bx : 0 ≤ X ∧ X < 4294967296 := by have := N.wd_lt n 0; omega
    obtain ⟨bx0, bx1⟩ := bx
    have e : Hid (((n % 18446744073709551616 : Nat) : Int) = X) := by
      have := HP.out; have h2 := HH.out 1 (by rw [← HL.out]; omega)
      show ((n % 18446744073709551616 : Nat) : Int) = X
      omega
    clear hcell hX
    go_enter Try.func82, Try.ntmps82
    go_wp2
    go_ret
    exact ⟨W.ret1 (W.u64 e.out.symm), rfl⟩
  · obtain ⟨b, off, rfl, hcell⟩ := HA.out (by omega)
    obtain ⟨X, hX⟩ : ∃ X : Int, X = (N.wd n 0 : Nat) := ⟨_, rfl⟩
    obtain ⟨Y, hY⟩ : ∃ Y : Int, Y = (N.wd n 1 : Nat) := ⟨_, rfl⟩
    have d0 : w.cell? ⟨b, off, none⟩ = some (.int .u32 X) := by rw [hX]; exact hcell 0 (by omega)
    have d1 : w.cell? ⟨b, off + 1, none⟩ = some (.int .u32 Y) := by rw [hY]; exact hcell 1 (by omega)
    have bx : (0 ≤ X ∧ X < 4294967296) ∧ 0 ≤ Y ∧ Y < 4294967296 := by have := N.wd_lt n 0; have := N.wd_lt n 1; omega
    obtain ⟨⟨bx0, bx1⟩, by0, by1⟩ := bx
    have e : Hid (((n % 18446744073709551616 : Nat) : Int) = X + Y * 4294967296) := by
      have := HP.out
      show ((n % 18446744073709551616 : Nat) : Int) = X + Y * 4294967296
      omega
    have HOR := Lib.hid (or_low X Y bx0 bx1 by0 by1)
    clear hcell hX hY
    go_enter Try.func82, Try.ntmps82
    go_wp2
    go_ret
    exact ⟨W.ret1 (W.u64 (by rw [e.out, ← HOR.out])), rfl⟩
def sgnI (z : Int) : Int := if z = 0 then 0 else if z < 0 then -1 else 1
set_option maxHeartbeats 1000000 in
theorem sign_ok (g : Nat) (z : Int) (w : World) (hz : Io w g z) :
    Calls Try.prog 74 #[P g] w fun e w' => e = .returned (.int .i64 (sgnI z)) ∧ w = w' := by
  obtain ⟨a, l, c, c0, c1, hn, hl⟩ := hz.cells
  obtain ⟨hm, A', cap', e', _, _⟩ := hn.open_
  injection e' with e1 e2 e3
  subst e1 e2 e3
  unfold maxLen at hm
  clear hz hn hl
  by_cases h0 : z = 0
  · subst h0
    have e : Hid (sgnI 0 = 0) := rfl
    go_enter Try.func74, Try.ntmps74
    go_wp2
    go_ret
    exact ⟨W.ret1 (W.i64 e.out.symm), rfl⟩
  · have nl := N.ln_ne (show z.natAbs ≠ 0 by omega)
    obtain ⟨L, hL⟩ : ∃ L, L = N.ln z.natAbs := ⟨_, rfl⟩
    rw [← hL] at nl c1 hm
    clear hL
    by_cases hn : z < 0
    · have e : decide (z < 0) = true := by simpa using hn
      rw [e] at c0
      have es : Hid (sgnI z = -1) := by show sgnI z = -1; unfold sgnI; rw [if_neg h0, if_pos hn]
      clear h0 hn e
      go_enter Try.func74, Try.ntmps74
      go_wp2
      go_ret
      exact ⟨W.ret1 (W.i64 es.out.symm), rfl⟩
    · have e : decide (z < 0) = false := by simpa using hn
      rw [e] at c0
      have es : Hid (sgnI z = 1) := by show sgnI z = 1; unfold sgnI; rw [if_neg h0, if_neg hn]
      clear h0 hn e
      go_enter Try.func74, Try.ntmps74
      go_wp2
      go_ret
      exact ⟨W.ret1 (W.i64 es.out.symm), rfl⟩
def cmpZ (x y : Int) : Int := if x < y then -1 else if y < x then 1 else 0
theorem cmpZ_nn {x y : Int} (hx : 0 ≤ x) (hy : 0 ≤ y) : cmpI x.natAbs y.natAbs = cmpZ x y := by
  unfold cmpI cmpZ
  by_cases h1 : x < y
  · rw [if_pos h1, if_pos (by omega)]
  · rw [if_neg h1, if_neg (by omega)]
    by_cases h2 : y < x
    · rw [if_pos h2, if_pos (by omega)]
    · rw [if_neg h2, if_neg (by omega)]
theorem cmpZ_pp {x y : Int} (hx : x < 0) (hy : y < 0) : -cmpI x.natAbs y.natAbs = cmpZ x y := by
  unfold cmpI cmpZ
  by_cases h1 : x < y
  · rw [if_pos h1, if_neg (by omega), if_pos (by omega)]
  · rw [if_neg h1]
    by_cases h2 : y < x
    · rw [if_pos h2, if_pos (by omega)]; rfl
    · rw [if_neg h2, if_neg (by omega), if_neg (by omega)]; rfl
theorem cmpI_bd (a b : Nat) : -1 ≤ cmpI a b ∧ cmpI a b ≤ 1 := by unfold cmpI; split; omega; split <;> omega
set_option maxHeartbeats 2000000 in
theorem intCmp_ok (g g' : Nat) (x y : Int) (w : World) (hx : Io w g x) (hy : Io w g' y) :
    Calls Try.prog 52 #[P g, P g'] w fun e w' => e = .returned (.int .i64 (cmpZ x y)) ∧ ∃ m, w' = w.drewN m := by
  obtain ⟨a, l, c, c0, c1, hn, hl⟩ := hx.cells
  obtain ⟨a', l', c', d0, d1, hn', hl'⟩ := hy.cells
  have CC : Hid (∀ w : World, Nm w (.slice a l c) x.natAbs → Nm w (.slice a' l' c') y.natAbs → Calls Try.prog 86 #[.slice a l c, .slice a' l' c'] w fun e w' => ∃ C : Int, C = cmpI x.natAbs y.natAbs ∧ -1 ≤ C ∧ C ≤ 1 ∧ e = .returned (.int .i64 C) ∧ ∃ m, w' = w.drewN m) := fun w h1 h2 =>
    (cmp_ok _ _ _ _ w h1 h2).mono fun e w' ⟨he, hm⟩ => ⟨_, rfl, (cmpI_bd _ _).1, (cmpI_bd _ _).2, he, hm⟩
  have HN := Lib.hid hn; have HN' := Lib.hid hn'
  clear hn hn' hl hl' hx hy
  by_cases hx0 : x < 0
  · have e : decide (x < 0) = true := by simpa using hx0
    rw [e] at c0; clear e
    by_cases hy0 : y < 0
    · have e : decide (y < 0) = true := by simpa using hy0
      rw [e] at d0; clear e
      have HF : Hid (-cmpI x.natAbs y.natAbs = cmpZ x y) := cmpZ_pp hx0 hy0
      clear hx0 hy0
      go_enter Try.func52, Try.ntmps52
      go_wp2
      refine Rg.wp_region [] (by kernel_rfl) (by kernel_rfl) ?_
      repeat (first | (refine Rg.wpL_nil ?_) | (refine Rg.wpL_skip rfl ?_; simp only [Act.put, List.setIfInBounds_toArray, List.set_cons_zero, List.set_cons_succ]) | (refine Rg.wpL_q rfl rfl (fun K hK => ?_); go_big_quiet_op; refine hK _ ?_; clear hK K) | (refine Rg.wpL_w rfl rfl (fun K hK => ?_); go_wp2_with (first | fail | fail)))
      go_wp2
      refine Rg.wp_region [] (by kernel_rfl) (by kernel_rfl) ?_
      repeat (first | (refine Rg.wpL_nil ?_) | (refine Rg.wpL_skip rfl ?_; simp only [Act.put, List.setIfInBounds_toArray, List.set_cons_zero, List.set_cons_succ]) | (refine Rg.wpL_q rfl rfl (fun K hK => ?_); go_big_quiet_op; refine hK _ ?_; clear hK K) | (refine Rg.wpL_w rfl rfl (fun K hK => ?_); go_wp2_with (first | fail | (go_at_call 86; refine (CC.out _ (HN.out.drewN 2) (HN'.out.drewN 2)).mono ?_; rintro e w2 ⟨C, hC, hC1, hC2, rfl, m, rfl⟩; have HC := Lib.hid hC; clear hC))))
      have c0' : ((w.drewN 2).drewN m).cell? ⟨g, 0, none⟩ = some (.bool true) := c0
      go_wp2
      go_ret
      exact ⟨W.ret1 (W.i64 (by rw [← HF.out, HC.out])), 2 + m, rfl⟩
    · have e : decide (y < 0) = false := by simpa using hy0
      rw [e] at d0; clear e
      have HF : Hid (cmpZ x y = -1) := by show cmpZ x y = -1; unfold cmpZ; rw [if_pos (by omega)]
      clear hx0 hy0
      go_enter Try.func52, Try.ntmps52
      go_wp2
      refine Rg.wp_region [] (by kernel_rfl) (by kernel_rfl) ?_
      repeat (first | (refine Rg.wpL_nil ?_) | (refine Rg.wpL_skip rfl ?_; simp only [Act.put, List.setIfInBounds_toArray, List.set_cons_zero, List.set_cons_succ]) | (refine Rg.wpL_q rfl rfl (fun K hK => ?_); go_big_quiet_op; refine hK _ ?_; clear hK K) | (refine Rg.wpL_w rfl rfl (fun K hK => ?_); go_wp2_with (first | fail | fail)))
      go_wp2
      go_ret
      exact ⟨W.ret1 (W.i64 HF.out.symm), 1, rfl⟩
  · have e : decide (x < 0) = false := by simpa using hx0
    rw [e] at c0; clear e
    by_cases hy0 : y < 0
    · have e : decide (y < 0) = true := by simpa using hy0
      rw [e] at d0; clear e
      have HF : Hid (cmpZ x y = 1) := by show cmpZ x y = 1; unfold cmpZ; rw [if_neg (by omega), if_pos (by omega)]
      clear hx0 hy0
      go_enter Try.func52, Try.ntmps52
      go_wp2
      refine Rg.wp_region [] (by kernel_rfl) (by kernel_rfl) ?_
      repeat (first | (refine Rg.wpL_nil ?_) | (refine Rg.wpL_skip rfl ?_; simp only [Act.put, List.setIfInBounds_toArray, List.set_cons_zero, List.set_cons_succ]) | (refine Rg.wpL_q rfl rfl (fun K hK => ?_); go_big_quiet_op; refine hK _ ?_; clear hK K) | (refine Rg.wpL_w rfl rfl (fun K hK => ?_); go_wp2_with (first | fail | fail)))
      go_wp2
      go_ret
      exact ⟨W.ret1 (W.i64 HF.out.symm), 1, rfl⟩
    · have e : decide (y < 0) = false := by simpa using hy0
      rw [e] at d0; clear e
      have HF : Hid (cmpI x.natAbs y.natAbs = cmpZ x y) := cmpZ_nn (by omega) (by omega)
      clear hx0 hy0
      go_enter Try.func52, Try.ntmps52
      go_wp2
      refine Rg.wp_region [] (by kernel_rfl) (by kernel_rfl) ?_
      repeat (first | (refine Rg.wpL_nil ?_) | (refine Rg.wpL_skip rfl ?_; simp only [Act.put, List.setIfInBounds_toArray, List.set_cons_zero, List.set_cons_succ]) | (refine Rg.wpL_q rfl rfl (fun K hK => ?_); go_big_quiet_op; refine hK _ ?_; clear hK K) | (refine Rg.wpL_w rfl rfl (fun K hK => ?_); go_wp2_with (first | fail | fail)))
      go_wp2
      refine Rg.wp_region [] (by kernel_rfl) (by kernel_rfl) ?_
      repeat (first | (refine Rg.wpL_nil ?_) | (refine Rg.wpL_skip rfl ?_; simp only [Act.put, List.setIfInBounds_toArray, List.set_cons_zero, List.set_cons_succ]) | (refine Rg.wpL_q rfl rfl (fun K hK => ?_); go_big_quiet_op; refine hK _ ?_; clear hK K) | (refine Rg.wpL_w rfl rfl (fun K hK => ?_); go_wp2_with (first | fail | (go_at_call 86; refine (CC.out _ (HN.out.drewN 2) (HN'.out.drewN 2)).mono ?_; rintro e w2 ⟨C, hC, hC1, hC2, rfl, m, rfl⟩; have HC := Lib.hid hC; clear hC))))
      have c0' : ((w.drewN 2).drewN m).cell? ⟨g, 0, none⟩ = some (.bool false) := c0
      go_wp2
      go_ret
      exact ⟨W.ret1 (W.i64 (by rw [← HF.out, HC.out])), 2 + m, rfl⟩
/-- What sum gives: a sign and words. -/
def SumOk (w : World) (z : Int) (e : Ending) (w' : World) : Prop := ∃ s v, e = .returned (.tuple #[.bool s, v]) ∧ Below w.heap.size w w' ∧ Nm w' v z.natAbs ∧ (s = true → z ≤ 0) ∧ (s = false → 0 ≤ z)
set_option maxHeartbeats 2000000 in
theorem bsum_ok (sx sy : Bool) (u v : Value) (x y : Int) (ha : Sm x.natAbs) (hb : Sm y.natAbs) (hsx : sx = true → x ≤ 0) (hsx2 : sx = false → 0 ≤ x) (hsy : sy = true → y ≤ 0) (hsy2 : sy = false → 0 ≤ y) (w : World) (hu : Nm w u x.natAbs) (hv : Nm w v y.natAbs) :
    Calls Try.prog 109 #[.bool sx, u, .bool sy, v] w (SumOk w (x + y)) := by
  have HU := Lib.hid hu; have HV := Lib.hid hv
  by_cases hs : sx = sy
  · subst hs
    have CA : Hid (∀ w : World, Nm w u x.natAbs → Nm w v y.natAbs → Calls Try.prog 117 #[u, v] w fun e w' => ∃ r, e = .returned r ∧ Below w.heap.size w w' ∧ Nm w' r (x + y).natAbs) := fun w h1 h2 => by
      have := badd_ok u v _ _ ha hb w h1 h2
      have e : (x + y).natAbs = x.natAbs + y.natAbs := by
        cases sx
        · have := hsx2 rfl; have := hsy2 rfl; omega
        · have := hsx rfl; have := hsy rfl; omega
      rw [e]; exact this
    have HS : Hid ((sx = true → x + y ≤ 0) ∧ (sx = false → 0 ≤ x + y)) := ⟨fun h => by have := hsx h; have := hsy h; omega, fun h => by have := hsx2 h; have := hsy2 h; omega⟩
    clear hu hv ha hb hsx hsx2 hsy hsy2
    cases sx <;>
    · go_enter Try.func109, Try.ntmps109
      go_wp2_with (first | (go_at_call 117; refine (CA.out _ HU.out HV.out).mono ?_; rintro e w1 ⟨r, rfl, hb1, hr⟩; have HB := Lib.hid hb1; have HR := Lib.hid hr; clear hb1 hr))
      go_ret2
      exact ⟨_, r, rfl, HB.out, HR.out, by first | exact HS.out.1 | exact (fun _ => HS.out.1 trivial) | (intro h; cases h), by first | exact HS.out.2 | exact (fun _ => HS.out.2 trivial) | (intro h; cases h)⟩
  · have CC : Hid (∀ w : World, Nm w u x.natAbs → Nm w v y.natAbs → Calls Try.prog 86 #[u, v] w fun e w' => ∃ C : Int, C = cmpI x.natAbs y.natAbs ∧ e = .returned (.int .i64 C) ∧ ∃ m, w' = w.drewN m) := fun w h1 h2 =>
      (cmp_ok _ _ _ _ w h1 h2).mono fun e w' ⟨he, hm⟩ => ⟨_, rfl, he, hm⟩
    by_cases hge : y.natAbs ≤ x.natAbs
    · have CS : Hid (∀ w : World, Nm w u x.natAbs → Nm w v y.natAbs → Calls Try.prog 118 #[u, v] w fun e w' => ∃ r, e = .returned r ∧ Below w.heap.size w w' ∧ Nm w' r (x + y).natAbs) := fun w h1 h2 => by
        have := bsub_ok u v _ _ hge ha w h1 h2
        have e : (x + y).natAbs = x.natAbs - y.natAbs := by
          cases sx <;> cases sy <;> first | exact absurd rfl hs | skip
          · have := hsx2 rfl; have := hsy rfl; omega
          · have := hsx rfl; have := hsy2 rfl; omega
        rw [e]; exact this
      have HS : Hid ((sx = true → x + y ≤ 0) ∧ (sx = false → 0 ≤ x + y)) := ⟨fun h => by have := hsx h; omega, fun h => by have := hsx2 h; omega⟩
      have HC0 : Hid (0 ≤ cmpI x.natAbs y.natAbs) := by show 0 ≤ cmpI _ _; unfold cmpI; rw [if_neg (by omega)]; split <;> omega
      clear hu hv ha hb hsx hsx2 hsy hsy2 hge
      cases sx <;> cases sy <;> first | exact absurd rfl hs | skip
      all_goals
        go_enter Try.func109, Try.ntmps109
        go_wp2_with (first | (go_at_call 86; refine (CC.out _ HU.out HV.out).mono ?_; rintro e w2 ⟨C, hC, rfl, m, rfl⟩; have hC0 : 0 ≤ C := (by rw [hC]; exact HC0.out); clear hC) | (go_at_call 118; refine (CS.out _ (HU.out.drewN m) (HV.out.drewN m)).mono ?_; rintro e w1 ⟨r, rfl, hb1, hr⟩; have HB := Lib.hid hb1; have HR := Lib.hid hr; clear hb1 hr))
        go_ret2
        exact ⟨_, r, rfl, Ext.undrewN HB.out, HR.out, by first | exact HS.out.1 | exact (fun _ => HS.out.1 trivial) | (intro h; cases h), by first | exact HS.out.2 | exact (fun _ => HS.out.2 trivial) | (intro h; cases h)⟩
    · have CS : Hid (∀ w : World, Nm w u x.natAbs → Nm w v y.natAbs → Calls Try.prog 118 #[v, u] w fun e w' => ∃ r, e = .returned r ∧ Below w.heap.size w w' ∧ Nm w' r (x + y).natAbs) := fun w h1 h2 => by
        have := bsub_ok v u _ _ (by omega) hb w h2 h1
        have e : (x + y).natAbs = y.natAbs - x.natAbs := by
          cases sx <;> cases sy <;> first | exact absurd rfl hs | skip
          · have := hsx2 rfl; have := hsy rfl; omega
          · have := hsx rfl; have := hsy2 rfl; omega
        rw [e]; exact this
      have HS : Hid ((sy = true → x + y ≤ 0) ∧ (sy = false → 0 ≤ x + y)) := ⟨fun h => by have := hsy h; omega, fun h => by have := hsy2 h; omega⟩
      have HC0 : Hid (cmpI x.natAbs y.natAbs < 0) := by show cmpI _ _ < 0; unfold cmpI; rw [if_pos (by omega)]; omega
      clear hu hv ha hb hsx hsx2 hsy hsy2 hge
      cases sx <;> cases sy <;> first | exact absurd rfl hs | skip
      all_goals
        go_enter Try.func109, Try.ntmps109
        go_wp2_with (first | (go_at_call 86; refine (CC.out _ HU.out HV.out).mono ?_; rintro e w2 ⟨C, hC, rfl, m, rfl⟩; have hC0 : C < 0 := (by rw [hC]; exact HC0.out); clear hC) | (go_at_call 118; refine (CS.out _ (HU.out.drewN m) (HV.out.drewN m)).mono ?_; rintro e w1 ⟨r, rfl, hb1, hr⟩; have HB := Lib.hid hb1; have HR := Lib.hid hr; clear hb1 hr))
        go_ret2
        exact ⟨_, r, rfl, Ext.undrewN HB.out, HR.out, by first | exact HS.out.1 | exact (fun _ => HS.out.1 trivial) | (intro h; cases h), by first | exact HS.out.2 | exact (fun _ => HS.out.2 trivial) | (intro h; cases h)⟩
end Go.Proofs.Ytkmcniaaecijdaa
