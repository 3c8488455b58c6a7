/- Numbers of any size as objects: DivMod by what is above 0, Mod. -/
import Derived.Test.YtkmcniaaecijdaaN18
namespace Go.Proofs.Ytkmcniaaecijdaa
open Go.RowKit
set_option linter.unusedVariables false
set_option linter.unusedSimpArgs false
set_option maxRecDepth 100000

theorem floor_neg {x y : Int} (hy : 0 < y) (h : x.tmod y < 0) : x.tdiv y - 1 = x / y ∧ x.tmod y + y = x % y := by
  have h1 := Int.tdiv_eq_ediv (a := x) (b := y)
  have h2 := Int.tmod_eq_emod (a := x) (b := y)
  have h3 := Int.emod_nonneg x (show y ≠ 0 by omega)
  by_cases hc : 0 ≤ x ∨ y ∣ x
  · rw [if_pos hc] at h2; omega
  · rw [if_neg hc] at h1 h2
    rw [Int.sign_eq_one_of_pos hy] at h1
    omega
theorem floor_pos {x y : Int} (hy : 0 < y) (h : ¬ x.tmod y < 0) : x.tdiv y = x / y ∧ x.tmod y = x % y := by
  have h1 := Int.tdiv_eq_ediv (a := x) (b := y)
  have h2 := Int.tmod_eq_emod (a := x) (b := y)
  have h3 := Int.emod_lt_of_pos x hy
  by_cases hc : 0 ≤ x ∨ y ∣ x
  · rw [if_pos hc] at h1 h2; omega
  · rw [if_neg hc] at h2; omega
theorem Sm.mono {a b : Nat} (h : Sm b) (hab : a ≤ b) : Sm a := Nat.le_trans (N.ln_mono hab) h
theorem Sm.one : Sm 1 := Sm.of_lt (by decide)
theorem Two2.io {w w' : World} {g h k : Nat} {q r z : Int} (t : Two2 w g h q r w') (hg : k ≠ g) (hh : k ≠ h) (hz : Io w k z) : Io w' k z := t.1.io k z (by rintro (e | e); exact hg e; exact hh e) hz
set_option maxHeartbeats 4000000 in
theorem divMod_ok (g h gx gy : Nat) (z0 r0 x y : Int) (hgh : g ≠ h) (hy0 : 0 < y) (hsy : Sm y.natAbs) (hd : DivIn x.natAbs y.natAbs) (w : World) (hz : Io w g z0) (hr : Io w h r0) (hx : Io w gx x) (hy : Io w gy y) :
    Calls Try.prog 101 #[P g, P gx, P gy, P h] w fun e w' => e = .returned (.tuple #[P g, P h]) ∧ Two2 w g h (x / y) (x % y) w' := by
  have hlg := hz.lt; have hlh := hr.lt
  have hsx : Sm x.natAbs := Nat.le_trans hd.2.1 (by decide)
  have CS : Hid (∀ w0 : World, Io w0 gy y → Calls Try.prog 112 #[P w0.heap.size, P gy] (w0.alloc (.cells #[.bool false, .slice none 0 0] 96)) fun e w' => e = .returned (P w0.heap.size) ∧ Below w0.heap.size w0 w' ∧ Io w' w0.heap.size y) := fun w0 h0 =>
    (set_ok w0.heap.size gy 0 y hsy _ (Io.new w0) (h0.below (Ext.alloc (Below.refl _ _) _))).mono fun e w' ⟨he, hc, hi⟩ => ⟨he, new_chg (Ext.alloc (Below.refl _ _) _) (Nat.le_refl _) hc, hi⟩
  have CQ : Hid (∀ w : World, Io w g z0 → Io w h r0 → Io w gx x → Io w gy y → Calls Try.prog 104 #[P g, P gx, P gy, P h] w fun e w' => e = .returned (.tuple #[P g, P h]) ∧ Two2 w g h (x.tdiv y) (x.tmod y) w') := fun w a b c d => quoRem_ok g h gx gy z0 r0 x y hgh hd w a b c d
  have CN : Hid (∀ w : World, Calls Try.prog 99 #[.int .i64 1] w (NewIo w 1)) := fun w => newInt_ok 1 (by omega) (by omega) w
  have CB : Hid (∀ (w : World) (g1 : Nat), Io w g (x.tdiv y) → Io w g1 1 → Calls Try.prog 85 #[P g, P g, P g1] w fun e w' => e = .returned (P g) ∧ Chg g w w' ∧ Io w' g (x.tdiv y - 1)) := fun w g1 a b =>
    intSub_ok g g g1 _ _ 1 (by rw [quo_abs]; exact hsx.mono (Nat.div_le_self _ _)) Sm.one w a a b
  have CA : Hid (∀ (w : World) (gd : Nat), Io w h (x.tmod y) → Io w gd y → Calls Try.prog 102 #[P h, P h, P gd] w fun e w' => e = .returned (P h) ∧ Chg h w w' ∧ Io w' h (x.tmod y + y)) := fun w gd a b =>
    intAdd_ok h h gd _ _ y (by rw [rem_abs]; exact hsx.mono (Nat.mod_le _ _)) hsy w a a b
  have HZ := Lib.hid hz; have HR := Lib.hid hr; have HX := Lib.hid hx; have HY := Lib.hid hy; have HGH := Lib.hid hgh
  by_cases hm : x.tmod y < 0
  · have HF := Lib.hid (floor_neg hy0 hm)
    have e1 : decide (x.tmod y < 0) = true := by simpa using hm
    have e2 : decide (y < 0) = false := by simp; omega
    have HC1 : Hid (∀ w, Io w h (x.tmod y) → w.cell? ⟨h, 0, none⟩ = some (.bool true)) := fun w hi => by obtain ⟨_, _, _, c, _⟩ := hi.cells; rw [c, e1]
    have HC2 : Hid (∀ w k, Io w k y → w.cell? ⟨k, 0, none⟩ = some (.bool false)) := fun w k hi => by obtain ⟨_, _, _, c, _⟩ := hi.cells; rw [c, e2]
    clear hz hr hx hy hgh hy0 hsy hd hsx hm e1 e2
    go_enter Try.func101, Try.ntmps101
    go_wp2_with (first | (go_at_call 112; refine (CS.out _ HY.out).mono ?_; rintro e w2 ⟨rfl, hb2, hi2⟩; have HB2 := Lib.hid hb2; have HI2 := Lib.hid hi2; clear hb2 hi2) | (go_at_call 104; refine (CQ.out _ (HZ.out.below HB2.out) (HR.out.below HB2.out) (HX.out.below HB2.out) (HY.out.below HB2.out)).mono ?_; rintro e w3 ⟨rfl, ht⟩; have HT := Lib.hid ht; have HD3 := Lib.hid (ht.io (Nat.ne_of_gt hlg) (Nat.ne_of_gt hlh) HI2.out); have k1 := HC1.out _ ht.2.2; have k2 := HC2.out _ _ HD3.out; clear ht) | (go_at_call 99; refine (CN.out _).mono ?_; rintro e w4 ⟨g1, rfl, hg1, hb4, hi4⟩; have HB4 := Lib.hid hb4; have HI4 := Lib.hid hi4; have HD4 := Lib.hid (HD3.out.below hb4); have HQ4 := Lib.hid (HT.out.2.1.below hb4); have HM4 := Lib.hid (HT.out.2.2.below hb4); clear hb4 hi4 k1 k2) | (go_at_call 85; refine (CB.out _ _ HQ4.out HI4.out).mono ?_; rintro e w5 ⟨rfl, hc5, hi5⟩; have HC5 := Lib.hid hc5; have HI5 := Lib.hid hi5; have HM5 := Lib.hid (HM4.out.chg HQ4.out (Ne.symm HGH.out) hc5); have HD5 := Lib.hid (HD4.out.chg HQ4.out (Nat.ne_of_gt hlg) hc5); clear hc5 hi5) | (go_at_call 102; refine (CA.out _ _ HM5.out HD5.out).mono ?_; rintro e w6 ⟨rfl, hc6, hi6⟩; have HC6 := Lib.hid hc6; have HI6 := Lib.hid hi6; clear hc6 hi6))
    go_ret2
    refine ⟨rfl, ?_, ?_, ?_⟩
    · exact (((((Moved.of_below HB2.out).trans HT.out.1).trans (Moved.of_below HB4.out)).trans ((Moved.of_chg HC5.out HQ4.out).mono (fun k hk => .inl hk))).trans ((Moved.of_chg HC6.out HM5.out).mono (fun k hk => .inr hk)))
    · rw [← HF.out.1]; exact HI5.out.chg HM5.out HGH.out HC6.out
    · rw [← HF.out.2]; exact HI6.out
  · have HF := Lib.hid (floor_pos hy0 hm)
    have e1 : decide (x.tmod y < 0) = false := by simpa using hm
    have HC1 : Hid (∀ w, Io w h (x.tmod y) → w.cell? ⟨h, 0, none⟩ = some (.bool false)) := fun w hi => by obtain ⟨_, _, _, c, _⟩ := hi.cells; rw [c, e1]
    clear hz hr hx hy hgh hy0 hsy hd hsx hm e1
    go_enter Try.func101, Try.ntmps101
    go_wp2_with (first | (go_at_call 112; refine (CS.out _ HY.out).mono ?_; rintro e w2 ⟨rfl, hb2, hi2⟩; have HB2 := Lib.hid hb2; have HI2 := Lib.hid hi2; clear hb2 hi2) | (go_at_call 104; refine (CQ.out _ (HZ.out.below HB2.out) (HR.out.below HB2.out) (HX.out.below HB2.out) (HY.out.below HB2.out)).mono ?_; rintro e w3 ⟨rfl, ht⟩; have HT := Lib.hid ht; have k1 := HC1.out _ ht.2.2; clear ht))
    go_ret2
    refine ⟨rfl, (Moved.of_below HB2.out).trans HT.out.1, ?_, ?_⟩
    · rw [← HF.out.1]; exact HT.out.2.1
    · rw [← HF.out.2]; exact HT.out.2.2
set_option maxHeartbeats 2000000 in
theorem mod_ok (h gx gy : Nat) (r0 x y : Int) (hy0 : 0 < y) (hsy : Sm y.natAbs) (hd : DivIn x.natAbs y.natAbs) (w : World) (hr : Io w h r0) (hx : Io w gx x) (hy : Io w gy y) :
    Calls Try.prog 96 #[P h, P gx, P gy] w fun e w' => e = .returned (P h) ∧ Moved (fun k => k = h) w w' ∧ Io w' h (x % y) := by
  have hlh := hr.lt
  have CD : Hid (∀ w0 : World, Io w0 h r0 → Io w0 gx x → Io w0 gy y → Calls Try.prog 101 #[P w0.heap.size, P gx, P gy, P h] (w0.alloc (.cells #[.bool false, .slice none 0 0] 96)) fun e w' => e = .returned (.tuple #[P w0.heap.size, P h]) ∧ Moved (fun k => k = h) w0 w' ∧ Io w' h (x % y)) := fun w0 h1 h2 h3 => by
    have hb : Below w0.heap.size w0 (w0.alloc (.cells #[.bool false, .slice none 0 0] 96)) := Ext.alloc (Below.refl _ _) _
    refine (divMod_ok w0.heap.size h gx gy 0 r0 x y (Nat.ne_of_gt h1.lt) hy0 hsy hd _ (Io.new w0) (h1.below hb) (h2.below hb) (h3.below hb)).mono ?_
    rintro e w' ⟨he, ht, _, hi⟩
    refine ⟨he, ⟨ht.os, ht.tape, ht.output, Nat.le_trans hb.size ht.size, fun k hk hr => ?_, fun k z hk hz => ?_⟩, hi⟩
    · rw [ht.block k (Nat.lt_of_lt_of_le hk hb.size) (by rintro (e | e); omega; exact hr e)]; exact hb.block k hk
    · exact ht.io k z (by rintro (e | e); exact absurd e (Nat.ne_of_lt hz.lt); exact hk e) (hz.below hb)
  have HR := Lib.hid hr; have HX := Lib.hid hx; have HY := Lib.hid hy
  clear hr hx hy hy0 hsy hd
  go_enter Try.func96, Try.ntmps96
  go_wp2_with (first | (go_at_call 101; refine (CD.out _ HR.out HX.out HY.out).mono ?_; rintro e w2 ⟨rfl, hm2, hi2⟩; have HM2 := Lib.hid hm2; have HI2 := Lib.hid hi2; clear hm2 hi2))
  go_ret
  exact ⟨rfl, HM2.out, HI2.out⟩
end Go.Proofs.Ytkmcniaaecijdaa
