/- Rsh of a number not below 0; the reference's sign (a closure of Words). -/
import Derived.Test.YtgpjhbaehhjdhaaN31
import Derived.Test.YtgpjhbaehhjdhaaN18
namespace Go.Proofs.Ytgpjhbaehhjdhaa
open Go.RowKit
set_option linter.unusedVariables false
set_option linter.unusedSimpArgs false
set_option maxRecDepth 100000

theorem rsh_abs (x : Int) (n : Nat) (h : 0 ≤ x) : (x / 2 ^ n).natAbs = x.natAbs / 2 ^ n := by
  obtain ⟨X, rfl⟩ := Int.eq_ofNat_of_zero_le h
  have : ((X : Int) / 2 ^ n) = ((X / 2 ^ n : Nat) : Int) := by rw [Int.natCast_ediv, Int.natCast_pow]; rfl
  rw [this]; rfl
set_option maxHeartbeats 4000000 in
theorem rsh_ok (g gx : Nat) (z x : Int) (n : Nat) (hn1 : n ≤ 900) (h0 : 0 ≤ x) (ha : Sm x.natAbs) (w : World) (hz : Io w g z) (hx : Io w gx x) (N' : Int) (hN' : N' = (n : Nat)) :
    Calls Try.prog 96 #[P g, P gx, .int .u64 N'] w fun e w' => e = .returned (P g) ∧ Chg g w w' ∧ Io w' g (x / 2 ^ n) := by
  obtain ⟨a, l, c, c0, c1, hn, hl⟩ := hx.cells
  clear hl
  have CT : Hid (∀ w : World, Nm w (.slice a l c) x.natAbs → Calls Try.prog 125 #[.slice a l c, .int .u64 N'] w fun e w' => ∃ u, e = .returned u ∧ Below w.heap.size w w' ∧ Nm w' u (x / 2 ^ n).natAbs) := fun w h => by
    rw [rsh_abs x n h0]; exact right_ok _ _ n (by omega) ha w h N' hN'
  have hd0 : 0 ≤ x / 2 ^ n := Int.ediv_nonneg h0 (Int.le_of_lt (Int.pow_pos (by decide)))
  have hx0 : decide (x < 0) = false := by simpa using h0
  rw [hx0] at c0
  have CG : Hid (∀ (w : World) (v : Value), Io w g z → Nm w v (x / 2 ^ n).natAbs → Calls Try.prog 121 #[P g, .bool false, v] w fun e w' => e = .returned (P g) ∧ Chg g w w' ∧ Io w' g (x / 2 ^ n)) := fun w v h1 h2 => give_ok g z _ false v w h1 h2 (fun h => by simp at h) (fun _ => hd0)
  have HN := Lib.hid hn; have HZ := Lib.hid hz
  clear hn hz hx ha hN' hd0 hx0
  go_enter Try.func96, Try.ntmps96
  go_wp2_with (first | (go_at_call 125; refine (CT.out _ (HN.out.below (Below.refl _ _))).mono ?_; rintro e w2 ⟨u, rfl, hb2, hu⟩; have HU := Lib.hid hu; have HB2 := Lib.hid hb2; clear hu hb2) | (go_at_call 121; refine (CG.out _ _ (HZ.out.below HB2.out) HU.out).mono ?_; rintro e w3 ⟨rfl, hc, hi⟩; have HC := Lib.hid hc; have HI := Lib.hid hi; clear hc hi))
  go_ret
  exact ⟨rfl, ((Chg.of_below HB2.out).trans HC.out), HI.out⟩
def SomeIo (w : World) (z : Int) (e : Ending) (w' : World) : Prop := ∃ g, e = .returned (P g) ∧ Below w.heap.size w w' ∧ Io w' g z
/-- What a number below 2^m means with a sign. -/
def W.sgn (m : Nat) (x : Int) : Int := if 2 ^ (m - 1) ≤ x then x - 2 ^ m else x
set_option maxHeartbeats 4000000 in
theorem refSign_ok (g c m : Nat) (x M : Int) (hm : 1 ≤ m) (hm4 : m ≤ 64) (hM : M = (m : Nat)) (h0 : 0 ≤ x) (h1 : x < 18446744073709551616) (w : World) (hi : Io w g x) (hc : w.cell? ⟨c, 0, none⟩ = some (.int .i64 M)) :
    Calls Try.prog 92 #[P g, .pointer (some ⟨c, 0, none⟩)] w (SomeIo w (W.sgn m x)) := by
  have hM1 : 1 ≤ M := by omega
  have hM2 : M ≤ 64 := by omega
  obtain ⟨M1, hM1⟩ : ∃ M1, M - 1 = M1 := ⟨_, rfl⟩
  have C1 : Hid (∀ w : World, Calls Try.prog 81 #[.int .i64 M1] w (NewIo w (2 ^ (m - 1)))) := fun w => two_ok (m - 1) (by omega) _ (by omega) w
  have C2 : Hid (∀ w : World, Calls Try.prog 81 #[.int .i64 M] w (NewIo w (2 ^ m))) := fun w => two_ok m (by omega) _ (by omega) w
  have CS : Hid (∀ (w : World) (g1 : Nat), Io w g x → Io w g1 (2 ^ m) → Io w w.heap.size 0 → True) := fun _ _ _ _ _ => trivial
  have HI := Lib.hid hi; have HCc := Lib.hid hc
  have hlt := World.block_lt_of_cell? _ _ hc
  by_cases hge : 2 ^ (m - 1) ≤ x
  · have CC : Hid (∀ (w : World) (g g2 : Nat), Io w g x → Io w g2 (2 ^ (m - 1)) → Calls Try.prog 74 #[P g, P g2] w fun e w' => ∃ C : Int, decide (C ≥ 0) = true ∧ e = .returned (.int .i64 C) ∧ ∃ m, w' = w.drewN m) := fun w g g2 a b =>
      (intCmp_ok g g2 _ _ w a b).mono fun e w' ⟨h1, h2⟩ => ⟨_, by unfold cmpZ; rw [if_neg (by omega)]; split <;> rfl, h1, h2⟩
    have e : W.sgn m x = x - 2 ^ m := by unfold W.sgn; rw [if_pos hge]
    rw [e]
    have hp : Sm ((2 : Int) ^ m).natAbs := by
      refine Sm.of_lt ?_
      rw [Int.natAbs_pow]
      exact Nat.lt_of_le_of_lt (Nat.pow_le_pow_right (by decide) hm4) (by decide)
    have CB : Hid (∀ (w : World) (h g2 : Nat), Io w h 0 → Io w g x → Io w g2 (2 ^ m) → Calls Try.prog 93 #[P h, P g, P g2] w fun e w' => e = .returned (P h) ∧ Chg h w w' ∧ Io w' h (x - 2 ^ m)) := fun w h g2 a b c =>
      intSub_ok h g g2 0 x _ (Sm.of_int h0 h1) hp w a b c
    clear hM hm hm4 h0 h1 hge e hp hi CS
    go_enter Try.func92, Try.ntmps92
    go_wp2_with (first | (go_at_call_of 81 (Value.int IntKind.i64 M1); refine (C1.out _).mono ?_; rintro e w1 ⟨g1, rfl, hg1, hb1, hi1⟩; have HB1 := Lib.hid hb1; have HI1 := Lib.hid hi1; have HX1 := Lib.hid (HI.out.below hb1); have hc1 : w1.cell? ⟨c, 0, none⟩ = some (.int .i64 M) := (by rw [Below.cell hb1 hlt]; exact hc); clear hb1 hi1 hg1) | (go_at_call 74; refine (CC.out _ _ _ HX1.out HI1.out).mono ?_; rintro e w2 ⟨C, hC, rfl, mm, rfl⟩; have HX2 := Lib.hid (HX1.out.below (below_drewN (Below.refl _ _) mm)); have HB2 := Lib.hid (below_drewN HB1.out mm); have hc2 : (w1.drewN mm).cell? ⟨c, 0, none⟩ = some (.int .i64 M) := hc1; have hc3 : ((w1.drewN mm).alloc (.cells #[.bool false, .slice none 0 0] 92)).cell? ⟨c, 0, none⟩ = some (.int .i64 M) := (by rw [Below.cell (Ext.alloc (Below.refl _ _) _) (World.block_lt_of_cell? _ _ hc2)]; exact hc2)) | (go_at_call_of 81 (Value.int IntKind.i64 M); refine (C2.out _).mono ?_; rintro e w3 ⟨g2, rfl, hg2, hb3, hi3⟩; have HI3 := Lib.hid hi3; have HX3 := Lib.hid ((HX2.out.below (Ext.alloc (Below.refl _ _) _)).below hb3); have HN3 := Lib.hid ((Io.new _).below hb3); have HB3 := Lib.hid (Ext.trans (Ext.alloc HB2.out _) hb3); clear hb3 hi3 hg2) | (go_at_call 93; refine (CB.out _ _ _ HN3.out HX3.out HI3.out).mono ?_; rintro e w4 ⟨rfl, hc4, hi4⟩; have HC4 := Lib.hid hc4; have HI4 := Lib.hid hi4; clear hc4 hi4))
    go_ret
    exact ⟨_, rfl, new_chg HB3.out HB2.out.size HC4.out, HI4.out⟩
  · have CC : Hid (∀ (w : World) (g g2 : Nat), Io w g x → Io w g2 (2 ^ (m - 1)) → Calls Try.prog 74 #[P g, P g2] w fun e w' => ∃ C : Int, decide (C ≥ 0) = false ∧ e = .returned (.int .i64 C) ∧ ∃ m, w' = w.drewN m) := fun w g g2 a b =>
      (intCmp_ok g g2 _ _ w a b).mono fun e w' ⟨h1, h2⟩ => ⟨_, by unfold cmpZ; rw [if_pos (by omega)]; rfl, h1, h2⟩
    have e : W.sgn m x = x := by unfold W.sgn; rw [if_neg hge]
    rw [e]
    clear hM hm hm4 h0 h1 hge e hi CS C2
    go_enter Try.func92, Try.ntmps92
    go_wp2_with (first | (go_at_call_of 81 (Value.int IntKind.i64 M1); refine (C1.out _).mono ?_; rintro e w1 ⟨g1, rfl, hg1, hb1, hi1⟩; have HB1 := Lib.hid hb1; have HI1 := Lib.hid hi1; have HX1 := Lib.hid (HI.out.below hb1); clear hb1 hi1 hg1) | (go_at_call 74; refine (CC.out _ _ _ HX1.out HI1.out).mono ?_; rintro e w2 ⟨C, hC, rfl, mm, rfl⟩; have HX2 := Lib.hid (HX1.out.below (below_drewN (Below.refl _ _) mm)); have HB2 := Lib.hid (below_drewN HB1.out mm)))
    go_ret
    exact ⟨_, rfl, HB2.out, HX2.out⟩
end Go.Proofs.Ytgpjhbaehhjdhaa
