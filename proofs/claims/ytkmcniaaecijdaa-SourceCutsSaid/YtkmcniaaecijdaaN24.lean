/- The reference's Meant: what bits mean. -/
import Derived.Test.YtkmcniaaecijdaaN20
namespace Go.Proofs.Ytkmcniaaecijdaa
open Go.RowKit
set_option linter.unusedVariables false
set_option linter.unusedSimpArgs false
set_option maxRecDepth 100000

theorem cmpZ_ge {x y : Int} : 0 ≤ cmpZ x y ↔ y ≤ x := by
  unfold cmpZ
  by_cases h1 : x < y
  · rw [if_pos h1]; omega
  · rw [if_neg h1]; split <;> omega
set_option maxHeartbeats 4000000 in
theorem meant_ok (x v : Int) (s : Bool) (h : W.ok v) (hx : W.U x) (w : World) : Calls Try.prog 51 #[.int .u64 x, .int .i64 v, .bool s] w (NewIo w (W.mn v x s)) := by
  obtain ⟨X, hX⟩ : ∃ X, X = x % W.md v := ⟨_, rfl⟩
  have hXU : W.U X := by rw [hX]; exact ⟨W.mod_lo _ _, W.mod_le _ _⟩
  have hXm : X < W.md v := by rw [hX]; exact W.mod_hi _ _
  obtain ⟨n, hn1, hn2, hn3, hn4, hn5⟩ := W.md_two v h
  obtain ⟨H, hH⟩ : ∃ H : Int, H = 2 ^ (n - 1) := ⟨_, rfl⟩
  obtain ⟨M, hM⟩ : ∃ M : Int, M = W.md v := ⟨_, rfl⟩
  have hM2 := W.md_le v
  rw [← hH, ← hM] at hn5
  rw [← hM] at hXm hM2
  have C1 : Hid (∀ w : World, Calls Try.prog 79 #[.int .u64 x] w (NewIo w x)) := fun w => whole_ok x hx.1 hx.2 w
  have CF : Hid (∀ (w : World) (g : Nat), Io w g x → Calls Try.prog 70 #[P g, .int .i64 v] w fun e w' => e = .returned (.int .u64 X) ∧ Below w.heap.size w w') := fun w g hi => by
    rw [hX]; exact fit_ok g x v h (N.ln_64 hx.1 hx.2) w hi
  have C2 : Hid (∀ w : World, Calls Try.prog 79 #[.int .u64 X] w (NewIo w X)) := fun w => whole_ok X hXU.1 hXU.2 w
  have CH : Hid (∀ w : World, Calls Try.prog 84 #[.int .i64 (v - 1)] w (NewIo w H)) := fun w => by rw [hH]; exact two_ok (n - 1) (by omega) _ (by omega) w
  have CM : Hid (∀ w : World, Calls Try.prog 84 #[.int .i64 v] w (NewIo w M)) := fun w => by rw [hM, ← hn3]; exact two_ok n (by omega) v hn2 w
  have CC : Hid (∀ (w : World) (g g2 : Nat), Io w g X → Io w g2 H → Calls Try.prog 52 #[P g, P g2] w fun e w' => ∃ C : Int, C = cmpZ X H ∧ e = .returned (.int .i64 C) ∧ ∃ m, w' = w.drewN m) := fun w g g2 a b =>
    (intCmp_ok g g2 X H w a b).mono fun e w' ⟨h1, h2⟩ => ⟨_, rfl, h1, h2⟩
  have CS : Hid (∀ (w : World) (g g2 : Nat), Io w g X → Io w g2 M → Calls Try.prog 85 #[P g, P g, P g2] w fun e w' => e = .returned (P g) ∧ Chg g w w' ∧ Io w' g (X - M)) := fun w g g2 a b =>
    intSub_ok g g g2 _ X M (Sm.of_lt (Nat.lt_of_lt_of_le (m := 18446744073709551616) (by have := hXU.1; have := hXU.2; omega) (by decide))) (by rw [hM]; exact W.md_sm v h) w a a b
  have HS : Hid (W.sg v x = if X < H then X else X - M) := by
    show W.sg v x = _
    unfold W.sg
    rw [← hX, ← hM]
    by_cases hc : X < H
    · rw [if_pos hc, if_pos (by omega)]
    · rw [if_neg hc, if_neg (by omega)]
  have HX := Lib.hid hX
  have bv : 8 ≤ v ∧ v ≤ 64 := by rcases h with rfl | rfl | rfl | rfl <;> omega
  obtain ⟨bv0, bv1⟩ := bv
  clear hX hXU hXm hn1 hn2 hn3 hn4 hn5 hH hM hM2 h hx
  cases s
  · have HF : Hid (W.mn v x false = X) := by show W.mn v x false = X; rw [HX.out]; rfl
    rw [HF.out]
    go_enter Try.func51, Try.ntmps51
    go_wp2_with (first | (go_at_call_of 79 (Value.int IntKind.u64 x); refine (C1.out _).mono ?_; rintro e w2 ⟨ga, rfl, hga, hb2, hi2⟩; have HB2 := Lib.hid hb2; have HI2 := Lib.hid hi2; clear hb2 hi2 hga) | (go_at_call 70; refine (CF.out _ _ HI2.out).mono ?_; rintro e w3 ⟨rfl, hb3⟩; have HB3 := Lib.hid hb3; clear hb3) | (go_at_call 79; refine (C2.out _).mono ?_; rintro e w4 ⟨g, rfl, hg, hb4, hi4⟩; have HB4 := Lib.hid hb4; have HI4 := Lib.hid hi4; have HG := Lib.hid hg; clear hb4 hi4 hg))
    go_ret
    exact ⟨g, rfl, Nat.le_trans (Ext.trans HB2.out HB3.out).size HG.out, Ext.trans (Ext.trans HB2.out HB3.out) HB4.out, HI4.out⟩
  · by_cases hc : X < H
    · have HF : Hid (W.mn v x true = X) := by show W.mn v x true = X; show W.sg v x = X; rw [HS.out, if_pos hc]
      rw [HF.out]
      have HC : Hid (cmpZ X H < 0) := by show cmpZ X H < 0; have := (cmpZ_ge (x := X) (y := H)); omega
      clear hc
      go_enter Try.func51, Try.ntmps51
      go_wp2_with (first | (go_at_call_of 79 (Value.int IntKind.u64 x); refine (C1.out _).mono ?_; rintro e w2 ⟨ga, rfl, hga, hb2, hi2⟩; have HB2 := Lib.hid hb2; have HI2 := Lib.hid hi2; clear hb2 hi2 hga) | (go_at_call 70; refine (CF.out _ _ HI2.out).mono ?_; rintro e w3 ⟨rfl, hb3⟩; have HB3 := Lib.hid hb3; clear hb3) | (go_at_call 79; refine (C2.out _).mono ?_; rintro e w4 ⟨g, rfl, hg, hb4, hi4⟩; have HB4 := Lib.hid hb4; have HI4 := Lib.hid hi4; have HG := Lib.hid hg; clear hb4 hi4 hg) | (go_at_call 84; refine (CH.out _).mono ?_; rintro e w5 ⟨g2, rfl, hg2, hb5, hi5⟩; have HB5 := Lib.hid hb5; have HI5 := Lib.hid hi5; have HX5 := Lib.hid (HI4.out.below hb5); clear hb5 hi5 hg2) | (go_at_call 52; refine (CC.out _ _ _ HX5.out HI5.out).mono ?_; rintro e w6 ⟨C, hC, rfl, m, rfl⟩; have hC0 : C < 0 := (by rw [hC]; exact HC.out); clear hC))
      go_ret
      exact ⟨g, rfl, Nat.le_trans (Ext.trans HB2.out HB3.out).size HG.out, below_drewN (Ext.trans (Ext.trans (Ext.trans HB2.out HB3.out) HB4.out) HB5.out) m, HX5.out.drewN m⟩
    · have HF : Hid (W.mn v x true = X - M) := by show W.mn v x true = X - M; show W.sg v x = X - M; rw [HS.out, if_neg hc]
      rw [HF.out]
      have HC : Hid (0 ≤ cmpZ X H) := cmpZ_ge.2 (by omega)
      clear hc
      go_enter Try.func51, Try.ntmps51
      go_wp2_with (first | (go_at_call_of 79 (Value.int IntKind.u64 x); refine (C1.out _).mono ?_; rintro e w2 ⟨ga, rfl, hga, hb2, hi2⟩; have HB2 := Lib.hid hb2; have HI2 := Lib.hid hi2; clear hb2 hi2 hga) | (go_at_call 70; refine (CF.out _ _ HI2.out).mono ?_; rintro e w3 ⟨rfl, hb3⟩; have HB3 := Lib.hid hb3; clear hb3) | (go_at_call 79; refine (C2.out _).mono ?_; rintro e w4 ⟨g, rfl, hg, hb4, hi4⟩; have HB4 := Lib.hid hb4; have HI4 := Lib.hid hi4; have HG := Lib.hid hg; clear hb4 hi4 hg) | (go_at_call_of 84 (Value.int IntKind.i64 v); refine (CM.out _).mono ?_; rintro e w7 ⟨g3, rfl, hg3, hb7, hi7⟩; have HB7 := Lib.hid hb7; have HI7 := Lib.hid hi7; have HX7 := Lib.hid ((HX5.out.drewN m).below hb7); clear hb7 hi7 hg3) | (go_at_call 84; refine (CH.out _).mono ?_; rintro e w5 ⟨g2, rfl, hg2, hb5, hi5⟩; have HB5 := Lib.hid hb5; have HI5 := Lib.hid hi5; have HX5 := Lib.hid (HI4.out.below hb5); clear hb5 hi5 hg2) | (go_at_call 52; refine (CC.out _ _ _ HX5.out HI5.out).mono ?_; rintro e w6 ⟨C, hC, rfl, m, rfl⟩; have hC0 : 0 ≤ C := (by rw [hC]; exact HC.out); clear hC) | (go_at_call 85; refine (CS.out _ _ _ HX7.out HI7.out).mono ?_; rintro e w8 ⟨rfl, hc8, hi8⟩; have HC8 := Lib.hid hc8; have HI8 := Lib.hid hi8; clear hc8 hi8))
      go_ret
      have hle : w.heap.size ≤ g := Nat.le_trans (Ext.trans HB2.out HB3.out).size HG.out
      exact ⟨g, rfl, hle, new_chg (Ext.trans (below_drewN (Ext.trans (Ext.trans (Ext.trans HB2.out HB3.out) HB4.out) HB5.out) m) HB7.out) hle HC8.out, HI8.out⟩
end Go.Proofs.Ytkmcniaaecijdaa
