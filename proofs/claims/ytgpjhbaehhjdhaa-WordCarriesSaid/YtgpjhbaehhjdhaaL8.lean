/- WordCarries: a carry chain is a wide sum. -/
import Derived.Test.YtgpjhbaehhjdhaaL7
import Derived.Test.YtgpjhbaehhjdhaaW9
namespace Go.Proofs.Ytgpjhbaehhjdhaa
open Go.ChangeShapes Go.WideShapes Go.ChangeAt Go.RowKit
set_option linter.unusedVariables false
set_option maxRecDepth 100000

theorem W.split_mod (k : Nat) (x y : Int) (h : x % 65536 ^ k = y % 65536 ^ k) : W.split k x = W.split k y := by
  induction k with
  | zero => rfl
  | succ k ih =>
    have hP := W.pw_pos k
    have ex := W.emod_split x _ 65536 hP; have ey := W.emod_split y _ 65536 hP
    rw [← Int.pow_succ] at ex ey
    change x % 65536 ^ k + 65536 ^ k * (x / 65536 ^ k % 65536) = x % 65536 ^ (k + 1) at ex
    change y % 65536 ^ k + 65536 ^ k * (y / 65536 ^ k % 65536) = y % 65536 ^ (k + 1) at ey
    have h1 : x % 65536 ^ k = y % 65536 ^ k := by
      have d : (65536 : Int) ^ k ∣ 65536 ^ (k + 1) := ⟨65536, Int.pow_succ _ _⟩
      rw [← Int.emod_emod_of_dvd x d, ← Int.emod_emod_of_dvd y d, h]
    have h2 : x / 65536 ^ k % 65536 = y / 65536 ^ k % 65536 := by
      have : 65536 ^ k * (x / 65536 ^ k % 65536) = 65536 ^ k * (y / 65536 ^ k % 65536) := by omega
      exact Int.eq_of_mul_eq_mul_left (by omega) this
    rw [W.split, W.split, ih h1]
    show _ ++ [x / 65536 ^ k % 65536] = _ ++ [y / 65536 ^ k % 65536]
    rw [h2]
namespace carries

set_option maxHeartbeats 8000000 in
theorem core (a b v P Q c : Int) (n : Nat) (xs ys ss ts : List Int) (C Z N V D Y M O : Bool) (h : W.ok v) (h16 : ¬ v < 16) (ha : W.U a) (hb : W.U b) (n1 : 1 ≤ n) (n4 : n ≤ 4)
    (hA : Hid (SplitTo a v n xs)) (hB : Hid (SplitTo b v n ys)) (hP : Hid (SplitTo P v n ss)) (hQ : Hid (SplitTo Q v n ts)) (hI : Hid (∀ y ∈ ys, W.I y))
    (hC : W.cC W.addS xs ys n = C) (hZ : W.cZ W.addS xs ys n = Z) (hN : W.cN W.addS xs ys n = N) (hV : W.cV W.addS xs ys n = V) (hO : Hid (W.cO W.addS xs ys n = ss))
    (hD : W.cC W.subS xs ys n = D) (hY : W.cZ W.subS xs ys n = Y) (hM : W.cN W.subS xs ys n = M) (hW : W.cV W.subS xs ys n = O) (hT : Hid (W.cO W.subS xs ys n = ts))
    (eP : W.add v a b = P) (eQ : W.sub v a b = Q) (ec : W.cut v a = c)
    (q1 : (C == decide (P < c)) = true) (q2 : (Z == (P == 0)) = true) (q3 : (Y == (Q == 0)) = true) (w : World) :
    Calls Try.prog 9 #[.int .u64 a, .int .u64 b, .int .i64 v] w fun e w' => e = .returned (.bool true) ∧ Below w.heap.size w w' := by
  have HS : Hid (∀ (u1 u2 : Value) (w0 w : World), Rd w0 1 u1 n (xs.map (Value.int .i64)) → Rd w0 1 u2 n (ys.map (Value.int .i64)) → Below w0.heap.size w0 w → Calls Try.prog 32 #[u1, u2] w fun e w' => ∃ l, e = .returned (.tuple #[l, .agg #[.bool D, .bool Y, .bool M, .bool O], .int .i64 0]) ∧ w'.ownsRow w.heap.size 3 1 l n (ts.map (Value.int .i64)) ∧ Below w.heap.size w w') := by
    intro u1 u2 w0 w h1 h2 h3
    have := subw_ok u1 u2 n xs ys w0 w h1 h2 hI.out n1 n4 h3
    rwa [hD, hY, hM, hW, hT.out] at this
  have HA : Hid (∀ (u1 u2 : Value) (w0 w : World), Rd w0 1 u1 n (xs.map (Value.int .i64)) → Rd w0 1 u2 n (ys.map (Value.int .i64)) → Below w0.heap.size w0 w → Calls Try.prog 30 #[u1, u2] w fun e w' => ∃ l, e = .returned (.tuple #[l, .agg #[.bool C, .bool Z, .bool N, .bool V], .int .i64 0]) ∧ w'.ownsRow w.heap.size 3 1 l n (ss.map (Value.int .i64)) ∧ Below w.heap.size w w') := by
    intro u1 u2 w0 w h1 h2 h3
    have := addw_ok u1 u2 n xs ys w0 w h1 h2 hI.out n1 n4 h3
    rwa [hC, hZ, hN, hV, hO.out] at this
  have HM := Lib.hid (show n ≤ maxLen by unfold maxLen; omega)
  have HSame : Hid (∀ (u1 u2 : Value) (zs : List Int) (w : World), Rd w 1 u1 n (zs.map (Value.int .i64)) → Rd w 1 u2 n (zs.map (Value.int .i64)) → Calls Try.prog 23 #[u1, u2] w fun e w' => e = .returned (.bool true) ∧ Below w.heap.size w w') := by
    intro u1 u2 zs w h1 h2
    have := same_ok u1 u2 n n zs zs w h1 h2
    simpa using this
  have uP : W.U P := by rw [← eP]; exact W.U_add _ _ _
  have uQ : W.U Q := by rw [← eQ]; exact W.U_sub _ _ _
  clear hC hZ hN hV hD hY hM hW
  go_enter Try.func9, Try.ntmps9
  go_wp2_with (first | (go_at_call 33; refine (alive1 _).mono ?_; rintro e w1 ⟨rfl, hb1⟩; have HB1 := Lib.hid hb1; clear hb1) | (go_at_call 34; refine (width_ok _ h _).mono ?_; rintro e w' ⟨rfl, rfl⟩) | (go_at_call_of 21 (Value.int IntKind.u64 a); refine (hA.out _).mono ?_; rintro e w2 ⟨u1, rfl, hown2, hb2⟩; have HB2 := Lib.hid hb2; have HR2 := Lib.hid (Rd.of_owns hown2 HM.out); clear hb2 hown2))
  go_wp2_with (first | (go_at_call_of 21 (Value.int IntKind.u64 b); refine (hB.out _).mono ?_; rintro e w3 ⟨u2, rfl, hown3, hb3⟩; have HB3 := Lib.hid hb3; have HR3 := Lib.hid (Rd.of_owns hown3 HM.out); have HQ2 := Lib.hid (HR2.out.below hb3); clear hb3 hown3))
  go_wp2_with (first | (go_at_call 30; refine (HA.out _ _ _ _ HQ2.out HR3.out (Below.refl _ _)).mono ?_; rintro e w4 ⟨l4, rfl, hown4, hb4⟩; have HB4 := Lib.hid hb4; have HR4 := Lib.hid (Rd.of_owns hown4 HM.out); clear hb4 hown4))
  go_wp2_with (first | (go_at_call 32; refine (HS.out _ _ _ _ HQ2.out HR3.out (Ext.alloc HB4.out _)).mono ?_; rintro e w5 ⟨l5, rfl, hown5, hb5⟩; have HB5 := Lib.hid hb5; have HR5 := Lib.hid (Rd.of_owns hown5 HM.out); obtain ⟨z5, i0, i1, i2, i3, j0, j1, j2, j3⟩ := own4 hb5; have HF5 := Lib.hid (show Fl w5 w4.heap.size C Z N V from ⟨i0, i1, i2, i3, j0, j1, j2, j3⟩); have HR45 := Lib.hid ((HR4.out.below (Ext.alloc (Below.refl _ _) _)).below hb5); clear hb5 hown5 z5 i0 i1 i2 i3 j0 j1 j2 j3) | (go_at_call 35; refine (add_ok _ _ _ h ha hb _).mono ?_; rintro e w' ⟨rfl, rfl⟩) | (go_at_call 40; refine (sub_ok _ _ _ h ha hb _).mono ?_; rintro e w' ⟨rfl, rfl⟩))
  go_wp2_with (first | (go_at_call_of 21 (Value.int IntKind.u64 P); refine (hP.out _).mono ?_; rintro e w6 ⟨u6, rfl, hown6, hb6⟩; have HB6 := Lib.hid hb6; have HR6 := Lib.hid (Rd.of_owns hown6 HM.out); obtain ⟨z5, i0, i1, i2, i3, j0, j1, j2, j3⟩ := own4 hb6; have HG6 := Lib.hid (show Fl w6 w5.heap.size D Y M O from ⟨i0, i1, i2, i3, j0, j1, j2, j3⟩); have HF6 := Lib.hid ((HF5.out.below (Ext.alloc (Below.refl _ _) _)).below hb6); have HR46 := Lib.hid ((HR45.out.below (Ext.alloc (Below.refl _ _) _)).below hb6); have HR56 := Lib.hid ((HR5.out.below (Ext.alloc (Below.refl _ _) _)).below hb6); clear hb6 hown6 z5 i0 i1 i2 i3 j0 j1 j2 j3))
  go_wp2_with (first | (go_at_call_of 21 (Value.int IntKind.u64 Q); refine (hQ.out _).mono ?_; rintro e w7 ⟨u7, rfl, hown7, hb7⟩; have HB7 := Lib.hid hb7; have HR7 := Lib.hid (Rd.of_owns hown7 HM.out); have HG7 := Lib.hid (HG6.out.below hb7); have HF7 := Lib.hid (HF6.out.below hb7); have HR47 := Lib.hid (HR46.out.below hb7); have HR57 := Lib.hid (HR56.out.below hb7); have HR67 := Lib.hid (HR6.out.below hb7); clear hb7 hown7) | (go_at_call 36; refine (cut_ok _ _ h ha _).mono ?_; rintro e w' ⟨rfl, rfl⟩))
  go_wp2_with (first | (go_at_call_of 23 l4; refine (HSame.out _ _ _ _ HR47.out HR67.out).mono ?_; rintro e w8 ⟨rfl, hb8⟩; have HB8 := Lib.hid hb8; have HG8 := Lib.hid (HG7.out.below hb8); have HF8 := Lib.hid (HF7.out.below hb8); have HR58 := Lib.hid (HR57.out.below hb8); have HR78 := Lib.hid (HR7.out.below hb8); clear hb8))
  go_wp2_with (first | (go_at_call_of 23 l5; refine (HSame.out _ _ _ _ HR58.out HR78.out).mono ?_; rintro e w9 ⟨rfl, hb9⟩; have HB9 := Lib.hid hb9; obtain ⟨i0, i1, i2, i3, j0, j1, j2, j3⟩ := HG8.out.below hb9; obtain ⟨k0, k1, k2, k3, m0, m1, m2, m3⟩ := HF8.out.below hb9; clear hb9 i2 i3 j0 j1 j2 j3 k2 k3 m0 m1 m2 m3))
  go_ret
  exact ⟨rfl, Ext.trans (Ext.trans (Ext.trans (Ext.trans (Ext.alloc (Ext.trans (Ext.alloc (Ext.trans (Ext.trans (Ext.trans HB1.out HB2.out) HB3.out) HB4.out) _) HB5.out) _) HB6.out) HB7.out) HB8.out) HB9.out⟩
set_option maxHeartbeats 1000000 in
theorem walk_no (a b v : Int) (h : ¬ W.ok v) (w : World) :
    Calls Try.prog 9 #[.int .u64 a, .int .u64 b, .int .i64 v] w fun e w' => e = .returned (.bool true) ∧ Below w.heap.size w w' := by
  go_enter Try.func9, Try.ntmps9
  go_wp2_with (first | (go_at_call 33; refine (alive1 _).mono ?_; rintro e w1 ⟨rfl, hb1⟩; have HB1 := Lib.hid hb1; clear hb1) | (go_at_call 34; refine (width_no _ h _).mono ?_; rintro e w' ⟨rfl, rfl⟩))
  go_ret
  exact ⟨rfl, HB1.out⟩
set_option maxHeartbeats 1000000 in
theorem walk_low (a b v : Int) (h : W.ok v) (h16 : v < 16) (w : World) :
    Calls Try.prog 9 #[.int .u64 a, .int .u64 b, .int .i64 v] w fun e w' => e = .returned (.bool true) ∧ Below w.heap.size w w' := by
  go_enter Try.func9, Try.ntmps9
  go_wp2_with (first | (go_at_call 33; refine (alive1 _).mono ?_; rintro e w1 ⟨rfl, hb1⟩; have HB1 := Lib.hid hb1; clear hb1) | (go_at_call 34; refine (width_ok _ h _).mono ?_; rintro e w' ⟨rfl, rfl⟩))
  go_ret
  exact ⟨rfl, HB1.out⟩
theorem split_to (x v : Int) (n : Nat) (h : W.ok v) (hx : W.U x) (hn : W.nw v = n) : SplitTo x v n (W.split n (W.cut v x)) := by
  intro w; have := split_ok x v h hx w; rw [hn] at this; exact this
theorem walk (a : Int) (ha : (Lit.int .u64 a).wf = true) (b : Int) (hb : (Lit.int .u64 b).wf = true) (v : Int) (_ : (Lit.int .i64 v).wf = true) (w : World) :
    Calls Try.prog 9 #[.int .u64 a, .int .u64 b, .int .i64 v] w fun e w' => e = .returned (.bool true) ∧ Below w.heap.size w w' := by
  by_cases h : W.ok v
  · by_cases h16 : v < 16
    · exact walk_low a b v h h16 w
    · obtain ⟨m, hn, hm, hmd⟩ := W.wide v h h16
      have iF : ∀ y ∈ W.split (m + 1) (W.cut v b), W.I y := fun y hy => by have := W.split_fine _ _ y hy; unfold W.fine at this; unfold W.I; omega
      have x0 := W.cut_lo v a; have x1 : W.cut v a < W.md v := W.mod_hi a v
      have y0 := W.cut_lo v b; have y1 : W.cut v b < W.md v := W.mod_hi b v
      have eA : (W.cut v a + W.cut v b) % W.md v = W.add v a b := by unfold W.cut; rw [W.add_mods]; rfl
      have eS : (W.cut v a - W.cut v b) % W.md v = W.sub v a b := by unfold W.cut; rw [W.sub_mods]; rfl
      refine core a b v _ _ _ (m + 1) (W.split (m + 1) (W.cut v a)) (W.split (m + 1) (W.cut v b)) (W.split (m + 1) (W.cut v (W.add v a b))) (W.split (m + 1) (W.cut v (W.sub v a b))) _ _ _ _ _ _ _ _ h h16 (W.U_wf ha) (W.U_wf hb) (by omega) (by omega)
        (split_to a v _ h (W.U_wf ha) hn) (split_to b v _ h (W.U_wf hb) hn) (split_to _ v _ h (W.U_add _ _ _) hn) (split_to _ v _ h (W.U_sub _ _ _) hn) iF rfl rfl rfl rfl ?_ rfl rfl rfl rfl ?_ rfl rfl rfl ?_ ?_ ?_ w
      · show W.cO W.addS _ _ (m + 1) = _
        rw [W.add_out (m + 1) _ _ (m + 1) (Nat.le_refl _)]
        refine W.split_mod _ _ _ ?_
        rw [← hmd, eA]; unfold W.add W.cut; rw [Int.emod_emod, Int.emod_emod]
      · show W.cO W.subS _ _ (m + 1) = _
        rw [W.sub_out (m + 1) _ _ (m + 1) (Nat.le_refl _)]
        refine W.split_mod _ _ _ ?_
        rw [← hmd, eS]; unfold W.sub W.cut; rw [Int.emod_emod, Int.emod_emod]
      · rw [W.add_carry (m + 1) _ _ (m + 1) (Nat.le_refl _), ← hmd, Int.emod_eq_of_lt x0 x1, Int.emod_eq_of_lt y0 y1, ← eA, beq_iff_eq, decide_eq_decide]
        generalize W.cut v a = X at *; generalize W.cut v b = Y at *; generalize W.md v = M at *
        by_cases hc : M ≤ X + Y
        · have : (X + Y) % M = X + Y - M := by rw [← Int.sub_emod_right]; exact Int.emod_eq_of_lt (by omega) (by omega)
          omega
        · have : (X + Y) % M = X + Y := Int.emod_eq_of_lt (by omega) (by omega)
          omega
      · rw [W.add_zero' (m + 1) _ _ (m + 1) (Nat.le_refl _), ← hmd, eA, beq_iff_eq, Bool.eq_iff_iff]; simp
      · rw [W.sub_zero' (m + 1) _ _ (m + 1) (Nat.le_refl _), ← hmd, eS, beq_iff_eq, Bool.eq_iff_iff]; simp
  · exact walk_no a b v h w
end carries
end Go.Proofs.Ytgpjhbaehhjdhaa
