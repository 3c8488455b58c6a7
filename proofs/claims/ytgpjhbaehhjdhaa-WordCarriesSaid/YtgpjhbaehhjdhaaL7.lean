/- WordFlags: flags tell the order. -/
import Derived.Test.YtgpjhbaehhjdhaaWd
namespace Go.Proofs.Ytgpjhbaehhjdhaa
open Go.ChangeShapes Go.WideShapes Go.ChangeAt Go.RowKit
set_option linter.unusedVariables false
set_option maxRecDepth 100000

theorem W.wide (v : Int) (h : W.ok v) (h16 : ¬ v < 16) : ∃ m, W.nw v = m + 1 ∧ m ≤ 3 ∧ W.md v = 65536 ^ (m + 1) := by
  rcases h with rfl | rfl | rfl | rfl
  · omega
  · exact ⟨0, rfl, by omega, rfl⟩
  · exact ⟨1, rfl, by omega, rfl⟩
  · exact ⟨3, rfl, by omega, rfl⟩
/-- Splitting, by its number of words. -/
def SplitTo (x v : Int) (n : Nat) (xs : List Int) : Prop :=
  ∀ w : World, Calls Try.prog 21 #[.int .u64 x, .int .i64 v] w fun e w' => ∃ u, e = .returned (.tuple #[u, .int .i64 0]) ∧ w'.ownsRow w.heap.size 3 1 u n (xs.map (Value.int .i64)) ∧ Below w.heap.size w w'
namespace flags

set_option maxHeartbeats 4000000 in
theorem core (a b v : Int) (n : Nat) (xs ys : List Int) (C Z N V L B : Bool) (h : W.ok v) (h16 : ¬ v < 16) (ha : W.U a) (hb : W.U b) (n1 : 1 ≤ n) (n4 : n ≤ 4)
    (hA : Hid (SplitTo a v n xs)) (hB : Hid (SplitTo b v n ys)) (hI : Hid (∀ y ∈ ys, W.I y))
    (hC : W.cC W.subS xs ys n = C) (hZ : W.cZ W.subS xs ys n = Z) (hN : W.cN W.subS xs ys n = N) (hV : W.cV W.subS xs ys n = V) (hL : W.less v false a b = L) (hBl : W.less v true a b = B)
    (q1 : (C == L) = true) (q2 : ((N != V) == B) = true) (w : World) :
    Calls Try.prog 11 #[.int .u64 a, .int .u64 b, .int .i64 v] w fun e w' => e = .returned (.bool true) ∧ Below w.heap.size w w' := by
  have HS : Hid (∀ (u1 u2 : Value) (w0 w : World), Rd w0 1 u1 n (xs.map (Value.int .i64)) → Rd w0 1 u2 n (ys.map (Value.int .i64)) → Below w0.heap.size w0 w → Calls Try.prog 32 #[u1, u2] w fun e w' => ∃ l, e = .returned (.tuple #[l, .agg #[.bool C, .bool Z, .bool N, .bool V], .int .i64 0]) ∧ w'.ownsRow w.heap.size 3 1 l n ((W.cO W.subS xs ys n).map (Value.int .i64)) ∧ Below w.heap.size w w') := by
    intro u1 u2 w0 w h1 h2 h3
    have := subw_ok u1 u2 n xs ys w0 w h1 h2 hI.out n1 n4 h3
    rwa [hC, hZ, hN, hV] at this
  clear hC hZ hN hV
  have hmx : n ≤ maxLen := by unfold maxLen; omega
  have HM := Lib.hid hmx; clear hmx
  go_enter Try.func11, Try.ntmps11
  go_wp2_with (first | (go_at_call 33; refine (alive1 _).mono ?_; rintro e w1 ⟨rfl, hb1⟩; have HB1 := Lib.hid hb1; clear hb1) | (go_at_call 34; refine (width_ok _ h _).mono ?_; rintro e w' ⟨rfl, rfl⟩) | (go_at_call_of 21 (Value.int IntKind.u64 a); refine (hA.out _).mono ?_; rintro e w2 ⟨u1, rfl, hown2, hb2⟩; have HB2 := Lib.hid hb2; have HO2 := Lib.hid hown2; clear hb2 hown2))
  go_wp2_with (first | (go_at_call_of 21 (Value.int IntKind.u64 b); refine (hB.out _).mono ?_; rintro e w3 ⟨u2, rfl, hown3, hb3⟩; have HB3 := Lib.hid hb3; have HO3 := Lib.hid hown3; clear hb3 hown3) | (go_at_call 32; refine (HS.out _ _ _ _ ((Rd.of_owns HO2.out HM.out).below HB3.out) (Rd.of_owns HO3.out HM.out) (Below.refl _ _)).mono ?_; rintro e w4 ⟨l, rfl, hown4, hb4⟩; have HB4 := Lib.hid hb4; clear hb4 hown4) | (go_at_call 46; refine (less_any _ _ _ _ h ha hb _).mono ?_; rintro e w' ⟨rfl, rfl⟩))
  go_ret
  exact ⟨W.ret1 (W.bool (by revert q2; cases N <;> cases V <;> cases B <;> decide)), Ext.alloc (Ext.trans (Ext.trans (Ext.trans HB1.out HB2.out) HB3.out) HB4.out) _⟩
set_option maxHeartbeats 1000000 in
theorem walk_no (a b v : Int) (h : ¬ W.ok v) (w : World) :
    Calls Try.prog 11 #[.int .u64 a, .int .u64 b, .int .i64 v] w fun e w' => e = .returned (.bool true) ∧ Below w.heap.size w w' := by
  go_enter Try.func11, Try.ntmps11
  go_wp2_with (first | (go_at_call 33; refine (alive1 _).mono ?_; rintro e w1 ⟨rfl, hb1⟩; have HB1 := Lib.hid hb1; clear hb1) | (go_at_call 34; refine (width_no _ h _).mono ?_; rintro e w' ⟨rfl, rfl⟩))
  go_ret
  exact ⟨rfl, HB1.out⟩
set_option maxHeartbeats 1000000 in
theorem walk_low (a b v : Int) (h : W.ok v) (h16 : v < 16) (w : World) :
    Calls Try.prog 11 #[.int .u64 a, .int .u64 b, .int .i64 v] w fun e w' => e = .returned (.bool true) ∧ Below w.heap.size w w' := by
  go_enter Try.func11, Try.ntmps11
  go_wp2_with (first | (go_at_call 33; refine (alive1 _).mono ?_; rintro e w1 ⟨rfl, hb1⟩; have HB1 := Lib.hid hb1; clear hb1) | (go_at_call 34; refine (width_ok _ h _).mono ?_; rintro e w' ⟨rfl, rfl⟩))
  go_ret
  exact ⟨rfl, HB1.out⟩
theorem walk (a : Int) (ha : (Lit.int .u64 a).wf = true) (b : Int) (hb : (Lit.int .u64 b).wf = true) (v : Int) (_ : (Lit.int .i64 v).wf = true) (w : World) :
    Calls Try.prog 11 #[.int .u64 a, .int .u64 b, .int .i64 v] w fun e w' => e = .returned (.bool true) ∧ Below w.heap.size w w' := by
  by_cases h : W.ok v
  · by_cases h16 : v < 16
    · exact walk_low a b v h h16 w
    · obtain ⟨m, hn, hm, hmd⟩ := W.wide v h h16
      have iF : ∀ y ∈ W.split (m + 1) (W.cut v b), W.I y := fun y hy => by have := W.split_fine _ _ y hy; unfold W.fine at this; unfold W.I; omega
      have hX : 0 ≤ W.cut v a ∧ W.cut v a < W.md v := ⟨W.cut_lo v a, W.mod_hi a v⟩
      have hY : 0 ≤ W.cut v b ∧ W.cut v b < W.md v := ⟨W.cut_lo v b, W.mod_hi b v⟩
      refine core a b v (m + 1) (W.split (m + 1) (W.cut v a)) (W.split (m + 1) (W.cut v b)) _ _ _ _ _ _ h h16 (W.U_wf ha) (W.U_wf hb) (by omega) (by omega)
        (by intro w; have := split_ok a v h (W.U_wf ha) w; rw [hn] at this; exact this) (by intro w; have := split_ok b v h (W.U_wf hb) w; rw [hn] at this; exact this) iF rfl rfl rfl rfl rfl rfl ?_ ?_ w
      · rw [W.sub_carry (m + 1) _ _ (m + 1) (Nat.le_refl _), ← hmd]
        unfold W.less W.cut
        rw [if_neg (by decide), Int.emod_emod, Int.emod_emod]; simp
      · rw [W.sub_less m v _ _ hmd hX hY, W.sg_cut, W.sg_cut]
        unfold W.less
        rw [if_pos rfl]; simp
  · exact walk_no a b v h w
end flags
end Go.Proofs.Ytgpjhbaehhjdhaa
