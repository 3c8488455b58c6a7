/- Walks of types.Words, Compare, Convert. -/
import Derived.Test.YtkmcniaaecijdaaT1
namespace Go.Proofs.Ytkmcniaaecijdaa
open Go.RowKit
set_option linter.unusedVariables false
set_option linter.unusedSimpArgs false
set_option maxRecDepth 100000

/-- What a number of one type is as one of another. -/
def W.conv (fb : Int) (fs : Bool) (tb x : Int) : Int := (if fs then W.sg fb x else W.cut fb x) % W.md tb
theorem W.conv_U (fb : Int) (fs : Bool) (tb x : Int) : W.U (W.conv fb fs tb x) := ⟨W.mod_lo _ _, W.mod_le _ _⟩

set_option maxHeartbeats 2000000 in
theorem convert_ok (x fb tb : Int) (fs ts : Bool) (hf : W.ok fb) (ht : W.ok tb) (hx : W.U x) (w : World) :
    Calls Try.prog 33 #[.int .u64 x, W.ty fb fs, W.ty tb ts] w fun e w' => e = .returned (.int .u64 (W.conv fb fs tb x)) ∧ Below w.heap.size w w' := by
  cases fs
  · go_enter Try.func33, Try.ntmps33
    go_wp2_with (first | (go_at_call 56; refine (cut_ok _ _ (by assumption) (by first | assumption | exact W.U_cut _ _) _).mono ?_; rintro e w' ⟨rfl, rfl⟩))
    go_ret
    exact ⟨W.ret1 (W.u64 rfl), Ext.alloc (Ext.alloc (Below.refl _ _) _) _⟩
  · go_enter Try.func33, Try.ntmps33
    go_wp2_with (first | (go_at_call 55; refine (signed_ok _ _ hf _).mono ?_; rintro e w' ⟨rfl, rfl⟩) | (go_at_call 56; refine (cut_ok _ _ (by assumption) (W.U_wrap _) _).mono ?_; rintro e w' ⟨rfl, rfl⟩))
    go_ret
    exact ⟨W.ret1 (W.u64 (by unfold W.cut W.conv; rw [W.wrap_u64_mod]; rfl)), Ext.alloc (Ext.alloc (Below.refl _ _) _) _⟩
/-- Whether a comparison holds. -/
def W.cmp (kind : Int) (less more : Bool) : Bool :=
  if kind = 16 then less else if kind = 17 then !more else if kind = 18 then more else if kind = 19 then !less else if kind = 20 then !less && !more else less || more
set_option maxHeartbeats 4000000 in
theorem compare_raw (kind a b v : Int) (s L M : Bool) (hv : W.ok v) (ha : W.U a) (hb : W.U b) (hL : W.less v s a b = L) (hM : W.less v s b a = M) (w : World) :
    Calls Try.prog 69 #[.int .i64 kind, .int .u64 a, .int .u64 b, W.ty v s] w fun e w' => e = .returned (.bool (W.cmp kind L M)) ∧ Below w.heap.size w w' := by
  have HL := Lib.hid hL; have HM := Lib.hid hM; clear hL hM
  by_cases h1 : kind = 16
  · subst h1
    go_enter Try.func69, Try.ntmps69
    go_wp2_with (first | (go_at_call 95; refine (less_any _ _ _ _ hv (by assumption) (by assumption) _).mono ?_; simp only [HL.out, HM.out]; rintro e w' ⟨rfl, rfl⟩))
    go_ret
    exact ⟨rfl, Ext.alloc (Below.refl _ _) _⟩
  by_cases h2 : kind = 17
  · subst h2
    go_enter Try.func69, Try.ntmps69
    go_wp2_with (first | (go_at_call 95; refine (less_any _ _ _ _ hv (by assumption) (by assumption) _).mono ?_; simp only [HL.out, HM.out]; rintro e w' ⟨rfl, rfl⟩))
    go_ret
    exact ⟨rfl, Ext.alloc (Below.refl _ _) _⟩
  by_cases h3 : kind = 18
  · subst h3
    go_enter Try.func69, Try.ntmps69
    go_wp2_with (first | (go_at_call 95; refine (less_any _ _ _ _ hv (by assumption) (by assumption) _).mono ?_; simp only [HL.out, HM.out]; rintro e w' ⟨rfl, rfl⟩))
    go_ret
    exact ⟨rfl, Ext.alloc (Below.refl _ _) _⟩
  by_cases h4 : kind = 19
  · subst h4
    go_enter Try.func69, Try.ntmps69
    go_wp2_with (first | (go_at_call 95; refine (less_any _ _ _ _ hv (by assumption) (by assumption) _).mono ?_; simp only [HL.out, HM.out]; rintro e w' ⟨rfl, rfl⟩))
    go_ret
    exact ⟨rfl, Ext.alloc (Below.refl _ _) _⟩
  by_cases h5 : kind = 20
  · subst h5
    cases L
    · go_enter Try.func69, Try.ntmps69
      go_wp2_with (first | (go_at_call 95; refine (less_any _ _ _ _ hv (by assumption) (by assumption) _).mono ?_; simp only [HL.out, HM.out]; rintro e w' ⟨rfl, rfl⟩))
      go_ret
      exact ⟨rfl, Ext.alloc (Below.refl _ _) _⟩
    · go_enter Try.func69, Try.ntmps69
      go_wp2_with (first | (go_at_call 95; refine (less_any _ _ _ _ hv (by assumption) (by assumption) _).mono ?_; simp only [HL.out, HM.out]; rintro e w' ⟨rfl, rfl⟩))
      go_ret
      exact ⟨rfl, Ext.alloc (Below.refl _ _) _⟩
  · have e : W.cmp kind L M = (L || M) := by unfold W.cmp; rw [if_neg h1, if_neg h2, if_neg h3, if_neg h4, if_neg h5]
    rw [e]
    cases L
    · go_enter Try.func69, Try.ntmps69
      go_wp2_with (first | (go_at_call 95; refine (less_any _ _ _ _ hv (by assumption) (by assumption) _).mono ?_; simp only [HL.out, HM.out]; rintro e w' ⟨rfl, rfl⟩))
      go_ret
      exact ⟨rfl, Ext.alloc (Below.refl _ _) _⟩
    · go_enter Try.func69, Try.ntmps69
      go_wp2_with (first | (go_at_call 95; refine (less_any _ _ _ _ hv (by assumption) (by assumption) _).mono ?_; simp only [HL.out, HM.out]; rintro e w' ⟨rfl, rfl⟩))
      go_ret
      exact ⟨rfl, Ext.alloc (Below.refl _ _) _⟩
theorem compare_ok (kind a b v : Int) (s : Bool) (hv : W.ok v) (ha : W.U a) (hb : W.U b) (w : World) :
    Calls Try.prog 69 #[.int .i64 kind, .int .u64 a, .int .u64 b, W.ty v s] w fun e w' => e = .returned (.bool (W.cmp kind (W.less v s a b) (W.less v s b a))) ∧ Below w.heap.size w w' :=
  compare_raw kind a b v s _ _ hv ha hb rfl rfl w
end Go.Proofs.Ytkmcniaaecijdaa
