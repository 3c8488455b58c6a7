/- Walks of the package of types: Int, Uint, Promote, Valid, Words, truth, Compare, Convert. -/
import Derived.Test.YthdckndjggljpaaWA
import Derived.Test.YthdckndjggljpaaB0
import Derived.Deep.RegionWith
namespace Go.Proofs.Ythdckndjggljpaa
open Go.RowKit
set_option linter.unusedVariables false
set_option linter.unusedSimpArgs false
set_option maxRecDepth 100000

/-- A type of numbers as a value. -/
abbrev W.ty (b : Int) (s : Bool) : Value := .agg #[.int .i64 b, .bool s]
def W.pb (b : Int) : Int := if b < 16 then 16 else b
def W.ps (b : Int) (s : Bool) : Bool := if b < 16 then true else s
theorem W.ty_eq {a b : Int} {s t : Bool} (h : a = b) (k : s = t) : Ending.returned (W.ty a s) = .returned (W.ty b t) := by rw [h, k]

/-- A type of numbers that lies in a block. -/
def Ty (w : World) (B : Nat) (b : Int) (s : Bool) : Prop :=
  w.cell? ⟨B, 0, none⟩ = some (.int .i64 b) ∧ w.cell? ⟨B, 1, none⟩ = some (.bool s) ∧ w.frozen? ⟨B, 0, none⟩ = false ∧ w.frozen? ⟨B, 1, none⟩ = false
theorem Ty.below {a w1 : World} {B : Nat} {b : Int} {s : Bool} (h : Ty a B b s) (hb : Below a.heap.size a w1) : Ty w1 B b s := by
  obtain ⟨h0, h1, f0, f1⟩ := h
  have hlt : B < a.heap.size := World.block_lt_of_cell? a ⟨B, 0, none⟩ h0
  obtain ⟨hc, hf⟩ := bcell hb
  exact ⟨by rw [hc B _ hlt]; exact h0, by rw [hc B _ hlt]; exact h1, by rw [hf B _ hlt]; exact f0, by rw [hf B _ hlt]; exact f1⟩
theorem Ty.new (w : World) {B : Nat} (hB : B = w.heap.size) (b : Int) (s : Bool) (t : TypeId) : Ty (w.alloc (.cells #[.int .i64 b, .bool s] t)) B b s := by
  subst hB; exact ⟨by simp, by simp, by simp, by simp⟩
theorem Ty.alloc {w : World} {B : Nat} {b : Int} {s : Bool} (h : Ty w B b s) (o : Obj) : Ty (w.alloc o) B b s := h.below (Ext.alloc (Below.refl _ _) o)

set_option maxHeartbeats 1000000 in
theorem tint_ok (w : World) : Calls Try.prog 43 #[] w fun e w' => e = .returned (W.ty 16 true) ∧ Below w.heap.size w w' := by
  go_enter Try.func43, Try.ntmps43
  go_wp2
  exact bodyPost_ret (v := W.ty 16 true) (by simp [results, Try.results43, go_sem]) rfl ⟨rfl, by repeat (first | exact Below.refl _ _ | refine Ext.setCell ?_ (by simp) _ | refine Ext.alloc ?_ _)⟩
set_option maxHeartbeats 1000000 in
theorem tuint_ok (w : World) : Calls Try.prog 64 #[] w fun e w' => e = .returned (W.ty 16 false) ∧ Below w.heap.size w w' := by
  go_enter Try.func64, Try.ntmps64
  go_wp2
  exact bodyPost_ret (v := W.ty 16 false) (by simp [results, Try.results64, go_sem]) rfl ⟨rfl, by repeat (first | exact Below.refl _ _ | refine Ext.setCell ?_ (by simp) _ | refine Ext.alloc ?_ _)⟩
set_option maxHeartbeats 1000000 in
theorem promote_ok (b : Int) (s : Bool) (w : World) : Calls Try.prog 61 #[W.ty b s] w fun e w' => e = .returned (W.ty (W.pb b) (W.ps b s)) ∧ Below w.heap.size w w' := by
  by_cases h : b < 16
  · go_enter Try.func61, Try.ntmps61
    go_wp2_with (first | (go_at_call 43; refine (tint_ok _).mono ?_; rintro e w1 ⟨rfl, hb⟩; have HB := Lib.hid hb; obtain ⟨k0, k1, g0, g1⟩ := Ty.below (Ty.new _ (B := w.heap.size + 1) (by simp) 0 false _) hb; clear hb))
    exact bodyPost_ret (v := W.ty 16 true) (by simp [results, Try.results61, go_sem, k0, k1, g0, g1]) rfl ⟨W.ty_eq (by simp [W.pb, h]) (by simp [W.ps, h]), Ext.setCell (Ext.setCell (Ext.trans (Ext.alloc (Ext.alloc (Below.refl _ _) _) _) HB.out) (by simp) _) (by simp) _⟩
  · go_enter Try.func61, Try.ntmps61
    go_wp2
    exact bodyPost_ret (v := W.ty b s) (by simp [results, Try.results61, go_sem]) rfl ⟨W.ty_eq (by unfold W.pb; split <;> omega) (by unfold W.ps; split <;> first | omega | rfl), by repeat (first | exact Below.refl _ _ | refine Ext.setCell ?_ (by simp) _ | refine Ext.alloc ?_ _)⟩
set_option maxHeartbeats 1000000 in
theorem valid_ok (b : Int) (s : Bool) (h : W.ok b) (w : World) : Calls Try.prog 38 #[W.ty b s] w fun e w' => e = .returned (.bool true) ∧ Below w.heap.size w w' := by
  go_enter Try.func38, Try.ntmps38
  go_wp2_with (first | (go_at_call 56; refine (width_ok _ h _).mono ?_; rintro e w' ⟨rfl, rfl⟩))
  go_ret
  exact ⟨rfl, Ext.alloc (Below.refl _ _) _⟩
set_option maxHeartbeats 1000000 in
theorem valid_no (b : Int) (s : Bool) (h : ¬ W.ok b) (w : World) : Calls Try.prog 38 #[W.ty b s] w fun e w' => e = .returned (.bool false) ∧ Below w.heap.size w w' := by
  go_enter Try.func38, Try.ntmps38
  go_wp2_with (first | (go_at_call 56; refine (width_no _ h _).mono ?_; rintro e w' ⟨rfl, rfl⟩))
  go_ret
  exact ⟨rfl, Ext.alloc (Below.refl _ _) _⟩
set_option maxHeartbeats 1000000 in
theorem truth_ok (b : Bool) (w : World) : Calls Try.prog 63 #[.bool b] w fun e w' => e = .returned (.int .u64 (if b then 1 else 0)) ∧ w = w' := by
  cases b
  · go_enter Try.func63, Try.ntmps63
    go_wp2
    go_ret
    exact ⟨rfl, rfl⟩
  · go_enter Try.func63, Try.ntmps63
    go_wp2
    go_ret
    exact ⟨rfl, rfl⟩
end Go.Proofs.Ythdckndjggljpaa
/- Walks of types.Words, Compare, Convert. -/
namespace Go.Proofs.Ythdckndjggljpaa
open Go.RowKit
set_option linter.unusedVariables false
set_option linter.unusedSimpArgs false
set_option maxRecDepth 100000

/-- What a number of one type is as one of another. -/
def W.conv (fb : Int) (fs : Bool) (tb x : Int) : Int := (if fs then W.sg fb x else W.cut fb x) % W.md tb
theorem W.conv_U (fb : Int) (fs : Bool) (tb x : Int) : W.U (W.conv fb fs tb x) := ⟨W.mod_lo _ _, W.mod_le _ _⟩

set_option maxHeartbeats 2000000 in
theorem convert_ok (x fb tb : Int) (fs ts : Bool) (hf : W.ok fb) (ht : W.ok tb) (hx : W.U x) (w : World) :
    Calls Try.prog 44 #[.int .u64 x, W.ty fb fs, W.ty tb ts] w fun e w' => e = .returned (.int .u64 (W.conv fb fs tb x)) ∧ Below w.heap.size w w' := by
  cases fs
  · go_enter Try.func44, Try.ntmps44
    go_wp2_with (first | (go_at_call 60; refine (cut_ok _ _ (by assumption) (by first | assumption | exact W.U_cut _ _) _).mono ?_; rintro e w' ⟨rfl, rfl⟩))
    go_ret
    exact ⟨W.ret1 (W.u64 rfl), Ext.alloc (Ext.alloc (Below.refl _ _) _) _⟩
  · go_enter Try.func44, Try.ntmps44
    go_wp2_with (first | (go_at_call 59; refine (signed_ok _ _ hf _).mono ?_; rintro e w' ⟨rfl, rfl⟩) | (go_at_call 60; refine (cut_ok _ _ (by assumption) (W.U_wrap _) _).mono ?_; rintro e w' ⟨rfl, rfl⟩))
    go_ret
    exact ⟨W.ret1 (W.u64 (by unfold W.cut W.conv; rw [W.wrap_u64_mod]; rfl)), Ext.alloc (Ext.alloc (Below.refl _ _) _) _⟩
/-- Whether a comparison holds. -/
def W.cmp (kind : Int) (less more : Bool) : Bool :=
  if kind = 16 then less else if kind = 17 then !more else if kind = 18 then more else if kind = 19 then !less else if kind = 20 then !less && !more else less || more
set_option maxHeartbeats 4000000 in
theorem compare_raw (kind a b v : Int) (s L M : Bool) (hv : W.ok v) (ha : W.U a) (hb : W.U b) (hL : W.less v s a b = L) (hM : W.less v s b a = M) (w : World) :
    Calls Try.prog 72 #[.int .i64 kind, .int .u64 a, .int .u64 b, W.ty v s] w fun e w' => e = .returned (.bool (W.cmp kind L M)) ∧ Below w.heap.size w w' := by
  have HL := Lib.hid hL; have HM := Lib.hid hM; clear hL hM
  by_cases h1 : kind = 16
  · subst h1
    go_enter Try.func72, Try.ntmps72
    go_wp2_with (first | (go_at_call 96; refine (less_any _ _ _ _ hv (by assumption) (by assumption) _).mono ?_; simp only [HL.out, HM.out]; rintro e w' ⟨rfl, rfl⟩))
    go_ret
    exact ⟨rfl, Ext.alloc (Below.refl _ _) _⟩
  by_cases h2 : kind = 17
  · subst h2
    go_enter Try.func72, Try.ntmps72
    go_wp2_with (first | (go_at_call 96; refine (less_any _ _ _ _ hv (by assumption) (by assumption) _).mono ?_; simp only [HL.out, HM.out]; rintro e w' ⟨rfl, rfl⟩))
    go_ret
    exact ⟨rfl, Ext.alloc (Below.refl _ _) _⟩
  by_cases h3 : kind = 18
  · subst h3
    go_enter Try.func72, Try.ntmps72
    go_wp2_with (first | (go_at_call 96; refine (less_any _ _ _ _ hv (by assumption) (by assumption) _).mono ?_; simp only [HL.out, HM.out]; rintro e w' ⟨rfl, rfl⟩))
    go_ret
    exact ⟨rfl, Ext.alloc (Below.refl _ _) _⟩
  by_cases h4 : kind = 19
  · subst h4
    go_enter Try.func72, Try.ntmps72
    go_wp2_with (first | (go_at_call 96; refine (less_any _ _ _ _ hv (by assumption) (by assumption) _).mono ?_; simp only [HL.out, HM.out]; rintro e w' ⟨rfl, rfl⟩))
    go_ret
    exact ⟨rfl, Ext.alloc (Below.refl _ _) _⟩
  by_cases h5 : kind = 20
  · subst h5
    cases L
    · go_enter Try.func72, Try.ntmps72
      go_wp2_with (first | (go_at_call 96; refine (less_any _ _ _ _ hv (by assumption) (by assumption) _).mono ?_; simp only [HL.out, HM.out]; rintro e w' ⟨rfl, rfl⟩))
      go_ret
      exact ⟨rfl, Ext.alloc (Below.refl _ _) _⟩
    · go_enter Try.func72, Try.ntmps72
      go_wp2_with (first | (go_at_call 96; refine (less_any _ _ _ _ hv (by assumption) (by assumption) _).mono ?_; simp only [HL.out, HM.out]; rintro e w' ⟨rfl, rfl⟩))
      go_ret
      exact ⟨rfl, Ext.alloc (Below.refl _ _) _⟩
  · have e : W.cmp kind L M = (L || M) := by unfold W.cmp; rw [if_neg h1, if_neg h2, if_neg h3, if_neg h4, if_neg h5]
    rw [e]
    cases L
    · go_enter Try.func72, Try.ntmps72
      go_wp2_with (first | (go_at_call 96; refine (less_any _ _ _ _ hv (by assumption) (by assumption) _).mono ?_; simp only [HL.out, HM.out]; rintro e w' ⟨rfl, rfl⟩))
      go_ret
      exact ⟨rfl, Ext.alloc (Below.refl _ _) _⟩
    · go_enter Try.func72, Try.ntmps72
      go_wp2_with (first | (go_at_call 96; refine (less_any _ _ _ _ hv (by assumption) (by assumption) _).mono ?_; simp only [HL.out, HM.out]; rintro e w' ⟨rfl, rfl⟩))
      go_ret
      exact ⟨rfl, Ext.alloc (Below.refl _ _) _⟩
theorem compare_ok (kind a b v : Int) (s : Bool) (hv : W.ok v) (ha : W.U a) (hb : W.U b) (w : World) :
    Calls Try.prog 72 #[.int .i64 kind, .int .u64 a, .int .u64 b, W.ty v s] w fun e w' => e = .returned (.bool (W.cmp kind (W.less v s a b) (W.less v s b a))) ∧ Below w.heap.size w w' :=
  compare_raw kind a b v s _ _ hv ha hb rfl rfl w
end Go.Proofs.Ythdckndjggljpaa
