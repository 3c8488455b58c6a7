/- Walks of the package of types: Int, Uint, Promote, Valid, Words, truth, Compare, Convert. -/
import Derived.Test.YtkmcniaaecijdaaWA
import Derived.Test.YtkmcniaaecijdaaB0
import Derived.Deep.RegionWith
namespace Go.Proofs.Ytkmcniaaecijdaa
open Go.RowKit
set_option linter.unusedVariables false
set_option linter.unusedSimpArgs false
set_option maxRecDepth 100000

/-- A type of numbers as a value. -/
abbrev W.ty (b : Int) (s : Bool) : Value := .agg #[.int .i64 b, .bool s]
def W.pb (b : Int) : Int := if b < 16 then 16 else b
def W.ps (b : Int) (s : Bool) : Bool := if b < 16 then true else s
theorem W.ty_eq {a b : Int} {s t : Bool} (h : a = b) (k : s = t) : Ending.returned (W.ty a s) = .returned (W.ty b t) := by rw [h, k]

/-- A type of numbers that lies in a block. -/
def Ty (w : World) (B : Nat) (b : Int) (s : Bool) : Prop :=
  w.cell? ⟨B, 0, none⟩ = some (.int .i64 b) ∧ w.cell? ⟨B, 1, none⟩ = some (.bool s) ∧ w.frozen? ⟨B, 0, none⟩ = false ∧ w.frozen? ⟨B, 1, none⟩ = false
theorem Ty.below {a w1 : World} {B : Nat} {b : Int} {s : Bool} (h : Ty a B b s) (hb : Below a.heap.size a w1) : Ty w1 B b s := by
  obtain ⟨h0, h1, f0, f1⟩ := h
  have hlt : B < a.heap.size := World.block_lt_of_cell? a ⟨B, 0, none⟩ h0
  obtain ⟨hc, hf⟩ := bcell hb
  exact ⟨by rw [hc B _ hlt]; exact h0, by rw [hc B _ hlt]; exact h1, by rw [hf B _ hlt]; exact f0, by rw [hf B _ hlt]; exact f1⟩
theorem Ty.new (w : World) {B : Nat} (hB : B = w.heap.size) (b : Int) (s : Bool) (t : TypeId) : Ty (w.alloc (.cells #[.int .i64 b, .bool s] t)) B b s := by
  subst hB; exact ⟨by simp, by simp, by simp, by simp⟩
theorem Ty.alloc {w : World} {B : Nat} {b : Int} {s : Bool} (h : Ty w B b s) (o : Obj) : Ty (w.alloc o) B b s := h.below (Ext.alloc (Below.refl _ _) o)

set_option maxHeartbeats 1000000 in
theorem tint_ok (w : World) : Calls Try.prog 35 #[] w fun e w' => e = .returned (W.ty 16 true) ∧ Below w.heap.size w w' := by
  go_enter Try.func35, Try.ntmps35
  go_wp2
  exact bodyPost_ret (v := W.ty 16 true) (by simp [results, Try.results35, go_sem]) rfl ⟨rfl, by repeat (first | exact Below.refl _ _ | refine Ext.setCell ?_ (by simp) _ | refine Ext.alloc ?_ _)⟩
set_option maxHeartbeats 1000000 in
theorem tuint_ok (w : World) : Calls Try.prog 61 #[] w fun e w' => e = .returned (W.ty 16 false) ∧ Below w.heap.size w w' := by
  go_enter Try.func61, Try.ntmps61
  go_wp2
  exact bodyPost_ret (v := W.ty 16 false) (by simp [results, Try.results61, go_sem]) rfl ⟨rfl, by repeat (first | exact Below.refl _ _ | refine Ext.setCell ?_ (by simp) _ | refine Ext.alloc ?_ _)⟩
set_option maxHeartbeats 1000000 in
theorem promote_ok (b : Int) (s : Bool) (w : World) : Calls Try.prog 58 #[W.ty b s] w fun e w' => e = .returned (W.ty (W.pb b) (W.ps b s)) ∧ Below w.heap.size w w' := by
  by_cases h : b < 16
  · go_enter Try.func58, Try.ntmps58
    go_wp2_with (first | (go_at_call 35; refine (tint_ok _).mono ?_; rintro e w1 ⟨rfl, hb⟩; have HB := Lib.hid hb; obtain ⟨k0, k1, g0, g1⟩ := Ty.below (Ty.new _ (B := w.heap.size + 1) (by simp) 0 false _) hb; clear hb))
    exact bodyPost_ret (v := W.ty 16 true) (by simp [results, Try.results58, go_sem, k0, k1, g0, g1]) rfl ⟨W.ty_eq (by simp [W.pb, h]) (by simp [W.ps, h]), Ext.setCell (Ext.setCell (Ext.trans (Ext.alloc (Ext.alloc (Below.refl _ _) _) _) HB.out) (by simp) _) (by simp) _⟩
  · go_enter Try.func58, Try.ntmps58
    go_wp2
    exact bodyPost_ret (v := W.ty b s) (by simp [results, Try.results58, go_sem]) rfl ⟨W.ty_eq (by unfold W.pb; split <;> omega) (by unfold W.ps; split <;> first | omega | rfl), by repeat (first | exact Below.refl _ _ | refine Ext.setCell ?_ (by simp) _ | refine Ext.alloc ?_ _)⟩
set_option maxHeartbeats 1000000 in
theorem valid_ok (b : Int) (s : Bool) (h : W.ok b) (w : World) : Calls Try.prog 57 #[W.ty b s] w fun e w' => e = .returned (.bool true) ∧ Below w.heap.size w w' := by
  go_enter Try.func57, Try.ntmps57
  go_wp2_with (first | (go_at_call 87; refine (width_ok _ h _).mono ?_; rintro e w' ⟨rfl, rfl⟩))
  go_ret
  exact ⟨rfl, Ext.alloc (Below.refl _ _) _⟩
set_option maxHeartbeats 1000000 in
theorem valid_no (b : Int) (s : Bool) (h : ¬ W.ok b) (w : World) : Calls Try.prog 57 #[W.ty b s] w fun e w' => e = .returned (.bool false) ∧ Below w.heap.size w w' := by
  go_enter Try.func57, Try.ntmps57
  go_wp2_with (first | (go_at_call 87; refine (width_no _ h _).mono ?_; rintro e w' ⟨rfl, rfl⟩))
  go_ret
  exact ⟨rfl, Ext.alloc (Below.refl _ _) _⟩
set_option maxHeartbeats 1000000 in
theorem truth_ok (b : Bool) (w : World) : Calls Try.prog 60 #[.bool b] w fun e w' => e = .returned (.int .u64 (if b then 1 else 0)) ∧ w = w' := by
  cases b
  · go_enter Try.func60, Try.ntmps60
    go_wp2
    go_ret
    exact ⟨rfl, rfl⟩
  · go_enter Try.func60, Try.ntmps60
    go_wp2
    go_ret
    exact ⟨rfl, rfl⟩
end Go.Proofs.Ytkmcniaaecijdaa
