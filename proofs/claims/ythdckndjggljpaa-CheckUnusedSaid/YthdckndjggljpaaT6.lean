/- The walk of types.Binary: quotients, rests, comparisons. -/
import Derived.Test.YthdckndjggljpaaT5
namespace Go.Proofs.Ythdckndjggljpaa
open Go.RowKit
set_option linter.unusedVariables false
set_option linter.unusedSimpArgs false
set_option maxRecDepth 100000

set_option maxHeartbeats 40000000 in
theorem binary_div (a b xb yb cb : Int) (xs ys cs : Bool) (hx : W.ok xb) (hy : W.ok yb) (hc : W.ok cb) (hcb : W.cb xb yb = cb) (hcs : W.cs xb xs yb ys = cs) (ha : W.U a) (hb : W.U b) (p q : Int) (hp : W.conv xb xs cb a = p) (hq : W.conv yb ys cb b = q) (hz : q % W.md cb ≠ 0) (w : World) :
    Calls Try.prog 46 #[.int .i64 10, .int .u64 a, .int .u64 b, W.ty xb xs, W.ty yb ys] w fun e w' => e = .returned (.tuple #[.int .u64 (W.quo cb cs p q), .int .i64 0]) ∧ Below w.heap.size w w' := by
  have HC := Lib.hid hcb; have HS := Lib.hid hcs; clear hcb hcs
  have CC : Hid (∀ w : World, Calls Try.prog 67 #[W.ty xb xs, W.ty yb ys] w fun e w' => e = .returned (W.ty cb cs) ∧ Below w.heap.size w w') := fun w => by rw [← HC.out, ← HS.out]; exact common_ok xb yb xs ys w
  have CP : Hid (∀ w : World, Calls Try.prog 44 #[.int .u64 a, W.ty xb xs, W.ty cb cs] w fun e w' => e = .returned (.int .u64 p) ∧ Below w.heap.size w w') := fun w => by rw [← hp]; exact convert_ok a xb cb xs cs hx hc ha w
  have CQ : Hid (∀ w : World, Calls Try.prog 44 #[.int .u64 b, W.ty yb ys, W.ty cb cs] w fun e w' => e = .returned (.int .u64 q) ∧ Below w.heap.size w w') := fun w => by rw [← hq]; exact convert_ok b yb cb ys cs hy hc hb w
  have UP : Hid (W.U p) := by rw [← hp]; exact W.conv_U _ _ _ _
  have UQ : Hid (W.U q) := by rw [← hq]; exact W.conv_U _ _ _ _
  clear hp hq
  go_enter Try.func46, Try.ntmps46
  go_wp2_with (first | (go_at_call 38; refine (valid_ok _ _ (by assumption) _).mono ?_; rintro e w1 ⟨rfl, hb1⟩; obtain ⟨x0, x1, x2, x3⟩ := Ty.below (B := w.heap.size) (b := xb) (s := xs) (by first | exact ⟨x0, x1, x2, x3⟩ | exact ⟨by simp [go_sem], by simp [go_sem], by simp [go_sem], by simp [go_sem]⟩) hb1; obtain ⟨y0, y1, y2, y3⟩ := Ty.below (B := w.heap.size + 1) (b := yb) (s := ys) (by first | exact ⟨y0, y1, y2, y3⟩ | exact ⟨by simp [go_sem], by simp [go_sem], by simp [go_sem], by simp [go_sem]⟩) hb1; have HB := Lib.hid (by first | exact Ext.trans HB.out hb1 | exact Ext.trans (Ext.alloc (Ext.alloc (Below.refl w.heap.size w) _) _) hb1); clear hb1) | (go_at_call 67; refine (CC.out _).mono ?_; rintro e w1 ⟨rfl, hb1⟩; obtain ⟨x0, x1, x2, x3⟩ := Ty.below (B := w.heap.size) (b := xb) (s := xs) ⟨x0, x1, x2, x3⟩ hb1; obtain ⟨y0, y1, y2, y3⟩ := Ty.below (B := w.heap.size + 1) (b := yb) (s := ys) ⟨y0, y1, y2, y3⟩ hb1; have HB := Lib.hid (Ext.trans HB.out hb1); clear hb1))
  have HB := Lib.hid (Ext.drew (Ext.alloc HB.out (.cells #[.int .i64 cb, .bool cs] 33)))
  obtain ⟨x0, x1, x2, x3⟩ := Ty.below (B := w.heap.size) (b := xb) (s := xs) ⟨x0, x1, x2, x3⟩ (Ext.drew (Ext.alloc (Below.refl _ w1) (.cells #[.int .i64 cb, .bool cs] 33)))
  obtain ⟨y0, y1, y2, y3⟩ := Ty.below (B := w.heap.size + 1) (b := yb) (s := ys) ⟨y0, y1, y2, y3⟩ (Ext.drew (Ext.alloc (Below.refl _ w1) (.cells #[.int .i64 cb, .bool cs] 33)))
  obtain ⟨z0, z1, z2, z3⟩ := Ty.below (Ty.new w1 rfl cb cs 33) (Ext.drew (Below.refl _ _))
  go_region_held3 (fun w' => w'.cell? ⟨w.heap.size, 0, none⟩ = some (.int .i64 xb) ∧ w'.cell? ⟨w.heap.size, 1, none⟩ = some (.bool xs) ∧ w'.cell? ⟨w.heap.size + 1, 0, none⟩ = some (.int .i64 yb) ∧ w'.cell? ⟨w.heap.size + 1, 1, none⟩ = some (.bool ys)
      ∧ w'.cell? ⟨w1.heap.size, 0, none⟩ = some (.int .i64 cb) ∧ w'.cell? ⟨w1.heap.size, 1, none⟩ = some (.bool cs) ∧ Hid (Below w.heap.size w w'))
    (first | (refine ⟨?_, ?_, ?_, ?_, ?_, ?_, ?_⟩ <;> assumption) | exact keep7c hb2 (by assumption) | exact keep7 hb2 (by assumption) (by assumption) (by assumption) (by assumption) (by assumption) (by assumption) (by assumption))
    (first | (go_at_call_of 44 (Value.int IntKind.u64 a); refine (CP.out _).mono ?_; rintro e w2 ⟨rfl, hb2⟩) | (go_at_call_of 44 (Value.int IntKind.u64 b); refine (CQ.out _).mono ?_; rintro e w2 ⟨rfl, hb2⟩))
  rename_i hh
  obtain ⟨r0, r1, r2, r3, r4, r5, HB9⟩ := hh
  go_wp2_with (first | (go_at_call 69; refine (div_ok _ _ _ _ hc UP.out UQ.out hz _).mono ?_; rintro e w' ⟨rfl, nq, rfl⟩))
  go_ret2
  exact ⟨rfl, below_drewN HB9.out nq⟩
set_option maxHeartbeats 40000000 in
theorem binary_rem (a b xb yb cb : Int) (xs ys cs : Bool) (hx : W.ok xb) (hy : W.ok yb) (hc : W.ok cb) (hcb : W.cb xb yb = cb) (hcs : W.cs xb xs yb ys = cs) (ha : W.U a) (hb : W.U b) (p q : Int) (hp : W.conv xb xs cb a = p) (hq : W.conv yb ys cb b = q) (hz : q % W.md cb ≠ 0) (w : World) :
    Calls Try.prog 46 #[.int .i64 11, .int .u64 a, .int .u64 b, W.ty xb xs, W.ty yb ys] w fun e w' => e = .returned (.tuple #[.int .u64 (W.rem cb cs p q), .int .i64 0]) ∧ Below w.heap.size w w' := by
  have HC := Lib.hid hcb; have HS := Lib.hid hcs; clear hcb hcs
  have CC : Hid (∀ w : World, Calls Try.prog 67 #[W.ty xb xs, W.ty yb ys] w fun e w' => e = .returned (W.ty cb cs) ∧ Below w.heap.size w w') := fun w => by rw [← HC.out, ← HS.out]; exact common_ok xb yb xs ys w
  have CP : Hid (∀ w : World, Calls Try.prog 44 #[.int .u64 a, W.ty xb xs, W.ty cb cs] w fun e w' => e = .returned (.int .u64 p) ∧ Below w.heap.size w w') := fun w => by rw [← hp]; exact convert_ok a xb cb xs cs hx hc ha w
  have CQ : Hid (∀ w : World, Calls Try.prog 44 #[.int .u64 b, W.ty yb ys, W.ty cb cs] w fun e w' => e = .returned (.int .u64 q) ∧ Below w.heap.size w w') := fun w => by rw [← hq]; exact convert_ok b yb cb ys cs hy hc hb w
  have UP : Hid (W.U p) := by rw [← hp]; exact W.conv_U _ _ _ _
  have UQ : Hid (W.U q) := by rw [← hq]; exact W.conv_U _ _ _ _
  clear hp hq
  go_enter Try.func46, Try.ntmps46
  go_wp2_with (first | (go_at_call 38; refine (valid_ok _ _ (by assumption) _).mono ?_; rintro e w1 ⟨rfl, hb1⟩; obtain ⟨x0, x1, x2, x3⟩ := Ty.below (B := w.heap.size) (b := xb) (s := xs) (by first | exact ⟨x0, x1, x2, x3⟩ | exact ⟨by simp [go_sem], by simp [go_sem], by simp [go_sem], by simp [go_sem]⟩) hb1; obtain ⟨y0, y1, y2, y3⟩ := Ty.below (B := w.heap.size + 1) (b := yb) (s := ys) (by first | exact ⟨y0, y1, y2, y3⟩ | exact ⟨by simp [go_sem], by simp [go_sem], by simp [go_sem], by simp [go_sem]⟩) hb1; have HB := Lib.hid (by first | exact Ext.trans HB.out hb1 | exact Ext.trans (Ext.alloc (Ext.alloc (Below.refl w.heap.size w) _) _) hb1); clear hb1) | (go_at_call 67; refine (CC.out _).mono ?_; rintro e w1 ⟨rfl, hb1⟩; obtain ⟨x0, x1, x2, x3⟩ := Ty.below (B := w.heap.size) (b := xb) (s := xs) ⟨x0, x1, x2, x3⟩ hb1; obtain ⟨y0, y1, y2, y3⟩ := Ty.below (B := w.heap.size + 1) (b := yb) (s := ys) ⟨y0, y1, y2, y3⟩ hb1; have HB := Lib.hid (Ext.trans HB.out hb1); clear hb1))
  have HB := Lib.hid (Ext.drew (Ext.alloc HB.out (.cells #[.int .i64 cb, .bool cs] 33)))
  obtain ⟨x0, x1, x2, x3⟩ := Ty.below (B := w.heap.size) (b := xb) (s := xs) ⟨x0, x1, x2, x3⟩ (Ext.drew (Ext.alloc (Below.refl _ w1) (.cells #[.int .i64 cb, .bool cs] 33)))
  obtain ⟨y0, y1, y2, y3⟩ := Ty.below (B := w.heap.size + 1) (b := yb) (s := ys) ⟨y0, y1, y2, y3⟩ (Ext.drew (Ext.alloc (Below.refl _ w1) (.cells #[.int .i64 cb, .bool cs] 33)))
  obtain ⟨z0, z1, z2, z3⟩ := Ty.below (Ty.new w1 rfl cb cs 33) (Ext.drew (Below.refl _ _))
  go_region_held3 (fun w' => w'.cell? ⟨w.heap.size, 0, none⟩ = some (.int .i64 xb) ∧ w'.cell? ⟨w.heap.size, 1, none⟩ = some (.bool xs) ∧ w'.cell? ⟨w.heap.size + 1, 0, none⟩ = some (.int .i64 yb) ∧ w'.cell? ⟨w.heap.size + 1, 1, none⟩ = some (.bool ys)
      ∧ w'.cell? ⟨w1.heap.size, 0, none⟩ = some (.int .i64 cb) ∧ w'.cell? ⟨w1.heap.size, 1, none⟩ = some (.bool cs) ∧ Hid (Below w.heap.size w w'))
    (first | (refine ⟨?_, ?_, ?_, ?_, ?_, ?_, ?_⟩ <;> assumption) | exact keep7c hb2 (by assumption) | exact keep7 hb2 (by assumption) (by assumption) (by assumption) (by assumption) (by assumption) (by assumption) (by assumption))
    (first | (go_at_call_of 44 (Value.int IntKind.u64 a); refine (CP.out _).mono ?_; rintro e w2 ⟨rfl, hb2⟩) | (go_at_call_of 44 (Value.int IntKind.u64 b); refine (CQ.out _).mono ?_; rintro e w2 ⟨rfl, hb2⟩))
  rename_i hh
  obtain ⟨r0, r1, r2, r3, r4, r5, HB9⟩ := hh
  go_wp2_with (first | (go_at_call 70; refine (rem_ok _ _ _ _ hc UP.out UQ.out hz _).mono ?_; rintro e w' ⟨rfl, nq, rfl⟩))
  go_ret2
  exact ⟨rfl, below_drewN HB9.out nq⟩
set_option maxHeartbeats 40000000 in
theorem binary_div0 (a b xb yb cb : Int) (xs ys cs : Bool) (hx : W.ok xb) (hy : W.ok yb) (hc : W.ok cb) (hcb : W.cb xb yb = cb) (hcs : W.cs xb xs yb ys = cs) (ha : W.U a) (hb : W.U b) (p q : Int) (hp : W.conv xb xs cb a = p) (hq : W.conv yb ys cb b = q) (hz : q % W.md cb = 0) (w : World) :
    Calls Try.prog 46 #[.int .i64 10, .int .u64 a, .int .u64 b, W.ty xb xs, W.ty yb ys] w fun e w' => e = .returned (.tuple #[.int .u64 (0), .int .i64 10]) ∧ Below w.heap.size w w' := by
  have HC := Lib.hid hcb; have HS := Lib.hid hcs; clear hcb hcs
  have CC : Hid (∀ w : World, Calls Try.prog 67 #[W.ty xb xs, W.ty yb ys] w fun e w' => e = .returned (W.ty cb cs) ∧ Below w.heap.size w w') := fun w => by rw [← HC.out, ← HS.out]; exact common_ok xb yb xs ys w
  have CP : Hid (∀ w : World, Calls Try.prog 44 #[.int .u64 a, W.ty xb xs, W.ty cb cs] w fun e w' => e = .returned (.int .u64 p) ∧ Below w.heap.size w w') := fun w => by rw [← hp]; exact convert_ok a xb cb xs cs hx hc ha w
  have CQ : Hid (∀ w : World, Calls Try.prog 44 #[.int .u64 b, W.ty yb ys, W.ty cb cs] w fun e w' => e = .returned (.int .u64 q) ∧ Below w.heap.size w w') := fun w => by rw [← hq]; exact convert_ok b yb cb ys cs hy hc hb w
  have UP : Hid (W.U p) := by rw [← hp]; exact W.conv_U _ _ _ _
  have UQ : Hid (W.U q) := by rw [← hq]; exact W.conv_U _ _ _ _
  clear hp hq
  go_enter Try.func46, Try.ntmps46
  go_wp2_with (first | (go_at_call 38; refine (valid_ok _ _ (by assumption) _).mono ?_; rintro e w1 ⟨rfl, hb1⟩; obtain ⟨x0, x1, x2, x3⟩ := Ty.below (B := w.heap.size) (b := xb) (s := xs) (by first | exact ⟨x0, x1, x2, x3⟩ | exact ⟨by simp [go_sem], by simp [go_sem], by simp [go_sem], by simp [go_sem]⟩) hb1; obtain ⟨y0, y1, y2, y3⟩ := Ty.below (B := w.heap.size + 1) (b := yb) (s := ys) (by first | exact ⟨y0, y1, y2, y3⟩ | exact ⟨by simp [go_sem], by simp [go_sem], by simp [go_sem], by simp [go_sem]⟩) hb1; have HB := Lib.hid (by first | exact Ext.trans HB.out hb1 | exact Ext.trans (Ext.alloc (Ext.alloc (Below.refl w.heap.size w) _) _) hb1); clear hb1) | (go_at_call 67; refine (CC.out _).mono ?_; rintro e w1 ⟨rfl, hb1⟩; obtain ⟨x0, x1, x2, x3⟩ := Ty.below (B := w.heap.size) (b := xb) (s := xs) ⟨x0, x1, x2, x3⟩ hb1; obtain ⟨y0, y1, y2, y3⟩ := Ty.below (B := w.heap.size + 1) (b := yb) (s := ys) ⟨y0, y1, y2, y3⟩ hb1; have HB := Lib.hid (Ext.trans HB.out hb1); clear hb1))
  have HB := Lib.hid (Ext.drew (Ext.alloc HB.out (.cells #[.int .i64 cb, .bool cs] 33)))
  obtain ⟨x0, x1, x2, x3⟩ := Ty.below (B := w.heap.size) (b := xb) (s := xs) ⟨x0, x1, x2, x3⟩ (Ext.drew (Ext.alloc (Below.refl _ w1) (.cells #[.int .i64 cb, .bool cs] 33)))
  obtain ⟨y0, y1, y2, y3⟩ := Ty.below (B := w.heap.size + 1) (b := yb) (s := ys) ⟨y0, y1, y2, y3⟩ (Ext.drew (Ext.alloc (Below.refl _ w1) (.cells #[.int .i64 cb, .bool cs] 33)))
  obtain ⟨z0, z1, z2, z3⟩ := Ty.below (Ty.new w1 rfl cb cs 33) (Ext.drew (Below.refl _ _))
  go_region_held3 (fun w' => w'.cell? ⟨w.heap.size, 0, none⟩ = some (.int .i64 xb) ∧ w'.cell? ⟨w.heap.size, 1, none⟩ = some (.bool xs) ∧ w'.cell? ⟨w.heap.size + 1, 0, none⟩ = some (.int .i64 yb) ∧ w'.cell? ⟨w.heap.size + 1, 1, none⟩ = some (.bool ys)
      ∧ w'.cell? ⟨w1.heap.size, 0, none⟩ = some (.int .i64 cb) ∧ w'.cell? ⟨w1.heap.size, 1, none⟩ = some (.bool cs) ∧ Hid (Below w.heap.size w w'))
    (first | (refine ⟨?_, ?_, ?_, ?_, ?_, ?_, ?_⟩ <;> assumption) | exact keep7c hb2 (by assumption) | exact keep7 hb2 (by assumption) (by assumption) (by assumption) (by assumption) (by assumption) (by assumption) (by assumption))
    (first | (go_at_call_of 44 (Value.int IntKind.u64 a); refine (CP.out _).mono ?_; rintro e w2 ⟨rfl, hb2⟩) | (go_at_call_of 44 (Value.int IntKind.u64 b); refine (CQ.out _).mono ?_; rintro e w2 ⟨rfl, hb2⟩))
  rename_i hh
  obtain ⟨r0, r1, r2, r3, r4, r5, HB9⟩ := hh
  go_wp2_with (first | (go_at_call 69; refine (div_zero _ _ _ _ hc UQ.out hz _).mono ?_; rintro e w' ⟨rfl, rfl⟩))
  go_ret2
  exact ⟨rfl, HB9.out⟩
set_option maxHeartbeats 40000000 in
theorem binary_rem0 (a b xb yb cb : Int) (xs ys cs : Bool) (hx : W.ok xb) (hy : W.ok yb) (hc : W.ok cb) (hcb : W.cb xb yb = cb) (hcs : W.cs xb xs yb ys = cs) (ha : W.U a) (hb : W.U b) (p q : Int) (hp : W.conv xb xs cb a = p) (hq : W.conv yb ys cb b = q) (hz : q % W.md cb = 0) (w : World) :
    Calls Try.prog 46 #[.int .i64 11, .int .u64 a, .int .u64 b, W.ty xb xs, W.ty yb ys] w fun e w' => e = .returned (.tuple #[.int .u64 (0), .int .i64 10]) ∧ Below w.heap.size w w' := by
  have HC := Lib.hid hcb; have HS := Lib.hid hcs; clear hcb hcs
  have CC : Hid (∀ w : World, Calls Try.prog 67 #[W.ty xb xs, W.ty yb ys] w fun e w' => e = .returned (W.ty cb cs) ∧ Below w.heap.size w w') := fun w => by rw [← HC.out, ← HS.out]; exact common_ok xb yb xs ys w
  have CP : Hid (∀ w : World, Calls Try.prog 44 #[.int .u64 a, W.ty xb xs, W.ty cb cs] w fun e w' => e = .returned (.int .u64 p) ∧ Below w.heap.size w w') := fun w => by rw [← hp]; exact convert_ok a xb cb xs cs hx hc ha w
  have CQ : Hid (∀ w : World, Calls Try.prog 44 #[.int .u64 b, W.ty yb ys, W.ty cb cs] w fun e w' => e = .returned (.int .u64 q) ∧ Below w.heap.size w w') := fun w => by rw [← hq]; exact convert_ok b yb cb ys cs hy hc hb w
  have UP : Hid (W.U p) := by rw [← hp]; exact W.conv_U _ _ _ _
  have UQ : Hid (W.U q) := by rw [← hq]; exact W.conv_U _ _ _ _
  clear hp hq
  go_enter Try.func46, Try.ntmps46
  go_wp2_with (first | (go_at_call 38; refine (valid_ok _ _ (by assumption) _).mono ?_; rintro e w1 ⟨rfl, hb1⟩; obtain ⟨x0, x1, x2, x3⟩ := Ty.below (B := w.heap.size) (b := xb) (s := xs) (by first | exact ⟨x0, x1, x2, x3⟩ | exact ⟨by simp [go_sem], by simp [go_sem], by simp [go_sem], by simp [go_sem]⟩) hb1; obtain ⟨y0, y1, y2, y3⟩ := Ty.below (B := w.heap.size + 1) (b := yb) (s := ys) (by first | exact ⟨y0, y1, y2, y3⟩ | exact ⟨by simp [go_sem], by simp [go_sem], by simp [go_sem], by simp [go_sem]⟩) hb1; have HB := Lib.hid (by first | exact Ext.trans HB.out hb1 | exact Ext.trans (Ext.alloc (Ext.alloc (Below.refl w.heap.size w) _) _) hb1); clear hb1) | (go_at_call 67; refine (CC.out _).mono ?_; rintro e w1 ⟨rfl, hb1⟩; obtain ⟨x0, x1, x2, x3⟩ := Ty.below (B := w.heap.size) (b := xb) (s := xs) ⟨x0, x1, x2, x3⟩ hb1; obtain ⟨y0, y1, y2, y3⟩ := Ty.below (B := w.heap.size + 1) (b := yb) (s := ys) ⟨y0, y1, y2, y3⟩ hb1; have HB := Lib.hid (Ext.trans HB.out hb1); clear hb1))
  have HB := Lib.hid (Ext.drew (Ext.alloc HB.out (.cells #[.int .i64 cb, .bool cs] 33)))
  obtain ⟨x0, x1, x2, x3⟩ := Ty.below (B := w.heap.size) (b := xb) (s := xs) ⟨x0, x1, x2, x3⟩ (Ext.drew (Ext.alloc (Below.refl _ w1) (.cells #[.int .i64 cb, .bool cs] 33)))
  obtain ⟨y0, y1, y2, y3⟩ := Ty.below (B := w.heap.size + 1) (b := yb) (s := ys) ⟨y0, y1, y2, y3⟩ (Ext.drew (Ext.alloc (Below.refl _ w1) (.cells #[.int .i64 cb, .bool cs] 33)))
  obtain ⟨z0, z1, z2, z3⟩ := Ty.below (Ty.new w1 rfl cb cs 33) (Ext.drew (Below.refl _ _))
  go_region_held3 (fun w' => w'.cell? ⟨w.heap.size, 0, none⟩ = some (.int .i64 xb) ∧ w'.cell? ⟨w.heap.size, 1, none⟩ = some (.bool xs) ∧ w'.cell? ⟨w.heap.size + 1, 0, none⟩ = some (.int .i64 yb) ∧ w'.cell? ⟨w.heap.size + 1, 1, none⟩ = some (.bool ys)
      ∧ w'.cell? ⟨w1.heap.size, 0, none⟩ = some (.int .i64 cb) ∧ w'.cell? ⟨w1.heap.size, 1, none⟩ = some (.bool cs) ∧ Hid (Below w.heap.size w w'))
    (first | (refine ⟨?_, ?_, ?_, ?_, ?_, ?_, ?_⟩ <;> assumption) | exact keep7c hb2 (by assumption) | exact keep7 hb2 (by assumption) (by assumption) (by assumption) (by assumption) (by assumption) (by assumption) (by assumption))
    (first | (go_at_call_of 44 (Value.int IntKind.u64 a); refine (CP.out _).mono ?_; rintro e w2 ⟨rfl, hb2⟩) | (go_at_call_of 44 (Value.int IntKind.u64 b); refine (CQ.out _).mono ?_; rintro e w2 ⟨rfl, hb2⟩))
  rename_i hh
  obtain ⟨r0, r1, r2, r3, r4, r5, HB9⟩ := hh
  go_wp2_with (first | (go_at_call 70; refine (rem_zero _ _ _ _ hc UQ.out hz _).mono ?_; rintro e w' ⟨rfl, rfl⟩))
  go_ret2
  exact ⟨rfl, HB9.out⟩
set_option maxHeartbeats 40000000 in
theorem binary_cmp16 (a b xb yb cb : Int) (xs ys cs : Bool) (hx : W.ok xb) (hy : W.ok yb) (hc : W.ok cb) (hcb : W.cb xb yb = cb) (hcs : W.cs xb xs yb ys = cs) (ha : W.U a) (hb : W.U b) (p q : Int) (hp : W.conv xb xs cb a = p) (hq : W.conv yb ys cb b = q) (w : World) :
    Calls Try.prog 46 #[.int .i64 16, .int .u64 a, .int .u64 b, W.ty xb xs, W.ty yb ys] w fun e w' => e = .returned (.tuple #[.int .u64 (if W.cmp 16 (W.less cb cs p q) (W.less cb cs q p) then 1 else 0), .int .i64 0]) ∧ Below w.heap.size w w' := by
  have HC := Lib.hid hcb; have HS := Lib.hid hcs; clear hcb hcs
  have CC : Hid (∀ w : World, Calls Try.prog 67 #[W.ty xb xs, W.ty yb ys] w fun e w' => e = .returned (W.ty cb cs) ∧ Below w.heap.size w w') := fun w => by rw [← HC.out, ← HS.out]; exact common_ok xb yb xs ys w
  have CP : Hid (∀ w : World, Calls Try.prog 44 #[.int .u64 a, W.ty xb xs, W.ty cb cs] w fun e w' => e = .returned (.int .u64 p) ∧ Below w.heap.size w w') := fun w => by rw [← hp]; exact convert_ok a xb cb xs cs hx hc ha w
  have CQ : Hid (∀ w : World, Calls Try.prog 44 #[.int .u64 b, W.ty yb ys, W.ty cb cs] w fun e w' => e = .returned (.int .u64 q) ∧ Below w.heap.size w w') := fun w => by rw [← hq]; exact convert_ok b yb cb ys cs hy hc hb w
  have UP : Hid (W.U p) := by rw [← hp]; exact W.conv_U _ _ _ _
  have UQ : Hid (W.U q) := by rw [← hq]; exact W.conv_U _ _ _ _
  clear hp hq
  go_enter Try.func46, Try.ntmps46
  go_wp2_with (first | (go_at_call 38; refine (valid_ok _ _ (by assumption) _).mono ?_; rintro e w1 ⟨rfl, hb1⟩; obtain ⟨x0, x1, x2, x3⟩ := Ty.below (B := w.heap.size) (b := xb) (s := xs) (by first | exact ⟨x0, x1, x2, x3⟩ | exact ⟨by simp [go_sem], by simp [go_sem], by simp [go_sem], by simp [go_sem]⟩) hb1; obtain ⟨y0, y1, y2, y3⟩ := Ty.below (B := w.heap.size + 1) (b := yb) (s := ys) (by first | exact ⟨y0, y1, y2, y3⟩ | exact ⟨by simp [go_sem], by simp [go_sem], by simp [go_sem], by simp [go_sem]⟩) hb1; have HB := Lib.hid (by first | exact Ext.trans HB.out hb1 | exact Ext.trans (Ext.alloc (Ext.alloc (Below.refl w.heap.size w) _) _) hb1); clear hb1) | (go_at_call 67; refine (CC.out _).mono ?_; rintro e w1 ⟨rfl, hb1⟩; obtain ⟨x0, x1, x2, x3⟩ := Ty.below (B := w.heap.size) (b := xb) (s := xs) ⟨x0, x1, x2, x3⟩ hb1; obtain ⟨y0, y1, y2, y3⟩ := Ty.below (B := w.heap.size + 1) (b := yb) (s := ys) ⟨y0, y1, y2, y3⟩ hb1; have HB := Lib.hid (Ext.trans HB.out hb1); clear hb1))
  have HB := Lib.hid (Ext.drew (Ext.alloc HB.out (.cells #[.int .i64 cb, .bool cs] 33)))
  obtain ⟨x0, x1, x2, x3⟩ := Ty.below (B := w.heap.size) (b := xb) (s := xs) ⟨x0, x1, x2, x3⟩ (Ext.drew (Ext.alloc (Below.refl _ w1) (.cells #[.int .i64 cb, .bool cs] 33)))
  obtain ⟨y0, y1, y2, y3⟩ := Ty.below (B := w.heap.size + 1) (b := yb) (s := ys) ⟨y0, y1, y2, y3⟩ (Ext.drew (Ext.alloc (Below.refl _ w1) (.cells #[.int .i64 cb, .bool cs] 33)))
  obtain ⟨z0, z1, z2, z3⟩ := Ty.below (Ty.new w1 rfl cb cs 33) (Ext.drew (Below.refl _ _))
  go_region_held3 (fun w' => w'.cell? ⟨w.heap.size, 0, none⟩ = some (.int .i64 xb) ∧ w'.cell? ⟨w.heap.size, 1, none⟩ = some (.bool xs) ∧ w'.cell? ⟨w.heap.size + 1, 0, none⟩ = some (.int .i64 yb) ∧ w'.cell? ⟨w.heap.size + 1, 1, none⟩ = some (.bool ys)
      ∧ w'.cell? ⟨w1.heap.size, 0, none⟩ = some (.int .i64 cb) ∧ w'.cell? ⟨w1.heap.size, 1, none⟩ = some (.bool cs) ∧ Hid (Below w.heap.size w w'))
    (first | (refine ⟨?_, ?_, ?_, ?_, ?_, ?_, ?_⟩ <;> assumption) | exact keep7c hb2 (by assumption) | exact keep7 hb2 (by assumption) (by assumption) (by assumption) (by assumption) (by assumption) (by assumption) (by assumption))
    (first | (go_at_call_of 44 (Value.int IntKind.u64 a); refine (CP.out _).mono ?_; rintro e w2 ⟨rfl, hb2⟩) | (go_at_call_of 44 (Value.int IntKind.u64 b); refine (CQ.out _).mono ?_; rintro e w2 ⟨rfl, hb2⟩))
  rename_i hh
  obtain ⟨r0, r1, r2, r3, r4, r5, HB9⟩ := hh
  go_wp2_with (first | (go_at_call 72; refine (compare_ok _ _ _ _ _ hc UP.out UQ.out _).mono ?_; rintro e w3 ⟨rfl, hb3⟩; have HB3 := Lib.hid hb3; clear hb3) | (go_at_call 63; refine (truth_ok _ _).mono ?_; rintro e w' ⟨rfl, rfl⟩))
  all_goals go_ret2
  all_goals exact ⟨by first | rfl | simp [*], Ext.trans HB9.out HB3.out⟩
set_option maxHeartbeats 40000000 in
theorem binary_cmp17 (a b xb yb cb : Int) (xs ys cs : Bool) (hx : W.ok xb) (hy : W.ok yb) (hc : W.ok cb) (hcb : W.cb xb yb = cb) (hcs : W.cs xb xs yb ys = cs) (ha : W.U a) (hb : W.U b) (p q : Int) (hp : W.conv xb xs cb a = p) (hq : W.conv yb ys cb b = q) (w : World) :
    Calls Try.prog 46 #[.int .i64 17, .int .u64 a, .int .u64 b, W.ty xb xs, W.ty yb ys] w fun e w' => e = .returned (.tuple #[.int .u64 (if W.cmp 17 (W.less cb cs p q) (W.less cb cs q p) then 1 else 0), .int .i64 0]) ∧ Below w.heap.size w w' := by
  have HC := Lib.hid hcb; have HS := Lib.hid hcs; clear hcb hcs
  have CC : Hid (∀ w : World, Calls Try.prog 67 #[W.ty xb xs, W.ty yb ys] w fun e w' => e = .returned (W.ty cb cs) ∧ Below w.heap.size w w') := fun w => by rw [← HC.out, ← HS.out]; exact common_ok xb yb xs ys w
  have CP : Hid (∀ w : World, Calls Try.prog 44 #[.int .u64 a, W.ty xb xs, W.ty cb cs] w fun e w' => e = .returned (.int .u64 p) ∧ Below w.heap.size w w') := fun w => by rw [← hp]; exact convert_ok a xb cb xs cs hx hc ha w
  have CQ : Hid (∀ w : World, Calls Try.prog 44 #[.int .u64 b, W.ty yb ys, W.ty cb cs] w fun e w' => e = .returned (.int .u64 q) ∧ Below w.heap.size w w') := fun w => by rw [← hq]; exact convert_ok b yb cb ys cs hy hc hb w
  have UP : Hid (W.U p) := by rw [← hp]; exact W.conv_U _ _ _ _
  have UQ : Hid (W.U q) := by rw [← hq]; exact W.conv_U _ _ _ _
  clear hp hq
  go_enter Try.func46, Try.ntmps46
  go_wp2_with (first | (go_at_call 38; refine (valid_ok _ _ (by assumption) _).mono ?_; rintro e w1 ⟨rfl, hb1⟩; obtain ⟨x0, x1, x2, x3⟩ := Ty.below (B := w.heap.size) (b := xb) (s := xs) (by first | exact ⟨x0, x1, x2, x3⟩ | exact ⟨by simp [go_sem], by simp [go_sem], by simp [go_sem], by simp [go_sem]⟩) hb1; obtain ⟨y0, y1, y2, y3⟩ := Ty.below (B := w.heap.size + 1) (b := yb) (s := ys) (by first | exact ⟨y0, y1, y2, y3⟩ | exact ⟨by simp [go_sem], by simp [go_sem], by simp [go_sem], by simp [go_sem]⟩) hb1; have HB := Lib.hid (by first | exact Ext.trans HB.out hb1 | exact Ext.trans (Ext.alloc (Ext.alloc (Below.refl w.heap.size w) _) _) hb1); clear hb1) | (go_at_call 67; refine (CC.out _).mono ?_; rintro e w1 ⟨rfl, hb1⟩; obtain ⟨x0, x1, x2, x3⟩ := Ty.below (B := w.heap.size) (b := xb) (s := xs) ⟨x0, x1, x2, x3⟩ hb1; obtain ⟨y0, y1, y2, y3⟩ := Ty.below (B := w.heap.size + 1) (b := yb) (s := ys) ⟨y0, y1, y2, y3⟩ hb1; have HB := Lib.hid (Ext.trans HB.out hb1); clear hb1))
  have HB := Lib.hid (Ext.drew (Ext.alloc HB.out (.cells #[.int .i64 cb, .bool cs] 33)))
  obtain ⟨x0, x1, x2, x3⟩ := Ty.below (B := w.heap.size) (b := xb) (s := xs) ⟨x0, x1, x2, x3⟩ (Ext.drew (Ext.alloc (Below.refl _ w1) (.cells #[.int .i64 cb, .bool cs] 33)))
  obtain ⟨y0, y1, y2, y3⟩ := Ty.below (B := w.heap.size + 1) (b := yb) (s := ys) ⟨y0, y1, y2, y3⟩ (Ext.drew (Ext.alloc (Below.refl _ w1) (.cells #[.int .i64 cb, .bool cs] 33)))
  obtain ⟨z0, z1, z2, z3⟩ := Ty.below (Ty.new w1 rfl cb cs 33) (Ext.drew (Below.refl _ _))
  go_region_held3 (fun w' => w'.cell? ⟨w.heap.size, 0, none⟩ = some (.int .i64 xb) ∧ w'.cell? ⟨w.heap.size, 1, none⟩ = some (.bool xs) ∧ w'.cell? ⟨w.heap.size + 1, 0, none⟩ = some (.int .i64 yb) ∧ w'.cell? ⟨w.heap.size + 1, 1, none⟩ = some (.bool ys)
      ∧ w'.cell? ⟨w1.heap.size, 0, none⟩ = some (.int .i64 cb) ∧ w'.cell? ⟨w1.heap.size, 1, none⟩ = some (.bool cs) ∧ Hid (Below w.heap.size w w'))
    (first | (refine ⟨?_, ?_, ?_, ?_, ?_, ?_, ?_⟩ <;> assumption) | exact keep7c hb2 (by assumption) | exact keep7 hb2 (by assumption) (by assumption) (by assumption) (by assumption) (by assumption) (by assumption) (by assumption))
    (first | (go_at_call_of 44 (Value.int IntKind.u64 a); refine (CP.out _).mono ?_; rintro e w2 ⟨rfl, hb2⟩) | (go_at_call_of 44 (Value.int IntKind.u64 b); refine (CQ.out _).mono ?_; rintro e w2 ⟨rfl, hb2⟩))
  rename_i hh
  obtain ⟨r0, r1, r2, r3, r4, r5, HB9⟩ := hh
  go_wp2_with (first | (go_at_call 72; refine (compare_ok _ _ _ _ _ hc UP.out UQ.out _).mono ?_; rintro e w3 ⟨rfl, hb3⟩; have HB3 := Lib.hid hb3; clear hb3) | (go_at_call 63; refine (truth_ok _ _).mono ?_; rintro e w' ⟨rfl, rfl⟩))
  all_goals go_ret2
  all_goals exact ⟨by first | rfl | simp [*], Ext.trans HB9.out HB3.out⟩
set_option maxHeartbeats 40000000 in
theorem binary_cmp18 (a b xb yb cb : Int) (xs ys cs : Bool) (hx : W.ok xb) (hy : W.ok yb) (hc : W.ok cb) (hcb : W.cb xb yb = cb) (hcs : W.cs xb xs yb ys = cs) (ha : W.U a) (hb : W.U b) (p q : Int) (hp : W.conv xb xs cb a = p) (hq : W.conv yb ys cb b = q) (w : World) :
    Calls Try.prog 46 #[.int .i64 18, .int .u64 a, .int .u64 b, W.ty xb xs, W.ty yb ys] w fun e w' => e = .returned (.tuple #[.int .u64 (if W.cmp 18 (W.less cb cs p q) (W.less cb cs q p) then 1 else 0), .int .i64 0]) ∧ Below w.heap.size w w' := by
  have HC := Lib.hid hcb; have HS := Lib.hid hcs; clear hcb hcs
  have CC : Hid (∀ w : World, Calls Try.prog 67 #[W.ty xb xs, W.ty yb ys] w fun e w' => e = .returned (W.ty cb cs) ∧ Below w.heap.size w w') := fun w => by rw [← HC.out, ← HS.out]; exact common_ok xb yb xs ys w
  have CP : Hid (∀ w : World, Calls Try.prog 44 #[.int .u64 a, W.ty xb xs, W.ty cb cs] w fun e w' => e = .returned (.int .u64 p) ∧ Below w.heap.size w w') := fun w => by rw [← hp]; exact convert_ok a xb cb xs cs hx hc ha w
  have CQ : Hid (∀ w : World, Calls Try.prog 44 #[.int .u64 b, W.ty yb ys, W.ty cb cs] w fun e w' => e = .returned (.int .u64 q) ∧ Below w.heap.size w w') := fun w => by rw [← hq]; exact convert_ok b yb cb ys cs hy hc hb w
  have UP : Hid (W.U p) := by rw [← hp]; exact W.conv_U _ _ _ _
  have UQ : Hid (W.U q) := by rw [← hq]; exact W.conv_U _ _ _ _
  clear hp hq
  go_enter Try.func46, Try.ntmps46
  go_wp2_with (first | (go_at_call 38; refine (valid_ok _ _ (by assumption) _).mono ?_; rintro e w1 ⟨rfl, hb1⟩; obtain ⟨x0, x1, x2, x3⟩ := Ty.below (B := w.heap.size) (b := xb) (s := xs) (by first | exact ⟨x0, x1, x2, x3⟩ | exact ⟨by simp [go_sem], by simp [go_sem], by simp [go_sem], by simp [go_sem]⟩) hb1; obtain ⟨y0, y1, y2, y3⟩ := Ty.below (B := w.heap.size + 1) (b := yb) (s := ys) (by first | exact ⟨y0, y1, y2, y3⟩ | exact ⟨by simp [go_sem], by simp [go_sem], by simp [go_sem], by simp [go_sem]⟩) hb1; have HB := Lib.hid (by first | exact Ext.trans HB.out hb1 | exact Ext.trans (Ext.alloc (Ext.alloc (Below.refl w.heap.size w) _) _) hb1); clear hb1) | (go_at_call 67; refine (CC.out _).mono ?_; rintro e w1 ⟨rfl, hb1⟩; obtain ⟨x0, x1, x2, x3⟩ := Ty.below (B := w.heap.size) (b := xb) (s := xs) ⟨x0, x1, x2, x3⟩ hb1; obtain ⟨y0, y1, y2, y3⟩ := Ty.below (B := w.heap.size + 1) (b := yb) (s := ys) ⟨y0, y1, y2, y3⟩ hb1; have HB := Lib.hid (Ext.trans HB.out hb1); clear hb1))
  have HB := Lib.hid (Ext.drew (Ext.alloc HB.out (.cells #[.int .i64 cb, .bool cs] 33)))
  obtain ⟨x0, x1, x2, x3⟩ := Ty.below (B := w.heap.size) (b := xb) (s := xs) ⟨x0, x1, x2, x3⟩ (Ext.drew (Ext.alloc (Below.refl _ w1) (.cells #[.int .i64 cb, .bool cs] 33)))
  obtain ⟨y0, y1, y2, y3⟩ := Ty.below (B := w.heap.size + 1) (b := yb) (s := ys) ⟨y0, y1, y2, y3⟩ (Ext.drew (Ext.alloc (Below.refl _ w1) (.cells #[.int .i64 cb, .bool cs] 33)))
  obtain ⟨z0, z1, z2, z3⟩ := Ty.below (Ty.new w1 rfl cb cs 33) (Ext.drew (Below.refl _ _))
  go_region_held3 (fun w' => w'.cell? ⟨w.heap.size, 0, none⟩ = some (.int .i64 xb) ∧ w'.cell? ⟨w.heap.size, 1, none⟩ = some (.bool xs) ∧ w'.cell? ⟨w.heap.size + 1, 0, none⟩ = some (.int .i64 yb) ∧ w'.cell? ⟨w.heap.size + 1, 1, none⟩ = some (.bool ys)
      ∧ w'.cell? ⟨w1.heap.size, 0, none⟩ = some (.int .i64 cb) ∧ w'.cell? ⟨w1.heap.size, 1, none⟩ = some (.bool cs) ∧ Hid (Below w.heap.size w w'))
    (first | (refine ⟨?_, ?_, ?_, ?_, ?_, ?_, ?_⟩ <;> assumption) | exact keep7c hb2 (by assumption) | exact keep7 hb2 (by assumption) (by assumption) (by assumption) (by assumption) (by assumption) (by assumption) (by assumption))
    (first | (go_at_call_of 44 (Value.int IntKind.u64 a); refine (CP.out _).mono ?_; rintro e w2 ⟨rfl, hb2⟩) | (go_at_call_of 44 (Value.int IntKind.u64 b); refine (CQ.out _).mono ?_; rintro e w2 ⟨rfl, hb2⟩))
  rename_i hh
  obtain ⟨r0, r1, r2, r3, r4, r5, HB9⟩ := hh
  go_wp2_with (first | (go_at_call 72; refine (compare_ok _ _ _ _ _ hc UP.out UQ.out _).mono ?_; rintro e w3 ⟨rfl, hb3⟩; have HB3 := Lib.hid hb3; clear hb3) | (go_at_call 63; refine (truth_ok _ _).mono ?_; rintro e w' ⟨rfl, rfl⟩))
  all_goals go_ret2
  all_goals exact ⟨by first | rfl | simp [*], Ext.trans HB9.out HB3.out⟩
set_option maxHeartbeats 40000000 in
theorem binary_cmp19 (a b xb yb cb : Int) (xs ys cs : Bool) (hx : W.ok xb) (hy : W.ok yb) (hc : W.ok cb) (hcb : W.cb xb yb = cb) (hcs : W.cs xb xs yb ys = cs) (ha : W.U a) (hb : W.U b) (p q : Int) (hp : W.conv xb xs cb a = p) (hq : W.conv yb ys cb b = q) (w : World) :
    Calls Try.prog 46 #[.int .i64 19, .int .u64 a, .int .u64 b, W.ty xb xs, W.ty yb ys] w fun e w' => e = .returned (.tuple #[.int .u64 (if W.cmp 19 (W.less cb cs p q) (W.less cb cs q p) then 1 else 0), .int .i64 0]) ∧ Below w.heap.size w w' := by
  have HC := Lib.hid hcb; have HS := Lib.hid hcs; clear hcb hcs
  have CC : Hid (∀ w : World, Calls Try.prog 67 #[W.ty xb xs, W.ty yb ys] w fun e w' => e = .returned (W.ty cb cs) ∧ Below w.heap.size w w') := fun w => by rw [← HC.out, ← HS.out]; exact common_ok xb yb xs ys w
  have CP : Hid (∀ w : World, Calls Try.prog 44 #[.int .u64 a, W.ty xb xs, W.ty cb cs] w fun e w' => e = .returned (.int .u64 p) ∧ Below w.heap.size w w') := fun w => by rw [← hp]; exact convert_ok a xb cb xs cs hx hc ha w
  have CQ : Hid (∀ w : World, Calls Try.prog 44 #[.int .u64 b, W.ty yb ys, W.ty cb cs] w fun e w' => e = .returned (.int .u64 q) ∧ Below w.heap.size w w') := fun w => by rw [← hq]; exact convert_ok b yb cb ys cs hy hc hb w
  have UP : Hid (W.U p) := by rw [← hp]; exact W.conv_U _ _ _ _
  have UQ : Hid (W.U q) := by rw [← hq]; exact W.conv_U _ _ _ _
  clear hp hq
  go_enter Try.func46, Try.ntmps46
  go_wp2_with (first | (go_at_call 38; refine (valid_ok _ _ (by assumption) _).mono ?_; rintro e w1 ⟨rfl, hb1⟩; obtain ⟨x0, x1, x2, x3⟩ := Ty.below (B := w.heap.size) (b := xb) (s := xs) (by first | exact ⟨x0, x1, x2, x3⟩ | exact ⟨by simp [go_sem], by simp [go_sem], by simp [go_sem], by simp [go_sem]⟩) hb1; obtain ⟨y0, y1, y2, y3⟩ := Ty.below (B := w.heap.size + 1) (b := yb) (s := ys) (by first | exact ⟨y0, y1, y2, y3⟩ | exact ⟨by simp [go_sem], by simp [go_sem], by simp [go_sem], by simp [go_sem]⟩) hb1; have HB := Lib.hid (by first | exact Ext.trans HB.out hb1 | exact Ext.trans (Ext.alloc (Ext.alloc (Below.refl w.heap.size w) _) _) hb1); clear hb1) | (go_at_call 67; refine (CC.out _).mono ?_; rintro e w1 ⟨rfl, hb1⟩; obtain ⟨x0, x1, x2, x3⟩ := Ty.below (B := w.heap.size) (b := xb) (s := xs) ⟨x0, x1, x2, x3⟩ hb1; obtain ⟨y0, y1, y2, y3⟩ := Ty.below (B := w.heap.size + 1) (b := yb) (s := ys) ⟨y0, y1, y2, y3⟩ hb1; have HB := Lib.hid (Ext.trans HB.out hb1); clear hb1))
  have HB := Lib.hid (Ext.drew (Ext.alloc HB.out (.cells #[.int .i64 cb, .bool cs] 33)))
  obtain ⟨x0, x1, x2, x3⟩ := Ty.below (B := w.heap.size) (b := xb) (s := xs) ⟨x0, x1, x2, x3⟩ (Ext.drew (Ext.alloc (Below.refl _ w1) (.cells #[.int .i64 cb, .bool cs] 33)))
  obtain ⟨y0, y1, y2, y3⟩ := Ty.below (B := w.heap.size + 1) (b := yb) (s := ys) ⟨y0, y1, y2, y3⟩ (Ext.drew (Ext.alloc (Below.refl _ w1) (.cells #[.int .i64 cb, .bool cs] 33)))
  obtain ⟨z0, z1, z2, z3⟩ := Ty.below (Ty.new w1 rfl cb cs 33) (Ext.drew (Below.refl _ _))
  go_region_held3 (fun w' => w'.cell? ⟨w.heap.size, 0, none⟩ = some (.int .i64 xb) ∧ w'.cell? ⟨w.heap.size, 1, none⟩ = some (.bool xs) ∧ w'.cell? ⟨w.heap.size + 1, 0, none⟩ = some (.int .i64 yb) ∧ w'.cell? ⟨w.heap.size + 1, 1, none⟩ = some (.bool ys)
      ∧ w'.cell? ⟨w1.heap.size, 0, none⟩ = some (.int .i64 cb) ∧ w'.cell? ⟨w1.heap.size, 1, none⟩ = some (.bool cs) ∧ Hid (Below w.heap.size w w'))
    (first | (refine ⟨?_, ?_, ?_, ?_, ?_, ?_, ?_⟩ <;> assumption) | exact keep7c hb2 (by assumption) | exact keep7 hb2 (by assumption) (by assumption) (by assumption) (by assumption) (by assumption) (by assumption) (by assumption))
    (first | (go_at_call_of 44 (Value.int IntKind.u64 a); refine (CP.out _).mono ?_; rintro e w2 ⟨rfl, hb2⟩) | (go_at_call_of 44 (Value.int IntKind.u64 b); refine (CQ.out _).mono ?_; rintro e w2 ⟨rfl, hb2⟩))
  rename_i hh
  obtain ⟨r0, r1, r2, r3, r4, r5, HB9⟩ := hh
  go_wp2_with (first | (go_at_call 72; refine (compare_ok _ _ _ _ _ hc UP.out UQ.out _).mono ?_; rintro e w3 ⟨rfl, hb3⟩; have HB3 := Lib.hid hb3; clear hb3) | (go_at_call 63; refine (truth_ok _ _).mono ?_; rintro e w' ⟨rfl, rfl⟩))
  all_goals go_ret2
  all_goals exact ⟨by first | rfl | simp [*], Ext.trans HB9.out HB3.out⟩
set_option maxHeartbeats 40000000 in
theorem binary_cmp20 (a b xb yb cb : Int) (xs ys cs : Bool) (hx : W.ok xb) (hy : W.ok yb) (hc : W.ok cb) (hcb : W.cb xb yb = cb) (hcs : W.cs xb xs yb ys = cs) (ha : W.U a) (hb : W.U b) (p q : Int) (hp : W.conv xb xs cb a = p) (hq : W.conv yb ys cb b = q) (w : World) :
    Calls Try.prog 46 #[.int .i64 20, .int .u64 a, .int .u64 b, W.ty xb xs, W.ty yb ys] w fun e w' => e = .returned (.tuple #[.int .u64 (if W.cmp 20 (W.less cb cs p q) (W.less cb cs q p) then 1 else 0), .int .i64 0]) ∧ Below w.heap.size w w' := by
  have HC := Lib.hid hcb; have HS := Lib.hid hcs; clear hcb hcs
  have CC : Hid (∀ w : World, Calls Try.prog 67 #[W.ty xb xs, W.ty yb ys] w fun e w' => e = .returned (W.ty cb cs) ∧ Below w.heap.size w w') := fun w => by rw [← HC.out, ← HS.out]; exact common_ok xb yb xs ys w
  have CP : Hid (∀ w : World, Calls Try.prog 44 #[.int .u64 a, W.ty xb xs, W.ty cb cs] w fun e w' => e = .returned (.int .u64 p) ∧ Below w.heap.size w w') := fun w => by rw [← hp]; exact convert_ok a xb cb xs cs hx hc ha w
  have CQ : Hid (∀ w : World, Calls Try.prog 44 #[.int .u64 b, W.ty yb ys, W.ty cb cs] w fun e w' => e = .returned (.int .u64 q) ∧ Below w.heap.size w w') := fun w => by rw [← hq]; exact convert_ok b yb cb ys cs hy hc hb w
  have UP : Hid (W.U p) := by rw [← hp]; exact W.conv_U _ _ _ _
  have UQ : Hid (W.U q) := by rw [← hq]; exact W.conv_U _ _ _ _
  clear hp hq
  go_enter Try.func46, Try.ntmps46
  go_wp2_with (first | (go_at_call 38; refine (valid_ok _ _ (by assumption) _).mono ?_; rintro e w1 ⟨rfl, hb1⟩; obtain ⟨x0, x1, x2, x3⟩ := Ty.below (B := w.heap.size) (b := xb) (s := xs) (by first | exact ⟨x0, x1, x2, x3⟩ | exact ⟨by simp [go_sem], by simp [go_sem], by simp [go_sem], by simp [go_sem]⟩) hb1; obtain ⟨y0, y1, y2, y3⟩ := Ty.below (B := w.heap.size + 1) (b := yb) (s := ys) (by first | exact ⟨y0, y1, y2, y3⟩ | exact ⟨by simp [go_sem], by simp [go_sem], by simp [go_sem], by simp [go_sem]⟩) hb1; have HB := Lib.hid (by first | exact Ext.trans HB.out hb1 | exact Ext.trans (Ext.alloc (Ext.alloc (Below.refl w.heap.size w) _) _) hb1); clear hb1) | (go_at_call 67; refine (CC.out _).mono ?_; rintro e w1 ⟨rfl, hb1⟩; obtain ⟨x0, x1, x2, x3⟩ := Ty.below (B := w.heap.size) (b := xb) (s := xs) ⟨x0, x1, x2, x3⟩ hb1; obtain ⟨y0, y1, y2, y3⟩ := Ty.below (B := w.heap.size + 1) (b := yb) (s := ys) ⟨y0, y1, y2, y3⟩ hb1; have HB := Lib.hid (Ext.trans HB.out hb1); clear hb1))
  have HB := Lib.hid (Ext.drew (Ext.alloc HB.out (.cells #[.int .i64 cb, .bool cs] 33)))
  obtain ⟨x0, x1, x2, x3⟩ := Ty.below (B := w.heap.size) (b := xb) (s := xs) ⟨x0, x1, x2, x3⟩ (Ext.drew (Ext.alloc (Below.refl _ w1) (.cells #[.int .i64 cb, .bool cs] 33)))
  obtain ⟨y0, y1, y2, y3⟩ := Ty.below (B := w.heap.size + 1) (b := yb) (s := ys) ⟨y0, y1, y2, y3⟩ (Ext.drew (Ext.alloc (Below.refl _ w1) (.cells #[.int .i64 cb, .bool cs] 33)))
  obtain ⟨z0, z1, z2, z3⟩ := Ty.below (Ty.new w1 rfl cb cs 33) (Ext.drew (Below.refl _ _))
  go_region_held3 (fun w' => w'.cell? ⟨w.heap.size, 0, none⟩ = some (.int .i64 xb) ∧ w'.cell? ⟨w.heap.size, 1, none⟩ = some (.bool xs) ∧ w'.cell? ⟨w.heap.size + 1, 0, none⟩ = some (.int .i64 yb) ∧ w'.cell? ⟨w.heap.size + 1, 1, none⟩ = some (.bool ys)
      ∧ w'.cell? ⟨w1.heap.size, 0, none⟩ = some (.int .i64 cb) ∧ w'.cell? ⟨w1.heap.size, 1, none⟩ = some (.bool cs) ∧ Hid (Below w.heap.size w w'))
    (first | (refine ⟨?_, ?_, ?_, ?_, ?_, ?_, ?_⟩ <;> assumption) | exact keep7c hb2 (by assumption) | exact keep7 hb2 (by assumption) (by assumption) (by assumption) (by assumption) (by assumption) (by assumption) (by assumption))
    (first | (go_at_call_of 44 (Value.int IntKind.u64 a); refine (CP.out _).mono ?_; rintro e w2 ⟨rfl, hb2⟩) | (go_at_call_of 44 (Value.int IntKind.u64 b); refine (CQ.out _).mono ?_; rintro e w2 ⟨rfl, hb2⟩))
  rename_i hh
  obtain ⟨r0, r1, r2, r3, r4, r5, HB9⟩ := hh
  go_wp2_with (first | (go_at_call 72; refine (compare_ok _ _ _ _ _ hc UP.out UQ.out _).mono ?_; rintro e w3 ⟨rfl, hb3⟩; have HB3 := Lib.hid hb3; clear hb3) | (go_at_call 63; refine (truth_ok _ _).mono ?_; rintro e w' ⟨rfl, rfl⟩))
  all_goals go_ret2
  all_goals exact ⟨by first | rfl | simp [*], Ext.trans HB9.out HB3.out⟩
set_option maxHeartbeats 40000000 in
theorem binary_cmp21 (a b xb yb cb : Int) (xs ys cs : Bool) (hx : W.ok xb) (hy : W.ok yb) (hc : W.ok cb) (hcb : W.cb xb yb = cb) (hcs : W.cs xb xs yb ys = cs) (ha : W.U a) (hb : W.U b) (p q : Int) (hp : W.conv xb xs cb a = p) (hq : W.conv yb ys cb b = q) (w : World) :
    Calls Try.prog 46 #[.int .i64 21, .int .u64 a, .int .u64 b, W.ty xb xs, W.ty yb ys] w fun e w' => e = .returned (.tuple #[.int .u64 (if W.cmp 21 (W.less cb cs p q) (W.less cb cs q p) then 1 else 0), .int .i64 0]) ∧ Below w.heap.size w w' := by
  have HC := Lib.hid hcb; have HS := Lib.hid hcs; clear hcb hcs
  have CC : Hid (∀ w : World, Calls Try.prog 67 #[W.ty xb xs, W.ty yb ys] w fun e w' => e = .returned (W.ty cb cs) ∧ Below w.heap.size w w') := fun w => by rw [← HC.out, ← HS.out]; exact common_ok xb yb xs ys w
  have CP : Hid (∀ w : World, Calls Try.prog 44 #[.int .u64 a, W.ty xb xs, W.ty cb cs] w fun e w' => e = .returned (.int .u64 p) ∧ Below w.heap.size w w') := fun w => by rw [← hp]; exact convert_ok a xb cb xs cs hx hc ha w
  have CQ : Hid (∀ w : World, Calls Try.prog 44 #[.int .u64 b, W.ty yb ys, W.ty cb cs] w fun e w' => e = .returned (.int .u64 q) ∧ Below w.heap.size w w') := fun w => by rw [← hq]; exact convert_ok b yb cb ys cs hy hc hb w
  have UP : Hid (W.U p) := by rw [← hp]; exact W.conv_U _ _ _ _
  have UQ : Hid (W.U q) := by rw [← hq]; exact W.conv_U _ _ _ _
  clear hp hq
  go_enter Try.func46, Try.ntmps46
  go_wp2_with (first | (go_at_call 38; refine (valid_ok _ _ (by assumption) _).mono ?_; rintro e w1 ⟨rfl, hb1⟩; obtain ⟨x0, x1, x2, x3⟩ := Ty.below (B := w.heap.size) (b := xb) (s := xs) (by first | exact ⟨x0, x1, x2, x3⟩ | exact ⟨by simp [go_sem], by simp [go_sem], by simp [go_sem], by simp [go_sem]⟩) hb1; obtain ⟨y0, y1, y2, y3⟩ := Ty.below (B := w.heap.size + 1) (b := yb) (s := ys) (by first | exact ⟨y0, y1, y2, y3⟩ | exact ⟨by simp [go_sem], by simp [go_sem], by simp [go_sem], by simp [go_sem]⟩) hb1; have HB := Lib.hid (by first | exact Ext.trans HB.out hb1 | exact Ext.trans (Ext.alloc (Ext.alloc (Below.refl w.heap.size w) _) _) hb1); clear hb1) | (go_at_call 67; refine (CC.out _).mono ?_; rintro e w1 ⟨rfl, hb1⟩; obtain ⟨x0, x1, x2, x3⟩ := Ty.below (B := w.heap.size) (b := xb) (s := xs) ⟨x0, x1, x2, x3⟩ hb1; obtain ⟨y0, y1, y2, y3⟩ := Ty.below (B := w.heap.size + 1) (b := yb) (s := ys) ⟨y0, y1, y2, y3⟩ hb1; have HB := Lib.hid (Ext.trans HB.out hb1); clear hb1))
  have HB := Lib.hid (Ext.drew (Ext.alloc HB.out (.cells #[.int .i64 cb, .bool cs] 33)))
  obtain ⟨x0, x1, x2, x3⟩ := Ty.below (B := w.heap.size) (b := xb) (s := xs) ⟨x0, x1, x2, x3⟩ (Ext.drew (Ext.alloc (Below.refl _ w1) (.cells #[.int .i64 cb, .bool cs] 33)))
  obtain ⟨y0, y1, y2, y3⟩ := Ty.below (B := w.heap.size + 1) (b := yb) (s := ys) ⟨y0, y1, y2, y3⟩ (Ext.drew (Ext.alloc (Below.refl _ w1) (.cells #[.int .i64 cb, .bool cs] 33)))
  obtain ⟨z0, z1, z2, z3⟩ := Ty.below (Ty.new w1 rfl cb cs 33) (Ext.drew (Below.refl _ _))
  go_region_held3 (fun w' => w'.cell? ⟨w.heap.size, 0, none⟩ = some (.int .i64 xb) ∧ w'.cell? ⟨w.heap.size, 1, none⟩ = some (.bool xs) ∧ w'.cell? ⟨w.heap.size + 1, 0, none⟩ = some (.int .i64 yb) ∧ w'.cell? ⟨w.heap.size + 1, 1, none⟩ = some (.bool ys)
      ∧ w'.cell? ⟨w1.heap.size, 0, none⟩ = some (.int .i64 cb) ∧ w'.cell? ⟨w1.heap.size, 1, none⟩ = some (.bool cs) ∧ Hid (Below w.heap.size w w'))
    (first | (refine ⟨?_, ?_, ?_, ?_, ?_, ?_, ?_⟩ <;> assumption) | exact keep7c hb2 (by assumption) | exact keep7 hb2 (by assumption) (by assumption) (by assumption) (by assumption) (by assumption) (by assumption) (by assumption))
    (first | (go_at_call_of 44 (Value.int IntKind.u64 a); refine (CP.out _).mono ?_; rintro e w2 ⟨rfl, hb2⟩) | (go_at_call_of 44 (Value.int IntKind.u64 b); refine (CQ.out _).mono ?_; rintro e w2 ⟨rfl, hb2⟩))
  rename_i hh
  obtain ⟨r0, r1, r2, r3, r4, r5, HB9⟩ := hh
  go_wp2_with (first | (go_at_call 72; refine (compare_ok _ _ _ _ _ hc UP.out UQ.out _).mono ?_; rintro e w3 ⟨rfl, hb3⟩; have HB3 := Lib.hid hb3; clear hb3) | (go_at_call 63; refine (truth_ok _ _).mono ?_; rintro e w' ⟨rfl, rfl⟩))
  all_goals go_ret2
  all_goals exact ⟨by first | rfl | simp [*], Ext.trans HB9.out HB3.out⟩
end Go.Proofs.Ythdckndjggljpaa
