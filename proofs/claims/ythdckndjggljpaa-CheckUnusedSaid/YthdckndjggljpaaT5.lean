/- The walk of types.Binary (but for its shifts). -/
import Derived.Test.YthdckndjggljpaaTB
import Derived.Test.YthdckndjggljpaaT3
import Derived.Test.YthdckndjggljpaaWA
import Derived.Deep.RegionHeld3
namespace Go.Proofs.Ythdckndjggljpaa
open Go.RowKit
set_option linter.unusedVariables false
set_option linter.unusedSimpArgs false
set_option maxRecDepth 100000

theorem keep7 {w wi w2 : World} {B0 B1 B2 : Nat} {a0 a1 b0 b1 c0 c1 : Value} (hb : Below wi.heap.size wi w2) (h0 : wi.cell? ⟨B0, 0, none⟩ = some a0) (h1 : wi.cell? ⟨B0, 1, none⟩ = some a1) (h2 : wi.cell? ⟨B1, 0, none⟩ = some b0) (h3 : wi.cell? ⟨B1, 1, none⟩ = some b1)
    (h4 : wi.cell? ⟨B2, 0, none⟩ = some c0) (h5 : wi.cell? ⟨B2, 1, none⟩ = some c1) (h6 : Hid (Below w.heap.size w wi)) :
    w2.cell? ⟨B0, 0, none⟩ = some a0 ∧ w2.cell? ⟨B0, 1, none⟩ = some a1 ∧ w2.cell? ⟨B1, 0, none⟩ = some b0 ∧ w2.cell? ⟨B1, 1, none⟩ = some b1 ∧ w2.cell? ⟨B2, 0, none⟩ = some c0 ∧ w2.cell? ⟨B2, 1, none⟩ = some c1 ∧ Hid (Below w.heap.size w w2) := by
  obtain ⟨hc, _⟩ := bcell hb
  exact ⟨by rw [hc _ _ (World.block_lt_of_cell? _ _ h0)]; exact h0, by rw [hc _ _ (World.block_lt_of_cell? _ _ h1)]; exact h1, by rw [hc _ _ (World.block_lt_of_cell? _ _ h2)]; exact h2, by rw [hc _ _ (World.block_lt_of_cell? _ _ h3)]; exact h3,
    by rw [hc _ _ (World.block_lt_of_cell? _ _ h4)]; exact h4, by rw [hc _ _ (World.block_lt_of_cell? _ _ h5)]; exact h5, Ext.trans h6.out hb⟩
theorem keep7c {w wi w2 : World} {B0 B1 B2 : Nat} {a0 a1 b0 b1 c0 c1 : Value} (hb : Below wi.heap.size wi w2) (h : wi.cell? ⟨B0, 0, none⟩ = some a0 ∧ wi.cell? ⟨B0, 1, none⟩ = some a1 ∧ wi.cell? ⟨B1, 0, none⟩ = some b0 ∧ wi.cell? ⟨B1, 1, none⟩ = some b1 ∧
    wi.cell? ⟨B2, 0, none⟩ = some c0 ∧ wi.cell? ⟨B2, 1, none⟩ = some c1 ∧ Hid (Below w.heap.size w wi)) :
    w2.cell? ⟨B0, 0, none⟩ = some a0 ∧ w2.cell? ⟨B0, 1, none⟩ = some a1 ∧ w2.cell? ⟨B1, 0, none⟩ = some b0 ∧ w2.cell? ⟨B1, 1, none⟩ = some b1 ∧ w2.cell? ⟨B2, 0, none⟩ = some c0 ∧ w2.cell? ⟨B2, 1, none⟩ = some c1 ∧ Hid (Below w.heap.size w w2) :=
  keep7 hb h.1 h.2.1 h.2.2.1 h.2.2.2.1 h.2.2.2.2.1 h.2.2.2.2.2.1 h.2.2.2.2.2.2
set_option maxHeartbeats 40000000 in
theorem binary_add (a b xb yb cb : Int) (xs ys cs : Bool) (hx : W.ok xb) (hy : W.ok yb) (hc : W.ok cb) (hcb : W.cb xb yb = cb) (hcs : W.cs xb xs yb ys = cs) (ha : W.U a) (hb : W.U b) (p q : Int) (hp : W.conv xb xs cb a = p) (hq : W.conv yb ys cb b = q) (w : World) :
    Calls Try.prog 46 #[.int .i64 12, .int .u64 a, .int .u64 b, W.ty xb xs, W.ty yb ys] w fun e w' => e = .returned (.tuple #[.int .u64 (W.add cb p q), .int .i64 0]) ∧ Below w.heap.size w w' := by
  have HC := Lib.hid hcb; have HS := Lib.hid hcs; clear hcb hcs
  have CC : Hid (∀ w : World, Calls Try.prog 67 #[W.ty xb xs, W.ty yb ys] w fun e w' => e = .returned (W.ty cb cs) ∧ Below w.heap.size w w') := fun w => by rw [← HC.out, ← HS.out]; exact common_ok xb yb xs ys w
  have CP : Hid (∀ w : World, Calls Try.prog 44 #[.int .u64 a, W.ty xb xs, W.ty cb cs] w fun e w' => e = .returned (.int .u64 p) ∧ Below w.heap.size w w') := fun w => by rw [← hp]; exact convert_ok a xb cb xs cs hx hc ha w
  have CQ : Hid (∀ w : World, Calls Try.prog 44 #[.int .u64 b, W.ty yb ys, W.ty cb cs] w fun e w' => e = .returned (.int .u64 q) ∧ Below w.heap.size w w') := fun w => by rw [← hq]; exact convert_ok b yb cb ys cs hy hc hb w
  have UP : Hid (W.U p) := by rw [← hp]; exact W.conv_U _ _ _ _
  have UQ : Hid (W.U q) := by rw [← hq]; exact W.conv_U _ _ _ _
  clear hp hq
  go_enter Try.func46, Try.ntmps46
  go_wp2_with (first | (go_at_call 38; refine (valid_ok _ _ (by assumption) _).mono ?_; rintro e w1 ⟨rfl, hb1⟩; obtain ⟨x0, x1, x2, x3⟩ := Ty.below (B := w.heap.size) (b := xb) (s := xs) (by first | exact ⟨x0, x1, x2, x3⟩ | exact ⟨by simp [go_sem], by simp [go_sem], by simp [go_sem], by simp [go_sem]⟩) hb1; obtain ⟨y0, y1, y2, y3⟩ := Ty.below (B := w.heap.size + 1) (b := yb) (s := ys) (by first | exact ⟨y0, y1, y2, y3⟩ | exact ⟨by simp [go_sem], by simp [go_sem], by simp [go_sem], by simp [go_sem]⟩) hb1; have HB := Lib.hid (by first | exact Ext.trans HB.out hb1 | exact Ext.trans (Ext.alloc (Ext.alloc (Below.refl w.heap.size w) _) _) hb1); clear hb1) | (go_at_call 67; refine (CC.out _).mono ?_; rintro e w1 ⟨rfl, hb1⟩; obtain ⟨x0, x1, x2, x3⟩ := Ty.below (B := w.heap.size) (b := xb) (s := xs) ⟨x0, x1, x2, x3⟩ hb1; obtain ⟨y0, y1, y2, y3⟩ := Ty.below (B := w.heap.size + 1) (b := yb) (s := ys) ⟨y0, y1, y2, y3⟩ hb1; have HB := Lib.hid (Ext.trans HB.out hb1); clear hb1))
  have HB := Lib.hid (Ext.drew (Ext.alloc HB.out (.cells #[.int .i64 cb, .bool cs] 33)))
  obtain ⟨x0, x1, x2, x3⟩ := Ty.below (B := w.heap.size) (b := xb) (s := xs) ⟨x0, x1, x2, x3⟩ (Ext.drew (Ext.alloc (Below.refl _ w1) (.cells #[.int .i64 cb, .bool cs] 33)))
  obtain ⟨y0, y1, y2, y3⟩ := Ty.below (B := w.heap.size + 1) (b := yb) (s := ys) ⟨y0, y1, y2, y3⟩ (Ext.drew (Ext.alloc (Below.refl _ w1) (.cells #[.int .i64 cb, .bool cs] 33)))
  obtain ⟨z0, z1, z2, z3⟩ := Ty.below (Ty.new w1 rfl cb cs 33) (Ext.drew (Below.refl _ _))
  go_region_held3 (fun w' => w'.cell? ⟨w.heap.size, 0, none⟩ = some (.int .i64 xb) ∧ w'.cell? ⟨w.heap.size, 1, none⟩ = some (.bool xs) ∧ w'.cell? ⟨w.heap.size + 1, 0, none⟩ = some (.int .i64 yb) ∧ w'.cell? ⟨w.heap.size + 1, 1, none⟩ = some (.bool ys)
      ∧ w'.cell? ⟨w1.heap.size, 0, none⟩ = some (.int .i64 cb) ∧ w'.cell? ⟨w1.heap.size, 1, none⟩ = some (.bool cs) ∧ Hid (Below w.heap.size w w'))
    (first | (refine ⟨?_, ?_, ?_, ?_, ?_, ?_, ?_⟩ <;> assumption) | exact keep7c hb2 (by assumption) | exact keep7 hb2 (by assumption) (by assumption) (by assumption) (by assumption) (by assumption) (by assumption) (by assumption))
    (first | (go_at_call_of 44 (Value.int IntKind.u64 a); refine (CP.out _).mono ?_; rintro e w2 ⟨rfl, hb2⟩) | (go_at_call_of 44 (Value.int IntKind.u64 b); refine (CQ.out _).mono ?_; rintro e w2 ⟨rfl, hb2⟩))
  rename_i hh
  obtain ⟨r0, r1, r2, r3, r4, r5, HB9⟩ := hh
  go_wp2_with (first | (go_at_call 71; refine (add_ok _ _ _ hc UP.out UQ.out _).mono ?_; rintro e w' ⟨rfl, rfl⟩))
  go_ret2
  exact ⟨rfl, HB9.out⟩
set_option maxHeartbeats 40000000 in
theorem binary_sub (a b xb yb cb : Int) (xs ys cs : Bool) (hx : W.ok xb) (hy : W.ok yb) (hc : W.ok cb) (hcb : W.cb xb yb = cb) (hcs : W.cs xb xs yb ys = cs) (ha : W.U a) (hb : W.U b) (p q : Int) (hp : W.conv xb xs cb a = p) (hq : W.conv yb ys cb b = q) (w : World) :
    Calls Try.prog 46 #[.int .i64 13, .int .u64 a, .int .u64 b, W.ty xb xs, W.ty yb ys] w fun e w' => e = .returned (.tuple #[.int .u64 (W.sub cb p q), .int .i64 0]) ∧ Below w.heap.size w w' := by
  have HC := Lib.hid hcb; have HS := Lib.hid hcs; clear hcb hcs
  have CC : Hid (∀ w : World, Calls Try.prog 67 #[W.ty xb xs, W.ty yb ys] w fun e w' => e = .returned (W.ty cb cs) ∧ Below w.heap.size w w') := fun w => by rw [← HC.out, ← HS.out]; exact common_ok xb yb xs ys w
  have CP : Hid (∀ w : World, Calls Try.prog 44 #[.int .u64 a, W.ty xb xs, W.ty cb cs] w fun e w' => e = .returned (.int .u64 p) ∧ Below w.heap.size w w') := fun w => by rw [← hp]; exact convert_ok a xb cb xs cs hx hc ha w
  have CQ : Hid (∀ w : World, Calls Try.prog 44 #[.int .u64 b, W.ty yb ys, W.ty cb cs] w fun e w' => e = .returned (.int .u64 q) ∧ Below w.heap.size w w') := fun w => by rw [← hq]; exact convert_ok b yb cb ys cs hy hc hb w
  have UP : Hid (W.U p) := by rw [← hp]; exact W.conv_U _ _ _ _
  have UQ : Hid (W.U q) := by rw [← hq]; exact W.conv_U _ _ _ _
  clear hp hq
  go_enter Try.func46, Try.ntmps46
  go_wp2_with (first | (go_at_call 38; refine (valid_ok _ _ (by assumption) _).mono ?_; rintro e w1 ⟨rfl, hb1⟩; obtain ⟨x0, x1, x2, x3⟩ := Ty.below (B := w.heap.size) (b := xb) (s := xs) (by first | exact ⟨x0, x1, x2, x3⟩ | exact ⟨by simp [go_sem], by simp [go_sem], by simp [go_sem], by simp [go_sem]⟩) hb1; obtain ⟨y0, y1, y2, y3⟩ := Ty.below (B := w.heap.size + 1) (b := yb) (s := ys) (by first | exact ⟨y0, y1, y2, y3⟩ | exact ⟨by simp [go_sem], by simp [go_sem], by simp [go_sem], by simp [go_sem]⟩) hb1; have HB := Lib.hid (by first | exact Ext.trans HB.out hb1 | exact Ext.trans (Ext.alloc (Ext.alloc (Below.refl w.heap.size w) _) _) hb1); clear hb1) | (go_at_call 67; refine (CC.out _).mono ?_; rintro e w1 ⟨rfl, hb1⟩; obtain ⟨x0, x1, x2, x3⟩ := Ty.below (B := w.heap.size) (b := xb) (s := xs) ⟨x0, x1, x2, x3⟩ hb1; obtain ⟨y0, y1, y2, y3⟩ := Ty.below (B := w.heap.size + 1) (b := yb) (s := ys) ⟨y0, y1, y2, y3⟩ hb1; have HB := Lib.hid (Ext.trans HB.out hb1); clear hb1))
  have HB := Lib.hid (Ext.drew (Ext.alloc HB.out (.cells #[.int .i64 cb, .bool cs] 33)))
  obtain ⟨x0, x1, x2, x3⟩ := Ty.below (B := w.heap.size) (b := xb) (s := xs) ⟨x0, x1, x2, x3⟩ (Ext.drew (Ext.alloc (Below.refl _ w1) (.cells #[.int .i64 cb, .bool cs] 33)))
  obtain ⟨y0, y1, y2, y3⟩ := Ty.below (B := w.heap.size + 1) (b := yb) (s := ys) ⟨y0, y1, y2, y3⟩ (Ext.drew (Ext.alloc (Below.refl _ w1) (.cells #[.int .i64 cb, .bool cs] 33)))
  obtain ⟨z0, z1, z2, z3⟩ := Ty.below (Ty.new w1 rfl cb cs 33) (Ext.drew (Below.refl _ _))
  go_region_held3 (fun w' => w'.cell? ⟨w.heap.size, 0, none⟩ = some (.int .i64 xb) ∧ w'.cell? ⟨w.heap.size, 1, none⟩ = some (.bool xs) ∧ w'.cell? ⟨w.heap.size + 1, 0, none⟩ = some (.int .i64 yb) ∧ w'.cell? ⟨w.heap.size + 1, 1, none⟩ = some (.bool ys)
      ∧ w'.cell? ⟨w1.heap.size, 0, none⟩ = some (.int .i64 cb) ∧ w'.cell? ⟨w1.heap.size, 1, none⟩ = some (.bool cs) ∧ Hid (Below w.heap.size w w'))
    (first | (refine ⟨?_, ?_, ?_, ?_, ?_, ?_, ?_⟩ <;> assumption) | exact keep7c hb2 (by assumption) | exact keep7 hb2 (by assumption) (by assumption) (by assumption) (by assumption) (by assumption) (by assumption) (by assumption))
    (first | (go_at_call_of 44 (Value.int IntKind.u64 a); refine (CP.out _).mono ?_; rintro e w2 ⟨rfl, hb2⟩) | (go_at_call_of 44 (Value.int IntKind.u64 b); refine (CQ.out _).mono ?_; rintro e w2 ⟨rfl, hb2⟩))
  rename_i hh
  obtain ⟨r0, r1, r2, r3, r4, r5, HB9⟩ := hh
  go_wp2_with (first | (go_at_call 62; refine (sub_ok _ _ _ hc UP.out UQ.out _).mono ?_; rintro e w' ⟨rfl, rfl⟩))
  go_ret2
  exact ⟨rfl, HB9.out⟩
set_option maxHeartbeats 40000000 in
theorem binary_mul (a b xb yb cb : Int) (xs ys cs : Bool) (hx : W.ok xb) (hy : W.ok yb) (hc : W.ok cb) (hcb : W.cb xb yb = cb) (hcs : W.cs xb xs yb ys = cs) (ha : W.U a) (hb : W.U b) (p q : Int) (hp : W.conv xb xs cb a = p) (hq : W.conv yb ys cb b = q) (w : World) :
    Calls Try.prog 46 #[.int .i64 9, .int .u64 a, .int .u64 b, W.ty xb xs, W.ty yb ys] w fun e w' => e = .returned (.tuple #[.int .u64 (W.mul cb p q), .int .i64 0]) ∧ Below w.heap.size w w' := by
  have HC := Lib.hid hcb; have HS := Lib.hid hcs; clear hcb hcs
  have CC : Hid (∀ w : World, Calls Try.prog 67 #[W.ty xb xs, W.ty yb ys] w fun e w' => e = .returned (W.ty cb cs) ∧ Below w.heap.size w w') := fun w => by rw [← HC.out, ← HS.out]; exact common_ok xb yb xs ys w
  have CP : Hid (∀ w : World, Calls Try.prog 44 #[.int .u64 a, W.ty xb xs, W.ty cb cs] w fun e w' => e = .returned (.int .u64 p) ∧ Below w.heap.size w w') := fun w => by rw [← hp]; exact convert_ok a xb cb xs cs hx hc ha w
  have CQ : Hid (∀ w : World, Calls Try.prog 44 #[.int .u64 b, W.ty yb ys, W.ty cb cs] w fun e w' => e = .returned (.int .u64 q) ∧ Below w.heap.size w w') := fun w => by rw [← hq]; exact convert_ok b yb cb ys cs hy hc hb w
  have UP : Hid (W.U p) := by rw [← hp]; exact W.conv_U _ _ _ _
  have UQ : Hid (W.U q) := by rw [← hq]; exact W.conv_U _ _ _ _
  clear hp hq
  go_enter Try.func46, Try.ntmps46
  go_wp2_with (first | (go_at_call 38; refine (valid_ok _ _ (by assumption) _).mono ?_; rintro e w1 ⟨rfl, hb1⟩; obtain ⟨x0, x1, x2, x3⟩ := Ty.below (B := w.heap.size) (b := xb) (s := xs) (by first | exact ⟨x0, x1, x2, x3⟩ | exact ⟨by simp [go_sem], by simp [go_sem], by simp [go_sem], by simp [go_sem]⟩) hb1; obtain ⟨y0, y1, y2, y3⟩ := Ty.below (B := w.heap.size + 1) (b := yb) (s := ys) (by first | exact ⟨y0, y1, y2, y3⟩ | exact ⟨by simp [go_sem], by simp [go_sem], by simp [go_sem], by simp [go_sem]⟩) hb1; have HB := Lib.hid (by first | exact Ext.trans HB.out hb1 | exact Ext.trans (Ext.alloc (Ext.alloc (Below.refl w.heap.size w) _) _) hb1); clear hb1) | (go_at_call 67; refine (CC.out _).mono ?_; rintro e w1 ⟨rfl, hb1⟩; obtain ⟨x0, x1, x2, x3⟩ := Ty.below (B := w.heap.size) (b := xb) (s := xs) ⟨x0, x1, x2, x3⟩ hb1; obtain ⟨y0, y1, y2, y3⟩ := Ty.below (B := w.heap.size + 1) (b := yb) (s := ys) ⟨y0, y1, y2, y3⟩ hb1; have HB := Lib.hid (Ext.trans HB.out hb1); clear hb1))
  have HB := Lib.hid (Ext.drew (Ext.alloc HB.out (.cells #[.int .i64 cb, .bool cs] 33)))
  obtain ⟨x0, x1, x2, x3⟩ := Ty.below (B := w.heap.size) (b := xb) (s := xs) ⟨x0, x1, x2, x3⟩ (Ext.drew (Ext.alloc (Below.refl _ w1) (.cells #[.int .i64 cb, .bool cs] 33)))
  obtain ⟨y0, y1, y2, y3⟩ := Ty.below (B := w.heap.size + 1) (b := yb) (s := ys) ⟨y0, y1, y2, y3⟩ (Ext.drew (Ext.alloc (Below.refl _ w1) (.cells #[.int .i64 cb, .bool cs] 33)))
  obtain ⟨z0, z1, z2, z3⟩ := Ty.below (Ty.new w1 rfl cb cs 33) (Ext.drew (Below.refl _ _))
  go_region_held3 (fun w' => w'.cell? ⟨w.heap.size, 0, none⟩ = some (.int .i64 xb) ∧ w'.cell? ⟨w.heap.size, 1, none⟩ = some (.bool xs) ∧ w'.cell? ⟨w.heap.size + 1, 0, none⟩ = some (.int .i64 yb) ∧ w'.cell? ⟨w.heap.size + 1, 1, none⟩ = some (.bool ys)
      ∧ w'.cell? ⟨w1.heap.size, 0, none⟩ = some (.int .i64 cb) ∧ w'.cell? ⟨w1.heap.size, 1, none⟩ = some (.bool cs) ∧ Hid (Below w.heap.size w w'))
    (first | (refine ⟨?_, ?_, ?_, ?_, ?_, ?_, ?_⟩ <;> assumption) | exact keep7c hb2 (by assumption) | exact keep7 hb2 (by assumption) (by assumption) (by assumption) (by assumption) (by assumption) (by assumption) (by assumption))
    (first | (go_at_call_of 44 (Value.int IntKind.u64 a); refine (CP.out _).mono ?_; rintro e w2 ⟨rfl, hb2⟩) | (go_at_call_of 44 (Value.int IntKind.u64 b); refine (CQ.out _).mono ?_; rintro e w2 ⟨rfl, hb2⟩))
  rename_i hh
  obtain ⟨r0, r1, r2, r3, r4, r5, HB9⟩ := hh
  go_wp2_with (first | (go_at_call 68; refine (mul_ok _ _ _ hc UP.out UQ.out _).mono ?_; rintro e w' ⟨rfl, rfl⟩))
  go_ret2
  exact ⟨rfl, HB9.out⟩
set_option maxHeartbeats 40000000 in
theorem binary_and (a b xb yb cb : Int) (xs ys cs : Bool) (hx : W.ok xb) (hy : W.ok yb) (hc : W.ok cb) (hcb : W.cb xb yb = cb) (hcs : W.cs xb xs yb ys = cs) (ha : W.U a) (hb : W.U b) (p q : Int) (hp : W.conv xb xs cb a = p) (hq : W.conv yb ys cb b = q) (w : World) :
    Calls Try.prog 46 #[.int .i64 22, .int .u64 a, .int .u64 b, W.ty xb xs, W.ty yb ys] w fun e w' => e = .returned (.tuple #[.int .u64 (bits .and .u64 p q), .int .i64 0]) ∧ Below w.heap.size w w' := by
  have HC := Lib.hid hcb; have HS := Lib.hid hcs; clear hcb hcs
  have CC : Hid (∀ w : World, Calls Try.prog 67 #[W.ty xb xs, W.ty yb ys] w fun e w' => e = .returned (W.ty cb cs) ∧ Below w.heap.size w w') := fun w => by rw [← HC.out, ← HS.out]; exact common_ok xb yb xs ys w
  have CP : Hid (∀ w : World, Calls Try.prog 44 #[.int .u64 a, W.ty xb xs, W.ty cb cs] w fun e w' => e = .returned (.int .u64 p) ∧ Below w.heap.size w w') := fun w => by rw [← hp]; exact convert_ok a xb cb xs cs hx hc ha w
  have CQ : Hid (∀ w : World, Calls Try.prog 44 #[.int .u64 b, W.ty yb ys, W.ty cb cs] w fun e w' => e = .returned (.int .u64 q) ∧ Below w.heap.size w w') := fun w => by rw [← hq]; exact convert_ok b yb cb ys cs hy hc hb w
  have UP : Hid (W.U p) := by rw [← hp]; exact W.conv_U _ _ _ _
  have UQ : Hid (W.U q) := by rw [← hq]; exact W.conv_U _ _ _ _
  clear hp hq
  go_enter Try.func46, Try.ntmps46
  go_wp2_with (first | (go_at_call 38; refine (valid_ok _ _ (by assumption) _).mono ?_; rintro e w1 ⟨rfl, hb1⟩; obtain ⟨x0, x1, x2, x3⟩ := Ty.below (B := w.heap.size) (b := xb) (s := xs) (by first | exact ⟨x0, x1, x2, x3⟩ | exact ⟨by simp [go_sem], by simp [go_sem], by simp [go_sem], by simp [go_sem]⟩) hb1; obtain ⟨y0, y1, y2, y3⟩ := Ty.below (B := w.heap.size + 1) (b := yb) (s := ys) (by first | exact ⟨y0, y1, y2, y3⟩ | exact ⟨by simp [go_sem], by simp [go_sem], by simp [go_sem], by simp [go_sem]⟩) hb1; have HB := Lib.hid (by first | exact Ext.trans HB.out hb1 | exact Ext.trans (Ext.alloc (Ext.alloc (Below.refl w.heap.size w) _) _) hb1); clear hb1) | (go_at_call 67; refine (CC.out _).mono ?_; rintro e w1 ⟨rfl, hb1⟩; obtain ⟨x0, x1, x2, x3⟩ := Ty.below (B := w.heap.size) (b := xb) (s := xs) ⟨x0, x1, x2, x3⟩ hb1; obtain ⟨y0, y1, y2, y3⟩ := Ty.below (B := w.heap.size + 1) (b := yb) (s := ys) ⟨y0, y1, y2, y3⟩ hb1; have HB := Lib.hid (Ext.trans HB.out hb1); clear hb1))
  have HB := Lib.hid (Ext.drew (Ext.alloc HB.out (.cells #[.int .i64 cb, .bool cs] 33)))
  obtain ⟨x0, x1, x2, x3⟩ := Ty.below (B := w.heap.size) (b := xb) (s := xs) ⟨x0, x1, x2, x3⟩ (Ext.drew (Ext.alloc (Below.refl _ w1) (.cells #[.int .i64 cb, .bool cs] 33)))
  obtain ⟨y0, y1, y2, y3⟩ := Ty.below (B := w.heap.size + 1) (b := yb) (s := ys) ⟨y0, y1, y2, y3⟩ (Ext.drew (Ext.alloc (Below.refl _ w1) (.cells #[.int .i64 cb, .bool cs] 33)))
  obtain ⟨z0, z1, z2, z3⟩ := Ty.below (Ty.new w1 rfl cb cs 33) (Ext.drew (Below.refl _ _))
  go_region_held3 (fun w' => w'.cell? ⟨w.heap.size, 0, none⟩ = some (.int .i64 xb) ∧ w'.cell? ⟨w.heap.size, 1, none⟩ = some (.bool xs) ∧ w'.cell? ⟨w.heap.size + 1, 0, none⟩ = some (.int .i64 yb) ∧ w'.cell? ⟨w.heap.size + 1, 1, none⟩ = some (.bool ys)
      ∧ w'.cell? ⟨w1.heap.size, 0, none⟩ = some (.int .i64 cb) ∧ w'.cell? ⟨w1.heap.size, 1, none⟩ = some (.bool cs) ∧ Hid (Below w.heap.size w w'))
    (first | (refine ⟨?_, ?_, ?_, ?_, ?_, ?_, ?_⟩ <;> assumption) | exact keep7c hb2 (by assumption) | exact keep7 hb2 (by assumption) (by assumption) (by assumption) (by assumption) (by assumption) (by assumption) (by assumption))
    (first | (go_at_call_of 44 (Value.int IntKind.u64 a); refine (CP.out _).mono ?_; rintro e w2 ⟨rfl, hb2⟩) | (go_at_call_of 44 (Value.int IntKind.u64 b); refine (CQ.out _).mono ?_; rintro e w2 ⟨rfl, hb2⟩))
  rename_i hh
  obtain ⟨r0, r1, r2, r3, r4, r5, HB9⟩ := hh
  go_wp2
  go_ret2
  exact ⟨rfl, HB9.out⟩
set_option maxHeartbeats 40000000 in
theorem binary_xor (a b xb yb cb : Int) (xs ys cs : Bool) (hx : W.ok xb) (hy : W.ok yb) (hc : W.ok cb) (hcb : W.cb xb yb = cb) (hcs : W.cs xb xs yb ys = cs) (ha : W.U a) (hb : W.U b) (p q : Int) (hp : W.conv xb xs cb a = p) (hq : W.conv yb ys cb b = q) (w : World) :
    Calls Try.prog 46 #[.int .i64 23, .int .u64 a, .int .u64 b, W.ty xb xs, W.ty yb ys] w fun e w' => e = .returned (.tuple #[.int .u64 (bits .xor .u64 p q), .int .i64 0]) ∧ Below w.heap.size w w' := by
  have HC := Lib.hid hcb; have HS := Lib.hid hcs; clear hcb hcs
  have CC : Hid (∀ w : World, Calls Try.prog 67 #[W.ty xb xs, W.ty yb ys] w fun e w' => e = .returned (W.ty cb cs) ∧ Below w.heap.size w w') := fun w => by rw [← HC.out, ← HS.out]; exact common_ok xb yb xs ys w
  have CP : Hid (∀ w : World, Calls Try.prog 44 #[.int .u64 a, W.ty xb xs, W.ty cb cs] w fun e w' => e = .returned (.int .u64 p) ∧ Below w.heap.size w w') := fun w => by rw [← hp]; exact convert_ok a xb cb xs cs hx hc ha w
  have CQ : Hid (∀ w : World, Calls Try.prog 44 #[.int .u64 b, W.ty yb ys, W.ty cb cs] w fun e w' => e = .returned (.int .u64 q) ∧ Below w.heap.size w w') := fun w => by rw [← hq]; exact convert_ok b yb cb ys cs hy hc hb w
  have UP : Hid (W.U p) := by rw [← hp]; exact W.conv_U _ _ _ _
  have UQ : Hid (W.U q) := by rw [← hq]; exact W.conv_U _ _ _ _
  clear hp hq
  go_enter Try.func46, Try.ntmps46
  go_wp2_with (first | (go_at_call 38; refine (valid_ok _ _ (by assumption) _).mono ?_; rintro e w1 ⟨rfl, hb1⟩; obtain ⟨x0, x1, x2, x3⟩ := Ty.below (B := w.heap.size) (b := xb) (s := xs) (by first | exact ⟨x0, x1, x2, x3⟩ | exact ⟨by simp [go_sem], by simp [go_sem], by simp [go_sem], by simp [go_sem]⟩) hb1; obtain ⟨y0, y1, y2, y3⟩ := Ty.below (B := w.heap.size + 1) (b := yb) (s := ys) (by first | exact ⟨y0, y1, y2, y3⟩ | exact ⟨by simp [go_sem], by simp [go_sem], by simp [go_sem], by simp [go_sem]⟩) hb1; have HB := Lib.hid (by first | exact Ext.trans HB.out hb1 | exact Ext.trans (Ext.alloc (Ext.alloc (Below.refl w.heap.size w) _) _) hb1); clear hb1) | (go_at_call 67; refine (CC.out _).mono ?_; rintro e w1 ⟨rfl, hb1⟩; obtain ⟨x0, x1, x2, x3⟩ := Ty.below (B := w.heap.size) (b := xb) (s := xs) ⟨x0, x1, x2, x3⟩ hb1; obtain ⟨y0, y1, y2, y3⟩ := Ty.below (B := w.heap.size + 1) (b := yb) (s := ys) ⟨y0, y1, y2, y3⟩ hb1; have HB := Lib.hid (Ext.trans HB.out hb1); clear hb1))
  have HB := Lib.hid (Ext.drew (Ext.alloc HB.out (.cells #[.int .i64 cb, .bool cs] 33)))
  obtain ⟨x0, x1, x2, x3⟩ := Ty.below (B := w.heap.size) (b := xb) (s := xs) ⟨x0, x1, x2, x3⟩ (Ext.drew (Ext.alloc (Below.refl _ w1) (.cells #[.int .i64 cb, .bool cs] 33)))
  obtain ⟨y0, y1, y2, y3⟩ := Ty.below (B := w.heap.size + 1) (b := yb) (s := ys) ⟨y0, y1, y2, y3⟩ (Ext.drew (Ext.alloc (Below.refl _ w1) (.cells #[.int .i64 cb, .bool cs] 33)))
  obtain ⟨z0, z1, z2, z3⟩ := Ty.below (Ty.new w1 rfl cb cs 33) (Ext.drew (Below.refl _ _))
  go_region_held3 (fun w' => w'.cell? ⟨w.heap.size, 0, none⟩ = some (.int .i64 xb) ∧ w'.cell? ⟨w.heap.size, 1, none⟩ = some (.bool xs) ∧ w'.cell? ⟨w.heap.size + 1, 0, none⟩ = some (.int .i64 yb) ∧ w'.cell? ⟨w.heap.size + 1, 1, none⟩ = some (.bool ys)
      ∧ w'.cell? ⟨w1.heap.size, 0, none⟩ = some (.int .i64 cb) ∧ w'.cell? ⟨w1.heap.size, 1, none⟩ = some (.bool cs) ∧ Hid (Below w.heap.size w w'))
    (first | (refine ⟨?_, ?_, ?_, ?_, ?_, ?_, ?_⟩ <;> assumption) | exact keep7c hb2 (by assumption) | exact keep7 hb2 (by assumption) (by assumption) (by assumption) (by assumption) (by assumption) (by assumption) (by assumption))
    (first | (go_at_call_of 44 (Value.int IntKind.u64 a); refine (CP.out _).mono ?_; rintro e w2 ⟨rfl, hb2⟩) | (go_at_call_of 44 (Value.int IntKind.u64 b); refine (CQ.out _).mono ?_; rintro e w2 ⟨rfl, hb2⟩))
  rename_i hh
  obtain ⟨r0, r1, r2, r3, r4, r5, HB9⟩ := hh
  go_wp2
  go_ret2
  exact ⟨rfl, HB9.out⟩
set_option maxHeartbeats 40000000 in
theorem binary_or (a b xb yb cb : Int) (xs ys cs : Bool) (hx : W.ok xb) (hy : W.ok yb) (hc : W.ok cb) (hcb : W.cb xb yb = cb) (hcs : W.cs xb xs yb ys = cs) (ha : W.U a) (hb : W.U b) (p q : Int) (hp : W.conv xb xs cb a = p) (hq : W.conv yb ys cb b = q) (w : World) :
    Calls Try.prog 46 #[.int .i64 24, .int .u64 a, .int .u64 b, W.ty xb xs, W.ty yb ys] w fun e w' => e = .returned (.tuple #[.int .u64 (bits .or .u64 p q), .int .i64 0]) ∧ Below w.heap.size w w' := by
  have HC := Lib.hid hcb; have HS := Lib.hid hcs; clear hcb hcs
  have CC : Hid (∀ w : World, Calls Try.prog 67 #[W.ty xb xs, W.ty yb ys] w fun e w' => e = .returned (W.ty cb cs) ∧ Below w.heap.size w w') := fun w => by rw [← HC.out, ← HS.out]; exact common_ok xb yb xs ys w
  have CP : Hid (∀ w : World, Calls Try.prog 44 #[.int .u64 a, W.ty xb xs, W.ty cb cs] w fun e w' => e = .returned (.int .u64 p) ∧ Below w.heap.size w w') := fun w => by rw [← hp]; exact convert_ok a xb cb xs cs hx hc ha w
  have CQ : Hid (∀ w : World, Calls Try.prog 44 #[.int .u64 b, W.ty yb ys, W.ty cb cs] w fun e w' => e = .returned (.int .u64 q) ∧ Below w.heap.size w w') := fun w => by rw [← hq]; exact convert_ok b yb cb ys cs hy hc hb w
  have UP : Hid (W.U p) := by rw [← hp]; exact W.conv_U _ _ _ _
  have UQ : Hid (W.U q) := by rw [← hq]; exact W.conv_U _ _ _ _
  clear hp hq
  go_enter Try.func46, Try.ntmps46
  go_wp2_with (first | (go_at_call 38; refine (valid_ok _ _ (by assumption) _).mono ?_; rintro e w1 ⟨rfl, hb1⟩; obtain ⟨x0, x1, x2, x3⟩ := Ty.below (B := w.heap.size) (b := xb) (s := xs) (by first | exact ⟨x0, x1, x2, x3⟩ | exact ⟨by simp [go_sem], by simp [go_sem], by simp [go_sem], by simp [go_sem]⟩) hb1; obtain ⟨y0, y1, y2, y3⟩ := Ty.below (B := w.heap.size + 1) (b := yb) (s := ys) (by first | exact ⟨y0, y1, y2, y3⟩ | exact ⟨by simp [go_sem], by simp [go_sem], by simp [go_sem], by simp [go_sem]⟩) hb1; have HB := Lib.hid (by first | exact Ext.trans HB.out hb1 | exact Ext.trans (Ext.alloc (Ext.alloc (Below.refl w.heap.size w) _) _) hb1); clear hb1) | (go_at_call 67; refine (CC.out _).mono ?_; rintro e w1 ⟨rfl, hb1⟩; obtain ⟨x0, x1, x2, x3⟩ := Ty.below (B := w.heap.size) (b := xb) (s := xs) ⟨x0, x1, x2, x3⟩ hb1; obtain ⟨y0, y1, y2, y3⟩ := Ty.below (B := w.heap.size + 1) (b := yb) (s := ys) ⟨y0, y1, y2, y3⟩ hb1; have HB := Lib.hid (Ext.trans HB.out hb1); clear hb1))
  have HB := Lib.hid (Ext.drew (Ext.alloc HB.out (.cells #[.int .i64 cb, .bool cs] 33)))
  obtain ⟨x0, x1, x2, x3⟩ := Ty.below (B := w.heap.size) (b := xb) (s := xs) ⟨x0, x1, x2, x3⟩ (Ext.drew (Ext.alloc (Below.refl _ w1) (.cells #[.int .i64 cb, .bool cs] 33)))
  obtain ⟨y0, y1, y2, y3⟩ := Ty.below (B := w.heap.size + 1) (b := yb) (s := ys) ⟨y0, y1, y2, y3⟩ (Ext.drew (Ext.alloc (Below.refl _ w1) (.cells #[.int .i64 cb, .bool cs] 33)))
  obtain ⟨z0, z1, z2, z3⟩ := Ty.below (Ty.new w1 rfl cb cs 33) (Ext.drew (Below.refl _ _))
  go_region_held3 (fun w' => w'.cell? ⟨w.heap.size, 0, none⟩ = some (.int .i64 xb) ∧ w'.cell? ⟨w.heap.size, 1, none⟩ = some (.bool xs) ∧ w'.cell? ⟨w.heap.size + 1, 0, none⟩ = some (.int .i64 yb) ∧ w'.cell? ⟨w.heap.size + 1, 1, none⟩ = some (.bool ys)
      ∧ w'.cell? ⟨w1.heap.size, 0, none⟩ = some (.int .i64 cb) ∧ w'.cell? ⟨w1.heap.size, 1, none⟩ = some (.bool cs) ∧ Hid (Below w.heap.size w w'))
    (first | (refine ⟨?_, ?_, ?_, ?_, ?_, ?_, ?_⟩ <;> assumption) | exact keep7c hb2 (by assumption) | exact keep7 hb2 (by assumption) (by assumption) (by assumption) (by assumption) (by assumption) (by assumption) (by assumption))
    (first | (go_at_call_of 44 (Value.int IntKind.u64 a); refine (CP.out _).mono ?_; rintro e w2 ⟨rfl, hb2⟩) | (go_at_call_of 44 (Value.int IntKind.u64 b); refine (CQ.out _).mono ?_; rintro e w2 ⟨rfl, hb2⟩))
  rename_i hh
  obtain ⟨r0, r1, r2, r3, r4, r5, HB9⟩ := hh
  go_wp2
  go_ret2
  exact ⟨rfl, HB9.out⟩
end Go.Proofs.Ythdckndjggljpaa
