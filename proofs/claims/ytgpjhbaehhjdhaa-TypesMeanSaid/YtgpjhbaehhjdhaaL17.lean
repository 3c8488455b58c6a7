/- TypesMean: its walk. -/
import Derived.Test.YtgpjhbaehhjdhaaL9
import Derived.Test.YtgpjhbaehhjdhaaL13
import Derived.Test.YtgpjhbaehhjdhaaN24
namespace Go.Proofs.Ytgpjhbaehhjdhaa
open Go.ChangeShapes Go.WideShapes Go.ChangeAt Go.RowKit
set_option linter.unusedVariables false
set_option linter.unusedSimpArgs false
set_option maxRecDepth 100000

theorem cmpZ_zero {x y : Int} : (cmpZ x y = 0) ↔ x = y := by
  unfold cmpZ
  by_cases h1 : x < y
  · rw [if_pos h1]; omega
  · rw [if_neg h1]; split <;> omega
theorem keep5 {w wi w2 : World} {B0 B1 : Nat} {a0 a1 b0 b1 : Value} (hb : Below wi.heap.size wi w2) (h : wi.cell? ⟨B0, 0, none⟩ = some a0 ∧ wi.cell? ⟨B0, 1, none⟩ = some a1 ∧ wi.cell? ⟨B1, 0, none⟩ = some b0 ∧ wi.cell? ⟨B1, 1, none⟩ = some b1 ∧ Hid (Below w.heap.size w wi)) :
    w2.cell? ⟨B0, 0, none⟩ = some a0 ∧ w2.cell? ⟨B0, 1, none⟩ = some a1 ∧ w2.cell? ⟨B1, 0, none⟩ = some b0 ∧ w2.cell? ⟨B1, 1, none⟩ = some b1 ∧ Hid (Below w.heap.size w w2) := by
  obtain ⟨h0, h1, h2, h3, h4⟩ := h
  obtain ⟨p0, p1⟩ := keep2 hb ⟨h0, h1⟩
  obtain ⟨p2, p3⟩ := keep2 hb ⟨h2, h3⟩
  exact ⟨p0, p1, p2, p3, Ext.trans h4.out hb⟩
theorem keep5d {w wi : World} {B0 B1 : Nat} {m : Nat} {a0 a1 b0 b1 : Value} (h : wi.cell? ⟨B0, 0, none⟩ = some a0 ∧ wi.cell? ⟨B0, 1, none⟩ = some a1 ∧ wi.cell? ⟨B1, 0, none⟩ = some b0 ∧ wi.cell? ⟨B1, 1, none⟩ = some b1 ∧ Hid (Below w.heap.size w wi)) :
    (wi.drewN m).cell? ⟨B0, 0, none⟩ = some a0 ∧ (wi.drewN m).cell? ⟨B0, 1, none⟩ = some a1 ∧ (wi.drewN m).cell? ⟨B1, 0, none⟩ = some b0 ∧ (wi.drewN m).cell? ⟨B1, 1, none⟩ = some b1 ∧ Hid (Below w.heap.size w (wi.drewN m)) :=
  ⟨h.1, h.2.1, h.2.2.1, h.2.2.2.1, below_drewN h.2.2.2.2.out m⟩
set_option maxHeartbeats 20000000 in
theorem mean_raw (n a b X Y Z p q : Int) (s t le eq zx : Bool) (hle : decide (a ≤ b) = le) (heq : Hid ((cmpZ p q == 0) = eq)) (hzx : (Z == X) = zx) (hok : (!(le && !zx) && (!eq || zx)) = true)
    (NV : Hid (∀ w : World, Calls Try.prog 56 #[W.ty a s] w fun e w' => e = .returned (.bool true) ∧ Below w.heap.size w w'))
    (NW : Hid (∀ w : World, Calls Try.prog 56 #[W.ty b t] w fun e w' => e = .returned (.bool true) ∧ Below w.heap.size w w'))
    (C1 : Hid (∀ w : World, Calls Try.prog 71 #[.int .u64 n, W.ty a s, W.ty a s] w fun e w' => e = .returned (.int .u64 X) ∧ Below w.heap.size w w'))
    (C2 : Hid (∀ w : World, Calls Try.prog 71 #[.int .u64 X, W.ty a s, W.ty b t] w fun e w' => e = .returned (.int .u64 Y) ∧ Below w.heap.size w w'))
    (C3 : Hid (∀ w : World, Calls Try.prog 71 #[.int .u64 Y, W.ty b t, W.ty a s] w fun e w' => e = .returned (.int .u64 Z) ∧ Below w.heap.size w w'))
    (M1 : Hid (∀ w : World, Calls Try.prog 53 #[.int .u64 X, .int .i64 a, .bool s] w (NewIo w p)))
    (M2 : Hid (∀ w : World, Calls Try.prog 53 #[.int .u64 Y, .int .i64 b, .bool t] w (NewIo w q))) (w : World) :
    Calls Try.prog 15 #[.int .u64 n, W.ty a s, W.ty b t] w fun e w' => e = .returned (.bool true) ∧ Below w.heap.size w w' := by
  have CC : Hid (∀ (w : World) (g g2 : Nat), Io w g p → Io w g2 q → Calls Try.prog 74 #[P g, P g2] w fun e w' => ∃ C : Int, (C == 0) = eq ∧ e = .returned (.int .i64 C) ∧ ∃ m, w' = w.drewN m) := fun w g g2 x y =>
    (intCmp_ok g g2 p q w x y).mono fun e w' ⟨h1, h2⟩ => ⟨_, heq.out, h1, h2⟩
  have hzx2 : (Z != X) = !zx := by rw [← hzx]; rfl
  clear heq
  cases le <;> cases eq <;> cases zx <;> first | (cases hok; done) | skip
  all_goals
    clear hok
    go_enter Try.func15, Try.ntmps15
    go_wp2_with (first | (go_at_call 73; refine (alive7 _).mono ?_; rintro e w1 ⟨rfl, hb1⟩; have HB := Lib.hid (Ext.trans (Ext.alloc (Ext.alloc (Below.refl w.heap.size w) _) _) hb1); obtain ⟨x0, x1, x2, x3⟩ := Ty.below (B := w.heap.size) (b := a) (s := s) ⟨(by simp [go_sem]), (by simp [go_sem]), (by simp [go_sem]), (by simp [go_sem])⟩ hb1; obtain ⟨y0, y1, y2, y3⟩ := Ty.below (B := w.heap.size + 1) (b := b) (s := t) ⟨(by simp [go_sem]), (by simp [go_sem]), (by simp [go_sem]), (by simp [go_sem])⟩ hb1; have tok := Lib.hid True.intro; clear hb1) | (go_at_call 56; have _t := tok; refine (NV.out _).mono ?_; rintro e w1 ⟨rfl, hb1⟩; have HB := Lib.hid (Ext.trans HB.out hb1); obtain ⟨x0, x1, x2, x3⟩ := Ty.below (⟨x0, x1, x2, x3⟩ : Ty _ w.heap.size a s) hb1; obtain ⟨y0, y1, y2, y3⟩ := Ty.below (⟨y0, y1, y2, y3⟩ : Ty _ (w.heap.size + 1) b t) hb1; clear hb1 tok _t) | (go_at_call 56; refine (NW.out _).mono ?_; rintro e w1 ⟨rfl, hb1⟩; have HB := Lib.hid (Ext.trans HB.out hb1); obtain ⟨x0, x1, x2, x3⟩ := Ty.below (⟨x0, x1, x2, x3⟩ : Ty _ w.heap.size a s) hb1; obtain ⟨y0, y1, y2, y3⟩ := Ty.below (⟨y0, y1, y2, y3⟩ : Ty _ (w.heap.size + 1) b t) hb1; clear hb1) | (go_at_call_of 71 (Value.int IntKind.u64 n); refine (C1.out _).mono ?_; rintro e w1 ⟨rfl, hb1⟩; have HB := Lib.hid (Ext.trans HB.out hb1); obtain ⟨x0, x1, x2, x3⟩ := Ty.below (⟨x0, x1, x2, x3⟩ : Ty _ w.heap.size a s) hb1; obtain ⟨y0, y1, y2, y3⟩ := Ty.below (⟨y0, y1, y2, y3⟩ : Ty _ (w.heap.size + 1) b t) hb1; clear hb1) | (go_at_call_of 71 (Value.int IntKind.u64 X); refine (C2.out _).mono ?_; rintro e w1 ⟨rfl, hb1⟩; have HB := Lib.hid (Ext.trans HB.out hb1); obtain ⟨x0, x1, x2, x3⟩ := Ty.below (⟨x0, x1, x2, x3⟩ : Ty _ w.heap.size a s) hb1; obtain ⟨y0, y1, y2, y3⟩ := Ty.below (⟨y0, y1, y2, y3⟩ : Ty _ (w.heap.size + 1) b t) hb1; clear hb1) | (go_at_call_of 71 (Value.int IntKind.u64 Y); refine (C3.out _).mono ?_; rintro e w1 ⟨rfl, hb1⟩; have HB := Lib.hid (Ext.trans HB.out hb1); obtain ⟨x0, x1, x2, x3⟩ := Ty.below (⟨x0, x1, x2, x3⟩ : Ty _ w.heap.size a s) hb1; obtain ⟨y0, y1, y2, y3⟩ := Ty.below (⟨y0, y1, y2, y3⟩ : Ty _ (w.heap.size + 1) b t) hb1; clear hb1))
    have HB := Lib.hid (Ext.drew HB.out)
    obtain ⟨x0, x1, x2, x3⟩ := Ty.below (⟨x0, x1, x2, x3⟩ : Ty _ w.heap.size a s) (Ext.drew (Below.refl _ _))
    obtain ⟨y0, y1, y2, y3⟩ := Ty.below (⟨y0, y1, y2, y3⟩ : Ty _ (w.heap.size + 1) b t) (Ext.drew (Below.refl _ _))
    go_region_held3 (fun w' => w'.cell? ⟨w.heap.size, 0, none⟩ = some (.int .i64 a) ∧ w'.cell? ⟨w.heap.size, 1, none⟩ = some (.bool s) ∧ w'.cell? ⟨w.heap.size + 1, 0, none⟩ = some (.int .i64 b) ∧ w'.cell? ⟨w.heap.size + 1, 1, none⟩ = some (.bool t) ∧ Hid (Below w.heap.size w w'))
      (first | (refine ⟨?_, ?_, ?_, ?_, ?_⟩ <;> assumption) | exact keep5d (by assumption) | exact keep5 hb2 (by assumption))
      (first | (go_at_call_of 53 (Value.int IntKind.u64 X); refine (M1.out _).mono ?_; rintro e wp ⟨gp, rfl, hgp, hb2, hip⟩; have HIP := Lib.hid hip; clear hip hgp) | (go_at_call_of 53 (Value.int IntKind.u64 Y); refine (M2.out _).mono ?_; rintro e wq ⟨gq, rfl, hgq, hb2, hiq⟩; have HIQ := Lib.hid hiq; have HIP := Lib.hid (HIP.out.below hb2); clear hiq hgq) | (go_at_call 74; refine (CC.out _ _ _ HIP.out HIQ.out).mono ?_; rintro e wr ⟨C, hC, rfl, m, rfl⟩))
    rename_i hh
    obtain ⟨r0, r1, r2, r3, HB9⟩ := hh
    go_wp2
    go_ret
    exact ⟨rfl, HB9.out⟩
end Go.Proofs.Ytgpjhbaehhjdhaa
