/- TypesNarrow: its walk where an operator is one of the six, and the types are right. -/
import Derived.Test.YtgpjhbaehhjdhaaL9
import Derived.Test.YtgpjhbaehhjdhaaL13
import Derived.Test.YtgpjhbaehhjdhaaHd
namespace Go.Proofs.Ytgpjhbaehhjdhaa
open Go.ChangeShapes Go.WideShapes Go.ChangeAt Go.RowKit
set_option linter.unusedVariables false
set_option linter.unusedSimpArgs false
set_option maxRecDepth 100000

set_option maxHeartbeats 10000000 in
theorem narrow_yes (k a b xb wb p q R S : Int) (xs ws : Bool) (hk : W.is6 k) (h16 : 16 ≤ xb) (hle : xb ≤ wb)
    (NV : Hid (∀ w : World, Calls Try.prog 56 #[W.ty xb xs] w fun e w' => e = .returned (.bool true) ∧ Below w.heap.size w w'))
    (NW : Hid (∀ w : World, Calls Try.prog 56 #[W.ty wb ws] w fun e w' => e = .returned (.bool true) ∧ Below w.heap.size w w'))
    (B1 : Hid (∀ w : World, Calls Try.prog 75 #[.int .i64 k, .int .u64 a, .int .u64 b, W.ty xb xs, W.ty xb xs] w fun e w' => e = .returned (.tuple #[.int .u64 R, .int .i64 0]) ∧ Below w.heap.size w w'))
    (CA : Hid (∀ w : World, Calls Try.prog 71 #[.int .u64 a, W.ty xb xs, W.ty wb ws] w fun e w' => e = .returned (.int .u64 p) ∧ Below w.heap.size w w'))
    (CB : Hid (∀ w : World, Calls Try.prog 71 #[.int .u64 b, W.ty xb xs, W.ty wb ws] w fun e w' => e = .returned (.int .u64 q) ∧ Below w.heap.size w w'))
    (B2 : Hid (∀ w : World, Calls Try.prog 75 #[.int .i64 k, .int .u64 p, .int .u64 q, W.ty wb ws, W.ty wb ws] w fun e w' => e = .returned (.tuple #[.int .u64 S, .int .i64 0]) ∧ Below w.heap.size w w'))
    (CR : Hid (∀ w : World, Calls Try.prog 71 #[.int .u64 S, W.ty wb ws, W.ty xb xs] w fun e w' => e = .returned (.int .u64 R) ∧ Below w.heap.size w w')) (w : World) :
    Calls Try.prog 17 #[.int .i64 k, .int .u64 a, .int .u64 b, W.ty xb xs, W.ty wb ws] w fun e w' => e = .returned (.bool true) ∧ Below w.heap.size w w' := by
  rcases hk with rfl | rfl | rfl | rfl | rfl | rfl
  all_goals
    go_enter Try.func17, Try.ntmps17
    go_wp2_with (first | (go_at_call 73; refine (alive7 _).mono ?_; rintro e w1 ⟨rfl, hb1⟩; have HB := Lib.hid (Ext.trans (Ext.alloc (Ext.alloc (Below.refl w.heap.size w) _) _) hb1); obtain ⟨x0, x1, x2, x3⟩ := Ty.below (B := w.heap.size) (b := xb) (s := xs) ⟨(by simp [go_sem]), (by simp [go_sem]), (by simp [go_sem]), (by simp [go_sem])⟩ hb1; obtain ⟨y0, y1, y2, y3⟩ := Ty.below (B := w.heap.size + 1) (b := wb) (s := ws) ⟨(by simp [go_sem]), (by simp [go_sem]), (by simp [go_sem]), (by simp [go_sem])⟩ hb1; have tok := Lib.hid True.intro; clear hb1) | (go_at_call 56; have _t := tok; refine (NV.out _).mono ?_; rintro e w1 ⟨rfl, hb1⟩; have HB := Lib.hid (Ext.trans HB.out hb1); obtain ⟨x0, x1, x2, x3⟩ := Ty.below (⟨x0, x1, x2, x3⟩ : Ty _ w.heap.size xb xs) hb1; obtain ⟨y0, y1, y2, y3⟩ := Ty.below (⟨y0, y1, y2, y3⟩ : Ty _ (w.heap.size + 1) wb ws) hb1; clear hb1 tok _t) | (go_at_call 56; refine (NW.out _).mono ?_; rintro e w1 ⟨rfl, hb1⟩; have HB := Lib.hid (Ext.trans HB.out hb1); obtain ⟨x0, x1, x2, x3⟩ := Ty.below (⟨x0, x1, x2, x3⟩ : Ty _ w.heap.size xb xs) hb1; obtain ⟨y0, y1, y2, y3⟩ := Ty.below (⟨y0, y1, y2, y3⟩ : Ty _ (w.heap.size + 1) wb ws) hb1; clear hb1) | (go_at_call 75; refine (B1.out _).mono ?_; rintro e w1 ⟨rfl, hb1⟩; have HB := Lib.hid (Ext.trans HB.out hb1); obtain ⟨x0, x1, x2, x3⟩ := Ty.below (⟨x0, x1, x2, x3⟩ : Ty _ w.heap.size xb xs) hb1; obtain ⟨y0, y1, y2, y3⟩ := Ty.below (⟨y0, y1, y2, y3⟩ : Ty _ (w.heap.size + 1) wb ws) hb1; clear hb1))
    refine Hd.wp_region (fun w' => w'.cell? ⟨w.heap.size, 0, none⟩ = some (.int .i64 xb) ∧ w'.cell? ⟨w.heap.size, 1, none⟩ = some (.bool xs) ∧ w'.cell? ⟨w.heap.size + 1, 0, none⟩ = some (.int .i64 wb) ∧ w'.cell? ⟨w.heap.size + 1, 1, none⟩ = some (.bool ws) ∧ Hid (Below w.heap.size w w')) (by kernel_rfl) (by kernel_rfl)
      (by repeat (first | exact Hd.Keeps.cell _ _ _ | exact (Hd.Keeps.below _).hid | refine Hd.Keeps.and ?_ ?_)) ⟨x0, x1, y0, y1, HB⟩ (fun W nW wd ok cl cs => ?_)
    clear x0 x1 y0 y1 x2 x3 y2 y3 HB
    have g0 := fun x => (ok x).1; have g1 := fun x => (ok x).2.1; have g2 := fun x => (ok x).2.2.1; have g3 := fun x => (ok x).2.2.2.1
    have HOK := Lib.hid ok; clear ok
    repeat (first | go_big_quiet_skip | (go_big_quiet_want; go_big_quiet_op; first | go_big_quiet_on | (apply Exists.intro; refine ⟨fun _ => ?_, ?_⟩; (· (first | (go_at_call_of 71 (Value.int IntKind.u64 a); refine (CA.out _).mono ?_; rintro e w2 ⟨rfl, hb2⟩; exact ⟨rfl, cl.out _ _ hb2⟩) | (go_at_call_of 71 (Value.int IntKind.u64 b); refine (CB.out _).mono ?_; rintro e w2 ⟨rfl, hb2⟩; exact ⟨rfl, cl.out _ _ hb2⟩) | (go_at_call 75; refine (B2.out _).mono ?_; rintro e w2 ⟨rfl, hb2⟩; exact ⟨rfl, cl.out _ _ hb2⟩))); go_big_quiet_on)))
    refine wpQuiet_nil ?_
    intro x
    obtain ⟨f0, f1, f2, f3, HB⟩ := HOK.out x
    clear g0 g1 g2 g3 HOK
    go_wp2_with (first | (go_at_call 71; refine (CR.out _).mono ?_; rintro e w1 ⟨rfl, hb1⟩; have HB := Lib.hid (Ext.trans HB.out hb1); clear hb1))
    go_ret
    exact ⟨rfl, HB.out⟩
end Go.Proofs.Ytgpjhbaehhjdhaa
