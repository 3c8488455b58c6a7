/- TypesCommon: its walk. -/
import Derived.Test.YtgpjhbaehhjdhaaL9
import Derived.Test.YtgpjhbaehhjdhaaHd
namespace Go.Proofs.Ytgpjhbaehhjdhaa
open Go.ChangeShapes Go.WideShapes Go.ChangeAt Go.RowKit
set_option linter.unusedVariables false
set_option linter.unusedSimpArgs false
set_option maxRecDepth 100000

theorem com_swap (a b : Int) (s t : Bool) (ha : W.ok a) (hb : W.ok b) : W.cb b a = W.cb a b ∧ W.cs b t a s = W.cs a s b t := by
  rcases ha with rfl | rfl | rfl | rfl <;> rcases hb with rfl | rfl | rfl | rfl <;> cases s <;> cases t <;> exact ⟨rfl, rfl⟩
theorem com_self (a b : Int) (s t : Bool) (ha : W.ok a) (hb : W.ok b) : W.cb (W.cb a b) (W.cb a b) = W.cb a b ∧ W.cs (W.cb a b) (W.cs a s b t) (W.cb a b) (W.cs a s b t) = W.cs a s b t ∧ W.cb (W.cb a b) a = W.cb a b ∧ W.cs (W.cb a b) (W.cs a s b t) a s = W.cs a s b t
    ∧ W.cb (W.cb a b) b = W.cb a b ∧ W.cs (W.cb a b) (W.cs a s b t) b t = W.cs a s b t ∧ a ≤ W.cb a b ∧ b ≤ W.cb a b ∧ 16 ≤ W.cb a b := by
  rcases ha with rfl | rfl | rfl | rfl <;> rcases hb with rfl | rfl | rfl | rfl <;> cases s <;> cases t <;> exact ⟨rfl, rfl, rfl, rfl, rfl, rfl, by decide, by decide, by decide⟩
theorem com_one (a b : Int) (s t : Bool) (ha : W.ok a) (hb : W.ok b) : (W.pb a = W.cb a b ∧ W.ps a s = W.cs a s b t) ∨ (W.pb b = W.cb a b ∧ W.ps b t = W.cs a s b t) := by
  rcases ha with rfl | rfl | rfl | rfl <;> rcases hb with rfl | rfl | rfl | rfl <;> cases s <;> cases t <;> first | exact Or.inl ⟨rfl, rfl⟩ | exact Or.inr ⟨rfl, rfl⟩
theorem com_ass (a b c : Int) (s t u : Bool) (ha : W.ok a) (hb : W.ok b) (hc : W.ok c) : W.cb (W.cb a b) c = W.cb a (W.cb b c) ∧ W.cs (W.cb a b) (W.cs a s b t) c u = W.cs a s (W.cb b c) (W.cs b t c u) := by
  rcases ha with rfl | rfl | rfl | rfl <;> rcases hb with rfl | rfl | rfl | rfl <;> rcases hc with rfl | rfl | rfl | rfl <;> cases s <;> cases t <;> cases u <;> exact ⟨rfl, rfl⟩

set_option maxHeartbeats 40000000 in
theorem common_walk_a (a b c C D E : Int) (s t u S U V : Bool) (ha : W.ok a) (hb : W.ok b) (hc : W.ok c) (EQ : Hid (W.cb a b = C ∧ W.cs a s b t = S ∧ W.cb b a = C ∧ W.cs b t a s = S ∧ W.cb C C = C ∧ W.cs C S C S = S ∧ W.cb C a = C ∧ W.cs C S a s = S ∧ W.cb C b = C ∧ W.cs C S b t = S ∧ W.cb C c = D ∧ W.cs C S c u = U ∧ W.cb b c = E ∧ W.cs b t c u = V ∧ W.cb a E = D ∧ W.cs a s E V = U)) (h1 : a ≤ C) (h2 : b ≤ C) (h3 : 16 ≤ C) (EP : Hid (W.pb a = C ∧ W.ps a s = S)) (w : World) :
    Calls Try.prog 16 #[W.ty a s, W.ty b t, W.ty c u] w fun e w' => e = .returned (.bool true) ∧ Below w.heap.size w w' := by
  go_enter Try.func16, Try.ntmps16
  go_wp2_with (first | (go_at_call 73; refine (alive7 _).mono ?_; rintro e w1 ⟨rfl, hb1⟩; have HB := Lib.hid (Ext.trans (Ext.alloc (Ext.alloc (Ext.alloc (Below.refl w.heap.size w) _) _) _) hb1); obtain ⟨x0, x1, x2, x3⟩ := Ty.below (B := w.heap.size) (b := a) (s := s) ⟨(by simp [go_sem]), (by simp [go_sem]), (by simp [go_sem]), (by simp [go_sem])⟩ hb1; obtain ⟨y0, y1, y2, y3⟩ := Ty.below (B := w.heap.size + 1) (b := b) (s := t) ⟨(by simp [go_sem]), (by simp [go_sem]), (by simp [go_sem]), (by simp [go_sem])⟩ hb1; obtain ⟨z0, z1, z2, z3⟩ := Ty.below (B := w.heap.size + 1 + 1) (b := c) (s := u) ⟨(by simp [go_sem]), (by simp [go_sem]), (by simp [go_sem]), (by simp [go_sem])⟩ hb1; clear hb1) | (go_at_call 56; refine (valid_ok _ _ (by assumption) _).mono ?_; rintro e w1 ⟨rfl, hb1⟩; have HB := Lib.hid (Ext.trans HB.out hb1); obtain ⟨x0, x1, x2, x3⟩ := Ty.below (⟨x0, x1, x2, x3⟩ : Ty _ w.heap.size a s) hb1; obtain ⟨y0, y1, y2, y3⟩ := Ty.below (⟨y0, y1, y2, y3⟩ : Ty _ (w.heap.size + 1) b t) hb1; obtain ⟨z0, z1, z2, z3⟩ := Ty.below (⟨z0, z1, z2, z3⟩ : Ty _ (w.heap.size + 1 + 1) c u) hb1; clear hb1) | (go_at_call_of 67 (Value.agg #[Value.int IntKind.i64 a, Value.bool s]); (fail_if_success (have := mk)); refine (common_ok _ _ _ _ _).mono ?_; simp only [EQ.out]; rintro e wc ⟨rfl, hb1⟩; have mk := Lib.hid True.intro; have HB := Lib.hid (Ext.alloc (Ext.trans HB.out hb1) (.cells #[.int .i64 C, .bool S] 66)); obtain ⟨x0, x1, x2, x3⟩ := Ty.alloc (Ty.below (⟨x0, x1, x2, x3⟩ : Ty _ w.heap.size a s) hb1) (.cells #[.int .i64 C, .bool S] 66); obtain ⟨y0, y1, y2, y3⟩ := Ty.alloc (Ty.below (⟨y0, y1, y2, y3⟩ : Ty _ (w.heap.size + 1) b t) hb1) (.cells #[.int .i64 C, .bool S] 66); obtain ⟨z0, z1, z2, z3⟩ := Ty.alloc (Ty.below (⟨z0, z1, z2, z3⟩ : Ty _ (w.heap.size + 1 + 1) c u) hb1) (.cells #[.int .i64 C, .bool S] 66); obtain ⟨v0, v1, v2, v3⟩ := Ty.new wc rfl C S 66; clear hb1) | (go_at_call 67; refine (common_ok _ _ _ _ _).mono ?_; simp only [EQ.out]; rintro e w1 ⟨rfl, hb1⟩; have HB := Lib.hid (Ext.trans HB.out hb1); obtain ⟨x0, x1, x2, x3⟩ := Ty.below (⟨x0, x1, x2, x3⟩ : Ty _ w.heap.size a s) hb1; obtain ⟨y0, y1, y2, y3⟩ := Ty.below (⟨y0, y1, y2, y3⟩ : Ty _ (w.heap.size + 1) b t) hb1; obtain ⟨z0, z1, z2, z3⟩ := Ty.below (⟨z0, z1, z2, z3⟩ : Ty _ (w.heap.size + 1 + 1) c u) hb1; obtain ⟨v0, v1, v2, v3⟩ := Ty.below (⟨v0, v1, v2, v3⟩ : Ty _ wc.heap.size C S) hb1; clear hb1) | (go_at_call 64; refine (promote_ok _ _ _).mono ?_; simp only [EP.out]; rintro e w1 ⟨rfl, hb1⟩; have HB := Lib.hid (Ext.trans HB.out hb1); obtain ⟨x0, x1, x2, x3⟩ := Ty.below (⟨x0, x1, x2, x3⟩ : Ty _ w.heap.size a s) hb1; obtain ⟨y0, y1, y2, y3⟩ := Ty.below (⟨y0, y1, y2, y3⟩ : Ty _ (w.heap.size + 1) b t) hb1; obtain ⟨z0, z1, z2, z3⟩ := Ty.below (⟨z0, z1, z2, z3⟩ : Ty _ (w.heap.size + 1 + 1) c u) hb1; obtain ⟨v0, v1, v2, v3⟩ := Ty.below (⟨v0, v1, v2, v3⟩ : Ty _ wc.heap.size C S) hb1; clear hb1))
  simp only [List.append_eq, List.cons_append, List.nil_append]
  refine Hd.wp_region (fun w' => w'.cell? ⟨w.heap.size, 0, none⟩ = some (.int .i64 a) ∧ w'.cell? ⟨w.heap.size, 1, none⟩ = some (.bool s) ∧ w'.cell? ⟨w.heap.size + 1, 0, none⟩ = some (.int .i64 b) ∧ w'.cell? ⟨w.heap.size + 1, 1, none⟩ = some (.bool t) ∧ w'.cell? ⟨w.heap.size + 1 + 1, 0, none⟩ = some (.int .i64 c) ∧ w'.cell? ⟨w.heap.size + 1 + 1, 1, none⟩ = some (.bool u) ∧ w'.cell? ⟨wc.heap.size, 0, none⟩ = some (.int .i64 C) ∧ w'.cell? ⟨wc.heap.size, 1, none⟩ = some (.bool S) ∧ Hid (Below w.heap.size w w')) (by kernel_rfl) (by kernel_rfl)
    (by repeat (first | exact Hd.Keeps.cell _ _ _ | exact (Hd.Keeps.below _).hid | refine Hd.Keeps.and ?_ ?_)) ⟨x0, x1, y0, y1, z0, z1, v0, v1, HB⟩ (fun W nW wd ok cl cs => ?_)
  clear x0 x1 y0 y1 z0 z1 v0 v1 x2 x3 y2 y3 z2 z3 v2 v3
  have g0 := fun x => (ok x).1; have g1 := fun x => (ok x).2.1; have g2 := fun x => (ok x).2.2.1; have g3 := fun x => (ok x).2.2.2.1; have g4 := fun x => (ok x).2.2.2.2.1; have g5 := fun x => (ok x).2.2.2.2.2.1; have g6 := fun x => (ok x).2.2.2.2.2.2.1; have g7 := fun x => (ok x).2.2.2.2.2.2.2.1
  have HOK := Lib.hid ok; clear ok
  repeat (first | go_big_quiet_skip | (go_big_quiet_want; go_big_quiet_op; first | go_big_quiet_on | (apply Exists.intro; refine ⟨fun _ => ?_, ?_⟩; (· (first | (go_at_call 67; refine (common_ok _ _ _ _ _).mono ?_; simp only [EQ.out]; rintro e w2 ⟨rfl, hb2⟩; exact ⟨rfl, cl.out _ _ hb2⟩) | (go_at_call 64; refine (promote_ok _ _ _).mono ?_; simp only [EP.out]; rintro e w2 ⟨rfl, hb2⟩; exact ⟨rfl, cl.out _ _ hb2⟩))); go_big_quiet_on)))
  refine wpQuiet_nil ?_
  intro x
  have HB := (HOK.out x).2.2.2.2.2.2.2.2
  go_wp2
  go_ret
  exact ⟨rfl, HB.out⟩
end Go.Proofs.Ytgpjhbaehhjdhaa
