/- TypesCommon: its walk at every input. No condition. -/
import Derived.Test.YtgpjhbaehhjdhaaL11
import Derived.Test.YtgpjhbaehhjdhaaL11b
import Derived.Test.YtgpjhbaehhjdhaaL11c
namespace Go.Proofs.Ytgpjhbaehhjdhaa
open Go.ChangeShapes Go.WideShapes Go.ChangeAt Go.RowKit
set_option linter.unusedVariables false
set_option linter.unusedSimpArgs false
set_option maxRecDepth 100000

theorem com_two (a b : Int) (s t : Bool) (ha : W.ok a) (hb : W.ok b) : (W.pb a = W.cb a b ∧ W.ps a s = W.cs a s b t) ∨ (W.pb b = W.cb a b ∧ W.ps b t = W.cs a s b t ∧ ((W.cb a b == W.pb a) = false ∨ (W.pb a = W.cb a b ∧ W.cs a s b t = false ∧ W.ps a s = true))) := by
  rcases ha with rfl | rfl | rfl | rfl <;> rcases hb with rfl | rfl | rfl | rfl <;> cases s <;> cases t <;> first | exact Or.inl ⟨rfl, rfl⟩ | exact Or.inr ⟨rfl, rfl, Or.inl rfl⟩ | exact Or.inr ⟨rfl, rfl, Or.inr ⟨rfl, rfl, rfl⟩⟩

set_option maxHeartbeats 4000000 in
theorem common_no (a b c : Int) (s t u : Bool) (h : ¬ (W.ok a ∧ W.ok b ∧ W.ok c)) (w : World) :
    Calls Try.prog 16 #[W.ty a s, W.ty b t, W.ty c u] w fun e w' => e = .returned (.bool true) ∧ Below w.heap.size w w' := by
  have key : ∀ (p q r : Bool), Hid (∀ w : World, Calls Try.prog 56 #[W.ty a s] w fun e w' => e = .returned (.bool p) ∧ Below w.heap.size w w') → Hid (∀ w : World, Calls Try.prog 56 #[W.ty b t] w fun e w' => e = .returned (.bool q) ∧ Below w.heap.size w w') →
      Hid (∀ w : World, Calls Try.prog 56 #[W.ty c u] w fun e w' => e = .returned (.bool r) ∧ Below w.heap.size w w') → (p && q && r) = false → Calls Try.prog 16 #[W.ty a s, W.ty b t, W.ty c u] w fun e w' => e = .returned (.bool true) ∧ Below w.heap.size w w' := by
    intro p q r NA NB NC hp
    cases p
    · go_enter Try.func16, Try.ntmps16
      go_wp2_with (first | (go_at_call 73; refine (alive7 _).mono ?_; rintro e w1 ⟨rfl, hb1⟩; have HB := Lib.hid (Ext.trans (Ext.alloc (Ext.alloc (Ext.alloc (Below.refl w.heap.size w) _) _) _) hb1); obtain ⟨x0, x1, x2, x3⟩ := Ty.below (B := w.heap.size) (b := a) (s := s) ⟨(by simp [go_sem]), (by simp [go_sem]), (by simp [go_sem]), (by simp [go_sem])⟩ hb1; clear hb1) | (go_at_call 56; refine (NA.out _).mono ?_; rintro e w1 ⟨rfl, hb1⟩; have HB := Lib.hid (Ext.trans HB.out hb1); clear hb1))
      go_ret
      exact ⟨rfl, HB.out⟩
    cases q
    · go_enter Try.func16, Try.ntmps16
      go_wp2_with (first | (go_at_call 73; refine (alive7 _).mono ?_; rintro e w1 ⟨rfl, hb1⟩; have HB := Lib.hid (Ext.trans (Ext.alloc (Ext.alloc (Ext.alloc (Below.refl w.heap.size w) _) _) _) hb1); obtain ⟨x0, x1, x2, x3⟩ := Ty.below (B := w.heap.size) (b := a) (s := s) ⟨(by simp [go_sem]), (by simp [go_sem]), (by simp [go_sem]), (by simp [go_sem])⟩ hb1; obtain ⟨y0, y1, y2, y3⟩ := Ty.below (B := w.heap.size + 1) (b := b) (s := t) ⟨(by simp [go_sem]), (by simp [go_sem]), (by simp [go_sem]), (by simp [go_sem])⟩ hb1; have tok := Lib.hid True.intro; clear hb1) | (go_at_call 56; have _t := tok; refine (NA.out _).mono ?_; rintro e w1 ⟨rfl, hb1⟩; have HB := Lib.hid (Ext.trans HB.out hb1); obtain ⟨y0, y1, y2, y3⟩ := Ty.below (⟨y0, y1, y2, y3⟩ : Ty _ (w.heap.size + 1) b t) hb1; clear hb1 tok _t) | (go_at_call 56; refine (NB.out _).mono ?_; rintro e w1 ⟨rfl, hb1⟩; have HB := Lib.hid (Ext.trans HB.out hb1); clear hb1))
      go_ret
      exact ⟨rfl, HB.out⟩
    cases r
    · go_enter Try.func16, Try.ntmps16
      go_wp2_with (first | (go_at_call 73; refine (alive7 _).mono ?_; rintro e w1 ⟨rfl, hb1⟩; have HB := Lib.hid (Ext.trans (Ext.alloc (Ext.alloc (Ext.alloc (Below.refl w.heap.size w) _) _) _) hb1); obtain ⟨x0, x1, x2, x3⟩ := Ty.below (B := w.heap.size) (b := a) (s := s) ⟨(by simp [go_sem]), (by simp [go_sem]), (by simp [go_sem]), (by simp [go_sem])⟩ hb1; obtain ⟨y0, y1, y2, y3⟩ := Ty.below (B := w.heap.size + 1) (b := b) (s := t) ⟨(by simp [go_sem]), (by simp [go_sem]), (by simp [go_sem]), (by simp [go_sem])⟩ hb1; obtain ⟨z0, z1, z2, z3⟩ := Ty.below (B := w.heap.size + 1 + 1) (b := c) (s := u) ⟨(by simp [go_sem]), (by simp [go_sem]), (by simp [go_sem]), (by simp [go_sem])⟩ hb1; have tok := Lib.hid True.intro; have tok2 := Lib.hid True.intro; clear hb1) | (go_at_call 56; have _t := tok; refine (NA.out _).mono ?_; rintro e w1 ⟨rfl, hb1⟩; have HB := Lib.hid (Ext.trans HB.out hb1); obtain ⟨y0, y1, y2, y3⟩ := Ty.below (⟨y0, y1, y2, y3⟩ : Ty _ (w.heap.size + 1) b t) hb1; obtain ⟨z0, z1, z2, z3⟩ := Ty.below (⟨z0, z1, z2, z3⟩ : Ty _ (w.heap.size + 1 + 1) c u) hb1; clear hb1 tok _t) | (go_at_call 56; have _t := tok2; refine (NB.out _).mono ?_; rintro e w1 ⟨rfl, hb1⟩; have HB := Lib.hid (Ext.trans HB.out hb1); obtain ⟨z0, z1, z2, z3⟩ := Ty.below (⟨z0, z1, z2, z3⟩ : Ty _ (w.heap.size + 1 + 1) c u) hb1; clear hb1 tok2 _t) | (go_at_call 56; refine (NC.out _).mono ?_; rintro e w1 ⟨rfl, hb1⟩; have HB := Lib.hid (Ext.trans HB.out hb1); clear hb1))
      go_ret
      exact ⟨rfl, HB.out⟩
    · cases hp
  have V : ∀ (x : Int) (y : Bool) (w : World), Calls Try.prog 56 #[W.ty x y] w fun e w' => e = .returned (.bool (@decide (W.ok x) (Classical.propDecidable _))) ∧ Below w.heap.size w w' := fun x y w => by
    by_cases hx : W.ok x
    · simp only [hx, decide_true]; exact valid_ok x y hx w
    · simp only [hx, decide_false]; exact valid_no x y hx w
  refine key _ _ _ (V a s) (V b t) (V c u) ?_
  by_cases h1 : W.ok a <;> by_cases h2 : W.ok b <;> by_cases h3 : W.ok c <;> first | (simp [h1, h2, h3]; done) | exact absurd ⟨h1, h2, h3⟩ h
theorem common_all (a b c : Int) (s t u : Bool) (w : World) :
    Calls Try.prog 16 #[W.ty a s, W.ty b t, W.ty c u] w fun e w' => e = .returned (.bool true) ∧ Below w.heap.size w w' := by
  by_cases h : W.ok a ∧ W.ok b ∧ W.ok c
  · obtain ⟨ha, hb, hc⟩ := h
    obtain ⟨s1, s2⟩ := com_swap a b s t ha hb
    obtain ⟨f1, f2, f3, f4, f5, f6, f7, f8, f9⟩ := com_self a b s t ha hb
    obtain ⟨g1, g2⟩ := com_ass a b c s t u ha hb hc
    have EQ := (⟨rfl, rfl, s1, s2, f1, f2, f3, f4, f5, f6, rfl, rfl, rfl, rfl, g1.symm, g2.symm⟩ : W.cb a b = W.cb a b ∧ W.cs a s b t = W.cs a s b t ∧ W.cb b a = W.cb a b ∧ W.cs b t a s = W.cs a s b t ∧ W.cb (W.cb a b) (W.cb a b) = W.cb a b ∧ W.cs (W.cb a b) (W.cs a s b t) (W.cb a b) (W.cs a s b t) = W.cs a s b t ∧ W.cb (W.cb a b) a = W.cb a b ∧ W.cs (W.cb a b) (W.cs a s b t) a s = W.cs a s b t ∧ W.cb (W.cb a b) b = W.cb a b ∧ W.cs (W.cb a b) (W.cs a s b t) b t = W.cs a s b t ∧ W.cb (W.cb a b) c = W.cb (W.cb a b) c ∧ W.cs (W.cb a b) (W.cs a s b t) c u = W.cs (W.cb a b) (W.cs a s b t) c u ∧ W.cb b c = W.cb b c ∧ W.cs b t c u = W.cs b t c u ∧ W.cb a (W.cb b c) = W.cb (W.cb a b) c ∧ W.cs a s (W.cb b c) (W.cs b t c u) = W.cs (W.cb a b) (W.cs a s b t) c u)
    rcases com_two a b s t ha hb with h1 | ⟨k1, k2, h2 | ⟨k3, k4, k5⟩⟩
    · exact common_walk_a a b c _ _ _ s t u _ _ _ ha hb hc EQ f7 f8 f9 h1 w
    · exact common_walk_b1 a b c _ _ _ _ s t u _ _ _ _ ha hb hc EQ f7 f8 f9 ⟨rfl, rfl⟩ ⟨k1, k2⟩ h2 w
    · rw [k4] at EQ k2
      exact common_walk_b2 a b c _ _ _ s t u _ _ ha hb hc ⟨EQ.1, k4, EQ.2.2⟩ f7 f8 f9 ⟨k3, k5⟩ ⟨k1, k2⟩ w
  · exact common_no a b c s t u h w
theorem common_all0 (a : Int) (s : Bool) (_ : (Lit.int .i64 a).wf = true) (b : Int) (t : Bool) (_ : (Lit.int .i64 b).wf = true) (c : Int) (u : Bool) (_ : (Lit.int .i64 c).wf = true) (w : World) :
    Calls Try.prog 16 #[W.ty a s, W.ty b t, W.ty c u] w fun e w' => e = .returned (.bool true) ∧ Below w.heap.size w w' := common_all a b c s t u w
end Go.Proofs.Ytgpjhbaehhjdhaa
