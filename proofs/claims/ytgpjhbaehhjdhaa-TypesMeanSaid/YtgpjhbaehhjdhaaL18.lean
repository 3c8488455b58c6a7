/- TypesMean: its walk at every input. No condition. -/
import Derived.Test.YtgpjhbaehhjdhaaL17
namespace Go.Proofs.Ytgpjhbaehhjdhaa
open Go.ChangeShapes Go.WideShapes Go.ChangeAt Go.RowKit
set_option linter.unusedVariables false
set_option linter.unusedSimpArgs false
set_option maxRecDepth 100000

theorem W.conv_mn (fb tb x : Int) (fs : Bool) : W.conv fb fs tb x = W.mn fb x fs % W.md tb := rfl
theorem W.mn_mod (v x : Int) (s : Bool) : W.mn v x s % W.md v = x % W.md v := by
  unfold W.mn
  cases s
  · exact Int.emod_emod_of_dvd x (Int.dvd_refl _)
  · exact W.sg_mod v x
theorem W.mean_law (a b n : Int) (s t : Bool) (ha : W.ok a) (hb : W.ok b) :
    (a ≤ b → W.conv b t a (W.conv a s b (W.conv a s a n)) = W.conv a s a n) ∧ (W.mn a (W.conv a s a n) s = W.mn b (W.conv a s b (W.conv a s a n)) t → W.conv b t a (W.conv a s b (W.conv a s a n)) = W.conv a s a n) := by
  have hX : W.conv a s a n % W.md a = W.conv a s a n := Int.emod_emod_of_dvd _ (Int.dvd_refl _)
  refine ⟨fun hle => ?_, fun he => ?_⟩
  · rw [W.conv_down b a t _ hb ha hle, W.conv_mod a b a s _ ha hb ha (Int.le_refl _) hle, hX]
  · rw [W.conv_mn b a, ← he, W.mn_mod, hX]
set_option maxHeartbeats 4000000 in
theorem mean_no (n a b : Int) (s t : Bool) (h : ¬ (W.ok a ∧ W.ok b)) (w : World) :
    Calls Try.prog 15 #[.int .u64 n, W.ty a s, W.ty b t] w fun e w' => e = .returned (.bool true) ∧ Below w.heap.size w w' := by
  by_cases ha : W.ok a
  · have NV : Hid (∀ w : World, Calls Try.prog 56 #[W.ty a s] w fun e w' => e = .returned (.bool true) ∧ Below w.heap.size w w') := fun w => valid_ok a s ha w
    have NW : Hid (∀ w : World, Calls Try.prog 56 #[W.ty b t] w fun e w' => e = .returned (.bool false) ∧ Below w.heap.size w w') := fun w => valid_no b t (fun hb => h ⟨ha, hb⟩) w
    clear h ha
    go_enter Try.func15, Try.ntmps15
    go_wp2_with (first | (go_at_call 73; refine (alive7 _).mono ?_; rintro e w1 ⟨rfl, hb1⟩; have HB := Lib.hid (Ext.trans (Ext.alloc (Ext.alloc (Below.refl w.heap.size w) _) _) hb1); obtain ⟨x0, x1, x2, x3⟩ := Ty.below (B := w.heap.size) (b := a) (s := s) ⟨(by simp [go_sem]), (by simp [go_sem]), (by simp [go_sem]), (by simp [go_sem])⟩ hb1; obtain ⟨y0, y1, y2, y3⟩ := Ty.below (B := w.heap.size + 1) (b := b) (s := t) ⟨(by simp [go_sem]), (by simp [go_sem]), (by simp [go_sem]), (by simp [go_sem])⟩ hb1; have tok := Lib.hid True.intro; clear hb1) | (go_at_call 56; have _t := tok; refine (NV.out _).mono ?_; rintro e w1 ⟨rfl, hb1⟩; have HB := Lib.hid (Ext.trans HB.out hb1); obtain ⟨x0, x1, x2, x3⟩ := Ty.below (⟨x0, x1, x2, x3⟩ : Ty _ w.heap.size a s) hb1; obtain ⟨y0, y1, y2, y3⟩ := Ty.below (⟨y0, y1, y2, y3⟩ : Ty _ (w.heap.size + 1) b t) hb1; clear hb1 tok _t) | (go_at_call 56; refine (NW.out _).mono ?_; rintro e w1 ⟨rfl, hb1⟩; have HB := Lib.hid (Ext.trans HB.out hb1); clear hb1))
    go_ret
    exact ⟨rfl, HB.out⟩
  · have NV : Hid (∀ w : World, Calls Try.prog 56 #[W.ty a s] w fun e w' => e = .returned (.bool false) ∧ Below w.heap.size w w') := fun w => valid_no a s ha w
    clear h ha
    go_enter Try.func15, Try.ntmps15
    go_wp2_with (first | (go_at_call 73; refine (alive7 _).mono ?_; rintro e w1 ⟨rfl, hb1⟩; have HB := Lib.hid (Ext.trans (Ext.alloc (Ext.alloc (Below.refl w.heap.size w) _) _) hb1); obtain ⟨x0, x1, x2, x3⟩ := Ty.below (B := w.heap.size) (b := a) (s := s) ⟨(by simp [go_sem]), (by simp [go_sem]), (by simp [go_sem]), (by simp [go_sem])⟩ hb1; clear hb1) | (go_at_call 56; refine (NV.out _).mono ?_; rintro e w1 ⟨rfl, hb1⟩; have HB := Lib.hid (Ext.trans HB.out hb1); clear hb1))
    go_ret
    exact ⟨rfl, HB.out⟩
theorem mean_all (n : Int) (wn : (Lit.int .u64 n).wf = true) (a : Int) (s : Bool) (_ : (Lit.int .i64 a).wf = true) (b : Int) (t : Bool) (_ : (Lit.int .i64 b).wf = true) (w : World) :
    Calls Try.prog 15 #[.int .u64 n, W.ty a s, W.ty b t] w fun e w' => e = .returned (.bool true) ∧ Below w.heap.size w w' := by
  have hn := W.U_wf wn
  by_cases h : W.ok a ∧ W.ok b
  · obtain ⟨ha, hb⟩ := h
    obtain ⟨l1, l2⟩ := W.mean_law a b n s t ha hb
    refine mean_raw n a b (W.conv a s a n) (W.conv a s b (W.conv a s a n)) (W.conv b t a (W.conv a s b (W.conv a s a n))) (W.mn a (W.conv a s a n) s) (W.mn b (W.conv a s b (W.conv a s a n)) t) s t _ _ _ rfl (Lib.hid rfl) rfl ?_
      (fun w => valid_ok a s ha w) (fun w => valid_ok b t hb w) (fun w => convert_ok n a a s s ha ha hn w) (fun w => convert_ok _ a b s t ha hb (W.conv_U _ _ _ _) w) (fun w => convert_ok _ b a t s hb ha (W.conv_U _ _ _ _) w)
      (fun w => meant_ok _ a s ha (W.conv_U _ _ _ _) w) (fun w => meant_ok _ b t hb (W.conv_U _ _ _ _) w) w
    by_cases hz : W.conv b t a (W.conv a s b (W.conv a s a n)) = W.conv a s a n
    · simp [hz]
    · have h1 : ¬ a ≤ b := fun h => hz (l1 h)
      have h2 : ¬ cmpZ (W.mn a (W.conv a s a n) s) (W.mn b (W.conv a s b (W.conv a s a n)) t) = 0 := fun h => hz (l2 (cmpZ_zero.1 h))
      simp [h1, h2]
  · exact mean_no n a b s t h w
end Go.Proofs.Ytgpjhbaehhjdhaa
