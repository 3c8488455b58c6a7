/- TypesNarrow: its walk at every input. No condition. -/
import Derived.Test.YtgpjhbaehhjdhaaL14
import Derived.Test.YtgpjhbaehhjdhaaT6
namespace Go.Proofs.Ytgpjhbaehhjdhaa
open Go.ChangeShapes Go.WideShapes Go.ChangeAt Go.RowKit
set_option linter.unusedVariables false
set_option linter.unusedSimpArgs false
set_option maxRecDepth 100000

set_option maxHeartbeats 4000000 in
theorem narrow_no (k a b xb wb : Int) (xs ws : Bool) (h : ¬ W.ok xb ∨ ¬ W.ok wb ∨ xb < 16 ∨ wb < xb ∨ ¬ W.is6 k) (w : World) :
    Calls Try.prog 17 #[.int .i64 k, .int .u64 a, .int .u64 b, W.ty xb xs, W.ty wb ws] w fun e w' => e = .returned (.bool true) ∧ Below w.heap.size w w' := by
  by_cases hx : W.ok xb
  · by_cases hw : W.ok wb
    · have NV : Hid (∀ w : World, Calls Try.prog 56 #[W.ty xb xs] w fun e w' => e = .returned (.bool true) ∧ Below w.heap.size w w') := fun w => valid_ok xb xs hx w
      have NW : Hid (∀ w : World, Calls Try.prog 56 #[W.ty wb ws] w fun e w' => e = .returned (.bool true) ∧ Below w.heap.size w w') := fun w => valid_ok wb ws hw w
      have h3 : xb < 16 ∨ wb < xb ∨ ¬ W.is6 k := by rcases h with h | h | h <;> first | exact absurd hx h | exact absurd hw h | exact h
      clear h hx hw
      by_cases h16 : xb < 16
      · clear h3
        go_enter Try.func17, Try.ntmps17
        go_wp2_with (first | (go_at_call 73; refine (alive7 _).mono ?_; rintro e w1 ⟨rfl, hb1⟩; have HB := Lib.hid (Ext.trans (Ext.alloc (Ext.alloc (Below.refl w.heap.size w) _) _) hb1); obtain ⟨x0, x1, x2, x3⟩ := Ty.below (B := w.heap.size) (b := xb) (s := xs) ⟨(by simp [go_sem]), (by simp [go_sem]), (by simp [go_sem]), (by simp [go_sem])⟩ hb1; obtain ⟨y0, y1, y2, y3⟩ := Ty.below (B := w.heap.size + 1) (b := wb) (s := ws) ⟨(by simp [go_sem]), (by simp [go_sem]), (by simp [go_sem]), (by simp [go_sem])⟩ hb1; have tok := Lib.hid True.intro; clear hb1) | (go_at_call 56; have _t := tok; refine (NV.out _).mono ?_; rintro e w1 ⟨rfl, hb1⟩; have HB := Lib.hid (Ext.trans HB.out hb1); obtain ⟨x0, x1, x2, x3⟩ := Ty.below (⟨x0, x1, x2, x3⟩ : Ty _ w.heap.size xb xs) hb1; obtain ⟨y0, y1, y2, y3⟩ := Ty.below (⟨y0, y1, y2, y3⟩ : Ty _ (w.heap.size + 1) wb ws) hb1; clear hb1 tok _t) | (go_at_call 56; refine (NW.out _).mono ?_; rintro e w1 ⟨rfl, hb1⟩; have HB := Lib.hid (Ext.trans HB.out hb1); obtain ⟨x0, x1, x2, x3⟩ := Ty.below (⟨x0, x1, x2, x3⟩ : Ty _ w.heap.size xb xs) hb1; obtain ⟨y0, y1, y2, y3⟩ := Ty.below (⟨y0, y1, y2, y3⟩ : Ty _ (w.heap.size + 1) wb ws) hb1; clear hb1))
        go_ret
        exact ⟨rfl, HB.out⟩
      · have h16' : 16 ≤ xb := by omega
        by_cases hl : wb < xb
        · clear h3
          go_enter Try.func17, Try.ntmps17
          go_wp2_with (first | (go_at_call 73; refine (alive7 _).mono ?_; rintro e w1 ⟨rfl, hb1⟩; have HB := Lib.hid (Ext.trans (Ext.alloc (Ext.alloc (Below.refl w.heap.size w) _) _) hb1); obtain ⟨x0, x1, x2, x3⟩ := Ty.below (B := w.heap.size) (b := xb) (s := xs) ⟨(by simp [go_sem]), (by simp [go_sem]), (by simp [go_sem]), (by simp [go_sem])⟩ hb1; obtain ⟨y0, y1, y2, y3⟩ := Ty.below (B := w.heap.size + 1) (b := wb) (s := ws) ⟨(by simp [go_sem]), (by simp [go_sem]), (by simp [go_sem]), (by simp [go_sem])⟩ hb1; have tok := Lib.hid True.intro; clear hb1) | (go_at_call 56; have _t := tok; refine (NV.out _).mono ?_; rintro e w1 ⟨rfl, hb1⟩; have HB := Lib.hid (Ext.trans HB.out hb1); obtain ⟨x0, x1, x2, x3⟩ := Ty.below (⟨x0, x1, x2, x3⟩ : Ty _ w.heap.size xb xs) hb1; obtain ⟨y0, y1, y2, y3⟩ := Ty.below (⟨y0, y1, y2, y3⟩ : Ty _ (w.heap.size + 1) wb ws) hb1; clear hb1 tok _t) | (go_at_call 56; refine (NW.out _).mono ?_; rintro e w1 ⟨rfl, hb1⟩; have HB := Lib.hid (Ext.trans HB.out hb1); obtain ⟨x0, x1, x2, x3⟩ := Ty.below (⟨x0, x1, x2, x3⟩ : Ty _ w.heap.size xb xs) hb1; obtain ⟨y0, y1, y2, y3⟩ := Ty.below (⟨y0, y1, y2, y3⟩ : Ty _ (w.heap.size + 1) wb ws) hb1; clear hb1))
          go_ret
          exact ⟨rfl, HB.out⟩
        · have hl' : xb ≤ wb := by omega
          have hk : ¬ W.is6 k := by rcases h3 with h | h | h <;> first | omega | exact h
          have k1 : (k != 12) = true := by simp only [bne_iff_ne, ne_eq]; intro e; exact hk (.inl e)
          have k2 : (k != 13) = true := by simp only [bne_iff_ne, ne_eq]; intro e; exact hk (.inr (.inl e))
          have k3 : (k != 9) = true := by simp only [bne_iff_ne, ne_eq]; intro e; exact hk (.inr (.inr (.inl e)))
          have k4 : (k != 22) = true := by simp only [bne_iff_ne, ne_eq]; intro e; exact hk (.inr (.inr (.inr (.inl e))))
          have k5 : (k != 23) = true := by simp only [bne_iff_ne, ne_eq]; intro e; exact hk (.inr (.inr (.inr (.inr (.inl e)))))
          have k6 : (k != 24) = true := by simp only [bne_iff_ne, ne_eq]; intro e; exact hk (.inr (.inr (.inr (.inr (.inr e)))))
          clear h3 hk h16 hl
          go_enter Try.func17, Try.ntmps17
          go_wp2_with (first | (go_at_call 73; refine (alive7 _).mono ?_; rintro e w1 ⟨rfl, hb1⟩; have HB := Lib.hid (Ext.trans (Ext.alloc (Ext.alloc (Below.refl w.heap.size w) _) _) hb1); obtain ⟨x0, x1, x2, x3⟩ := Ty.below (B := w.heap.size) (b := xb) (s := xs) ⟨(by simp [go_sem]), (by simp [go_sem]), (by simp [go_sem]), (by simp [go_sem])⟩ hb1; obtain ⟨y0, y1, y2, y3⟩ := Ty.below (B := w.heap.size + 1) (b := wb) (s := ws) ⟨(by simp [go_sem]), (by simp [go_sem]), (by simp [go_sem]), (by simp [go_sem])⟩ hb1; have tok := Lib.hid True.intro; clear hb1) | (go_at_call 56; have _t := tok; refine (NV.out _).mono ?_; rintro e w1 ⟨rfl, hb1⟩; have HB := Lib.hid (Ext.trans HB.out hb1); obtain ⟨x0, x1, x2, x3⟩ := Ty.below (⟨x0, x1, x2, x3⟩ : Ty _ w.heap.size xb xs) hb1; obtain ⟨y0, y1, y2, y3⟩ := Ty.below (⟨y0, y1, y2, y3⟩ : Ty _ (w.heap.size + 1) wb ws) hb1; clear hb1 tok _t) | (go_at_call 56; refine (NW.out _).mono ?_; rintro e w1 ⟨rfl, hb1⟩; have HB := Lib.hid (Ext.trans HB.out hb1); obtain ⟨x0, x1, x2, x3⟩ := Ty.below (⟨x0, x1, x2, x3⟩ : Ty _ w.heap.size xb xs) hb1; obtain ⟨y0, y1, y2, y3⟩ := Ty.below (⟨y0, y1, y2, y3⟩ : Ty _ (w.heap.size + 1) wb ws) hb1; clear hb1))
          go_ret
          exact ⟨rfl, HB.out⟩
    · have NV : Hid (∀ w : World, Calls Try.prog 56 #[W.ty xb xs] w fun e w' => e = .returned (.bool true) ∧ Below w.heap.size w w') := fun w => valid_ok xb xs hx w
      have NW : Hid (∀ w : World, Calls Try.prog 56 #[W.ty wb ws] w fun e w' => e = .returned (.bool false) ∧ Below w.heap.size w w') := fun w => valid_no wb ws hw w
      clear h hx hw
      go_enter Try.func17, Try.ntmps17
      go_wp2_with (first | (go_at_call 73; refine (alive7 _).mono ?_; rintro e w1 ⟨rfl, hb1⟩; have HB := Lib.hid (Ext.trans (Ext.alloc (Ext.alloc (Below.refl w.heap.size w) _) _) hb1); obtain ⟨x0, x1, x2, x3⟩ := Ty.below (B := w.heap.size) (b := xb) (s := xs) ⟨(by simp [go_sem]), (by simp [go_sem]), (by simp [go_sem]), (by simp [go_sem])⟩ hb1; obtain ⟨y0, y1, y2, y3⟩ := Ty.below (B := w.heap.size + 1) (b := wb) (s := ws) ⟨(by simp [go_sem]), (by simp [go_sem]), (by simp [go_sem]), (by simp [go_sem])⟩ hb1; have tok := Lib.hid True.intro; clear hb1) | (go_at_call 56; have _t := tok; refine (NV.out _).mono ?_; rintro e w1 ⟨rfl, hb1⟩; have HB := Lib.hid (Ext.trans HB.out hb1); obtain ⟨x0, x1, x2, x3⟩ := Ty.below (⟨x0, x1, x2, x3⟩ : Ty _ w.heap.size xb xs) hb1; obtain ⟨y0, y1, y2, y3⟩ := Ty.below (⟨y0, y1, y2, y3⟩ : Ty _ (w.heap.size + 1) wb ws) hb1; clear hb1 tok _t) | (go_at_call 56; refine (NW.out _).mono ?_; rintro e w1 ⟨rfl, hb1⟩; have HB := Lib.hid (Ext.trans HB.out hb1); clear hb1))
      go_ret
      exact ⟨rfl, HB.out⟩
  · have NV : Hid (∀ w : World, Calls Try.prog 56 #[W.ty xb xs] w fun e w' => e = .returned (.bool false) ∧ Below w.heap.size w w') := fun w => valid_no xb xs hx w
    clear h hx
    go_enter Try.func17, Try.ntmps17
    go_wp2_with (first | (go_at_call 73; refine (alive7 _).mono ?_; rintro e w1 ⟨rfl, hb1⟩; have HB := Lib.hid (Ext.trans (Ext.alloc (Ext.alloc (Below.refl w.heap.size w) _) _) hb1); obtain ⟨x0, x1, x2, x3⟩ := Ty.below (B := w.heap.size) (b := xb) (s := xs) ⟨(by simp [go_sem]), (by simp [go_sem]), (by simp [go_sem]), (by simp [go_sem])⟩ hb1; clear hb1) | (go_at_call 56; refine (NV.out _).mono ?_; rintro e w1 ⟨rfl, hb1⟩; have HB := Lib.hid (Ext.trans HB.out hb1); clear hb1))
    go_ret
    exact ⟨rfl, HB.out⟩

theorem binary_six (k a b v : Int) (s : Bool) (hk : W.is6 k) (hv : W.ok v) (h16 : 16 ≤ v) (ha : W.U a) (hb : W.U b) (w : World) :
    Calls Try.prog 75 #[.int .i64 k, .int .u64 a, .int .u64 b, W.ty v s, W.ty v s] w fun e w' => e = .returned (.tuple #[.int .u64 (W.six k v (W.conv v s v a) (W.conv v s v b)), .int .i64 0]) ∧ Below w.heap.size w w' := by
  have c1 := W.cb_self v h16
  have c2 := W.cs_self v s h16
  rcases hk with rfl | rfl | rfl | rfl | rfl | rfl
  · rw [W.six12]; exact binary_add a b v v v s s s hv hv hv c1 c2 ha hb _ _ rfl rfl w
  · rw [W.six13]; exact binary_sub a b v v v s s s hv hv hv c1 c2 ha hb _ _ rfl rfl w
  · rw [W.six9]; exact binary_mul a b v v v s s s hv hv hv c1 c2 ha hb _ _ rfl rfl w
  · rw [W.six22]; exact binary_and a b v v v s s s hv hv hv c1 c2 ha hb _ _ rfl rfl w
  · rw [W.six23]; exact binary_xor a b v v v s s s hv hv hv c1 c2 ha hb _ _ rfl rfl w
  · rw [W.six24]; exact binary_or a b v v v s s s hv hv hv c1 c2 ha hb _ _ rfl rfl w
theorem narrow_all (k : Int) (_ : (Lit.int .i64 k).wf = true) (a : Int) (wa : (Lit.int .u64 a).wf = true) (b : Int) (wb' : (Lit.int .u64 b).wf = true) (xb : Int) (xs : Bool) (_ : (Lit.int .i64 xb).wf = true) (wb : Int) (ws : Bool) (_ : (Lit.int .i64 wb).wf = true) (w : World) :
    Calls Try.prog 17 #[.int .i64 k, .int .u64 a, .int .u64 b, W.ty xb xs, W.ty wb ws] w fun e w' => e = .returned (.bool true) ∧ Below w.heap.size w w' := by
  by_cases h : ¬ W.ok xb ∨ ¬ W.ok wb ∨ xb < 16 ∨ wb < xb ∨ ¬ W.is6 k
  · exact narrow_no k a b xb wb xs ws h w
  · have hx : W.ok xb := Classical.byContradiction fun e => h (.inl e)
    have hw : W.ok wb := Classical.byContradiction fun e => h (.inr (.inl e))
    have h16 : 16 ≤ xb := Int.not_lt.1 fun e => h (.inr (.inr (.inl e)))
    have hle : xb ≤ wb := Int.not_lt.1 fun e => h (.inr (.inr (.inr (.inl e))))
    have hk : W.is6 k := Classical.byContradiction fun e => h (.inr (.inr (.inr (.inr e))))
    have ha := W.U_wf wa; have hb := W.U_wf wb'
    refine narrow_yes k a b xb wb _ _ _ _ xs ws hk h16 hle (fun w => valid_ok xb xs hx w) (fun w => valid_ok wb ws hw w) (fun w => binary_six k a b xb xs hk hx h16 ha hb w)
      (fun w => convert_ok a xb wb xs ws hx hw ha w) (fun w => convert_ok b xb wb xs ws hx hw hb w) (fun w => binary_six k _ _ wb ws hk hw (by omega) (W.conv_U _ _ _ _) (W.conv_U _ _ _ _) w) (fun w => ?_) w
    rw [← W.narrow6 k xb wb a b xs ws hk hx hw hle]
    exact convert_ok _ wb xb ws xs hw hx (W.six_U _ _ _ _ hk (W.conv_U _ _ _ _) (W.conv_U _ _ _ _)) w
end Go.Proofs.Ytgpjhbaehhjdhaa
