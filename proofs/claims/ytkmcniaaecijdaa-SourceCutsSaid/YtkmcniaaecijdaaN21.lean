/- The reference's Width and Split. -/
import Derived.Test.YtkmcniaaecijdaaN20
import Derived.Test.YtkmcniaaecijdaaWA
namespace Go.Proofs.Ytkmcniaaecijdaa
open Go.RowKit
set_option linter.unusedVariables false
set_option linter.unusedSimpArgs false
set_option maxRecDepth 100000

def W.okB (v : Int) : Bool := decide (v = 8 ∨ v = 16 ∨ v = 32 ∨ v = 64)
theorem W.okB_t {v : Int} (h : W.ok v) : W.okB v = true := by unfold W.okB; simpa [W.ok] using h
theorem W.okB_f {v : Int} (h : ¬ W.ok v) : W.okB v = false := by unfold W.okB; simpa [W.ok] using h
def W.four : List Int := [8, 16, 32, 64]
theorem W.four_ok (k : Nat) (h : k < 4) : W.ok (W.four.getD k 0) := by
  rcases (show k = 0 ∨ k = 1 ∨ k = 2 ∨ k = 3 by omega) with rfl | rfl | rfl | rfl <;> simp [W.four, W.ok]
theorem W.four_no {v : Int} (h : ∀ j, j < 4 → v ≠ W.four.getD j 0) : ¬ W.ok v := by
  have h0 := h 0 (by omega); have h1 := h 1 (by omega); have h2 := h 2 (by omega); have h3 := h 3 (by omega)
  simp [W.four] at h0 h1 h2 h3
  simp [W.ok, h0, h1, h2, h3]
theorem wp_letter3 {P : Program} {c : Code} {Q : Exit → Act → World → Prop} {a : Act} {w : World} {o : Obj} (h : ∀ w1, w1 = w.alloc o → Code.wp P c Q a w1) : Code.wp P c Q a (w.alloc o) := h _ rfl
theorem four_cells {w w1 : World} {T : TypeId} {cs : Array Value} (hw : w1 = w.alloc (.cells cs T)) (h : cs = (W.four.map (Value.int .i64)).toArray) (k : Nat) (hk : k < 4) : w1.cell? ⟨w.heap.size, k, none⟩ = some (.int .i64 (W.four.getD k 0)) := by
  subst h; subst hw
  simp only [World.cell?, heap_alloc_new w]
  have hk' : k < W.four.length := hk
  simp [List.getD_eq_getElem?_getD, List.getElem?_eq_getElem hk']
set_option maxHeartbeats 1000000 in
theorem refWidth_ok (v : Int) (w : World) : Calls Try.prog 54 #[.int .i64 v] w fun e w' => e = .returned (.bool (W.okB v)) ∧ Below w.heap.size w w' := by
  go_enter Try.func54, Try.ntmps54
  go_wp2
  refine wp_letter3 (fun w1 hw1 => ?_)
  have hc : Hid (∀ k, k < 4 → w1.cell? ⟨w.heap.size, k, none⟩ = some (.int .i64 (W.four.getD k 0))) := fun k hk => four_cells hw1 rfl k hk
  have hb : Hid (Below w.heap.size w w1) := by show Below _ _ _; rw [hw1]; exact Ext.alloc (Below.refl _ _) _
  clear hw1
  go_loop [7] (fun i => ∃ k : Nat, k ≤ 4 ∧ i = .int .i64 k ∧ Hid (∀ j, j < k → v ≠ W.four.getD j 0)) (fun i => 4 - (intOf i).toNat)
  case atStart => exact ⟨0, by omega, rfl, fun j hj => by omega⟩
  case round =>
    obtain ⟨k, hk, rfl, hne⟩ := hrel
    by_cases hlt : k < 4
    · obtain ⟨X, hX⟩ : ∃ X, X = W.four.getD k 0 := ⟨_, rfl⟩
      have c1 : w1.cell? ⟨w.heap.size, k, none⟩ = some (.int .i64 X) := by rw [hX]; exact hc.out k hlt
      by_cases hv : v = X
      · have nn : (v == X) = true := by simpa using hv
        have HF : Hid (W.okB v = true) := W.okB_t (by rw [hv, hX]; exact W.four_ok k hlt)
        clear hv hX
        go_wp2
        go_ret
        exact ⟨by rw [HF.out]; rfl, hb.out⟩
      · have nn : (v == X) = false := by simpa using hv
        have HV := Lib.hid hv; have HX := Lib.hid hX
        clear hv hX
        go_wp2
        go_round
        case rel => exact ⟨k + 1, by omega, by go_num, fun j hj => by
          by_cases hj2 : j < k
          · exact hne.out j hj2
          · obtain rfl : j = k := by omega
            rw [← HX.out]; exact HV.out⟩
        case measure => simp [intOf]; omega
    · obtain rfl : k = 4 := by omega
      have HF : Hid (W.okB v = false) := W.okB_f (W.four_no hne.out)
      go_wp2
      go_ret
      exact ⟨by rw [HF.out]; rfl, hb.out⟩
theorem own_moved {w w' : World} {G : Nat → Prop} {base e size n : Nat} {v : Value} {xs : List Value} (h : w.ownsRow base e size v n xs) (hm : Moved G w w') (hG : ∀ k, G k → ∃ z, Io w k z) (hne : e ≠ 96) : w'.ownsRow base e size v n xs := by
  obtain ⟨h1, h2⟩ := h
  refine ⟨h1, ?_⟩
  rcases h2 with h2 | ⟨g, cap, cur, rfl, hb, hg, hr⟩
  · exact .inl h2
  · refine .inr ⟨g, cap, cur, rfl, hb, ?_, hr⟩
    have hlt : g < w.heap.size := by
      rcases Nat.lt_or_ge g w.heap.size with hlt | hge
      · exact hlt
      · rw [Array.getElem?_eq_none hge] at hg; cases hg
    refine (hm.block g hlt (fun hk => ?_)).trans hg
    obtain ⟨z, u, hblk, _⟩ := hG g hk
    unfold Blk at hblk
    rw [hg] at hblk
    injection hblk with hblk
    injection hblk with _ h4 _
    exact hne h4
theorem own_below {w w' : World} {base e size n : Nat} {v : Value} {xs : List Value} (h : w.ownsRow base e size v n xs) (hb : Below w.heap.size w w') : w'.ownsRow base e size v n xs := by
  obtain ⟨h1, h2⟩ := h
  refine ⟨h1, ?_⟩
  rcases h2 with h2 | ⟨g, cap, cur, rfl, hB, hg, hr⟩
  · exact .inl h2
  · refine .inr ⟨g, cap, cur, rfl, hB, ?_, hr⟩
    have hlt : g < w.heap.size := by
      rcases Nat.lt_or_ge g w.heap.size with hlt | hge
      · exact hlt
      · rw [Array.getElem?_eq_none hge] at hg; cases hg
    exact (hb.block g hlt).trans hg
/-- A row of another type grows: numbers stay. -/
theorem Io.row {w w' : World} {g base e size n : Nat} {z : Int} {v : Value} {xs : List Value} (h : Io w g z) (ho : w.ownsRow base e size v n xs) (hg : w.grownBy w' v.ownBlock) (h1 : e ≠ 122) (h2 : e ≠ 96) : Io w' g z :=
  h.grown hg (fun k hk => by
    rcases ho.2 with ⟨rfl, _⟩ | ⟨g', cap, cur, rfl, _, hg', _⟩
    · cases hk
    · injection hk with hk; subst hk; exact ⟨cur, e, _, hg', h1, h2⟩)
end Go.Proofs.Ytkmcniaaecijdaa
