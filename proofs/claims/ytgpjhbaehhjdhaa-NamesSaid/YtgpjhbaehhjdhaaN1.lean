/- Names: its walk. No condition. -/
import Derived.Test.YtgpjhbaehhjdhaaSm
import Derived.Test.YtgpjhbaehhjdhaaWp
import Derived.Test.YtgpjhbaehhjdhaaRg
import Derived.Test.YtgpjhbaehhjdhaaChecked
import Derived.Deep.DeepCutAuto
import Derived.WalkLawsBesides
namespace Go.Proofs.Ytgpjhbaehhjdhaa
open Go.RowKit
set_option linter.unusedVariables false
set_option linter.unusedSimpArgs false
set_option maxRecDepth 100000

theorem wp_letter {P : Program} {c : Code} {Q : Exit → Act → World → Prop} {a : Act} {w : World} {o : Obj} (h : ∀ w1, w1 = w.alloc o → Code.wp P c Q a w1) : Code.wp P c Q a (w.alloc o) := h _ rfl
theorem wpList_letter {P : Program} {ops : Array Oper} {l : List Oper} {Q : Exit → Act → World → Prop} {a : Act} {w : World} {o : Obj} (h : ∀ w1, w1 = w.alloc o → wpList P ops Q l a w1) : wpList P ops Q l a (w.alloc o) := h _ rfl
theorem wpList_run {P : Program} {ops : Array Oper} {rest : List Oper} {o : Oper} {Q : Exit → Act → World → Prop} {a : Act} {w w' : World} {v : Value} (hg : o.guard = none) (hr : (execOp a.eval o).run P w = .ok (.value v) w') (h : wpList P ops Q rest (a.put o.dst v) w') : wpList P ops Q (o :: rest) a w :=
  wpList_plain hg fun K hK => by
    show o.upon P a K Q ((execOp a.eval o).run P w)
    rw [hr]
    exact hK _ _ h
theorem nm_cells {w w1 : World} {T : TypeId} {cs : Array Value} (l : List Int) (hw : w1 = w.alloc (.cells cs T)) (h : cs = (l.map (Value.int .i64)).toArray) (k : Nat) (hk : k < l.length) : w1.cell? ⟨w.heap.size, k, none⟩ = some (.int .i64 (l.getD k 0)) := by
  subst h; subst hw
  simp only [World.cell?, heap_alloc_new w]
  simp [List.getD_eq_getElem?_getD, List.getElem?_eq_getElem hk]
theorem nm_below {w w1 : World} {o : Obj} (hw : w1 = w.alloc o) : Below w.heap.size w w1 := by subst hw; exact (Below.refl _ _).alloc (Nat.le_refl _) o
def N12 : List Int := [0, 1, 2, 3, 4, 5, 6, 7, 8, 9, 10, 11]
theorem n12 (k : Nat) (h : k < 12) : N12.getD k 0 = k := by
  have : ∀ k, k < 12 → N12.getD k 0 = k := by decide
  exact this k h
def N103 : List Int := [0, 1, 2, 3, 4, 5, 6, 7, 8, 9, 10, 11, 12, 13, 14, 15, 16, 17, 18, 19, 20, 21, 22, 23, 24, 25, 26, 27, 28, 29, 30, 31, 32, 1, 2, 3, 4, 5, 65536, 1000000, 65536, 65536, 1048576, 40000, 32, 400, 1, 2, 3, 1, 2, 3, 4, 5, 6, 7, 8, 9, 10, 11, 12, 13, 14, 15, 16, 17, 18, 19, 20, 21, 22, 23, 24, 25, 26, 1, 2, 3, 4, 5, 6, 7, 8, 9, 10, 11, 65536, 400, 100, 20000, 8, 100, 8000, 200, 60, 200000, 1, 2, 3, 32, 16, 4000, 500]
set_option maxHeartbeats 1000000 in
theorem names_walk (w : World) : Calls Try.prog 20 #[] w fun e w' => e = .returned (.bool true) ∧ Below w.heap.size w w' := by
  go_enter Try.func20, Try.ntmps20
  go_wp2
  refine wp_letter (fun w1 hw1 => ?_)
  have hc : Hid (∀ k, k < 12 → w1.cell? ⟨w.heap.size, k, none⟩ = some (.int .i64 (N12.getD k 0))) := fun k hk => nm_cells N12 hw1 rfl k hk
  have hb := Lib.hid (nm_below hw1)
  clear hw1
  go_loop [0, 10] (fun r i => ∃ k : Nat, k ≤ 12 ∧ i = .int .i64 k ∧ r = .bool false) (fun _ i => 12 - (intOf i).toNat)
  case atStart => exact ⟨0, by omega, rfl, rfl⟩
  case round =>
    obtain ⟨k, hk, rfl, rfl⟩ := hrel
    by_cases hlt : k < 12
    · have c1 : w1.cell? ⟨w.heap.size, k, none⟩ = some (.int .i64 k) := by rw [hc.out k hlt, n12 k hlt]
      have nn : ((k : Int) != (k : Int)) = false := by simp
      go_wp2
      go_round
      case rel => exact ⟨k + 1, by omega, by go_num, rfl⟩
      case measure => simp [intOf]; omega
    · obtain rfl : k = 12 := by omega
      obtain ⟨c2, hc2⟩ : ∃ c, c = (N103.map (Value.int .i64)).toArray := ⟨_, rfl⟩
      have H1 : ∀ (a : Act) (w : World), a.eval = a.eval → True := fun _ _ _ => trivial
      go_upto_region 8 with (fail)
      refine wp_region_lit ?_
      refine wpList_run (v := .slice (some ⟨w1.heap.size, 0, none⟩) 103 103) (w' := w1.alloc (.cells c2 3)) rfl (by rw [hc2]; kernel_rfl) ?_
      refine wpList_letter (fun w2 hw2 => ?_)
      have hx : Hid (∀ k, k < 103 → w2.cell? ⟨w1.heap.size, k, none⟩ = some (.int .i64 (N103.getD k 0))) := fun k hk => nm_cells N103 hw2 hc2 k (by rw [show N103.length = 103 from rfl]; exact hk)
      have hb2 := Lib.hid (nm_below hw2)
      clear hw2
      go_upto_region 9 with (fail)
      refine wp_region_lit ?_
      refine wpList_run (v := .slice (some ⟨w2.heap.size, 0, none⟩) 103 103) (w' := w2.alloc (.cells c2 3)) rfl (by rw [hc2]; kernel_rfl) ?_
      refine wpList_letter (fun w3 hw3 => ?_)
      have hy : Hid (∀ k, k < 103 → w3.cell? ⟨w2.heap.size, k, none⟩ = some (.int .i64 (N103.getD k 0))) := fun k hk => nm_cells N103 hw3 hc2 k (by rw [show N103.length = 103 from rfl]; exact hk)
      have hb3 := Lib.hid (nm_below hw3)
      have hlt1 : w1.heap.size < w2.heap.size := World.block_lt_of_cell? _ _ (hx.out 0 (by omega))
      have hx3 : Hid (∀ k, k < 103 → w3.cell? ⟨w1.heap.size, k, none⟩ = some (.int .i64 (N103.getD k 0))) := fun k hk => by rw [(bcell hb3.out).1 _ _ hlt1]; exact hx.out k hk
      clear hw3 hx
      have HC := Lib.hid hc2; clear hc2
      go_wp2
      go_loopw [0, 6, 23] (fun r _ i wr => ∃ k : Nat, k ≤ 103 ∧ i = .int .i64 k ∧ r = .bool false ∧ Hid (∃ m, wr = w3.drewN m)) (fun _ _ i _ => 103 - (intOf i).toNat)
      case atStart => exact ⟨0, by omega, rfl, rfl, ⟨0, rfl⟩⟩
      case round =>
        obtain ⟨k, hk, rfl, rfl, hm⟩ := hrel
        obtain ⟨m, rfl⟩ := hm.out
        clear hm
        by_cases hlt : k < 103
        · obtain ⟨X, hX⟩ : ∃ X, X = N103.getD k 0 := ⟨_, rfl⟩
          have d1 : w3.cell? ⟨w1.heap.size, k, none⟩ = some (.int .i64 X) := by rw [hX]; exact hx3.out k hlt
          have d2 : w3.cell? ⟨w2.heap.size, k, none⟩ = some (.int .i64 X) := by rw [hX]; exact hy.out k hlt
          have HX := Lib.hid hX; clear hX
          have nn : (X != X) = false := by simp
          go_wp2
          refine Rg.wp_region [] (by kernel_rfl) (by kernel_rfl) ?_
          repeat (first | (refine Rg.wpL_nil ?_) | (refine Rg.wpL_skip rfl ?_; simp only [Act.put, List.setIfInBounds_toArray, List.set_cons_zero, List.set_cons_succ]) | (refine Rg.wpL_q rfl rfl (fun K hK => ?_); go_big_quiet_op; refine hK _ ?_; clear hK K) | (refine Rg.wpL_w rfl rfl (fun K hK => ?_); go_wp2_with (first | fail | fail)))
          go_wp2
          go_roundw
          case rel => exact ⟨k + 1, by omega, by go_num, rfl, ⟨m + 1, rfl⟩⟩
          case measure => simp [intOf]; omega
        · obtain rfl : k = 103 := by omega
          go_wp2
          go_ret
          exact ⟨rfl, below_drewN (Ext.trans (Ext.trans hb.out hb2.out) hb3.out) m⟩
end Go.Proofs.Ytgpjhbaehhjdhaa
