/- Rows of different types lie apart; rows written at one place. No condition. -/
import Derived.Test.YtfjgnhmmakeaeaaE45
namespace Go.Proofs.Ytfjgnhmmakeaeaa
open Go.RowKit
set_option linter.unusedVariables false
set_option linter.unusedSimpArgs false
set_option maxRecDepth 100000
theorem state_cell {w : World} {g : Nat} {cs : Array Value} (h : Blk w g 27 cs) (k : Nat) {v : Value} (hv : cs[k]? = some v) : w.cell? ⟨g, k, none⟩ = some v ∧ w.frozen? ⟨g, k, none⟩ = false := ⟨by rw [h.cell]; exact hv, h.frozen k⟩
/-- Rows of different types lie apart. -/
theorem own_apart {w : World} {B B' e e' s s' n n' : Nat} {v v' : Value} {xs xs' : List Value} (h : w.ownsRow B e s v n xs) (h' : w.ownsRow B' e' s' v' n' xs') (hne : e ≠ e') : v.ownBlock = none ∨ v.ownBlock ≠ v'.ownBlock := by
  rcases h.2 with ⟨rfl, _⟩ | ⟨g, cap, cur, rfl, _, hg, _⟩
  · exact .inl rfl
  · refine .inr ?_
    rcases h'.2 with ⟨rfl, _⟩ | ⟨g', cap', cur', rfl, _, hg', _⟩
    · intro e; cases e
    · intro e
      have e : g = g' := by simpa [Value.ownBlock] using e
      subst e
      rw [hg] at hg'
      injection hg' with hg'
      injection hg' with _ h2 _
      exact hne h2
theorem ne_int : (43 : Nat) ≠ 3 := by decide
theorem ne_int' : (3 : Nat) ≠ 43 := by decide
theorem low_le {w w' : World} {row : Option Nat} {B0 : Nat} {a : World} (h : Below B0 a w) (hB : B0 ≤ w.heap.size) (hg : w.grownBy w' row) (hr : ∀ k, row = some k → B0 ≤ k ∧ k < w.heap.size) : Below B0 a w' := Below.trans h (grown_below hg hB hr)
/-- An own row that has elements: where it lies. -/
theorem own_open {w : World} {B e s n : Nat} {v : Value} {xs : List Value} (h : w.ownsRow B e s v n xs) (hx : 0 < xs.length) : ∃ g cap cur, v = .slice (some ⟨g, 0, none⟩) n cap ∧ B ≤ g ∧ Blk w g e cur ∧ n ≤ cap ∧ cap ≤ maxLen ∧ cur.size = cap * s ∧ cur.toList.take (n * s) = xs := by
  rcases h.2 with ⟨rfl, hz⟩ | ⟨g, cap, cur, rfl, hbg, hg, hnc, hcm, hcs, htake⟩
  · rw [h.1, hz] at hx; omega
  · exact ⟨g, cap, cur, rfl, hbg, hg, hnc, hcm, hcs, htake⟩
theorem own_of_blk {w : World} {B e s n cap g : Nat} {cur : Array Value} (hB : B ≤ g) (hb : Blk w g e cur) (hnc : n ≤ cap) (hcm : cap ≤ maxLen) (hcs : cur.size = cap * s) : w.ownsRow B e s (.slice (some ⟨g, 0, none⟩) n cap) n (cur.toList.take (n * s)) :=
  ⟨by rw [List.length_take, Array.length_toList, hcs]; exact Nat.min_eq_left (Nat.mul_le_mul_right _ hnc), .inr ⟨g, cap, cur, rfl, hB, hb, hnc, hcm, hcs, rfl⟩⟩
/-- One cell of it written. -/
theorem own_set {w : World} {B e s n cap g : Nat} {xs : List Value} (h : w.ownsRow B e s (.slice (some ⟨g, 0, none⟩) n cap) n xs) (j : Nat) (u : Value) : (w.setCell ⟨g, j, none⟩ u).ownsRow B e s (.slice (some ⟨g, 0, none⟩) n cap) n (xs.set j u) := by
  refine ⟨by rw [List.length_set]; exact h.1, ?_⟩
  rcases h.2 with ⟨hv, _⟩ | ⟨g', cap', cur, hv, hbg, hg, hnc, hcm, hcs, htake⟩
  · cases hv
  · injection hv with e1 e2 e3
    injection e1 with e1
    injection e1 with e1
    subst e1; subst e3
    refine .inr ⟨g, cap, cur.setIfInBounds j u, rfl, hbg, Blk.set_ hg j u, hnc, hcm, by simpa using hcs, ?_⟩
    rw [Array.toList_setIfInBounds, List.take_set, htake]
/-- A cell written elsewhere. -/
theorem own_elsewhere {w : World} {B e s n : Nat} {v : Value} {xs : List Value} (h : w.ownsRow B e s v n xs) {p : Addr} (hp : v.ownBlock ≠ some p.block) (u : Value) : (w.setCell p u).ownsRow B e s v n xs := by
  refine ⟨h.1, ?_⟩
  rcases h.2 with ⟨rfl, hz⟩ | ⟨g, cap, cur, rfl, hbg, hg, hnc, hcm, hcs, htake⟩
  · exact .inl ⟨rfl, hz⟩
  · refine .inr ⟨g, cap, cur, rfl, hbg, (Below.heap_setCell w p u g (fun e => hp (by rw [← e]; rfl))).trans hg, hnc, hcm, hcs, htake⟩
/-- A row that was kept apart stays so. -/
theorem apart_new {v v' u : Value} {N : Nat} (h : u.ownBlock = none ∨ u.ownBlock ≠ v.ownBlock) (hat : v'.ownBlock = v.ownBlock ∨ v'.ownBlock = some N) (hu : ∀ k, u.ownBlock = some k → k < N) : u.ownBlock = none ∨ u.ownBlock ≠ v'.ownBlock := by
  rcases h with h | h
  · exact .inl h
  · rcases hat with e | e
    · exact .inr (by rw [e]; exact h)
    · cases hb : u.ownBlock with
      | none => exact .inl rfl
      | some k => exact .inr (by rw [e]; intro q; injection q with q; have := hu k hb; omega)
/-- An append on one row leaves the other. -/
theorem kept_alloc {w w' : World} {o : Obj} {B B' e e' s s' n n' : Nat} {v v' : Value} {xs xs' : List Value} (h : w.ownsRow B e s v n xs) (h' : w.ownsRow B' e' s' v' n' xs') (hne : e ≠ e') (hg : (w.alloc o).grownBy w' v'.ownBlock) : w'.ownsRow B e s v n xs := (h.alloc o).kept hg (own_apart (h.alloc o) (h'.alloc o) hne)
theorem low_alloc {a w w' : World} {o : Obj} {B e s n : Nat} {v : Value} {xs : List Value} (h : Below B a w) (hB : B ≤ w.heap.size) (own : w.ownsRow B e s v n xs) (hg : (w.alloc o).grownBy w' v.ownBlock) : Below B a w' ∧ B ≤ w'.heap.size :=
  ⟨low_le (Below.trans h (Below.alloc (Below.refl _ _) hB o)) (Nat.le_trans hB (Nat.le_of_lt (lt_alloc _ _))) hg (own_low (own.alloc o)), Nat.le_trans hB (Nat.le_trans (Nat.le_of_lt (lt_alloc _ _)) hg.size)⟩
theorem blk_alloc {w w' : World} {o : Obj} {B g m : Nat} {lv : Value} {t : TypeId} {cs : Array Value} {xs : List Value} (h : Blk w g t cs) (own : w.ownsRow B 43 4 lv m xs) (hne : (43 : Nat) ≠ t) (hg : (w.alloc o).grownBy w' lv.ownBlock) : Blk w' g t cs := grown_keep (h.alloc o) (own.alloc o) hne hg
theorem apart_symm {u v : Value} (h : u.ownBlock = none ∨ u.ownBlock ≠ v.ownBlock) : v.ownBlock = none ∨ v.ownBlock ≠ u.ownBlock := by
  rcases h with h | h
  · cases hb : v.ownBlock with
    | none => exact .inl rfl
    | some k => exact .inr (by rw [h]; intro e; cases e)
  · exact .inr (fun e => h e.symm)
theorem kept_alloc2 {w w' : World} {o : Obj} {B e s n : Nat} {v v' : Value} {xs : List Value} (h : w.ownsRow B e s v n xs) (ap : v.ownBlock = none ∨ v.ownBlock ≠ v'.ownBlock) (hg : (w.alloc o).grownBy w' v'.ownBlock) : w'.ownsRow B e s v n xs := (h.alloc o).kept hg ap
theorem apart_alloc {w : World} {o : Obj} {B e s n : Nat} {u v v' : Value} {xs : List Value} (h : w.ownsRow B e s u n xs) (ap : u.ownBlock = none ∨ u.ownBlock ≠ v.ownBlock) (hat : v'.ownBlock = v.ownBlock ∨ v'.ownBlock = some (w.alloc o).heap.size) : u.ownBlock = none ∨ u.ownBlock ≠ v'.ownBlock := apart_new ap hat (fun k hk => (own_low (h.alloc o) k hk).2)
theorem low_alloc2 {a w w' : World} {o : Obj} {B C e s n : Nat} {v : Value} {xs : List Value} (h : Below B a w) (hB : B ≤ C) (hC : C ≤ w.heap.size) (own : w.ownsRow C e s v n xs) (hg : (w.alloc o).grownBy w' v.ownBlock) : Below B a w' ∧ C ≤ w'.heap.size :=
  ⟨(low_alloc h (Nat.le_trans hB hC) (own_mono hB own) hg).1, Nat.le_trans hC (Nat.le_trans (Nat.le_of_lt (lt_alloc _ _)) hg.size)⟩
end Go.Proofs.Ytfjgnhmmakeaeaa
