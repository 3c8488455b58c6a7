/- 'append(s, make([]int, k)...)' to a slice of the call's own. -/
import Derived.Test.YtfjgnhmmakeaeaaE23
import Derived.Lib.AppendZerosOnto
namespace Go.Proofs.Ytfjgnhmmakeaeaa
open Go.RowKit
set_option linter.unusedVariables false
set_option linter.unusedSimpArgs false
set_option maxRecDepth 100000

theorem zeroCells_int (m : Nat) : (Builtin.zeroCells (Value.int .i64 0).cells m).toList = List.replicate m (.int .i64 0) := by
  unfold Builtin.zeroCells
  rw [show (Value.int .i64 0).cells = #[.int .i64 0] from rfl]
  simp [Nat.mod_one, List.map_const']
theorem own_append_zeros (w : World) (base ty : Nat) (v : Value) (n : Nat) (xs : List Value) (hown : w.ownsRow base 3 1 v n xs) (m : Nat) (h63 : n + m ≤ 65536) (hbase : base ≤ w.heap.size) :
    ∃ v' w', (Builtin.append_ #[22, 3] ty #[v, .int .i64 (m : Int)]).run Try.prog w = .ok v' w' ∧ w'.ownsRow base 3 1 v' (n + m) (xs ++ List.replicate m (.int .i64 0)) ∧ w.grownBy w' v.ownBlock ∧ w'.ownsRow base 3 1 v n xs := by
  obtain ⟨i, hi, hz, hsize, hby⟩ := info_parts Try.infoI64
  have ht := Try.underlying22
  have hw0 : IntKind.i64.wrap 0 = 0 := rfl
  have htn := Try.underlying3
  have hmx : n + m ≤ maxLen := by unfold maxLen; omega
  have hlen : (xs ++ List.replicate m (Value.int .i64 0)).length = n + m := by have := hown.1; simp; omega
  have grown : ∀ (old : Nat), old < n + m → ∀ (row : Option Nat) (zs : Array Value), zs.size = grownCap w (n + m) old 3 - (n + m) →
      (w.drew.alloc (.cells (xs.toArray ++ Builtin.zeroCells (Value.int .i64 0).cells m ++ zs) 3)).ownsRow base 3 1
        (.slice (some ⟨w.heap.size, 0, none⟩) (n + m) (grownCap w (n + m) old 3)) (n + m) (xs ++ List.replicate m (Value.int .i64 0)) ∧
      w.grownBy (w.drew.alloc (.cells (xs.toArray ++ Builtin.zeroCells (Value.int .i64 0).cells m ++ zs) 3)) row := by
    intro old ho row zs hzs
    have hge := grownCap_ge w (n + m) old 3
    have hcm : grownCap w (n + m) old 3 ≤ maxLen := grownCap_le_maxLen w (n + m) old 3 hmx
    refine ⟨⟨by rw [hlen]; omega, .inr ⟨w.heap.size, _, _, rfl, hbase, heap_alloc_new w.drew _, hge, hcm, ?_, ?_⟩⟩, ⟨rfl, rfl, rfl, by simp, fun k hk _ => Below.heap_alloc w.drew _ k hk⟩⟩
    · have h1 := hown.1
      have h2 : (Builtin.zeroCells (Value.int .i64 0).cells m).size = m := by rw [size_zeroCells]; exact Nat.mul_one m
      simp only [Array.size_append, List.size_toArray, h2, hzs]
      omega
    · simp only [Array.toList_append, zeroCells_int]
      rw [Nat.mul_one, ← hlen]
      exact List.take_left
  rcases hown.2 with ⟨rfl, rfl⟩ | ⟨g, cap, cur, rfl, hbg, hg, hnc, hcm, hcs, htake⟩
  · have hx : xs = [] := List.eq_nil_of_length_eq_zero (by simpa using hown.1)
    subst hx
    by_cases hm : m = 0
    · subst hm
      refine ⟨.slice none 0 0, w, ?_, World.ownsRow_nil w base _ 1, ⟨rfl, rfl, rfl, Nat.le_refl _, fun _ _ _ => rfl⟩, hown⟩
      simp [Builtin.append_, run_underlying ht, run_underlying htn, sizeOf, typeInfo, hi, hsize, hby, asInt, asIntOf, hw0]
    · have hr := Lib.run_append_nil_zeros (P := Try.prog) w 22 3 ty 3 i (.int .i64 0) .i64 .i64 ht htn hi hz m (by omega) (by omega) (by omega) (by rw [hby]; omega)
      have hgr := grown 0 (by omega) (Value.ownBlock (.slice none 0 0)) (Builtin.zeroCells (Value.int .i64 0).cells (grownCap w m 0 3 - m)) (by rw [size_zeroCells]; simp [Value.cells])
      simp only [Nat.zero_add, List.nil_append, Array.empty_append] at hgr ⊢
      exact ⟨_, _, hr, hgr.1, hgr.2, ownsRow_below hown (Ext.alloc (Ext.drew (Below.refl _ _)) _)⟩
  · by_cases hroom : n + m ≤ cap
    · have hst := run_storeCells_at Try.prog g n 3 (List.replicate m (Value.int .i64 0)) 0 cur w hg (by simp; omega) (by intro u hu; rw [List.eq_of_mem_replicate hu]; rfl)
      simp only [Nat.add_zero] at hst
      have hw : IntKind.i64.wrap (m : Int) = m := by rw [IntKind.wrap_i64]; omega
      have hneg : ¬ ((m : Int) < 0) := by omega
      have h48i : ¬ (281474976710656 < (m : Int) * 8) := by omega
      have hr : (Builtin.append_ #[22, 3] ty #[.slice (some ⟨g, 0, none⟩) n cap, .int .i64 (m : Int)]).run Try.prog w =
          .ok (.slice (some ⟨g, 0, none⟩) (n + m) cap) (w.setRow g (cur.toList.take n ++ List.replicate m (Value.int .i64 0) ++ cur.toList.drop (n + (List.replicate m (Value.int .i64 0)).length)).toArray) := by
        by_cases hm : m = 0
        · subst hm
          have e : (cur.toList.take n ++ List.replicate 0 (Value.int .i64 0) ++ cur.toList.drop (n + (List.replicate 0 (Value.int .i64 0)).length)).toArray = cur := by simp
          have hnc2 : n ≤ cap := by omega
          simp only [List.replicate_zero, storeCells] at hst ⊢
          simp [Builtin.append_, run_underlying ht, run_underlying htn, sizeOf, typeInfo, hi, hsize, hby, asInt, asIntOf, hw0, hnc2, storeCells]
          simpa [storeCells] using hst
        · simp [Builtin.append_, run_underlying ht, run_underlying htn, sizeOf, typeInfo, zeroValue, hi, hz, hsize, hby, asInt, asIntOf, hw, hneg, h48i, hm, hroom, zeroCells_int, Addr.add_lit, hst]
      refine ⟨_, _, hr, ⟨by rw [hlen]; omega, .inr ⟨g, cap, _, rfl, hbg, setRow_heap w g cur _ _ _ hg, hroom, hcm, ?_, ?_⟩⟩, ⟨rfl, rfl, rfl, by simp, fun k _ hk => setRow_other w g k _ (fun e => hk (by simp [Value.ownBlock, e]))⟩, ⟨hown.1, .inr ⟨g, cap, _, rfl, hbg, setRow_heap w g cur _ _ _ hg, hnc, hcm, ?_, ?_⟩⟩⟩
      · simp only [List.size_toArray, List.length_append, List.length_take, List.length_drop, Array.length_toList, List.length_replicate]
        omega
      · have ht2 : cur.toList.take n = xs := by simpa using htake
        rw [ht2, Nat.mul_one, ← hlen]
        exact List.take_left
      · simp only [List.size_toArray, List.length_append, List.length_take, List.length_drop, Array.length_toList, List.length_replicate]
        omega
      · have ht2 : cur.toList.take n = xs := by simpa using htake
        have hxl : xs.length = n := by have := hown.1; omega
        rw [ht2, Nat.mul_one, List.append_assoc]
        show (xs ++ _).take n = xs
        rw [← hxl]; exact List.take_left
    · have holds : ∀ j u, xs[j]? = some u → w.cell? ((⟨g, 0, none⟩ : Addr).add j) = some u := hown.cells (g := g) rfl
      have hf := run_firstCells_some (P := Try.prog) w.drew i.size n ⟨g, 0, none⟩ n cap xs (by rw [hsize]; exact hown.1) (by simpa using holds)
      have hr := Lib.run_append_grow_zeros (P := Try.prog) w 22 3 ty 3 i (.int .i64 0) .i64 .i64 ht htn hi hz (some ⟨g, 0, none⟩) n cap xs hf m (by omega) (by omega) (by omega) (by omega) (by rw [hby]; omega) (growslice_fits (by omega) (by rw [hby]; omega))
      have hgr := grown cap (by omega) (Value.ownBlock (.slice (some ⟨g, 0, none⟩) n cap)) (Builtin.zeroCells (Value.int .i64 0).cells (grownCap w (n + m) cap 3 - (n + m))) (by rw [size_zeroCells]; simp [Value.cells])
      exact ⟨_, _, hr, hgr.1, hgr.2, ownsRow_below hown (Ext.alloc (Ext.drew (Below.refl _ _)) _)⟩
end Go.Proofs.Ytfjgnhmmakeaeaa
