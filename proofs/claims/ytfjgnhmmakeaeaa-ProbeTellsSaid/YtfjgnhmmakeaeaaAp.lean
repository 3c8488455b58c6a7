/- 'append(v, u...)' of a slice that reads onto one of the call's own: what of the old is kept. No condition. -/
import Derived.Test.YtfjgnhmmakeaeaaB2
import Derived.Laws.CopyRow
namespace Go.Proofs.Ytfjgnhmmakeaeaa
open Go.RowKit
set_option linter.unusedVariables false
set_option linter.unusedSimpArgs false
set_option maxRecDepth 100000

section
variable {P : Program} (w : World)
/-- It went onto new memory, or behind the old numbers. -/
def ApOk (w w' : World) (e : TypeId) (v : Value) (n m : Nat) (news : List Value) : Prop :=
  Below w.heap.size w w' ∨ ∃ g cap cur, v = .slice (some ⟨g, 0, none⟩) n cap ∧ n + m ≤ cap ∧ w.heap[g]? = some (.cells cur e (0, 0)) ∧ n + news.length ≤ cur.size ∧ w' = w.setRow g (cur.toList.take n ++ news ++ cur.toList.drop (n + news.length)).toArray
theorem run_append_keep (base : Nat) (t ty e : TypeId) (i : TypeInfo) (z : Value) (bytes : Nat) (ht : P.underlying t = some (.slice e)) (hi : P.info? e = some i) (hz : i.zero = some z)
    (hsize : i.size = 1) (hby : i.bytes = bytes) (hzs : z.cells.size = 1)
    (v : Value) (n : Nat) (xs : List Value) (hown : w.ownsRow base e 1 v n xs)
    (u : Value) (m : Nat) (news : List Value) (hr : Rd w 1 u m news) (h1 : ∀ u ∈ news, u.oneCell' = true)
    (h63 : n + m ≤ maxLen) (hbytes : (n + m) * bytes ≤ 140737488355328) (hbase : base ≤ w.heap.size) :
    ∃ v' w', (Builtin.append_ #[t, t] ty #[v, u]).run P w = .ok v' w' ∧ w'.ownsRow base e 1 v' (n + m) (xs ++ news) ∧ w.grownBy w' v.ownBlock ∧ ApOk w w' e v n m news := by
  obtain ⟨hl, hmm, A, c, rfl, hc, hA⟩ := hr
  subst hby
  have hsmall : n + m ≤ 9223372036854775807 := by simp only [maxLen] at h63; omega
  have hlen : (xs ++ news).length = (n + m) * 1 := by rw [List.length_append, hown.1, hl, Nat.add_mul]
  have grown : ∀ (old : Nat), old < n + m → ∀ (row : Option Nat),
      (w.drew.alloc (.cells (xs.toArray ++ news.toArray ++ Builtin.zeroCells z.cells (grownCap w (n + m) old e - (n + m))) e)).ownsRow base e 1
        (.slice (some ⟨w.heap.size, 0, none⟩) (n + m) (grownCap w (n + m) old e)) (n + m) (xs ++ news) ∧
      w.grownBy (w.drew.alloc (.cells (xs.toArray ++ news.toArray ++ Builtin.zeroCells z.cells (grownCap w (n + m) old e - (n + m))) e)) row := by
    intro old ho row
    have hge := grownCap_ge w (n + m) old e
    have hcm : grownCap w (n + m) old e ≤ maxLen := grownCap_le_maxLen w (n + m) old e h63
    refine ⟨⟨hlen, .inr ⟨w.heap.size, _, _, rfl, hbase, heap_alloc_new w.drew _, hge, hcm, ?_, ?_⟩⟩, ⟨rfl, rfl, rfl, by simp, fun k hk _ => Below.heap_alloc w.drew _ k hk⟩⟩
    · have h2 : (Builtin.zeroCells z.cells (grownCap w (n + m) old e - (n + m))).size = grownCap w (n + m) old e - (n + m) := by rw [size_zeroCells, hzs, Nat.mul_one]
      have hx := hown.1
      simp only [Array.size_append, List.size_toArray, h2]
      omega
    · simp only [Array.toList_append, List.append_assoc]
      rw [← List.append_assoc, ← hlen]
      exact List.take_left
  rcases A with _ | ad
  · have hnil : news = [] := by
      rcases news with _ | ⟨x, r⟩
      · rfl
      · obtain ⟨b, off, ha, _⟩ := hA (by simp); cases ha
    subst hnil
    obtain rfl : m = 0 := by simpa using hl.symm
    refine ⟨v, w, ?_, by simpa using hown, ⟨rfl, rfl, rfl, Nat.le_refl _, fun _ _ _ => rfl⟩, .inl (Below.refl _ _)⟩
    rcases hown.2 with ⟨rfl, rfl⟩ | ⟨g, cap, cur, rfl, _, _, hnc, _⟩
    · simp [Builtin.append_, run_underlying ht, sizeOf, typeInfo, hi, Builtin.lenOf, Builtin.firstCells]
    · simp [Builtin.append_, run_underlying ht, sizeOf, typeInfo, hi, Builtin.lenOf, Builtin.firstCells, hnc, storeCells]
  · have hnews : ∀ j u, news[j]? = some u → w.cell? (ad.add j) = some u := fun j u hu => by
      obtain ⟨b, off, ha, hj⟩ := hA (by intro e; subst e; simp at hu)
      injection ha with ha
      subst ha
      rw [addr_add]; exact hj j u hu
    have hl' : news.length = m * i.size := by rw [hsize]; exact hl
    rcases hown.2 with ⟨rfl, rfl⟩ | ⟨g, cap, cur, rfl, hbg, hg, hnc, hcm, hcs, htake⟩
    · have hx : xs = [] := List.eq_nil_of_length_eq_zero (by simpa using hown.1)
      subst hx
      by_cases hm : m = 0
      · subst hm
        have hn : news = [] := List.eq_nil_of_length_eq_zero (by simpa using hl)
        subst hn
        refine ⟨.slice none 0 0, w, ?_, World.ownsRow_nil w base e 1, ⟨rfl, rfl, rfl, Nat.le_refl _, fun _ _ _ => rfl⟩, .inl (Below.refl _ _)⟩
        simp [Builtin.append_, run_underlying ht, sizeOf, typeInfo, hi, Builtin.lenOf, Builtin.firstCells, loadCells, loadCellsFrom]
      · have hr := run_append_nil (P := P) w t ty e i z ht hi hz ad m c news hl' hnews (by omega) (by omega) (by have hb := hbytes; simp only [Nat.zero_add] at hb; omega)
        have hgr := grown 0 (by omega) (Value.ownBlock (.slice none 0 0))
        simp only [Nat.zero_add, List.nil_append, Array.empty_append] at hgr ⊢
        exact ⟨_, _, hr, hgr.1, hgr.2, .inl (Ext.alloc (Ext.drew (Below.refl _ _)) _)⟩
    · by_cases hroom : n + m ≤ cap
      · have hfit : n * i.size + news.length ≤ cur.size := by rw [hsize, hl, hcs]; omega
        have hr := run_append_room (P := P) w t ty e i ht hi g n cap cur hg ad m c news hl' hnews h1 hroom hfit
        rw [hsize, Nat.mul_one] at hr
        rw [hsize, Nat.mul_one] at hfit
        refine ⟨_, _, hr, ⟨hlen, .inr ⟨g, cap, _, rfl, hbg, setRow_heap w g cur _ e _ hg, hroom, hcm, ?_, ?_⟩⟩, ⟨rfl, rfl, rfl, by simp, fun k _ hk => setRow_other w g k _ (fun e => hk (by simp [Value.ownBlock, e]))⟩, .inr ⟨g, cap, cur, rfl, hroom, hg, hfit, rfl⟩⟩
        · simp only [List.size_toArray, List.length_append, List.length_take, List.length_drop, Array.length_toList]
          omega
        · have ht2 : cur.toList.take n = xs := by simpa using htake
          rw [ht2, ← hlen]
          exact List.take_left
      · have holds : ∀ j u, xs[j]? = some u → w.cell? ((⟨g, 0, none⟩ : Addr).add j) = some u := hown.cells (g := g) rfl
        have hr := run_append_grow (P := P) w t ty e i z ht hi hz ⟨g, 0, none⟩ n cap xs (by rw [hsize]; exact hown.1) holds ad m c news hl' hnews (by omega) (by omega) (growslice_fits (by omega) hbytes)
        have hgr := grown cap (by omega) (Value.ownBlock (.slice (some ⟨g, 0, none⟩) n cap))
        exact ⟨_, _, hr, hgr.1, hgr.2, .inl (Ext.alloc (Ext.drew (Below.refl _ _)) _)⟩
end
/-- Onto nothing, with no room: only new memory. -/
theorem ApOk.none {w w' : World} {e : TypeId} {g m : Nat} {news : List Value} (h : ApOk w w' e (.slice (some ⟨g, 0, none⟩) 0 0) 0 m news) (hn : news.length = m) : Below w.heap.size w w' := by
  rcases h with h | ⟨g', cap, cur, hv, hm, hg, hf, rfl⟩
  · exact h
  · simp only [Value.slice.injEq, Option.some.injEq, Addr.mk.injEq, and_true, true_and] at hv
    obtain ⟨rfl, rfl⟩ := hv
    obtain rfl : m = 0 := by omega
    obtain rfl := List.eq_nil_of_length_eq_zero hn
    have : (cur.toList.take 0 ++ [] ++ cur.toList.drop (0 + ([] : List Value).length)).toArray = cur := by simp
    rw [this, setRow_self w g cur e (0, 0) hg]
    exact Below.refl _ _
/-- What is no longer stays. -/
theorem ApOk.own {w w' : World} {e : TypeId} {v : Value} {n m : Nat} {news : List Value} (h : ApOk w w' e v n m news) {base : Nat} {v2 : Value} {n2 : Nat} {xs2 : List Value} (hn : n2 ≤ n) (ho : w.ownsRow base e 1 v2 n2 xs2) : w'.ownsRow base e 1 v2 n2 xs2 := by
  rcases h with h | ⟨g, cap, cur, hv, hm, hg, hf, rfl⟩
  · exact ownsRow_below ho h
  · obtain ⟨hl, h2⟩ := ho
    refine ⟨hl, ?_⟩
    rcases h2 with ⟨rfl, rfl⟩ | ⟨g', cap', cur', rfl, hbb, hg', hc, hmm, hsz, htake⟩
    · exact .inl ⟨rfl, rfl⟩
    · by_cases e' : g' = g
      · subst e'
        rw [hg] at hg'
        simp only [Option.some.injEq, Obj.cells.injEq, and_true] at hg'
        subst hg'
        refine .inr ⟨g', cap', _, rfl, hbb, setRow_heap w g' cur _ e _ hg, hc, hmm, ?_, ?_⟩
        · rw [← hsz]
          simp only [List.size_toArray, List.length_append, List.length_take, List.length_drop, Array.length_toList]
          omega
        · rw [← htake, List.append_assoc]
          show (cur.toList.take n ++ _).take (n2 * 1) = _
          rw [List.take_append_of_le_length (by rw [List.length_take, Array.length_toList]; omega), List.take_take]
          congr 1; omega
      · exact .inr ⟨g', cap', cur', rfl, hbb, (setRow_other w g g' _ e').trans hg', hc, hmm, hsz, htake⟩
theorem ApOk.below {w w' : World} {e : TypeId} {v : Value} {n m : Nat} {news : List Value} {base : Nat} {xs : List Value} (h : ApOk w w' e v n m news) (ho : w.ownsRow base e 1 v n xs) (hb : base ≤ w.heap.size) : Below base w w' := by
  rcases h with h | ⟨g, cap, cur, hv, hm, hg, hf, rfl⟩
  · exact h.mono hb
  · have := own_low ho g (by rw [hv]; rfl)
    exact Below.row (Below.refl _ _) this.1 _
end Go.Proofs.Ytfjgnhmmakeaeaa
