/- Walk of word.chained, AddWords, SubWords. -/
import Derived.Test.YtgpjhbaehhjdhaaW5
import Derived.Test.YtgpjhbaehhjdhaaW7
import Derived.Deep.RegionWith
import Derived.Test.YtgpjhbaehhjdhaaRg
namespace Go.Proofs.Ytgpjhbaehhjdhaa
open Go.RowKit
set_option linter.unusedSimpArgs false
set_option linter.unusedVariables false
set_option maxRecDepth 100000

/-- What one step of a chain tells: the word, the carry, the overflow. -/
structure W.Step where
  R : Int → Int → Bool → Int
  C : Int → Int → Bool → Bool
  V : Int → Int → Bool → Bool
def W.addS : W.Step := ⟨W.sR, W.sC, W.sV⟩
def W.subS : W.Step := ⟨W.dR, W.dC, W.dV⟩
def W.cC (f : W.Step) (xs ys : List Int) : Nat → Bool
  | 0 => false
  | k + 1 => f.C (xs.getD k 0) (ys.getD k 0) (W.cC f xs ys k)
def W.cR (f : W.Step) (xs ys : List Int) (k : Nat) : Int := f.R (xs.getD k 0) (ys.getD k 0) (W.cC f xs ys k)
def W.cV (f : W.Step) (xs ys : List Int) : Nat → Bool
  | 0 => false
  | k + 1 => f.V (xs.getD k 0) (ys.getD k 0) (W.cC f xs ys k)
def W.cN (f : W.Step) (xs ys : List Int) : Nat → Bool
  | 0 => false
  | k + 1 => W.fN (W.cR f xs ys k)
def W.cz (f : W.Step) (xs ys : List Int) : Nat → Bool
  | 0 => false
  | k + 1 => W.fZ (W.cR f xs ys k)
def W.cZ (f : W.Step) (xs ys : List Int) : Nat → Bool
  | 0 => true
  | k + 1 => W.cZ f xs ys k && W.fZ (W.cR f xs ys k)
def W.cO (f : W.Step) (xs ys : List Int) : Nat → List Int
  | 0 => []
  | k + 1 => W.cO f xs ys k ++ [W.cR f xs ys k]
theorem W.cO_len (f : W.Step) (xs ys : List Int) (k : Nat) : (W.cO f xs ys k).length = k := by
  induction k with
  | zero => rfl
  | succ k ih => simp [W.cO, ih]

/-- Flags in a block of the call's own. -/
def Fl (w : World) (b : Nat) (c z n v : Bool) : Prop :=
  w.cell? ⟨b, 0, none⟩ = some (.bool c) ∧ w.cell? ⟨b, 1, none⟩ = some (.bool z) ∧ w.cell? ⟨b, 2, none⟩ = some (.bool n) ∧ w.cell? ⟨b, 3, none⟩ = some (.bool v) ∧
  w.frozen? ⟨b, 0, none⟩ = false ∧ w.frozen? ⟨b, 1, none⟩ = false ∧ w.frozen? ⟨b, 2, none⟩ = false ∧ w.frozen? ⟨b, 3, none⟩ = false
theorem Fl.below {w w' : World} {b : Nat} {c z n v : Bool} (h : Fl w b c z n v) (hb : Below w.heap.size w w') : Fl w' b c z n v := by
  obtain ⟨h0, h1, h2, h3, f0, f1, f2, f3⟩ := h
  have hlt : b < w.heap.size := World.block_lt_of_cell? w ⟨b, 0, none⟩ h0
  obtain ⟨hc, hf⟩ := bcell hb
  refine ⟨?_, ?_, ?_, ?_, ?_, ?_, ?_, ?_⟩ <;> first | (rw [hc b _ hlt]; assumption) | (rw [hf b _ hlt]; assumption)

/-- What the call owns stays owned behind a callee that only makes memory. -/
theorem ownsRow_below {w w' : World} {base e size : Nat} {v : Value} {n : Nat} {xs : List Value} (h : w.ownsRow base e size v n xs) (hb : Below w.heap.size w w') : w'.ownsRow base e size v n xs := by
  obtain ⟨h1, h2⟩ := h
  refine ⟨h1, ?_⟩
  rcases h2 with h2 | ⟨g, cap, cur, hv, hg, hh, r⟩
  · exact Or.inl h2
  · exact Or.inr ⟨g, cap, cur, hv, hg, by rw [hb.block g (lt_of_block hh)]; exact hh, r⟩
theorem Fl.set {w : World} {b : Nat} {c z n v : Bool} (h : Fl w b c z n v) (C Z N V : Bool) :
    Fl ((((w.setCell ⟨b, 0, none⟩ (.bool C)).setCell ⟨b, 1, none⟩ (.bool Z)).setCell ⟨b, 2, none⟩ (.bool N)).setCell ⟨b, 3, none⟩ (.bool V)) b C Z N V := by
  obtain ⟨h0, h1, h2, h3, f0, f1, f2, f3⟩ := h
  refine ⟨?_, ?_, ?_, ?_, ?_, ?_, ?_, ?_⟩ <;> simp [go_sem, h0, h1, h2, h3, f0, f1, f2, f3]
theorem Fl.other {w : World} {b b' : Nat} {c z n v : Bool} (h : Fl w b c z n v) (hne : b ≠ b') (o : Nat) (u : Value) : Fl (w.setCell ⟨b', o, none⟩ u) b c z n v := by
  obtain ⟨h0, h1, h2, h3, f0, f1, f2, f3⟩ := h
  have e : (w.setCell ⟨b', o, none⟩ u).heap[b]? = w.heap[b]? := Below.heap_setCell w ⟨b', o, none⟩ u b hne
  refine ⟨?_, ?_, ?_, ?_, ?_, ?_, ?_, ?_⟩ <;> first | (rw [World.cell?_of_block (w := w) e]; assumption) | (rw [World.frozen?_of_block (w := w) e]; assumption)
theorem Fl.grown {w w' : World} {b : Nat} {c z n v : Bool} {row : Option Nat} (h : Fl w b c z n v) (hg : w.grownBy w' row) (hne : ∀ k, row = some k → b ≠ k) : Fl w' b c z n v := by
  obtain ⟨h0, h1, h2, h3, f0, f1, f2, f3⟩ := h
  have hlt : b < w.heap.size := World.block_lt_of_cell? w ⟨b, 0, none⟩ h0
  have e : w'.heap[b]? = w.heap[b]? := hg.block b hlt (fun k => by have := hne b k.symm; exact this rfl)
  refine ⟨?_, ?_, ?_, ?_, ?_, ?_, ?_, ?_⟩ <;> first | (rw [World.cell?_of_block (w := w) e]; assumption) | (rw [World.frozen?_of_block (w := w) e]; assumption)
/-- What a round leaves. -/
theorem chain_next {w wr w1 w2 : World} {l : Value} {e : TypeId} {xs : List Value} {k : Nat} {c z n v C Z N V : Bool} {o : Obj} (hb : Below w.heap.size w wr) (hb1 : Below wr.heap.size wr w1)
    (hfl : Fl w1 (w.heap.size + 1) c z n v) (hfr : Fl w1 w.heap.size false false false false) (hown : w1.ownsRow (w.heap.size + 2) e 1 l k xs)
    (hg : (((((w1.setCell ⟨w.heap.size + 1, 0, none⟩ (.bool C)).setCell ⟨w.heap.size + 1, 1, none⟩ (.bool Z)).setCell ⟨w.heap.size + 1, 2, none⟩ (.bool N)).setCell ⟨w.heap.size + 1, 3, none⟩ (.bool V)).alloc o).grownBy w2 l.ownBlock) :
    Fl w2 (w.heap.size + 1) C Z N V ∧ Fl w2 w.heap.size false false false false ∧ Below w.heap.size w w2 := by
  have hlt := hown.lt
  have a1 := hfl.set C Z N V
  have a2 := (((hfr.other (by omega) 0 (.bool C) (b' := w.heap.size + 1)).other (by omega) 1 (.bool Z) (b' := w.heap.size + 1)).other (by omega) 2 (.bool N) (b' := w.heap.size + 1)).other (by omega) 3 (.bool V) (b' := w.heap.size + 1)
  refine ⟨(a1.below (Ext.alloc (Below.refl _ _) o)).grown hg (fun j hj => by have := (hlt j hj).1; omega), (a2.below (Ext.alloc (Below.refl _ _) o)).grown hg (fun j hj => by have := (hlt j hj).1; omega), ?_⟩
  have hz := hb.size; have hz1 := hb1.size
  have hw1 : Below w.heap.size w w1 := Ext.trans hb hb1
  have hw2 := ((((hw1.setCell (p := ⟨w.heap.size + 1, 0, none⟩) (by simp) (.bool C)).setCell (p := ⟨w.heap.size + 1, 1, none⟩) (by simp) (.bool Z)).setCell (p := ⟨w.heap.size + 1, 2, none⟩) (by simp) (.bool N)).setCell (p := ⟨w.heap.size + 1, 3, none⟩) (by simp) (.bool V))
  have hw3 := Ext.alloc hw2 o
  exact hw3.grown hg hw3.size (fun j hj => by have := (hlt j hj).1; omega)
theorem own_set4 {w1 : World} {b base : Nat} {e : TypeId} {l : Value} {k : Nat} {xs : List Value} {C Z N V : Value} (h : w1.ownsRow base e 1 l k xs) (hb : b < base) :
    ((((w1.setCell ⟨b, 0, none⟩ C).setCell ⟨b, 1, none⟩ Z).setCell ⟨b, 2, none⟩ N).setCell ⟨b, 3, none⟩ V).ownsRow base e 1 l k xs :=
  ownsRow_setCell_below (ownsRow_setCell_below (ownsRow_setCell_below (ownsRow_setCell_below h (a := ⟨b, 0, none⟩) hb _) (a := ⟨b, 1, none⟩) hb _) (a := ⟨b, 2, none⟩) hb _) (a := ⟨b, 3, none⟩) hb _

theorem own_mono {w : World} {base base' e size : Nat} {v : Value} {n : Nat} {xs : List Value} (hb : base' ≤ base) (h : w.ownsRow base e size v n xs) : w.ownsRow base' e size v n xs := by
  obtain ⟨h1, h2⟩ := h
  refine ⟨h1, ?_⟩
  rcases h2 with h2 | ⟨g, cap, cur, hv, hg, r⟩
  · exact Or.inl h2
  · exact Or.inr ⟨g, cap, cur, hv, by omega, r⟩
theorem ownsRow_drew {w : World} {base e size : Nat} {v : Value} {n : Nat} {xs : List Value} (h : w.ownsRow base e size v n xs) : w.drew.ownsRow base e size v n xs := h
set_option maxHeartbeats 40000000 in
theorem chained_add (f : W.Step) (bx ox cx byy oy cyy n : Nat) (xs ys : List Int) (hn1 : 1 ≤ n) (hn4 : n ≤ 4) (w : World)
    (hs : Hid (∀ (x y : Int) (c : Bool) (w : World), W.I y → Calls Try.prog 26 #[.int .i64 x, .int .i64 y, .bool c] w fun e w' => e = .returned (.tuple #[.int .i64 (f.R x y c), .agg #[.bool (f.C x y c), .bool (W.fZ (f.R x y c)), .bool (W.fN (f.R x y c)), .bool (f.V x y c)]]) ∧ Below w.heap.size w w'))
    (hy : Hid (∀ y ∈ ys, W.I y)) (hl : Hid (ys.length = n))
    (hx : Hid (∀ j, j < n → w.cell? ⟨bx, ox + j, none⟩ = some (.int .i64 (xs.getD j 0)))) (hyc : Hid (∀ j, j < n → w.cell? ⟨byy, oy + j, none⟩ = some (.int .i64 (ys.getD j 0)))) :
    Calls Try.prog 90 #[.slice (some ⟨bx, ox, none⟩) n cx, .slice (some ⟨byy, oy, none⟩) n cyy, .func (.func 26) #[] #[]] w fun e w' => ∃ u, e = .returned (.tuple #[u, .agg #[.bool (W.cC f xs ys n), .bool (W.cZ f xs ys n), .bool (W.cN f xs ys n), .bool (W.cV f xs ys n)], .int .i64 0]) ∧
      w'.ownsRow w.heap.size 3 1 u n ((W.cO f xs ys n).map (Value.int .i64)) ∧ Below w.heap.size w w' := by
  obtain ⟨i0, hi, hz0, hz1, hz2⟩ := info_parts Try.infoI
  have n1 : ¬ (n : Int) < 1 := by omega
  have n4 : ¬ 4 < (n : Int) := by omega
  have nn : ((n : Int) != (n : Int)) = false := by simp
  go_enter Try.func90, Try.ntmps90
  go_wp2
  go_loopw [9, 11, 12, 13, 33] (fun l z j r i wr => ∃ k : Nat, k ≤ n ∧ i = .int .i64 k ∧ z = .bool (W.cZ f xs ys k) ∧ Fl wr (w.heap.size + 1) (W.cC f xs ys k) (W.cz f xs ys k) (W.cN f xs ys k) (W.cV f xs ys k) ∧ Fl wr w.heap.size false false false false ∧
      wr.ownsRow (w.heap.size + 2) 3 1 l k ((W.cO f xs ys k).map (Value.int .i64)) ∧ Below w.heap.size w wr) (fun _ _ _ _ i _ => n - (intOf i).toNat)
  case atStart => 
    refine ⟨0, Nat.zero_le _, rfl, rfl, ?_, ?_, World.ownsRow_nil _ _ _ _, ?_⟩
    · have := own_cell (w := w.alloc (.cells #[.bool false, .bool false, .bool false, .bool false] 32)) (cs := #[.bool false, .bool false, .bool false, .bool false]) (t := 32) (Below.refl _ _)
      have hf := own_free (w := w.alloc (.cells #[.bool false, .bool false, .bool false, .bool false] 32)) (cs := #[.bool false, .bool false, .bool false, .bool false]) (t := 32) (Below.refl _ _)
      simp only [World.size_alloc] at this hf
      exact ⟨this 0, this 1, this 2, this 3, hf 0, hf 1, hf 2, hf 3⟩
    · have hb : Below (w.alloc (.cells #[.bool false, .bool false, .bool false, .bool false] 32)).heap.size (w.alloc (.cells #[.bool false, .bool false, .bool false, .bool false] 32)) ((w.alloc (.cells #[.bool false, .bool false, .bool false, .bool false] 32)).alloc (.cells #[.bool false, .bool false, .bool false, .bool false] 32)) := Ext.alloc (Below.refl _ _) _
      exact ⟨own_cell hb 0, own_cell hb 1, own_cell hb 2, own_cell hb 3, own_free hb 0, own_free hb 1, own_free hb 2, own_free hb 3⟩
    · exact Ext.alloc (Ext.alloc (Below.refl _ _) _) _
  case round =>
    obtain ⟨k, hk, rfl, rfl, hfl, hfr, hown, hb⟩ := hrel
    by_cases hlt : k < n
    · have ex := Lib.hid (hx.out k hlt); have ey := Lib.hid (hyc.out k hlt)
      obtain ⟨X, hX⟩ : ∃ X, X = xs.getD k 0 := ⟨_, rfl⟩
      obtain ⟨Y, hY⟩ : ∃ Y, Y = ys.getD k 0 := ⟨_, rfl⟩
      obtain ⟨c, hc⟩ : ∃ c, c = W.cC f xs ys k := ⟨_, rfl⟩
      have cx : wr.cell? ⟨bx, ox + k, none⟩ = some (.int .i64 X) := by rw [hX, ← ex.out]; exact (bcell hb).1 _ _ (World.block_lt_of_cell? w ⟨bx, ox + k, none⟩ ex.out)
      have cy : wr.cell? ⟨byy, oy + k, none⟩ = some (.int .i64 Y) := by rw [hY, ← ey.out]; exact (bcell hb).1 _ _ (World.block_lt_of_cell? w ⟨byy, oy + k, none⟩ ey.out)
      obtain ⟨f0, f1, f2, f3, g0, g1, g2, g3⟩ := hfl
      rw [← hc] at f0
      have iY : W.I Y := by rw [hY]; exact hy.out _ (by simp [List.getD_eq_getElem?_getD, List.getElem?_eq_getElem (show k < ys.length by rw [hl.out]; exact hlt)])
      have HX := Lib.hid hX; have HY := Lib.hid hY; have HC := Lib.hid hc; clear hX hY hc
      have hz : w.heap.size + 1 < wr.heap.size := World.block_lt_of_cell? wr ⟨w.heap.size + 1, 0, none⟩ f0
      have HB := Lib.hid hb; have HR := Lib.hid hfr; have HO := Lib.hid hown; clear hb hfr hown
      obtain ⟨R, hR⟩ : ∃ R, R = f.R X Y c := ⟨_, rfl⟩
      obtain ⟨C, hC⟩ : ∃ C, C = f.C X Y c := ⟨_, rfl⟩
      obtain ⟨V, hV⟩ : ∃ V, V = f.V X Y c := ⟨_, rfl⟩
      obtain ⟨Z, hZ⟩ : ∃ Z, Z = W.fZ R := ⟨_, rfl⟩
      obtain ⟨N, hN⟩ : ∃ N, N = W.fN R := ⟨_, rfl⟩
      have HS : Hid (∀ w : World, Calls Try.prog 26 #[.int .i64 X, .int .i64 Y, .bool c] w fun e w' => e = .returned (.tuple #[.int .i64 R, .agg #[.bool C, .bool Z, .bool N, .bool V]]) ∧ Below w.heap.size w w') := by
        intro w; rw [hZ, hN, hC, hV, hR]; exact hs.out X Y c w iY
      obtain ⟨zz, hzz⟩ : ∃ zz, zz = W.cZ f xs ys k := ⟨_, rfl⟩
      rw [← hzz]
      have HZZ := Lib.hid hzz; clear hzz
      have HR2 := Lib.hid hR; have HC2 := Lib.hid hC; have HV2 := Lib.hid hV; have HZ2 := Lib.hid hZ; have HN2 := Lib.hid hN
      clear hR hC hV hZ hN
      cases zz
      all_goals
       go_wp2_with fail
       refine Rg.wp_region [] (by kernel_rfl) (by kernel_rfl) ?_
       repeat (first | (refine Rg.wpL_nil ?_) | (refine Rg.wpL_skip rfl ?_; simp only [Act.put, List.setIfInBounds_toArray, List.set_cons_zero, List.set_cons_succ]) | (refine Rg.wpL_q rfl rfl (fun K hK => ?_); go_big_quiet_op; refine hK _ ?_; clear hK K) | (refine Rg.wpL_w rfl rfl (fun K hK => ?_); go_wp2_with (first | fail | (go_at_call 26; refine (HS.out _).mono ?_; rintro e w1 ⟨rfl, hb0⟩; have hb1 := Ext.undrew hb0; obtain ⟨p0, p1, p2, p3, q0, q1, q2, q3⟩ := Fl.below (w := wr) ⟨f0, f1, f2, f3, g0, g1, g2, g3⟩ hb1; have HB1 := Lib.hid hb1; have z1 : w.heap.size + 1 < w1.heap.size := (by have := hb1.size; omega); clear hb1 hb0; have HP := Lib.hid (show Fl w1 (w.heap.size + 1) c (W.cz f xs ys k) (W.cN f xs ys k) (W.cV f xs ys k) from ⟨p0, p1, p2, p3, q0, q1, q2, q3⟩); have HO2 := Lib.hid (ownsRow_below HO.out HB1.out); have HR3 := Lib.hid (HR.out.below HB1.out)))))
       go_wp2_with (first | (at_builtin; refine wpList_append_own _ rfl _ _ 23 rfl (w.heap.size + 2) 3 i0 (.int .i64 0) 1 8 Try.underlying23 hi hz0 hz1 hz2 rfl (by decide) _ _ _ rfl ((own_set4 HO2.out (by omega)).alloc _) ⟨w1.heap.size, 0, none⟩ 1 1 [.int .i64 R] rfl rfl (one_new (by simp) _ _) (one_cell rfl) (by unfold maxLen; omega) (by omega) (by simp; omega) ?_; intro v' w2 hown' hgrow _; obtain ⟨t1, t2, t3⟩ := chain_next HB.out HB1.out HP.out HR3.out HO2.out hgrow; have T1 := Lib.hid t1; have T2 := Lib.hid t2; have T3 := Lib.hid t3; have T4 := Lib.hid hown'; clear t1 t2 t3 hown' hgrow))
       go_roundw
       case rel => exact ⟨k + 1, by omega, by go_num, W.bool (by rw [W.cZ, ← HZZ.out]; unfold W.cR; rw [← HX.out, ← HY.out, ← HC.out, ← HR2.out, ← HZ2.out]; rfl), by rw [W.cC, W.cz, W.cN, W.cV]; unfold W.cR; rw [← HX.out, ← HY.out, ← HC.out, ← HR2.out, ← HZ2.out, ← HN2.out, ← HC2.out, ← HV2.out]; exact T1.out, T2.out, by rw [W.cO]; unfold W.cR; rw [← HX.out, ← HY.out, ← HC.out, ← HR2.out]; simpa using T4.out, T3.out⟩
       case measure => simp [intOf]; omega
    · obtain rfl : k = n := by omega
      have HB := Lib.hid hb; have HO := Lib.hid hown
      obtain ⟨f0, f1, f2, f3, g0, g1, g2, g3⟩ := hfl
      obtain ⟨p0, p1, p2, p3, q0, q1, q2, q3⟩ := hfr
      clear hb hown
      have hz : w.heap.size + 1 < wr.heap.size := World.block_lt_of_cell? wr ⟨w.heap.size + 1, 0, none⟩ f0
      go_wp2
      go_region
      go_wp2
      refine bodyPost_ret (v := .tuple #[u9, .agg #[.bool (W.cC f xs ys k), .bool (W.cZ f xs ys k), .bool (W.cN f xs ys k), .bool (W.cV f xs ys k)], .int .i64 0]) (by simp [results, Try.results90, go_sem, f0, f1, f2, f3, g0, g1, g2, g3, p0, p1, p2, p3, q0, q1, q2, q3]) rfl ⟨u9, rfl, ?_, ?_⟩
      · exact own_mono (base := w.heap.size + 2) (by omega) (ownsRow_drew (own_set4 (w1 := wr.setCell ⟨w.heap.size + 1, 1, none⟩ (.bool (W.cZ f xs ys k))) (ownsRow_setCell_below HO.out (a := ⟨w.heap.size + 1, 1, none⟩) (by simp) _) (by omega)))
      · exact (((((HB.out.setCell (p := ⟨w.heap.size + 1, 1, none⟩) (by simp) _).setCell (p := ⟨w.heap.size, 0, none⟩) (Nat.le_refl _) _).setCell (p := ⟨w.heap.size, 1, none⟩) (Nat.le_refl _) _).setCell (p := ⟨w.heap.size, 2, none⟩) (Nat.le_refl _) _).setCell (p := ⟨w.heap.size, 3, none⟩) (Nat.le_refl _) _).drew
set_option maxHeartbeats 40000000 in
theorem chained_sub (f : W.Step) (bx ox cx byy oy cyy n : Nat) (xs ys : List Int) (hn1 : 1 ≤ n) (hn4 : n ≤ 4) (w : World)
    (hs : Hid (∀ (x y : Int) (c : Bool) (w : World), W.I y → Calls Try.prog 28 #[.int .i64 x, .int .i64 y, .bool c] w fun e w' => e = .returned (.tuple #[.int .i64 (f.R x y c), .agg #[.bool (f.C x y c), .bool (W.fZ (f.R x y c)), .bool (W.fN (f.R x y c)), .bool (f.V x y c)]]) ∧ Below w.heap.size w w'))
    (hy : Hid (∀ y ∈ ys, W.I y)) (hl : Hid (ys.length = n))
    (hx : Hid (∀ j, j < n → w.cell? ⟨bx, ox + j, none⟩ = some (.int .i64 (xs.getD j 0)))) (hyc : Hid (∀ j, j < n → w.cell? ⟨byy, oy + j, none⟩ = some (.int .i64 (ys.getD j 0)))) :
    Calls Try.prog 90 #[.slice (some ⟨bx, ox, none⟩) n cx, .slice (some ⟨byy, oy, none⟩) n cyy, .func (.func 28) #[] #[]] w fun e w' => ∃ u, e = .returned (.tuple #[u, .agg #[.bool (W.cC f xs ys n), .bool (W.cZ f xs ys n), .bool (W.cN f xs ys n), .bool (W.cV f xs ys n)], .int .i64 0]) ∧
      w'.ownsRow w.heap.size 3 1 u n ((W.cO f xs ys n).map (Value.int .i64)) ∧ Below w.heap.size w w' := by
  obtain ⟨i0, hi, hz0, hz1, hz2⟩ := info_parts Try.infoI
  have n1 : ¬ (n : Int) < 1 := by omega
  have n4 : ¬ 4 < (n : Int) := by omega
  have nn : ((n : Int) != (n : Int)) = false := by simp
  go_enter Try.func90, Try.ntmps90
  go_wp2
  go_loopw [9, 11, 12, 13, 33] (fun l z j r i wr => ∃ k : Nat, k ≤ n ∧ i = .int .i64 k ∧ z = .bool (W.cZ f xs ys k) ∧ Fl wr (w.heap.size + 1) (W.cC f xs ys k) (W.cz f xs ys k) (W.cN f xs ys k) (W.cV f xs ys k) ∧ Fl wr w.heap.size false false false false ∧
      wr.ownsRow (w.heap.size + 2) 3 1 l k ((W.cO f xs ys k).map (Value.int .i64)) ∧ Below w.heap.size w wr) (fun _ _ _ _ i _ => n - (intOf i).toNat)
  case atStart => 
    refine ⟨0, Nat.zero_le _, rfl, rfl, ?_, ?_, World.ownsRow_nil _ _ _ _, ?_⟩
    · have := own_cell (w := w.alloc (.cells #[.bool false, .bool false, .bool false, .bool false] 32)) (cs := #[.bool false, .bool false, .bool false, .bool false]) (t := 32) (Below.refl _ _)
      have hf := own_free (w := w.alloc (.cells #[.bool false, .bool false, .bool false, .bool false] 32)) (cs := #[.bool false, .bool false, .bool false, .bool false]) (t := 32) (Below.refl _ _)
      simp only [World.size_alloc] at this hf
      exact ⟨this 0, this 1, this 2, this 3, hf 0, hf 1, hf 2, hf 3⟩
    · have hb : Below (w.alloc (.cells #[.bool false, .bool false, .bool false, .bool false] 32)).heap.size (w.alloc (.cells #[.bool false, .bool false, .bool false, .bool false] 32)) ((w.alloc (.cells #[.bool false, .bool false, .bool false, .bool false] 32)).alloc (.cells #[.bool false, .bool false, .bool false, .bool false] 32)) := Ext.alloc (Below.refl _ _) _
      exact ⟨own_cell hb 0, own_cell hb 1, own_cell hb 2, own_cell hb 3, own_free hb 0, own_free hb 1, own_free hb 2, own_free hb 3⟩
    · exact Ext.alloc (Ext.alloc (Below.refl _ _) _) _
  case round =>
    obtain ⟨k, hk, rfl, rfl, hfl, hfr, hown, hb⟩ := hrel
    by_cases hlt : k < n
    · have ex := Lib.hid (hx.out k hlt); have ey := Lib.hid (hyc.out k hlt)
      obtain ⟨X, hX⟩ : ∃ X, X = xs.getD k 0 := ⟨_, rfl⟩
      obtain ⟨Y, hY⟩ : ∃ Y, Y = ys.getD k 0 := ⟨_, rfl⟩
      obtain ⟨c, hc⟩ : ∃ c, c = W.cC f xs ys k := ⟨_, rfl⟩
      have cx : wr.cell? ⟨bx, ox + k, none⟩ = some (.int .i64 X) := by rw [hX, ← ex.out]; exact (bcell hb).1 _ _ (World.block_lt_of_cell? w ⟨bx, ox + k, none⟩ ex.out)
      have cy : wr.cell? ⟨byy, oy + k, none⟩ = some (.int .i64 Y) := by rw [hY, ← ey.out]; exact (bcell hb).1 _ _ (World.block_lt_of_cell? w ⟨byy, oy + k, none⟩ ey.out)
      obtain ⟨f0, f1, f2, f3, g0, g1, g2, g3⟩ := hfl
      rw [← hc] at f0
      have iY : W.I Y := by rw [hY]; exact hy.out _ (by simp [List.getD_eq_getElem?_getD, List.getElem?_eq_getElem (show k < ys.length by rw [hl.out]; exact hlt)])
      have HX := Lib.hid hX; have HY := Lib.hid hY; have HC := Lib.hid hc; clear hX hY hc
      have hz : w.heap.size + 1 < wr.heap.size := World.block_lt_of_cell? wr ⟨w.heap.size + 1, 0, none⟩ f0
      have HB := Lib.hid hb; have HR := Lib.hid hfr; have HO := Lib.hid hown; clear hb hfr hown
      obtain ⟨R, hR⟩ : ∃ R, R = f.R X Y c := ⟨_, rfl⟩
      obtain ⟨C, hC⟩ : ∃ C, C = f.C X Y c := ⟨_, rfl⟩
      obtain ⟨V, hV⟩ : ∃ V, V = f.V X Y c := ⟨_, rfl⟩
      obtain ⟨Z, hZ⟩ : ∃ Z, Z = W.fZ R := ⟨_, rfl⟩
      obtain ⟨N, hN⟩ : ∃ N, N = W.fN R := ⟨_, rfl⟩
      have HS : Hid (∀ w : World, Calls Try.prog 28 #[.int .i64 X, .int .i64 Y, .bool c] w fun e w' => e = .returned (.tuple #[.int .i64 R, .agg #[.bool C, .bool Z, .bool N, .bool V]]) ∧ Below w.heap.size w w') := by
        intro w; rw [hZ, hN, hC, hV, hR]; exact hs.out X Y c w iY
      obtain ⟨zz, hzz⟩ : ∃ zz, zz = W.cZ f xs ys k := ⟨_, rfl⟩
      rw [← hzz]
      have HZZ := Lib.hid hzz; clear hzz
      have HR2 := Lib.hid hR; have HC2 := Lib.hid hC; have HV2 := Lib.hid hV; have HZ2 := Lib.hid hZ; have HN2 := Lib.hid hN
      clear hR hC hV hZ hN
      cases zz
      all_goals
       go_wp2_with fail
       refine Rg.wp_region [] (by kernel_rfl) (by kernel_rfl) ?_
       repeat (first | (refine Rg.wpL_nil ?_) | (refine Rg.wpL_skip rfl ?_; simp only [Act.put, List.setIfInBounds_toArray, List.set_cons_zero, List.set_cons_succ]) | (refine Rg.wpL_q rfl rfl (fun K hK => ?_); go_big_quiet_op; refine hK _ ?_; clear hK K) | (refine Rg.wpL_w rfl rfl (fun K hK => ?_); go_wp2_with (first | fail | (go_at_call 28; refine (HS.out _).mono ?_; rintro e w1 ⟨rfl, hb0⟩; have hb1 := Ext.undrew hb0; obtain ⟨p0, p1, p2, p3, q0, q1, q2, q3⟩ := Fl.below (w := wr) ⟨f0, f1, f2, f3, g0, g1, g2, g3⟩ hb1; have HB1 := Lib.hid hb1; have z1 : w.heap.size + 1 < w1.heap.size := (by have := hb1.size; omega); clear hb1 hb0; have HP := Lib.hid (show Fl w1 (w.heap.size + 1) c (W.cz f xs ys k) (W.cN f xs ys k) (W.cV f xs ys k) from ⟨p0, p1, p2, p3, q0, q1, q2, q3⟩); have HO2 := Lib.hid (ownsRow_below HO.out HB1.out); have HR3 := Lib.hid (HR.out.below HB1.out)))))
       go_wp2_with (first | (at_builtin; refine wpList_append_own _ rfl _ _ 23 rfl (w.heap.size + 2) 3 i0 (.int .i64 0) 1 8 Try.underlying23 hi hz0 hz1 hz2 rfl (by decide) _ _ _ rfl ((own_set4 HO2.out (by omega)).alloc _) ⟨w1.heap.size, 0, none⟩ 1 1 [.int .i64 R] rfl rfl (one_new (by simp) _ _) (one_cell rfl) (by unfold maxLen; omega) (by omega) (by simp; omega) ?_; intro v' w2 hown' hgrow _; obtain ⟨t1, t2, t3⟩ := chain_next HB.out HB1.out HP.out HR3.out HO2.out hgrow; have T1 := Lib.hid t1; have T2 := Lib.hid t2; have T3 := Lib.hid t3; have T4 := Lib.hid hown'; clear t1 t2 t3 hown' hgrow))
       go_roundw
       case rel => exact ⟨k + 1, by omega, by go_num, W.bool (by rw [W.cZ, ← HZZ.out]; unfold W.cR; rw [← HX.out, ← HY.out, ← HC.out, ← HR2.out, ← HZ2.out]; rfl), by rw [W.cC, W.cz, W.cN, W.cV]; unfold W.cR; rw [← HX.out, ← HY.out, ← HC.out, ← HR2.out, ← HZ2.out, ← HN2.out, ← HC2.out, ← HV2.out]; exact T1.out, T2.out, by rw [W.cO]; unfold W.cR; rw [← HX.out, ← HY.out, ← HC.out, ← HR2.out]; simpa using T4.out, T3.out⟩
       case measure => simp [intOf]; omega
    · obtain rfl : k = n := by omega
      have HB := Lib.hid hb; have HO := Lib.hid hown
      obtain ⟨f0, f1, f2, f3, g0, g1, g2, g3⟩ := hfl
      obtain ⟨p0, p1, p2, p3, q0, q1, q2, q3⟩ := hfr
      clear hb hown
      have hz : w.heap.size + 1 < wr.heap.size := World.block_lt_of_cell? wr ⟨w.heap.size + 1, 0, none⟩ f0
      go_wp2
      go_region
      go_wp2
      refine bodyPost_ret (v := .tuple #[u9, .agg #[.bool (W.cC f xs ys k), .bool (W.cZ f xs ys k), .bool (W.cN f xs ys k), .bool (W.cV f xs ys k)], .int .i64 0]) (by simp [results, Try.results90, go_sem, f0, f1, f2, f3, g0, g1, g2, g3, p0, p1, p2, p3, q0, q1, q2, q3]) rfl ⟨u9, rfl, ?_, ?_⟩
      · exact own_mono (base := w.heap.size + 2) (by omega) (ownsRow_drew (own_set4 (w1 := wr.setCell ⟨w.heap.size + 1, 1, none⟩ (.bool (W.cZ f xs ys k))) (ownsRow_setCell_below HO.out (a := ⟨w.heap.size + 1, 1, none⟩) (by simp) _) (by omega)))
      · exact (((((HB.out.setCell (p := ⟨w.heap.size + 1, 1, none⟩) (by simp) _).setCell (p := ⟨w.heap.size, 0, none⟩) (Nat.le_refl _) _).setCell (p := ⟨w.heap.size, 1, none⟩) (Nat.le_refl _) _).setCell (p := ⟨w.heap.size, 2, none⟩) (Nat.le_refl _) _).setCell (p := ⟨w.heap.size, 3, none⟩) (Nat.le_refl _) _).drew

theorem W.I_wfs {xs : List Int} (h : ∀ x ∈ xs, (Lit.int .i64 x).wf = true) : ∀ x ∈ xs, W.I x := fun x hx => W.I_wf (h x hx)

set_option maxHeartbeats 1000000 in
theorem chained_many (F : Nat) (a b : Option Addr) (n m ca cb : Nat) (hn : n ≤ maxLen) (hm : m ≤ maxLen) (h : n ≠ m ∨ n < 1 ∨ 4 < n) (w : World) :
    Calls Try.prog 90 #[.slice a n ca, .slice b m cb, .func (.func F) #[] #[]] w fun e w' => e = .returned (.tuple #[.slice none 0 0, .agg #[.bool false, .bool false, .bool false, .bool false], .int .i64 5]) ∧ Below w.heap.size w w' := by
  unfold maxLen at hn hm
  by_cases h1 : n = m
  · subst h1
    have nn : ((n : Int) != (n : Int)) = false := by simp
    by_cases h2 : n < 1
    · go_enter Try.func90, Try.ntmps90
      go_wp2
      exact bodyPost_ret (v := .tuple #[.slice none 0 0, .agg #[.bool false, .bool false, .bool false, .bool false], .int .i64 5]) (by simp [results, Try.results90, go_sem]) rfl ⟨rfl, by repeat (first | exact Below.refl _ _ | refine Ext.alloc ?_ _)⟩
    · have h3 : 4 < n := by omega
      go_enter Try.func90, Try.ntmps90
      go_wp2
      exact bodyPost_ret (v := .tuple #[.slice none 0 0, .agg #[.bool false, .bool false, .bool false, .bool false], .int .i64 5]) (by simp [results, Try.results90, go_sem]) rfl ⟨rfl, by repeat (first | exact Below.refl _ _ | refine Ext.alloc ?_ _)⟩
  · have nn : ((n : Int) != (m : Int)) = true := by simp; omega
    go_enter Try.func90, Try.ntmps90
    go_wp2
    exact bodyPost_ret (v := .tuple #[.slice none 0 0, .agg #[.bool false, .bool false, .bool false, .bool false], .int .i64 5]) (by simp [results, Try.results90, go_sem]) rfl ⟨rfl, by repeat (first | exact Below.refl _ _ | refine Ext.alloc ?_ _)⟩
/-- The chain of two slices that read as numbers. -/
def W.chE (n m : Nat) : Int := if n ≠ m ∨ n < 1 ∨ 4 < n then 5 else 0

set_option maxHeartbeats 1000000 in
theorem addw_at (u v : Value) (C Z N V : Bool) (E : Int) (n : Nat) (zs : List Value) (w0 : World) (hc : Hid (∀ w : World, Below w0.heap.size w0 w → Calls Try.prog 90 #[u, v, .func (.func 26) #[] #[]] w fun e w' => ∃ l, e = .returned (.tuple #[l, .agg #[.bool C, .bool Z, .bool N, .bool V], .int .i64 E]) ∧ w'.ownsRow w.heap.size 3 1 l n zs ∧ Below w.heap.size w w')) :
    Calls Try.prog 30 #[u, v] w0 fun e w0' => ∃ l, e = .returned (.tuple #[l, .agg #[.bool C, .bool Z, .bool N, .bool V], .int .i64 E]) ∧ w0'.ownsRow w0.heap.size 3 1 l n zs ∧ Below w0.heap.size w0 w0' := by
  go_enter Try.func30, Try.ntmps30
  go_wp2_with (first | (go_at_call 90; refine (hc.out _ (Ext.alloc (Below.refl _ _) _)).mono ?_; rintro e w1 ⟨l, rfl, hown, hb1⟩; obtain ⟨z1, k0, k1, k2, k3, g0, g1, g2, g3⟩ := own4 hb1; have HB1 := Lib.hid hb1; have HO := Lib.hid hown; clear hb1 hown))
  refine bodyPost_ret (v := .tuple #[l, .agg #[.bool C, .bool Z, .bool N, .bool V], .int .i64 E]) (by simp [results, Try.results30, go_sem, k0, k1, k2, k3, g0, g1, g2, g3]) rfl ⟨l, rfl, ?_, ?_⟩
  · exact own_mono (base := w0.heap.size + 1) (by omega) (own_set4 (own_mono (by simp) HO.out) (by omega))
  · exact (((((Ext.trans (Ext.alloc (Below.refl _ _) _) HB1.out).setCell (p := ⟨w0.heap.size, 0, none⟩) (Nat.le_refl _) _).setCell (p := ⟨w0.heap.size, 1, none⟩) (Nat.le_refl _) _).setCell (p := ⟨w0.heap.size, 2, none⟩) (Nat.le_refl _) _).setCell (p := ⟨w0.heap.size, 3, none⟩) (Nat.le_refl _) _)
/-- THE CONTRACT: both as numbers, 1 to 4 words each. -/
theorem addw_ok (u v : Value) (n : Nat) (xs ys : List Int) (w0 w : World) (hu : Rd w0 1 u n (xs.map (Value.int .i64))) (hv : Rd w0 1 v n (ys.map (Value.int .i64))) (hy : ∀ y ∈ ys, W.I y) (h1 : 1 ≤ n) (h4 : n ≤ 4) (hb : Below w0.heap.size w0 w) :
    Calls Try.prog 30 #[u, v] w fun e w' => ∃ l, e = .returned (.tuple #[l, .agg #[.bool (W.cC W.addS xs ys n), .bool (W.cZ W.addS xs ys n), .bool (W.cN W.addS xs ys n), .bool (W.cV W.addS xs ys n)], .int .i64 0]) ∧ w'.ownsRow w.heap.size 3 1 l n ((W.cO W.addS xs ys n).map (Value.int .i64)) ∧ Below w.heap.size w w' := by
  obtain ⟨lx, mx, a, ca, rfl, hca, ra⟩ := (hu.below hb).ints
  obtain ⟨ly, my, b, cb, rfl, hcb, rb⟩ := (hv.below hb).ints
  obtain ⟨bx, ox, rfl, cx⟩ := ra (by omega)
  obtain ⟨byy, oy, rfl, cy⟩ := rb (by omega)
  have lx' : ∀ j, j < n → bx < w.heap.size := fun j hj => World.block_lt_of_cell? w ⟨bx, ox + j, none⟩ (cx j hj)
  have ly' : ∀ j, j < n → byy < w.heap.size := fun j hj => World.block_lt_of_cell? w ⟨byy, oy + j, none⟩ (cy j hj)
  have key : ∀ w1 : World, Below w.heap.size w w1 → Calls Try.prog 90 #[.slice (some ⟨bx, ox, none⟩) n ca, .slice (some ⟨byy, oy, none⟩) n cb, .func (.func 26) #[] #[]] w1 fun e w' => ∃ l, e = .returned (.tuple #[l, .agg #[.bool (W.cC W.addS xs ys n), .bool (W.cZ W.addS xs ys n), .bool (W.cN W.addS xs ys n), .bool (W.cV W.addS xs ys n)], .int .i64 0]) ∧ w'.ownsRow w1.heap.size 3 1 l n ((W.cO W.addS xs ys n).map (Value.int .i64)) ∧ Below w1.heap.size w1 w' := fun w1 hb1 =>
    chained_add W.addS bx ox ca byy oy cb n xs ys h1 h4 w1 (fun x y c w hy => sum_ok x y c w) hy ly (fun j hj => ((bcell hb1).1 _ _ (lx' j hj)).trans (cx j hj)) (fun j hj => ((bcell hb1).1 _ _ (ly' j hj)).trans (cy j hj))
  exact addw_at (.slice (some ⟨bx, ox, none⟩) n ca) (.slice (some ⟨byy, oy, none⟩) n cb) _ _ _ _ 0 n _ w (fun w1 h => key w1 h)

set_option maxHeartbeats 1000000 in
theorem subw_at (u v : Value) (C Z N V : Bool) (E : Int) (n : Nat) (zs : List Value) (w0 : World) (hc : Hid (∀ w : World, Below w0.heap.size w0 w → Calls Try.prog 90 #[u, v, .func (.func 28) #[] #[]] w fun e w' => ∃ l, e = .returned (.tuple #[l, .agg #[.bool C, .bool Z, .bool N, .bool V], .int .i64 E]) ∧ w'.ownsRow w.heap.size 3 1 l n zs ∧ Below w.heap.size w w')) :
    Calls Try.prog 32 #[u, v] w0 fun e w0' => ∃ l, e = .returned (.tuple #[l, .agg #[.bool C, .bool Z, .bool N, .bool V], .int .i64 E]) ∧ w0'.ownsRow w0.heap.size 3 1 l n zs ∧ Below w0.heap.size w0 w0' := by
  go_enter Try.func32, Try.ntmps32
  go_wp2_with (first | (go_at_call 90; refine (hc.out _ (Ext.alloc (Below.refl _ _) _)).mono ?_; rintro e w1 ⟨l, rfl, hown, hb1⟩; obtain ⟨z1, k0, k1, k2, k3, g0, g1, g2, g3⟩ := own4 hb1; have HB1 := Lib.hid hb1; have HO := Lib.hid hown; clear hb1 hown))
  refine bodyPost_ret (v := .tuple #[l, .agg #[.bool C, .bool Z, .bool N, .bool V], .int .i64 E]) (by simp [results, Try.results32, go_sem, k0, k1, k2, k3, g0, g1, g2, g3]) rfl ⟨l, rfl, ?_, ?_⟩
  · exact own_mono (base := w0.heap.size + 1) (by omega) (own_set4 (own_mono (by simp) HO.out) (by omega))
  · exact (((((Ext.trans (Ext.alloc (Below.refl _ _) _) HB1.out).setCell (p := ⟨w0.heap.size, 0, none⟩) (Nat.le_refl _) _).setCell (p := ⟨w0.heap.size, 1, none⟩) (Nat.le_refl _) _).setCell (p := ⟨w0.heap.size, 2, none⟩) (Nat.le_refl _) _).setCell (p := ⟨w0.heap.size, 3, none⟩) (Nat.le_refl _) _)
/-- THE CONTRACT: both as numbers, 1 to 4 words each. -/
theorem subw_ok (u v : Value) (n : Nat) (xs ys : List Int) (w0 w : World) (hu : Rd w0 1 u n (xs.map (Value.int .i64))) (hv : Rd w0 1 v n (ys.map (Value.int .i64))) (hy : ∀ y ∈ ys, W.I y) (h1 : 1 ≤ n) (h4 : n ≤ 4) (hb : Below w0.heap.size w0 w) :
    Calls Try.prog 32 #[u, v] w fun e w' => ∃ l, e = .returned (.tuple #[l, .agg #[.bool (W.cC W.subS xs ys n), .bool (W.cZ W.subS xs ys n), .bool (W.cN W.subS xs ys n), .bool (W.cV W.subS xs ys n)], .int .i64 0]) ∧ w'.ownsRow w.heap.size 3 1 l n ((W.cO W.subS xs ys n).map (Value.int .i64)) ∧ Below w.heap.size w w' := by
  obtain ⟨lx, mx, a, ca, rfl, hca, ra⟩ := (hu.below hb).ints
  obtain ⟨ly, my, b, cb, rfl, hcb, rb⟩ := (hv.below hb).ints
  obtain ⟨bx, ox, rfl, cx⟩ := ra (by omega)
  obtain ⟨byy, oy, rfl, cy⟩ := rb (by omega)
  have lx' : ∀ j, j < n → bx < w.heap.size := fun j hj => World.block_lt_of_cell? w ⟨bx, ox + j, none⟩ (cx j hj)
  have ly' : ∀ j, j < n → byy < w.heap.size := fun j hj => World.block_lt_of_cell? w ⟨byy, oy + j, none⟩ (cy j hj)
  have key : ∀ w1 : World, Below w.heap.size w w1 → Calls Try.prog 90 #[.slice (some ⟨bx, ox, none⟩) n ca, .slice (some ⟨byy, oy, none⟩) n cb, .func (.func 28) #[] #[]] w1 fun e w' => ∃ l, e = .returned (.tuple #[l, .agg #[.bool (W.cC W.subS xs ys n), .bool (W.cZ W.subS xs ys n), .bool (W.cN W.subS xs ys n), .bool (W.cV W.subS xs ys n)], .int .i64 0]) ∧ w'.ownsRow w1.heap.size 3 1 l n ((W.cO W.subS xs ys n).map (Value.int .i64)) ∧ Below w1.heap.size w1 w' := fun w1 hb1 =>
    chained_sub W.subS bx ox ca byy oy cb n xs ys h1 h4 w1 (fun x y c w hy => diff_ok x y c hy w) hy ly (fun j hj => ((bcell hb1).1 _ _ (lx' j hj)).trans (cx j hj)) (fun j hj => ((bcell hb1).1 _ _ (ly' j hj)).trans (cy j hj))
  exact subw_at (.slice (some ⟨bx, ox, none⟩) n ca) (.slice (some ⟨byy, oy, none⟩) n cb) _ _ _ _ 0 n _ w (fun w1 h => key w1 h)
end Go.Proofs.Ytgpjhbaehhjdhaa
