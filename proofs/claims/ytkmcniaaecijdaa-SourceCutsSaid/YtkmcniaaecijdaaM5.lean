/- The walk of the reference's Name. -/
import Derived.Test.YtkmcniaaecijdaaPt2
import Derived.Test.YtkmcniaaecijdaaM2
import Derived.Test.YtkmcniaaecijdaaTA
import Derived.Handy
namespace Go.Proofs.Ytkmcniaaecijdaa
open Go.RowKit Go.Maps
set_option linter.unusedVariables false
set_option linter.unusedSimpArgs false
set_option maxRecDepth 100000

theorem lawI : Keyed Try.prog 3 := int_keyed Try.underlying3
/-- A string as an element of a map. -/
def W.stElem : Value → Option (DataW Unit × List MemPlace)
  | .string s => some (.lit (.string s.data.toList), [])
  | _ => none
theorem W.stElem_mk (l : List UInt8) : W.stElem (.string ⟨l.toArray⟩) = some (.lit (.string l), []) := rfl
theorem W.stElem_inv {v : Value} {l : List UInt8} {ps : List MemPlace} (h : W.stElem v = some (.lit (.string l), ps)) : v = .string ⟨l.toArray⟩ := by
  unfold W.stElem at h
  split at h
  · rename_i s
    simp only [Option.some.injEq, Prod.mk.injEq, DataW.lit.injEq, Lit.string.injEq] at h
    rw [← h.1]
  · cases h
def W.digs : DataW Unit := ((((DataW.map []).put (.int .i64 8) (.lit (.string [56]))).put (.int .i64 16) (.lit (.string [49, 54]))).put (.int .i64 32) (.lit (.string [51, 50]))).put (.int .i64 64) (.lit (.string [54, 52]))
theorem digs_put {w : World} {B n : Nat} {D : DataW Unit} (h : w.ownsMap Try.prog 3 W.stElem B n D) (hn : n < maxLen) (k : Int) (hk : (Lit.int .i64 k).wf = true) (l : List UInt8) :
    ∃ w', (Instr.mapUpdate 104 (.map (some B)) (.int .i64 k) (.string ⟨l.toArray⟩)).run Try.prog w = .ok () w' ∧ w'.ownsMap Try.prog 3 W.stElem B (n + 1) (D.put (.int .i64 k) (.lit (.string l))) ∧ w.grownBy w' (some B) :=
  h.update lawI Try.underlying104 hn (keyOf_int_mk Try.underlying3 hk) (W.stElem_mk l)
def W.dig (b : Int) : List UInt8 := if b = 8 then [56] else if b = 16 then [49, 54] else if b = 32 then [51, 50] else [54, 52]
theorem W.digs_at (b : Int) (hb : W.ok b) (z : DataW Unit) : W.digs.atKey (.int .i64 b) z = .lit (.string (W.dig b)) := by
  rcases hb with rfl | rfl | rfl | rfl <;> rfl
theorem zeroS (w : World) : (zeroValue 9).run Try.prog w = .ok (.string ⟨#[]⟩) w := by kernel_rfl
theorem look_digs (w : World) (B : Nat) (h : w.ownsMap Try.prog 3 W.stElem B 4 W.digs) (b : Int) (hb : W.ok b) :
    (Instr.lookup 104 (.map (some B)) (.int .i64 b) false).run Try.prog w = .ok (.string ⟨(W.dig b).toArray⟩) w := by
  have hw : (Lit.int .i64 b).wf = true := by rcases hb with rfl | rfl | rfl | rfl <;> decide
  obtain ⟨v, ps, hrun, hv⟩ := h.lookup lawI Try.underlying104 (zeroS w) (W.stElem_mk []) (keyOf_int_mk Try.underlying3 hw)
  rw [W.digs_at b hb] at hv
  rw [hrun, W.stElem_inv hv]
theorem W.tn_eq (b : Int) (s : Bool) (hb : W.ok b) : W.tn b s = (if s then 105 else 117) :: W.dig b := by
  rcases hb with rfl | rfl | rfl | rfl <;> cases s <;> rfl
set_option maxHeartbeats 4000000 in
theorem r7name_ok (b : Int) (s : Bool) (hb : W.ok b) (w : World) : Calls Try.prog 47 #[W.ty b s] w fun e w' => e = .returned (encStr (W.tn b s)) ∧ Below w.heap.size w w' := by
  have CV : Hid (∀ w : World, Calls Try.prog 32 #[W.ty b s] w fun e w' => e = .returned (.bool true) ∧ Below w.heap.size w w') := fun w => by rw [← W.okB_t hb]; exact r7valid b s w
  have h0 : (b == 0) = false := by rcases hb with rfl | rfl | rfl | rfl <;> rfl
  have CM : Hid (∀ w : World, ∃ w1 w2 w3 w4, (Instr.mapUpdate 104 (.map (some w.heap.size)) (.int .i64 8) (.string ⟨#[56]⟩)).run Try.prog (w.alloc (.map #[] 0)) = .ok () w1 ∧ (Instr.mapUpdate 104 (.map (some w.heap.size)) (.int .i64 16) (.string ⟨#[49, 54]⟩)).run Try.prog w1 = .ok () w2 ∧ (Instr.mapUpdate 104 (.map (some w.heap.size)) (.int .i64 32) (.string ⟨#[51, 50]⟩)).run Try.prog w2 = .ok () w3 ∧ (Instr.mapUpdate 104 (.map (some w.heap.size)) (.int .i64 64) (.string ⟨#[54, 52]⟩)).run Try.prog w3 = .ok () w4 ∧ (Instr.lookup 104 (.map (some w.heap.size)) (.int .i64 b) false).run Try.prog w4 = .ok (.string ⟨(W.dig b).toArray⟩) w4 ∧ Below w.heap.size w w4) := fun w => by
    have o0 := World.ownsMap_made (H := Unit) w Try.prog 3 W.stElem
    have b0 := Ext.alloc (Below.refl w.heap.size w) (.map #[] 0)
    obtain ⟨w1, r1, o1, g1⟩ := digs_put o0 (by unfold maxLen; omega) 8 (by decide) [56]
    have b1 := names_grown b0 g1 (Nat.le_refl _)
    obtain ⟨w2, r2, o2, g2⟩ := digs_put o1 (by unfold maxLen; omega) 16 (by decide) [49, 54]
    have b2 := names_grown b1 g2 (Nat.le_refl _)
    obtain ⟨w3, r3, o3, g3⟩ := digs_put o2 (by unfold maxLen; omega) 32 (by decide) [51, 50]
    have b3 := names_grown b2 g3 (Nat.le_refl _)
    obtain ⟨w4, r4, o4, g4⟩ := digs_put o3 (by unfold maxLen; omega) 64 (by decide) [54, 52]
    have b4 := names_grown b3 g4 (Nat.le_refl _)
    exact ⟨w1, w2, w3, w4, r1, r2, r3, r4, look_digs w4 _ o4 b hb, b4⟩
  have HE := Lib.hid (W.tn_eq b s hb)
  have hmm := run_makeMap (P := Try.prog)
  obtain ⟨D, hD⟩ : ∃ D, D = (⟨(W.dig b).toArray⟩ : ByteArray) := ⟨_, rfl⟩
  rw [← hD] at CM
  have h9 : 1 + D.size ≤ 9223372036854775807 := by rw [hD]; rcases hb with rfl | rfl | rfl | rfl <;> decide
  have HD := Lib.hid hD
  clear hb hD
  cases s
  all_goals
    go_enter Try.func47, Try.ntmps47
    go_wp2_with (first | (go_at_call 32; refine (CV.out _).mono ?_; rintro e w0 ⟨rfl, hb0⟩; obtain ⟨x0, x1, x2, x3⟩ := Ty.below (Ty.new w rfl b _ 31) hb0; have HB0 := Lib.hid (Ext.trans (Ext.alloc (Below.refl w.heap.size w) _) hb0); obtain ⟨w1, w2, w3, w4, r1, r2, r3, r4, r5, hb4⟩ := CM.out w0; have HB4 := Lib.hid hb4; obtain ⟨y0, y1, y2, y3⟩ := Ty.below (⟨x0, x1, x2, x3⟩ : Ty _ w.heap.size b _) hb4; clear hb0 hb4))
    go_ret
    exact ⟨W.ret1 (by show Value.string _ = Value.string _; rw [HE.out, HD.out]; congr 1), Ext.trans HB0.out HB4.out⟩
end Go.Proofs.Ytkmcniaaecijdaa
namespace Go.Proofs.Ytkmcniaaecijdaa
open Go.RowKit Go.Maps
set_option linter.unusedVariables false
set_option linter.unusedSimpArgs false
set_option maxRecDepth 100000

theorem W.nt_none (L : List UInt8) (h : ∀ j, j < 4 → ∀ s, W.tn (W.four.getD j 0) s ≠ L) : W.nt L = (0, false, false) := by
  by_cases hh : (W.nt L).2.2 = true
  · exfalso
    obtain ⟨h1, h2⟩ := W.nt_ok L hh
    rcases h1 with e | e | e | e
    · exact h 0 (by omega) _ (by rw [show W.four.getD 0 0 = 8 from rfl, ← e]; exact h2)
    · exact h 1 (by omega) _ (by rw [show W.four.getD 1 0 = 16 from rfl, ← e]; exact h2)
    · exact h 2 (by omega) _ (by rw [show W.four.getD 2 0 = 32 from rfl, ← e]; exact h2)
    · exact h 3 (by omega) _ (by rw [show W.four.getD 3 0 = 64 from rfl, ← e]; exact h2)
  · unfold W.nt at *
    repeat' (split at hh; · simp at hh)
    simp [*]
theorem bytes_eq {a b : ByteArray} : a = b ↔ a.data.toList = b.data.toList := by
  constructor
  · intro h; rw [h]
  · intro h; cases a; cases b; simp at h; rw [ByteArray.mk.injEq]; exact h
theorem of_toList {a b : ByteArray} (h : (a.toList == b.toList) = true) : a.data.toList = b.data.toList := by
  rw [ByteArray.toList_eq, ByteArray.toList_eq] at h; simpa using h
theorem of_toList_ne {a b : ByteArray} (h : (a.toList == b.toList) = false) : a.data.toList ≠ b.data.toList := by
  rw [ByteArray.toList_eq, ByteArray.toList_eq] at h; simpa using h
structure NmL (w : World) (wr : World) : Prop where
  ext : Below w.heap.size w wr
  lt : w.heap.size + 1 < wr.heap.size
  ty : Ty wr w.heap.size 0 false
  sl : ∀ j, j < 4 → wr.cell? ⟨w.heap.size + 1, j, none⟩ = some (.int .i64 (W.four.getD j 0))
theorem NmL.below {w wr w' : World} (h : NmL w wr) (hb : Below wr.heap.size wr w') : NmL w w' :=
  ⟨Ext.trans h.ext hb, Nat.lt_of_lt_of_le h.lt hb.size, h.ty.below hb, fun j hj => by rw [(bcell hb).1 _ _ h.lt]; exact h.sl j hj⟩
theorem NmL.start (w : World) : NmL w ((w.alloc (.cells #[.int .i64 0, .bool false] 31)).alloc (.cells #[.int .i64 8, .int .i64 16, .int .i64 32, .int .i64 64] 3)) := by
  refine ⟨Ext.alloc (Ext.alloc (Below.refl _ _) _) _, by simp, ⟨by simp [go_sem], by simp [go_sem], by simp [go_sem], by simp [go_sem]⟩, fun j hj => ?_⟩
  rcases (show j = 0 ∨ j = 1 ∨ j = 2 ∨ j = 3 by omega) with rfl | rfl | rfl | rfl <;> simp [go_sem, W.four]
set_option maxHeartbeats 8000000 in
theorem r7named_ok (l : ByteArray) (w : World) : Calls Try.prog 19 #[.string l] w fun e w' => e = .returned (.tuple #[W.ty (W.nt l.data.toList).1 (W.nt l.data.toList).2.1, .bool (W.nt l.data.toList).2.2]) ∧ Below w.heap.size w w' := by
  have HS := Lib.hid (NmL.start w)
  go_enter Try.func19, Try.ntmps19
  go_wp2
  go_loopw [11] (fun i wr => ∃ k : Nat, k ≤ 4 ∧ i = .int .i64 k ∧ Hid (NmL w wr) ∧ Hid (∀ j, j < k → ∀ s, W.tn (W.four.getD j 0) s ≠ l.data.toList)) (fun i _ => 4 - (intOf i).toNat)
  case atStart => exact ⟨0, by omega, rfl, HS, fun j hj => by omega⟩
  case round =>
    obtain ⟨k, hk, rfl, hN, hne⟩ := hrel
    clear HS
    by_cases hlt : k < 4
    · obtain ⟨X, hX⟩ : ∃ X, X = W.four.getD k 0 := ⟨_, rfl⟩
      have c0 : wr.cell? ⟨w.heap.size + 1, k, none⟩ = some (.int .i64 X) := by rw [hX]; exact hN.out.sl k hlt
      have hok : W.ok X := by rw [hX]; exact W.four_ok k hlt
      obtain ⟨N1, hN1⟩ : ∃ N, N = (⟨(W.tn X true).toArray⟩ : ByteArray) := ⟨_, rfl⟩
      obtain ⟨N2, hN2⟩ : ∃ N, N = (⟨(W.tn X false).toArray⟩ : ByteArray) := ⟨_, rfl⟩
      have C1 : Hid (∀ w : World, Calls Try.prog 47 #[W.ty X true] w fun e w' => e = .returned (.string N1) ∧ Below w.heap.size w w') := fun w => by rw [hN1]; exact r7name_ok X true hok w
      have C2 : Hid (∀ w : World, Calls Try.prog 47 #[W.ty X false] w fun e w' => e = .returned (.string N2) ∧ Below w.heap.size w w') := fun w => by rw [hN2]; exact r7name_ok X false hok w
      have HX := Lib.hid hX; have HN1 := Lib.hid hN1; have HN2 := Lib.hid hN2; have HO := Lib.hid hok
      have M1 := Lib.hid ((hN.out.below (Ext.alloc (Below.refl _ _) (.cells #[.bool true, .bool false] 4))).below (Ext.alloc (Below.refl _ _) (.cells #[.int .i64 X, .bool true] 31)))
      clear hX hN1 hN2 hok
      go_wp2
      refine wp_loop_rounds 3 ?_
      rw [rounds_succ]
      go_wp2_with (first | (go_at_call 47; refine (C1.out _).mono ?_; rintro e w2 ⟨rfl, hb2⟩; have M2 := Lib.hid (M1.out.below hb2); have d1 : w2.cell? ⟨wr.heap.size, 1, none⟩ = some (.bool false) := (by rw [(bcell hb2).1 _ _ (by simp; omega)]; simp [go_sem]); obtain ⟨x0, x1, x2, x3⟩ := Ty.below (Ty.new _ (B := wr.heap.size + 1) (by simp) X true _) hb2; obtain ⟨z0, z1, z2, z3⟩ := M2.out.ty; clear hb2))
      · have hm : (N1.toList == l.toList) = true := by assumption
        have e1 : W.tn X true = l.data.toList := by
          have := of_toList hm
          rw [HN1.out] at this; simpa using this
        have e2 : W.nt l.data.toList = (X, true, true) := by rw [← e1]; exact W.nt_tn X true HO.out
        rw [e2]
        refine bodyPost_ret (v := .tuple #[W.ty X true, .bool true]) (by simp [results, Try.results19, go_sem, x0, x1, x2, x3, z0, z1, z2, z3]) rfl ⟨rfl, Ext.setCell (Ext.setCell M2.out.ext (Nat.le_refl _) _) (Nat.le_refl _) _⟩
      · have hm : (N1.toList == l.toList) = false := by assumption
        have HE1 : Hid (W.tn X true ≠ l.data.toList) := fun e => by
          have := of_toList_ne hm
          rw [HN1.out] at this; exact this (by simpa using e)
        have M3 := Lib.hid (M2.out.below (Ext.alloc (Below.refl _ _) (.cells #[.int .i64 X, .bool false] 31)))
        clear hm x0 x1 x2 x3 z0 z1 z2 z3 M1 c0
        rw [rounds_succ]
        go_wp2_with (first | (go_at_call 47; refine (C2.out _).mono ?_; rintro e w3 ⟨rfl, hb3⟩; have M4 := Lib.hid (M3.out.below hb3); obtain ⟨x0, x1, x2, x3⟩ := Ty.below (Ty.new _ rfl X false _) hb3; obtain ⟨z0, z1, z2, z3⟩ := M4.out.ty; clear hb3))
        · have hm : (N2.toList == l.toList) = true := by assumption
          have e1 : W.tn X false = l.data.toList := by
            have := of_toList hm
            rw [HN2.out] at this; simpa using this
          have e2 : W.nt l.data.toList = (X, false, true) := by rw [← e1]; exact W.nt_tn X false HO.out
          rw [e2]
          refine bodyPost_ret (v := .tuple #[W.ty X false, .bool true]) (by simp [results, Try.results19, go_sem, x0, x1, x2, x3, z0, z1, z2, z3]) rfl ⟨rfl, Ext.setCell (Ext.setCell M4.out.ext (Nat.le_refl _) _) (Nat.le_refl _) _⟩
        · have hm : (N2.toList == l.toList) = false := by assumption
          have HE2 : Hid (W.tn X false ≠ l.data.toList) := fun e => by
            have := of_toList_ne hm
            rw [HN2.out] at this; exact this (by simpa using e)
          clear hm x0 x1 x2 x3 z0 z1 z2 z3 M3
          rw [rounds_succ]
          go_wp2
          go_roundw
          case rel => exact ⟨k + 1, by omega, by go_num, M4, fun j hj s => by
            by_cases hj2 : j < k
            · exact hne.out j hj2 s
            · obtain rfl : j = k := by omega
              rw [← HX.out]; cases s
              · exact HE2.out
              · exact HE1.out⟩
          case measure => simp [intOf]; omega
    · obtain rfl : k = 4 := by omega
      have HNT := Lib.hid (W.nt_none l.data.toList hne.out)
      obtain ⟨z0, z1, z2, z3⟩ := hN.out.ty
      go_wp2
      rw [HNT.out]
      refine bodyPost_ret (v := .tuple #[W.ty 0 false, .bool false]) (by simp [results, Try.results19, go_sem, z0, z1, z2, z3]) rfl ⟨rfl, Ext.setCell (Ext.setCell hN.out.ext (Nat.le_refl _) _) (Nat.le_refl _) _⟩
end Go.Proofs.Ytkmcniaaecijdaa
namespace Go.Proofs.Ytkmcniaaecijdaa
open Go.RowKit Go.Maps
set_option linter.unusedVariables false
set_option linter.unusedSimpArgs false
set_option maxRecDepth 100000

theorem cmpZ_nil {x y : Int} : (cmpZ x y = 0) ↔ x = y := by
  unfold cmpZ
  by_cases h1 : x < y
  · rw [if_pos h1]; omega
  · rw [if_neg h1]; split <;> omega
def W.three : List Int := [16, 32, 64]
/-- It is the same in the type, told as one without a sign. -/
def W.fits (X n : Int) (u : Bool) : Bool := decide (n = W.mn X n (!u))
theorem W.fits_iff (X n : Int) (u : Bool) (hX : X = 16 ∨ X = 32 ∨ X = 64) (hn : W.U n) : W.fits X n u = decide (if u then n < W.md X else n * 2 < W.md X) := by
  have h0 := hn.1
  have h1 := hn.2
  unfold W.fits
  rw [decide_eq_decide]
  have e : ∀ m : Int, 0 < m → (n = n % m ↔ n < m) := fun m hm => by
    constructor
    · intro h; rw [h]; exact Int.emod_lt_of_pos _ hm
    · intro h; exact (Int.emod_eq_of_lt h0 h).symm
  cases u
  · show n = W.sg X n ↔ _
    unfold W.sg
    simp only [Bool.false_eq_true, if_false]
    have hm := W.md_pos X
    by_cases hc : n % W.md X * 2 < W.md X
    · rw [if_pos hc, e _ hm]
      constructor
      · intro h; rw [Int.emod_eq_of_lt h0 h] at hc; exact hc
      · intro h; omega
    · rw [if_neg hc]
      have := W.mod_lo n X; have := W.mod_hi n X
      constructor
      · intro h; omega
      · intro h; exfalso; apply hc; rw [Int.emod_eq_of_lt h0 (by omega)]; exact h
  · show n = n % W.md X ↔ _
    simp only [if_true]
    exact e _ (W.md_pos X)
theorem W.lit_hit (n : Int) (u : Bool) (hn : W.U n) (k : Nat) (hk : k < 3) (hne : ∀ j, j < k → W.fits (W.three.getD j 0) n u = false) (h : W.fits (W.three.getD k 0) n u = true) : W.lit n u = (W.three.getD k 0, !u, 0) := by
  have f0 := W.fits_iff 16 n u (by omega) hn
  have f1 := W.fits_iff 32 n u (by omega) hn
  have f2 := W.fits_iff 64 n u (by omega) hn
  rw [W.md16] at f0; rw [W.md32] at f1; rw [W.md64] at f2
  unfold W.lit
  rcases (show k = 0 ∨ k = 1 ∨ k = 2 by omega) with rfl | rfl | rfl
  · rw [show W.three.getD 0 0 = 16 from rfl] at h ⊢
    rw [f0] at h
    cases u
    · simp only [Bool.false_eq_true, if_false, decide_eq_true_eq] at h ⊢; rw [if_pos (by omega)]; rfl
    · simp only [if_true, decide_eq_true_eq] at h ⊢; rw [if_pos (by omega)]; rfl
  · have g0 := hne 0 (by omega)
    rw [show W.three.getD 0 0 = 16 from rfl, f0] at g0
    rw [show W.three.getD 1 0 = 32 from rfl] at h ⊢
    rw [f1] at h
    cases u <;> simp at h g0 ⊢ <;> (rw [if_neg (by omega), if_pos (by omega)])
  · have g0 := hne 0 (by omega); have g1 := hne 1 (by omega)
    rw [show W.three.getD 0 0 = 16 from rfl, f0] at g0
    rw [show W.three.getD 1 0 = 32 from rfl, f1] at g1
    rw [show W.three.getD 2 0 = 64 from rfl] at h ⊢
    rw [f2] at h
    cases u
    · simp at h g0 g1 ⊢; rw [if_neg (by omega), if_neg (by omega), if_pos (by omega)]
    · simp at h g0 g1 ⊢; rw [if_neg (by omega), if_neg (by omega)]
theorem W.lit_none (n : Int) (u : Bool) (hn : W.U n) (hne : ∀ j, j < 3 → W.fits (W.three.getD j 0) n u = false) : W.lit n u = (0, false, 3) := by
  have f0 := W.fits_iff 16 n u (by omega) hn
  have f1 := W.fits_iff 32 n u (by omega) hn
  have f2 := W.fits_iff 64 n u (by omega) hn
  have g0 := hne 0 (by omega); have g1 := hne 1 (by omega); have g2 := hne 2 (by omega)
  rw [show W.three.getD 0 0 = 16 from rfl, f0, W.md16] at g0
  rw [show W.three.getD 1 0 = 32 from rfl, f1, W.md32] at g1
  rw [show W.three.getD 2 0 = 64 from rfl, f2, W.md64] at g2
  have := hn.2
  unfold W.lit
  cases u
  · simp at g0 g1 g2 ⊢; rw [if_neg (by omega), if_neg (by omega), if_neg (by omega)]
  · exfalso; simp at g2; omega
structure LtL (w : World) (wr : World) : Prop where
  ext : Below w.heap.size w wr
  lt : w.heap.size + 1 < wr.heap.size
  ty : Ty wr w.heap.size 0 false
  sl : ∀ j, j < 3 → wr.cell? ⟨w.heap.size + 1, j, none⟩ = some (.int .i64 (W.three.getD j 0))
theorem LtL.below {w wr w' : World} (h : LtL w wr) (hb : Below wr.heap.size wr w') : LtL w w' :=
  ⟨Ext.trans h.ext hb, Nat.lt_of_lt_of_le h.lt hb.size, h.ty.below hb, fun j hj => by rw [(bcell hb).1 _ _ h.lt]; exact h.sl j hj⟩
theorem LtL.start (w : World) : LtL w ((w.alloc (.cells #[.int .i64 0, .bool false] 31)).alloc (.cells #[.int .i64 16, .int .i64 32, .int .i64 64] 3)) := by
  refine ⟨Ext.alloc (Ext.alloc (Below.refl _ _) _) _, by simp, ⟨by simp [go_sem], by simp [go_sem], by simp [go_sem], by simp [go_sem]⟩, fun j hj => ?_⟩
  rcases (show j = 0 ∨ j = 1 ∨ j = 2 by omega) with rfl | rfl | rfl <;> simp [go_sem, W.three]
set_option maxHeartbeats 8000000 in
theorem r7literal_ok (n : Int) (u : Bool) (hn : W.U n) (w : World) : Calls Try.prog 28 #[.int .u64 n, .bool u] w (LitR (W.lit n u).1 (W.lit n u).2.1 (W.lit n u).2.2 w) := by
  have HS := Lib.hid (LtL.start w)
  have HN := Lib.hid hn
  have CA : Hid (∀ w : World, Calls Try.prog 51 #[.int .u64 n, .int .i64 64, .bool false] w (NewIo w n)) := fun w => by
    have := meant_ok n 64 false (by simp [W.ok]) hn w
    rwa [show W.mn 64 n false = n from Int.emod_eq_of_lt hn.1 hn.2] at this
  clear hn
  go_enter Try.func28, Try.ntmps28
  go_wp2
  go_loopw [11] (fun i wr => ∃ k : Nat, k ≤ 3 ∧ i = .int .i64 k ∧ Hid (LtL w wr) ∧ Hid (∀ j, j < k → W.fits (W.three.getD j 0) n u = false)) (fun i _ => 3 - (intOf i).toNat)
  case atStart => exact ⟨0, by omega, rfl, HS, fun j hj => by omega⟩
  case round =>
    obtain ⟨k, hk, rfl, hN, hne⟩ := hrel
    clear HS
    by_cases hlt : k < 3
    · obtain ⟨X, hX⟩ : ∃ X, X = W.three.getD k 0 := ⟨_, rfl⟩
      obtain ⟨bb, hbb⟩ : ∃ b, b = W.fits X n u := ⟨_, rfl⟩
      obtain ⟨M, hM⟩ : ∃ M, M = W.mn X n (!u) := ⟨_, rfl⟩
      have c0 : wr.cell? ⟨w.heap.size + 1, k, none⟩ = some (.int .i64 X) := by rw [hX]; exact hN.out.sl k hlt
      have hok : W.ok X := by rw [hX]; rcases (show k = 0 ∨ k = 1 ∨ k = 2 by omega) with rfl | rfl | rfl <;> simp [W.three, W.ok]
      have CB : Hid (∀ w : World, Calls Try.prog 53 #[.int .u64 n, W.ty X (!u)] w (NewIo w M)) := fun w => by rw [hM]; exact r7meant n X (!u) hok HN.out w
      have CC : Hid (∀ (w : World) (g g2 : Nat), Io w g n → Io w g2 M → Calls Try.prog 52 #[P g, P g2] w fun e w' => ∃ C : Int, (C == 0) = bb ∧ e = .returned (.int .i64 C) ∧ ∃ m, w' = w.drewN m) := fun w g g2 a b =>
        (intCmp_ok g g2 n M w a b).mono fun e w' ⟨h1, h2⟩ => ⟨_, by rw [hbb]; unfold W.fits; rw [← hM, Bool.eq_iff_iff]; simp [cmpZ_nil], h1, h2⟩
      have HX := Lib.hid hX; have HBB := Lib.hid hbb
      clear hX hok hM hbb
      have HY := Lib.hid (hN.out.below (Ext.alloc (Below.refl _ _) (.cells #[.int .i64 X, .bool (!u)] 31)))
      have HT := Lib.hid (Ty.new wr rfl X (!u) 31)
      have hd : decide ((k : Int) < 3) = true := by simp; omega
      go_wp2
      generalize (wr.alloc (.cells #[.int .i64 X, .bool (!u)] 31)) = wx at *
      apply Ix.wp_region 7 (fun wi => Hid (LtL w wi) ∧ Hid (Ty wi wr.heap.size X (!u))) (Ix.vk [(Ix.kis _), (Ix.kwld (fun v w' => ∃ g, v = P g ∧ Io w' g n) (fun v w1 w2 h hb => by obtain ⟨g, e, hi⟩ := h; exact ⟨g, e, hi.below hb⟩)), (Ix.kis _), (Ix.kis _), (Ix.kwld (fun v w' => ∃ g, v = P g ∧ Io w' g M) (fun v w1 w2 h hb => by obtain ⟨g, e, hi⟩ := h; exact ⟨g, e, hi.below hb⟩)), (Ix.ksat (fun v => ∃ C : Int, (C == 0) = bb ∧ v = .int .i64 C)), (Ix.kis (.bool bb))]) (fun _ => false) (by kernel_rfl) (by kernel_rfl) (by kernel_rfl) (fun _ _ h hb => ⟨h.1.out.below hb, h.2.out.below hb⟩) (Ix.vk_keeps _) (Ix.not_al _) ⟨HY, HT⟩
      case step =>
        refine zyx 6 0 1 [] (fun wi HB => ?_) <| zyx 5 1 2 [(0, some 19)] (fun wi HB => ?_) <| zyx 4 2 3 [] (fun wi HB => ?_) <| zyx 3 3 4 [] (fun wi HB => ?_) <| zyx 2 4 5 [(2, some 21), (3, some 22)] (fun wi HB => ?_) <| zyx 1 5 6 [(1, some 20), (4, some 23)] (fun wi HB => ?_) <| zyx 0 6 7 [(5, some 24)] (fun wi HB => ?_) <| Ix.steps_nil
        (· ((repeat (refine zya ?_; rintro _ rfl)); refine zye ?_; (try simp only [zyp]); refine Ix.goI_yes rfl rfl fun K hK => ?_; (try simp only [zyp] at hK); go_wp2_with (first | fail); exact hK _ _ (Below.refl _ _) rfl))
        (· (obtain ⟨HB, HT1⟩ := HB; obtain ⟨x0, x1, x2, x3⟩ := HT1.out; (repeat (refine zya ?_; rintro _ rfl)); refine zye ?_; (try simp only [zyp]); refine Ix.goI_yes rfl rfl fun K hK => ?_; (try simp only [zyp] at hK); go_wp2_with (first | (go_at_call 51; refine (CA.out _).mono ?_; rintro e wa ⟨ga, rfl, hga, hba, hia⟩)); exact hK _ _ hba ⟨_, rfl, hia⟩))
        (· ((repeat (refine zya ?_; rintro _ rfl)); refine zye ?_; (try simp only [zyp]); refine Ix.goI_yes rfl rfl fun K hK => ?_; (try simp only [zyp] at hK); go_wp2_with (first | fail); exact hK _ _ (Below.refl _ _) rfl))
        (· (obtain ⟨HB, HT1⟩ := HB; obtain ⟨x0, x1, x2, x3⟩ := HT1.out; (repeat (refine zya ?_; rintro _ rfl)); refine zye ?_; (try simp only [zyp]); refine Ix.goI_yes rfl rfl fun K hK => ?_; (try simp only [zyp] at hK); go_wp2_with (first | fail); exact hK _ _ (Below.refl _ _) rfl))
        (· (obtain ⟨HB, HT1⟩ := HB; obtain ⟨x0, x1, x2, x3⟩ := HT1.out; (repeat (refine zya ?_; rintro _ rfl)); refine zye ?_; (try simp only [zyp]); refine Ix.goI_yes rfl rfl fun K hK => ?_; (try simp only [zyp] at hK); go_wp2_with (first | (go_at_call 53; refine (CB.out _).mono ?_; rintro e wa ⟨ga, rfl, hga, hba, hia⟩)); exact hK _ _ hba ⟨_, rfl, hia⟩))
        (· (obtain ⟨HB, HT1⟩ := HB; obtain ⟨x0, x1, x2, x3⟩ := HT1.out; refine zya ?_; rintro _ ⟨g1, rfl, hg1⟩; refine zya ?_; rintro _ ⟨g4, rfl, hg4⟩; refine zye ?_; (try simp only [zyp]); refine Ix.goI_yes rfl rfl fun K hK => ?_; (try simp only [zyp] at hK); go_wp2_with (first | (go_at_call 52; refine (CC.out _ _ _ hg1 hg4).mono ?_; rintro e wa ⟨C, hca, rfl, m, rfl⟩)); exact hK _ _ (below_drewN (Below.refl _ _) _) ⟨_, hca, rfl⟩))
        (· (refine zya ?_; rintro _ ⟨c5, hc5, rfl⟩; refine zye ?_; (try simp only [zyp]); refine Ix.goI_yes rfl rfl fun K hK => ?_; (try simp only [zyp] at hK); go_wp2_with (first | fail); exact hK _ _ (Below.refl _ _) rfl))
      intro vsf wf HF hdf
      refine zyv 6 0 1 ?_; rintro _ _ rfl; refine zyv 5 1 2 ?_; rintro _ _ ⟨g1, rfl, hg1⟩; refine zyv 4 2 3 ?_; rintro _ _ rfl; refine zyv 3 3 4 ?_; rintro _ _ rfl; refine zyv 2 4 5 ?_; rintro _ _ ⟨g4, rfl, hg4⟩; refine zyv 1 5 6 ?_; rintro _ _ ⟨c5, hc5, rfl⟩; refine zyv 0 6 7 ?_; rintro _ _ rfl
      refine Ix.allV_nil ?_
      (try simp only [Act.put, List.setIfInBounds_toArray, List.set_cons_zero, List.set_cons_succ, List.drop_succ_cons, List.drop_zero])
      refine Ix.nil ?_
      obtain ⟨HM, HT⟩ := HF
      obtain ⟨x0, x1, x2, x3⟩ := HT.out; obtain ⟨z0, z1, z2, z3⟩ := HM.out.ty
      have L9 := HM.out.ext
      cases bb
      · clear x0 x1 x2 x3 z0 z1 z2 z3 L9
        go_wp2
        go_roundw
        case rel => exact ⟨k + 1, by omega, by go_num, HM, fun j hj => by
          by_cases hj2 : j < k
          · exact hne.out j hj2
          · obtain rfl : j = k := by omega
            rw [← HX.out]; exact HBB.out.symm⟩
        case measure => simp [intOf]; omega
      · have HL : Hid (W.lit n u = (X, !u, 0)) := by
          show W.lit n u = _
          rw [HX.out]; exact W.lit_hit n u HN.out k hlt hne.out (by rw [← HX.out]; exact HBB.out.symm)
        have HL9 := Lib.hid L9; clear L9
        go_wp2
        rw [HL.out]
        refine bodyPost_ret (v := .tuple #[W.ty X (!u), .int .i64 0]) (by simp [results, Try.results28, go_sem, x0, x1, x2, x3, z0, z1, z2, z3]) rfl ⟨rfl, Ext.setCell (Ext.setCell HL9.out (Nat.le_refl _) _) (Nat.le_refl _) _⟩
    · obtain rfl : k = 3 := by omega
      have HL := Lib.hid (W.lit_none n u HN.out hne.out)
      obtain ⟨z0, z1, z2, z3⟩ := hN.out.ty
      go_wp2
      rw [HL.out]
      refine bodyPost_ret (v := .tuple #[W.ty 0 false, .int .i64 3]) (by simp [results, Try.results28, go_sem, z0, z1, z2, z3]) rfl ⟨rfl, Ext.setCell (Ext.setCell hN.out.ext (Nat.le_refl _) _) (Nat.le_refl _) _⟩
end Go.Proofs.Ytkmcniaaecijdaa
