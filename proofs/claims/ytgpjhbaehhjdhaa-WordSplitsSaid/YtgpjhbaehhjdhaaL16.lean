/- WordSplits: its walk. -/
import Derived.Test.YtgpjhbaehhjdhaaN22
import Derived.Test.YtgpjhbaehhjdhaaN23
import Derived.Test.YtgpjhbaehhjdhaaW9
import Derived.Test.YtgpjhbaehhjdhaaFr
namespace Go.Proofs.Ytgpjhbaehhjdhaa
open Go.ChangeShapes Go.WideShapes Go.ChangeAt Go.RowKit
set_option linter.unusedVariables false
set_option linter.unusedSimpArgs false
set_option maxRecDepth 100000

set_option maxHeartbeats 4000000 in
theorem splits_raw (x v : Int) (l : Value) (n : Nat) (xs ws : List Int) (k : Nat) (E : Int) (hI : ∀ x ∈ xs, W.I x) (w : World) (hl : Rd w 1 l n (xs.map (Value.int .i64)))
    (S1 : Hid (∀ w : World, Calls Try.prog 21 #[.int .u64 x, .int .i64 v] w fun e w' => ∃ u, e = .returned (.tuple #[u, .int .i64 E]) ∧ Rd w' 1 u k (ws.map (Value.int .i64)) ∧ Below w.heap.size w w'))
    (S2 : Hid (∀ w : World, Calls Try.prog 22 #[.int .u64 x, .int .i64 v] w fun e w' => ∃ u, e = .returned (.tuple #[u, .int .i64 E]) ∧ Rd w' 1 u k (ws.map (Value.int .i64)) ∧ Below w.heap.size w w')) :
    Calls Try.prog 3 #[.int .u64 x, .int .i64 v, l] w fun e w' => e = .returned (.bool true) ∧ Below w.heap.size w w' := by
  have SM : Hid (∀ (w : World) (a b : Value), Rd w 1 a k (ws.map (Value.int .i64)) → Rd w 1 b k (ws.map (Value.int .i64)) → Calls Try.prog 23 #[a, b] w fun e w' => e = .returned (.bool true) ∧ Below w.heap.size w w') := fun w a b h1 h2 => by
    have := same_ok a b k k ws ws w h1 h2
    simpa using this
  have J1 : Hid (∀ w : World, Rd w 1 l n (xs.map (Value.int .i64)) → Calls Try.prog 24 #[l] w fun e w' => e = .returned (.tuple #[.int .u64 (W.joinV xs), .int .i64 (W.joinE xs)]) ∧ w = w') := fun w h => join_any l n xs w h
  have J2 : Hid (∀ w : World, Rd w 1 l n (xs.map (Value.int .i64)) → Calls Try.prog 25 #[l] w fun e w' => e = .returned (.tuple #[.int .u64 (W.joinV xs), .int .i64 (W.joinE xs)]) ∧ Below w.heap.size w w') := fun w h => refJoin_any l n xs hI w h
  have HL := Lib.hid hl
  have nE : (E != E) = false := by simp
  clear hl hI
  go_enter Try.func3, Try.ntmps3
  go_wp2_with (first | (go_at_call 21; refine (S1.out _).mono ?_; rintro e w1 ⟨u1, rfl, hr1, hb1⟩; have HR1 := Lib.hid hr1; have HB1 := Lib.hid hb1; clear hr1 hb1) | (go_at_call 22; refine (S2.out _).mono ?_; rintro e w2 ⟨u2, rfl, hr2, hb2⟩; have HR2 := Lib.hid hr2; have HB2 := Lib.hid hb2; clear hr2 hb2) | (go_at_call 23; refine (SM.out _ _ _ (HR1.out.below HB2.out) HR2.out).mono ?_; rintro e w3 ⟨rfl, hb3⟩; have HB3 := Lib.hid hb3; clear hb3) | (go_at_call 24; refine (J1.out _ (((HL.out.below HB1.out).below HB2.out).below HB3.out)).mono ?_; rintro e w4 ⟨rfl, rfl⟩) | (go_at_call 25; refine (J2.out _ (((HL.out.below HB1.out).below HB2.out).below HB3.out)).mono ?_; rintro e w5 ⟨rfl, hb5⟩; have HB5 := Lib.hid hb5; clear hb5))
  go_ret
  exact ⟨by simp, Ext.trans (Ext.trans (Ext.trans HB1.out HB2.out) HB3.out) HB5.out⟩
theorem splits_all (x : Int) (wx : (Lit.int .u64 x).wf = true) (v : Int) (_ : (Lit.int .i64 v).wf = true) (l : Value) (n : Nat) (xs : List Int) {w : World} (hl : Rd w 1 l n (xs.map (Value.int .i64)) ∧ ∀ x ∈ xs, (Lit.int .i64 x).wf = true) (_ : World) :
    Calls Try.prog 3 #[.int .u64 x, .int .i64 v, l] w fun e w' => e = .returned (.bool true) ∧ Below w.heap.size w w' := by
  have hx := W.U_wf wx
  have hI : ∀ x ∈ xs, W.I x := fun x h => W.I_wf (hl.2 x h)
  by_cases h : W.ok v
  · have hnw : W.nw v ≤ maxLen := by unfold maxLen; rcases h with rfl | rfl | rfl | rfl <;> decide
    refine splits_raw x v l n xs (W.split (W.nw v) (W.cut v x)) (W.nw v) 0 hI w hl.1 (fun w => ?_) (fun w => ?_)
    · exact (split_ok x v h hx w).mono fun e w' ⟨u, h1, h2, h3⟩ => ⟨u, h1, Rd.of_owns h2 hnw, h3⟩
    · exact (refSplit_ok x v h hx w).mono fun e w' ⟨u, h1, h2, h3⟩ => ⟨u, h1, Rd.of_owns h2 hnw, h3⟩
  · refine splits_raw x v l n xs [] 0 1 hI w hl.1 (fun w => ?_) (fun w => ?_)
    · exact (split_no x v h w).mono fun e w' ⟨h1, h2⟩ => ⟨_, h1, Rd.nil _ _, by rw [← h2]; exact Below.refl _ _⟩
    · exact (refSplit_no x v h w).mono fun e w' ⟨h1, h2⟩ => ⟨_, h1, Rd.nil _ _, h2⟩
end Go.Proofs.Ytgpjhbaehhjdhaa
