/- WordDoes: the walk, with all that it asks as letters. -/
import Derived.Test.YtgpjhbaehhjdhaaN26
import Derived.Test.YtgpjhbaehhjdhaaW1
import Derived.Test.YtgpjhbaehhjdhaaW4
namespace Go.Proofs.Ytgpjhbaehhjdhaa
open Go.RowKit
set_option linter.unusedVariables false
set_option linter.unusedSimpArgs false
set_option maxRecDepth 100000

set_option maxHeartbeats 8000000 in
theorem does_raw (a b v C S X1 X2 X3 X4 E4 X5 E5 : Int) (s L : Bool) (Y6 : Int) (hY : (Y6 == 1) = L)
    (nW : ∀ w : World, Calls Try.prog 34 #[.int .i64 v] w fun e w' => e = .returned (.bool true) ∧ Below w.heap.size w w')
    (nR : ∀ w : World, Calls Try.prog 50 #[.int .i64 v] w fun e w' => e = .returned (.bool true) ∧ Below w.heap.size w w')
    (nC : ∀ w : World, Calls Try.prog 36 #[.int .u64 a, .int .i64 v] w fun e w' => e = .returned (.tuple #[.int .u64 C, .int .i64 0]) ∧ Below w.heap.size w w')
    (nS : ∀ w : World, Calls Try.prog 49 #[.int .u64 a, .int .i64 v] w fun e w' => e = .returned (.tuple #[.int .i64 S, .int .i64 0]) ∧ Below w.heap.size w w')
    (nH : ∀ w : World, Calls Try.prog 52 #[.int .u64 a] w (NewIo w a))
    (nF : ∀ (w : World) (g : Nat), Io w g a → Calls Try.prog 51 #[P g, .int .i64 v] w fun e w' => e = .returned (.int .u64 C) ∧ Below w.heap.size w w')
    (nM : ∀ w : World, Calls Try.prog 53 #[.int .u64 a, .int .i64 v, .bool true] w (NewIo w S))
    (nI : ∀ (w : World) (g : Nat), Io w g S → Calls Try.prog 54 #[P g] w fun e w' => e = .returned (.int .i64 S) ∧ Below w.heap.size w w')
    (nAdd : ∀ w : World, Calls Try.prog 35 #[.int .u64 a, .int .u64 b, .int .i64 v] w fun e w' => e = .returned (.tuple #[.int .u64 X1, .int .i64 0]) ∧ Below w.heap.size w w')
    (dAdd : ∀ w : World, Calls Try.prog 55 #[.int .u8 43, .int .u64 a, .int .u64 b, .int .i64 v, .bool s] w fun e w' => e = .returned (.tuple #[.int .u64 X1, .int .i64 0]) ∧ Below w.heap.size w w')
    (nSub : ∀ w : World, Calls Try.prog 40 #[.int .u64 a, .int .u64 b, .int .i64 v] w fun e w' => e = .returned (.tuple #[.int .u64 X2, .int .i64 0]) ∧ Below w.heap.size w w')
    (dSub : ∀ w : World, Calls Try.prog 55 #[.int .u8 45, .int .u64 a, .int .u64 b, .int .i64 v, .bool s] w fun e w' => e = .returned (.tuple #[.int .u64 X2, .int .i64 0]) ∧ Below w.heap.size w w')
    (nMul : ∀ w : World, Calls Try.prog 39 #[.int .u64 a, .int .u64 b, .int .i64 v] w fun e w' => e = .returned (.tuple #[.int .u64 X3, .int .i64 0]) ∧ Below w.heap.size w w')
    (dMul : ∀ w : World, Calls Try.prog 55 #[.int .u8 42, .int .u64 a, .int .u64 b, .int .i64 v, .bool s] w fun e w' => e = .returned (.tuple #[.int .u64 X3, .int .i64 0]) ∧ Below w.heap.size w w')
    (nDiv : ∀ w : World, Calls Try.prog 47 #[.int .u64 a, .int .u64 b, .int .i64 v, .bool s] w fun e w' => e = .returned (.tuple #[.int .u64 X4, .int .i64 E4]) ∧ Below w.heap.size w w')
    (dDiv : ∀ w : World, Calls Try.prog 55 #[.int .u8 47, .int .u64 a, .int .u64 b, .int .i64 v, .bool s] w fun e w' => e = .returned (.tuple #[.int .u64 X4, .int .i64 E4]) ∧ Below w.heap.size w w')
    (nRem : ∀ w : World, Calls Try.prog 48 #[.int .u64 a, .int .u64 b, .int .i64 v, .bool s] w fun e w' => e = .returned (.tuple #[.int .u64 X5, .int .i64 E5]) ∧ Below w.heap.size w w')
    (dRem : ∀ w : World, Calls Try.prog 55 #[.int .u8 37, .int .u64 a, .int .u64 b, .int .i64 v, .bool s] w fun e w' => e = .returned (.tuple #[.int .u64 X5, .int .i64 E5]) ∧ Below w.heap.size w w')
    (nLess : ∀ w : World, Calls Try.prog 46 #[.int .u64 a, .int .u64 b, .int .i64 v, .bool s] w fun e w' => e = .returned (.tuple #[.bool L, .int .i64 0]) ∧ Below w.heap.size w w')
    (dLess : ∀ w : World, Calls Try.prog 55 #[.int .u8 60, .int .u64 a, .int .u64 b, .int .i64 v, .bool s] w fun e w' => e = .returned (.tuple #[.int .u64 Y6, .int .i64 0]) ∧ Below w.heap.size w w')
    (w : World) :
    Calls Try.prog 13 #[.int .u64 a, .int .u64 b, .int .i64 v, .bool s] w fun e w' => e = .returned (.bool true) ∧ Below w.heap.size w w' := by
  have NW := Lib.hid nW
  have NR := Lib.hid nR
  have NC := Lib.hid nC
  have NS := Lib.hid nS
  have NH := Lib.hid nH
  have NF := Lib.hid nF
  have NM := Lib.hid nM
  have NI := Lib.hid nI
  have NAdd := Lib.hid nAdd
  have DAdd := Lib.hid dAdd
  have NSub := Lib.hid nSub
  have DSub := Lib.hid dSub
  have NMul := Lib.hid nMul
  have DMul := Lib.hid dMul
  have NDiv := Lib.hid nDiv
  have DDiv := Lib.hid dDiv
  have NRem := Lib.hid nRem
  have DRem := Lib.hid dRem
  have NLess := Lib.hid nLess
  have DLess := Lib.hid dLess
  clear nW nR nC nS nH nF nM nI nAdd dAdd nSub dSub nMul dMul nDiv dDiv nRem dRem nLess dLess
  go_enter Try.func13, Try.ntmps13
  go_wp2_with (first | (go_at_call 36; refine (NC.out _).mono ?_; rintro e w1 ⟨rfl, hb1⟩; have HB := Lib.hid hb1; clear hb1) | (go_at_call 34; refine (NW.out _).mono ?_; rintro e w1 ⟨rfl, hb1⟩; have HB := Lib.hid (Ext.trans HB.out hb1); clear hb1) | (go_at_call 50; refine (NR.out _).mono ?_; rintro e w1 ⟨rfl, hb1⟩; have HB := Lib.hid (Ext.trans HB.out hb1); clear hb1) | (go_at_call 49; refine (NS.out _).mono ?_; rintro e w1 ⟨rfl, hb1⟩; have HB := Lib.hid (Ext.trans HB.out hb1); clear hb1) | (go_at_call 52; refine (NH.out _).mono ?_; rintro e w1 ⟨g1, rfl, hg1, hb1, hi1⟩; have HI1 := Lib.hid hi1; have HB := Lib.hid (Ext.trans HB.out hb1); clear hb1 hi1 hg1) | (go_at_call 51; refine (NF.out _ _ HI1.out).mono ?_; rintro e w1 ⟨rfl, hb1⟩; have HB := Lib.hid (Ext.trans HB.out hb1); clear hb1 HI1) | (go_at_call 53; refine (NM.out _).mono ?_; rintro e w1 ⟨g2, rfl, hg2, hb1, hi1⟩; have HI2 := Lib.hid hi1; have HB := Lib.hid (Ext.trans HB.out hb1); clear hb1 hi1 hg2) | (go_at_call 54; refine (NI.out _ _ HI2.out).mono ?_; rintro e w1 ⟨rfl, hb1⟩; have HB := Lib.hid (Ext.trans HB.out hb1); clear hb1 HI2) | (go_at_call 35; refine (NAdd.out _).mono ?_; rintro e w1 ⟨rfl, hb1⟩; have HB := Lib.hid (Ext.trans HB.out hb1); clear hb1) | (go_at_call_of 55 (Value.int IntKind.u8 43); refine (DAdd.out _).mono ?_; rintro e w1 ⟨rfl, hb1⟩; have HB := Lib.hid (Ext.trans HB.out hb1); clear hb1) | (go_at_call 40; refine (NSub.out _).mono ?_; rintro e w1 ⟨rfl, hb1⟩; have HB := Lib.hid (Ext.trans HB.out hb1); clear hb1) | (go_at_call_of 55 (Value.int IntKind.u8 45); refine (DSub.out _).mono ?_; rintro e w1 ⟨rfl, hb1⟩; have HB := Lib.hid (Ext.trans HB.out hb1); clear hb1) | (go_at_call 39; refine (NMul.out _).mono ?_; rintro e w1 ⟨rfl, hb1⟩; have HB := Lib.hid (Ext.trans HB.out hb1); clear hb1) | (go_at_call_of 55 (Value.int IntKind.u8 42); refine (DMul.out _).mono ?_; rintro e w1 ⟨rfl, hb1⟩; have HB := Lib.hid (Ext.trans HB.out hb1); clear hb1) | (go_at_call 47; refine (NDiv.out _).mono ?_; rintro e w1 ⟨rfl, hb1⟩; have HB := Lib.hid (Ext.trans HB.out hb1); clear hb1) | (go_at_call_of 55 (Value.int IntKind.u8 47); refine (DDiv.out _).mono ?_; rintro e w1 ⟨rfl, hb1⟩; have HB := Lib.hid (Ext.trans HB.out hb1); clear hb1) | (go_at_call 48; refine (NRem.out _).mono ?_; rintro e w1 ⟨rfl, hb1⟩; have HB := Lib.hid (Ext.trans HB.out hb1); clear hb1) | (go_at_call_of 55 (Value.int IntKind.u8 37); refine (DRem.out _).mono ?_; rintro e w1 ⟨rfl, hb1⟩; have HB := Lib.hid (Ext.trans HB.out hb1); clear hb1) | (go_at_call 46; refine (NLess.out _).mono ?_; rintro e w1 ⟨rfl, hb1⟩; have HB := Lib.hid (Ext.trans HB.out hb1); clear hb1) | (go_at_call_of 55 (Value.int IntKind.u8 60); refine (DLess.out _).mono ?_; rintro e w1 ⟨rfl, hb1⟩; have HB := Lib.hid (Ext.trans HB.out hb1); clear hb1))
  go_ret
  exact ⟨rfl, HB.out⟩
set_option maxHeartbeats 8000000 in
theorem does_none (a b v : Int) (s : Bool)
    (nW : ∀ w : World, Calls Try.prog 34 #[.int .i64 v] w fun e w' => e = .returned (.bool false) ∧ Below w.heap.size w w')
    (nR : ∀ w : World, Calls Try.prog 50 #[.int .i64 v] w fun e w' => e = .returned (.bool false) ∧ Below w.heap.size w w')
    (nC : ∀ w : World, Calls Try.prog 36 #[.int .u64 a, .int .i64 v] w fun e w' => e = .returned (.tuple #[.int .u64 0, .int .i64 1]) ∧ Below w.heap.size w w')
    (nS : ∀ w : World, Calls Try.prog 49 #[.int .u64 a, .int .i64 v] w fun e w' => e = .returned (.tuple #[.int .i64 0, .int .i64 1]) ∧ Below w.heap.size w w')
    (nAdd : ∀ w : World, Calls Try.prog 35 #[.int .u64 a, .int .u64 b, .int .i64 v] w fun e w' => e = .returned (.tuple #[.int .u64 0, .int .i64 1]) ∧ Below w.heap.size w w')
    (dAdd : ∀ w : World, Calls Try.prog 55 #[.int .u8 43, .int .u64 a, .int .u64 b, .int .i64 v, .bool s] w fun e w' => e = .returned (.tuple #[.int .u64 0, .int .i64 1]) ∧ Below w.heap.size w w')
    (nSub : ∀ w : World, Calls Try.prog 40 #[.int .u64 a, .int .u64 b, .int .i64 v] w fun e w' => e = .returned (.tuple #[.int .u64 0, .int .i64 1]) ∧ Below w.heap.size w w')
    (dSub : ∀ w : World, Calls Try.prog 55 #[.int .u8 45, .int .u64 a, .int .u64 b, .int .i64 v, .bool s] w fun e w' => e = .returned (.tuple #[.int .u64 0, .int .i64 1]) ∧ Below w.heap.size w w')
    (nMul : ∀ w : World, Calls Try.prog 39 #[.int .u64 a, .int .u64 b, .int .i64 v] w fun e w' => e = .returned (.tuple #[.int .u64 0, .int .i64 1]) ∧ Below w.heap.size w w')
    (dMul : ∀ w : World, Calls Try.prog 55 #[.int .u8 42, .int .u64 a, .int .u64 b, .int .i64 v, .bool s] w fun e w' => e = .returned (.tuple #[.int .u64 0, .int .i64 1]) ∧ Below w.heap.size w w')
    (nDiv : ∀ w : World, Calls Try.prog 47 #[.int .u64 a, .int .u64 b, .int .i64 v, .bool s] w fun e w' => e = .returned (.tuple #[.int .u64 0, .int .i64 1]) ∧ Below w.heap.size w w')
    (dDiv : ∀ w : World, Calls Try.prog 55 #[.int .u8 47, .int .u64 a, .int .u64 b, .int .i64 v, .bool s] w fun e w' => e = .returned (.tuple #[.int .u64 0, .int .i64 1]) ∧ Below w.heap.size w w')
    (nRem : ∀ w : World, Calls Try.prog 48 #[.int .u64 a, .int .u64 b, .int .i64 v, .bool s] w fun e w' => e = .returned (.tuple #[.int .u64 0, .int .i64 1]) ∧ Below w.heap.size w w')
    (dRem : ∀ w : World, Calls Try.prog 55 #[.int .u8 37, .int .u64 a, .int .u64 b, .int .i64 v, .bool s] w fun e w' => e = .returned (.tuple #[.int .u64 0, .int .i64 1]) ∧ Below w.heap.size w w')
    (nLess : ∀ w : World, Calls Try.prog 46 #[.int .u64 a, .int .u64 b, .int .i64 v, .bool s] w fun e w' => e = .returned (.tuple #[.bool false, .int .i64 1]) ∧ Below w.heap.size w w')
    (dLess : ∀ w : World, Calls Try.prog 55 #[.int .u8 60, .int .u64 a, .int .u64 b, .int .i64 v, .bool s] w fun e w' => e = .returned (.tuple #[.int .u64 0, .int .i64 1]) ∧ Below w.heap.size w w')
    (w : World) :
    Calls Try.prog 13 #[.int .u64 a, .int .u64 b, .int .i64 v, .bool s] w fun e w' => e = .returned (.bool true) ∧ Below w.heap.size w w' := by
  have NW := Lib.hid nW
  have NR := Lib.hid nR
  have NC := Lib.hid nC
  have NS := Lib.hid nS
  have NAdd := Lib.hid nAdd
  have DAdd := Lib.hid dAdd
  have NSub := Lib.hid nSub
  have DSub := Lib.hid dSub
  have NMul := Lib.hid nMul
  have DMul := Lib.hid dMul
  have NDiv := Lib.hid nDiv
  have DDiv := Lib.hid dDiv
  have NRem := Lib.hid nRem
  have DRem := Lib.hid dRem
  have NLess := Lib.hid nLess
  have DLess := Lib.hid dLess
  clear nW nR nC nS nAdd dAdd nSub dSub nMul dMul nDiv dDiv nRem dRem nLess dLess
  go_enter Try.func13, Try.ntmps13
  go_wp2_with (first | (go_at_call 36; refine (NC.out _).mono ?_; rintro e w1 ⟨rfl, hb1⟩; have HB := Lib.hid hb1; clear hb1) | (go_at_call 34; refine (NW.out _).mono ?_; rintro e w1 ⟨rfl, hb1⟩; have HB := Lib.hid (Ext.trans HB.out hb1); clear hb1) | (go_at_call 50; refine (NR.out _).mono ?_; rintro e w1 ⟨rfl, hb1⟩; have HB := Lib.hid (Ext.trans HB.out hb1); clear hb1) | (go_at_call 49; refine (NS.out _).mono ?_; rintro e w1 ⟨rfl, hb1⟩; have HB := Lib.hid (Ext.trans HB.out hb1); clear hb1) | (go_at_call 35; refine (NAdd.out _).mono ?_; rintro e w1 ⟨rfl, hb1⟩; have HB := Lib.hid (Ext.trans HB.out hb1); clear hb1) | (go_at_call_of 55 (Value.int IntKind.u8 43); refine (DAdd.out _).mono ?_; rintro e w1 ⟨rfl, hb1⟩; have HB := Lib.hid (Ext.trans HB.out hb1); clear hb1) | (go_at_call 40; refine (NSub.out _).mono ?_; rintro e w1 ⟨rfl, hb1⟩; have HB := Lib.hid (Ext.trans HB.out hb1); clear hb1) | (go_at_call_of 55 (Value.int IntKind.u8 45); refine (DSub.out _).mono ?_; rintro e w1 ⟨rfl, hb1⟩; have HB := Lib.hid (Ext.trans HB.out hb1); clear hb1) | (go_at_call 39; refine (NMul.out _).mono ?_; rintro e w1 ⟨rfl, hb1⟩; have HB := Lib.hid (Ext.trans HB.out hb1); clear hb1) | (go_at_call_of 55 (Value.int IntKind.u8 42); refine (DMul.out _).mono ?_; rintro e w1 ⟨rfl, hb1⟩; have HB := Lib.hid (Ext.trans HB.out hb1); clear hb1) | (go_at_call 47; refine (NDiv.out _).mono ?_; rintro e w1 ⟨rfl, hb1⟩; have HB := Lib.hid (Ext.trans HB.out hb1); clear hb1) | (go_at_call_of 55 (Value.int IntKind.u8 47); refine (DDiv.out _).mono ?_; rintro e w1 ⟨rfl, hb1⟩; have HB := Lib.hid (Ext.trans HB.out hb1); clear hb1) | (go_at_call 48; refine (NRem.out _).mono ?_; rintro e w1 ⟨rfl, hb1⟩; have HB := Lib.hid (Ext.trans HB.out hb1); clear hb1) | (go_at_call_of 55 (Value.int IntKind.u8 37); refine (DRem.out _).mono ?_; rintro e w1 ⟨rfl, hb1⟩; have HB := Lib.hid (Ext.trans HB.out hb1); clear hb1) | (go_at_call 46; refine (NLess.out _).mono ?_; rintro e w1 ⟨rfl, hb1⟩; have HB := Lib.hid (Ext.trans HB.out hb1); clear hb1) | (go_at_call_of 55 (Value.int IntKind.u8 60); refine (DLess.out _).mono ?_; rintro e w1 ⟨rfl, hb1⟩; have HB := Lib.hid (Ext.trans HB.out hb1); clear hb1))
  go_ret
  exact ⟨rfl, HB.out⟩
end Go.Proofs.Ytgpjhbaehhjdhaa
