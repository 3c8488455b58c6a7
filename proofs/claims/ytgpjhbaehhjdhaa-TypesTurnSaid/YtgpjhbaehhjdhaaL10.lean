/- TypesTurn: its walk. -/
import Derived.Test.YtgpjhbaehhjdhaaL9
namespace Go.Proofs.Ytgpjhbaehhjdhaa
open Go.ChangeShapes Go.WideShapes Go.ChangeAt Go.RowKit
set_option linter.unusedVariables false
set_option linter.unusedSimpArgs false
set_option maxRecDepth 100000

theorem bytes_back (l : ByteArray) : (⟨l.data.toList.toArray⟩ : ByteArray) = l := by simp

set_option maxHeartbeats 10000000 in
theorem turn_raw (a B : Int) (s S O : Bool) (l : ByteArray) (w : World)
    (NV : Hid (∀ w : World, Calls Try.prog 56 #[W.ty a s] w fun e w' => e = .returned (.bool true) ∧ Below w.heap.size w w'))
    (NN : Hid (∀ w : World, Calls Try.prog 58 #[W.ty a s] w fun e w' => e = .returned (encStr (W.tn a s)) ∧ Below w.heap.size w w'))
    (ND : Hid (∀ w : World, Calls Try.prog 60 #[encStr (W.tn a s)] w fun e w' => e = .returned (.tuple #[W.ty a s, .bool true]) ∧ Below w.heap.size w w'))
    (NL : Hid (∀ w : World, Calls Try.prog 60 #[.string l] w fun e w' => e = .returned (.tuple #[W.ty B S, .bool O]) ∧ Below w.heap.size w w'))
    (MV : Hid (O = true → ∀ w : World, Calls Try.prog 56 #[W.ty B S] w fun e w' => e = .returned (.bool true) ∧ Below w.heap.size w w'))
    (MN : Hid (O = true → ∀ w : World, Calls Try.prog 58 #[W.ty B S] w fun e w' => e = .returned (.string l) ∧ Below w.heap.size w w')) :
    Calls Try.prog 19 #[W.ty a s, .string l] w fun e w' => e = .returned (.bool true) ∧ Below w.heap.size w w' := by
  cases O
  · go_enter Try.func19, Try.ntmps19
    go_wp2_with (first | (go_at_call 73; refine (alive7 _).mono ?_; rintro e w1 ⟨rfl, hb1⟩; have HB := Lib.hid (Ext.trans (Ext.alloc (Below.refl w.heap.size w) _) hb1); obtain ⟨x0, x1, x2, x3⟩ := Ty.below (Ty.new w rfl a s 66) hb1; clear hb1) | (go_at_call_of 56 (Value.agg #[Value.int IntKind.i64 a, Value.bool s]); refine (NV.out _).mono ?_; rintro e w2 ⟨rfl, hb2⟩; have HB := Lib.hid (Ext.trans HB.out hb2); obtain ⟨x0, x1, x2, x3⟩ := Ty.below (⟨x0, x1, x2, x3⟩ : Ty _ w.heap.size a s) hb2; clear hb2) | (go_at_call_of 58 (Value.agg #[Value.int IntKind.i64 a, Value.bool s]); refine (NN.out _).mono ?_; rintro e w3 ⟨rfl, hb3⟩; have HB := Lib.hid (Ext.trans HB.out hb3); obtain ⟨x0, x1, x2, x3⟩ := Ty.below (⟨x0, x1, x2, x3⟩ : Ty _ w.heap.size a s) hb3; clear hb3) | (go_at_call_of 60 (Value.string l); refine (NL.out _).mono ?_; rintro e w5 ⟨rfl, hb5⟩; have HB := Lib.hid (Ext.trans (Ext.alloc HB.out (.cells #[.int .i64 a, .bool s] 66)) hb5); clear hb5) | (go_at_call 60; refine (ND.out _).mono ?_; rintro e w4 ⟨rfl, hb4⟩; have HB := Lib.hid (Ext.trans HB.out hb4); obtain ⟨x0, x1, x2, x3⟩ := Ty.below (⟨x0, x1, x2, x3⟩ : Ty _ w.heap.size a s) hb4; have hlt := World.block_lt_of_cell? _ _ x0; clear hb4))
    go_ret
    exact ⟨rfl, Ext.alloc HB.out _⟩
  · have MV2 := Lib.hid (MV.out rfl); have MN2 := Lib.hid (MN.out rfl); clear MV MN
    go_enter Try.func19, Try.ntmps19
    go_wp2_with (first | (go_at_call 73; refine (alive7 _).mono ?_; rintro e w1 ⟨rfl, hb1⟩; have HB := Lib.hid (Ext.trans (Ext.alloc (Below.refl w.heap.size w) _) hb1); obtain ⟨x0, x1, x2, x3⟩ := Ty.below (Ty.new w rfl a s 66) hb1; clear hb1) | (go_at_call_of 56 (Value.agg #[Value.int IntKind.i64 a, Value.bool s]); refine (NV.out _).mono ?_; rintro e w2 ⟨rfl, hb2⟩; have HB := Lib.hid (Ext.trans HB.out hb2); obtain ⟨x0, x1, x2, x3⟩ := Ty.below (⟨x0, x1, x2, x3⟩ : Ty _ w.heap.size a s) hb2; clear hb2) | (go_at_call_of 58 (Value.agg #[Value.int IntKind.i64 a, Value.bool s]); refine (NN.out _).mono ?_; rintro e w3 ⟨rfl, hb3⟩; have HB := Lib.hid (Ext.trans HB.out hb3); obtain ⟨x0, x1, x2, x3⟩ := Ty.below (⟨x0, x1, x2, x3⟩ : Ty _ w.heap.size a s) hb3; clear hb3) | (go_at_call_of 60 (Value.string l); refine (NL.out _).mono ?_; rintro e w5 ⟨rfl, hb5⟩; have HB := Lib.hid (Ext.trans (Ext.alloc HB.out (.cells #[.int .i64 a, .bool s] 66)) hb5); clear hb5) | (go_at_call 60; refine (ND.out _).mono ?_; rintro e w4 ⟨rfl, hb4⟩; have HB := Lib.hid (Ext.trans HB.out hb4); obtain ⟨x0, x1, x2, x3⟩ := Ty.below (⟨x0, x1, x2, x3⟩ : Ty _ w.heap.size a s) hb4; have hlt := World.block_lt_of_cell? _ _ x0; clear hb4) | (go_at_call 56; refine (MV2.out _).mono ?_; rintro e w6 ⟨rfl, hb6⟩; have HB := Lib.hid (Ext.trans (Ext.alloc HB.out (.cells #[.int .i64 B, .bool S] 66)) hb6); obtain ⟨z0, z1, z2, z3⟩ := Ty.below (Ty.new w5 rfl B S 66) hb6; clear hb6) | (go_at_call 58; refine (MN2.out _).mono ?_; rintro e w7 ⟨rfl, hb7⟩; have HB := Lib.hid (Ext.trans HB.out hb7); clear hb7))
    go_ret
    exact ⟨rfl, HB.out⟩
set_option maxHeartbeats 10000000 in
theorem turn_no (a B : Int) (s S O : Bool) (l : ByteArray) (w : World)
    (NV : Hid (∀ w : World, Calls Try.prog 56 #[W.ty a s] w fun e w' => e = .returned (.bool false) ∧ Below w.heap.size w w'))
    (NL : Hid (∀ w : World, Calls Try.prog 60 #[.string l] w fun e w' => e = .returned (.tuple #[W.ty B S, .bool O]) ∧ Below w.heap.size w w'))
    (MV : Hid (O = true → ∀ w : World, Calls Try.prog 56 #[W.ty B S] w fun e w' => e = .returned (.bool true) ∧ Below w.heap.size w w'))
    (MN : Hid (O = true → ∀ w : World, Calls Try.prog 58 #[W.ty B S] w fun e w' => e = .returned (.string l) ∧ Below w.heap.size w w')) :
    Calls Try.prog 19 #[W.ty a s, .string l] w fun e w' => e = .returned (.bool true) ∧ Below w.heap.size w w' := by
  cases O
  · go_enter Try.func19, Try.ntmps19
    go_wp2_with (first | (go_at_call 73; refine (alive7 _).mono ?_; rintro e w1 ⟨rfl, hb1⟩; have HB := Lib.hid (Ext.trans (Ext.alloc (Below.refl w.heap.size w) _) hb1); obtain ⟨x0, x1, x2, x3⟩ := Ty.below (Ty.new w rfl a s 66) hb1; clear hb1) | (go_at_call_of 56 (Value.agg #[Value.int IntKind.i64 a, Value.bool s]); refine (NV.out _).mono ?_; rintro e w2 ⟨rfl, hb2⟩; have HB := Lib.hid (Ext.trans HB.out hb2); obtain ⟨x0, x1, x2, x3⟩ := Ty.below (⟨x0, x1, x2, x3⟩ : Ty _ w.heap.size a s) hb2; clear hb2) | (go_at_call_of 60 (Value.string l); refine (NL.out _).mono ?_; rintro e w5 ⟨rfl, hb5⟩; have HB := Lib.hid (Ext.trans HB.out hb5); clear hb5))
    go_ret
    exact ⟨rfl, Ext.alloc HB.out _⟩
  · have MV2 := Lib.hid (MV.out rfl); have MN2 := Lib.hid (MN.out rfl); clear MV MN
    go_enter Try.func19, Try.ntmps19
    go_wp2_with (first | (go_at_call 73; refine (alive7 _).mono ?_; rintro e w1 ⟨rfl, hb1⟩; have HB := Lib.hid (Ext.trans (Ext.alloc (Below.refl w.heap.size w) _) hb1); obtain ⟨x0, x1, x2, x3⟩ := Ty.below (Ty.new w rfl a s 66) hb1; clear hb1) | (go_at_call_of 56 (Value.agg #[Value.int IntKind.i64 a, Value.bool s]); refine (NV.out _).mono ?_; rintro e w2 ⟨rfl, hb2⟩; have HB := Lib.hid (Ext.trans HB.out hb2); obtain ⟨x0, x1, x2, x3⟩ := Ty.below (⟨x0, x1, x2, x3⟩ : Ty _ w.heap.size a s) hb2; clear hb2) | (go_at_call_of 60 (Value.string l); refine (NL.out _).mono ?_; rintro e w5 ⟨rfl, hb5⟩; have HB := Lib.hid (Ext.trans HB.out hb5); clear hb5) | (go_at_call 56; refine (MV2.out _).mono ?_; rintro e w6 ⟨rfl, hb6⟩; have HB := Lib.hid (Ext.trans (Ext.alloc HB.out (.cells #[.int .i64 B, .bool S] 66)) hb6); obtain ⟨z0, z1, z2, z3⟩ := Ty.below (Ty.new w5 rfl B S 66) hb6; clear hb6) | (go_at_call 58; refine (MN2.out _).mono ?_; rintro e w7 ⟨rfl, hb7⟩; have HB := Lib.hid (Ext.trans HB.out hb7); clear hb7))
    go_ret
    exact ⟨rfl, HB.out⟩
theorem turn_walk (a : Int) (s : Bool) (wa : (Lit.int .i64 a).wf = true) (l : ByteArray) (hl : l.size ≤ maxLen) (w : World) :
    Calls Try.prog 19 #[W.ty a s, .string l] w fun e w' => e = .returned (.bool true) ∧ Below w.heap.size w w' := by
  have hm : ∀ b : Bool, (W.nt l.data.toList).2.2 = true → W.ok (W.nt l.data.toList).1 ∧ W.tn (W.nt l.data.toList).1 (W.nt l.data.toList).2.1 = l.data.toList := fun _ h => W.nt_ok _ h
  have hn : ∀ (c : Int) (t : Bool), W.ok c → W.name c t = W.tn c t := fun c t h => by
    unfold W.name; rw [if_neg (by rcases h with rfl | rfl | rfl | rfl <;> decide), if_pos (by unfold W.ok at h; exact h)]
  have MV : Hid ((W.nt l.data.toList).2.2 = true → ∀ w : World, Calls Try.prog 56 #[W.ty (W.nt l.data.toList).1 (W.nt l.data.toList).2.1] w fun e w' => e = .returned (.bool true) ∧ Below w.heap.size w w') := fun h w => valid_ok _ _ (hm true h).1 w
  have MN : Hid ((W.nt l.data.toList).2.2 = true → ∀ w : World, Calls Try.prog 58 #[W.ty (W.nt l.data.toList).1 (W.nt l.data.toList).2.1] w fun e w' => e = .returned (.string l) ∧ Below w.heap.size w w') := fun h w => by
    refine (name_ok _ _ w).mono ?_
    rintro e w' ⟨rfl, hb⟩
    exact ⟨W.ret1 (by rw [hn _ _ (hm true h).1, (hm true h).2]; first | done | (show Value.string _ = _; rw [bytes_back])), hb⟩
  by_cases h : W.ok a
  · refine turn_raw a _ s _ _ l w (fun w => valid_ok a s h w) (fun w => by rw [← hn a s h]; exact name_ok a s w) (fun w => ?_) (fun w => named_ok l hl w) MV MN
    have := named_ok ⟨(W.tn a s).toArray⟩ (by rcases h with rfl | rfl | rfl | rfl <;> cases s <;> decide) w
    have e : (⟨(W.tn a s).toArray⟩ : ByteArray).data.toList = W.tn a s := rfl
    rw [e, W.nt_tn a s h] at this
    exact this
  · exact turn_no a _ s _ _ l w (fun w => valid_no a s h w) (fun w => named_ok l hl w) MV MN
end Go.Proofs.Ytgpjhbaehhjdhaa
