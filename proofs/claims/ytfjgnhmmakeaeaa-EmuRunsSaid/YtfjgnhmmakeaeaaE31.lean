/- Walks of instr.register, instr.Wrong (of instructions that are right) and instr.Encode. -/
import Derived.Test.YtfjgnhmmakeaeaaE6
import Derived.Test.YtfjgnhmmakeaeaaB3
import Derived.LoopTactic
namespace Go.Proofs.Ytfjgnhmmakeaeaa
open Go.RowKit
set_option linter.unusedVariables false
set_option linter.unusedSimpArgs false
set_option maxRecDepth 100000

/-- An instruction as it is written. -/
structure U.In where
  op : Int
  d : Int
  s : Int
  imm : Int
/-- It is right. -/
structure U.In.Ok (i : U.In) : Prop where
  op : 0 ≤ i.op ∧ i.op ≤ 32
  d : U.hd i.op = true → 0 ≤ i.d ∧ i.d ≤ 7
  s : U.hs i.op = true → 0 ≤ i.s ∧ i.s ≤ 7
  imm : U.hi i.op = true → 0 ≤ i.imm ∧ i.imm ≤ 65535
  bd : W.I i.d ∧ W.I i.s ∧ W.I i.imm
def U.word (i : U.In) : Int := i.op * 1024 + (if U.hd i.op = true then i.d * 128 else 0) + (if U.hs i.op = true then i.s * 16 else 0)
def U.enc (i : U.In) : List Int := U.word i :: (if U.hi i.op = true then [i.imm] else [])
abbrev U.inV (i : U.In) : Value := insV i.op i.d i.s i.imm
theorem or_d : ∀ (op : Fin 33) (d : Fin 8), bits .or .i64 ((op.val : Int) * 1024) ((d.val : Int) * 128) = (op.val : Int) * 1024 + (d.val : Int) * 128 := by decide +kernel
theorem or_s : ∀ (op : Fin 33) (d : Fin 8) (s : Fin 8), bits .or .i64 ((op.val : Int) * 1024 + (d.val : Int) * 128) ((s.val : Int) * 16) = (op.val : Int) * 1024 + (d.val : Int) * 128 + (s.val : Int) * 16 := by decide +kernel
theorem register_ok (x : Int) (h : 0 ≤ x ∧ x ≤ 7) (w : World) : Calls Try.prog 72 #[.int .i64 x] w fun e w' => e = .returned (.bool true) ∧ w = w' := by
  obtain ⟨h0, h1⟩ := h
  have e0 : decide (x ≥ 0) = true := by simpa using h0
  have e1 : decide (x ≤ 7) = true := by simpa using h1
  go_enter Try.func72, Try.ntmps72
  go_wp2
  go_ret
  exact ⟨rfl, rfl⟩
set_option maxHeartbeats 8000000 in
theorem iwrong_at (op d s imm : Int) (db sb ib : Bool) (hd : db = true → 0 ≤ d ∧ d ≤ 7) (hs : sb = true → 0 ≤ s ∧ s ≤ 7) (hi : ib = true → 0 ≤ imm ∧ imm ≤ 65535)
    (CO : ∀ w : World, Calls Try.prog 47 #[.int .i64 op] w fun e w' => e = .returned (usV db sb ib true) ∧ Below w.heap.size w w') (w : World) :
    Calls Try.prog 46 #[insV op d s imm] w fun e w' => e = .returned (.int .i64 0) ∧ Below w.heap.size w w' := by
  have HCO := Lib.hid CO
  have HD : Hid (db = true → ∀ w, Calls Try.prog 72 #[.int .i64 d] w fun e w' => e = .returned (.bool true) ∧ w = w') := fun h w => register_ok d (hd h) w
  have HS : Hid (sb = true → ∀ w, Calls Try.prog 72 #[.int .i64 s] w fun e w' => e = .returned (.bool true) ∧ w = w') := fun h w => register_ok s (hs h) w
  have HI : Hid (ib = true → ∀ w, Calls Try.prog 60 #[.int .i64 imm] w fun e w' => e = .returned (.bool true) ∧ w = w') := fun h w => by have := wordly_ok imm w; rwa [show U.wd imm = true by have := hi h; simp [U.wd]; omega] at this
  have HN := Lib.hid (In4.new w op d s imm 43)
  clear hd hs hi CO
  cases db <;> cases sb <;> cases ib
  all_goals
    go_enter Try.func46, Try.ntmps46
    go_wp2_with (first | (go_at_call 47; refine (HCO.out _).mono ?_; rintro e w1 ⟨rfl, hb1⟩; obtain ⟨i0, i1, i2, i3, j0, j1, j2, j3⟩ := HN.out.below hb1; have hl1 : w.heap.size < w1.heap.size := (by have := hb1.size; simp at this; omega); have HB1 := Lib.hid (Ext.trans (Ext.alloc (Below.refl w.heap.size w) _) hb1); clear hb1) | (go_at_call_of 72 (Value.int IntKind.i64 d); refine (HD.out (by first | rfl | trivial) _).mono ?_; rintro e w' ⟨rfl, rfl⟩) | (go_at_call_of 72 (Value.int IntKind.i64 s); refine (HS.out (by first | rfl | trivial) _).mono ?_; rintro e w' ⟨rfl, rfl⟩) | (go_at_call 60; refine (HI.out (by first | rfl | trivial) _).mono ?_; rintro e w' ⟨rfl, rfl⟩))
    go_ret
    exact ⟨rfl, Ext.alloc HB1.out _⟩
theorem iwrong_ok (i : U.In) (h : i.Ok) (w : World) : Calls Try.prog 46 #[U.inV i] w fun e w' => e = .returned (.int .i64 0) ∧ Below w.heap.size w w' := by
  refine iwrong_at i.op i.d i.s i.imm (U.hd i.op) (U.hs i.op) (U.hi i.op) h.d h.s h.imm (fun w => ?_) w
  have := of_any i.op w
  rwa [show U.hk i.op = true by have := h.op; simp [U.hk]; omega] at this
end Go.Proofs.Ytfjgnhmmakeaeaa
