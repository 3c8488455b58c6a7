/- check.Check: its contract. No condition. (NOT BUILT) -/
import Derived.Test.YthdckndjggljpaaD23
namespace Go.Proofs.Ythdckndjggljpaa
open Go.RowKit Go.Maps
set_option linter.unusedVariables false
set_option linter.unusedSimpArgs false
set_option maxRecDepth 100000
theorem program_ok (w : World) (P0 : Pg) (v0 v1 : Value) (hp : PgIn w (fun _ => True) P0 v0 v1) (hw : Pg.Wf P0) : Calls Try.prog 14 #[.agg #[v0, v1]] w (PrR w P0 v0 v1 (Ck.check P0)) := by
  by_cases hz : Pg.wrong P0 = 0
  · exact program_good w P0 v0 v1 hp hw hz
  · exact program_bad w P0 v0 v1 hp hw hz
set_option maxHeartbeats 8000000 in
/-- THE FIRST THING THAT IS WRONG WITH A PROGRAM. -/
theorem check_ok (w : World) (P0 : Pg) (v0 v1 : Value) (hp : PgIn w (fun _ => True) P0 v0 v1) (hw : Pg.Wf P0) : Calls Try.prog 6 #[.agg #[v0, v1]] w fun e w' => e = .returned (.agg #[.int .i64 (Ck.check P0).1, .int .i64 ((Ck.check P0).2 : Int)]) ∧ Below w.heap.size w w' := by
  obtain ⟨a0, c0, e0, _⟩ := hp.1.parts
  obtain ⟨a1, c1, e1, _⟩ := hp.2.parts
  subst e0 e1
  obtain ⟨R, hR⟩ : ∃ R, R = Ck.check P0 := ⟨_, rfl⟩
  have HP : Hid (∀ w1, Below w.heap.size w w1 → Calls Try.prog 14 #[.agg #[.slice a0 P0.gs.length c0, .slice a1 P0.fs.length c1]] w1 (PrR w1 P0 (.slice a0 P0.gs.length c0) (.slice a1 P0.fs.length c1) R)) := fun w1 hb => by rw [hR]; exact program_ok w1 P0 _ _ (hp.keep hb) hw
  rw [← hR]
  have HB0 : Hid (Blk ((w.alloc (.cells #[.slice a0 P0.gs.length c0, .slice a1 P0.fs.length c1] 25)).alloc (.cells #[.int .i64 0, .int .i64 0] 29)) (w.heap.size + 1) 29 #[.int .i64 0, .int .i64 0]) := Blk.newAt _ _ (by simp)
  clear hR hp hw
  obtain ⟨er, ap⟩ := R
  go_enter Try.func6, Try.ntmps6
  go_upto_region 2 with (first | (go_at_call 14; refine (HP.out _ (Ext.alloc (Ext.alloc (Below.refl _ _) _) _)).mono ?_; rintro e w2 ⟨tv, rfl, hb2, _⟩; have HB2 := Lib.hid (Ext.trans (Ext.alloc (Ext.alloc (Below.refl _ _) _) _) hb2 : Below w.heap.size w w2); have HF2 := Lib.hid (HB0.out.keep hb2); clear hb2))
  generalize hw3 : World.alloc _ _ = w3
  have HW3 : Hid (Blk w3 w2.heap.size 29 #[.int .i64 er, .int .i64 (ap : Int)] ∧ Blk w3 (w.heap.size + 1) 29 #[.int .i64 0, .int .i64 0] ∧ Below w.heap.size w w3) := by
    subst hw3; exact ⟨Blk.new _ _ _, HF2.out.alloc _, Ext.alloc HB2.out _⟩
  have x0 := HW3.out.1.cell 0; have x1 := HW3.out.1.cell 1
  have xl := HW3.out.1.lt
  have f0 := HW3.out.2.1.cell 0; have f1 := HW3.out.2.1.cell 1; have f2 := HW3.out.2.1.frozen 0; have f3 := HW3.out.2.1.frozen 1; have f4 := HW3.out.2.1.lt
  clear hw3
  go_wp2
  generalize hW : World.setCell _ _ _ = wz
  have HW : Hid (Blk wz (w.heap.size + 1) 29 #[.int .i64 er, .int .i64 (ap : Int)] ∧ Below w.heap.size w wz) := by
    subst hW
    exact ⟨two_set HW3.out.2.1 _ _, Ext.setCell (Ext.setCell HW3.out.2.2 (Nat.le_succ _) _) (Nat.le_succ _) _⟩
  clear hW f0 f1 f2 f3
  have q0 := HW.out.1.cell 0; have q1 := HW.out.1.cell 1
  have ql := HW.out.1.lt
  exact bodyPost_ret (v := .agg #[.int .i64 er, .int .i64 (ap : Int)]) (by simp [results, Try.results6, go_sem, q0, q1, ql]) rfl ⟨rfl, HW.out.2⟩
end Go.Proofs.Ythdckndjggljpaa
/- The law of chapter 9: it is alive. No condition. (NOT BUILT) -/
namespace Go.Proofs.Ythdckndjggljpaa
open Go.RowKit Go.Maps
set_option linter.unusedVariables false
set_option linter.unusedSimpArgs false
set_option maxRecDepth 100000
theorem check_nothing : Ck.check ⟨[], []⟩ = (6, 0) := by
  have hz : Pg.wrong ⟨[], []⟩ = 0 := by decide
  exact (Ck.check_main (n := 0) (n2 := 0) (n3 := 0) (tk := [Ck.put, Ck.get]) hz (by show Ck.globs 0 _ 0 [] = _; rw [Ck.globs]) rfl rfl).trans (if_pos rfl)
set_option maxHeartbeats 8000000 in
theorem alive9_ok (w : World) : Calls Try.prog 5 #[] w fun e w' => e = .returned (.bool true) ∧ Below w.heap.size w w' := by
  have HC : Hid (∀ w1 : World, Calls Try.prog 6 #[.agg #[.slice none 0 0, .slice none 0 0]] w1 fun e w' => e = .returned (.agg #[.int .i64 6, .int .i64 0]) ∧ Below w1.heap.size w1 w') := fun w1 => by
    have h0 := check_ok w1 ⟨[], []⟩ (.slice none 0 0) (.slice none 0 0) ⟨Row.nil _ _ _ _, Row.nil _ _ _ _⟩ ⟨fun y hy => by simp at hy, fun y hy => by simp at hy⟩
    rw [check_nothing] at h0
    exact h0
  have hfd : ∀ (x y : Int) (w : World), (Instr.field 29 (.agg #[.int .i64 x, .int .i64 y]) 0).run Try.prog w = .ok (.int .i64 x) w := fun x y w => by simp [Instr.field, asAgg, go_sem]
  go_enter Try.func5, Try.ntmps5
  go_wp2_with (first | (go_at_call 6; refine (HC.out _).mono ?_; rintro e w2 ⟨rfl, hb2⟩; have HB2 := Lib.hid hb2; clear hb2))
  go_ret
  exact ⟨rfl, HB2.out⟩
end Go.Proofs.Ythdckndjggljpaa
