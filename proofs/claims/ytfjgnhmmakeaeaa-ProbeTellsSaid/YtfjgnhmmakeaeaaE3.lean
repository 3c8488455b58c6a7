/- The walk of instr.One. -/
import Derived.Test.YtfjgnhmmakeaeaaB5
namespace Go.Proofs.Ytfjgnhmmakeaeaa
open Go.RowKit
set_option linter.unusedVariables false
set_option linter.unusedSimpArgs false
set_option maxRecDepth 100000

abbrev insV (op d s imm : Int) : Value := .agg #[.int .i64 op, .int .i64 d, .int .i64 s, .int .i64 imm]
/-- An instruction and how many words it is. -/
def OneR (op d s imm n : Int) (w : World) (e : Ending) (w' : World) : Prop := e = .returned (.tuple #[insV op d s imm, .int .i64 n]) ∧ Below w.heap.size w w'
set_option maxHeartbeats 4000000 in
theorem one_low (v : Value) (a : Option Addr) (n cap : Nat) (hv : v = .slice a n cap) (pc : Int) (h : pc < 0) (w : World) : Calls Try.prog 42 #[v, .int .i64 pc] w (OneR 0 0 0 0 0 w) := by
  subst hv
  go_enter Try.func42, Try.ntmps42
  go_wp2
  exact bodyPost_ret (v := .tuple #[insV 0 0 0 0, .int .i64 0]) (by simp [results, Try.results42, go_sem]) rfl ⟨rfl, by repeat (first | exact Below.refl _ _ | refine Ext.setCell ?_ (by simp) _ | refine Ext.alloc ?_ _)⟩
set_option maxHeartbeats 4000000 in
theorem one_high (a : Option Addr) (n cap k : Nat) (h : n ≤ k) (w : World) : Calls Try.prog 42 #[.slice a n cap, .int .i64 (k : Int)] w (OneR 0 0 0 0 0 w) := by
  have h1 : decide (n ≤ k) = true := by simpa using h
  have h2 : decide ((k : Int) < 0) = false := by simp
  clear h
  go_enter Try.func42, Try.ntmps42
  go_wp2
  exact bodyPost_ret (v := .tuple #[insV 0 0 0 0, .int .i64 0]) (by simp [results, Try.results42, go_sem]) rfl ⟨rfl, by repeat (first | exact Below.refl _ _ | refine Ext.setCell ?_ (by simp) _ | refine Ext.alloc ?_ _)⟩
set_option maxHeartbeats 4000000 in
theorem one_word (b off n cap k : Nat) (x : Int) (h : k < n) (hm : n ≤ 9223372036854775807) (hx : U.wd x = false) (w : World) (hc : w.cell? ⟨b, off + k, none⟩ = some (.int .i64 x)) : Calls Try.prog 42 #[.slice (some ⟨b, off, none⟩) n cap, .int .i64 (k : Int)] w (OneR 0 0 0 0 0 w) := by
  have h1 : decide (n ≤ k) = false := by simp; omega
  have h2 : decide ((k : Int) < 0) = false := by simp
  have CW : Hid (∀ w : World, Calls Try.prog 60 #[.int .i64 x] w fun e w' => e = .returned (.bool false) ∧ w = w') := fun w => by rw [← hx]; exact wordly_ok x w
  clear hx
  have hb : b < w.heap.size := World.block_lt_of_cell? w ⟨b, off + k, none⟩ hc
  go_enter Try.func42, Try.ntmps42
  go_wp2_with (first | (go_at_call 60; refine (CW.out _).mono ?_; rintro e w' ⟨rfl, rfl⟩))
  exact bodyPost_ret (v := .tuple #[insV 0 0 0 0, .int .i64 0]) (by simp [results, Try.results42, go_sem]) rfl ⟨rfl, by repeat (first | exact Below.refl _ _ | refine Ext.setCell ?_ (by simp) _ | refine Ext.alloc ?_ _)⟩
/-- Four cells of a block: an instruction. -/
structure In4 (w : World) (B : Nat) (a b c d : Int) : Prop where
  h0 : w.cell? ⟨B, 0, none⟩ = some (.int .i64 a)
  h1 : w.cell? ⟨B, 1, none⟩ = some (.int .i64 b)
  h2 : w.cell? ⟨B, 2, none⟩ = some (.int .i64 c)
  h3 : w.cell? ⟨B, 3, none⟩ = some (.int .i64 d)
  f0 : w.frozen? ⟨B, 0, none⟩ = false
  f1 : w.frozen? ⟨B, 1, none⟩ = false
  f2 : w.frozen? ⟨B, 2, none⟩ = false
  f3 : w.frozen? ⟨B, 3, none⟩ = false
theorem In4.lt {w : World} {B : Nat} {a b c d : Int} (h : In4 w B a b c d) : B < w.heap.size := World.block_lt_of_cell? w ⟨B, 0, none⟩ h.h0
theorem In4.below {w w' : World} {B : Nat} {a b c d : Int} (h : In4 w B a b c d) (hb : Below w.heap.size w w') : In4 w' B a b c d := by
  have hl := h.lt
  obtain ⟨hc, hf⟩ := bcell hb
  exact ⟨by rw [hc B _ hl]; exact h.h0, by rw [hc B _ hl]; exact h.h1, by rw [hc B _ hl]; exact h.h2, by rw [hc B _ hl]; exact h.h3, by rw [hf B _ hl]; exact h.f0, by rw [hf B _ hl]; exact h.f1, by rw [hf B _ hl]; exact h.f2, by rw [hf B _ hl]; exact h.f3⟩
theorem In4.new (w : World) (a b c d : Int) (t : TypeId) : In4 (w.alloc (.cells #[.int .i64 a, .int .i64 b, .int .i64 c, .int .i64 d] t)) w.heap.size a b c d := by
  refine ⟨?_, ?_, ?_, ?_, ?_, ?_, ?_, ?_⟩ <;> simp [go_sem]
/-- While One runs: what it gives back, and what it has read. -/
structure On (w : World) (OP D S : Int) (wi : World) : Prop where
  ext : Below w.heap.size w wi
  r : In4 wi w.heap.size 0 0 0 0
  i : In4 wi (w.heap.size + 1) OP D S 0
theorem On.below {w wi w' : World} {OP D S : Int} (h : On w OP D S wi) (hb : Below wi.heap.size wi w') : On w OP D S w' := ⟨Ext.trans h.ext hb, h.r.below hb, h.i.below hb⟩
theorem In4.start (w : World) (OP D S : Int) : On w OP D S ((w.alloc (.cells #[.int .i64 0, .int .i64 0, .int .i64 0, .int .i64 0] 43)).alloc (.cells #[.int .i64 OP, .int .i64 D, .int .i64 S, .int .i64 0] 43)) :=
  ⟨Ext.alloc (Ext.alloc (Below.refl _ _) _) _, (In4.new w 0 0 0 0 43).below (Ext.alloc (Below.refl _ _) _), by have := In4.new (w.alloc (.cells #[.int .i64 0, .int .i64 0, .int .i64 0, .int .i64 0] 43)) OP D S 0 43; simpa using this⟩
set_option maxHeartbeats 8000000 in
theorem one_bad (b off n cap k : Nat) (x OP D S Z : Int) (kb z db dz sb sz ib : Bool) (h : k < n) (hm : n ≤ 70000) (x0 : 0 ≤ x) (x1 : x ≤ 65535) (w : World) (hc : w.cell? ⟨b, off + k, none⟩ = some (.int .i64 x))
    (eO : x / 1024 = OP) (eD : bits .and .i64 (x / 128) 7 = D) (eS : bits .and .i64 (x / 16) 7 = S) (eZ : bits .and .i64 x 15 = Z) (hz : (Z != 0) = z) (hdz : (D != 0) = dz) (hsz : (S != 0) = sz)
    (CO : Hid (∀ w : World, Calls Try.prog 47 #[.int .i64 OP] w fun e w' => e = .returned (usV db sb ib kb) ∧ Below w.heap.size w w'))
    (hcase : kb = false ∨ (kb = true ∧ z = true) ∨ (kb = true ∧ z = false ∧ db = false ∧ dz = true) ∨ (kb = true ∧ z = false ∧ db = true ∧ sb = false ∧ sz = true) ∨ (kb = true ∧ z = false ∧ db = false ∧ dz = false ∧ sb = false ∧ sz = true)) : Calls Try.prog 42 #[.slice (some ⟨b, off, none⟩) n cap, .int .i64 (k : Int)] w (OneR 0 0 0 0 0 w) := by
  have h1 : decide (n ≤ k) = false := by simp; omega
  have h2 : decide ((k : Int) < 0) = false := by simp
  have CW : Hid (∀ w : World, Calls Try.prog 60 #[.int .i64 x] w fun e w' => e = .returned (.bool true) ∧ w = w') := fun w => by have := wordly_ok x w; rwa [show U.wd x = true by simp [U.wd, x0, x1]] at this
  have hb : b < w.heap.size := World.block_lt_of_cell? w ⟨b, off + k, none⟩ hc
  have N0 := Lib.hid (In4.start w OP D S)
  have HCK : Hid (∀ w1 : World, Below w.heap.size w w1 → True) := fun _ _ => trivial
  have tok := Lib.hid True.intro
  rcases hcase with rfl | ⟨rfl, rfl⟩ | ⟨rfl, rfl, rfl, rfl⟩ | ⟨rfl, rfl, rfl, rfl, rfl⟩ | ⟨rfl, rfl, rfl, rfl, rfl, rfl⟩
  all_goals
    go_enter Try.func42, Try.ntmps42
    go_wp2_with (first | (go_at_call 60; have _t := tok; refine (CW.out _).mono ?_; rintro e w' ⟨rfl, rfl⟩; clear tok _t) | (go_at_call 47; refine (CO.out _).mono ?_; rintro e w1 ⟨rfl, hb1⟩; have N1 := Lib.hid (N0.out.below hb1); obtain ⟨i0, i1, i2, i3, j0, j1, j2, j3⟩ := N1.out.i; obtain ⟨r0, r1, r2, r3, q0, q1, q2, q3⟩ := N1.out.r; have hl2 : w.heap.size + 1 < w1.heap.size := N1.out.i.lt; have hl1 : w.heap.size < w1.heap.size := N1.out.r.lt; have hc1 := HCK.out _ N1.out.ext; clear hb1))
    exact bodyPost_ret (v := .tuple #[insV 0 0 0 0, .int .i64 0]) (by simp [results, Try.results42, go_sem, r0, r1, r2, r3, q0, q1, q2, q3, hl1, hl2]) rfl ⟨rfl, by repeat (first | exact N1.out.ext | refine Ext.alloc ?_ _ | refine Ext.setCell ?_ (Nat.le_refl _) _)⟩
end Go.Proofs.Ytfjgnhmmakeaeaa
