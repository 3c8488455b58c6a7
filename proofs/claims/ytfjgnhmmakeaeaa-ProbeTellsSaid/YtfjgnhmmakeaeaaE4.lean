/- The walk of instr.One: an instruction is there. -/
import Derived.Test.YtfjgnhmmakeaeaaE3
namespace Go.Proofs.Ytfjgnhmmakeaeaa
open Go.RowKit
set_option linter.unusedVariables false
set_option linter.unusedSimpArgs false
set_option maxRecDepth 100000
set_option maxHeartbeats 8000000 in
theorem one_one (b off n cap k : Nat) (x OP D S Z : Int) (kb z db dz sb sz ib : Bool) (h : k < n) (hm : n ≤ 70000) (x0 : 0 ≤ x) (x1 : x ≤ 65535) (w : World) (hc : w.cell? ⟨b, off + k, none⟩ = some (.int .i64 x))
    (eO : x / 1024 = OP) (eD : bits .and .i64 (x / 128) 7 = D) (eS : bits .and .i64 (x / 16) 7 = S) (eZ : bits .and .i64 x 15 = Z) (hz : (Z != 0) = z) (hdz : (D != 0) = dz) (hsz : (S != 0) = sz)
    (CO : Hid (∀ w : World, Calls Try.prog 47 #[.int .i64 OP] w fun e w' => e = .returned (usV db sb ib kb) ∧ Below w.heap.size w w'))
    (hib : ib = false) (hg : kb = true ∧ z = false ∧ ((db = true) ∨ (db = false ∧ dz = false)) ∧ ((sb = true) ∨ (sb = false ∧ sz = false))) : Calls Try.prog 42 #[.slice (some ⟨b, off, none⟩) n cap, .int .i64 (k : Int)] w (OneR OP D S 0 1 w) := by
  have h1 : decide (n ≤ k) = false := by simp; omega
  have h2 : decide ((k : Int) < 0) = false := by simp
  have CW : Hid (∀ w : World, Calls Try.prog 60 #[.int .i64 x] w fun e w' => e = .returned (.bool true) ∧ w = w') := fun w => by have := wordly_ok x w; rwa [show U.wd x = true by simp [U.wd, x0, x1]] at this
  have hb : b < w.heap.size := World.block_lt_of_cell? w ⟨b, off + k, none⟩ hc
  have N0 := Lib.hid (In4.start w OP D S)
  have HCK : Hid (∀ w1 : World, Below w.heap.size w w1 → True) := fun _ _ => trivial
  have tok := Lib.hid True.intro
  subst hib
  obtain ⟨rfl, rfl, hg1, hg2⟩ := hg
  rcases hg1 with rfl | ⟨rfl, rfl⟩ <;> rcases hg2 with rfl | ⟨rfl, rfl⟩
  all_goals
    go_enter Try.func42, Try.ntmps42
    go_wp2_with (first | (go_at_call 60; have _t := tok; refine (CW.out _).mono ?_; rintro e w' ⟨rfl, rfl⟩; clear tok _t) | (go_at_call 47; refine (CO.out _).mono ?_; rintro e w1 ⟨rfl, hb1⟩; have N1 := Lib.hid (N0.out.below hb1); obtain ⟨i0, i1, i2, i3, j0, j1, j2, j3⟩ := N1.out.i; obtain ⟨r0, r1, r2, r3, q0, q1, q2, q3⟩ := N1.out.r; have hl2 : w.heap.size + 1 < w1.heap.size := N1.out.i.lt; have hl1 : w.heap.size < w1.heap.size := N1.out.r.lt; have hc1 := HCK.out _ N1.out.ext; clear hb1))
    exact bodyPost_ret (v := .tuple #[insV OP D S 0, .int .i64 1]) (by simp [results, Try.results42, go_sem, r0, r1, r2, r3, q0, q1, q2, q3, hl1, hl2]) rfl ⟨rfl, by repeat (first | exact N1.out.ext | refine Ext.alloc ?_ _ | refine Ext.setCell ?_ (Nat.le_refl _) _)⟩
set_option maxHeartbeats 8000000 in
theorem one_end (b off n cap k : Nat) (x OP D S Z : Int) (kb z db dz sb sz ib : Bool) (h : k < n) (hm : n ≤ 70000) (x0 : 0 ≤ x) (x1 : x ≤ 65535) (w : World) (hc : w.cell? ⟨b, off + k, none⟩ = some (.int .i64 x))
    (eO : x / 1024 = OP) (eD : bits .and .i64 (x / 128) 7 = D) (eS : bits .and .i64 (x / 16) 7 = S) (eZ : bits .and .i64 x 15 = Z) (hz : (Z != 0) = z) (hdz : (D != 0) = dz) (hsz : (S != 0) = sz)
    (CO : Hid (∀ w : World, Calls Try.prog 47 #[.int .i64 OP] w fun e w' => e = .returned (usV db sb ib kb) ∧ Below w.heap.size w w'))
    (hib : ib = true) (hend : n = k + 1) (hg : kb = true ∧ z = false ∧ ((db = true) ∨ (db = false ∧ dz = false)) ∧ ((sb = true) ∨ (sb = false ∧ sz = false))) : Calls Try.prog 42 #[.slice (some ⟨b, off, none⟩) n cap, .int .i64 (k : Int)] w (OneR 0 0 0 0 0 w) := by
  have h1 : decide (n ≤ k) = false := by simp; omega
  have h2 : decide ((k : Int) < 0) = false := by simp
  have CW : Hid (∀ w : World, Calls Try.prog 60 #[.int .i64 x] w fun e w' => e = .returned (.bool true) ∧ w = w') := fun w => by have := wordly_ok x w; rwa [show U.wd x = true by simp [U.wd, x0, x1]] at this
  have hb : b < w.heap.size := World.block_lt_of_cell? w ⟨b, off + k, none⟩ hc
  have N0 := Lib.hid (In4.start w OP D S)
  have HCK : Hid (∀ w1 : World, Below w.heap.size w w1 → True) := fun _ _ => trivial
  have tok := Lib.hid True.intro
  subst hib
  subst hend
  obtain ⟨rfl, rfl, hg1, hg2⟩ := hg
  rcases hg1 with rfl | ⟨rfl, rfl⟩ <;> rcases hg2 with rfl | ⟨rfl, rfl⟩
  all_goals
    go_enter Try.func42, Try.ntmps42
    go_wp2_with (first | (go_at_call 60; have _t := tok; refine (CW.out _).mono ?_; rintro e w' ⟨rfl, rfl⟩; clear tok _t) | (go_at_call 47; refine (CO.out _).mono ?_; rintro e w1 ⟨rfl, hb1⟩; have N1 := Lib.hid (N0.out.below hb1); obtain ⟨i0, i1, i2, i3, j0, j1, j2, j3⟩ := N1.out.i; obtain ⟨r0, r1, r2, r3, q0, q1, q2, q3⟩ := N1.out.r; have hl2 : w.heap.size + 1 < w1.heap.size := N1.out.i.lt; have hl1 : w.heap.size < w1.heap.size := N1.out.r.lt; have hc1 := HCK.out _ N1.out.ext; clear hb1))
    exact bodyPost_ret (v := .tuple #[insV 0 0 0 0, .int .i64 0]) (by simp [results, Try.results42, go_sem, r0, r1, r2, r3, q0, q1, q2, q3, hl1, hl2]) rfl ⟨rfl, by repeat (first | exact N1.out.ext | refine Ext.alloc ?_ _ | refine Ext.setCell ?_ (Nat.le_refl _) _)⟩
end Go.Proofs.Ytfjgnhmmakeaeaa
