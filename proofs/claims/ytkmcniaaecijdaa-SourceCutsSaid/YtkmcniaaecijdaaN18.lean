/- Numbers of any size as objects: what moves; Lsh, QuoRem. -/
import Derived.Test.YtkmcniaaecijdaaN17
import Derived.Deep.RegionWith
namespace Go.Proofs.Ytkmcniaaecijdaa
open Go.RowKit
set_option linter.unusedVariables false
set_option linter.unusedSimpArgs false
set_option maxRecDepth 100000

/-- Only objects of G (and new ones) have changed. -/
structure Moved (G : Nat → Prop) (w w' : World) : Prop where
  os : w'.os = w.os
  tape : w'.tape = w.tape
  output : w'.output = w.output
  size : w.heap.size ≤ w'.heap.size
  block : ∀ k, k < w.heap.size → ¬ G k → w'.heap[k]? = w.heap[k]?
  io : ∀ g z, ¬ G g → Io w g z → Io w' g z
theorem Moved.refl (G : Nat → Prop) (w : World) : Moved G w w := ⟨rfl, rfl, rfl, Nat.le_refl _, fun _ _ _ => rfl, fun _ _ _ h => h⟩
theorem Moved.trans {G : Nat → Prop} {a b c : World} (h : Moved G a b) (k : Moved G b c) : Moved G a c :=
  ⟨k.os.trans h.os, k.tape.trans h.tape, k.output.trans h.output, Nat.le_trans h.size k.size, fun i hi hr => (k.block i (Nat.lt_of_lt_of_le hi h.size) hr).trans (h.block i hi hr), fun g z hg hz => k.io g z hg (h.io g z hg hz)⟩
theorem Moved.mono {G H : Nat → Prop} {a b : World} (h : Moved G a b) (hh : ∀ k, G k → H k) : Moved H a b :=
  ⟨h.os, h.tape, h.output, h.size, fun k hk hr => h.block k hk (fun e => hr (hh k e)), fun g z hg hz => h.io g z (fun e => hg (hh g e)) hz⟩
theorem Moved.of_chg {g : Nat} {z : Int} {w w' : World} (h : Chg g w w') (hz : Io w g z) : Moved (fun k => k = g) w w' :=
  ⟨h.os, h.tape, h.output, h.size, fun k hk hr => h.block k hk (by simpa using hr), fun g' z' hg hz' => hz'.chg hz hg h⟩
theorem Moved.of_below {G : Nat → Prop} {w w' : World} (h : Below w.heap.size w w') : Moved G w w' :=
  ⟨h.os, h.tape, h.output, h.size, fun k hk _ => h.block k hk, fun g z _ hz => hz.below h⟩
theorem Moved.below {G : Nat → Prop} {B : Nat} {w0 w w' : World} (h : Moved G w w') (hb : Below B w0 w) (hB : B ≤ w0.heap.size) (hG : ∀ k, G k → B ≤ k) : Below B w0 w' :=
  ⟨h.os.trans hb.os, h.tape.trans hb.tape, h.output.trans hb.output, Nat.le_trans hb.size h.size, fun k hk => (h.block k (Nat.lt_of_lt_of_le (Nat.lt_of_lt_of_le hk hB) hb.size) (fun e => by have := hG k e; omega)).trans (hb.block k hk)⟩
/-- New objects alone have moved. -/
theorem Moved.ext {G : Nat → Prop} {w0 w w' : World} (h : Moved G w w') (hb : Below w0.heap.size w0 w) (hG : ∀ k, G k → w0.heap.size ≤ k) : Below w0.heap.size w0 w' := h.below hb (Nat.le_refl _) hG

theorem lsh_sign {x : Int} {n : Nat} : (decide (x < 0) = true → x * 2 ^ n ≤ 0) ∧ (decide (x < 0) = false → 0 ≤ x * 2 ^ n) := by
  have hp : (0 : Int) ≤ 2 ^ n := Int.le_of_lt (Int.pow_pos (by omega))
  refine ⟨fun h => ?_, fun h => ?_⟩
  · simp at h; exact Int.mul_nonpos_of_nonpos_of_nonneg (by omega) hp
  · simp at h; exact Int.mul_nonneg h hp
theorem lsh_abs (x : Int) (n : Nat) : (x * 2 ^ n).natAbs = x.natAbs * 2 ^ n := by
  rw [Int.natAbs_mul, Int.natAbs_pow]; rfl
set_option maxHeartbeats 4000000 in
theorem lsh_ok (g gx : Nat) (z x : Int) (n : Nat) (hn1 : n ≤ 900) (ha : Sm x.natAbs) (w : World) (hz : Io w g z) (hx : Io w gx x) (N' : Int) (hN' : N' = (n : Nat)) :
    Calls Try.prog 100 #[P g, P gx, .int .u64 N'] w fun e w' => e = .returned (P g) ∧ Chg g w w' ∧ Io w' g (x * 2 ^ n) := by
  obtain ⟨a, l, c, c0, c1, hn, hl⟩ := hx.cells
  clear hl
  have CT : Hid (∀ w : World, Nm w (.slice a l c) x.natAbs → Calls Try.prog 111 #[.slice a l c, .int .u64 N'] w fun e w' => ∃ u, e = .returned u ∧ Below w.heap.size w w' ∧ Nm w' u (x * 2 ^ n).natAbs) := fun w h => by
    rw [lsh_abs]; exact left_ok _ _ n (by omega) ha w h N' hN'
  obtain ⟨s, hs0⟩ := boolL x
  have hsg := lsh_sign (x := x) (n := n)
  rw [← hs0] at c0 hsg
  have CG : Hid (∀ (w : World) (v : Value), Io w g z → Nm w v (x * 2 ^ n).natAbs → Calls Try.prog 97 #[P g, .bool s, v] w fun e w' => e = .returned (P g) ∧ Chg g w w' ∧ Io w' g (x * 2 ^ n)) := fun w v h1 h2 => give_ok g z _ _ v w h1 h2 hsg.1 hsg.2
  have HN := Lib.hid hn; have HZ := Lib.hid hz
  clear hn hz hx ha hs0 hsg hN'
  go_enter Try.func100, Try.ntmps100
  go_wp2
  have c0' : w.drew.cell? ⟨gx, 0, none⟩ = some (.bool s) := c0
  have c1' : w.drew.cell? ⟨gx, 1, none⟩ = some (.slice a l c) := c1
  have d0 : ∀ w2, Below w.drew.heap.size w.drew w2 → w2.cell? ⟨gx, 0, none⟩ = some (.bool s) := fun w2 hb => (keep2 hb ⟨c0', c1'⟩).1
  have HD := Lib.hid d0; clear d0 c0' c1'
  go_region_with (first | (go_at_call 111; refine (CT.out _ (HN.out.below (Ext.drew (Below.refl _ _)))).mono ?_; rintro e w2 ⟨u, rfl, hb2, hu⟩; have HU := Lib.hid hu; have HB2 := Lib.hid hb2; have d0 := HD.out _ hb2; clear hu hb2) | (go_at_call 97; refine (CG.out _ _ (HZ.out.drew.below HB2.out) HU.out).mono ?_; rintro e w3 ⟨rfl, hc, hi⟩; have HC := Lib.hid hc; have HI := Lib.hid hi; clear hc hi))
  all_goals
    go_wp2
    go_ret
    exact ⟨rfl, ((Chg.of_below HB2.out).trans HC.out).undrew, HI.out⟩
theorem quo_sign {x y : Int} : ((decide (x < 0) != decide (y < 0)) = true → x.tdiv y ≤ 0) ∧ ((decide (x < 0) != decide (y < 0)) = false → 0 ≤ x.tdiv y) := by
  by_cases h1 : x < 0 <;> by_cases h2 : y < 0 <;> simp only [h1, h2, decide_true, decide_false]
  · exact ⟨by simp, fun _ => by
      have h := Int.tdiv_nonneg (a := -x) (b := -y) (by omega) (by omega)
      rwa [Int.neg_tdiv, Int.tdiv_neg, Int.neg_neg] at h⟩
  · exact ⟨fun _ => by
      have h := Int.tdiv_nonneg (a := -x) (b := y) (by omega) (by omega)
      rw [Int.neg_tdiv] at h; omega, by simp⟩
  · exact ⟨fun _ => by
      have h := Int.tdiv_nonneg (a := x) (b := -y) (by omega) (by omega)
      rw [Int.tdiv_neg] at h; omega, by simp⟩
  · exact ⟨by simp, fun _ => Int.tdiv_nonneg (by omega) (by omega)⟩
theorem rem_sign {x y : Int} : (decide (x < 0) = true → x.tmod y ≤ 0) ∧ (decide (x < 0) = false → 0 ≤ x.tmod y) := by
  refine ⟨fun h => ?_, fun h => ?_⟩
  · simp at h
    have h2 := Int.tmod_nonneg (a := -x) y (by omega)
    rw [Int.neg_tmod] at h2; omega
  · simp at h; exact Int.tmod_nonneg y (by omega)
theorem quo_abs (x y : Int) : (x.tdiv y).natAbs = x.natAbs / y.natAbs := Int.natAbs_tdiv x y
theorem rem_abs (x y : Int) : (x.tmod y).natAbs = x.natAbs % y.natAbs := Int.natAbs_tmod x y
/-- Two objects have new values. -/
def Two2 (w : World) (g h : Nat) (q r : Int) (w' : World) : Prop := Moved (fun k => k = g ∨ k = h) w w' ∧ Io w' g q ∧ Io w' h r
set_option maxHeartbeats 4000000 in
theorem quoRem_ok (g h gx gy : Nat) (z0 r0 x y : Int) (hgh : g ≠ h) (hd : DivIn x.natAbs y.natAbs) (w : World) (hz : Io w g z0) (hr : Io w h r0) (hx : Io w gx x) (hy : Io w gy y) :
    Calls Try.prog 104 #[P g, P gx, P gy, P h] w fun e w' => e = .returned (.tuple #[P g, P h]) ∧ Two2 w g h (x.tdiv y) (x.tmod y) w' := by
  obtain ⟨a, l, c, c0, c1, hn, hl⟩ := hx.cells
  obtain ⟨a', l', c', d0, d1, hn', hl'⟩ := hy.cells
  have CD : Hid (∀ w : World, Nm w (.slice a l c) x.natAbs → Nm w (.slice a' l' c') y.natAbs → Calls Try.prog 114 #[.slice a l c, .slice a' l' c'] w fun e w' => ∃ q r, e = .returned (.tuple #[q, r]) ∧ Below w.heap.size w w' ∧ Nm w' q (x.tdiv y).natAbs ∧ Nm w' r (x.tmod y).natAbs) := fun w h1 h2 => by
    rw [quo_abs, rem_abs]; exact bdiv_ok _ _ _ _ hd w h1 h2
  obtain ⟨s, hs⟩ := boolL x
  obtain ⟨t, ht⟩ := boolL y
  have hsg := quo_sign (x := x) (y := y)
  have hsr := rem_sign (x := x) (y := y)
  rw [← hs, ← ht] at hsg
  rw [← hs] at c0 hsr
  rw [← ht] at d0
  have CQ : Hid (∀ (w : World) (v : Value), Io w g z0 → Nm w v (x.tdiv y).natAbs → Calls Try.prog 97 #[P g, .bool (!(s == t)), v] w fun e w' => e = .returned (P g) ∧ Chg g w w' ∧ Io w' g (x.tdiv y)) := fun w v h1 h2 => give_ok g z0 _ _ v w h1 h2 hsg.1 hsg.2
  have CR : Hid (∀ (w : World) (v : Value), Io w h r0 → Nm w v (x.tmod y).natAbs → Calls Try.prog 97 #[P h, .bool s, v] w fun e w' => e = .returned (P h) ∧ Chg h w w' ∧ Io w' h (x.tmod y)) := fun w v h1 h2 => give_ok h r0 _ _ v w h1 h2 hsr.1 hsr.2
  have HN := Lib.hid hn; have HN' := Lib.hid hn'; have HZ := Lib.hid hz; have HR := Lib.hid hr; have HGH := Lib.hid hgh
  clear hn hn' hl hl' hx hy hz hr hs ht hsg hsr hgh hd
  go_enter Try.func104, Try.ntmps104
  go_wp2
  refine Rg.wp_region [] (by kernel_rfl) (by kernel_rfl) ?_
  repeat (first | (refine Rg.wpL_nil ?_) | (refine Rg.wpL_skip rfl ?_; simp only [Act.put, List.setIfInBounds_toArray, List.set_cons_zero, List.set_cons_succ]) | (refine Rg.wpL_q rfl rfl (fun K hK => ?_); go_big_quiet_op; refine hK _ ?_; clear hK K) | (refine Rg.wpL_w rfl rfl (fun K hK => ?_); go_wp2_with (first | fail | fail)))
  go_wp2
  refine Rg.wp_region [] (by kernel_rfl) (by kernel_rfl) ?_
  repeat (first | (refine Rg.wpL_nil ?_) | (refine Rg.wpL_skip rfl ?_; simp only [Act.put, List.setIfInBounds_toArray, List.set_cons_zero, List.set_cons_succ]) | (refine Rg.wpL_q rfl rfl (fun K hK => ?_); go_big_quiet_op; refine hK _ ?_; clear hK K) | (refine Rg.wpL_w rfl rfl (fun K hK => ?_); go_wp2_with (first | fail | (go_at_call 114; refine (CD.out _ (HN.out.drewN 2) (HN'.out.drewN 2)).mono ?_; rintro e w2 ⟨vq, vr, rfl, hb2, hq, hr⟩; have HB2 := Lib.hid hb2; have HQ := Lib.hid hq; have HRR := Lib.hid hr; clear hb2 hq hr))))
  have hzw := Lib.hid ((HZ.out.drewN 2).below HB2.out); have hrw := Lib.hid ((HR.out.drewN 2).below HB2.out)
  go_wp2_with (first | (go_at_call_of 97 (P g); refine (CQ.out _ _ hzw.out HQ.out).mono ?_; rintro e w3 ⟨rfl, hc, hi⟩; have HC := Lib.hid hc; have HI := Lib.hid hi; have HRZ := Lib.hid (HRR.out.chg hzw.out hc); have hrw3 := Lib.hid (hrw.out.chg hzw.out (Ne.symm HGH.out) hc); clear hc hi) | (go_at_call 97; refine (CR.out _ _ hrw3.out HRZ.out).mono ?_; rintro e w4 ⟨rfl, hc, hi⟩; have HC2 := Lib.hid hc; have HI2 := Lib.hid hi; clear hc hi))
  go_ret2
  refine ⟨rfl, ?_, HI.out.chg hrw3.out HGH.out HC2.out, HI2.out⟩
  refine Moved.trans (Moved.trans (Moved.of_below (w' := w2) ?_) ((Moved.of_chg HC.out hzw.out).mono (fun k hk => .inl hk))) ((Moved.of_chg HC2.out hrw3.out).mono (fun k hk => .inr hk))
  exact Ext.undrewN HB2.out
end Go.Proofs.Ytkmcniaaecijdaa
