/- Numbers of any size as objects: a sign and words behind a pointer. give, SetUint64, SetInt64, NewInt, Set. -/
import Derived.Test.YtkmcniaaecijdaaN12
import Derived.Test.YtkmcniaaecijdaaB0
namespace Go.Proofs.Ytkmcniaaecijdaa
open Go.RowKit
set_option linter.unusedVariables false
set_option linter.unusedSimpArgs false
set_option maxRecDepth 100000

/-- The block g is the number z: its sign, its words. -/
def Io (w : World) (g : Nat) (z : Int) : Prop := ∃ v, Blk w g 96 #[.bool (decide (z < 0)), v] ∧ Nm w v z.natAbs
/-- Only block g, and new ones, have changed. -/
def Chg (g : Nat) (w w' : World) : Prop := w.grownBy w' (some g)
theorem Io.lt {w : World} {g : Nat} {z : Int} (h : Io w g z) : g < w.heap.size := by obtain ⟨v, h, _⟩ := h; exact h.lt
theorem Io.below {w w' : World} {g : Nat} {z : Int} (h : Io w g z) (hb : Below w.heap.size w w') : Io w' g z := by
  obtain ⟨v, h1, h2⟩ := h
  exact ⟨v, h1.keep hb, h2.below hb⟩
theorem Nm.slice {w : World} {v : Value} {n : Nat} (h : Nm w v n) : ∃ a l c, v = .slice a l c := by
  obtain ⟨_, A, cap, rfl, _, _⟩ := h.open_; exact ⟨_, _, _, rfl⟩
theorem Tp.grown {w w' : World} {v : Value} {row : Option Nat} (h : Tp w v) (hg : w.grownBy w' row) (hr : ∀ k, row = some k → ∃ cur e fr, w.heap[k]? = some (.cells cur e fr) ∧ e ≠ 122) : Tp w' v := fun b off l c e h0 => by
  obtain ⟨cur, fr, hh⟩ := h b off l c e h0
  have hlt : b < w.heap.size := by
    rcases Nat.lt_or_ge b w.heap.size with hlt | hge
    · exact hlt
    · rw [Array.getElem?_eq_none hge] at hh; cases hh
  refine ⟨cur, fr, (hg.block b hlt (fun e2 => ?_)).trans hh⟩
  obtain ⟨cur2, e3, fr2, h2, hne⟩ := hr b e2.symm
  rw [hh] at h2
  injection h2 with h2
  injection h2 with _ h3 _
  exact hne h3.symm
theorem Nm.grown {w w' : World} {v : Value} {n : Nat} {row : Option Nat} (h : Nm w v n) (hg : w.grownBy w' row) (hr : ∀ k, row = some k → ∃ cur e fr, w.heap[k]? = some (.cells cur e fr) ∧ e ≠ 122) : Nm w' v n := by
  refine ⟨?_, h.2.grown hg hr⟩
  obtain ⟨⟨h1, h2, a, cap, rfl, hcap, hx⟩, ht⟩ := h
  refine ⟨h1, h2, a, cap, rfl, hcap, fun hne => ?_⟩
  obtain ⟨b, off, rfl, hcell⟩ := hx hne
  refine ⟨b, off, rfl, fun j u hu => ?_⟩
  have h0 := hcell j u hu
  have hlt := World.block_lt_of_cell? _ _ h0
  have hn0 : N.ln n ≠ 0 := by
    intro e; apply hne; rw [e]; rfl
  obtain ⟨cur, fr, hh⟩ := ht b off _ cap rfl hn0
  rw [World.cell?_of_block (hg.block b hlt (fun e2 => by
    obtain ⟨cur2, e3, fr2, h2, hne⟩ := hr b e2.symm
    rw [hh] at h2
    injection h2 with h2
    injection h2 with _ h3 _
    exact hne h3.symm))]
  exact h0
/-- A list of words lies apart from a number's head. -/
theorem Nm.chg {w w' : World} {g : Nat} {z : Int} {v : Value} {n : Nat} (h : Nm w v n) (hz : Io w g z) (hc : Chg g w w') : Nm w' v n := by
  obtain ⟨y, hb, hy⟩ := hz
  exact h.grown hc (fun k e => by injection e with e; subst e; exact ⟨_, _, _, hb, by decide⟩)
theorem Io.chg {w w' : World} {g g' : Nat} {z z' : Int} (h : Io w g z) (hz : Io w g' z') (hne : g ≠ g') (hc : Chg g' w w') : Io w' g z := by
  obtain ⟨v, h1, h2⟩ := h
  exact ⟨v, h1.grown hc (by simpa using hne), h2.chg hz hc⟩
/-- What grows is no number's. -/
theorem Io.grown {w w' : World} {g : Nat} {z : Int} {row : Option Nat} (h : Io w g z) (hg : w.grownBy w' row) (hr : ∀ k, row = some k → ∃ cur e fr, w.heap[k]? = some (.cells cur e fr) ∧ e ≠ 122 ∧ e ≠ 96) : Io w' g z := by
  obtain ⟨v, h1, h2⟩ := h
  refine ⟨v, h1.grown hg (fun e => ?_), h2.grown hg (fun k e => ?_)⟩
  · obtain ⟨cur, e3, fr, h3, _, hne⟩ := hr g e.symm
    unfold Blk at h1
    rw [h1] at h3
    injection h3 with h3
    injection h3 with _ h4 _
    exact hne h4.symm
  · obtain ⟨cur, e3, fr, h3, hne, _⟩ := hr k e
    exact ⟨cur, e3, fr, h3, hne⟩
theorem Chg.of_below {g : Nat} {w w' : World} (h : Below w.heap.size w w') : Chg g w w' := ⟨h.os, h.tape, h.output, h.size, fun k hk _ => h.block k hk⟩
theorem Chg.trans {g : Nat} {a b c : World} (h : Chg g a b) (k : Chg g b c) : Chg g a c :=
  ⟨k.os.trans h.os, k.tape.trans h.tape, k.output.trans h.output, Nat.le_trans h.size k.size, fun i hi hr => (k.block i (Nat.lt_of_lt_of_le hi h.size) hr).trans (h.block i hi hr)⟩
theorem Chg.setCell {g : Nat} {w a : World} (h : Chg g w a) (o : Nat) (u : Value) : Chg g w (a.setCell ⟨g, o, none⟩ u) :=
  ⟨h.os, h.tape, h.output, by simpa using h.size, fun k hk hr => (Below.heap_setCell a ⟨g, o, none⟩ u k (by simpa using hr)).trans (h.block k hk hr)⟩
/-- From below: what is written lies above. -/
theorem Below.chg {B g : Nat} {w0 w w' : World} (h : Below B w0 w) (hB : B ≤ w0.heap.size) (hg : B ≤ g) (hc : Chg g w w') : Below B w0 w' :=
  ⟨hc.os.trans h.os, hc.tape.trans h.tape, hc.output.trans h.output, Nat.le_trans h.size hc.size, fun k hk => (hc.block k (Nat.lt_of_lt_of_le (Nat.lt_of_lt_of_le hk hB) h.size) (by simp; omega)).trans (h.block k hk)⟩
theorem Chg.size {g : Nat} {w w' : World} (h : Chg g w w') : w.heap.size ≤ w'.heap.size := World.grownBy.size h
abbrev P (g : Nat) : Value := .pointer (some ⟨g, 0, none⟩)
/-- A new one: nought. -/
theorem Io.new (w : World) : Io (w.alloc (.cells #[.bool false, .slice none 0 0] 96)) w.heap.size 0 := ⟨_, Blk.new w _ _, Nm.zero _⟩
theorem Nm.len_pos {w : World} {a : Option Addr} {l c n : Nat} (h : Nm w (.slice a l c) n) : decide (0 < l) = decide (n ≠ 0) := by
  obtain ⟨_, A, cap, e, _, _⟩ := h.open_
  injection e with _ e2 _
  subst e2
  by_cases h0 : n = 0
  · subst h0; simp [N.ln_zero]
  · have := N.ln_pos h0; simp [h0]; omega

set_option maxHeartbeats 1000000 in
theorem give_ok (g : Nat) (z z' : Int) (ng : Bool) (v : Value) (w : World) (hz : Io w g z) (hv : Nm w v z'.natAbs) (hs : ng = true → z' ≤ 0) (hs2 : ng = false → 0 ≤ z') :
    Calls Try.prog 97 #[P g, .bool ng, v] w fun e w' => e = .returned (P g) ∧ Chg g w w' ∧ Io w' g z' := by
  obtain ⟨va, vl, vc, rfl⟩ := hv.slice
  obtain ⟨y, hb, hy⟩ := hz
  have hp := hv.len_pos
  have c0 : w.cell? ⟨g, 0, none⟩ = some (.bool (decide (z < 0))) := by rw [hb.cell]; rfl
  have c1 : w.cell? ⟨g, 1, none⟩ = some y := by rw [hb.cell]; rfl
  have f0 : w.frozen? ⟨g, 0, none⟩ = false := hb.frozen _
  have f1 : w.frozen? ⟨g, 1, none⟩ = false := hb.frozen _
  obtain ⟨ya, yl, yc, rfl⟩ := hy.slice
  have HZ : Hid (Io w g z) := ⟨_, hb, hy⟩
  have HB := Lib.hid hb; have HV := Lib.hid hv
  have HS := Lib.hid hp; have HN := Lib.hid hs; have HN2 := Lib.hid hs2
  clear hb hy hv hp hs hs2
  have fin : ∀ b : Bool, b = decide (z' < 0) → Io ((w.setCell ⟨g, 1, none⟩ (.slice va vl vc)).setCell ⟨g, 0, none⟩ (.bool b)) g z' := fun b hb => by
    have h1 := (HB.out.set_ 1 (.slice va vl vc)).set_ 0 (.bool b)
    refine ⟨.slice va vl vc, by rw [← hb]; exact h1, ?_⟩
    exact HV.out.chg HZ.out (((Chg.of_below (Below.refl _ _)).setCell 1 _).setCell 0 _)
  have HF := Lib.hid fin; clear fin
  cases ng
  · go_enter Try.func97, Try.ntmps97
    go_wp2
    go_ret
    exact ⟨rfl, ((Chg.of_below (Below.refl _ _)).setCell 1 _).setCell 0 _, HF.out _ (by have := HN2.out trivial; simp; exact this)⟩
  · go_enter Try.func97, Try.ntmps97
    go_wp2
    go_ret
    exact ⟨rfl, ((Chg.of_below (Below.refl _ _)).setCell 1 _).setCell 0 _, HF.out _ (by have h1 := HN.out trivial; have h2 := HS.out; rw [h2]; by_cases h : z' = 0 <;> simp [h] <;> omega)⟩
set_option maxHeartbeats 1000000 in
theorem setU_ok (g : Nat) (z : Int) (x : Nat) (hx : x < 18446744073709551616) (w : World) (hz : Io w g z) :
    Calls Try.prog 108 #[P g, .int .u64 (x : Int)] w fun e w' => e = .returned (P g) ∧ Chg g w w' ∧ Io w' g (x : Int) := by
  have HZ := Lib.hid hz
  have CW : Hid (∀ w : World, Calls Try.prog 115 #[.int .u64 (x : Int)] w fun e w' => ∃ u, e = .returned u ∧ Below w.heap.size w w' ∧ Nm w' u x) := fun w => words_ok x hx w
  have CG : Hid (∀ (w : World) (v : Value), Io w g z → Nm w v x → Calls Try.prog 97 #[P g, .bool false, v] w fun e w' => e = .returned (P g) ∧ Chg g w w' ∧ Io w' g (x : Int)) := fun w v h1 h2 => give_ok g z x false v w h1 (by simpa using h2) (by simp) (by simp)
  clear hz
  go_enter Try.func108, Try.ntmps108
  go_wp2_with (first | (go_at_call 115; refine (CW.out _).mono ?_; rintro e w1 ⟨u, rfl, hb, hu⟩; have HB := Lib.hid hb; have HU := Lib.hid hu; clear hb hu) | (go_at_call 97; refine (CG.out _ _ (HZ.out.below HB.out) HU.out).mono ?_; rintro e w2 ⟨rfl, hc, hi⟩; have HC := Lib.hid hc; have HI := Lib.hid hi; clear hc hi))
  go_ret
  exact ⟨rfl, (Chg.of_below HB.out).trans HC.out, HI.out⟩
set_option maxHeartbeats 1000000 in
theorem setI_ok (g : Nat) (z x : Int) (hx0 : -9223372036854775808 ≤ x) (hx1 : x ≤ 9223372036854775807) (w : World) (hz : Io w g z) :
    Calls Try.prog 105 #[P g, .int .i64 x] w fun e w' => e = .returned (P g) ∧ Chg g w w' ∧ Io w' g x := by
  have HZ := Lib.hid hz
  obtain ⟨n, hn⟩ : ∃ n : Nat, n = x.natAbs := ⟨_, rfl⟩
  have hn64 : n < 18446744073709551616 := by omega
  have CW : Hid (∀ w : World, Calls Try.prog 115 #[.int .u64 (n : Int)] w fun e w' => ∃ u, e = .returned u ∧ Below w.heap.size w w' ∧ Nm w' u n) := fun w => words_ok n hn64 w
  have CG : Hid (∀ (w : World) (v : Value), Io w g z → Nm w v n → Calls Try.prog 97 #[P g, .bool (decide (x < 0)), v] w fun e w' => e = .returned (P g) ∧ Chg g w w' ∧ Io w' g x) := fun w v h1 h2 => give_ok g z x (decide (x < 0)) v w h1 (by rw [← hn]; exact h2) (by simp; omega) (by simp)
  clear hz
  by_cases h0 : x < 0
  · have e1 : IntKind.u64.wrap (-(IntKind.u64.wrap x)) = (n : Int) := by rw [IntKind.wrap_u64, IntKind.wrap_u64]; omega
    have e2 : decide (x < 0) = true := by simpa using h0
    rw [e2] at CG
    have HN := Lib.hid hn; clear hn e2
    go_enter Try.func105, Try.ntmps105
    go_wp2_with (first | (go_at_call 115; refine (CW.out _).mono ?_; rintro e w1 ⟨u, rfl, hb, hu⟩; have HB := Lib.hid hb; have HU := Lib.hid hu; clear hb hu) | (go_at_call 97; refine (CG.out _ _ (HZ.out.below HB.out) HU.out).mono ?_; rintro e w2 ⟨rfl, hc, hi⟩; have HC := Lib.hid hc; have HI := Lib.hid hi; clear hc hi))
    go_ret
    exact ⟨rfl, (Chg.of_below HB.out).trans HC.out, HI.out⟩
  · have e1 : IntKind.u64.wrap x = (n : Int) := by rw [IntKind.wrap_u64]; omega
    have e3 : (n : Int) = x := by omega
    rw [e3] at CW
    have h0' : 0 ≤ x := by omega
    clear hn h0 e1 e3
    go_enter Try.func105, Try.ntmps105
    go_wp2_with (first | (go_at_call 115; refine (CW.out _).mono ?_; rintro e w1 ⟨u, rfl, hb, hu⟩; have HB := Lib.hid hb; have HU := Lib.hid hu; clear hb hu) | (go_at_call 97; refine (CG.out _ _ (HZ.out.below HB.out) HU.out).mono ?_; rintro e w2 ⟨rfl, hc, hi⟩; have HC := Lib.hid hc; have HI := Lib.hid hi; clear hc hi))
    go_ret
    exact ⟨rfl, (Chg.of_below HB.out).trans HC.out, HI.out⟩
/-- A new number behind a pointer. -/
def NewIo (w : World) (z : Int) (e : Ending) (w' : World) : Prop := ∃ g, e = .returned (P g) ∧ w.heap.size ≤ g ∧ Below w.heap.size w w' ∧ Io w' g z
theorem new_chg {w a w' : World} {g : Nat} (h : Below w.heap.size w a) (hg : w.heap.size ≤ g) (hc : Chg g a w') : Below w.heap.size w w' := Below.chg h (Nat.le_refl _) hg hc
set_option maxHeartbeats 1000000 in
theorem newInt_ok (x : Int) (hx0 : -9223372036854775808 ≤ x) (hx1 : x ≤ 9223372036854775807) (w : World) :
    Calls Try.prog 99 #[.int .i64 x] w (NewIo w x) := by
  have CS : Hid (∀ w : World, Calls Try.prog 105 #[P w.heap.size, .int .i64 x] (w.alloc (.cells #[.bool false, .slice none 0 0] 96)) fun e w' => e = .returned (P w.heap.size) ∧ Chg w.heap.size (w.alloc (.cells #[.bool false, .slice none 0 0] 96)) w' ∧ Io w' w.heap.size x) := fun w => setI_ok w.heap.size 0 x hx0 hx1 _ (Io.new w)
  clear hx0 hx1
  go_enter Try.func99, Try.ntmps99
  go_wp2_with (first | (go_at_call 105; refine (CS.out _).mono ?_; rintro e w2 ⟨rfl, hc, hi⟩; have HC := Lib.hid hc; have HI := Lib.hid hi; clear hc hi))
  go_ret
  exact ⟨_, rfl, Nat.le_refl _, new_chg (Ext.alloc (Below.refl _ _) _) (Nat.le_refl _) HC.out, HI.out⟩
end Go.Proofs.Ytkmcniaaecijdaa
