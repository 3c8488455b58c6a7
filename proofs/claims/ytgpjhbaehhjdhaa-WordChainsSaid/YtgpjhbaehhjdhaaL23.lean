/- WordChains: its walk. -/
import Derived.Test.YtgpjhbaehhjdhaaN36
import Derived.Test.YtgpjhbaehhjdhaaN30
import Derived.Test.YtgpjhbaehhjdhaaW9
import Derived.Test.YtgpjhbaehhjdhaaFr
namespace Go.Proofs.Ytgpjhbaehhjdhaa
open Go.ChangeShapes Go.WideShapes Go.ChangeAt Go.RowKit
set_option linter.unusedVariables false
set_option linter.unusedSimpArgs false
set_option maxRecDepth 100000

abbrev set4 (w : World) (b : Nat) (c z n v : Value) : World := (((w.setCell ⟨b, 0, none⟩ c).setCell ⟨b, 1, none⟩ z).setCell ⟨b, 2, none⟩ n).setCell ⟨b, 3, none⟩ v
theorem set4_below {w w' : World} {b : Nat} {c z n v : Value} (h : Below w.heap.size w w') (hb : w.heap.size ≤ b) : Below w.heap.size w (set4 w' b c z n v) :=
  (((h.setCell (p := ⟨b, 0, none⟩) hb _).setCell (p := ⟨b, 1, none⟩) hb _).setCell (p := ⟨b, 2, none⟩) hb _).setCell (p := ⟨b, 3, none⟩) hb _
theorem Fl.other4 {w : World} {b b' : Nat} {c z n v : Bool} (h : Fl w b c z n v) (hne : b ≠ b') (x0 x1 x2 x3 : Value) : Fl (set4 w b' x0 x1 x2 x3) b c z n v :=
  (((h.other hne 0 _).other hne 1 _).other hne 2 _).other hne 3 _
/-- What both of a pair give back. -/
def WRes (C Z N V : Bool) (E : Int) (k : Nat) (zs : List Int) (w : World) (e : Ending) (w' : World) : Prop :=
  ∃ l, e = .returned (.tuple #[l, .agg #[.bool C, .bool Z, .bool N, .bool V], .int .i64 E]) ∧ w'.ownsRow w.heap.size 3 1 l k (zs.map (Value.int .i64)) ∧ Below w.heap.size w w'
set_option maxHeartbeats 4000000 in
theorem chains_raw (a b : Value) (x y r1 r2 : Int) (c : Bool) (n m k kk : Nat) (xs ys zs zt : List Int) (E E2 : Int) (C Z N V C1 Z1 N1 V1 C2 Z2 N2 V2 C3 Z3 N3 V3 : Bool) (w : World) (hk : k ≤ maxLen) (hkk : kk ≤ maxLen) (ha : Rd w 1 a n (xs.map (Value.int .i64))) (hb : Rd w 1 b m (ys.map (Value.int .i64)))
    (s1 : ∀ w : World, Calls Try.prog 26 #[.int .i64 x, .int .i64 y, .bool c] w fun e w' => e = .returned (.tuple #[.int .i64 r1, .agg #[.bool C, .bool Z, .bool N, .bool V]]) ∧ Below w.heap.size w w')
    (s2 : ∀ w : World, Calls Try.prog 27 #[.int .i64 x, .int .i64 y, .bool c] w fun e w' => e = .returned (.tuple #[.int .i64 r1, .agg #[.bool C, .bool Z, .bool N, .bool V]]) ∧ Below w.heap.size w w')
    (d1 : ∀ w : World, Calls Try.prog 28 #[.int .i64 x, .int .i64 y, .bool c] w fun e w' => e = .returned (.tuple #[.int .i64 r2, .agg #[.bool C1, .bool Z1, .bool N1, .bool V1]]) ∧ Below w.heap.size w w')
    (d2 : ∀ w : World, Calls Try.prog 29 #[.int .i64 x, .int .i64 y, .bool c] w fun e w' => e = .returned (.tuple #[.int .i64 r2, .agg #[.bool C1, .bool Z1, .bool N1, .bool V1]]) ∧ Below w.heap.size w w')
    (a1 : ∀ w : World, Rd w 1 a n (xs.map (Value.int .i64)) → Rd w 1 b m (ys.map (Value.int .i64)) → Calls Try.prog 30 #[a, b] w (WRes C2 Z2 N2 V2 E k zs w))
    (a2 : ∀ w : World, Rd w 1 a n (xs.map (Value.int .i64)) → Rd w 1 b m (ys.map (Value.int .i64)) → Calls Try.prog 31 #[a, b, .bool true] w (WRes C2 Z2 N2 V2 E k zs w))
    (b1 : ∀ w : World, Rd w 1 a n (xs.map (Value.int .i64)) → Rd w 1 b m (ys.map (Value.int .i64)) → Calls Try.prog 32 #[a, b] w (WRes C3 Z3 N3 V3 E2 kk zt w))
    (b2 : ∀ w : World, Rd w 1 a n (xs.map (Value.int .i64)) → Rd w 1 b m (ys.map (Value.int .i64)) → Calls Try.prog 31 #[a, b, .bool false] w (WRes C3 Z3 N3 V3 E2 kk zt w)) :
    Calls Try.prog 4 #[a, b, .int .i64 x, .int .i64 y, .bool c] w fun e w' => e = .returned (.bool true) ∧ Below w.heap.size w w' := by
  have SM : Hid (∀ (w : World) (k : Nat) (zs : List Int) (a b : Value), Rd w 1 a k (zs.map (Value.int .i64)) → Rd w 1 b k (zs.map (Value.int .i64)) → Calls Try.prog 23 #[a, b] w fun e w' => e = .returned (.bool true) ∧ Below w.heap.size w w') := fun w k zs a b h1 h2 => by
    have := same_ok a b k k zs zs w h1 h2
    simpa using this
  have S1 := Lib.hid s1; have S2 := Lib.hid s2; have D1 := Lib.hid d1; have D2 := Lib.hid d2; have A1 := Lib.hid a1; have A2 := Lib.hid a2; have B1 := Lib.hid b1; have B2 := Lib.hid b2
  have HK := Lib.hid hk; have HKK := Lib.hid hkk
  have HA := Lib.hid ha; have HB := Lib.hid hb
  clear s1 s2 d1 d2 a1 a2 b1 b2 ha hb hk hkk
  go_enter Try.func4, Try.ntmps4
  go_wp2_with (first | (go_at_call 26; refine (S1.out _).mono ?_; rintro e w1 ⟨rfl, hb1⟩; have BW1 := Lib.hid hb1; clear hb1) | (go_at_call 27; refine (S2.out _).mono ?_; rintro e w2 ⟨rfl, hb2⟩; obtain ⟨z2, i0, i1, i2, i3, i4, i5, i6, i7⟩ := own4 hb2; have F2 := Lib.hid (show Fl w2 w1.heap.size C Z N V from ⟨i0, i1, i2, i3, i4, i5, i6, i7⟩); have NE : Hid (w1.heap.size ≠ w2.heap.size) := Nat.ne_of_lt z2; have G1 : Hid (w.heap.size ≤ w1.heap.size) := BW1.out.size; have BW2 := Lib.hid (Ext.trans (Ext.alloc BW1.out _) hb2); have G2 : Hid (w.heap.size ≤ w2.heap.size) := BW2.out.size; clear hb2) | (go_at_call 28; refine (D1.out _).mono ?_; rintro e w3 ⟨rfl, hb3⟩; obtain ⟨z3, j0, j1, j2, j3, j4, j5, j6, j7⟩ := own4 hb3; have H3 := Lib.hid (show Fl w3 w2.heap.size C Z N V from ⟨j0, j1, j2, j3, j4, j5, j6, j7⟩); have F3 := Lib.hid ((F2.out.below (Ext.alloc (Below.refl _ _) _)).below hb3); have BW3 := Lib.hid (Ext.trans (Ext.alloc BW2.out _) hb3); clear hb3 i0 i1 i2 i3 i4 i5 i6 i7; obtain ⟨i0, i1, i2, i3, i4, i5, i6, i7⟩ := F3.out) | (go_at_call 29; refine (D2.out _).mono ?_; rintro e w4 ⟨rfl, hb4⟩; have F4 := Lib.hid ((F3.out.set C1 Z1 N1 V1).below hb4); have H4 := Lib.hid ((H3.out.other4 NE.out.symm _ _ _ _).below hb4); have BW4 := Lib.hid (Ext.trans (set4_below (b := w1.heap.size) BW3.out G1.out) hb4); clear hb4 i0 i1 i2 i3 i4 i5 i6 i7 j0 j1 j2 j3 j4 j5 j6 j7; obtain ⟨i0, i1, i2, i3, i4, i5, i6, i7⟩ := F4.out; obtain ⟨j0, j1, j2, j3, j4, j5, j6, j7⟩ := H4.out) | (go_at_call 30; refine (A1.out _ (HA.out.below (set4_below (b := w2.heap.size) BW4.out G2.out)) (HB.out.below (set4_below (b := w2.heap.size) BW4.out G2.out))).mono ?_; rintro e w5 ⟨l5, rfl, ho5, hb5⟩; have H5 := Lib.hid ((H4.out.set C1 Z1 N1 V1).below hb5); have F5 := Lib.hid ((F4.out.other4 NE.out _ _ _ _).below hb5); have BW5 := Lib.hid (Ext.trans (set4_below (b := w2.heap.size) BW4.out G2.out) hb5); have O5 := Lib.hid ho5; clear ho5; clear hb5 i0 i1 i2 i3 i4 i5 i6 i7 j0 j1 j2 j3 j4 j5 j6 j7; obtain ⟨i0, i1, i2, i3, i4, i5, i6, i7⟩ := F5.out; obtain ⟨j0, j1, j2, j3, j4, j5, j6, j7⟩ := H5.out) | (go_at_call_of 31 (Value.bool true); refine (A2.out _ (HA.out.below (set4_below (b := w1.heap.size) BW5.out G1.out)) (HB.out.below (set4_below (b := w1.heap.size) BW5.out G1.out))).mono ?_; rintro e w6 ⟨l6, rfl, ho6, hb6⟩; have F6 := Lib.hid ((F5.out.set C2 Z2 N2 V2).below hb6); have H6 := Lib.hid ((H5.out.other4 NE.out.symm _ _ _ _).below hb6); have BW6 := Lib.hid (Ext.trans (set4_below (b := w1.heap.size) BW5.out G1.out) hb6); have O6 := Lib.hid ho6; have P5 := Lib.hid (ownsRow_below (own_set4 O5.out (by simpa using Fl.lt F4.out)) hb6); clear ho6; clear hb6 i0 i1 i2 i3 i4 i5 i6 i7 j0 j1 j2 j3 j4 j5 j6 j7; obtain ⟨i0, i1, i2, i3, i4, i5, i6, i7⟩ := F6.out; obtain ⟨j0, j1, j2, j3, j4, j5, j6, j7⟩ := H6.out) | (go_at_call_of 23 l5; refine (SM.out _ _ _ _ _ (Rd.of_owns (own_set4 P5.out (by simpa using Fl.lt H4.out)) HK.out) (Rd.of_owns (own_set4 O6.out (by simpa using Fl.lt H5.out)) HK.out)).mono ?_; rintro e w7 ⟨rfl, hb7⟩; have H7 := Lib.hid ((H6.out.set C2 Z2 N2 V2).below hb7); have F7 := Lib.hid ((F6.out.other4 NE.out _ _ _ _).below hb7); have BW7 := Lib.hid (Ext.trans (set4_below (b := w2.heap.size) BW6.out G2.out) hb7); clear hb7 i0 i1 i2 i3 i4 i5 i6 i7 j0 j1 j2 j3 j4 j5 j6 j7; obtain ⟨i0, i1, i2, i3, i4, i5, i6, i7⟩ := F7.out; obtain ⟨j0, j1, j2, j3, j4, j5, j6, j7⟩ := H7.out) | (go_at_call 32; refine (B1.out _ (HA.out.below BW7.out) (HB.out.below BW7.out)).mono ?_; rintro e w8 ⟨l8, rfl, ho8, hb8⟩; have F8 := Lib.hid (F7.out.below hb8); have H8 := Lib.hid (H7.out.below hb8); have BW8 := Lib.hid (Ext.trans BW7.out hb8); have O8 := Lib.hid ho8; clear ho8; clear hb8 i0 i1 i2 i3 i4 i5 i6 i7 j0 j1 j2 j3 j4 j5 j6 j7; obtain ⟨i0, i1, i2, i3, i4, i5, i6, i7⟩ := F8.out; obtain ⟨j0, j1, j2, j3, j4, j5, j6, j7⟩ := H8.out) | (go_at_call_of 31 (Value.bool false); refine (B2.out _ (HA.out.below (set4_below (b := w1.heap.size) BW8.out G1.out)) (HB.out.below (set4_below (b := w1.heap.size) BW8.out G1.out))).mono ?_; rintro e w9 ⟨l9, rfl, ho9, hb9⟩; have F9 := Lib.hid ((F8.out.set C3 Z3 N3 V3).below hb9); have H9 := Lib.hid ((H8.out.other4 NE.out.symm _ _ _ _).below hb9); have BW9 := Lib.hid (Ext.trans (set4_below (b := w1.heap.size) BW8.out G1.out) hb9); have O9 := Lib.hid ho9; have P8 := Lib.hid (ownsRow_below (own_set4 O8.out (by simpa using Fl.lt F7.out)) hb9); clear ho9; clear hb9 i0 i1 i2 i3 i4 i5 i6 i7 j0 j1 j2 j3 j4 j5 j6 j7; obtain ⟨i0, i1, i2, i3, i4, i5, i6, i7⟩ := F9.out; obtain ⟨j0, j1, j2, j3, j4, j5, j6, j7⟩ := H9.out) | (go_at_call_of 23 l8; refine (SM.out _ _ _ _ _ (Rd.of_owns (own_set4 P8.out (by simpa using Fl.lt H7.out)) HKK.out) (Rd.of_owns (own_set4 O9.out (by simpa using Fl.lt H8.out)) HKK.out)).mono ?_; rintro e w10 ⟨rfl, hb10⟩; have H10 := Lib.hid ((H9.out.set C3 Z3 N3 V3).below hb10); have F10 := Lib.hid ((F9.out.other4 NE.out _ _ _ _).below hb10); have BW10 := Lib.hid (Ext.trans (set4_below (b := w2.heap.size) BW9.out G2.out) hb10); clear hb10 i0 i1 i2 i3 i4 i5 i6 i7 j0 j1 j2 j3 j4 j5 j6 j7; obtain ⟨i0, i1, i2, i3, i4, i5, i6, i7⟩ := F10.out; obtain ⟨j0, j1, j2, j3, j4, j5, j6, j7⟩ := H10.out))
  go_ret
  exact ⟨by simp, BW10.out⟩
theorem both_words (a b : Value) (n m : Nat) (xs ys : List Int) (hI : ∀ y ∈ ys, W.I y) (hx : xs.length = n) (hy : ys.length = m) (hn : n ≤ maxLen) (hm : m ≤ maxLen) :
    (∃ C Z N V E k zs, k ≤ maxLen ∧ (∀ w : World, Rd w 1 a n (xs.map (Value.int .i64)) → Rd w 1 b m (ys.map (Value.int .i64)) → Calls Try.prog 30 #[a, b] w (WRes C Z N V E k zs w)) ∧
      (∀ w : World, Rd w 1 a n (xs.map (Value.int .i64)) → Rd w 1 b m (ys.map (Value.int .i64)) → Calls Try.prog 31 #[a, b, .bool true] w (WRes C Z N V E k zs w))) ∧
    (∃ C Z N V E k zs, k ≤ maxLen ∧ (∀ w : World, Rd w 1 a n (xs.map (Value.int .i64)) → Rd w 1 b m (ys.map (Value.int .i64)) → Calls Try.prog 32 #[a, b] w (WRes C Z N V E k zs w)) ∧
      (∀ w : World, Rd w 1 a n (xs.map (Value.int .i64)) → Rd w 1 b m (ys.map (Value.int .i64)) → Calls Try.prog 31 #[a, b, .bool false] w (WRes C Z N V E k zs w))) := by
  by_cases h : n ≠ m ∨ n < 1 ∨ 4 < n
  · have key : ∀ (F : Nat) (t : Bool), (∀ w : World, Rd w 1 a n (xs.map (Value.int .i64)) → Rd w 1 b m (ys.map (Value.int .i64)) → Calls Try.prog 90 #[a, b, .func (.func F) #[] #[]] w fun e w' => ∃ l, e = .returned (.tuple #[l, .agg #[.bool false, .bool false, .bool false, .bool false], .int .i64 5]) ∧ w'.ownsRow w.heap.size 3 1 l 0 (([] : List Int).map (Value.int .i64)) ∧ Below w.heap.size w w') ∧
        (∀ w : World, Rd w 1 a n (xs.map (Value.int .i64)) → Rd w 1 b m (ys.map (Value.int .i64)) → Calls Try.prog 31 #[a, b, .bool t] w (WRes false false false false 5 0 [] w)) := by
      intro F t
      constructor
      · intro w ha hb
        obtain ⟨x, ca, rfl, _⟩ := ha.len; obtain ⟨y, cb, rfl, _⟩ := hb.len
        exact (chained_many F x y n m ca cb hn hm h w).mono fun e w' hh => ⟨_, hh.1, World.ownsRow_nil _ _ _ _, hh.2⟩
      · intro w ha hb
        obtain ⟨x, ca, rfl, _⟩ := ha.len; obtain ⟨y, cb, rfl, _⟩ := hb.len
        exact (refWords_no x y n m ca cb t hn hm h w).mono fun e w' hh => ⟨_, hh.1, World.ownsRow_nil _ _ _ _, hh.2⟩
    refine ⟨⟨false, false, false, false, 5, 0, [], Nat.zero_le _, fun w ha hb => ?_, (key 0 true).2⟩, ⟨false, false, false, false, 5, 0, [], Nat.zero_le _, fun w ha hb => ?_, (key 0 false).2⟩⟩
    · exact addw_at a b _ _ _ _ 5 0 _ w (fun w1 hb1 => (key 26 true).1 w1 (ha.below hb1) (hb.below hb1))
    · exact subw_at a b _ _ _ _ 5 0 _ w (fun w1 hb1 => (key 28 true).1 w1 (ha.below hb1) (hb.below hb1))
  · obtain ⟨rfl, h1, h4⟩ : n = m ∧ 1 ≤ n ∧ n ≤ 4 := by omega
    refine ⟨⟨_, _, _, _, _, n, _, hn, fun w ha hb => addw_ok a b n xs ys w w ha hb hI h1 h4 (Below.refl _ _), fun w ha hb => ?_⟩, ⟨_, _, _, _, _, n, _, hn, fun w ha hb => subw_ok a b n xs ys w w ha hb hI h1 h4 (Below.refl _ _), fun w ha hb => ?_⟩⟩
    all_goals
      obtain ⟨lx, mx, x, ca, rfl, hca, ra⟩ := ha.ints
      obtain ⟨ly, my, y, cb, rfl, hcb, rb⟩ := hb.ints
      obtain ⟨bx, ox, rfl, cx⟩ := ra (by omega)
      obtain ⟨byy, oy, rfl, cy⟩ := rb (by omega)
      first | exact refAdd_ok bx ox ca byy oy cb n xs ys hx hy h1 h4 w cx cy | exact refSub_ok bx ox ca byy oy cb n xs ys hx hy h1 h4 w cx cy
theorem chains_all (a : Value) (n : Nat) (xs : List Int) {w0 : World} (ha : Rd w0 1 a n (xs.map (Value.int .i64)) ∧ ∀ x ∈ xs, (Lit.int .i64 x).wf = true) (b : Value) (m : Nat) (ys : List Int) (hb : Rd w0 1 b m (ys.map (Value.int .i64)) ∧ ∀ x ∈ ys, (Lit.int .i64 x).wf = true)
    (x : Int) (_ : (Lit.int .i64 x).wf = true) (y : Int) (wy : (Lit.int .i64 y).wf = true) (c : Bool) (_ : World) :
    Calls Try.prog 4 #[a, b, .int .i64 x, .int .i64 y, .bool c] w0 fun e w' => e = .returned (.bool true) ∧ Below w0.heap.size w0 w' := by
  have hx : xs.length = n := by simpa using ha.1.1
  have hy : ys.length = m := by simpa using hb.1.1
  obtain ⟨⟨C2, Z2, N2, V2, E, k, zs, hk, p1, p2⟩, ⟨C3, Z3, N3, V3, E2, kk, zt, hkk, q1, q2⟩⟩ := both_words a b n m xs ys (W.I_wfs hb.2) hx hy ha.1.2.1 hb.1.2.1
  exact chains_raw a b x y (W.sR x y c) (W.dR x y c) c n m k kk xs ys zs zt E E2 _ _ _ _ _ _ _ _ C2 Z2 N2 V2 C3 Z3 N3 V3 w0 hk hkk ha.1 hb.1 (fun w => sum_ok x y c w) (fun w => refSum_ok x y c w) (fun w => diff_ok x y c (W.I_wf wy) w) (fun w => refDiff_ok x y c w) p1 p2 q1 q2
end Go.Proofs.Ytgpjhbaehhjdhaa
