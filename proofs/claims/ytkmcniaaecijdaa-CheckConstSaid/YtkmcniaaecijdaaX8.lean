/- Walk of ref8.Count.Expr: what is wrong with an expression's shape. No condition. -/
import Derived.Test.YtkmcniaaecijdaaXA
import Derived.LoopTactic
import Derived.Deep.Cut
namespace Go.Proofs.Ytkmcniaaecijdaa
open Go.RowKit
set_option linter.unusedVariables false
set_option linter.unusedSimpArgs false
set_option maxRecDepth 100000
/-- A kid, where it lies. -/
theorem XAt.kid {w : World} {k n b : Int} {s : Bool} {nm : ByteArray} {ks : List X} {a : Option Addr} {L c : Nat} (h : XAt w (.mk k n b s nm ks) (X.cells k n b s nm (.slice a L c))) {i : Nat} {y : X} (hy : ks[i]? = some y) :
    ∃ (g off : Nat) (ay : Option Addr) (cy : Nat), a = some ⟨g, off, none⟩ ∧ XAt w y (X.cells y.kind y.num y.bits y.sg y.name (.slice ay y.kids.length cy)) ∧
      w.cell? ⟨g, off + i * 6, none⟩ = some (.int .i64 y.kind) ∧ w.cell? ⟨g, off + i * 6 + 1, none⟩ = some (.int .u64 y.num) ∧ w.cell? ⟨g, off + i * 6 + 2, none⟩ = some (.int .i64 y.bits) ∧ w.cell? ⟨g, off + i * 6 + 3, none⟩ = some (.bool y.sg) ∧ w.cell? ⟨g, off + i * 6 + 4, none⟩ = some (.string y.name) ∧ w.cell? ⟨g, off + i * 6 + 5, none⟩ = some (.slice ay y.kids.length cy) := by
  obtain ⟨a2, c2, e, _, _, hk⟩ := h.open
  have e2 : a = a2 := by
    have := congrArg (fun l => l[5]?) e
    simp at this
    exact this.1
  obtain ⟨g, off, ys, ha, hx, hc⟩ := hk i y hy
  obtain ⟨ay, cy, ey, _⟩ := hx.open
  subst ey
  exact ⟨g, off, ay, cy, e2.trans ha, hx, hc 0 _ rfl, hc 1 _ rfl, hc 2 _ rfl, hc 3 _ rfl, hc 4 _ rfl, hc 5 _ rfl⟩
theorem XAt.lens {w : World} {k n b : Int} {s : Bool} {nm : ByteArray} {ks : List X} {a : Option Addr} {L c : Nat} (h : XAt w (.mk k n b s nm ks) (X.cells k n b s nm (.slice a L c))) : ks.length = L ∧ L ≤ c ∧ c ≤ maxLen := by
  obtain ⟨a2, c2, e, h1, h2, _⟩ := h.open
  have := congrArg (fun l => l[5]?) e
  simp at this
  obtain ⟨_, h3, h4⟩ := this
  have h1' : ks.length ≤ c2 := h1
  exact ⟨h3.symm, by omega, by omega⟩
namespace X
theorem cnt_thru {k n b : Int} {s : Bool} {nm : ByteArray} {ks : List X} {N : Nat} {d : Int} (hm : ¬ (20000 ≤ N ∨ 100 < d)) (h : Thru k n b s nm.data.toList) :
    cnt (.mk k n b s nm ks) N d = if (kidsOf k = -1 ∧ 8 < ks.length) ∨ (0 ≤ kidsOf k ∧ kidsOf k ≠ (ks.length : Int)) then (5, N + 1) else cnts ks (N + 1) (d + 1) := by
  rw [cnt_eq, if_neg hm]
  show (if own k n b s nm.data.toList ks.length = 0 then cnts ks (N + 1) (d + 1) else (own k n b s nm.data.toList ks.length, N + 1)) = _
  rw [own_thru h]
  split
  · rename_i h1; rw [if_neg (by decide)]
  · rfl
end X
/-- What is known of a kid's walk. -/
def CntI (g : Nat) (y : X) : Prop := ∀ (w : World) (cs : List Value) (N : Nat) (d : Int), XAt w y cs → CntB w g N → N ≤ 20000 → 0 ≤ d → d ≤ 101 → Calls Try.prog 12 #[P g, .agg cs.toArray, .int .i64 d] w (CntR g w (X.cnt y N d))
set_option maxHeartbeats 4000000 in
theorem cexpr_go1 (g N : Nat) (d : Int) (n b : Int) (s : Bool) (nm : ByteArray) (ks : List X) (a : Option Addr) (L c : Nat) (w : World) (hN : N ≤ 20000) (hd : 0 ≤ d) (hX : XAt w (.mk 1 n b s nm ks) (X.cells 1 n b s nm (.slice a L c))) (hn : W.U n) (hs : nm.size ≤ maxLen) (hB : CntB w g N)
    (hm : ¬ (20000 ≤ N ∨ 100 < d)) (hT : X.Thru 1 n b s nm.data.toList) (hM : X.kidsOf 1 = 0) (IH : ∀ y ∈ ks, CntI g y) :
    Calls Try.prog 12 #[P g, .agg #[.int .i64 1, .int .u64 n, .int .i64 b, .bool s, .string nm, .slice a L c], .int .i64 d] w (CntR g w (X.cnt (.mk 1 n b s nm ks) N d)) := by
  have HN20 := Lib.hid hN
  obtain ⟨hL, hLc, hcm⟩ := hX.lens
  have HXAT := Lib.hid hX
  have HB0 := Lib.hid hB
  have HCB := Lib.hid (hB.alloc (.cells #[.int .i64 1, .int .u64 n, .int .i64 b, .bool s, .string nm, .slice a L c] 36))
  have HC1 := Lib.hid (Chg.of_below (Ext.alloc (Below.refl _ w) (.cells #[.int .i64 1, .int .u64 n, .int .i64 b, .bool s, .string nm, .slice a L c] 36)) : Chg g w _)
  have HX : Hid (Bx (w.alloc (.cells #[.int .i64 1, .int .u64 n, .int .i64 b, .bool s, .string nm, .slice a L c] 36)) w.heap.size 1 n b s nm (.slice a L c)) := Blk.new _ _ _
  have HBG : Hid (some w.heap.size ≠ some g) := by have := hB.lt; show some _ ≠ some g; intro h; injection h with h; omega
  have hcnt := X.cnt_thru (ks := ks) hm hT
  have HONE : Hid (∀ w1 : World, CntB w1 g N → Calls Try.prog 30 #[P g, .int .i64 d] w1 fun e w' => e = .returned (.int .i64 0) ∧ Chg g w1 w' ∧ CntB w' g (N + 1)) := fun w1 hb => by
    have := one8_ok w1 g N d hN hb; rw [if_neg hm] at this; exact this
  have HKID : Hid (∀ w1 : World, Calls Try.prog 31 #[.int .i64 1] w1 fun e w' => e = .returned (.int .i64 0) ∧ w1 = w') := fun w1 => by
    have := kidsOf8_ok 1 w1; rw [hM] at this; exact this
  have h100 : d ≤ 100 := by omega
  have HNN : Hid (N + 1 ≤ 20000) := by show N + 1 ≤ 20000; omega
  obtain ⟨R, hR⟩ : ∃ R, R = X.cnt (.mk 1 n b s nm ks) N d := ⟨_, rfl⟩
  rw [← hR] at hcnt ⊢
  rw [hM] at hcnt
  have HIH := Lib.hid IH
  have HLEN := Lib.hid hL
  have HLIT : Hid (∀ w1 : World, Calls Try.prog 28 #[.int .u64 n, .bool (!s)] w1 fun e w' => e = .returned (.tuple #[W.ty b s, .int .i64 0]) ∧ Below w1.heap.size w1 w') := fun w1 => by
    have := r7literal_ok n (!s) hn w1; rw [hT.2.1 rfl] at this; exact this
  clear hm hT hM hB hX IH hN hR hn hs
  by_cases hl : ¬ L = 0
  · have HR := Lib.hid (hcnt.trans (if_pos (.inr ⟨by decide, by rw [hL]; omega⟩)))
    have dl : ¬ (L : Int) = 0 := (by omega)
    clear hcnt hl hL
    go_enter Try.func12, Try.ntmps12
    go_wp2_with (first | (go_at_call 30; refine (HONE.out _ HCB.out).mono ?_; rintro e w2 ⟨rfl, hc2, hb2⟩; have HC2 := Lib.hid (HC1.out.trans hc2); have HB2 := Lib.hid hb2; have HX2 := Lib.hid (HX.out.grown hc2 HBG.out); obtain ⟨x0, x1, x2, x3, x4, x5⟩ := Bx.six HX2.out; clear hc2 hb2) | (go_at_call 31; refine (HKID.out _).mono ?_; rintro e w' ⟨rfl, rfl⟩) | (go_at_call 28; refine (HLIT.out _).mono ?_; rintro e w3 ⟨rfl, hb3⟩; clear x0 x1 x2 x3 x4 x5; obtain ⟨x0, x1, x2, x3, x4, x5⟩ := Bx.six ((HX2.out.keep hb3).alloc (.cells #[.int .i64 b, .bool s] 31)); obtain ⟨t0, t1, t2, t3⟩ := Ty.new w3 rfl b s 31; have HC3 := Lib.hid (HC2.out.trans ((Chg.of_below hb3).trans (Chg.of_below (Ext.alloc (Below.refl _ _) (.cells #[.int .i64 b, .bool s] 31)))) : Chg g w _); have HN3 := Lib.hid ((HB2.out.keep hb3).alloc (.cells #[.int .i64 b, .bool s] 31)); clear hb3))
    go_ret
    exact ⟨by rw [HR.out]; rfl, HC3.out, by rw [HR.out]; exact HN3.out⟩
  · have hl2 : L = 0 := Classical.not_not.1 hl
    subst hl2
    have HR := Lib.hid (hcnt.trans (if_neg (by rw [hL]; omega)))
    clear hcnt hl hL
    go_enter Try.func12, Try.ntmps12
    go_upto_region 18 with (first | (go_at_call 30; refine (HONE.out _ HCB.out).mono ?_; rintro e w2 ⟨rfl, hc2, hb2⟩; have HC2 := Lib.hid (HC1.out.trans hc2); have HB2 := Lib.hid hb2; have HX2 := Lib.hid (HX.out.grown hc2 HBG.out); obtain ⟨x0, x1, x2, x3, x4, x5⟩ := Bx.six HX2.out; clear hc2 hb2) | (go_at_call 31; refine (HKID.out _).mono ?_; rintro e w' ⟨rfl, rfl⟩) | (go_at_call 28; refine (HLIT.out _).mono ?_; rintro e w3 ⟨rfl, hb3⟩; clear x0 x1 x2 x3 x4 x5; obtain ⟨x0, x1, x2, x3, x4, x5⟩ := Bx.six ((HX2.out.keep hb3).alloc (.cells #[.int .i64 b, .bool s] 31)); obtain ⟨t0, t1, t2, t3⟩ := Ty.new w3 rfl b s 31; have HC3 := Lib.hid (HC2.out.trans ((Chg.of_below hb3).trans (Chg.of_below (Ext.alloc (Below.refl _ _) (.cells #[.int .i64 b, .bool s] 31)))) : Chg g w _); have HN3 := Lib.hid ((HB2.out.keep hb3).alloc (.cells #[.int .i64 b, .bool s] 31)); clear hb3))
    go_loopw [96] (fun i wr => ∃ j : Nat, j ≤ 0 ∧ i = .int .i64 (j : Int) ∧ Hid (Chg g w wr ∧ (X.cnts (ks.take j) (N + 1) (d + 1)).1 = 0 ∧ CntB wr g (X.cnts (ks.take j) (N + 1) (d + 1)).2)) (fun i wr => 0 - (intOf i).toNat)
    case atStart => exact ⟨0, Nat.zero_le _, rfl, HC3.out, rfl, HN3.out⟩
    case round =>
      obtain ⟨j, hj, rfl, hrest⟩ := hrel
      by_cases hlt : j < 0
      · exact absurd hlt (Nat.not_lt_zero _)
      · have hjl : 0 = j := by omega
        subst hjl
        have HE : Hid (R = (0, (X.cnts (ks.take 0) (N + 1) (d + 1)).2)) := by
          show R = _
          rw [HR.out, Prod.ext_iff]
          have : ks.take 0 = ks := List.take_of_length_le (by rw [HLEN.out]; exact Nat.le_refl _)
          have h0 := hrest.out.2.1
          rw [this] at h0 ⊢
          exact ⟨h0, rfl⟩
        go_wp2
        go_ret
        exact ⟨by rw [HE.out]; rfl, hrest.out.1, by rw [HE.out]; exact hrest.out.2.2⟩
set_option maxHeartbeats 4000000 in
theorem cexpr_go2 (g N : Nat) (d : Int) (n b : Int) (s : Bool) (nm : ByteArray) (ks : List X) (a : Option Addr) (L c : Nat) (w : World) (hN : N ≤ 20000) (hd : 0 ≤ d) (hX : XAt w (.mk 2 n b s nm ks) (X.cells 2 n b s nm (.slice a L c))) (hn : W.U n) (hs : nm.size ≤ maxLen) (hB : CntB w g N)
    (hm : ¬ (20000 ≤ N ∨ 100 < d)) (hT : X.Thru 2 n b s nm.data.toList) (hM : X.kidsOf 2 = 0) (IH : ∀ y ∈ ks, CntI g y) :
    Calls Try.prog 12 #[P g, .agg #[.int .i64 2, .int .u64 n, .int .i64 b, .bool s, .string nm, .slice a L c], .int .i64 d] w (CntR g w (X.cnt (.mk 2 n b s nm ks) N d)) := by
  have HN20 := Lib.hid hN
  obtain ⟨hL, hLc, hcm⟩ := hX.lens
  have HXAT := Lib.hid hX
  have HB0 := Lib.hid hB
  have HCB := Lib.hid (hB.alloc (.cells #[.int .i64 2, .int .u64 n, .int .i64 b, .bool s, .string nm, .slice a L c] 36))
  have HC1 := Lib.hid (Chg.of_below (Ext.alloc (Below.refl _ w) (.cells #[.int .i64 2, .int .u64 n, .int .i64 b, .bool s, .string nm, .slice a L c] 36)) : Chg g w _)
  have HX : Hid (Bx (w.alloc (.cells #[.int .i64 2, .int .u64 n, .int .i64 b, .bool s, .string nm, .slice a L c] 36)) w.heap.size 2 n b s nm (.slice a L c)) := Blk.new _ _ _
  have HBG : Hid (some w.heap.size ≠ some g) := by have := hB.lt; show some _ ≠ some g; intro h; injection h with h; omega
  have hcnt := X.cnt_thru (ks := ks) hm hT
  have HONE : Hid (∀ w1 : World, CntB w1 g N → Calls Try.prog 30 #[P g, .int .i64 d] w1 fun e w' => e = .returned (.int .i64 0) ∧ Chg g w1 w' ∧ CntB w' g (N + 1)) := fun w1 hb => by
    have := one8_ok w1 g N d hN hb; rw [if_neg hm] at this; exact this
  have HKID : Hid (∀ w1 : World, Calls Try.prog 31 #[.int .i64 2] w1 fun e w' => e = .returned (.int .i64 0) ∧ w1 = w') := fun w1 => by
    have := kidsOf8_ok 2 w1; rw [hM] at this; exact this
  have h100 : d ≤ 100 := by omega
  have HNN : Hid (N + 1 ≤ 20000) := by show N + 1 ≤ 20000; omega
  obtain ⟨R, hR⟩ : ∃ R, R = X.cnt (.mk 2 n b s nm ks) N d := ⟨_, rfl⟩
  rw [← hR] at hcnt ⊢
  rw [hM] at hcnt
  have HIH := Lib.hid IH
  have HLEN := Lib.hid hL
  have HNAM : Hid (∀ w1 : World, Calls Try.prog 9 #[.string nm] w1 fun e w' => e = .returned (.bool true) ∧ Below w1.heap.size w1 w') := fun w1 => by
    have := sNamed8_ok nm hs w1; rw [hT.2.2.1 (by omega)] at this; exact this
  clear hm hT hM hB hX IH hN hR hn hs
  by_cases hl : ¬ L = 0
  · have HR := Lib.hid (hcnt.trans (if_pos (.inr ⟨by decide, by rw [hL]; omega⟩)))
    have dl : ¬ (L : Int) = 0 := (by omega)
    clear hcnt hl hL
    go_enter Try.func12, Try.ntmps12
    go_wp2_with (first | (go_at_call 30; refine (HONE.out _ HCB.out).mono ?_; rintro e w2 ⟨rfl, hc2, hb2⟩; have HC2 := Lib.hid (HC1.out.trans hc2); have HB2 := Lib.hid hb2; have HX2 := Lib.hid (HX.out.grown hc2 HBG.out); obtain ⟨x0, x1, x2, x3, x4, x5⟩ := Bx.six HX2.out; clear hc2 hb2) | (go_at_call 31; refine (HKID.out _).mono ?_; rintro e w' ⟨rfl, rfl⟩) | (go_at_call 9; refine (HNAM.out _).mono ?_; rintro e w3 ⟨rfl, hb3⟩; have HC3 := Lib.hid (HC2.out.trans (Chg.of_below hb3) : Chg g w w3); have HN3 := Lib.hid (HB2.out.keep hb3); clear x0 x1 x2 x3 x4 x5; obtain ⟨x0, x1, x2, x3, x4, x5⟩ := Bx.six (HX2.out.keep hb3); clear hb3))
    go_ret
    exact ⟨by rw [HR.out]; rfl, HC3.out, by rw [HR.out]; exact HN3.out⟩
  · have hl2 : L = 0 := Classical.not_not.1 hl
    subst hl2
    have HR := Lib.hid (hcnt.trans (if_neg (by rw [hL]; omega)))
    clear hcnt hl hL
    go_enter Try.func12, Try.ntmps12
    go_upto_region 18 with (first | (go_at_call 30; refine (HONE.out _ HCB.out).mono ?_; rintro e w2 ⟨rfl, hc2, hb2⟩; have HC2 := Lib.hid (HC1.out.trans hc2); have HB2 := Lib.hid hb2; have HX2 := Lib.hid (HX.out.grown hc2 HBG.out); obtain ⟨x0, x1, x2, x3, x4, x5⟩ := Bx.six HX2.out; clear hc2 hb2) | (go_at_call 31; refine (HKID.out _).mono ?_; rintro e w' ⟨rfl, rfl⟩) | (go_at_call 9; refine (HNAM.out _).mono ?_; rintro e w3 ⟨rfl, hb3⟩; have HC3 := Lib.hid (HC2.out.trans (Chg.of_below hb3) : Chg g w w3); have HN3 := Lib.hid (HB2.out.keep hb3); clear x0 x1 x2 x3 x4 x5; obtain ⟨x0, x1, x2, x3, x4, x5⟩ := Bx.six (HX2.out.keep hb3); clear hb3))
    go_loopw [96] (fun i wr => ∃ j : Nat, j ≤ 0 ∧ i = .int .i64 (j : Int) ∧ Hid (Chg g w wr ∧ (X.cnts (ks.take j) (N + 1) (d + 1)).1 = 0 ∧ CntB wr g (X.cnts (ks.take j) (N + 1) (d + 1)).2)) (fun i wr => 0 - (intOf i).toNat)
    case atStart => exact ⟨0, Nat.zero_le _, rfl, HC3.out, rfl, HN3.out⟩
    case round =>
      obtain ⟨j, hj, rfl, hrest⟩ := hrel
      by_cases hlt : j < 0
      · exact absurd hlt (Nat.not_lt_zero _)
      · have hjl : 0 = j := by omega
        subst hjl
        have HE : Hid (R = (0, (X.cnts (ks.take 0) (N + 1) (d + 1)).2)) := by
          show R = _
          rw [HR.out, Prod.ext_iff]
          have : ks.take 0 = ks := List.take_of_length_le (by rw [HLEN.out]; exact Nat.le_refl _)
          have h0 := hrest.out.2.1
          rw [this] at h0 ⊢
          exact ⟨h0, rfl⟩
        go_wp2
        go_ret
        exact ⟨by rw [HE.out]; rfl, hrest.out.1, by rw [HE.out]; exact hrest.out.2.2⟩
set_option maxHeartbeats 4000000 in
theorem cexpr_go3 (g N : Nat) (d : Int) (n b : Int) (s : Bool) (nm : ByteArray) (ks : List X) (a : Option Addr) (L c : Nat) (w : World) (hN : N ≤ 20000) (hd : 0 ≤ d) (hX : XAt w (.mk 3 n b s nm ks) (X.cells 3 n b s nm (.slice a L c))) (hn : W.U n) (hs : nm.size ≤ maxLen) (hB : CntB w g N)
    (hm : ¬ (20000 ≤ N ∨ 100 < d)) (hT : X.Thru 3 n b s nm.data.toList) (hM : X.kidsOf 3 = 1) (IH : ∀ y ∈ ks, CntI g y) :
    Calls Try.prog 12 #[P g, .agg #[.int .i64 3, .int .u64 n, .int .i64 b, .bool s, .string nm, .slice a L c], .int .i64 d] w (CntR g w (X.cnt (.mk 3 n b s nm ks) N d)) := by
  have HN20 := Lib.hid hN
  obtain ⟨hL, hLc, hcm⟩ := hX.lens
  have HXAT := Lib.hid hX
  have HB0 := Lib.hid hB
  have HCB := Lib.hid (hB.alloc (.cells #[.int .i64 3, .int .u64 n, .int .i64 b, .bool s, .string nm, .slice a L c] 36))
  have HC1 := Lib.hid (Chg.of_below (Ext.alloc (Below.refl _ w) (.cells #[.int .i64 3, .int .u64 n, .int .i64 b, .bool s, .string nm, .slice a L c] 36)) : Chg g w _)
  have HX : Hid (Bx (w.alloc (.cells #[.int .i64 3, .int .u64 n, .int .i64 b, .bool s, .string nm, .slice a L c] 36)) w.heap.size 3 n b s nm (.slice a L c)) := Blk.new _ _ _
  have HBG : Hid (some w.heap.size ≠ some g) := by have := hB.lt; show some _ ≠ some g; intro h; injection h with h; omega
  have hcnt := X.cnt_thru (ks := ks) hm hT
  have HONE : Hid (∀ w1 : World, CntB w1 g N → Calls Try.prog 30 #[P g, .int .i64 d] w1 fun e w' => e = .returned (.int .i64 0) ∧ Chg g w1 w' ∧ CntB w' g (N + 1)) := fun w1 hb => by
    have := one8_ok w1 g N d hN hb; rw [if_neg hm] at this; exact this
  have HKID : Hid (∀ w1 : World, Calls Try.prog 31 #[.int .i64 3] w1 fun e w' => e = .returned (.int .i64 1) ∧ w1 = w') := fun w1 => by
    have := kidsOf8_ok 3 w1; rw [hM] at this; exact this
  have h100 : d ≤ 100 := by omega
  have HNN : Hid (N + 1 ≤ 20000) := by show N + 1 ≤ 20000; omega
  obtain ⟨R, hR⟩ : ∃ R, R = X.cnt (.mk 3 n b s nm ks) N d := ⟨_, rfl⟩
  rw [← hR] at hcnt ⊢
  rw [hM] at hcnt
  have HIH := Lib.hid IH
  have HLEN := Lib.hid hL
  have HNAM : Hid (∀ w1 : World, Calls Try.prog 9 #[.string nm] w1 fun e w' => e = .returned (.bool true) ∧ Below w1.heap.size w1 w') := fun w1 => by
    have := sNamed8_ok nm hs w1; rw [hT.2.2.1 (by omega)] at this; exact this
  clear hm hT hM hB hX IH hN hR hn hs
  by_cases hl : ¬ L = 1
  · have HR := Lib.hid (hcnt.trans (if_pos (.inr ⟨by decide, by rw [hL]; omega⟩)))
    have dl : ¬ (L : Int) = 1 := (by omega)
    clear hcnt hl hL
    go_enter Try.func12, Try.ntmps12
    go_wp2_with (first | (go_at_call 30; refine (HONE.out _ HCB.out).mono ?_; rintro e w2 ⟨rfl, hc2, hb2⟩; have HC2 := Lib.hid (HC1.out.trans hc2); have HB2 := Lib.hid hb2; have HX2 := Lib.hid (HX.out.grown hc2 HBG.out); obtain ⟨x0, x1, x2, x3, x4, x5⟩ := Bx.six HX2.out; clear hc2 hb2) | (go_at_call 31; refine (HKID.out _).mono ?_; rintro e w' ⟨rfl, rfl⟩) | (go_at_call 9; refine (HNAM.out _).mono ?_; rintro e w3 ⟨rfl, hb3⟩; have HC3 := Lib.hid (HC2.out.trans (Chg.of_below hb3) : Chg g w w3); have HN3 := Lib.hid (HB2.out.keep hb3); clear x0 x1 x2 x3 x4 x5; obtain ⟨x0, x1, x2, x3, x4, x5⟩ := Bx.six (HX2.out.keep hb3); clear hb3))
    go_ret
    exact ⟨by rw [HR.out]; rfl, HC3.out, by rw [HR.out]; exact HN3.out⟩
  · have hl2 : L = 1 := Classical.not_not.1 hl
    subst hl2
    have HR := Lib.hid (hcnt.trans (if_neg (by rw [hL]; omega)))
    clear hcnt hl hL
    go_enter Try.func12, Try.ntmps12
    go_upto_region 18 with (first | (go_at_call 30; refine (HONE.out _ HCB.out).mono ?_; rintro e w2 ⟨rfl, hc2, hb2⟩; have HC2 := Lib.hid (HC1.out.trans hc2); have HB2 := Lib.hid hb2; have HX2 := Lib.hid (HX.out.grown hc2 HBG.out); obtain ⟨x0, x1, x2, x3, x4, x5⟩ := Bx.six HX2.out; clear hc2 hb2) | (go_at_call 31; refine (HKID.out _).mono ?_; rintro e w' ⟨rfl, rfl⟩) | (go_at_call 9; refine (HNAM.out _).mono ?_; rintro e w3 ⟨rfl, hb3⟩; have HC3 := Lib.hid (HC2.out.trans (Chg.of_below hb3) : Chg g w w3); have HN3 := Lib.hid (HB2.out.keep hb3); clear x0 x1 x2 x3 x4 x5; obtain ⟨x0, x1, x2, x3, x4, x5⟩ := Bx.six (HX2.out.keep hb3); clear hb3))
    go_loopw [96] (fun i wr => ∃ j : Nat, j ≤ 1 ∧ i = .int .i64 (j : Int) ∧ Hid (Chg g w wr ∧ (X.cnts (ks.take j) (N + 1) (d + 1)).1 = 0 ∧ CntB wr g (X.cnts (ks.take j) (N + 1) (d + 1)).2)) (fun i wr => 1 - (intOf i).toNat)
    case atStart => exact ⟨0, Nat.zero_le _, rfl, HC3.out, rfl, HN3.out⟩
    case round =>
      obtain ⟨j, hj, rfl, hrest⟩ := hrel
      by_cases hlt : j < 1
      · obtain ⟨y, hy⟩ : ∃ y, ks[j]? = some y := ⟨_, List.getElem?_eq_getElem (by rw [HLEN.out]; exact hlt)⟩
        obtain ⟨gk, off, ay, cy, ha, hxy, k0, k1, k2, k3, k4, k5⟩ := (HXAT.out.chg1 HB0.out hrest.out.1).kid hy
        subst ha
        obtain ⟨N', hN'⟩ : ∃ N', N' = (X.cnts (ks.take j) (N + 1) (d + 1)).2 := ⟨_, rfl⟩
        obtain ⟨rc, rn, hrr⟩ : ∃ rc rn, X.cnt y N' (d + 1) = (rc, rn) := ⟨_, _, rfl⟩
        have hN2 : N' ≤ 20000 := by rw [hN']; exact X.cnts_small _ _ HNN.out hrest.out.2.1
        have HIY : Hid (∀ w1 : World, XAt w1 y (X.cells y.kind y.num y.bits y.sg y.name (.slice ay y.kids.length cy)) → CntB w1 g N' → Calls Try.prog 12 #[P g, .agg #[.int .i64 y.kind, .int .u64 y.num, .int .i64 y.bits, .bool y.sg, .string y.name, .slice ay y.kids.length cy], .int .i64 (d + 1)] w1 (CntR g w1 (rc, rn))) := fun w1 h1 h2 => by
          rw [← hrr]; exact HIH.out y (List.mem_of_getElem? hy) w1 _ N' (d + 1) h1 h2 hN2 (by omega) (by omega)
        have HXY := Lib.hid hxy
        have HBR : Hid (CntB wr g N') := by rw [hN']; exact hrest.out.2.2
        have HCR := Lib.hid hrest.out.1
        have HLT := Lib.hid hlt
        have HSN : Hid (rc = 0 → (X.cnts (ks.take (j + 1)) (N + 1) (d + 1)) = (rc, rn)) := fun _ => by
          have this : X.cnts (ks.take (j + 1)) (N + 1) (d + 1) = X.cnt y (X.cnts (ks.take j) (N + 1) (d + 1)).2 (d + 1) := X.cnts_take (x := .mk 3 n b s nm ks) hy (N + 1) (d + 1) hrest.out.2.1
          rw [← hN', hrr] at this; exact this
        have HBD : Hid (rc ≠ 0 → R = (rc, rn)) := fun h0 => by
          rw [HR.out]
          have h00 : (X.cnt y (X.cnts (ks.take j) (N + 1) (d + 1)).2 (d + 1)).1 ≠ 0 := (by rw [← hN', hrr]; exact h0)
          have this : X.cnts ks (N + 1) (d + 1) = X.cnt y (X.cnts (ks.take j) (N + 1) (d + 1)).2 (d + 1) := X.cnts_bad (x := .mk 3 n b s nm ks) hy (N + 1) (d + 1) hrest.out.2.1 h00
          rw [← hN', hrr] at this; exact this
        clear hrr hN' hxy hrest hN2 hy
        obtain ⟨yk, hyk⟩ : ∃ z, z = y.kind := ⟨_, rfl⟩
        obtain ⟨yn, hyn⟩ : ∃ z, z = y.num := ⟨_, rfl⟩
        obtain ⟨yb, hyb⟩ : ∃ z, z = y.bits := ⟨_, rfl⟩
        obtain ⟨ysg, hys⟩ : ∃ z, z = y.sg := ⟨_, rfl⟩
        obtain ⟨ynm, hynm⟩ : ∃ z, z = y.name := ⟨_, rfl⟩
        obtain ⟨yl, hyl⟩ : ∃ z, z = y.kids.length := ⟨_, rfl⟩
        rw [← hyk] at k0 HIY HXY; rw [← hyn] at k1 HIY HXY; rw [← hyb] at k2 HIY HXY; rw [← hys] at k3 HIY HXY; rw [← hynm] at k4 HIY HXY; rw [← hyl] at k5 HIY HXY
        clear hyk hyn hyb hys hynm hyl
        clear x0 x1 x2 x3 x4 x5
        by_cases hr : rc = 0
        · subst hr
          have HSN2 := Lib.hid (HSN.out rfl)
          clear HSN HBD
          go_wp2_with (first | (go_at_call 12; refine (HIY.out _ (HXY.out.keep (Ext.alloc (Below.refl _ _) _)) (HBR.out.alloc _)).mono ?_; rintro e w4 ⟨rfl, hc4, hb4⟩; have HC4 := Lib.hid (HCR.out.trans ((Chg.of_below (Ext.alloc (Below.refl _ _) _)).trans hc4)); have HB4 := Lib.hid hb4; clear hc4 hb4))
          go_round
          case rel => exact ⟨j + 1, HLT.out, by go_num, HC4.out, by rw [HSN2.out], by rw [HSN2.out]; exact HB4.out⟩
          case measure => have := HLT.out; simp [intOf]; omega
        · have HBR2 := Lib.hid (HBD.out hr)
          clear HSN HBD
          go_wp2_with (first | (go_at_call 12; refine (HIY.out _ (HXY.out.keep (Ext.alloc (Below.refl _ _) _)) (HBR.out.alloc _)).mono ?_; rintro e w4 ⟨rfl, hc4, hb4⟩; have HC4 := Lib.hid (HCR.out.trans ((Chg.of_below (Ext.alloc (Below.refl _ _) _)).trans hc4)); have HB4 := Lib.hid hb4; clear hc4 hb4))
          go_ret
          exact ⟨by rw [HBR2.out]; rfl, HC4.out, by rw [HBR2.out]; exact HB4.out⟩
      · have hjl : 1 = j := by omega
        subst hjl
        have HE : Hid (R = (0, (X.cnts (ks.take 1) (N + 1) (d + 1)).2)) := by
          show R = _
          rw [HR.out, Prod.ext_iff]
          have : ks.take 1 = ks := List.take_of_length_le (by rw [HLEN.out]; exact Nat.le_refl _)
          have h0 := hrest.out.2.1
          rw [this] at h0 ⊢
          exact ⟨h0, rfl⟩
        go_wp2
        go_ret
        exact ⟨by rw [HE.out]; rfl, hrest.out.1, by rw [HE.out]; exact hrest.out.2.2⟩
set_option maxHeartbeats 4000000 in
theorem cexpr_go4 (g N : Nat) (d : Int) (n b : Int) (s : Bool) (nm : ByteArray) (ks : List X) (a : Option Addr) (L c : Nat) (w : World) (hN : N ≤ 20000) (hd : 0 ≤ d) (hX : XAt w (.mk 4 n b s nm ks) (X.cells 4 n b s nm (.slice a L c))) (hn : W.U n) (hs : nm.size ≤ maxLen) (hB : CntB w g N)
    (hm : ¬ (20000 ≤ N ∨ 100 < d)) (hT : X.Thru 4 n b s nm.data.toList) (hM : X.kidsOf 4 = (-1)) (IH : ∀ y ∈ ks, CntI g y) :
    Calls Try.prog 12 #[P g, .agg #[.int .i64 4, .int .u64 n, .int .i64 b, .bool s, .string nm, .slice a L c], .int .i64 d] w (CntR g w (X.cnt (.mk 4 n b s nm ks) N d)) := by
  have HN20 := Lib.hid hN
  obtain ⟨hL, hLc, hcm⟩ := hX.lens
  have HXAT := Lib.hid hX
  have HB0 := Lib.hid hB
  have HCB := Lib.hid (hB.alloc (.cells #[.int .i64 4, .int .u64 n, .int .i64 b, .bool s, .string nm, .slice a L c] 36))
  have HC1 := Lib.hid (Chg.of_below (Ext.alloc (Below.refl _ w) (.cells #[.int .i64 4, .int .u64 n, .int .i64 b, .bool s, .string nm, .slice a L c] 36)) : Chg g w _)
  have HX : Hid (Bx (w.alloc (.cells #[.int .i64 4, .int .u64 n, .int .i64 b, .bool s, .string nm, .slice a L c] 36)) w.heap.size 4 n b s nm (.slice a L c)) := Blk.new _ _ _
  have HBG : Hid (some w.heap.size ≠ some g) := by have := hB.lt; show some _ ≠ some g; intro h; injection h with h; omega
  have hcnt := X.cnt_thru (ks := ks) hm hT
  have HONE : Hid (∀ w1 : World, CntB w1 g N → Calls Try.prog 30 #[P g, .int .i64 d] w1 fun e w' => e = .returned (.int .i64 0) ∧ Chg g w1 w' ∧ CntB w' g (N + 1)) := fun w1 hb => by
    have := one8_ok w1 g N d hN hb; rw [if_neg hm] at this; exact this
  have HKID : Hid (∀ w1 : World, Calls Try.prog 31 #[.int .i64 4] w1 fun e w' => e = .returned (.int .i64 (-1)) ∧ w1 = w') := fun w1 => by
    have := kidsOf8_ok 4 w1; rw [hM] at this; exact this
  have h100 : d ≤ 100 := by omega
  have HNN : Hid (N + 1 ≤ 20000) := by show N + 1 ≤ 20000; omega
  obtain ⟨R, hR⟩ : ∃ R, R = X.cnt (.mk 4 n b s nm ks) N d := ⟨_, rfl⟩
  rw [← hR] at hcnt ⊢
  rw [hM] at hcnt
  have HIH := Lib.hid IH
  have HLEN := Lib.hid hL
  have HNAM : Hid (∀ w1 : World, Calls Try.prog 9 #[.string nm] w1 fun e w' => e = .returned (.bool true) ∧ Below w1.heap.size w1 w') := fun w1 => by
    have := sNamed8_ok nm hs w1; rw [hT.2.2.1 (by omega)] at this; exact this
  clear hm hT hM hB hX IH hN hR hn hs
  by_cases hl : 8 < L
  · have HR := Lib.hid (hcnt.trans (if_pos (.inl ⟨rfl, by rw [hL]; exact hl⟩)))
    have dl : decide ((L : Int) > 8) = true := (by simp; omega)
    clear hcnt hl hL
    go_enter Try.func12, Try.ntmps12
    go_wp2_with (first | (go_at_call 30; refine (HONE.out _ HCB.out).mono ?_; rintro e w2 ⟨rfl, hc2, hb2⟩; have HC2 := Lib.hid (HC1.out.trans hc2); have HB2 := Lib.hid hb2; have HX2 := Lib.hid (HX.out.grown hc2 HBG.out); obtain ⟨x0, x1, x2, x3, x4, x5⟩ := Bx.six HX2.out; clear hc2 hb2) | (go_at_call 31; refine (HKID.out _).mono ?_; rintro e w' ⟨rfl, rfl⟩) | (go_at_call 9; refine (HNAM.out _).mono ?_; rintro e w3 ⟨rfl, hb3⟩; have HC3 := Lib.hid (HC2.out.trans (Chg.of_below hb3) : Chg g w w3); have HN3 := Lib.hid (HB2.out.keep hb3); clear x0 x1 x2 x3 x4 x5; obtain ⟨x0, x1, x2, x3, x4, x5⟩ := Bx.six (HX2.out.keep hb3); clear hb3))
    go_ret
    exact ⟨by rw [HR.out]; rfl, HC3.out, by rw [HR.out]; exact HN3.out⟩
  · have HR := Lib.hid (hcnt.trans (if_neg (by rw [hL]; omega)))
    have dl : decide ((L : Int) > 8) = false := (by simp; omega)
    clear hcnt hl hL
    have hL8 : L ≤ 8 := (by simp at dl; omega)
    go_enter Try.func12, Try.ntmps12
    go_upto_region 18 with (first | (go_at_call 30; refine (HONE.out _ HCB.out).mono ?_; rintro e w2 ⟨rfl, hc2, hb2⟩; have HC2 := Lib.hid (HC1.out.trans hc2); have HB2 := Lib.hid hb2; have HX2 := Lib.hid (HX.out.grown hc2 HBG.out); obtain ⟨x0, x1, x2, x3, x4, x5⟩ := Bx.six HX2.out; clear hc2 hb2) | (go_at_call 31; refine (HKID.out _).mono ?_; rintro e w' ⟨rfl, rfl⟩) | (go_at_call 9; refine (HNAM.out _).mono ?_; rintro e w3 ⟨rfl, hb3⟩; have HC3 := Lib.hid (HC2.out.trans (Chg.of_below hb3) : Chg g w w3); have HN3 := Lib.hid (HB2.out.keep hb3); clear x0 x1 x2 x3 x4 x5; obtain ⟨x0, x1, x2, x3, x4, x5⟩ := Bx.six (HX2.out.keep hb3); clear hb3))
    go_loopw [96] (fun i wr => ∃ j : Nat, j ≤ L ∧ i = .int .i64 (j : Int) ∧ Hid (Chg g w wr ∧ (X.cnts (ks.take j) (N + 1) (d + 1)).1 = 0 ∧ CntB wr g (X.cnts (ks.take j) (N + 1) (d + 1)).2)) (fun i wr => L - (intOf i).toNat)
    case atStart => exact ⟨0, Nat.zero_le _, rfl, HC3.out, rfl, HN3.out⟩
    case round =>
      obtain ⟨j, hj, rfl, hrest⟩ := hrel
      by_cases hlt : j < L
      · obtain ⟨y, hy⟩ : ∃ y, ks[j]? = some y := ⟨_, List.getElem?_eq_getElem (by rw [HLEN.out]; exact hlt)⟩
        obtain ⟨gk, off, ay, cy, ha, hxy, k0, k1, k2, k3, k4, k5⟩ := (HXAT.out.chg1 HB0.out hrest.out.1).kid hy
        subst ha
        obtain ⟨N', hN'⟩ : ∃ N', N' = (X.cnts (ks.take j) (N + 1) (d + 1)).2 := ⟨_, rfl⟩
        obtain ⟨rc, rn, hrr⟩ : ∃ rc rn, X.cnt y N' (d + 1) = (rc, rn) := ⟨_, _, rfl⟩
        have hN2 : N' ≤ 20000 := by rw [hN']; exact X.cnts_small _ _ HNN.out hrest.out.2.1
        have HIY : Hid (∀ w1 : World, XAt w1 y (X.cells y.kind y.num y.bits y.sg y.name (.slice ay y.kids.length cy)) → CntB w1 g N' → Calls Try.prog 12 #[P g, .agg #[.int .i64 y.kind, .int .u64 y.num, .int .i64 y.bits, .bool y.sg, .string y.name, .slice ay y.kids.length cy], .int .i64 (d + 1)] w1 (CntR g w1 (rc, rn))) := fun w1 h1 h2 => by
          rw [← hrr]; exact HIH.out y (List.mem_of_getElem? hy) w1 _ N' (d + 1) h1 h2 hN2 (by omega) (by omega)
        have HXY := Lib.hid hxy
        have HBR : Hid (CntB wr g N') := by rw [hN']; exact hrest.out.2.2
        have HCR := Lib.hid hrest.out.1
        have HLT := Lib.hid hlt
        have HSN : Hid (rc = 0 → (X.cnts (ks.take (j + 1)) (N + 1) (d + 1)) = (rc, rn)) := fun _ => by
          have this : X.cnts (ks.take (j + 1)) (N + 1) (d + 1) = X.cnt y (X.cnts (ks.take j) (N + 1) (d + 1)).2 (d + 1) := X.cnts_take (x := .mk 4 n b s nm ks) hy (N + 1) (d + 1) hrest.out.2.1
          rw [← hN', hrr] at this; exact this
        have HBD : Hid (rc ≠ 0 → R = (rc, rn)) := fun h0 => by
          rw [HR.out]
          have h00 : (X.cnt y (X.cnts (ks.take j) (N + 1) (d + 1)).2 (d + 1)).1 ≠ 0 := (by rw [← hN', hrr]; exact h0)
          have this : X.cnts ks (N + 1) (d + 1) = X.cnt y (X.cnts (ks.take j) (N + 1) (d + 1)).2 (d + 1) := X.cnts_bad (x := .mk 4 n b s nm ks) hy (N + 1) (d + 1) hrest.out.2.1 h00
          rw [← hN', hrr] at this; exact this
        clear hrr hN' hxy hrest hN2 hy
        obtain ⟨yk, hyk⟩ : ∃ z, z = y.kind := ⟨_, rfl⟩
        obtain ⟨yn, hyn⟩ : ∃ z, z = y.num := ⟨_, rfl⟩
        obtain ⟨yb, hyb⟩ : ∃ z, z = y.bits := ⟨_, rfl⟩
        obtain ⟨ysg, hys⟩ : ∃ z, z = y.sg := ⟨_, rfl⟩
        obtain ⟨ynm, hynm⟩ : ∃ z, z = y.name := ⟨_, rfl⟩
        obtain ⟨yl, hyl⟩ : ∃ z, z = y.kids.length := ⟨_, rfl⟩
        rw [← hyk] at k0 HIY HXY; rw [← hyn] at k1 HIY HXY; rw [← hyb] at k2 HIY HXY; rw [← hys] at k3 HIY HXY; rw [← hynm] at k4 HIY HXY; rw [← hyl] at k5 HIY HXY
        clear hyk hyn hyb hys hynm hyl
        clear x0 x1 x2 x3 x4 x5
        by_cases hr : rc = 0
        · subst hr
          have HSN2 := Lib.hid (HSN.out rfl)
          clear HSN HBD
          go_wp2_with (first | (go_at_call 12; refine (HIY.out _ (HXY.out.keep (Ext.alloc (Below.refl _ _) _)) (HBR.out.alloc _)).mono ?_; rintro e w4 ⟨rfl, hc4, hb4⟩; have HC4 := Lib.hid (HCR.out.trans ((Chg.of_below (Ext.alloc (Below.refl _ _) _)).trans hc4)); have HB4 := Lib.hid hb4; clear hc4 hb4))
          go_round
          case rel => exact ⟨j + 1, HLT.out, by go_num, HC4.out, by rw [HSN2.out], by rw [HSN2.out]; exact HB4.out⟩
          case measure => have := HLT.out; simp [intOf]; omega
        · have HBR2 := Lib.hid (HBD.out hr)
          clear HSN HBD
          go_wp2_with (first | (go_at_call 12; refine (HIY.out _ (HXY.out.keep (Ext.alloc (Below.refl _ _) _)) (HBR.out.alloc _)).mono ?_; rintro e w4 ⟨rfl, hc4, hb4⟩; have HC4 := Lib.hid (HCR.out.trans ((Chg.of_below (Ext.alloc (Below.refl _ _) _)).trans hc4)); have HB4 := Lib.hid hb4; clear hc4 hb4))
          go_ret
          exact ⟨by rw [HBR2.out]; rfl, HC4.out, by rw [HBR2.out]; exact HB4.out⟩
      · have hjl : L = j := by omega
        subst hjl
        have HE : Hid (R = (0, (X.cnts (ks.take L) (N + 1) (d + 1)).2)) := by
          show R = _
          rw [HR.out, Prod.ext_iff]
          have : ks.take L = ks := List.take_of_length_le (by rw [HLEN.out]; exact Nat.le_refl _)
          have h0 := hrest.out.2.1
          rw [this] at h0 ⊢
          exact ⟨h0, rfl⟩
        go_wp2
        go_ret
        exact ⟨by rw [HE.out]; rfl, hrest.out.1, by rw [HE.out]; exact hrest.out.2.2⟩
set_option maxHeartbeats 4000000 in
theorem cexpr_go5 (g N : Nat) (d : Int) (n b : Int) (s : Bool) (nm : ByteArray) (ks : List X) (a : Option Addr) (L c : Nat) (w : World) (hN : N ≤ 20000) (hd : 0 ≤ d) (hX : XAt w (.mk 5 n b s nm ks) (X.cells 5 n b s nm (.slice a L c))) (hn : W.U n) (hs : nm.size ≤ maxLen) (hB : CntB w g N)
    (hm : ¬ (20000 ≤ N ∨ 100 < d)) (hT : X.Thru 5 n b s nm.data.toList) (hM : X.kidsOf 5 = 1) (IH : ∀ y ∈ ks, CntI g y) :
    Calls Try.prog 12 #[P g, .agg #[.int .i64 5, .int .u64 n, .int .i64 b, .bool s, .string nm, .slice a L c], .int .i64 d] w (CntR g w (X.cnt (.mk 5 n b s nm ks) N d)) := by
  have HN20 := Lib.hid hN
  obtain ⟨hL, hLc, hcm⟩ := hX.lens
  have HXAT := Lib.hid hX
  have HB0 := Lib.hid hB
  have HCB := Lib.hid (hB.alloc (.cells #[.int .i64 5, .int .u64 n, .int .i64 b, .bool s, .string nm, .slice a L c] 36))
  have HC1 := Lib.hid (Chg.of_below (Ext.alloc (Below.refl _ w) (.cells #[.int .i64 5, .int .u64 n, .int .i64 b, .bool s, .string nm, .slice a L c] 36)) : Chg g w _)
  have HX : Hid (Bx (w.alloc (.cells #[.int .i64 5, .int .u64 n, .int .i64 b, .bool s, .string nm, .slice a L c] 36)) w.heap.size 5 n b s nm (.slice a L c)) := Blk.new _ _ _
  have HBG : Hid (some w.heap.size ≠ some g) := by have := hB.lt; show some _ ≠ some g; intro h; injection h with h; omega
  have hcnt := X.cnt_thru (ks := ks) hm hT
  have HONE : Hid (∀ w1 : World, CntB w1 g N → Calls Try.prog 30 #[P g, .int .i64 d] w1 fun e w' => e = .returned (.int .i64 0) ∧ Chg g w1 w' ∧ CntB w' g (N + 1)) := fun w1 hb => by
    have := one8_ok w1 g N d hN hb; rw [if_neg hm] at this; exact this
  have HKID : Hid (∀ w1 : World, Calls Try.prog 31 #[.int .i64 5] w1 fun e w' => e = .returned (.int .i64 1) ∧ w1 = w') := fun w1 => by
    have := kidsOf8_ok 5 w1; rw [hM] at this; exact this
  have h100 : d ≤ 100 := by omega
  have HNN : Hid (N + 1 ≤ 20000) := by show N + 1 ≤ 20000; omega
  obtain ⟨R, hR⟩ : ∃ R, R = X.cnt (.mk 5 n b s nm ks) N d := ⟨_, rfl⟩
  rw [← hR] at hcnt ⊢
  rw [hM] at hcnt
  have HIH := Lib.hid IH
  have HLEN := Lib.hid hL
  have HVAL : Hid (∀ w1 : World, Calls Try.prog 32 #[W.ty b s] w1 fun e w' => e = .returned (.bool true) ∧ Below w1.heap.size w1 w') := fun w1 => by
    have := r7valid b s w1; rw [hT.2.2.2 rfl] at this; exact this
  clear hm hT hM hB hX IH hN hR hn hs
  by_cases hl : ¬ L = 1
  · have HR := Lib.hid (hcnt.trans (if_pos (.inr ⟨by decide, by rw [hL]; omega⟩)))
    have dl : ¬ (L : Int) = 1 := (by omega)
    clear hcnt hl hL
    go_enter Try.func12, Try.ntmps12
    go_wp2_with (first | (go_at_call 30; refine (HONE.out _ HCB.out).mono ?_; rintro e w2 ⟨rfl, hc2, hb2⟩; have HC2 := Lib.hid (HC1.out.trans hc2); have HB2 := Lib.hid hb2; have HX2 := Lib.hid (HX.out.grown hc2 HBG.out); obtain ⟨x0, x1, x2, x3, x4, x5⟩ := Bx.six HX2.out; clear hc2 hb2) | (go_at_call 31; refine (HKID.out _).mono ?_; rintro e w' ⟨rfl, rfl⟩) | (go_at_call 32; refine (HVAL.out _).mono ?_; rintro e w3 ⟨rfl, hb3⟩; have HC3 := Lib.hid (HC2.out.trans (Chg.of_below hb3) : Chg g w w3); have HN3 := Lib.hid (HB2.out.keep hb3); clear x0 x1 x2 x3 x4 x5; obtain ⟨x0, x1, x2, x3, x4, x5⟩ := Bx.six (HX2.out.keep hb3); clear hb3))
    go_ret
    exact ⟨by rw [HR.out]; rfl, HC3.out, by rw [HR.out]; exact HN3.out⟩
  · have hl2 : L = 1 := Classical.not_not.1 hl
    subst hl2
    have HR := Lib.hid (hcnt.trans (if_neg (by rw [hL]; omega)))
    clear hcnt hl hL
    go_enter Try.func12, Try.ntmps12
    go_upto_region 18 with (first | (go_at_call 30; refine (HONE.out _ HCB.out).mono ?_; rintro e w2 ⟨rfl, hc2, hb2⟩; have HC2 := Lib.hid (HC1.out.trans hc2); have HB2 := Lib.hid hb2; have HX2 := Lib.hid (HX.out.grown hc2 HBG.out); obtain ⟨x0, x1, x2, x3, x4, x5⟩ := Bx.six HX2.out; clear hc2 hb2) | (go_at_call 31; refine (HKID.out _).mono ?_; rintro e w' ⟨rfl, rfl⟩) | (go_at_call 32; refine (HVAL.out _).mono ?_; rintro e w3 ⟨rfl, hb3⟩; have HC3 := Lib.hid (HC2.out.trans (Chg.of_below hb3) : Chg g w w3); have HN3 := Lib.hid (HB2.out.keep hb3); clear x0 x1 x2 x3 x4 x5; obtain ⟨x0, x1, x2, x3, x4, x5⟩ := Bx.six (HX2.out.keep hb3); clear hb3))
    go_loopw [96] (fun i wr => ∃ j : Nat, j ≤ 1 ∧ i = .int .i64 (j : Int) ∧ Hid (Chg g w wr ∧ (X.cnts (ks.take j) (N + 1) (d + 1)).1 = 0 ∧ CntB wr g (X.cnts (ks.take j) (N + 1) (d + 1)).2)) (fun i wr => 1 - (intOf i).toNat)
    case atStart => exact ⟨0, Nat.zero_le _, rfl, HC3.out, rfl, HN3.out⟩
    case round =>
      obtain ⟨j, hj, rfl, hrest⟩ := hrel
      by_cases hlt : j < 1
      · obtain ⟨y, hy⟩ : ∃ y, ks[j]? = some y := ⟨_, List.getElem?_eq_getElem (by rw [HLEN.out]; exact hlt)⟩
        obtain ⟨gk, off, ay, cy, ha, hxy, k0, k1, k2, k3, k4, k5⟩ := (HXAT.out.chg1 HB0.out hrest.out.1).kid hy
        subst ha
        obtain ⟨N', hN'⟩ : ∃ N', N' = (X.cnts (ks.take j) (N + 1) (d + 1)).2 := ⟨_, rfl⟩
        obtain ⟨rc, rn, hrr⟩ : ∃ rc rn, X.cnt y N' (d + 1) = (rc, rn) := ⟨_, _, rfl⟩
        have hN2 : N' ≤ 20000 := by rw [hN']; exact X.cnts_small _ _ HNN.out hrest.out.2.1
        have HIY : Hid (∀ w1 : World, XAt w1 y (X.cells y.kind y.num y.bits y.sg y.name (.slice ay y.kids.length cy)) → CntB w1 g N' → Calls Try.prog 12 #[P g, .agg #[.int .i64 y.kind, .int .u64 y.num, .int .i64 y.bits, .bool y.sg, .string y.name, .slice ay y.kids.length cy], .int .i64 (d + 1)] w1 (CntR g w1 (rc, rn))) := fun w1 h1 h2 => by
          rw [← hrr]; exact HIH.out y (List.mem_of_getElem? hy) w1 _ N' (d + 1) h1 h2 hN2 (by omega) (by omega)
        have HXY := Lib.hid hxy
        have HBR : Hid (CntB wr g N') := by rw [hN']; exact hrest.out.2.2
        have HCR := Lib.hid hrest.out.1
        have HLT := Lib.hid hlt
        have HSN : Hid (rc = 0 → (X.cnts (ks.take (j + 1)) (N + 1) (d + 1)) = (rc, rn)) := fun _ => by
          have this : X.cnts (ks.take (j + 1)) (N + 1) (d + 1) = X.cnt y (X.cnts (ks.take j) (N + 1) (d + 1)).2 (d + 1) := X.cnts_take (x := .mk 5 n b s nm ks) hy (N + 1) (d + 1) hrest.out.2.1
          rw [← hN', hrr] at this; exact this
        have HBD : Hid (rc ≠ 0 → R = (rc, rn)) := fun h0 => by
          rw [HR.out]
          have h00 : (X.cnt y (X.cnts (ks.take j) (N + 1) (d + 1)).2 (d + 1)).1 ≠ 0 := (by rw [← hN', hrr]; exact h0)
          have this : X.cnts ks (N + 1) (d + 1) = X.cnt y (X.cnts (ks.take j) (N + 1) (d + 1)).2 (d + 1) := X.cnts_bad (x := .mk 5 n b s nm ks) hy (N + 1) (d + 1) hrest.out.2.1 h00
          rw [← hN', hrr] at this; exact this
        clear hrr hN' hxy hrest hN2 hy
        obtain ⟨yk, hyk⟩ : ∃ z, z = y.kind := ⟨_, rfl⟩
        obtain ⟨yn, hyn⟩ : ∃ z, z = y.num := ⟨_, rfl⟩
        obtain ⟨yb, hyb⟩ : ∃ z, z = y.bits := ⟨_, rfl⟩
        obtain ⟨ysg, hys⟩ : ∃ z, z = y.sg := ⟨_, rfl⟩
        obtain ⟨ynm, hynm⟩ : ∃ z, z = y.name := ⟨_, rfl⟩
        obtain ⟨yl, hyl⟩ : ∃ z, z = y.kids.length := ⟨_, rfl⟩
        rw [← hyk] at k0 HIY HXY; rw [← hyn] at k1 HIY HXY; rw [← hyb] at k2 HIY HXY; rw [← hys] at k3 HIY HXY; rw [← hynm] at k4 HIY HXY; rw [← hyl] at k5 HIY HXY
        clear hyk hyn hyb hys hynm hyl
        clear x0 x1 x2 x3 x4 x5
        by_cases hr : rc = 0
        · subst hr
          have HSN2 := Lib.hid (HSN.out rfl)
          clear HSN HBD
          go_wp2_with (first | (go_at_call 12; refine (HIY.out _ (HXY.out.keep (Ext.alloc (Below.refl _ _) _)) (HBR.out.alloc _)).mono ?_; rintro e w4 ⟨rfl, hc4, hb4⟩; have HC4 := Lib.hid (HCR.out.trans ((Chg.of_below (Ext.alloc (Below.refl _ _) _)).trans hc4)); have HB4 := Lib.hid hb4; clear hc4 hb4))
          go_round
          case rel => exact ⟨j + 1, HLT.out, by go_num, HC4.out, by rw [HSN2.out], by rw [HSN2.out]; exact HB4.out⟩
          case measure => have := HLT.out; simp [intOf]; omega
        · have HBR2 := Lib.hid (HBD.out hr)
          clear HSN HBD
          go_wp2_with (first | (go_at_call 12; refine (HIY.out _ (HXY.out.keep (Ext.alloc (Below.refl _ _) _)) (HBR.out.alloc _)).mono ?_; rintro e w4 ⟨rfl, hc4, hb4⟩; have HC4 := Lib.hid (HCR.out.trans ((Chg.of_below (Ext.alloc (Below.refl _ _) _)).trans hc4)); have HB4 := Lib.hid hb4; clear hc4 hb4))
          go_ret
          exact ⟨by rw [HBR2.out]; rfl, HC4.out, by rw [HBR2.out]; exact HB4.out⟩
      · have hjl : 1 = j := by omega
        subst hjl
        have HE : Hid (R = (0, (X.cnts (ks.take 1) (N + 1) (d + 1)).2)) := by
          show R = _
          rw [HR.out, Prod.ext_iff]
          have : ks.take 1 = ks := List.take_of_length_le (by rw [HLEN.out]; exact Nat.le_refl _)
          have h0 := hrest.out.2.1
          rw [this] at h0 ⊢
          exact ⟨h0, rfl⟩
        go_wp2
        go_ret
        exact ⟨by rw [HE.out]; rfl, hrest.out.1, by rw [HE.out]; exact hrest.out.2.2⟩
set_option maxHeartbeats 4000000 in
theorem cexpr_go6 (g N : Nat) (d : Int) (k : Int) (hk : 6 ≤ k) (n b : Int) (s : Bool) (nm : ByteArray) (ks : List X) (a : Option Addr) (L c : Nat) (w : World) (hN : N ≤ 20000) (hd : 0 ≤ d) (hX : XAt w (.mk k n b s nm ks) (X.cells k n b s nm (.slice a L c))) (hn : W.U n) (hs : nm.size ≤ maxLen) (hB : CntB w g N)
    (hm : ¬ (20000 ≤ N ∨ 100 < d)) (hT : X.Thru k n b s nm.data.toList) (hM : X.kidsOf k = 1) (IH : ∀ y ∈ ks, CntI g y) :
    Calls Try.prog 12 #[P g, .agg #[.int .i64 k, .int .u64 n, .int .i64 b, .bool s, .string nm, .slice a L c], .int .i64 d] w (CntR g w (X.cnt (.mk k n b s nm ks) N d)) := by
  have HN20 := Lib.hid hN
  obtain ⟨hL, hLc, hcm⟩ := hX.lens
  have HXAT := Lib.hid hX
  have HB0 := Lib.hid hB
  have HCB := Lib.hid (hB.alloc (.cells #[.int .i64 k, .int .u64 n, .int .i64 b, .bool s, .string nm, .slice a L c] 36))
  have HC1 := Lib.hid (Chg.of_below (Ext.alloc (Below.refl _ w) (.cells #[.int .i64 k, .int .u64 n, .int .i64 b, .bool s, .string nm, .slice a L c] 36)) : Chg g w _)
  have HX : Hid (Bx (w.alloc (.cells #[.int .i64 k, .int .u64 n, .int .i64 b, .bool s, .string nm, .slice a L c] 36)) w.heap.size k n b s nm (.slice a L c)) := Blk.new _ _ _
  have HBG : Hid (some w.heap.size ≠ some g) := by have := hB.lt; show some _ ≠ some g; intro h; injection h with h; omega
  have hcnt := X.cnt_thru (ks := ks) hm hT
  have HONE : Hid (∀ w1 : World, CntB w1 g N → Calls Try.prog 30 #[P g, .int .i64 d] w1 fun e w' => e = .returned (.int .i64 0) ∧ Chg g w1 w' ∧ CntB w' g (N + 1)) := fun w1 hb => by
    have := one8_ok w1 g N d hN hb; rw [if_neg hm] at this; exact this
  have HKID : Hid (∀ w1 : World, Calls Try.prog 31 #[.int .i64 k] w1 fun e w' => e = .returned (.int .i64 1) ∧ w1 = w') := fun w1 => by
    have := kidsOf8_ok k w1; rw [hM] at this; exact this
  have h100 : d ≤ 100 := by omega
  have HNN : Hid (N + 1 ≤ 20000) := by show N + 1 ≤ 20000; omega
  obtain ⟨R, hR⟩ : ∃ R, R = X.cnt (.mk k n b s nm ks) N d := ⟨_, rfl⟩
  rw [← hR] at hcnt ⊢
  rw [hM] at hcnt
  have HIH := Lib.hid IH
  have HLEN := Lib.hid hL
  clear hm hT hM hB hX IH hN hR hn hs
  have q1 : (k == 1) = false := (by simp; omega)
  have q2 : (k == 2) = false := (by simp; omega)
  have q3 : (k == 3) = false := (by simp; omega)
  have q4 : (k == 4) = false := (by simp; omega)
  have q5 : (k == 5) = false := (by simp; omega)
  clear hk
  by_cases hl : ¬ L = 1
  · have HR := Lib.hid (hcnt.trans (if_pos (.inr ⟨by decide, by rw [hL]; omega⟩)))
    have dl : ¬ (L : Int) = 1 := (by omega)
    clear hcnt hl hL
    go_enter Try.func12, Try.ntmps12
    go_wp2_with (first | (go_at_call 30; refine (HONE.out _ HCB.out).mono ?_; rintro e w2 ⟨rfl, hc2, hb2⟩; have HC2 := Lib.hid (HC1.out.trans hc2); have HB2 := Lib.hid hb2; have HX2 := Lib.hid (HX.out.grown hc2 HBG.out); obtain ⟨x0, x1, x2, x3, x4, x5⟩ := Bx.six HX2.out; clear hc2 hb2) | (go_at_call 31; refine (HKID.out _).mono ?_; rintro e w' ⟨rfl, rfl⟩))
    go_ret
    exact ⟨by rw [HR.out]; rfl, HC2.out, by rw [HR.out]; exact HB2.out⟩
  · have hl2 : L = 1 := Classical.not_not.1 hl
    subst hl2
    have HR := Lib.hid (hcnt.trans (if_neg (by rw [hL]; omega)))
    clear hcnt hl hL
    go_enter Try.func12, Try.ntmps12
    go_upto_region 18 with (first | (go_at_call 30; refine (HONE.out _ HCB.out).mono ?_; rintro e w2 ⟨rfl, hc2, hb2⟩; have HC2 := Lib.hid (HC1.out.trans hc2); have HB2 := Lib.hid hb2; have HX2 := Lib.hid (HX.out.grown hc2 HBG.out); obtain ⟨x0, x1, x2, x3, x4, x5⟩ := Bx.six HX2.out; clear hc2 hb2) | (go_at_call 31; refine (HKID.out _).mono ?_; rintro e w' ⟨rfl, rfl⟩))
    go_loopw [96] (fun i wr => ∃ j : Nat, j ≤ 1 ∧ i = .int .i64 (j : Int) ∧ Hid (Chg g w wr ∧ (X.cnts (ks.take j) (N + 1) (d + 1)).1 = 0 ∧ CntB wr g (X.cnts (ks.take j) (N + 1) (d + 1)).2)) (fun i wr => 1 - (intOf i).toNat)
    case atStart => exact ⟨0, Nat.zero_le _, rfl, HC2.out, rfl, HB2.out⟩
    case round =>
      obtain ⟨j, hj, rfl, hrest⟩ := hrel
      by_cases hlt : j < 1
      · obtain ⟨y, hy⟩ : ∃ y, ks[j]? = some y := ⟨_, List.getElem?_eq_getElem (by rw [HLEN.out]; exact hlt)⟩
        obtain ⟨gk, off, ay, cy, ha, hxy, k0, k1, k2, k3, k4, k5⟩ := (HXAT.out.chg1 HB0.out hrest.out.1).kid hy
        subst ha
        obtain ⟨N', hN'⟩ : ∃ N', N' = (X.cnts (ks.take j) (N + 1) (d + 1)).2 := ⟨_, rfl⟩
        obtain ⟨rc, rn, hrr⟩ : ∃ rc rn, X.cnt y N' (d + 1) = (rc, rn) := ⟨_, _, rfl⟩
        have hN2 : N' ≤ 20000 := by rw [hN']; exact X.cnts_small _ _ HNN.out hrest.out.2.1
        have HIY : Hid (∀ w1 : World, XAt w1 y (X.cells y.kind y.num y.bits y.sg y.name (.slice ay y.kids.length cy)) → CntB w1 g N' → Calls Try.prog 12 #[P g, .agg #[.int .i64 y.kind, .int .u64 y.num, .int .i64 y.bits, .bool y.sg, .string y.name, .slice ay y.kids.length cy], .int .i64 (d + 1)] w1 (CntR g w1 (rc, rn))) := fun w1 h1 h2 => by
          rw [← hrr]; exact HIH.out y (List.mem_of_getElem? hy) w1 _ N' (d + 1) h1 h2 hN2 (by omega) (by omega)
        have HXY := Lib.hid hxy
        have HBR : Hid (CntB wr g N') := by rw [hN']; exact hrest.out.2.2
        have HCR := Lib.hid hrest.out.1
        have HLT := Lib.hid hlt
        have HSN : Hid (rc = 0 → (X.cnts (ks.take (j + 1)) (N + 1) (d + 1)) = (rc, rn)) := fun _ => by
          have this : X.cnts (ks.take (j + 1)) (N + 1) (d + 1) = X.cnt y (X.cnts (ks.take j) (N + 1) (d + 1)).2 (d + 1) := X.cnts_take (x := .mk k n b s nm ks) hy (N + 1) (d + 1) hrest.out.2.1
          rw [← hN', hrr] at this; exact this
        have HBD : Hid (rc ≠ 0 → R = (rc, rn)) := fun h0 => by
          rw [HR.out]
          have h00 : (X.cnt y (X.cnts (ks.take j) (N + 1) (d + 1)).2 (d + 1)).1 ≠ 0 := (by rw [← hN', hrr]; exact h0)
          have this : X.cnts ks (N + 1) (d + 1) = X.cnt y (X.cnts (ks.take j) (N + 1) (d + 1)).2 (d + 1) := X.cnts_bad (x := .mk k n b s nm ks) hy (N + 1) (d + 1) hrest.out.2.1 h00
          rw [← hN', hrr] at this; exact this
        clear hrr hN' hxy hrest hN2 hy
        obtain ⟨yk, hyk⟩ : ∃ z, z = y.kind := ⟨_, rfl⟩
        obtain ⟨yn, hyn⟩ : ∃ z, z = y.num := ⟨_, rfl⟩
        obtain ⟨yb, hyb⟩ : ∃ z, z = y.bits := ⟨_, rfl⟩
        obtain ⟨ysg, hys⟩ : ∃ z, z = y.sg := ⟨_, rfl⟩
        obtain ⟨ynm, hynm⟩ : ∃ z, z = y.name := ⟨_, rfl⟩
        obtain ⟨yl, hyl⟩ : ∃ z, z = y.kids.length := ⟨_, rfl⟩
        rw [← hyk] at k0 HIY HXY; rw [← hyn] at k1 HIY HXY; rw [← hyb] at k2 HIY HXY; rw [← hys] at k3 HIY HXY; rw [← hynm] at k4 HIY HXY; rw [← hyl] at k5 HIY HXY
        clear hyk hyn hyb hys hynm hyl
        clear x0 x1 x2 x3 x4 x5
        by_cases hr : rc = 0
        · subst hr
          have HSN2 := Lib.hid (HSN.out rfl)
          clear HSN HBD
          go_wp2_with (first | (go_at_call 12; refine (HIY.out _ (HXY.out.keep (Ext.alloc (Below.refl _ _) _)) (HBR.out.alloc _)).mono ?_; rintro e w4 ⟨rfl, hc4, hb4⟩; have HC4 := Lib.hid (HCR.out.trans ((Chg.of_below (Ext.alloc (Below.refl _ _) _)).trans hc4)); have HB4 := Lib.hid hb4; clear hc4 hb4))
          go_round
          case rel => exact ⟨j + 1, HLT.out, by go_num, HC4.out, by rw [HSN2.out], by rw [HSN2.out]; exact HB4.out⟩
          case measure => have := HLT.out; simp [intOf]; omega
        · have HBR2 := Lib.hid (HBD.out hr)
          clear HSN HBD
          go_wp2_with (first | (go_at_call 12; refine (HIY.out _ (HXY.out.keep (Ext.alloc (Below.refl _ _) _)) (HBR.out.alloc _)).mono ?_; rintro e w4 ⟨rfl, hc4, hb4⟩; have HC4 := Lib.hid (HCR.out.trans ((Chg.of_below (Ext.alloc (Below.refl _ _) _)).trans hc4)); have HB4 := Lib.hid hb4; clear hc4 hb4))
          go_ret
          exact ⟨by rw [HBR2.out]; rfl, HC4.out, by rw [HBR2.out]; exact HB4.out⟩
      · have hjl : 1 = j := by omega
        subst hjl
        have HE : Hid (R = (0, (X.cnts (ks.take 1) (N + 1) (d + 1)).2)) := by
          show R = _
          rw [HR.out, Prod.ext_iff]
          have : ks.take 1 = ks := List.take_of_length_le (by rw [HLEN.out]; exact Nat.le_refl _)
          have h0 := hrest.out.2.1
          rw [this] at h0 ⊢
          exact ⟨h0, rfl⟩
        go_wp2
        go_ret
        exact ⟨by rw [HE.out]; rfl, hrest.out.1, by rw [HE.out]; exact hrest.out.2.2⟩
set_option maxHeartbeats 4000000 in
theorem cexpr_go9 (g N : Nat) (d : Int) (k : Int) (hk : 6 ≤ k) (n b : Int) (s : Bool) (nm : ByteArray) (ks : List X) (a : Option Addr) (L c : Nat) (w : World) (hN : N ≤ 20000) (hd : 0 ≤ d) (hX : XAt w (.mk k n b s nm ks) (X.cells k n b s nm (.slice a L c))) (hn : W.U n) (hs : nm.size ≤ maxLen) (hB : CntB w g N)
    (hm : ¬ (20000 ≤ N ∨ 100 < d)) (hT : X.Thru k n b s nm.data.toList) (hM : X.kidsOf k = 2) (IH : ∀ y ∈ ks, CntI g y) :
    Calls Try.prog 12 #[P g, .agg #[.int .i64 k, .int .u64 n, .int .i64 b, .bool s, .string nm, .slice a L c], .int .i64 d] w (CntR g w (X.cnt (.mk k n b s nm ks) N d)) := by
  have HN20 := Lib.hid hN
  obtain ⟨hL, hLc, hcm⟩ := hX.lens
  have HXAT := Lib.hid hX
  have HB0 := Lib.hid hB
  have HCB := Lib.hid (hB.alloc (.cells #[.int .i64 k, .int .u64 n, .int .i64 b, .bool s, .string nm, .slice a L c] 36))
  have HC1 := Lib.hid (Chg.of_below (Ext.alloc (Below.refl _ w) (.cells #[.int .i64 k, .int .u64 n, .int .i64 b, .bool s, .string nm, .slice a L c] 36)) : Chg g w _)
  have HX : Hid (Bx (w.alloc (.cells #[.int .i64 k, .int .u64 n, .int .i64 b, .bool s, .string nm, .slice a L c] 36)) w.heap.size k n b s nm (.slice a L c)) := Blk.new _ _ _
  have HBG : Hid (some w.heap.size ≠ some g) := by have := hB.lt; show some _ ≠ some g; intro h; injection h with h; omega
  have hcnt := X.cnt_thru (ks := ks) hm hT
  have HONE : Hid (∀ w1 : World, CntB w1 g N → Calls Try.prog 30 #[P g, .int .i64 d] w1 fun e w' => e = .returned (.int .i64 0) ∧ Chg g w1 w' ∧ CntB w' g (N + 1)) := fun w1 hb => by
    have := one8_ok w1 g N d hN hb; rw [if_neg hm] at this; exact this
  have HKID : Hid (∀ w1 : World, Calls Try.prog 31 #[.int .i64 k] w1 fun e w' => e = .returned (.int .i64 2) ∧ w1 = w') := fun w1 => by
    have := kidsOf8_ok k w1; rw [hM] at this; exact this
  have h100 : d ≤ 100 := by omega
  have HNN : Hid (N + 1 ≤ 20000) := by show N + 1 ≤ 20000; omega
  obtain ⟨R, hR⟩ : ∃ R, R = X.cnt (.mk k n b s nm ks) N d := ⟨_, rfl⟩
  rw [← hR] at hcnt ⊢
  rw [hM] at hcnt
  have HIH := Lib.hid IH
  have HLEN := Lib.hid hL
  clear hm hT hM hB hX IH hN hR hn hs
  have q1 : (k == 1) = false := (by simp; omega)
  have q2 : (k == 2) = false := (by simp; omega)
  have q3 : (k == 3) = false := (by simp; omega)
  have q4 : (k == 4) = false := (by simp; omega)
  have q5 : (k == 5) = false := (by simp; omega)
  clear hk
  by_cases hl : ¬ L = 2
  · have HR := Lib.hid (hcnt.trans (if_pos (.inr ⟨by decide, by rw [hL]; omega⟩)))
    have dl : ¬ (L : Int) = 2 := (by omega)
    clear hcnt hl hL
    go_enter Try.func12, Try.ntmps12
    go_wp2_with (first | (go_at_call 30; refine (HONE.out _ HCB.out).mono ?_; rintro e w2 ⟨rfl, hc2, hb2⟩; have HC2 := Lib.hid (HC1.out.trans hc2); have HB2 := Lib.hid hb2; have HX2 := Lib.hid (HX.out.grown hc2 HBG.out); obtain ⟨x0, x1, x2, x3, x4, x5⟩ := Bx.six HX2.out; clear hc2 hb2) | (go_at_call 31; refine (HKID.out _).mono ?_; rintro e w' ⟨rfl, rfl⟩))
    go_ret
    exact ⟨by rw [HR.out]; rfl, HC2.out, by rw [HR.out]; exact HB2.out⟩
  · have hl2 : L = 2 := Classical.not_not.1 hl
    subst hl2
    have HR := Lib.hid (hcnt.trans (if_neg (by rw [hL]; omega)))
    clear hcnt hl hL
    go_enter Try.func12, Try.ntmps12
    go_upto_region 18 with (first | (go_at_call 30; refine (HONE.out _ HCB.out).mono ?_; rintro e w2 ⟨rfl, hc2, hb2⟩; have HC2 := Lib.hid (HC1.out.trans hc2); have HB2 := Lib.hid hb2; have HX2 := Lib.hid (HX.out.grown hc2 HBG.out); obtain ⟨x0, x1, x2, x3, x4, x5⟩ := Bx.six HX2.out; clear hc2 hb2) | (go_at_call 31; refine (HKID.out _).mono ?_; rintro e w' ⟨rfl, rfl⟩))
    go_loopw [96] (fun i wr => ∃ j : Nat, j ≤ 2 ∧ i = .int .i64 (j : Int) ∧ Hid (Chg g w wr ∧ (X.cnts (ks.take j) (N + 1) (d + 1)).1 = 0 ∧ CntB wr g (X.cnts (ks.take j) (N + 1) (d + 1)).2)) (fun i wr => 2 - (intOf i).toNat)
    case atStart => exact ⟨0, Nat.zero_le _, rfl, HC2.out, rfl, HB2.out⟩
    case round =>
      obtain ⟨j, hj, rfl, hrest⟩ := hrel
      by_cases hlt : j < 2
      · obtain ⟨y, hy⟩ : ∃ y, ks[j]? = some y := ⟨_, List.getElem?_eq_getElem (by rw [HLEN.out]; exact hlt)⟩
        obtain ⟨gk, off, ay, cy, ha, hxy, k0, k1, k2, k3, k4, k5⟩ := (HXAT.out.chg1 HB0.out hrest.out.1).kid hy
        subst ha
        obtain ⟨N', hN'⟩ : ∃ N', N' = (X.cnts (ks.take j) (N + 1) (d + 1)).2 := ⟨_, rfl⟩
        obtain ⟨rc, rn, hrr⟩ : ∃ rc rn, X.cnt y N' (d + 1) = (rc, rn) := ⟨_, _, rfl⟩
        have hN2 : N' ≤ 20000 := by rw [hN']; exact X.cnts_small _ _ HNN.out hrest.out.2.1
        have HIY : Hid (∀ w1 : World, XAt w1 y (X.cells y.kind y.num y.bits y.sg y.name (.slice ay y.kids.length cy)) → CntB w1 g N' → Calls Try.prog 12 #[P g, .agg #[.int .i64 y.kind, .int .u64 y.num, .int .i64 y.bits, .bool y.sg, .string y.name, .slice ay y.kids.length cy], .int .i64 (d + 1)] w1 (CntR g w1 (rc, rn))) := fun w1 h1 h2 => by
          rw [← hrr]; exact HIH.out y (List.mem_of_getElem? hy) w1 _ N' (d + 1) h1 h2 hN2 (by omega) (by omega)
        have HXY := Lib.hid hxy
        have HBR : Hid (CntB wr g N') := by rw [hN']; exact hrest.out.2.2
        have HCR := Lib.hid hrest.out.1
        have HLT := Lib.hid hlt
        have HSN : Hid (rc = 0 → (X.cnts (ks.take (j + 1)) (N + 1) (d + 1)) = (rc, rn)) := fun _ => by
          have this : X.cnts (ks.take (j + 1)) (N + 1) (d + 1) = X.cnt y (X.cnts (ks.take j) (N + 1) (d + 1)).2 (d + 1) := X.cnts_take (x := .mk k n b s nm ks) hy (N + 1) (d + 1) hrest.out.2.1
          rw [← hN', hrr] at this; exact this
        have HBD : Hid (rc ≠ 0 → R = (rc, rn)) := fun h0 => by
          rw [HR.out]
          have h00 : (X.cnt y (X.cnts (ks.take j) (N + 1) (d + 1)).2 (d + 1)).1 ≠ 0 := (by rw [← hN', hrr]; exact h0)
          have this : X.cnts ks (N + 1) (d + 1) = X.cnt y (X.cnts (ks.take j) (N + 1) (d + 1)).2 (d + 1) := X.cnts_bad (x := .mk k n b s nm ks) hy (N + 1) (d + 1) hrest.out.2.1 h00
          rw [← hN', hrr] at this; exact this
        clear hrr hN' hxy hrest hN2 hy
        obtain ⟨yk, hyk⟩ : ∃ z, z = y.kind := ⟨_, rfl⟩
        obtain ⟨yn, hyn⟩ : ∃ z, z = y.num := ⟨_, rfl⟩
        obtain ⟨yb, hyb⟩ : ∃ z, z = y.bits := ⟨_, rfl⟩
        obtain ⟨ysg, hys⟩ : ∃ z, z = y.sg := ⟨_, rfl⟩
        obtain ⟨ynm, hynm⟩ : ∃ z, z = y.name := ⟨_, rfl⟩
        obtain ⟨yl, hyl⟩ : ∃ z, z = y.kids.length := ⟨_, rfl⟩
        rw [← hyk] at k0 HIY HXY; rw [← hyn] at k1 HIY HXY; rw [← hyb] at k2 HIY HXY; rw [← hys] at k3 HIY HXY; rw [← hynm] at k4 HIY HXY; rw [← hyl] at k5 HIY HXY
        clear hyk hyn hyb hys hynm hyl
        clear x0 x1 x2 x3 x4 x5
        by_cases hr : rc = 0
        · subst hr
          have HSN2 := Lib.hid (HSN.out rfl)
          clear HSN HBD
          go_wp2_with (first | (go_at_call 12; refine (HIY.out _ (HXY.out.keep (Ext.alloc (Below.refl _ _) _)) (HBR.out.alloc _)).mono ?_; rintro e w4 ⟨rfl, hc4, hb4⟩; have HC4 := Lib.hid (HCR.out.trans ((Chg.of_below (Ext.alloc (Below.refl _ _) _)).trans hc4)); have HB4 := Lib.hid hb4; clear hc4 hb4))
          go_round
          case rel => exact ⟨j + 1, HLT.out, by go_num, HC4.out, by rw [HSN2.out], by rw [HSN2.out]; exact HB4.out⟩
          case measure => have := HLT.out; simp [intOf]; omega
        · have HBR2 := Lib.hid (HBD.out hr)
          clear HSN HBD
          go_wp2_with (first | (go_at_call 12; refine (HIY.out _ (HXY.out.keep (Ext.alloc (Below.refl _ _) _)) (HBR.out.alloc _)).mono ?_; rintro e w4 ⟨rfl, hc4, hb4⟩; have HC4 := Lib.hid (HCR.out.trans ((Chg.of_below (Ext.alloc (Below.refl _ _) _)).trans hc4)); have HB4 := Lib.hid hb4; clear hc4 hb4))
          go_ret
          exact ⟨by rw [HBR2.out]; rfl, HC4.out, by rw [HBR2.out]; exact HB4.out⟩
      · have hjl : 2 = j := by omega
        subst hjl
        have HE : Hid (R = (0, (X.cnts (ks.take 2) (N + 1) (d + 1)).2)) := by
          show R = _
          rw [HR.out, Prod.ext_iff]
          have : ks.take 2 = ks := List.take_of_length_le (by rw [HLEN.out]; exact Nat.le_refl _)
          have h0 := hrest.out.2.1
          rw [this] at h0 ⊢
          exact ⟨h0, rfl⟩
        go_wp2
        go_ret
        exact ⟨by rw [HE.out]; rfl, hrest.out.1, by rw [HE.out]; exact hrest.out.2.2⟩
/-- What is wrong with an expression's shape. -/
theorem cexpr_ok (g : Nat) (x : X) : X.Wf x → CntI g x := by
  induction x using X.up with
  | _ x ih =>
    intro hw w cs N d hX hB hN hd0 hd1
    obtain ⟨k, n, b, s, nm, ks⟩ := x
    obtain ⟨a, c, rfl, hLc, hcm, _⟩ := hX.open
    have hn : W.U n := hw.num
    have hs : nm.size ≤ maxLen := hw.nms
    have IH : ∀ y ∈ ks, CntI g y := fun y hy => ih y hy (hw.kid hy)
    show Calls Try.prog 12 #[P g, .agg #[.int .i64 k, .int .u64 n, .int .i64 b, .bool s, .string nm, .slice a ks.length c], .int .i64 d] w (CntR g w (X.cnt (.mk k n b s nm ks) N d))
    have e := X.cnt_eq (.mk k n b s nm ks) N d
    by_cases hm : 20000 ≤ N ∨ 100 < d
    · rw [if_pos hm] at e; rw [e]
      have := cexpr_fail g N d k n b s nm (.slice a ks.length c) w hN hn hs hB (.inl hm)
      rw [if_pos hm] at this; exact this
    rw [if_neg hm] at e
    have bad : ∀ z, z ≠ 0 → X.own k n b s nm.data.toList ks.length = z → X.cnt (.mk k n b s nm ks) N d = (z, N + 1) := fun z hz ho => by
      rw [e]; show (if X.own k n b s nm.data.toList ks.length = 0 then _ else (X.own k n b s nm.data.toList ks.length, N + 1)) = _
      rw [ho, if_neg hz]
    by_cases hk : k < 1 ∨ 26 < k
    · rw [bad 1 (by decide) (X.own_bad hk)]
      have := cexpr_fail g N d k n b s nm (.slice a ks.length c) w hN hn hs hB (.inr hk)
      rw [if_neg hm] at this; exact this
    have kf : ∀ m, X.kidsOf k = m → X.kidsOf k = m := fun _ h => h
    by_cases h1 : k = 1
    · subst h1
      by_cases hl : W.lit n (!s) = (b, s, 0)
      · exact cexpr_go1 g N d n b s nm ks a _ c w hN hd0 hX hn hs hB hm ⟨by omega, fun _ => hl, fun h => by omega, fun h => by omega⟩ rfl IH
      · rw [bad 9 (by decide) (X.own_lit hl)]
        exact cexpr_lit g N d n b s nm _ w hN hn hB hm hl
    by_cases h2 : k = 2
    · subst h2
      rcases hz : Tk.nmd nm.data.toList with _ | _
      · rw [bad 7 (by decide) (X.own_nm (.inl rfl) hz)]
        exact cexpr_nm2 g N d n b s nm _ w hN hs hB hm hz
      · exact cexpr_go2 g N d n b s nm ks a _ c w hN hd0 hX hn hs hB hm ⟨by omega, fun h => by omega, fun _ => hz, fun h => by omega⟩ rfl IH
    by_cases h3 : k = 3
    · subst h3
      rcases hz : Tk.nmd nm.data.toList with _ | _
      · rw [bad 7 (by decide) (X.own_nm (.inr (.inl rfl)) hz)]
        exact cexpr_nm3 g N d n b s nm _ w hN hs hB hm hz
      · exact cexpr_go3 g N d n b s nm ks a _ c w hN hd0 hX hn hs hB hm ⟨by omega, fun h => by omega, fun _ => hz, fun h => by omega⟩ rfl IH
    by_cases h4 : k = 4
    · subst h4
      rcases hz : Tk.nmd nm.data.toList with _ | _
      · rw [bad 7 (by decide) (X.own_nm (.inr (.inr rfl)) hz)]
        exact cexpr_nm4 g N d n b s nm _ w hN hs hB hm hz
      · exact cexpr_go4 g N d n b s nm ks a _ c w hN hd0 hX hn hs hB hm ⟨by omega, fun h => by omega, fun _ => hz, fun h => by omega⟩ rfl IH
    by_cases h5 : k = 5
    · subst h5
      rcases hz : W.okB b with _ | _
      · rw [bad 9 (by decide) (X.own_cast hz)]
        exact cexpr_cast g N d n b s nm _ w hN hB hm hz
      · exact cexpr_go5 g N d n b s nm ks a _ c w hN hd0 hX hn hs hB hm ⟨by omega, fun h => by omega, fun h => by omega, fun _ => hz⟩ rfl IH
    have hT : X.Thru k n b s nm.data.toList := ⟨by omega, fun h => by omega, fun h => by omega, fun h => by omega⟩
    by_cases h8 : k ≤ 8
    · exact cexpr_go6 g N d k (by omega) n b s nm ks a _ c w hN hd0 hX hn hs hB hm hT (by unfold X.kidsOf; rw [if_neg hk, if_neg (by omega), if_neg (by omega), if_pos h8]) IH
    · exact cexpr_go9 g N d k (by omega) n b s nm ks a _ c w hN hd0 hX hn hs hB hm hT (by unfold X.kidsOf; rw [if_neg hk, if_neg (by omega), if_neg (by omega), if_neg h8]) IH
end Go.Proofs.Ytkmcniaaecijdaa
