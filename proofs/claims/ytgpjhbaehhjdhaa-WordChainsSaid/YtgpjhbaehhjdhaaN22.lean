/- The reference's Split. -/
import Derived.Test.YtgpjhbaehhjdhaaN21
namespace Go.Proofs.Ytgpjhbaehhjdhaa
open Go.RowKit
set_option linter.unusedVariables false
set_option linter.unusedSimpArgs false
set_option maxRecDepth 100000

theorem W.nw_q (v : Int) (h : W.ok v) : ∃ q : Nat, v / 16 = (q : Nat) ∧ q ≤ 4 ∧ W.nw v = max 1 q ∧ 8 ≤ v ∧ v ≤ 64 := by
  rcases h with rfl | rfl | rfl | rfl
  · exact ⟨0, by decide, by omega, by decide, by omega, by omega⟩
  · exact ⟨1, by decide, by omega, by decide, by omega, by omega⟩
  · exact ⟨2, by decide, by omega, by decide, by omega, by omega⟩
  · exact ⟨4, by decide, by omega, by decide, by omega, by omega⟩
theorem divin_16 (a : Nat) (ha : N.ln a ≤ 28) : DivIn a (65536 : Int).natAbs := ⟨by decide, ha, .inr (.inr (.inl (N.ln_of (by decide) (.inr (by decide)))))⟩
set_option maxHeartbeats 8000000 in
theorem refSplit_ok (x v : Int) (h : W.ok v) (hx : W.U x) (w : World) :
    Calls Try.prog 22 #[.int .u64 x, .int .i64 v] w fun e w' => ∃ u, e = .returned (.tuple #[u, .int .i64 0]) ∧ w'.ownsRow w.heap.size 3 1 u (W.nw v) ((W.split (W.nw v) (W.cut v x)).map (Value.int .i64)) ∧ Below w.heap.size w w' := by
  obtain ⟨i0, hi, hz0, hz1, hz2⟩ := info_parts Try.infoI
  obtain ⟨X, hX⟩ : ∃ X, X = W.cut v x := ⟨_, rfl⟩
  have hXU : W.U X := by rw [hX]; exact W.U_cut _ _
  obtain ⟨q, hq, hq4, hnw, hv8, hv64⟩ := W.nw_q v h
  have CW : Hid (∀ w : World, Calls Try.prog 50 #[.int .i64 v] w fun e w' => e = .returned (.bool true) ∧ Below w.heap.size w w') := fun w => by rw [← W.okB_t h]; exact refWidth_ok v w
  have C1 : Hid (∀ w : World, Calls Try.prog 52 #[.int .u64 x] w (NewIo w x)) := fun w => whole_ok x hx.1 hx.2 w
  have CF : Hid (∀ (w : World) (g : Nat), Io w g x → Calls Try.prog 51 #[P g, .int .i64 v] w fun e w' => e = .returned (.int .u64 X) ∧ Below w.heap.size w w') := fun w g hi => by
    rw [hX]; exact fit_ok g x v h (N.ln_64 hx.1 hx.2) w hi
  have C2 : Hid (∀ w : World, Calls Try.prog 52 #[.int .u64 X] w (NewIo w X)) := fun w => whole_ok X hXU.1 hXU.2 w
  have CT : Hid (∀ w : World, Calls Try.prog 81 #[.int .i64 16] w (NewIo w 65536)) := fun w => two_ok 16 (by omega) 16 rfl w
  have CD : Hid (∀ (w : World) (k g gr g2 : Nat), g ≠ gr → Io w g (W.dn k X) → Io w gr 0 → Io w g2 65536 → Calls Try.prog 80 #[P g, P g, P g2, P gr] w fun e w' => e = .returned (.tuple #[P g, P gr]) ∧ Two2 w g gr (W.dn (k + 1) X) (W.dn k X % 65536) w') := fun w k g gr g2 hne h1 h2 h3 => by
    have hU := W.dn_U k X hXU
    rw [W.dn_succ]
    exact divMod_ok g gr g g2 _ 0 (W.dn k X) 65536 hne (by omega) (Sm.of_lt (by decide)) (divin_16 _ (N.ln_64 hU.1 hU.2)) w h1 h2 h1 h3
  have CI : Hid (∀ (w : World) (k g : Nat), Io w g (W.dn k X % 65536) → Calls Try.prog 54 #[P g] w fun e w' => e = .returned (.int .i64 (W.dn k X % 65536)) ∧ w = w') := fun w k g hi => int64_ok g _ (by omega) (by omega) w hi
  have HX := Lib.hid hX; have HNW := Lib.hid hnw
  clear hX hXU hnw h hx
  rw [← HX.out]
  go_enter Try.func22, Try.ntmps22
  go_wp2_with (first | (go_at_call 50; refine (CW.out _).mono ?_; rintro e w1 ⟨rfl, hb1⟩; have HB1 := Lib.hid hb1; clear hb1) | (go_at_call_of 52 (Value.int IntKind.u64 x); refine (C1.out _).mono ?_; rintro e w2 ⟨ga, rfl, hga, hb2, hi2⟩; have HB2 := Lib.hid hb2; have HI2 := Lib.hid hi2; clear hb2 hi2 hga) | (go_at_call 51; refine (CF.out _ _ HI2.out).mono ?_; rintro e w3 ⟨rfl, hb3⟩; have HB3 := Lib.hid hb3; clear hb3) | (go_at_call 52; refine (C2.out _).mono ?_; rintro e w4 ⟨g, rfl, hg, hb4, hi4⟩; have HB4 := Lib.hid hb4; have HI4 := Lib.hid hi4; have HG := Lib.hid hg; clear hb4 hi4 hg))
  have HB : Hid (Below w.heap.size w w4) := Ext.trans (Ext.trans (Ext.trans HB1.out HB2.out) HB3.out) HB4.out
  have HGw : Hid (w.heap.size ≤ g) := by
    show w.heap.size ≤ g
    exact Nat.le_trans (Ext.trans (Ext.trans HB1.out HB2.out) HB3.out).size HG.out
  clear HB1 HB2 HB3 HB4 HI2 HG
  go_loopw [7, 8] (fun l kk wr => ∃ k : Nat, k ≤ W.nw v ∧ kk = .int .i64 k ∧ Hid (Io wr g (W.dn k X)) ∧ Hid (wr.ownsRow w.heap.size 3 1 l k ((W.split k X).map (Value.int .i64))) ∧ Hid (Below w.heap.size w wr)) (fun _ kk _ => 4 - (intOf kk).toNat)
  case atStart => exact ⟨0, Nat.zero_le _, rfl, by rw [W.dn_zero]; exact HI4, World.ownsRow_nil _ _ _ _, HB⟩
  case round =>
    obtain ⟨k, hk, rfl, hI, hO, hB⟩ := hrel
    have hk4 : k ≤ W.nw v := hk
    have hnw := HNW.out
    have hk5 : k ≤ 4 := by rw [hnw] at hk4; omega
    obtain ⟨D, hD⟩ : ∃ D, D = W.dn k X % 65536 := ⟨_, rfl⟩
    have hD0 : 0 ≤ D ∧ D < 65536 := by omega
    have CDk : Hid (∀ (w : World) (gr g2 : Nat), g ≠ gr → Io w g (W.dn k X) → Io w gr 0 → Io w g2 65536 → Calls Try.prog 80 #[P g, P g, P g2, P gr] w fun e w' => e = .returned (.tuple #[P g, P gr]) ∧ Two2 w g gr (W.dn (k + 1) X) D w') := fun w gr g2 a b c d => by rw [hD]; exact CD.out w k g gr g2 a b c d
    have CIk : Hid (∀ (w : World) (gr : Nat), Io w gr D → Calls Try.prog 54 #[P gr] w fun e w' => e = .returned (.int .i64 D) ∧ w = w') := fun w gr hi => by rw [hD] at hi ⊢; exact CI.out w k gr hi
    have HD := Lib.hid hD
    by_cases hgo : k = 0 ∨ k < q
    · have hlt4 : k + 1 ≤ W.nw v := by rw [hnw]; omega
      have hlt5 : k < 4 := by omega
      have HGr : Hid (g ≠ wr.heap.size) := Nat.ne_of_lt hI.out.lt
      have t1 : ((k : Int) == 0) = true ∨ (((k : Int) == 0) = false ∧ decide (k < q) = true) := by
        rcases Nat.eq_zero_or_pos k with h0 | h0
        · exact .inl (by simp [h0])
        · exact .inr ⟨by simp; omega, by simp; omega⟩
      clear hD hk hk4 hnw hgo hk5
      rcases t1 with t1 | ⟨t1, t2⟩
      all_goals
        go_wp2_with (first | (go_at_call 81; refine (CT.out _).mono ?_; rintro e w5 ⟨g2, rfl, hg2, hb5, hi5⟩; have HB5 := Lib.hid hb5; have HI5 := Lib.hid hi5; have HG5 := Lib.hid ((hI.out.below (Ext.alloc (Below.refl _ _) _)).below hb5); have HR5 := Lib.hid ((Io.new wr).below hb5); have HO5 := Lib.hid (own_below (hO.out.alloc _) hb5); clear hb5 hi5 hg2) | (go_at_call 80; refine (CDk.out _ _ _ HGr.out HG5.out HR5.out HI5.out).mono ?_; rintro e w6 ⟨rfl, ht⟩; have HT := Lib.hid ht; have HO6 := Lib.hid (own_moved HO5.out ht.1 (fun k hk => by rcases hk with rfl | rfl; exact ⟨_, HG5.out⟩; exact ⟨_, HR5.out⟩) (by decide)); clear ht) | (go_at_call 54; refine (CIk.out _ _ HT.out.2.2).mono ?_; rintro e w7 ⟨rfl, rfl⟩) | (at_builtin; refine wpList_append_own _ rfl _ _ 23 rfl w.heap.size 3 i0 (.int .i64 0) 1 8 Try.underlying23 hi hz0 hz1 hz2 rfl (by decide) _ _ _ rfl (HO6.out.alloc _) ⟨w6.heap.size, 0, none⟩ 1 1 [.int .i64 D] rfl rfl ?c1 ?c2 ?c3 ?c4 ?c5 ?_))
        case c1 =>
          intro i u hi
          match i, hi with
          | 0, hi => simp at hi; subst hi; simp [Addr.add]
        case c2 => intro u hu; simp at hu; subst hu; rfl
        case c3 => unfold maxLen; omega
        case c4 => omega
        case c5 => have := hB.out.size; have := HB5.out.size; have := HT.out.1.size; simp at *; omega
        · intro v' w8 hown' hgrow _
          have hB6 : Below w.heap.size w w6 := HT.out.1.ext (Ext.trans (Ext.alloc hB.out _) HB5.out) (fun k hk => by rcases hk with rfl | rfl; exact HGw.out; exact hB.out.size)
          have hb8 : Hid (Below w.heap.size w w8) := ((hB6.alloc hB6.size (.cells #[.int .i64 D] 3)).grown hgrow (by have := hB6.size; simp; omega) (fun k hk => (HO6.out.alloc (.cells #[.int .i64 D] 3)).lt k hk |>.1))
          have hI8 : Hid (Io w8 g (W.dn (k + 1) X)) := (HT.out.2.1.below (Ext.alloc (Below.refl _ _) _)).row (HO6.out.alloc (.cells #[.int .i64 D] 3)) hgrow (by decide) (by decide)
          have hO8 := Lib.hid hown'
          clear hgrow hown' hB6
          go_wp2
          go_roundw
          case rel => exact ⟨k + 1, by omega, by go_num, hI8, Lib.hid (by simpa [W.split, HD.out] using hO8.out), hb8⟩
          case measure => simp [intOf]; omega
    · have hkn : k = W.nw v := by rw [hnw] at hk4 ⊢; omega
      have t1 : ((k : Int) == 0) = false := by simp; omega
      have t2 : decide (k < q) = false := by simp; omega
      have HKN := Lib.hid hkn
      clear hD hk hk4 hnw hgo hk5 hkn
      go_wp2
      go_ret2
      exact ⟨_, rfl, by rw [← HKN.out]; exact hO.out, hB.out⟩
set_option maxHeartbeats 1000000 in
theorem refSplit_no (x v : Int) (h : ¬ W.ok v) (w : World) :
    Calls Try.prog 22 #[.int .u64 x, .int .i64 v] w fun e w' => e = .returned (.tuple #[.slice none 0 0, .int .i64 1]) ∧ Below w.heap.size w w' := by
  have CW : Hid (∀ w : World, Calls Try.prog 50 #[.int .i64 v] w fun e w' => e = .returned (.bool false) ∧ Below w.heap.size w w') := fun w => by rw [← W.okB_f h]; exact refWidth_ok v w
  clear h
  go_enter Try.func22, Try.ntmps22
  go_wp2_with (first | (go_at_call 50; refine (CW.out _).mono ?_; rintro e w1 ⟨rfl, hb1⟩; have HB1 := Lib.hid hb1; clear hb1))
  go_ret2
  exact ⟨rfl, HB1.out⟩
end Go.Proofs.Ytgpjhbaehhjdhaa
