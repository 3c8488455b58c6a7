/- Walks of types.Literal, Words, Result. -/
import Derived.Test.YtkmcniaaecijdaaPt2
import Derived.Test.YtkmcniaaecijdaaT1
import Derived.Test.YtkmcniaaecijdaaT3
import Derived.Handy
import Derived.Test.YtkmcniaaecijdaaT2
import Derived.Test.YtkmcniaaecijdaaN24
import Derived.Test.YtkmcniaaecijdaaN21
import Derived.Test.YtkmcniaaecijdaaB0
namespace Go.Proofs.Ytkmcniaaecijdaa
open Go.RowKit
set_option linter.unusedVariables false
set_option linter.unusedSimpArgs false
set_option maxRecDepth 100000

/-- The type of a number as it is written: the type, and what is wrong. -/
def W.lit (n : Int) (u : Bool) : Int × Bool × Int :=
  if u then (if n ≤ 65535 then (16, false, 0) else if n ≤ 4294967295 then (32, false, 0) else (64, false, 0))
  else (if n ≤ 32767 then (16, true, 0) else if n ≤ 2147483647 then (32, true, 0) else if n ≤ 9223372036854775807 then (64, true, 0) else (0, false, 3))
/-- A type and what is wrong come back. -/
def LitR (b : Int) (s : Bool) (k : Int) (w : World) (e : Ending) (w' : World) : Prop := e = .returned (.tuple #[W.ty b s, .int .i64 k]) ∧ Below w.heap.size w w'

set_option maxHeartbeats 2000000 in
theorem literal_u1 (n : Int) (h : n ≤ 65535) (w : World) : Calls Try.prog 50 #[.int .u64 n, .bool true] w (LitR 16 false 0 w) := by
  go_enter Try.func50, Try.ntmps50
  go_wp2
  go_rounds 1
  exact bodyPost_ret (v := .tuple #[W.ty 16 false, .int .i64 0]) (by simp [results, Try.results50, go_sem]) rfl ⟨rfl, by repeat (first | exact Below.refl _ _ | refine Ext.setCell ?_ (by simp) _ | refine Ext.alloc ?_ _)⟩
set_option maxHeartbeats 2000000 in
theorem literal_u2 (n : Int) (h1 : 65535 < n) (h : n ≤ 4294967295) (w : World) : Calls Try.prog 50 #[.int .u64 n, .bool true] w (LitR 32 false 0 w) := by
  go_enter Try.func50, Try.ntmps50
  go_wp2
  go_rounds 2
  exact bodyPost_ret (v := .tuple #[W.ty 32 false, .int .i64 0]) (by simp [results, Try.results50, go_sem]) rfl ⟨rfl, by repeat (first | exact Below.refl _ _ | refine Ext.setCell ?_ (by simp) _ | refine Ext.alloc ?_ _)⟩
set_option maxHeartbeats 2000000 in
theorem literal_u3 (n : Int) (h1 : 4294967295 < n) (h : n ≤ 18446744073709551615) (w : World) : Calls Try.prog 50 #[.int .u64 n, .bool true] w (LitR 64 false 0 w) := by
  have h0 : 65535 < n := by omega
  go_enter Try.func50, Try.ntmps50
  go_wp2
  go_rounds 3
  exact bodyPost_ret (v := .tuple #[W.ty 64 false, .int .i64 0]) (by simp [results, Try.results50, go_sem]) rfl ⟨rfl, by repeat (first | exact Below.refl _ _ | refine Ext.setCell ?_ (by simp) _ | refine Ext.alloc ?_ _)⟩
set_option maxHeartbeats 2000000 in
theorem literal_s1 (n : Int) (h : n ≤ 32767) (w : World) : Calls Try.prog 50 #[.int .u64 n, .bool false] w (LitR 16 true 0 w) := by
  go_enter Try.func50, Try.ntmps50
  go_wp2
  go_rounds 1
  exact bodyPost_ret (v := .tuple #[W.ty 16 true, .int .i64 0]) (by simp [results, Try.results50, go_sem]) rfl ⟨rfl, by repeat (first | exact Below.refl _ _ | refine Ext.setCell ?_ (by simp) _ | refine Ext.alloc ?_ _)⟩
set_option maxHeartbeats 2000000 in
theorem literal_s2 (n : Int) (h1 : 32767 < n) (h : n ≤ 2147483647) (w : World) : Calls Try.prog 50 #[.int .u64 n, .bool false] w (LitR 32 true 0 w) := by
  go_enter Try.func50, Try.ntmps50
  go_wp2
  go_rounds 2
  exact bodyPost_ret (v := .tuple #[W.ty 32 true, .int .i64 0]) (by simp [results, Try.results50, go_sem]) rfl ⟨rfl, by repeat (first | exact Below.refl _ _ | refine Ext.setCell ?_ (by simp) _ | refine Ext.alloc ?_ _)⟩
set_option maxHeartbeats 2000000 in
theorem literal_s3 (n : Int) (h1 : 2147483647 < n) (h : n ≤ 9223372036854775807) (w : World) : Calls Try.prog 50 #[.int .u64 n, .bool false] w (LitR 64 true 0 w) := by
  have h0 : 32767 < n := by omega
  go_enter Try.func50, Try.ntmps50
  go_wp2
  go_rounds 3
  exact bodyPost_ret (v := .tuple #[W.ty 64 true, .int .i64 0]) (by simp [results, Try.results50, go_sem]) rfl ⟨rfl, by repeat (first | exact Below.refl _ _ | refine Ext.setCell ?_ (by simp) _ | refine Ext.alloc ?_ _)⟩
set_option maxHeartbeats 2000000 in
theorem literal_s4 (n : Int) (h1 : 9223372036854775807 < n) (w : World) : Calls Try.prog 50 #[.int .u64 n, .bool false] w (LitR 0 false 3 w) := by
  have h0 : 32767 < n := by omega
  have h2 : 2147483647 < n := by omega
  go_enter Try.func50, Try.ntmps50
  go_wp2
  go_rounds 4
  exact bodyPost_ret (v := .tuple #[W.ty 0 false, .int .i64 3]) (by simp [results, Try.results50, go_sem]) rfl ⟨rfl, by repeat (first | exact Below.refl _ _ | refine Ext.setCell ?_ (by simp) _ | refine Ext.alloc ?_ _)⟩
theorem literal_ok (n : Int) (u : Bool) (h : W.U n) (w : World) : Calls Try.prog 50 #[.int .u64 n, .bool u] w (LitR (W.lit n u).1 (W.lit n u).2.1 (W.lit n u).2.2 w) := by
  unfold W.lit
  have h2 := h.2
  cases u
  · by_cases a : n ≤ 32767
    · simp only [Bool.false_eq_true, if_false, if_pos a]; exact literal_s1 n a w
    by_cases b : n ≤ 2147483647
    · simp only [Bool.false_eq_true, if_false, if_neg a, if_pos b]; exact literal_s2 n (by omega) b w
    by_cases c : n ≤ 9223372036854775807
    · simp only [Bool.false_eq_true, if_false, if_neg a, if_neg b, if_pos c]; exact literal_s3 n (by omega) c w
    · simp only [Bool.false_eq_true, if_false, if_neg a, if_neg b, if_neg c]; exact literal_s4 n (by omega) w
  · by_cases a : n ≤ 65535
    · simp only [if_true, if_pos a]; exact literal_u1 n a w
    by_cases b : n ≤ 4294967295
    · simp only [if_true, if_neg a, if_pos b]; exact literal_u2 n (by omega) b w
    · simp only [if_true, if_neg a, if_neg b]; exact literal_u3 n (by omega) (by omega) w

/-- The type of what an operator makes. -/
def W.rb (k a b : Int) : Int := if k = 14 ∨ k = 15 then W.pb a else if 16 ≤ k ∧ k ≤ 21 then 16 else W.cb a b
def W.rs (k a : Int) (s : Bool) (b : Int) (t : Bool) : Bool := if k = 14 ∨ k = 15 then W.ps a s else if 16 ≤ k ∧ k ≤ 21 then true else W.cs a s b t
set_option maxHeartbeats 4000000 in
theorem result_ok (k a b : Int) (s t : Bool) (w : World) : Calls Try.prog 37 #[.int .i64 k, W.ty a s, W.ty b t] w fun e w' => e = .returned (W.ty (W.rb k a b) (W.rs k a s b t)) ∧ Below w.heap.size w w' := by
  have PA : Hid (∀ w : World, Calls Try.prog 58 #[W.ty a s] w fun e w' => e = .returned (W.ty (W.pb a) (W.ps a s)) ∧ Below w.heap.size w w') := fun w => promote_ok a s w
  have PC : Hid (∀ w : World, Calls Try.prog 64 #[W.ty a s, W.ty b t] w fun e w' => e = .returned (W.ty (W.cb a b) (W.cs a s b t)) ∧ Below w.heap.size w w') := fun w => common_ok a b s t w
  unfold W.rb W.rs
  by_cases h1 : k = 14 ∨ k = 15
  · rw [if_pos h1, if_pos h1]
    generalize W.pb a = A at *
    generalize W.ps a s = S at *
    rcases h1 with rfl | rfl
    all_goals
      go_enter Try.func37, Try.ntmps37
      go_wp2_with (first | (go_at_call 58; refine (PA.out _).mono ?_; rintro e w1 ⟨rfl, hb⟩; have HB := Lib.hid hb; obtain ⟨k0, k1, g0, g1⟩ := Ty.below (Ty.new _ (B := w.heap.size + 1 + 1) (by simp) 0 false _) hb; clear hb))
      exact bodyPost_ret (v := W.ty A S) (by simp [results, Try.results37, go_sem, k0, k1, g0, g1]) rfl ⟨rfl, Ext.setCell (Ext.setCell (Ext.trans (Ext.alloc (Ext.alloc (Ext.alloc (Below.refl _ _) _) _) _) HB.out) (Nat.le_add_right _ 2) _) (Nat.le_add_right _ 2) _⟩
  rw [if_neg h1, if_neg h1]
  have h14 : (k == 14) = false := by simp; omega
  have h15 : (k == 15) = false := by simp; omega
  by_cases h2 : 16 ≤ k ∧ k ≤ 21
  · rw [if_pos h2, if_pos h2]
    obtain ⟨ha, hb⟩ := h2
    clear h1
    go_enter Try.func37, Try.ntmps37
    go_wp2_with (first | (go_at_call 35; refine (tint_ok _).mono ?_; rintro e w1 ⟨rfl, hb⟩; have HB := Lib.hid hb; obtain ⟨k0, k1, g0, g1⟩ := Ty.below (Ty.new _ (B := w.heap.size + 1 + 1) (by simp) 0 false _) hb; clear hb))
    exact bodyPost_ret (v := W.ty 16 true) (by simp [results, Try.results37, go_sem, k0, k1, g0, g1]) rfl ⟨rfl, Ext.setCell (Ext.setCell (Ext.trans (Ext.alloc (Ext.alloc (Ext.alloc (Below.refl _ _) _) _) _) HB.out) (Nat.le_add_right _ 2) _) (Nat.le_add_right _ 2) _⟩
  · rw [if_neg h2, if_neg h2]
    generalize W.cb a b = A at *
    generalize W.cs a s b t = S at *
    by_cases h3 : k < 16
    · clear h1 h2
      go_enter Try.func37, Try.ntmps37
      go_wp2_with (first | (go_at_call 64; refine (PC.out _).mono ?_; rintro e w1 ⟨rfl, hb⟩; have HB := Lib.hid hb; obtain ⟨k0, k1, g0, g1⟩ := Ty.below (Ty.new _ (B := w.heap.size + 1 + 1) (by simp) 0 false _) hb; clear hb))
      exact bodyPost_ret (v := W.ty A S) (by simp [results, Try.results37, go_sem, k0, k1, g0, g1]) rfl ⟨rfl, Ext.setCell (Ext.setCell (Ext.trans (Ext.alloc (Ext.alloc (Ext.alloc (Below.refl _ _) _) _) _) HB.out) (Nat.le_add_right _ 2) _) (Nat.le_add_right _ 2) _⟩
    · have h4 : 21 < k := by omega
      clear h1 h2
      go_enter Try.func37, Try.ntmps37
      go_wp2_with (first | (go_at_call 64; refine (PC.out _).mono ?_; rintro e w1 ⟨rfl, hb⟩; have HB := Lib.hid hb; obtain ⟨k0, k1, g0, g1⟩ := Ty.below (Ty.new _ (B := w.heap.size + 1 + 1) (by simp) 0 false _) hb; clear hb))
      exact bodyPost_ret (v := W.ty A S) (by simp [results, Try.results37, go_sem, k0, k1, g0, g1]) rfl ⟨rfl, Ext.setCell (Ext.setCell (Ext.trans (Ext.alloc (Ext.alloc (Ext.alloc (Below.refl _ _) _) _) _) HB.out) (Nat.le_add_right _ 2) _) (Nat.le_add_right _ 2) _⟩
end Go.Proofs.Ytkmcniaaecijdaa
namespace Go.Proofs.Ytkmcniaaecijdaa
open Go.RowKit
set_option linter.unusedVariables false
set_option linter.unusedSimpArgs false
set_option maxRecDepth 100000

set_option maxHeartbeats 1000000 in
theorem r7valid (b : Int) (s : Bool) (w : World) : Calls Try.prog 32 #[W.ty b s] w fun e w' => e = .returned (.bool (W.okB b)) ∧ Below w.heap.size w w' := by
  go_enter Try.func32, Try.ntmps32
  go_wp2_with (first | (go_at_call 54; refine (refWidth_ok _ _).mono ?_; rintro e w1 ⟨rfl, hb1⟩; have HB1 := Lib.hid (Ext.trans (Ext.alloc (Below.refl w.heap.size w) _) hb1); clear hb1))
  go_ret
  exact ⟨rfl, HB1.out⟩
set_option maxHeartbeats 1000000 in
theorem r7wide (b : Int) (s : Bool) (w : World) : Calls Try.prog 71 #[W.ty b s] w fun e w' => e = .returned (W.ty (W.pb b) (W.ps b s)) ∧ Below w.heap.size w w' := by
  by_cases h : b < 16
  · go_enter Try.func71, Try.ntmps71
    go_wp2
    exact bodyPost_ret (v := W.ty 16 true) (by simp [results, Try.results71, go_sem]) rfl ⟨W.ty_eq (by simp [W.pb, h]) (by simp [W.ps, h]), by repeat (first | exact Below.refl _ _ | refine Ext.setCell ?_ (by simp) _ | refine Ext.alloc ?_ _)⟩
  · go_enter Try.func71, Try.ntmps71
    go_wp2
    exact bodyPost_ret (v := W.ty b s) (by simp [results, Try.results71, go_sem]) rfl ⟨W.ty_eq (by unfold W.pb; split <;> omega) (by unfold W.ps; split <;> first | omega | rfl), by repeat (first | exact Below.refl _ _ | refine Ext.setCell ?_ (by simp) _ | refine Ext.alloc ?_ _)⟩
set_option maxHeartbeats 1000000 in
theorem r7meant (x b : Int) (s : Bool) (h : W.ok b) (hx : W.U x) (w : World) : Calls Try.prog 53 #[.int .u64 x, W.ty b s] w (NewIo w (W.mn b x s)) := by
  have CM : Hid (∀ w : World, Calls Try.prog 51 #[.int .u64 x, .int .i64 b, .bool s] w (NewIo w (W.mn b x s))) := fun w => meant_ok x b s h hx w
  clear h hx
  go_enter Try.func53, Try.ntmps53
  go_wp2_with (first | (go_at_call 51; refine (CM.out _).mono ?_; rintro e w1 ⟨g, rfl, hg, hb1, hi1⟩; have HB1 := Lib.hid (Ext.trans (Ext.alloc (Below.refl w.heap.size w) _) hb1); have HI := Lib.hid hi1; have HG := Lib.hid hg; clear hb1 hi1 hg))
  go_ret
  exact ⟨g, rfl, by have := HG.out; simp at this; omega, HB1.out, HI.out⟩
theorem W.mn_ln (v x : Int) (s : Bool) : N.ln (W.mn v x s).natAbs ≤ 28 := by
  refine N.ln_le (Nat.lt_of_lt_of_le (m := 18446744073709551617) ?_ (by decide))
  have h1 := W.mod_lo x v; have h2 := W.mod_hi x v; have h3 := W.md_le v
  unfold W.mn W.sg
  split
  · split <;> omega
  · omega
theorem W.conv_mn (fb : Int) (fs : Bool) (tb x : Int) : W.conv fb fs tb x = W.mn fb x fs % W.md tb := by
  unfold W.conv W.mn W.cut; rfl
set_option maxHeartbeats 4000000 in
theorem r7convert (x fb tb : Int) (fs ts : Bool) (hf : W.ok fb) (ht : W.ok tb) (hx : W.U x) (w : World) :
    Calls Try.prog 38 #[.int .u64 x, W.ty fb fs, W.ty tb ts] w fun e w' => e = .returned (.int .u64 (W.conv fb fs tb x)) ∧ Below w.heap.size w w' := by
  obtain ⟨M, hM⟩ : ∃ M, M = W.mn fb x fs := ⟨_, rfl⟩
  obtain ⟨R, hR⟩ : ∃ R, R = W.conv fb fs tb x := ⟨_, rfl⟩
  have CM : Hid (∀ w : World, Calls Try.prog 53 #[.int .u64 x, W.ty fb fs] w (NewIo w M)) := fun w => by rw [hM]; exact r7meant x fb fs hf hx w
  have CF : Hid (∀ (w : World) (g : Nat), Io w g M → Calls Try.prog 70 #[P g, .int .i64 tb] w fun e w' => e = .returned (.int .u64 R) ∧ Below w.heap.size w w') := fun w g hi => by
    rw [hR, W.conv_mn, ← hM]; exact fit_ok g M tb ht (by rw [hM]; exact W.mn_ln _ _ _) w hi
  rw [← hR]
  clear hM hR hf ht hx
  go_enter Try.func38, Try.ntmps38
  go_wp2
  apply Ix.wp_region 7 (fun wi => Hid (Below w.heap.size w wi) ∧ Hid (Ty wi w.heap.size fb fs) ∧ Hid (Ty wi (w.heap.size + 1) tb ts)) (Ix.vk [(Ix.kis _), (Ix.kis _), (Ix.kwld (fun v w' => ∃ g, v = P g ∧ Io w' g M) (fun v w1 w2 h hb => by obtain ⟨g, e, hi⟩ := h; exact ⟨g, e, hi.below hb⟩)), (Ix.kis _), (Ix.kis _), (Ix.kis _), (Ix.kis _)]) (fun _ => false) (by kernel_rfl) (by kernel_rfl) (by kernel_rfl) (fun _ _ h hb => ⟨Ext.trans h.1.out hb, h.2.1.out.below hb, h.2.2.out.below hb⟩) (Ix.vk_keeps _) (Ix.not_al _) ⟨Ext.alloc (Ext.alloc (Below.refl _ _) _) _, ⟨by simp [go_sem], by simp [go_sem], by simp [go_sem], by simp [go_sem]⟩, ⟨by simp [go_sem], by simp [go_sem], by simp [go_sem], by simp [go_sem]⟩⟩
  case step =>
    refine zyx 6 0 1 [] (fun wi HB => ?_) <| zyx 5 1 2 [] (fun wi HB => ?_) <| zyx 4 2 3 [(0, some 7), (1, some 8)] (fun wi HB => ?_) <| zyx 3 3 4 [] (fun wi HB => ?_) <| zyx 2 4 5 [(3, some 10)] (fun wi HB => ?_) <| zyx 1 5 6 [(2, some 9), (4, some 11)] (fun wi HB => ?_) <| zyx 0 6 7 [(5, some 12)] (fun wi HB => ?_) <| Ix.steps_nil
    (· ((repeat (refine zya ?_; rintro _ rfl)); refine zye ?_; (try simp only [zyp]); refine Ix.goI_yes rfl rfl fun K hK => ?_; (try simp only [zyp] at hK); go_wp2_with (first | fail); exact hK _ _ (Below.refl _ _) rfl))
    (· (obtain ⟨HB, HT1, HT2⟩ := HB; obtain ⟨x0, x1, x2, x3⟩ := HT1.out; obtain ⟨y0, y1, y2, y3⟩ := HT2.out; (repeat (refine zya ?_; rintro _ rfl)); refine zye ?_; (try simp only [zyp]); refine Ix.goI_yes rfl rfl fun K hK => ?_; (try simp only [zyp] at hK); go_wp2_with (first | fail); exact hK _ _ (Below.refl _ _) rfl))
    (· (obtain ⟨HB, HT1, HT2⟩ := HB; obtain ⟨x0, x1, x2, x3⟩ := HT1.out; obtain ⟨y0, y1, y2, y3⟩ := HT2.out; (repeat (refine zya ?_; rintro _ rfl)); refine zye ?_; (try simp only [zyp]); refine Ix.goI_yes rfl rfl fun K hK => ?_; (try simp only [zyp] at hK); go_wp2_with (first | (go_at_call 53; refine (CM.out _).mono ?_; rintro e wa ⟨ga, rfl, hga, hba, hia⟩)); exact hK _ _ hba ⟨_, rfl, hia⟩))
    (· ((repeat (refine zya ?_; rintro _ rfl)); refine zye ?_; (try simp only [zyp]); refine Ix.goI_yes rfl rfl fun K hK => ?_; (try simp only [zyp] at hK); go_wp2_with (first | fail); exact hK _ _ (Below.refl _ _) rfl))
    (· (obtain ⟨HB, HT1, HT2⟩ := HB; obtain ⟨x0, x1, x2, x3⟩ := HT1.out; obtain ⟨y0, y1, y2, y3⟩ := HT2.out; (repeat (refine zya ?_; rintro _ rfl)); refine zye ?_; (try simp only [zyp]); refine Ix.goI_yes rfl rfl fun K hK => ?_; (try simp only [zyp] at hK); go_wp2_with (first | fail); exact hK _ _ (Below.refl _ _) rfl))
    (· (obtain ⟨HB, HT1, HT2⟩ := HB; obtain ⟨x0, x1, x2, x3⟩ := HT1.out; obtain ⟨y0, y1, y2, y3⟩ := HT2.out; refine zya ?_; rintro _ ⟨g2, rfl, hg2⟩; refine zya ?_; rintro _ rfl; refine zye ?_; (try simp only [zyp]); refine Ix.goI_yes rfl rfl fun K hK => ?_; (try simp only [zyp] at hK); go_wp2_with (first | (go_at_call 70; refine (CF.out _ _ hg2).mono ?_; rintro e wa ⟨rfl, hba⟩)); exact hK _ _ hba rfl))
    (· ((repeat (refine zya ?_; rintro _ rfl)); refine zye ?_; (try simp only [zyp]); refine Ix.goI_yes rfl rfl fun K hK => ?_; (try simp only [zyp] at hK); go_wp2_with (first | fail); exact hK _ _ (Below.refl _ _) rfl))
  intro vsf wf HF hdf
  refine zyv 6 0 1 ?_; rintro _ _ rfl; refine zyv 5 1 2 ?_; rintro _ _ rfl; refine zyv 4 2 3 ?_; rintro _ _ ⟨g2, rfl, hg2⟩; refine zyv 3 3 4 ?_; rintro _ _ rfl; refine zyv 2 4 5 ?_; rintro _ _ rfl; refine zyv 1 5 6 ?_; rintro _ _ rfl; refine zyv 0 6 7 ?_; rintro _ _ rfl
  refine Ix.allV_nil ?_
  (try simp only [Act.put, List.setIfInBounds_toArray, List.set_cons_zero, List.set_cons_succ, List.drop_succ_cons, List.drop_zero])
  refine Ix.nil ?_
  go_wp2
  go_ret
  exact ⟨rfl, HF.1.out⟩
set_option maxHeartbeats 4000000 in
theorem r7common (a b A B : Int) (s t S T : Bool) (CA : Hid (∀ w : World, Calls Try.prog 71 #[W.ty a s] w fun e w' => e = .returned (W.ty A S) ∧ Below w.heap.size w w')) (CB : Hid (∀ w : World, Calls Try.prog 71 #[W.ty b t] w fun e w' => e = .returned (W.ty B T) ∧ Below w.heap.size w w'))
    (c : Bool) (hc : (c = true ∧ ((A = B ∧ T = true) ∨ B < A)) ∨ (c = false ∧ ((A = B ∧ T = false) ∨ A < B))) (w : World) :
    Calls Try.prog 76 #[W.ty a s, W.ty b t] w fun e w' => e = .returned (if c then W.ty A S else W.ty B T) ∧ Below w.heap.size w w' := by
  have HC := Lib.hid hc; clear hc
  go_enter Try.func76, Try.ntmps76
  go_wp2
  apply Ix.wp_region 6 (fun wi => Hid (Below w.heap.size w wi) ∧ Hid (Ty wi w.heap.size a s) ∧ Hid (Ty wi (w.heap.size + 1) b t) ∧ Hid (Ty wi (w.heap.size + 1 + 1) 0 false) ∧ Hid (w.heap.size + 1 + 1 < wi.heap.size)) (Ix.vk [(Ix.kis _), (Ix.kis _), (Ix.kis _), (Ix.kis _), (Ix.kwld (fun v w' => ∃ g, v = Value.pointer (some ⟨g, 0, none⟩) ∧ w.heap.size + 1 + 1 < g ∧ g < w'.heap.size ∧ Ty w' g 0 false) (fun v w1 w2 h hb => by obtain ⟨g, e, hl, hk, hi⟩ := h; exact ⟨g, e, hl, Nat.lt_of_lt_of_le hk hb.size, hi.below hb⟩)), (Ix.kwld (fun v w' => ∃ g, v = Value.pointer (some ⟨g, 0, none⟩) ∧ w.heap.size + 1 + 1 < g ∧ g < w'.heap.size ∧ Ty w' g 0 false) (fun v w1 w2 h hb => by obtain ⟨g, e, hl, hk, hi⟩ := h; exact ⟨g, e, hl, Nat.lt_of_lt_of_le hk hb.size, hi.below hb⟩))]) (fun k => k == 4 || k == 5) (by kernel_rfl) (by kernel_rfl) (by kernel_rfl) (fun _ _ h hb => ⟨Ext.trans h.1.out hb, h.2.1.out.below hb, h.2.2.1.out.below hb, h.2.2.2.1.out.below hb, Nat.lt_of_lt_of_le h.2.2.2.2.out hb.size⟩) (Ix.vk_keeps _) (fun j v w hj hv => by simp only [Bool.or_eq_true, beq_iff_eq] at hj; rcases hj with rfl | rfl <;> (obtain ⟨g, e, _, hg⟩ := hv; first | exact ⟨g, e, hg.lt⟩ | exact ⟨g, e, hg.1⟩)) ⟨Ext.alloc (Ext.alloc (Ext.alloc (Below.refl _ _) _) _) _, ⟨by simp [go_sem], by simp [go_sem], by simp [go_sem], by simp [go_sem]⟩, ⟨by simp [go_sem], by simp [go_sem], by simp [go_sem], by simp [go_sem]⟩, ⟨by simp [go_sem], by simp [go_sem], by simp [go_sem], by simp [go_sem]⟩, by show w.heap.size + 1 + 1 < _; simp⟩
  case step =>
    refine zyx 5 0 1 [] (fun wi HB => ?_) <| zyx 4 1 2 [(0, some 7)] (fun wi HB => ?_) <| zyx 3 2 3 [] (fun wi HB => ?_) <| zyx 2 3 4 [(2, some 9)] (fun wi HB => ?_) <| zyx 1 4 5 [] (fun wi HB => ?_) <| zyx 0 5 6 [] (fun wi HB => ?_) <| Ix.steps_nil
    (· (obtain ⟨HB, HT1, HT2, HT3, HL⟩ := HB; obtain ⟨x0, x1, x2, x3⟩ := HT1.out; obtain ⟨y0, y1, y2, y3⟩ := HT2.out; (repeat (refine zya ?_; rintro _ rfl)); refine zye ?_; (try simp only [zyp]); refine Ix.goI_yes rfl rfl fun K hK => ?_; (try simp only [zyp] at hK); go_wp2_with (first | fail); exact hK _ _ (Below.refl _ _) rfl))
    (· (obtain ⟨HB, HT1, HT2, HT3, HL⟩ := HB; obtain ⟨x0, x1, x2, x3⟩ := HT1.out; obtain ⟨y0, y1, y2, y3⟩ := HT2.out; (repeat (refine zya ?_; rintro _ rfl)); refine zye ?_; (try simp only [zyp]); refine Ix.goI_yes rfl rfl fun K hK => ?_; (try simp only [zyp] at hK); go_wp2_with (first | (go_at_call 71; refine (CA.out _).mono ?_; rintro e wa ⟨rfl, hba⟩)); exact hK _ _ hba rfl))
    (· (obtain ⟨HB, HT1, HT2, HT3, HL⟩ := HB; obtain ⟨x0, x1, x2, x3⟩ := HT1.out; obtain ⟨y0, y1, y2, y3⟩ := HT2.out; (repeat (refine zya ?_; rintro _ rfl)); refine zye ?_; (try simp only [zyp]); refine Ix.goI_yes rfl rfl fun K hK => ?_; (try simp only [zyp] at hK); go_wp2_with (first | fail); exact hK _ _ (Below.refl _ _) rfl))
    (· (obtain ⟨HB, HT1, HT2, HT3, HL⟩ := HB; obtain ⟨x0, x1, x2, x3⟩ := HT1.out; obtain ⟨y0, y1, y2, y3⟩ := HT2.out; (repeat (refine zya ?_; rintro _ rfl)); refine zye ?_; (try simp only [zyp]); refine Ix.goI_yes rfl rfl fun K hK => ?_; (try simp only [zyp] at hK); go_wp2_with (first | (go_at_call 71; refine (CB.out _).mono ?_; rintro e wa ⟨rfl, hba⟩)); exact hK _ _ hba rfl))
    iterate 2 (· (obtain ⟨HB, HT1, HT2, HT3, HL⟩ := HB; obtain ⟨x0, x1, x2, x3⟩ := HT1.out; obtain ⟨y0, y1, y2, y3⟩ := HT2.out; (repeat (refine zya ?_; rintro _ rfl)); refine zye ?_; (try simp only [zyp]); refine Ix.goI_new rfl fun K hK => ?_; (try simp only [zyp] at hK); go_wp2_with (first | fail); exact hK _ (Ext.alloc (Below.refl _ _) _) ⟨_, rfl, HL.out, (by simp), Ty.new _ rfl _ _ _⟩))
  intro vsf wf HF hdf
  refine zyv 5 0 1 ?_; rintro _ _ rfl; refine zyv 4 1 2 ?_; rintro _ _ rfl; refine zyv 3 2 3 ?_; rintro _ _ rfl; refine zyv 2 3 4 ?_; rintro _ _ rfl; refine zyv 1 4 5 ?_; rintro _ ev4 ⟨g4, rfl, hl4, hk4, hg4⟩; refine zyv 0 5 6 ?_; rintro _ ev5 ⟨g5, rfl, hl5, hk5, hg5⟩
  refine Ix.allV_nil ?_
  obtain ⟨HB, HT1, HT2, HT3, HL⟩ := HF; have ne1 : g4 ≠ g5 := (fun e => hdf 4 5 (by decide) (by decide) rfl rfl (by decide) (by rw [ev4, ev5, e])); have ne2 := ne1.symm; have HL4 := Lib.hid hl4; have HL5 := Lib.hid hl5; obtain ⟨x0, x1, x2, x3⟩ := hg4; obtain ⟨y0, y1, y2, y3⟩ := hg5; obtain ⟨z0, z1, z2, z3⟩ := HT3.out; have le0 : w.heap.size ≤ w.heap.size + 1 + 1 := (by omega); clear ev4 ev5 hdf
  (try simp only [Act.put, List.setIfInBounds_toArray, List.set_cons_zero, List.set_cons_succ, List.drop_succ_cons, List.drop_zero])
  go_wp2_with (first | fail)
  refine Ix.only ?_
  have l4 : w.heap.size ≤ g4 := by have := HL4.out; omega
  have l5 : w.heap.size ≤ g5 := by have := HL5.out; omega
  have HB9 : Hid (Below w.heap.size w (((((wf.setCell ⟨g4, 0, none⟩ (.int .i64 A)).setCell ⟨g4, 1, none⟩ (.bool S)).setCell ⟨g5, 0, none⟩ (.int .i64 B)).setCell ⟨g5, 1, none⟩ (.bool T)))) := Ext.setCell (Ext.setCell (Ext.setCell (Ext.setCell HB.out l4 _) l4 _) l5 _) l5 _
  have n4 : ¬ w.heap.size + 1 + 1 = g4 := by have := HL4.out; omega
  have n5 : ¬ w.heap.size + 1 + 1 = g5 := by have := HL5.out; omega
  have HZ : Hid (Ty (((((wf.setCell ⟨g4, 0, none⟩ (.int .i64 A)).setCell ⟨g4, 1, none⟩ (.bool S)).setCell ⟨g5, 0, none⟩ (.int .i64 B)).setCell ⟨g5, 1, none⟩ (.bool T))) (w.heap.size + 1 + 1) 0 false) := by
    refine ⟨?_, ?_, ?_, ?_⟩ <;> simp [go_sem, n4, n5, z0, z1, z2, z3]
  have HG4 : Hid (Ty (((((wf.setCell ⟨g4, 0, none⟩ (.int .i64 A)).setCell ⟨g4, 1, none⟩ (.bool S)).setCell ⟨g5, 0, none⟩ (.int .i64 B)).setCell ⟨g5, 1, none⟩ (.bool T))) g4 A S) := by
    refine ⟨?_, ?_, ?_, ?_⟩ <;> simp [go_sem, ne1, ne2, x0, x1, x2, x3]
  have HG5 : Hid (Ty (((((wf.setCell ⟨g4, 0, none⟩ (.int .i64 A)).setCell ⟨g4, 1, none⟩ (.bool S)).setCell ⟨g5, 0, none⟩ (.int .i64 B)).setCell ⟨g5, 1, none⟩ (.bool T))) g5 B T) := by
    refine ⟨?_, ?_, ?_, ?_⟩ <;> simp [go_sem, ne1, ne2, x0, x1, x2, x3, y0, y1, y2, y3]
  generalize ((((wf.setCell ⟨g4, 0, none⟩ (.int .i64 A)).setCell ⟨g4, 1, none⟩ (.bool S)).setCell ⟨g5, 0, none⟩ (.int .i64 B)).setCell ⟨g5, 1, none⟩ (.bool T)) = wx at *
  clear n4 n5 l4 l5 x0 x1 x2 x3 y0 y1 y2 y3 z0 z1 z2 z3 ne1 ne2 hl4 hl5 hk4 hk5 HL4 HL5 HL HT1 HT2 HT3 HB CA CB
  obtain ⟨x0, x1, x2, x3⟩ := HG4.out; obtain ⟨y0, y1, y2, y3⟩ := HG5.out; obtain ⟨z0, z1, z2, z3⟩ := HZ.out
  clear x2 x3 y2 y3
  rcases HC.out with ⟨rfl, ⟨rfl, rfl⟩ | h⟩ | ⟨rfl, ⟨rfl, rfl⟩ | h⟩
  · go_wp2
    refine bodyPost_ret (v := W.ty A S) (by simp [results, Try.results76, go_sem, z0, z1, z2, z3]) rfl ⟨rfl, Ext.setCell (Ext.setCell HB9.out le0 _) le0 _⟩
  · go_wp2
    refine bodyPost_ret (v := W.ty A S) (by simp [results, Try.results76, go_sem, z0, z1, z2, z3]) rfl ⟨rfl, Ext.setCell (Ext.setCell HB9.out le0 _) le0 _⟩
  · go_wp2
    refine bodyPost_ret (v := W.ty A false) (by simp [results, Try.results76, go_sem, z0, z1, z2, z3]) rfl ⟨rfl, Ext.setCell (Ext.setCell HB9.out le0 _) le0 _⟩
  · go_wp2
    refine bodyPost_ret (v := W.ty B T) (by simp [results, Try.results76, go_sem, z0, z1, z2, z3]) rfl ⟨rfl, Ext.setCell (Ext.setCell HB9.out le0 _) le0 _⟩
theorem r7common_ok (a b : Int) (s t : Bool) (w : World) : Calls Try.prog 76 #[W.ty a s, W.ty b t] w fun e w' => e = .returned (W.ty (W.cb a b) (W.cs a s b t)) ∧ Below w.heap.size w w' := by
  unfold W.cb W.cs
  by_cases h1 : W.pb b < W.pb a
  · rw [if_pos h1, if_pos h1]
    exact r7common a b _ _ s t _ _ (fun w => r7wide a s w) (fun w => r7wide b t w) true (.inl ⟨rfl, .inr h1⟩) w
  rw [if_neg h1, if_neg h1]
  by_cases h2 : W.pb a < W.pb b
  · rw [if_pos h2]
    exact r7common a b _ _ s t _ _ (fun w => r7wide a s w) (fun w => r7wide b t w) false (.inr ⟨rfl, .inr h2⟩) w
  rw [if_neg h2]
  have e : W.pb a = W.pb b := by omega
  cases hT : W.ps b t
  · rw [Bool.and_false]
    have := r7common a b _ _ s t _ _ (fun w => r7wide a s w) (fun w => r7wide b t w) false (.inr ⟨rfl, .inl ⟨e, hT⟩⟩) w
    rw [hT] at this; exact this
  · rw [Bool.and_true, ← e]
    exact r7common a b _ _ s t _ _ (fun w => r7wide a s w) (fun w => r7wide b t w) true (.inl ⟨rfl, .inl ⟨e, hT⟩⟩) w
set_option maxHeartbeats 4000000 in
theorem r7result (k a b : Int) (s t : Bool) (w : World) : Calls Try.prog 42 #[.int .i64 k, W.ty a s, W.ty b t] w fun e w' => e = .returned (W.ty (W.rb k a b) (W.rs k a s b t)) ∧ Below w.heap.size w w' := by
  have PA : Hid (∀ w : World, Calls Try.prog 71 #[W.ty a s] w fun e w' => e = .returned (W.ty (W.pb a) (W.ps a s)) ∧ Below w.heap.size w w') := fun w => r7wide a s w
  have PC : Hid (∀ w : World, Calls Try.prog 76 #[W.ty a s, W.ty b t] w fun e w' => e = .returned (W.ty (W.cb a b) (W.cs a s b t)) ∧ Below w.heap.size w w') := fun w => r7common_ok a b s t w
  unfold W.rb W.rs
  by_cases h1 : k = 14 ∨ k = 15
  · rw [if_pos h1, if_pos h1]
    generalize W.pb a = A at *
    generalize W.ps a s = S at *
    rcases h1 with rfl | rfl
    all_goals
      go_enter Try.func42, Try.ntmps42
      go_wp2_with (first | (go_at_call 71; refine (PA.out _).mono ?_; rintro e w1 ⟨rfl, hb⟩; have HB := Lib.hid hb; obtain ⟨k0, k1, g0, g1⟩ := Ty.below (Ty.new _ (B := w.heap.size + 1 + 1) (by simp) 0 false _) hb; clear hb))
      exact bodyPost_ret (v := W.ty A S) (by simp [results, Try.results42, go_sem, k0, k1, g0, g1]) rfl ⟨rfl, Ext.setCell (Ext.setCell (Ext.trans (Ext.alloc (Ext.alloc (Ext.alloc (Below.refl _ _) _) _) _) HB.out) (Nat.le_add_right _ 2) _) (Nat.le_add_right _ 2) _⟩
  rw [if_neg h1, if_neg h1]
  have h14 : (k == 14) = false := by simp; omega
  have h15 : (k == 15) = false := by simp; omega
  by_cases h2 : 16 ≤ k ∧ k ≤ 21
  · rw [if_pos h2, if_pos h2]
    rcases (show k = 16 ∨ k = 17 ∨ k = 18 ∨ k = 19 ∨ k = 20 ∨ k = 21 by omega) with rfl | rfl | rfl | rfl | rfl | rfl
    all_goals
      clear h1 h2 h14 h15
      go_enter Try.func42, Try.ntmps42
      go_wp2
      exact bodyPost_ret (v := W.ty 16 true) (by simp [results, Try.results42, go_sem]) rfl ⟨rfl, by repeat (first | exact Below.refl _ _ | refine Ext.setCell ?_ (by simp) _ | refine Ext.alloc ?_ _)⟩
  · rw [if_neg h2, if_neg h2]
    generalize W.cb a b = A at *
    generalize W.cs a s b t = S at *
    have h16 : (k == 16) = false := by simp; omega
    have h17 : (k == 17) = false := by simp; omega
    have h18 : (k == 18) = false := by simp; omega
    have h19 : (k == 19) = false := by simp; omega
    have h20 : (k == 20) = false := by simp; omega
    have h21 : (k == 21) = false := by simp; omega
    clear h1 h2
    go_enter Try.func42, Try.ntmps42
    go_wp2_with (first | (go_at_call 76; refine (PC.out _).mono ?_; rintro e w1 ⟨rfl, hb⟩; have HB := Lib.hid hb; obtain ⟨k0, k1, g0, g1⟩ := Ty.below (Ty.new _ (B := w.heap.size + 1 + 1) (by simp) 0 false _) hb; clear hb))
    exact bodyPost_ret (v := W.ty A S) (by simp [results, Try.results42, go_sem, k0, k1, g0, g1]) rfl ⟨rfl, Ext.setCell (Ext.setCell (Ext.trans (Ext.alloc (Ext.alloc (Ext.alloc (Below.refl _ _) _) _) _) HB.out) (Nat.le_add_right _ 2) _) (Nat.le_add_right _ 2) _⟩
end Go.Proofs.Ytkmcniaaecijdaa
