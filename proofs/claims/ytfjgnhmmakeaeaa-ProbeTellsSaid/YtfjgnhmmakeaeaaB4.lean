/- The machine: does a jump go; reckoning with two words; shifts. -/
import Derived.Test.YtfjgnhmmakeaeaaB3
import Derived.Test.YtfjgnhmmakeaeaaB0
namespace Go.Proofs.Ytfjgnhmmakeaeaa
open Go.RowKit
set_option linter.unusedVariables false
set_option linter.unusedSimpArgs false
set_option maxRecDepth 100000
open Mc

def Mc.goes (s : St) (op : Int) : Bool := if op = 20 then s.z else if op = 21 then !s.z else if op = 22 then s.c else if op = 23 then !s.c else if op = 24 then s.n != s.v else if op = 25 then s.n == s.v else true
theorem Mach.alloc {w : World} {B : Nat} {L : Lay} {s : St} {ov : Value} (h : Mach w B L s ov) (o : Obj) : Mach (w.alloc o) B L s ov := h.keep (Ext.alloc (Below.refl _ _) _)
theorem Mach.hi {w : World} {B : Nat} {L : Lay} {s : St} {ov : Value} (h : Mach w B L s ov) : B ≤ w.heap.size := by have := h.lo1; have := h.lt; omega
set_option maxHeartbeats 4000000 in
theorem mgoes_ok (B : Nat) (L : Lay) (s : St) (ov : Value) (op : Int) (hop : 19 ≤ op ∧ op ≤ 25) (w : World) (h : Mach w B L s ov) :
    Calls Try.prog 80 #[mP L, .int .i64 op] w (fun e w' => e = .returned (.bool (Mc.goes s op)) ∧ Below w.heap.size w w') := by
  obtain ⟨c8, f8⟩ := h.at_ 8 (.bool s.c) rfl
  obtain ⟨c9, f9⟩ := h.at_ 9 (.bool s.z) rfl
  obtain ⟨c10, f10⟩ := h.at_ 10 (.bool s.n) rfl
  obtain ⟨c11, f11⟩ := h.at_ 11 (.bool s.v) rfl
  have hlt := h.lt
  clear h f8 f9 f10 f11
  unfold Mc.goes
  generalize s.c = C at *; generalize s.z = Z at *; generalize s.n = N at *; generalize s.v = V at *
  rcases (show op = 19 ∨ op = 20 ∨ op = 21 ∨ op = 22 ∨ op = 23 ∨ op = 24 ∨ op = 25 by omega) with rfl | rfl | rfl | rfl | rfl | rfl | rfl
  all_goals
    clear hop
    go_enter Try.func80, Try.ntmps80
    go_wp2
    go_ret
    exact ⟨rfl, by repeat (first | exact Below.refl _ _ | refine Ext.alloc ?_ _ | refine Ext.setCell ?_ (by simp) _)⟩
/-- Flags turned. -/
def Mc.fl (s : St) (c : Bool) (r : Int) (v : Bool) : St := { s with c := c, z := W.fZ r, n := W.fN r, v := v }
theorem fZ_eq (X : Int) : (X == 0) = W.fZ X := by unfold W.fZ; rw [Bool.eq_iff_iff]; simp
theorem fN_eq (X : Int) : decide (32767 < X) = W.fN X := by unfold W.fN; rw [decide_eq_decide]; omega
theorem mshown_ok (B : Nat) (L : Lay) (s : St) (ov : Value) (x : Int) (c : Bool) (w : World) (h : Mach w B L s ov) :
    Calls Try.prog 93 #[mP L, .int .i64 x, .bool c] w (Turn B L (Mc.fl s c (x % 65536) false) ov (.int .i64 (x % 65536)) w) := by
  have := shown_ok B L s ov x c w h
  unfold Mc.fl; rw [← fZ_eq, ← fN_eq]; exact this
/-- What two words make; the flags. -/
def Mc.twoR (op a b : Int) (c : Bool) : Int :=
  if op = 5 then W.sR a b false else if op = 6 then W.sR a b c else if op = 7 ∨ op = 12 then W.dR a b false else if op = 8 ∨ op = 13 then W.dR a b c
  else if op = 9 then bits .and .i64 a b % 65536 else if op = 10 then bits .or .i64 a b % 65536 else bits .xor .i64 a b % 65536
def Mc.two (op a b : Int) (s : St) : St :=
  if op = 5 then Mc.fl s (W.sC a b false) (W.sR a b false) (W.sV a b false) else if op = 6 then Mc.fl s (W.sC a b s.c) (W.sR a b s.c) (W.sV a b s.c)
  else if op = 7 ∨ op = 12 then Mc.fl s (W.dC a b false) (W.dR a b false) (W.dV a b false) else if op = 8 then Mc.fl s (W.dC a b s.c) (W.dR a b s.c) (W.dV a b s.c)
  else if op = 13 then { Mc.fl s (W.dC a b s.c) (W.dR a b s.c) (W.dV a b s.c) with z := W.fZ (W.dR a b s.c) && s.z }
  else Mc.fl s false (Mc.twoR op a b s.c) false
theorem sum_agg (x y : Int) (c : Bool) (w : World) : Calls Try.prog 91 #[.int .i64 x, .int .i64 y, .bool c] w fun e w' => e = .returned (.tuple #[.int .i64 (W.sR x y c), .agg #[.bool (W.sC x y c), .bool (W.fZ (W.sR x y c)), .bool (W.fN (W.sR x y c)), .bool (W.sV x y c)]]) ∧ Below w.heap.size w w' := sum_ok x y c w
theorem diff_agg (x y : Int) (c : Bool) (hy : W.I y) (w : World) : Calls Try.prog 92 #[.int .i64 x, .int .i64 y, .bool c] w fun e w' => e = .returned (.tuple #[.int .i64 (W.dR x y c), .agg #[.bool (W.dC x y c), .bool (W.fZ (W.dR x y c)), .bool (W.fN (W.dR x y c)), .bool (W.dV x y c)]]) ∧ Below w.heap.size w w' := diff_ok x y c hy w
set_option maxHeartbeats 4000000 in
theorem mtwo_sum (B : Nat) (L : Lay) (s : St) (ov : Value) (op a b : Int) (hop : op = 5 ∨ op = 6) (w : World) (h : Mach w B L s ov) :
    Calls Try.prog 78 #[mP L, .int .i64 op, .int .i64 a, .int .i64 b] w (Turn B L (Mc.two op a b s) ov (.int .i64 (Mc.twoR op a b s.c)) w) := by
  obtain ⟨c8, f8⟩ := h.at_ 8 (.bool s.c) rfl
  obtain ⟨c9, f9⟩ := h.at_ 9 (.bool s.z) rfl
  obtain ⟨c10, f10⟩ := h.at_ 10 (.bool s.n) rfl
  obtain ⟨c11, f11⟩ := h.at_ 11 (.bool s.v) rfl
  have hlt := h.lt
  have H := Lib.hid h
  clear h
  rcases hop with rfl | rfl
  all_goals
    go_enter Try.func78, Try.ntmps78
    go_wp2_with (first | (go_at_call 91; refine (sum_agg _ _ _ _).mono ?_; rintro e w1 ⟨rfl, hb1⟩; have M1 := Lib.hid ((H.out.alloc _).keep hb1); obtain ⟨k8, l8⟩ := M1.out.at_ 8 (.bool s.c) rfl; obtain ⟨k9, l9⟩ := M1.out.at_ 9 (.bool s.z) rfl; obtain ⟨k10, l10⟩ := M1.out.at_ 10 (.bool s.n) rfl; obtain ⟨k11, l11⟩ := M1.out.at_ 11 (.bool s.v) rfl; have HB1 := Lib.hid hb1; clear hb1))
    go_ret
    exact ⟨rfl, M1.out.setFl _ _ _ _, Tch.cell (Tch.cell (Tch.cell (Tch.cell (Tch.below (Tch.alloc (Tch.refl _ _) _) HB1.out) (.inl rfl) _) (.inl rfl) _) (.inl rfl) _) (.inl rfl) _⟩
set_option maxHeartbeats 4000000 in
theorem mtwo_diff (B : Nat) (L : Lay) (s : St) (ov : Value) (op a b : Int) (hy : W.I b) (hop : op = 7 ∨ op = 8 ∨ op = 12) (w : World) (h : Mach w B L s ov) :
    Calls Try.prog 78 #[mP L, .int .i64 op, .int .i64 a, .int .i64 b] w (Turn B L (Mc.two op a b s) ov (.int .i64 (Mc.twoR op a b s.c)) w) := by
  obtain ⟨c8, f8⟩ := h.at_ 8 (.bool s.c) rfl
  obtain ⟨c9, f9⟩ := h.at_ 9 (.bool s.z) rfl
  obtain ⟨c10, f10⟩ := h.at_ 10 (.bool s.n) rfl
  obtain ⟨c11, f11⟩ := h.at_ 11 (.bool s.v) rfl
  have hlt := h.lt
  have H := Lib.hid h
  clear h
  have hy := Lib.hid hy
  rcases hop with rfl | rfl | rfl
  all_goals
    go_enter Try.func78, Try.ntmps78
    go_wp2_with (first | (go_at_call 92; refine (diff_agg _ _ _ hy.out _).mono ?_; rintro e w1 ⟨rfl, hb1⟩; have M1 := Lib.hid ((H.out.alloc _).keep hb1); obtain ⟨k8, l8⟩ := M1.out.at_ 8 (.bool s.c) rfl; obtain ⟨k9, l9⟩ := M1.out.at_ 9 (.bool s.z) rfl; obtain ⟨k10, l10⟩ := M1.out.at_ 10 (.bool s.n) rfl; obtain ⟨k11, l11⟩ := M1.out.at_ 11 (.bool s.v) rfl; have HB1 := Lib.hid hb1; clear hb1))
    go_ret
    exact ⟨rfl, M1.out.setFl _ _ _ _, Tch.cell (Tch.cell (Tch.cell (Tch.cell (Tch.below (Tch.alloc (Tch.refl _ _) _) HB1.out) (.inl rfl) _) (.inl rfl) _) (.inl rfl) _) (.inl rfl) _⟩
set_option maxHeartbeats 4000000 in
theorem mtwo_cpc (B : Nat) (L : Lay) (s : St) (ov : Value) (a b : Int) (hy : W.I b) (w : World) (h : Mach w B L s ov) :
    Calls Try.prog 78 #[mP L, .int .i64 13, .int .i64 a, .int .i64 b] w (Turn B L (Mc.two 13 a b s) ov (.int .i64 (Mc.twoR 13 a b s.c)) w) := by
  obtain ⟨c8, f8⟩ := h.at_ 8 (.bool s.c) rfl
  obtain ⟨c9, f9⟩ := h.at_ 9 (.bool s.z) rfl
  obtain ⟨c10, f10⟩ := h.at_ 10 (.bool s.n) rfl
  obtain ⟨c11, f11⟩ := h.at_ 11 (.bool s.v) rfl
  have hlt := h.lt
  have H := Lib.hid h
  clear h
  obtain ⟨zz, hz⟩ : ∃ zz, zz = W.fZ (W.dR a b s.c) := ⟨_, rfl⟩
  have CD : Hid (∀ w : World, Calls Try.prog 92 #[.int .i64 a, .int .i64 b, .bool s.c] w fun e w' => e = .returned (.tuple #[.int .i64 (W.dR a b s.c), .agg #[.bool (W.dC a b s.c), .bool zz, .bool (W.fN (W.dR a b s.c)), .bool (W.dV a b s.c)]]) ∧ Below w.heap.size w w') := fun w => by rw [hz]; exact diff_agg a b s.c hy w
  have HP : Hid (Mc.two 13 a b s = { Mc.fl s (W.dC a b s.c) (W.dR a b s.c) (W.dV a b s.c) with z := zz && s.z }) := by rw [hz]; rfl
  have HQ : Hid (∀ w1, Mach w1 B L s ov → Mach ((((w1.setCell ⟨L.mb, 8, none⟩ (.bool (W.dC a b s.c))).setCell ⟨L.mb, 9, none⟩ (.bool zz)).setCell ⟨L.mb, 10, none⟩ (.bool (W.fN (W.dR a b s.c)))).setCell ⟨L.mb, 11, none⟩ (.bool (W.dV a b s.c))) B L (Mc.fl s (W.dC a b s.c) (W.dR a b s.c) (W.dV a b s.c)) ov) := fun w1 h1 => by rw [hz]; exact h1.setFl _ _ _ _
  clear hy hz
  cases zz
  all_goals
    go_enter Try.func78, Try.ntmps78
    go_wp2_with (first | (go_at_call 92; refine (CD.out _).mono ?_; rintro e w1 ⟨rfl, hb1⟩; have M1 := Lib.hid ((H.out.alloc _).keep hb1); obtain ⟨k8, l8⟩ := M1.out.at_ 8 (.bool s.c) rfl; obtain ⟨k9, l9⟩ := M1.out.at_ 9 (.bool s.z) rfl; obtain ⟨k10, l10⟩ := M1.out.at_ 10 (.bool s.n) rfl; obtain ⟨k11, l11⟩ := M1.out.at_ 11 (.bool s.v) rfl; obtain ⟨o1, o2, o3, o4, o5, o6⟩ := own4 hb1; have ne1 : ¬ w.heap.size = L.mb := Nat.ne_of_gt hlt; have HB1 := Lib.hid hb1; clear hb1))
    go_ret
    exact ⟨rfl, by rw [HP.out]; exact (HQ.out _ M1.out).set 9 _ _ rfl rfl rfl, Tch.cell (Tch.cell (Tch.cell (Tch.cell (Tch.cell (Tch.below (Tch.alloc (Tch.refl _ _) _) HB1.out) (.inl rfl) _) (.inl rfl) _) (.inl rfl) _) (.inl rfl) _) (.inl rfl) _⟩
set_option maxHeartbeats 4000000 in
theorem mtwo_bits (B : Nat) (L : Lay) (s : St) (ov : Value) (op a b : Int) (hop : op = 9 ∨ op = 10 ∨ op = 11) (w : World) (h : Mach w B L s ov) :
    Calls Try.prog 78 #[mP L, .int .i64 op, .int .i64 a, .int .i64 b] w (Turn B L (Mc.two op a b s) ov (.int .i64 (Mc.twoR op a b s.c)) w) := by
  obtain ⟨c8, f8⟩ := h.at_ 8 (.bool s.c) rfl
  obtain ⟨c9, f9⟩ := h.at_ 9 (.bool s.z) rfl
  obtain ⟨c10, f10⟩ := h.at_ 10 (.bool s.n) rfl
  obtain ⟨c11, f11⟩ := h.at_ 11 (.bool s.v) rfl
  have hlt := h.lt
  have H := Lib.hid h
  clear h
  rcases hop with rfl | rfl | rfl
  all_goals
    go_enter Try.func78, Try.ntmps78
    go_wp2_with (first | (go_at_call 93; refine (mshown_ok B L s ov _ _ _ (H.out.alloc _)).mono ?_; rintro e w1 ⟨rfl, hm1, hb1⟩; have M1 := Lib.hid hm1; have HB1 := Lib.hid hb1; clear hm1 hb1))
    go_ret
    exact ⟨rfl, M1.out, Tch.trans (Tch.alloc (Tch.refl _ _) _) HB1.out⟩
theorem mtwo_ok (B : Nat) (L : Lay) (s : St) (ov : Value) (op a b : Int) (hy : W.I b) (hop : 5 ≤ op ∧ op ≤ 13) (w : World) (h : Mach w B L s ov) :
    Calls Try.prog 78 #[mP L, .int .i64 op, .int .i64 a, .int .i64 b] w (Turn B L (Mc.two op a b s) ov (.int .i64 (Mc.twoR op a b s.c)) w) := by
  rcases (show (op = 5 ∨ op = 6) ∨ (op = 7 ∨ op = 8 ∨ op = 12) ∨ op = 13 ∨ (op = 9 ∨ op = 10 ∨ op = 11) by omega) with h1 | h1 | h1 | h1
  · exact mtwo_sum B L s ov op a b h1 w h
  · exact mtwo_diff B L s ov op a b hy h1 w h
  · subst h1; exact mtwo_cpc B L s ov a b hy w h
  · exact mtwo_bits B L s ov op a b h1 w h
end Go.Proofs.Ytfjgnhmmakeaeaa
/- The machine: shifts. -/
namespace Go.Proofs.Ytfjgnhmmakeaeaa
open Go.RowKit
set_option linter.unusedVariables false
set_option linter.unusedSimpArgs false
set_option maxRecDepth 100000
open Mc

/-- Moved by one place. -/
def Mc.shX (op a : Int) (c : Bool) : Int :=
  if op = 14 ∨ op = 15 then bits .or .i64 (a * 2) (if op = 15 ∧ c = true then 1 else 0) % 65536
  else bits .or .i64 (a / 2) (if op = 18 ∧ c = true ∨ op = 17 ∧ 32767 < a then 32768 else 0) % 65536
def Mc.shC (op a : Int) : Bool := if op = 14 ∨ op = 15 then decide (32767 < a) else a % 2 == 1
def Mc.sh (op a : Int) (s : St) : St := Mc.fl s (Mc.shC op a) (Mc.shX op a s.c) false
theorem i64_wraps32 (n : Int) (h₀ : 0 ≤ n) (h₁ : n < 2 ^ 32) : IntKind.i64.wrap n = n := by rw [IntKind.wrap_i64]; omega
set_option maxHeartbeats 4000000 in
theorem mshl (B : Nat) (L : Lay) (s : St) (ov : Value) (a : Int) (ha : 0 ≤ a ∧ a < 65536) (w : World) (h : Mach w B L s ov) :
    Calls Try.prog 79 #[mP L, .int .i64 14, .int .i64 a] w (Turn B L (Mc.sh 14 a s) ov (.int .i64 (Mc.shX 14 a s.c)) w) := by
  obtain ⟨c8, f8⟩ := h.at_ 8 (.bool s.c) rfl
  have H := Lib.hid h
  have h1 : bits .and .i64 a 1 = a % 2 := bits_mask .i64 32 (by decide) i64_wraps32 1 (by decide) a ha.1 (by omega)
  have HP : Hid (Mc.shX 14 a s.c = bits .or .i64 (a * 2) 0 % 65536) := by
    show Mc.shX 14 a s.c = _
    rfl
  
  clear h
  obtain ⟨a0, a1⟩ := ha
  go_enter Try.func79, Try.ntmps79
  go_wp2_with (first | (go_at_call 93; refine (mshown_ok B L s ov _ _ _ H.out).mono ?_; rintro e w1 ⟨rfl, hm1, hb1⟩; have M1 := Lib.hid hm1; have HB1 := Lib.hid hb1; clear hm1 hb1))
  go_ret
  exact ⟨by rw [HP.out]; rfl, by unfold Mc.sh; rw [HP.out]; exact M1.out, HB1.out⟩
set_option maxHeartbeats 4000000 in
theorem mrol0 (B : Nat) (L : Lay) (s : St) (ov : Value) (a : Int) (ha : 0 ≤ a ∧ a < 65536) (hc : s.c = false) (w : World) (h : Mach w B L s ov) :
    Calls Try.prog 79 #[mP L, .int .i64 15, .int .i64 a] w (Turn B L (Mc.sh 15 a s) ov (.int .i64 (Mc.shX 15 a s.c)) w) := by
  obtain ⟨c8, f8⟩ := h.at_ 8 (.bool s.c) rfl
  have H := Lib.hid h
  have h1 : bits .and .i64 a 1 = a % 2 := bits_mask .i64 32 (by decide) i64_wraps32 1 (by decide) a ha.1 (by omega)
  have HP : Hid (Mc.shX 15 a s.c = bits .or .i64 (a * 2) 0 % 65536) := by
    show Mc.shX 15 a s.c = _
    rw [hc]; rfl
  rw [hc] at c8
  clear h hc
  obtain ⟨a0, a1⟩ := ha
  go_enter Try.func79, Try.ntmps79
  go_wp2_with (first | (go_at_call 93; refine (mshown_ok B L s ov _ _ _ H.out).mono ?_; rintro e w1 ⟨rfl, hm1, hb1⟩; have M1 := Lib.hid hm1; have HB1 := Lib.hid hb1; clear hm1 hb1))
  go_ret
  exact ⟨by rw [HP.out]; rfl, by unfold Mc.sh; rw [HP.out]; exact M1.out, HB1.out⟩
set_option maxHeartbeats 4000000 in
theorem mrol1 (B : Nat) (L : Lay) (s : St) (ov : Value) (a : Int) (ha : 0 ≤ a ∧ a < 65536) (hc : s.c = true) (w : World) (h : Mach w B L s ov) :
    Calls Try.prog 79 #[mP L, .int .i64 15, .int .i64 a] w (Turn B L (Mc.sh 15 a s) ov (.int .i64 (Mc.shX 15 a s.c)) w) := by
  obtain ⟨c8, f8⟩ := h.at_ 8 (.bool s.c) rfl
  have H := Lib.hid h
  have h1 : bits .and .i64 a 1 = a % 2 := bits_mask .i64 32 (by decide) i64_wraps32 1 (by decide) a ha.1 (by omega)
  have HP : Hid (Mc.shX 15 a s.c = bits .or .i64 (a * 2) 1 % 65536) := by
    show Mc.shX 15 a s.c = _
    rw [hc]; rfl
  rw [hc] at c8
  clear h hc
  obtain ⟨a0, a1⟩ := ha
  go_enter Try.func79, Try.ntmps79
  go_wp2_with (first | (go_at_call 93; refine (mshown_ok B L s ov _ _ _ H.out).mono ?_; rintro e w1 ⟨rfl, hm1, hb1⟩; have M1 := Lib.hid hm1; have HB1 := Lib.hid hb1; clear hm1 hb1))
  go_ret
  exact ⟨by rw [HP.out]; rfl, by unfold Mc.sh; rw [HP.out]; exact M1.out, HB1.out⟩
set_option maxHeartbeats 4000000 in
theorem mshr (B : Nat) (L : Lay) (s : St) (ov : Value) (a : Int) (ha : 0 ≤ a ∧ a < 65536) (w : World) (h : Mach w B L s ov) :
    Calls Try.prog 79 #[mP L, .int .i64 16, .int .i64 a] w (Turn B L (Mc.sh 16 a s) ov (.int .i64 (Mc.shX 16 a s.c)) w) := by
  obtain ⟨c8, f8⟩ := h.at_ 8 (.bool s.c) rfl
  have H := Lib.hid h
  have h1 : bits .and .i64 a 1 = a % 2 := bits_mask .i64 32 (by decide) i64_wraps32 1 (by decide) a ha.1 (by omega)
  have HP : Hid (Mc.shX 16 a s.c = bits .or .i64 (a / 2) 0 % 65536) := by
    show Mc.shX 16 a s.c = _
    rfl
  
  clear h
  obtain ⟨a0, a1⟩ := ha
  go_enter Try.func79, Try.ntmps79
  go_wp2_with (first | (go_at_call 93; refine (mshown_ok B L s ov _ _ _ H.out).mono ?_; rintro e w1 ⟨rfl, hm1, hb1⟩; have M1 := Lib.hid hm1; have HB1 := Lib.hid hb1; clear hm1 hb1))
  go_ret
  exact ⟨by rw [HP.out]; rfl, by unfold Mc.sh; rw [HP.out]; exact M1.out, HB1.out⟩
set_option maxHeartbeats 4000000 in
theorem msar0 (B : Nat) (L : Lay) (s : St) (ov : Value) (a : Int) (ha : 0 ≤ a ∧ a < 65536) (ht : decide (32767 < a) = false) (w : World) (h : Mach w B L s ov) :
    Calls Try.prog 79 #[mP L, .int .i64 17, .int .i64 a] w (Turn B L (Mc.sh 17 a s) ov (.int .i64 (Mc.shX 17 a s.c)) w) := by
  obtain ⟨c8, f8⟩ := h.at_ 8 (.bool s.c) rfl
  have H := Lib.hid h
  have h1 : bits .and .i64 a 1 = a % 2 := bits_mask .i64 32 (by decide) i64_wraps32 1 (by decide) a ha.1 (by omega)
  have HP : Hid (Mc.shX 17 a s.c = bits .or .i64 (a / 2) 0 % 65536) := by
    show Mc.shX 17 a s.c = _
    unfold Mc.shX; simp only [decide_eq_false_iff_not] at ht; simp [ht]
  
  clear h
  obtain ⟨a0, a1⟩ := ha
  go_enter Try.func79, Try.ntmps79
  go_wp2_with (first | (go_at_call 93; refine (mshown_ok B L s ov _ _ _ H.out).mono ?_; rintro e w1 ⟨rfl, hm1, hb1⟩; have M1 := Lib.hid hm1; have HB1 := Lib.hid hb1; clear hm1 hb1))
  go_ret
  exact ⟨by rw [HP.out]; rfl, by unfold Mc.sh; rw [HP.out]; exact M1.out, HB1.out⟩
set_option maxHeartbeats 4000000 in
theorem msar1 (B : Nat) (L : Lay) (s : St) (ov : Value) (a : Int) (ha : 0 ≤ a ∧ a < 65536) (ht : decide (32767 < a) = true) (w : World) (h : Mach w B L s ov) :
    Calls Try.prog 79 #[mP L, .int .i64 17, .int .i64 a] w (Turn B L (Mc.sh 17 a s) ov (.int .i64 (Mc.shX 17 a s.c)) w) := by
  obtain ⟨c8, f8⟩ := h.at_ 8 (.bool s.c) rfl
  have H := Lib.hid h
  have h1 : bits .and .i64 a 1 = a % 2 := bits_mask .i64 32 (by decide) i64_wraps32 1 (by decide) a ha.1 (by omega)
  have HP : Hid (Mc.shX 17 a s.c = bits .or .i64 (a / 2) 32768 % 65536) := by
    show Mc.shX 17 a s.c = _
    unfold Mc.shX; simp only [decide_eq_true_eq] at ht; simp [ht]
  
  clear h
  obtain ⟨a0, a1⟩ := ha
  go_enter Try.func79, Try.ntmps79
  go_wp2_with (first | (go_at_call 93; refine (mshown_ok B L s ov _ _ _ H.out).mono ?_; rintro e w1 ⟨rfl, hm1, hb1⟩; have M1 := Lib.hid hm1; have HB1 := Lib.hid hb1; clear hm1 hb1))
  go_ret
  exact ⟨by rw [HP.out]; rfl, by unfold Mc.sh; rw [HP.out]; exact M1.out, HB1.out⟩
set_option maxHeartbeats 4000000 in
theorem mror0 (B : Nat) (L : Lay) (s : St) (ov : Value) (a : Int) (ha : 0 ≤ a ∧ a < 65536) (hc : s.c = false) (w : World) (h : Mach w B L s ov) :
    Calls Try.prog 79 #[mP L, .int .i64 18, .int .i64 a] w (Turn B L (Mc.sh 18 a s) ov (.int .i64 (Mc.shX 18 a s.c)) w) := by
  obtain ⟨c8, f8⟩ := h.at_ 8 (.bool s.c) rfl
  have H := Lib.hid h
  have h1 : bits .and .i64 a 1 = a % 2 := bits_mask .i64 32 (by decide) i64_wraps32 1 (by decide) a ha.1 (by omega)
  have HP : Hid (Mc.shX 18 a s.c = bits .or .i64 (a / 2) 0 % 65536) := by
    show Mc.shX 18 a s.c = _
    rw [hc]; rfl
  rw [hc] at c8
  clear h hc
  obtain ⟨a0, a1⟩ := ha
  go_enter Try.func79, Try.ntmps79
  go_wp2_with (first | (go_at_call 93; refine (mshown_ok B L s ov _ _ _ H.out).mono ?_; rintro e w1 ⟨rfl, hm1, hb1⟩; have M1 := Lib.hid hm1; have HB1 := Lib.hid hb1; clear hm1 hb1))
  go_ret
  exact ⟨by rw [HP.out]; rfl, by unfold Mc.sh; rw [HP.out]; exact M1.out, HB1.out⟩
set_option maxHeartbeats 4000000 in
theorem mror1 (B : Nat) (L : Lay) (s : St) (ov : Value) (a : Int) (ha : 0 ≤ a ∧ a < 65536) (hc : s.c = true) (w : World) (h : Mach w B L s ov) :
    Calls Try.prog 79 #[mP L, .int .i64 18, .int .i64 a] w (Turn B L (Mc.sh 18 a s) ov (.int .i64 (Mc.shX 18 a s.c)) w) := by
  obtain ⟨c8, f8⟩ := h.at_ 8 (.bool s.c) rfl
  have H := Lib.hid h
  have h1 : bits .and .i64 a 1 = a % 2 := bits_mask .i64 32 (by decide) i64_wraps32 1 (by decide) a ha.1 (by omega)
  have HP : Hid (Mc.shX 18 a s.c = bits .or .i64 (a / 2) 32768 % 65536) := by
    show Mc.shX 18 a s.c = _
    rw [hc]; rfl
  rw [hc] at c8
  clear h hc
  obtain ⟨a0, a1⟩ := ha
  go_enter Try.func79, Try.ntmps79
  go_wp2_with (first | (go_at_call 93; refine (mshown_ok B L s ov _ _ _ H.out).mono ?_; rintro e w1 ⟨rfl, hm1, hb1⟩; have M1 := Lib.hid hm1; have HB1 := Lib.hid hb1; clear hm1 hb1))
  go_ret
  exact ⟨by rw [HP.out]; rfl, by unfold Mc.sh; rw [HP.out]; exact M1.out, HB1.out⟩
theorem mshift_ok (B : Nat) (L : Lay) (s : St) (ov : Value) (op a : Int) (ha : 0 ≤ a ∧ a < 65536) (hop : 14 ≤ op ∧ op ≤ 18) (w : World) (h : Mach w B L s ov) :
    Calls Try.prog 79 #[mP L, .int .i64 op, .int .i64 a] w (Turn B L (Mc.sh op a s) ov (.int .i64 (Mc.shX op a s.c)) w) := by
  rcases (show op = 14 ∨ op = 15 ∨ op = 16 ∨ op = 17 ∨ op = 18 by omega) with rfl | rfl | rfl | rfl | rfl
  · exact mshl B L s ov a ha w h
  · cases hc : s.c
    · rw [← hc]; exact mrol0 B L s ov a ha hc w h
    · rw [← hc]; exact mrol1 B L s ov a ha hc w h
  · exact mshr B L s ov a ha w h
  · cases ht : decide (32767 < a)
    · exact msar0 B L s ov a ha ht w h
    · exact msar1 B L s ov a ha ht w h
  · cases hc : s.c
    · rw [← hc]; exact mror0 B L s ov a ha hc w h
    · rw [← hc]; exact mror1 B L s ov a ha hc w h
end Go.Proofs.Ytfjgnhmmakeaeaa
