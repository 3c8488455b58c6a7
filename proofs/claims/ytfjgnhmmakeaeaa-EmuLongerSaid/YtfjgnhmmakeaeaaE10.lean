/- The machine: shifts. -/
import Derived.Test.YtfjgnhmmakeaeaaE9
namespace Go.Proofs.Ytfjgnhmmakeaeaa
open Go.RowKit
set_option linter.unusedVariables false
set_option linter.unusedSimpArgs false
set_option maxRecDepth 100000
open Mc

/-- Moved by one place. -/
def Mc.shX (op a : Int) (c : Bool) : Int :=
  if op = 14 ∨ op = 15 then bits .or .i64 (a * 2) (if op = 15 ∧ c = true then 1 else 0) % 65536
  else bits .or .i64 (a / 2) (if op = 18 ∧ c = true ∨ op = 17 ∧ 32767 < a then 32768 else 0) % 65536
def Mc.shC (op a : Int) : Bool := if op = 14 ∨ op = 15 then decide (32767 < a) else a % 2 == 1
def Mc.sh (op a : Int) (s : St) : St := Mc.fl s (Mc.shC op a) (Mc.shX op a s.c) false
theorem i64_wraps32 (n : Int) (h₀ : 0 ≤ n) (h₁ : n < 2 ^ 32) : IntKind.i64.wrap n = n := by rw [IntKind.wrap_i64]; omega
set_option maxHeartbeats 4000000 in
theorem mshl (B : Nat) (L : Lay) (s : St) (ov : Value) (a : Int) (ha : 0 ≤ a ∧ a < 65536) (w : World) (h : Mach w B L s ov) :
    Calls Try.prog 79 #[mP L, .int .i64 14, .int .i64 a] w (Turn B L (Mc.sh 14 a s) ov (.int .i64 (Mc.shX 14 a s.c)) w) := by
  obtain ⟨c8, f8⟩ := h.at_ 8 (.bool s.c) rfl
  have H := Lib.hid h
  have h1 : bits .and .i64 a 1 = a % 2 := bits_mask .i64 32 (by decide) i64_wraps32 1 (by decide) a ha.1 (by omega)
  have HP : Hid (Mc.shX 14 a s.c = bits .or .i64 (a * 2) 0 % 65536) := by
    show Mc.shX 14 a s.c = _
    rfl
  
  clear h
  obtain ⟨a0, a1⟩ := ha
  go_enter Try.func79, Try.ntmps79
  go_wp2_with (first | (go_at_call 93; refine (mshown_ok B L s ov _ _ _ H.out).mono ?_; rintro e w1 ⟨rfl, hm1, hb1⟩; have M1 := Lib.hid hm1; have HB1 := Lib.hid hb1; clear hm1 hb1))
  go_ret
  exact ⟨by rw [HP.out]; rfl, by unfold Mc.sh; rw [HP.out]; exact M1.out, HB1.out⟩
set_option maxHeartbeats 4000000 in
theorem mrol0 (B : Nat) (L : Lay) (s : St) (ov : Value) (a : Int) (ha : 0 ≤ a ∧ a < 65536) (hc : s.c = false) (w : World) (h : Mach w B L s ov) :
    Calls Try.prog 79 #[mP L, .int .i64 15, .int .i64 a] w (Turn B L (Mc.sh 15 a s) ov (.int .i64 (Mc.shX 15 a s.c)) w) := by
  obtain ⟨c8, f8⟩ := h.at_ 8 (.bool s.c) rfl
  have H := Lib.hid h
  have h1 : bits .and .i64 a 1 = a % 2 := bits_mask .i64 32 (by decide) i64_wraps32 1 (by decide) a ha.1 (by omega)
  have HP : Hid (Mc.shX 15 a s.c = bits .or .i64 (a * 2) 0 % 65536) := by
    show Mc.shX 15 a s.c = _
    rw [hc]; rfl
  rw [hc] at c8
  clear h hc
  obtain ⟨a0, a1⟩ := ha
  go_enter Try.func79, Try.ntmps79
  go_wp2_with (first | (go_at_call 93; refine (mshown_ok B L s ov _ _ _ H.out).mono ?_; rintro e w1 ⟨rfl, hm1, hb1⟩; have M1 := Lib.hid hm1; have HB1 := Lib.hid hb1; clear hm1 hb1))
  go_ret
  exact ⟨by rw [HP.out]; rfl, by unfold Mc.sh; rw [HP.out]; exact M1.out, HB1.out⟩
set_option maxHeartbeats 4000000 in
theorem mrol1 (B : Nat) (L : Lay) (s : St) (ov : Value) (a : Int) (ha : 0 ≤ a ∧ a < 65536) (hc : s.c = true) (w : World) (h : Mach w B L s ov) :
    Calls Try.prog 79 #[mP L, .int .i64 15, .int .i64 a] w (Turn B L (Mc.sh 15 a s) ov (.int .i64 (Mc.shX 15 a s.c)) w) := by
  obtain ⟨c8, f8⟩ := h.at_ 8 (.bool s.c) rfl
  have H := Lib.hid h
  have h1 : bits .and .i64 a 1 = a % 2 := bits_mask .i64 32 (by decide) i64_wraps32 1 (by decide) a ha.1 (by omega)
  have HP : Hid (Mc.shX 15 a s.c = bits .or .i64 (a * 2) 1 % 65536) := by
    show Mc.shX 15 a s.c = _
    rw [hc]; rfl
  rw [hc] at c8
  clear h hc
  obtain ⟨a0, a1⟩ := ha
  go_enter Try.func79, Try.ntmps79
  go_wp2_with (first | (go_at_call 93; refine (mshown_ok B L s ov _ _ _ H.out).mono ?_; rintro e w1 ⟨rfl, hm1, hb1⟩; have M1 := Lib.hid hm1; have HB1 := Lib.hid hb1; clear hm1 hb1))
  go_ret
  exact ⟨by rw [HP.out]; rfl, by unfold Mc.sh; rw [HP.out]; exact M1.out, HB1.out⟩
set_option maxHeartbeats 4000000 in
theorem mshr (B : Nat) (L : Lay) (s : St) (ov : Value) (a : Int) (ha : 0 ≤ a ∧ a < 65536) (w : World) (h : Mach w B L s ov) :
    Calls Try.prog 79 #[mP L, .int .i64 16, .int .i64 a] w (Turn B L (Mc.sh 16 a s) ov (.int .i64 (Mc.shX 16 a s.c)) w) := by
  obtain ⟨c8, f8⟩ := h.at_ 8 (.bool s.c) rfl
  have H := Lib.hid h
  have h1 : bits .and .i64 a 1 = a % 2 := bits_mask .i64 32 (by decide) i64_wraps32 1 (by decide) a ha.1 (by omega)
  have HP : Hid (Mc.shX 16 a s.c = bits .or .i64 (a / 2) 0 % 65536) := by
    show Mc.shX 16 a s.c = _
    rfl
  
  clear h
  obtain ⟨a0, a1⟩ := ha
  go_enter Try.func79, Try.ntmps79
  go_wp2_with (first | (go_at_call 93; refine (mshown_ok B L s ov _ _ _ H.out).mono ?_; rintro e w1 ⟨rfl, hm1, hb1⟩; have M1 := Lib.hid hm1; have HB1 := Lib.hid hb1; clear hm1 hb1))
  go_ret
  exact ⟨by rw [HP.out]; rfl, by unfold Mc.sh; rw [HP.out]; exact M1.out, HB1.out⟩
set_option maxHeartbeats 4000000 in
theorem msar0 (B : Nat) (L : Lay) (s : St) (ov : Value) (a : Int) (ha : 0 ≤ a ∧ a < 65536) (ht : decide (32767 < a) = false) (w : World) (h : Mach w B L s ov) :
    Calls Try.prog 79 #[mP L, .int .i64 17, .int .i64 a] w (Turn B L (Mc.sh 17 a s) ov (.int .i64 (Mc.shX 17 a s.c)) w) := by
  obtain ⟨c8, f8⟩ := h.at_ 8 (.bool s.c) rfl
  have H := Lib.hid h
  have h1 : bits .and .i64 a 1 = a % 2 := bits_mask .i64 32 (by decide) i64_wraps32 1 (by decide) a ha.1 (by omega)
  have HP : Hid (Mc.shX 17 a s.c = bits .or .i64 (a / 2) 0 % 65536) := by
    show Mc.shX 17 a s.c = _
    unfold Mc.shX; simp only [decide_eq_false_iff_not] at ht; simp [ht]
  
  clear h
  obtain ⟨a0, a1⟩ := ha
  go_enter Try.func79, Try.ntmps79
  go_wp2_with (first | (go_at_call 93; refine (mshown_ok B L s ov _ _ _ H.out).mono ?_; rintro e w1 ⟨rfl, hm1, hb1⟩; have M1 := Lib.hid hm1; have HB1 := Lib.hid hb1; clear hm1 hb1))
  go_ret
  exact ⟨by rw [HP.out]; rfl, by unfold Mc.sh; rw [HP.out]; exact M1.out, HB1.out⟩
set_option maxHeartbeats 4000000 in
theorem msar1 (B : Nat) (L : Lay) (s : St) (ov : Value) (a : Int) (ha : 0 ≤ a ∧ a < 65536) (ht : decide (32767 < a) = true) (w : World) (h : Mach w B L s ov) :
    Calls Try.prog 79 #[mP L, .int .i64 17, .int .i64 a] w (Turn B L (Mc.sh 17 a s) ov (.int .i64 (Mc.shX 17 a s.c)) w) := by
  obtain ⟨c8, f8⟩ := h.at_ 8 (.bool s.c) rfl
  have H := Lib.hid h
  have h1 : bits .and .i64 a 1 = a % 2 := bits_mask .i64 32 (by decide) i64_wraps32 1 (by decide) a ha.1 (by omega)
  have HP : Hid (Mc.shX 17 a s.c = bits .or .i64 (a / 2) 32768 % 65536) := by
    show Mc.shX 17 a s.c = _
    unfold Mc.shX; simp only [decide_eq_true_eq] at ht; simp [ht]
  
  clear h
  obtain ⟨a0, a1⟩ := ha
  go_enter Try.func79, Try.ntmps79
  go_wp2_with (first | (go_at_call 93; refine (mshown_ok B L s ov _ _ _ H.out).mono ?_; rintro e w1 ⟨rfl, hm1, hb1⟩; have M1 := Lib.hid hm1; have HB1 := Lib.hid hb1; clear hm1 hb1))
  go_ret
  exact ⟨by rw [HP.out]; rfl, by unfold Mc.sh; rw [HP.out]; exact M1.out, HB1.out⟩
set_option maxHeartbeats 4000000 in
theorem mror0 (B : Nat) (L : Lay) (s : St) (ov : Value) (a : Int) (ha : 0 ≤ a ∧ a < 65536) (hc : s.c = false) (w : World) (h : Mach w B L s ov) :
    Calls Try.prog 79 #[mP L, .int .i64 18, .int .i64 a] w (Turn B L (Mc.sh 18 a s) ov (.int .i64 (Mc.shX 18 a s.c)) w) := by
  obtain ⟨c8, f8⟩ := h.at_ 8 (.bool s.c) rfl
  have H := Lib.hid h
  have h1 : bits .and .i64 a 1 = a % 2 := bits_mask .i64 32 (by decide) i64_wraps32 1 (by decide) a ha.1 (by omega)
  have HP : Hid (Mc.shX 18 a s.c = bits .or .i64 (a / 2) 0 % 65536) := by
    show Mc.shX 18 a s.c = _
    rw [hc]; rfl
  rw [hc] at c8
  clear h hc
  obtain ⟨a0, a1⟩ := ha
  go_enter Try.func79, Try.ntmps79
  go_wp2_with (first | (go_at_call 93; refine (mshown_ok B L s ov _ _ _ H.out).mono ?_; rintro e w1 ⟨rfl, hm1, hb1⟩; have M1 := Lib.hid hm1; have HB1 := Lib.hid hb1; clear hm1 hb1))
  go_ret
  exact ⟨by rw [HP.out]; rfl, by unfold Mc.sh; rw [HP.out]; exact M1.out, HB1.out⟩
set_option maxHeartbeats 4000000 in
theorem mror1 (B : Nat) (L : Lay) (s : St) (ov : Value) (a : Int) (ha : 0 ≤ a ∧ a < 65536) (hc : s.c = true) (w : World) (h : Mach w B L s ov) :
    Calls Try.prog 79 #[mP L, .int .i64 18, .int .i64 a] w (Turn B L (Mc.sh 18 a s) ov (.int .i64 (Mc.shX 18 a s.c)) w) := by
  obtain ⟨c8, f8⟩ := h.at_ 8 (.bool s.c) rfl
  have H := Lib.hid h
  have h1 : bits .and .i64 a 1 = a % 2 := bits_mask .i64 32 (by decide) i64_wraps32 1 (by decide) a ha.1 (by omega)
  have HP : Hid (Mc.shX 18 a s.c = bits .or .i64 (a / 2) 32768 % 65536) := by
    show Mc.shX 18 a s.c = _
    rw [hc]; rfl
  rw [hc] at c8
  clear h hc
  obtain ⟨a0, a1⟩ := ha
  go_enter Try.func79, Try.ntmps79
  go_wp2_with (first | (go_at_call 93; refine (mshown_ok B L s ov _ _ _ H.out).mono ?_; rintro e w1 ⟨rfl, hm1, hb1⟩; have M1 := Lib.hid hm1; have HB1 := Lib.hid hb1; clear hm1 hb1))
  go_ret
  exact ⟨by rw [HP.out]; rfl, by unfold Mc.sh; rw [HP.out]; exact M1.out, HB1.out⟩
theorem mshift_ok (B : Nat) (L : Lay) (s : St) (ov : Value) (op a : Int) (ha : 0 ≤ a ∧ a < 65536) (hop : 14 ≤ op ∧ op ≤ 18) (w : World) (h : Mach w B L s ov) :
    Calls Try.prog 79 #[mP L, .int .i64 op, .int .i64 a] w (Turn B L (Mc.sh op a s) ov (.int .i64 (Mc.shX op a s.c)) w) := by
  rcases (show op = 14 ∨ op = 15 ∨ op = 16 ∨ op = 17 ∨ op = 18 by omega) with rfl | rfl | rfl | rfl | rfl
  · exact mshl B L s ov a ha w h
  · cases hc : s.c
    · rw [← hc]; exact mrol0 B L s ov a ha hc w h
    · rw [← hc]; exact mrol1 B L s ov a ha hc w h
  · exact mshr B L s ov a ha w h
  · cases ht : decide (32767 < a)
    · exact msar0 B L s ov a ha ht w h
    · exact msar1 B L s ov a ha ht w h
  · cases hc : s.c
    · rw [← hc]; exact mror0 B L s ov a ha hc w h
    · rw [← hc]; exact mror1 B L s ov a ha hc w h
end Go.Proofs.Ytfjgnhmmakeaeaa
