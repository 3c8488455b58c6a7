/- Walks of the reckoner with numbers of any size: div, where it is short. -/
import Derived.Test.YtkmcniaaecijdaaNA
import Derived.Deep.RegionHeld3
import Derived.Deep.RegionWith
namespace Go.Proofs.Ytkmcniaaecijdaa
open Go.RowKit
set_option linter.unusedVariables false
set_option linter.unusedSimpArgs false
set_option maxRecDepth 100000

theorem Nm.drewN {w : World} {v : Value} {n : Nat} (h : Nm w v n) (m : Nat) : Nm (w.drewN m) v n := h.below (below_drewN (Below.refl _ _) m)
theorem Nm.zero' (w : World) : Nm w (.slice none 0 0) 0 := ⟨Rd.nil w 1, Tp.none _ _ _⟩
theorem N.ln_ne {n : Nat} (h : n ≠ 0) : ((N.ln n : Int) == 0) = false := by have := N.ln_pos h; simp; omega
/-- What div gives. -/
def DivOk (w : World) (a b : Nat) (e : Ending) (w' : World) : Prop := ∃ q r, e = .returned (.tuple #[q, r]) ∧ Below w.heap.size w w' ∧ Nm w' q (a / b) ∧ Nm w' r (a % b)
set_option maxHeartbeats 2000000 in
theorem div_less (u v : Value) (a b : Nat) (hab : a < b) (ha : Sm a) (w : World) (hu : Nm w u a) (hv : Nm w v b) :
    Calls Try.prog 114 #[u, v] w (DivOk w a b) := by
  have CC : Hid (∀ w : World, Nm w u a → Nm w v b → Calls Try.prog 86 #[u, v] w fun e w' => e = .returned (.int .i64 (-1)) ∧ ∃ m, w' = w.drewN m) := fun w h1 h2 => by
    rw [← cmpI_lt hab]; exact cmp_ok u v a b w h1 h2
  have CT : Hid (∀ w : World, Nm w u a → Calls Try.prog 98 #[u] w fun e w' => ∃ r, e = .returned r ∧ Below w.heap.size w w' ∧ Nm w' r a) := fun w h => twin_ok u a ha w h
  have hn := N.ln_ne (show b ≠ 0 by omega)
  have HU := Lib.hid hu; have HV := Lib.hid hv
  have HAB := Lib.hid hab
  obtain ⟨hm, A, cap, rfl, _, _⟩ := hv.open_
  unfold maxLen at hm
  clear hu hv hab
  go_enter Try.func114, Try.ntmps114
  go_wp2_with (first | (go_at_call 86; refine (CC.out _ HU.out HV.out).mono ?_; rintro e w1 ⟨rfl, m, rfl⟩) | (go_at_call 98; refine (CT.out _ (HU.out.drewN m)).mono ?_; rintro e w2 ⟨r, rfl, hb2, hr⟩; have HB := Lib.hid hb2; have HR := Lib.hid hr; clear hb2 hr))
  go_ret2
  refine ⟨_, r, rfl, Ext.undrewN HB.out, ?_, ?_⟩
  · rw [Nat.div_eq_of_lt HAB.out]; exact Nm.zero' _
  · rw [Nat.mod_eq_of_lt HAB.out]; exact HR.out
theorem N.lt_two {a : Nat} (h : N.ln a ≤ 2) : a < 18446744073709551616 := by
  have h1 := N.lt_ln a
  have h2 := Nat.pow_le_pow_right N.B_pos h
  have : N.B ^ 2 = 18446744073709551616 := by decide
  omega
set_option maxHeartbeats 4000000 in
theorem div_plain (u v : Value) (a b : Nat) (hab : b ≤ a) (hb0 : b ≠ 0) (hl : N.ln a ≤ 2) (w : World) (hu : Nm w u a) (hv : Nm w v b) :
    Calls Try.prog 114 #[u, v] w (DivOk w a b) := by
  have ha64 := N.lt_two hl
  have hb64 : b < 18446744073709551616 := by omega
  have CC : Hid (∀ w : World, Nm w u a → Nm w v b → Calls Try.prog 86 #[u, v] w fun e w' => ∃ c : Int, 0 ≤ c ∧ e = .returned (.int .i64 c) ∧ ∃ m, w' = w.drewN m) := fun w h1 h2 => by
    refine (cmp_ok u v a b w h1 h2).mono ?_
    rintro e w' ⟨rfl, hw⟩
    refine ⟨_, ?_, rfl, hw⟩
    unfold cmpI; rw [if_neg (by omega)]; split <;> omega
  have CA : Hid (∀ w : World, Nm w u a → Calls Try.prog 119 #[u] w fun e w' => e = .returned (.int .u64 (a : Int)) ∧ w = w') := fun w h => by
    have := plain_ok u a w h; rwa [Nat.mod_eq_of_lt ha64] at this
  have CB : Hid (∀ w : World, Nm w v b → Calls Try.prog 119 #[v] w fun e w' => e = .returned (.int .u64 (b : Int)) ∧ w = w') := fun w h => by
    have := plain_ok v b w h; rwa [Nat.mod_eq_of_lt hb64] at this
  have hn := N.ln_ne hb0
  have HU := Lib.hid hu; have HV := Lib.hid hv
  obtain ⟨hm, A, cap, rfl, _, _⟩ := hv.open_
  obtain ⟨hm2, A2, cap2, rfl, _, _⟩ := hu.open_
  unfold maxLen at hm hm2
  have nl : decide ((N.ln a : Int) ≤ 2) = true := by simp; omega
  have b1 : 0 < b := by omega
  obtain ⟨Q, hQ⟩ : ∃ Q : Nat, Q = a / b := ⟨_, rfl⟩
  obtain ⟨R, hR⟩ : ∃ R : Nat, R = a % b := ⟨_, rfl⟩
  have hQ1 : (a : Int) / (b : Int) = (Q : Int) := by rw [hQ]; simp
  have hR1 : (a : Int) % (b : Int) = (R : Int) := by rw [hR]; simp
  have bQ : Hid (Q < 18446744073709551616) := by
    show Q < 18446744073709551616
    have : Q ≤ a := by rw [hQ]; exact Nat.div_le_self _ _
    omega
  have bR : Hid (R < 18446744073709551616) := by
    show R < 18446744073709551616
    have : R ≤ a := by rw [hR]; exact Nat.mod_le _ _
    omega
  have hQ2 : IntKind.u64.wrap ((a : Int).tdiv (b : Int)) = (Q : Int) := by rw [IntWalk.u64_quo _ _ (by omega), hQ1]
  have hR2 : (a : Int).tmod (b : Int) = (R : Int) := by rw [Int.tmod_eq_emod_of_nonneg (by omega), hR1]
  have hQ3 : IntKind.u64.wrap (Q : Int) = (Q : Int) := by rw [IntKind.wrap_u64]; have := bQ.out; omega
  have hR3 : IntKind.u64.wrap (R : Int) = (R : Int) := by rw [IntKind.wrap_u64]; have := bR.out; omega
  have nb : ((b : Int) == 0) = false := by simp; omega
  have HQ := Lib.hid hQ; have HR := Lib.hid hR
  have a0 : (0 : Int) ≤ (a : Int) := by omega
  have WQ : Hid (∀ w : World, Calls Try.prog 115 #[.int .u64 (Q : Int)] w fun e w' => ∃ u, e = .returned u ∧ Below w.heap.size w w' ∧ Nm w' u Q) := fun w => words_ok Q bQ.out w
  have WR : Hid (∀ w : World, Calls Try.prog 115 #[.int .u64 (R : Int)] w fun e w' => ∃ u, e = .returned u ∧ Below w.heap.size w w' ∧ Nm w' u R) := fun w => words_ok R bR.out w
  have HAB := Lib.hid hab; have HL := Lib.hid hl
  clear hu hv hab hQ hR hl hb0 ha64 hb64
  go_enter Try.func114, Try.ntmps114
  go_wp2_with (first | (go_at_call 86; refine (CC.out _ HU.out HV.out).mono ?_; rintro e w1 ⟨c, hc, rfl, m, rfl⟩) | (go_at_call_of 119 (Value.slice A2 (N.ln a) cap2); refine (CA.out _ (HU.out.drewN m)).mono ?_; rintro e w2 ⟨rfl, rfl⟩) | (go_at_call_of 119 (Value.slice A (N.ln b) cap); refine (CB.out _ (HV.out.drewN m)).mono ?_; rintro e w2 ⟨rfl, rfl⟩))
  go_region_with (first | (go_at_call_of 115 (Value.int IntKind.u64 (Q : Int)); refine (WQ.out _).mono ?_; rintro e wq ⟨uq, rfl, hbq, hnq⟩; have HNQ := Lib.hid hnq; have HBQ := Lib.hid hbq; clear hnq hbq) | (go_at_call_of 115 (Value.int IntKind.u64 (R : Int)); refine (WR.out _).mono ?_; rintro e wr ⟨ur, rfl, hbr, hnr⟩; have HNR := Lib.hid hnr; have HBR := Lib.hid hbr; clear hnr hbr))
  all_goals
    go_wp2
    go_ret2
    exact ⟨uq, ur, rfl, Ext.trans (Ext.trans (below_drewN (Below.refl w.heap.size w) (m + 1)) HBQ.out) HBR.out, by rw [← HQ.out]; exact HNQ.out.below HBR.out, by rw [← HR.out]; exact HNR.out⟩
theorem rd_lit1 (w : World) (x : Value) : Rd (w.alloc (.cells #[x] 122)) 1 (.slice (some ⟨w.heap.size, 0, none⟩) 1 1) 1 [x] ∧ Tp (w.alloc (.cells #[x] 122)) (.slice (some ⟨w.heap.size, 0, none⟩) 1 1) := by
  refine ⟨?_, Tp.alloc _ _ _ _ _ _⟩
  refine ⟨rfl, by decide, some ⟨w.heap.size, 0, none⟩, 1, rfl, Nat.le_refl _, fun _ => ⟨w.heap.size, 0, rfl, fun j u hu => ?_⟩⟩
  rcases j with _ | j
  · simp at hu; subst hu; simp
  · simp at hu
theorem N.one_word {x : Nat} (hx : x < 4294967296) : N.lv x 1 = [(x : Int)] := by
  have e0 : N.wd x 0 = x := by rw [N.wd_zero, N.B_eq]; omega
  unfold N.lv
  simp [List.range_succ, e0]
theorem N.ln_one {b : Nat} (h : N.ln b = 1) : b < 4294967296 ∧ N.wd b 0 = b := by
  have h1 := N.lt_ln b
  rw [h, Nat.pow_one] at h1
  refine ⟨h1, ?_⟩
  rw [N.wd_zero, Nat.mod_eq_of_lt h1]
set_option maxHeartbeats 4000000 in
theorem div_small (u v : Value) (a b : Nat) (hab : b ≤ a) (hl : 2 < N.ln a) (hlb : N.ln b = 1) (ha : Sm a) (w : World) (hu : Nm w u a) (hv : Nm w v b) :
    Calls Try.prog 114 #[u, v] w (DivOk w a b) := by
  obtain ⟨hb32, hwd⟩ := N.ln_one hlb
  have hb0 : b ≠ 0 := by intro e; subst e; rw [N.ln_zero] at hlb; omega
  have CC : Hid (∀ w : World, Nm w u a → Nm w v b → Calls Try.prog 86 #[u, v] w fun e w' => ∃ c : Int, 0 ≤ c ∧ e = .returned (.int .i64 c) ∧ ∃ m, w' = w.drewN m) := fun w h1 h2 => by
    refine (cmp_ok u v a b w h1 h2).mono ?_
    rintro e w' ⟨rfl, hw⟩
    refine ⟨_, ?_, rfl, hw⟩
    unfold cmpI; rw [if_neg (by omega)]; split <;> omega
  have CS : Hid (∀ w : World, Nm w u a → Calls Try.prog 120 #[u, .int .u32 (b : Int)] w fun e w' => ∃ q, e = .returned (.tuple #[q, .int .u32 ((a % b : Nat) : Int)]) ∧ Below w.heap.size w w' ∧ Nm w' q (a / b)) := fun w h => small_ok u a b (by omega) hb32 ha w h
  obtain ⟨R, hR⟩ : ∃ R : Nat, R = a % b := ⟨_, rfl⟩
  have bR : R < 4294967296 := by have := Nat.mod_lt a (show 0 < b by omega); omega
  have HT : Hid (∀ (w : World) (v : Value), (Rd w 1 v 1 [.int .u32 (R : Int)] ∧ Tp w v) → Calls Try.prog 116 #[v] w fun e w' => ∃ u, e = .returned u ∧ w = w' ∧ Nm w u R) := fun w v hv =>
    trim_ok v 1 R (by rw [Nat.pow_one]; exact bR) w (by rw [N.one_word bR]; exact hv)
  have hn := N.ln_ne hb0
  have HU := Lib.hid hu; have HV := Lib.hid hv
  obtain ⟨hm, A, cap, rfl, _, hcell⟩ := hv.open_
  obtain ⟨hm2, A2, cap2, rfl, _, _⟩ := hu.open_
  unfold maxLen at hm hm2
  obtain ⟨bx, ox, rfl, hc⟩ := hcell (by omega)
  have c0 := hc 0 (by omega)
  rw [hwd, Nat.add_zero] at c0
  have nl : decide ((N.ln a : Int) ≤ 2) = false := by simp; omega
  have nb : ((N.ln b : Int) == 1) = true := by simp; omega
  have h1 : 0 < N.ln b := by omega
  have C0 := Lib.hid c0
  rw [← hR] at CS
  have HR := Lib.hid hR
  clear hu hv hab hR hl hb0 hlb hwd hc c0 hcell
  go_enter Try.func114, Try.ntmps114
  go_wp2_with (first | (go_at_call 86; refine (CC.out _ HU.out HV.out).mono ?_; rintro e w1 ⟨c, hc, rfl, m, rfl⟩; have c0 := C0.out) | (go_at_call 120; refine (CS.out _ (HU.out.drewN m)).mono ?_; rintro e w2 ⟨q, rfl, hb2, hq⟩; have HB2 := Lib.hid hb2; have HQ := Lib.hid hq; clear hb2 hq c0) | (go_at_call 116; refine (HT.out _ _ (rd_lit1 _ _)).mono ?_; rintro e w3 ⟨r, rfl, rfl, hr⟩; have HRR := Lib.hid hr; clear hr))
  go_ret2
  refine ⟨q, r, rfl, Ext.alloc (Ext.undrewN HB2.out) _, ?_, ?_⟩
  · exact HQ.out.below (Ext.alloc (Below.refl _ _) _)
  · rw [← HR.out]; exact HRR.out
end Go.Proofs.Ytkmcniaaecijdaa
