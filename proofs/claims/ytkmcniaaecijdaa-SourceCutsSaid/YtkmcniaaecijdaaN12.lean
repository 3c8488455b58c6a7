/- Walk of div, where the divisor is a power of the base. -/
import Derived.Test.YtkmcniaaecijdaaN11
import Derived.Laws.CopyOwn
namespace Go.Proofs.Ytkmcniaaecijdaa
open Go.RowKit
set_option linter.unusedVariables false
set_option linter.unusedSimpArgs false
set_option maxRecDepth 100000

theorem arr_list (n L : Nat) : (arr n L).toList = (N.lv n L).map (Value.int .u32) := by simp [arr]
theorem splice_arr {n L M : Nat} (hn : n < N.B ^ M) (h : M ≤ L) : (splice (arr 0 L).toList 0 (arr n M).toList).toArray = arr n L := by
  have hl : (arr n M).toList.length = M := by simp [arr, N.lv_length]
  have hl0 : (arr 0 L).toList.length = L := by simp [arr, N.lv_length]
  apply Array.toList_inj.1
  rw [List.toList_toArray]
  unfold splice
  rw [List.take_zero, List.nil_append, Nat.zero_add, hl]
  apply List.ext_getElem?
  intro i
  rw [List.getElem?_append, hl, List.getElem?_drop]
  by_cases h1 : i < M
  · rw [if_pos h1, Array.getElem?_toList, Array.getElem?_toList, arr_get h1, arr_get (by omega)]
  · rw [if_neg h1, show M + (i - M) = i by omega]
    by_cases h2 : i < L
    · rw [Array.getElem?_toList, Array.getElem?_toList, arr_get h2, arr_get h2, N.wd_high hn (by omega)]; simp [N.wd]
    · rw [List.getElem?_eq_none (by omega), List.getElem?_eq_none (by simp [arr, N.lv_length]; omega)]

theorem arr_self {n k L : Nat} (hk : k < L) : (arr n L).setIfInBounds k (.int .u32 (N.wd n k : Nat)) = arr n L := by
  rw [arr_set (N.wd_lt n k) hk]
  apply arr_congr
  have h : ∀ A W g X : Nat, X = A + W + g → X - W + W = X := by intros; omega
  exact h _ _ _ _ (N.parts n k)
theorem blk_list {w : World} {g n L : Nat} {t : TypeId} (h : Blk w g t (arr n L)) : w.heap[g]? = some (.cells (arr n L).toList.toArray t (0, 0)) := h
theorem arr_len {n M LU : Nat} (h : M ≤ LU) : (arr n M).toList.length = Nat.min M LU := by
  rw [arr_list, List.length_map, N.lv_length]; exact (Nat.min_eq_left h).symm
theorem arr_fit {m n M LU : Nat} (h : M ≤ LU) : 0 + (arr n M).toList.length ≤ (arr m LU).toList.length := by
  rw [arr_list, List.length_map, N.lv_length, arr_list, List.length_map, N.lv_length]; omega
theorem arr_one (n M : Nat) : ∀ v ∈ (arr n M).toList, v.oneCell' = true := by rw [arr_list]; exact one_words n M
theorem blk_spliced {w : World} {g n M LU : Nat} {t : TypeId} (h : Hid (w.heap[g]? = some (.cells (splice (arr 0 LU).toList 0 (arr n M).toList).toArray t (0, 0)))) (hn : n < N.B ^ M) (hM : M ≤ LU) : Blk w g t (arr n LU) := by
  have := h.out
  rw [splice_arr hn hM] at this
  exact this
theorem left_pow (v : Value) (K n : Nat) (hK : K ≤ 20) (hn : n = K + 1) (w : World) (hv : Nm w v (N.B ^ K)) :
    Calls Try.prog 111 #[v, .int .u64 31] w fun e w' => ∃ b o c, e = .returned (.slice (some ⟨b, o, none⟩) n c) ∧ Below w.heap.size w w' ∧ ∀ j, j < n → w'.cell? ⟨b, o + j, none⟩ = some (.int .u32 (N.wd (N.B ^ K * 2 ^ 31) j : Nat)) := by
  refine (left_ok v (N.B ^ K) 31 (by omega) (by show N.ln _ ≤ 30; rw [N.ln_pow]; omega) w hv 31 rfl).mono ?_
  rintro e w' ⟨u, rfl, hb, hu⟩
  obtain ⟨_, A, cap, rfl, _, hcell⟩ := hu.open_
  rw [N.ln_top31, ← hn] at hcell ⊢
  obtain ⟨b, o, rfl, hc⟩ := hcell (by omega)
  exact ⟨b, o, cap, rfl, hb, hc⟩
theorem left_any31 (v : Value) (a L : Nat) (hL : L = N.ln a) (hL30 : L ≤ 28) (hL0 : 0 < L) (w : World) (hv : Nm w v a) :
    Calls Try.prog 111 #[v, .int .u64 31] w fun e w' => ∃ b o M c, e = .returned (.slice (some ⟨b, o, none⟩) M c) ∧ Below w.heap.size w w' ∧ M ≤ L + 1 ∧ 2 ^ 31 * a < N.B ^ M ∧ (∀ j v, ((arr (2 ^ 31 * a) M).toList)[j]? = some v → w'.cell? ((⟨b, o, none⟩ : Addr).add j) = some v) := by
  refine (left_ok v a 31 (by omega) (by show N.ln _ ≤ 30; omega) w hv 31 rfl).mono ?_
  rintro e w' ⟨u, rfl, hb, hu⟩
  obtain ⟨_, A, cap, rfl, _, hcell⟩ := hu.open_
  have ha0 : a ≠ 0 := by intro e; subst e; rw [N.ln_zero] at hL; omega
  have h0 : a * 2 ^ 31 ≠ 0 := Nat.mul_ne_zero ha0 (by decide)
  obtain ⟨b, o, rfl, hc⟩ := hcell (N.ln_pos h0)
  refine ⟨b, o, _, cap, rfl, hb, ?_, ?_, fun j v hj => ?_⟩
  · refine N.ln_le ?_
    rw [Nat.pow_succ, hL]
    exact Nat.mul_lt_mul'' (N.lt_ln a) (by decide)
  · rw [Nat.mul_comm]; exact N.lt_ln _
  · rw [Nat.mul_comm] at hj
    rw [arr_list, List.getElem?_map] at hj
    by_cases hjl : j < N.ln (a * 2 ^ 31)
    · rw [N.lv_get hjl] at hj
      simp only [Option.map_some, Option.some.injEq] at hj
      subst hj
      rcases j with _ | j
      · simpa [Addr.add] using hc 0 hjl
      · simpa [Addr.add] using hc (j + 1) hjl
    · rw [List.getElem?_eq_none (by rw [N.lv_length]; omega)] at hj
      cases hj

set_option maxHeartbeats 40000000 in
theorem div_pow_raw (A A2 : Option Addr) (cap cap2 a K L n m LU MQ : Nat) (hL : L = N.ln a) (hL3 : 3 ≤ L) (hL30 : L ≤ 28) (hK1 : 1 ≤ K) (hK20 : K ≤ 20) (hn : n = K + 1) (hm : L = m + K) (hLU : LU = L + 2) (hMQ : MQ = m + 1) (hab : N.B ^ K ≤ a) (w : World)
    (hu : Nm w (.slice A L cap) a) (hv : Nm w (.slice A2 n cap2) (N.B ^ K)) :
    Calls Try.prog 114 #[.slice A L cap, .slice A2 n cap2] w (DivOk w a (N.B ^ K)) := by
  obtain ⟨i0, hi, hzz, hzo, hz2⟩ := info_parts Try.infoU32
  have hsz : (Try.prog.info? 122).map (·.size) = some 1 := by kernel_rfl
  have HI : Hid (i0.bytes * LU ≤ 281474976710656) := by show i0.bytes * LU ≤ 281474976710656; rw [hz2]; omega
  have HI2 : Hid (i0.bytes * MQ ≤ 281474976710656) := by show i0.bytes * MQ ≤ 281474976710656; rw [hz2]; omega
  have HSA : Hid (Sm a) := by show N.ln a ≤ 30; omega
  have CC : Hid (∀ w : World, Nm w (.slice A L cap) a → Nm w (.slice A2 n cap2) (N.B ^ K) → Calls Try.prog 86 #[.slice A L cap, .slice A2 n cap2] w fun e w' => ∃ c : Int, 0 ≤ c ∧ e = .returned (.int .i64 c) ∧ ∃ m, w' = w.drewN m) := fun w h1 h2 => by
    refine (cmp_ok _ _ a (N.B ^ K) w h1 h2).mono ?_
    rintro e w' ⟨rfl, hw⟩
    refine ⟨_, ?_, rfl, hw⟩
    unfold cmpI; rw [if_neg (by omega)]; split <;> omega
  have CL : Hid (∀ w : World, Nm w (.slice A2 n cap2) (N.B ^ K) → Calls Try.prog 121 #[.slice A2 n cap2] w fun e w' => ∃ T : Int, e = .returned (.int .i64 T) ∧ w = w' ∧ 1 ≤ T ∧ T ≤ 1000 ∧ IntKind.i64.wrap (T - 1) = T - 1 ∧ (T - 1).tmod 32 = 0 ∧ (T - 1) % 32 = 0) := fun w h => by
    refine (length_pow _ K hK20 w h).mono ?_
    rintro e w' ⟨rfl, rfl⟩
    refine ⟨_, rfl, rfl, by omega, by omega, IntWalk.i64_in _ (by omega), ?_, by omega⟩
    rw [Int.tmod_eq_emod_of_nonneg (by omega)]; omega
  have CV : Hid (∀ w : World, Nm w (.slice A2 n cap2) (N.B ^ K) → _) := fun w h => left_pow (.slice A2 n cap2) K n hK20 hn w h
  have CA : Hid (∀ w : World, Nm w (.slice A L cap) a → _) := fun w h => left_any31 (.slice A L cap) a L hL hL30 (by omega) w h
  have nn : ((n : Int) == 0) = false := by simp; omega
  have nl : decide ((L : Int) ≤ 2) = false := by simp; omega
  have n1 : ((n : Int) == 1) = false := by simp; omega
  have eLU : (L : Int) + 2 = (LU : Int) := by omega
  have eM : (LU : Int) - (n : Int) - 1 = (m : Int) := by omega
  have eMQ : (m : Int) + 1 = (MQ : Int) := by omega
  have bn : n ≤ 21 := by omega
  have bLU : LU ≤ 30 := by omega
  have bMQ : MQ ≤ 30 := by omega
  have hnLU : (n : Int) ≤ (LU : Int) := by omega
  have HU := Lib.hid hu; have HV := Lib.hid hv; have HL := Lib.hid hL; have HN := Lib.hid hn; have HM := Lib.hid hm; have HLU := Lib.hid hLU; have HMQ := Lib.hid hMQ; have HAB := Lib.hid hab
  clear hu hv hL hn hm hLU hMQ hab hz2
  go_enter Try.func114, Try.ntmps114
  go_wp2_with (first | (go_at_call 86; refine (CC.out _ HU.out HV.out).mono ?_; rintro e w1 ⟨c, hc, rfl, mm, rfl⟩) | (go_at_call 121; refine (CL.out _ (HV.out.drewN mm)).mono ?_; rintro e w2 ⟨T, rfl, rfl, hT1, hT2, hT3, hT4, hT5⟩) | (go_at_call_of 111 (Value.slice A2 n cap2); refine (CV.out _ (HV.out.drewN mm)).mono ?_; rintro e w3 ⟨vb, vo, vc, rfl, hb3, hcv⟩; have HB3 := Lib.hid hb3; have HCV := Lib.hid hcv; clear hb3 hcv hT1 hT2 hT3 hT4 hT5 hc) | (at_make; (with_reducible refine wpList_make_blk (o := ⟨some 80, _, _, _, _, _⟩) _ rfl _ _ 94 rfl 122 i0 (.int .u32 0) Try.underlying94 hi hzz hzo rfl .i64 .i64 LU rfl rfl HI.out (by omega) ?_); intro w4 hblk hbw hsz; rw [← arr_zero] at hblk; have HK4 := Lib.hid hblk; have HB4 := Lib.hid hbw; have hlt4 : w3.heap.size < w4.heap.size := (by omega); clear hblk hbw hsz) | (go_at_call_of 111 (Value.slice A L cap); refine (CA.out _ (((HU.out.drewN mm).below HB3.out).below HB4.out)).mono ?_; rintro e w5 ⟨ab, ao, M, ac, rfl, hb5, hM1, hM2, hca⟩; have HB5 := Lib.hid hb5; have HCA := Lib.hid hca; have HM1 := Lib.hid hM1; have HM2 := Lib.hid hM2; have HK5 := Lib.hid (HK4.out.keep hb5); clear hb5 hca hM1 hM2) | (with_reducible refine wpList_copy_splice (o := ⟨some 85, _, _, _, _, _⟩) rfl _ _ 94 94 rfl 122 Try.underlying94 hsz (some ⟨w3.heap.size, 0, none⟩) (some ⟨ab, ao, none⟩) LU LU M ac rfl rfl w3.heap.size 0 (arr 0 LU).toList 122 (blk_list HK5.out) (arr (2 ^ 31 * a) M).toList (arr_len (by have := HM1.out; have := HLU.out; omega)) (fun _ => ⟨rfl, _, rfl, HCA.out⟩) (arr_fit (by have := HM1.out; have := HLU.out; omega)) (arr_one _ _) w3.heap.size w5 (Below.refl _ _) (Nat.le_refl _) ?_; intro w6 hk6 hb6; have HK6 := Lib.hid (blk_spliced hk6 HM2.out (by have := HM1.out; have := HLU.out; omega)); have HB6 := Lib.hid hb6; clear hk6 hb6) | (at_make; (with_reducible refine wpList_make_blk (o := ⟨some 95, _, _, _, _, _⟩) _ rfl _ _ 94 rfl 122 i0 (.int .u32 0) Try.underlying94 hi hzz hzo rfl .i64 .i64 MQ rfl rfl HI2.out (by omega) ?_); intro w7 hblk hbw hsz; rw [← arr_zero] at hblk; have HK7 := Lib.hid hblk; have HB7 := Lib.hid hbw; have hlt7 : w6.heap.size < w7.heap.size := (by omega); clear hblk hbw hsz))
  have HB37 : Hid (Below w3.heap.size w3 w7) := by
    show Below w3.heap.size w3 w7
    exact (((HB4.out).trans (HB5.out.mono (by omega))).trans HB6.out).trans (HB7.out.mono (by have := HB6.out.size; have := HB5.out.size; omega))
  have HB03 : Hid (Below w.heap.size w w3) := Ext.undrewN HB3.out
  have hg2 : w3.heap.size < w6.heap.size := by have := HB6.out.size; have := HB5.out.size; omega
  have HKU : Hid (Blk w7 w3.heap.size 122 (arr (2 ^ 31 * a) LU)) := HK6.out.keep HB7.out
  have hvc : Hid (∀ wr : World, Below w3.heap.size w3 wr → ∀ j, j < n → wr.cell? ⟨vb, vo + j, none⟩ = some (.int .u32 (N.wd (N.B ^ K * 2 ^ 31) j : Nat))) := fun wr hb j hj => by
    rw [(fun h => hb.cell (p := ⟨vb, vo + j, none⟩) h) (World.block_lt_of_cell? _ _ (HCV.out j hj))]; exact HCV.out j hj
  have hn1 := HN.out
  have c1 : w7.cell? ⟨vb, vo + (n - 1), none⟩ = some (.int .u32 2147483648) := by
    rw [hvc.out _ HB37.out _ (by omega), show n - 1 = K by omega, N.wd_top31]; rfl
  have c2 : w7.cell? ⟨vb, vo + (n - 2), none⟩ = some (.int .u32 0) := by
    rw [hvc.out _ HB37.out _ (by omega), N.wd_low31 (by omega)]; rfl
  have n2 : (2 : Int) ≤ (n : Int) := by omega
  clear hn1 HK4 HB4 hlt4 HB5 HCA HM1 HM2 HK5 HK6 HB6 HB7 HB3
  refine Rg.wp_region [] (by kernel_rfl) (by kernel_rfl) ?_
  repeat (first | (refine Rg.wpL_nil ?_) | (refine Rg.wpL_skip rfl ?_; simp only [Act.put, List.setIfInBounds_toArray, List.set_cons_zero, List.set_cons_succ]) | (refine Rg.wpL_q rfl rfl (fun K hK => ?_); go_big_quiet_op; refine hK _ ?_; clear hK K) | (refine Rg.wpL_w rfl rfl (fun K hK => ?_); go_wp2_with (first | fail | fail)))
  go_wp2
  clear c1 c2
  obtain ⟨g1, hg1⟩ : ∃ g1, g1 = w3.heap.size := ⟨_, rfl⟩
  obtain ⟨g2, hg2e⟩ : ∃ g2, g2 = w6.heap.size := ⟨_, rfl⟩
  rw [← hg1, ← hg2e]
  rw [← hg1, ← hg2e] at hg2
  have HG1 := Lib.hid hg1; have HG2 := Lib.hid hg2e; clear hg1 hg2e
  go_loopw [18] (fun j wr => ∃ k : Nat, k ≤ MQ ∧ j = .int .i64 ((k : Int) - 1) ∧ Hid (Blk wr g1 122 (arr (N.kU a K k) LU)) ∧ Hid (Blk wr g2 122 (arr (a / N.B ^ K / N.B ^ k * N.B ^ k) MQ)) ∧ Hid (Below g1 w3 wr)) (fun j _ => (intOf j + 1).toNat)
  case atStart =>
    refine ⟨MQ, Nat.le_refl _, by rw [HMQ.out]; go_num, ?_, ?_, Lib.hid (by rw [HG1.out]; exact HB37.out.drew)⟩
    · have e : N.kU a K MQ = 2 ^ 31 * a := by
        unfold N.kU
        rw [Nat.mod_eq_of_lt]
        refine Nat.lt_of_lt_of_le (N.lt_ln a) (Nat.pow_le_pow_right N.B_pos ?_)
        have := HL.out; have := HM.out; have := HMQ.out; omega
      rw [e]; exact Lib.hid (by rw [HG1.out]; exact HKU.out.drew)
    · have e : a / N.B ^ K / N.B ^ MQ = 0 := by
        rw [Nat.div_div_eq_div_mul, ← Nat.pow_add]
        refine Nat.div_eq_of_lt (Nat.lt_of_lt_of_le (N.lt_ln a) (Nat.pow_le_pow_right N.B_pos ?_))
        have := HL.out; have := HM.out; have := HMQ.out; omega
      rw [e, Nat.zero_mul]; exact Lib.hid (by rw [HG2.out]; exact HK7.out.drew)
  case round =>
    obtain ⟨k, hk, rfl, hKU, hKQ, hB⟩ := hrel
    rcases k with _ | k
    · have CTQ : Hid (∀ w : World, Blk w g2 122 (arr (a / N.B ^ K / N.B ^ 0 * N.B ^ 0) MQ) → Calls Try.prog 116 #[.slice (some ⟨g2, 0, none⟩) MQ MQ] w fun e w' => ∃ u, e = .returned u ∧ w = w' ∧ Nm w u (a / N.B ^ K)) := fun w h => by
        rw [Nat.pow_zero, Nat.div_one, Nat.mul_one] at h
        refine trim_ok _ MQ _ ?_ w (blk_rd h (by unfold maxLen; omega))
        rw [Nat.div_lt_iff_lt_mul (N.Bk_pos _), ← Nat.pow_add]
        refine Nat.lt_of_lt_of_le (N.lt_ln a) (Nat.pow_le_pow_right N.B_pos ?_)
        have := HL.out; have := HM.out; have := HMQ.out; omega
      have CTU : Hid (∀ w : World, Blk w g1 122 (arr (N.kU a K 0) LU) → Calls Try.prog 116 #[.slice (some ⟨g1, 0, none⟩) LU LU] w fun e w' => ∃ u, e = .returned u ∧ w = w' ∧ Nm w u (2 ^ 31 * (a % N.B ^ K))) := fun w h => by
        have e : N.kU a K 0 = 2 ^ 31 * (a % N.B ^ K) := by unfold N.kU; rw [Nat.zero_add]
        rw [e] at h
        refine trim_ok _ LU _ ?_ w (blk_rd h (by unfold maxLen; omega))
        rw [← e]
        refine Nat.lt_of_lt_of_le (N.kU_lt a K 0) (Nat.pow_le_pow_right N.B_pos ?_)
        have := HLU.out; have := HM.out; have := HMQ.out; omega
      have CRR : Hid (∀ (w : World) (u : Value), Nm w u (2 ^ 31 * (a % N.B ^ K)) → Calls Try.prog 122 #[u, .int .u64 31] w fun e w' => ∃ u, e = .returned u ∧ Below w.heap.size w w' ∧ Nm w' u (a % N.B ^ K)) := fun w u h => by
        have := right_ok u (2 ^ 31 * (a % N.B ^ K)) 31 (by omega) (by
          show N.ln _ ≤ 30
          refine N.ln_le ?_
          refine Nat.lt_of_lt_of_le (m := N.B ^ (K + 1)) ?_ (Nat.pow_le_pow_right N.B_pos (by omega))
          rw [Nat.pow_succ, Nat.mul_comm]
          exact Nat.mul_lt_mul'' (Nat.mod_lt _ (N.Bk_pos K)) (by decide)) w h 31 rfl
        rwa [Nat.mul_div_cancel_left _ (by decide)] at this
      have HW0 : Hid (Below w.heap.size w wr) := by
        show Below w.heap.size w wr
        exact Below.trans HB03.out (hB.out.mono (by rw [HG1.out]; exact HB03.out.size))
      clear nn nl n1 eLU eM eMQ bn bLU bMQ hnLU n2 hlt7
      go_wp2_with (first | (go_at_call_of 116 (Value.slice (some ⟨g2, 0, none⟩) MQ MQ); refine (CTQ.out _ hKQ.out).mono ?_; rintro e w8 ⟨q, rfl, rfl, hq⟩; have HQ := Lib.hid hq; clear hq) | (go_at_call_of 116 (Value.slice (some ⟨g1, 0, none⟩) LU LU); refine (CTU.out _ hKU.out).mono ?_; rintro e w8 ⟨x, rfl, rfl, hx⟩; have HX := Lib.hid hx; clear hx) | (go_at_call 122; refine (CRR.out _ _ HX.out).mono ?_; rintro e w9 ⟨y, rfl, hb9, hy⟩; have HB9 := Lib.hid hb9; have HY := Lib.hid hy; clear hb9 hy))
      go_ret2
      exact ⟨q, y, rfl, Ext.trans HW0.out HB9.out, HQ.out.below HB9.out, HY.out⟩
    · obtain ⟨r, hr1, hr2, hr3⟩ := N.kU_words a K k
      obtain ⟨U1, hU1⟩ : ∃ x : Int, x = (N.wd (N.kU a K (k + 1)) (k + K + 1) : Nat) := ⟨_, rfl⟩
      obtain ⟨U0, hU0⟩ : ∃ x : Int, x = (N.wd (N.kU a K (k + 1)) (k + K) : Nat) := ⟨_, rfl⟩
      obtain ⟨Wd, hWd⟩ : ∃ x : Int, x = (N.wd (N.kU a K (k + 1)) (k + K - 1) : Nat) := ⟨_, rfl⟩
      obtain ⟨G, hG⟩ : ∃ x : Int, x = (N.wd a (k + K) : Nat) := ⟨_, rfl⟩
      obtain ⟨R, hR⟩ : ∃ x : Int, x = (r : Nat) := ⟨_, rfl⟩
      have bU1 : 0 ≤ U1 ∧ U1 < 4294967296 := by have := N.wd_lt (N.kU a K (k + 1)) (k + K + 1); omega
      have bU0 : 0 ≤ U0 ∧ U0 < 4294967296 := by have := N.wd_lt (N.kU a K (k + 1)) (k + K); omega
      have bWd : 0 ≤ Wd ∧ Wd < 4294967296 := by have := N.wd_lt (N.kU a K (k + 1)) (k + K - 1); omega
      have bG : 0 ≤ G ∧ G < 4294967296 := by have := N.wd_lt a (k + K); omega
      have bR : 0 ≤ R ∧ R < 2147483648 := by omega
      have hUW : U1 * 4294967296 + U0 = 2147483648 * G + R := by omega
      obtain ⟨bU10, bU11⟩ := bU1; obtain ⟨bU00, bU01⟩ := bU0; obtain ⟨bWd0, bWd1⟩ := bWd; obtain ⟨bG0, bG1⟩ := bG; obtain ⟨bR0, bR1⟩ := bR
      have hn1 := HN.out; have hm1 := HM.out; have hlu := HLU.out; have hmq := HMQ.out
      have d1 : wr.cell? ⟨g1, k + n, none⟩ = some (.int .u32 U1) := by
        rw [hKU.out.cell, arr_get (by omega), hU1, show k + n = k + K + 1 by omega]
      have d0 : wr.cell? ⟨g1, k + n - 1, none⟩ = some (.int .u32 U0) := by
        rw [hKU.out.cell, arr_get (by omega), hU0, show k + n - 1 = k + K by omega]
      have dw : wr.cell? ⟨g1, k + n - 2, none⟩ = some (.int .u32 Wd) := by
        rw [hKU.out.cell, arr_get (by omega), hWd, show k + n - 2 = k + K - 1 by omega]
      obtain ⟨H, hH⟩ : ∃ H : Int, H = U0 + U1 * 4294967296 := ⟨_, rfl⟩
      have hor : bits .or .u64 (U1 * 4294967296) U0 = H := by rw [hH]; exact or_high U0 U1 bU00 bU01 bU10 bU11
      have hHG : H = 2147483648 * G + R := by omega
      have q1 : H / 2147483648 = G := by omega
      have q2 : H % 2147483648 = R := by omega
      have bH0 : 0 ≤ H := by omega
      have bH1 : H < 18446744073709551616 := by omega
      obtain ⟨O, hO⟩ : ∃ O : Int, O = Wd + R * 4294967296 := ⟨_, rfl⟩
      have hor2 : bits .or .u64 (R * 4294967296) Wd = O := by rw [hO]; exact or_high Wd R bWd0 bWd1 bR0 (by omega)
      have bO : 0 ≤ O := by omega
      have nO : decide (O < 0) = false := by simp; omega
      have nG : decide (4294967295 < G) = false := by simp; omega
      have eI1 : IntKind.i64.wrap ((k : Int) + (n : Int)) = (k : Int) + (n : Int) := IntWalk.i64_in _ (by omega)
      have eI2 : IntKind.i64.wrap ((k : Int) + (n : Int) - 1) = (k : Int) + (n : Int) - 1 := IntWalk.i64_in _ (by omega)
      have ek : ((k + 1 : Nat) : Int) - 1 = (k : Int) := by omega
      rw [ek]
      have j0 : (0 : Int) ≤ (k : Int) := by omega
      have j1 : (k : Int) + (n : Int) < (LU : Int) := by omega
      have HUW := Lib.hid hUW; have HH := Lib.hid hH; have HHG := Lib.hid hHG; have HO := Lib.hid hO
      have HU1 := Lib.hid hU1; have HU0 := Lib.hid hU0; have HG := Lib.hid hG; have HR := Lib.hid hR; have HR2 := Lib.hid hr2; have HR3 := Lib.hid hr3
      clear hUW hH hHG hO hU1 hU0 hWd hG hR hr2 hr3 hn1 hm1 hlu hmq ek
      have t1 : IntKind.u64.wrap (H.tdiv 2147483648) = G := by rw [IntWalk.u64_quo _ _ (by omega), q1]
      have t2 : H.tmod 2147483648 = R := by rw [Int.tmod_eq_emod_of_nonneg bH0, q2]
      go_wp2
      refine Rg.wp_region [] (by kernel_rfl) (by kernel_rfl) ?_
      repeat (first | (refine Rg.wpL_nil ?_) | (refine Rg.wpL_skip rfl ?_; simp only [Act.put, List.setIfInBounds_toArray, List.set_cons_zero, List.set_cons_succ]) | (refine Rg.wpL_q rfl rfl (fun K hK => ?_); go_big_quiet_op; refine hK _ ?_; clear hK K) | (refine Rg.wpL_w rfl rfl (fun K hK => ?_); go_wp2_with (first | fail | fail)))
      go_wp2
      refine Rg.wp_region [] (by kernel_rfl) (by kernel_rfl) ?_
      repeat (first | (refine Rg.wpL_nil ?_) | (refine Rg.wpL_skip rfl ?_; simp only [Act.put, List.setIfInBounds_toArray, List.set_cons_zero, List.set_cons_succ]) | (refine Rg.wpL_q rfl rfl (fun K hK => ?_); go_big_quiet_op; refine hK _ ?_; clear hK K) | (refine Rg.wpL_w rfl rfl (fun K hK => ?_); go_wp2_with (first | fail | fail)))
      go_wp2
      have hKU3 := Lib.hid (hKU.out.drewN 2); have hKQ3 := Lib.hid (hKQ.out.drewN 2); have hB3 := Lib.hid (below_drewN hB.out 2)
      refine wp_loop_rounds 1 ?_
      rw [rounds_succ]
      go_wp2
      clear d1 d0 dw
      have hn1 := HN.out; have hm1 := HM.out; have hlu := HLU.out; have hmq := HMQ.out
      obtain ⟨wo, rfl⟩ : ∃ wo : World, wo = wr := ⟨_, rfl⟩
      have bkn : k + K + 1 < LU := by omega
      have bKn : K < n := by omega
      have bnK : n ≤ K + 1 := by omega
      -- the high product, its borrow
      obtain ⟨C0, hC0⟩ : ∃ C0 : Int, C0 = (2147483648 * G) % 4294967296 := ⟨_, rfl⟩
      obtain ⟨C1, hC1⟩ : ∃ C1 : Int, C1 = (2147483648 * G) / 4294967296 := ⟨_, rfl⟩
      obtain ⟨T1, hT1⟩ : ∃ T1 : Int, IntKind.u64.wrap (U0 - C0) = T1 := ⟨_, rfl⟩
      have HT1 : Hid (T1 = (U0 - C0) % 18446744073709551616) := by show T1 = _; rw [← hT1, IntKind.wrap_u64]
      have bT : 0 ≤ T1 ∧ T1 < 18446744073709551616 := by have := HT1.out; omega
      obtain ⟨D1, hD1⟩ : ∃ D1 : Int, D1 = T1 / 9223372036854775808 := ⟨_, rfl⟩
      have kR : T1 % 4294967296 = R := by have := HT1.out; have := HUW.out; omega
      have kD : U1 - C1 = D1 := by have := HT1.out; have := HUW.out; omega
      have bC : (0 ≤ C0 ∧ C0 < 4294967296) ∧ (0 ≤ C1 ∧ C1 < 2147483648) ∧ 0 ≤ D1 ∧ D1 ≤ 1 := by omega
      obtain ⟨bT0, bT1⟩ := bT
      obtain ⟨⟨bC00, bC01⟩, ⟨bC10, bC11⟩, bD0, bD1⟩ := bC
      have HC0 := Lib.hid hC0; have HC1 := Lib.hid hC1; have HD1 := Lib.hid hD1; have HKR := Lib.hid kR; have HKD := Lib.hid kD; have HTT := Lib.hid hT1
      clear hC0 hC1 hD1 hT1 kR kD hn1 hm1 hlu hmq
      go_loopw [22, 23, 24, 25] (fun c d i _ wr => ∃ (i' : Nat) (cc dd : Int), i' ≤ n ∧ i = .int .i64 i' ∧ c = .int .u64 cc ∧ d = .int .u64 dd ∧ Hid (Below g1 w3 wr) ∧ Hid (Blk wr g2 122 (arr (a / N.B ^ K / N.B ^ (k + 1) * N.B ^ (k + 1)) MQ)) ∧ Hid ((i' ≤ K ∧ cc = 0 ∧ dd = 0 ∧ Blk wr g1 122 (arr (N.kU a K (k + 1)) LU)) ∨ (i' = n ∧ C1 = cc ∧ D1 = dd ∧ Blk wr g1 122 ((arr (N.kU a K (k + 1)) LU).setIfInBounds (k + K) (.int .u32 R))))) (fun _ _ i _ _ => n - (intOf i).toNat)
      case atStart => exact ⟨0, 0, 0, Nat.zero_le _, rfl, rfl, rfl, hB3, hKQ3, .inl ⟨Nat.zero_le _, rfl, rfl, hKU3.out⟩⟩
      case round =>
        obtain ⟨i, cc, dd, hin, rfl, rfl, rfl, hB4, hKQ4, hor4⟩ := hrel
        by_cases hi : i < K
        · rcases hor4.out with ⟨_, rfl, rfl, hKU4⟩ | ⟨h, _⟩
          · obtain ⟨Y, hY⟩ : ∃ Y : Int, Y = (N.wd (N.kU a K (k + 1)) (i + k) : Nat) := ⟨_, rfl⟩
            have bY : 0 ≤ Y ∧ Y < 4294967296 := by have := N.wd_lt (N.kU a K (k + 1)) (i + k); omega
            obtain ⟨bY0, bY1⟩ := bY
            have v1 : wr.cell? ⟨vb, vo + i, none⟩ = some (.int .u32 0) := by
              rw [hvc.out _ (by rw [← HG1.out]; exact hB4.out) _ (by omega), N.wd_low31 (by omega)]; rfl
            have y1 : wr.cell? ⟨g1, i + k, none⟩ = some (.int .u32 Y) := by rw [hKU4.cell, arr_get (by omega), hY]
            have f1 : wr.frozen? ⟨g1, i + k, none⟩ = false := hKU4.frozen _
            have hY63 : Y / 9223372036854775808 = 0 := by omega
            have HKU4 := Lib.hid hKU4; have HY := Lib.hid hY
            clear hKU4 hY hor4
            have i0 : (0 : Int) ≤ (i : Int) := by omega
            have i1 : (i : Int) < (n : Int) := by omega
            have i2 : (i : Int) + (k : Int) < (LU : Int) := by omega
            go_wp2
            go_roundw
            case rel => exact ⟨i + 1, 0, 0, by omega, by go_num, rfl, rfl, hB4.out.setCell (Nat.le_refl _) _, hKQ4.out.far (Nat.ne_of_gt hg2) _, .inl ⟨by omega, rfl, rfl, by
              have h1 := HKU4.out.set_ (i + k) (.int .u32 Y)
              have e : (arr (N.kU a K (k + 1)) LU).setIfInBounds (i + k) (.int .u32 Y) = arr (N.kU a K (k + 1)) LU := by rw [HY.out]; exact arr_self (by omega)
              rw [e] at h1; exact h1⟩⟩
            case measure => simp [intOf]; omega
          · exact absurd h (by omega)
        · by_cases hi2 : i < n
          · rcases hor4.out with ⟨_, rfl, rfl, hKU4⟩ | ⟨h, _⟩
            · have hiK : i = K := by omega
              have v1 : wr.cell? ⟨vb, vo + i, none⟩ = some (.int .u32 2147483648) := by
                rw [hvc.out _ (by rw [← HG1.out]; exact hB4.out) _ (by omega), hiK, N.wd_top31]; rfl
              have y1 : wr.cell? ⟨g1, i + k, none⟩ = some (.int .u32 U0) := by rw [hKU4.cell, arr_get (by omega), HU0.out, show i + k = k + K by omega]
              have f1 : wr.frozen? ⟨g1, i + k, none⟩ = false := hKU4.frozen _
              have e0 : (G * 2147483648) % 4294967296 = C0 := by rw [HC0.out, Int.mul_comm]
              have e1 : (G * 2147483648) / 4294967296 = C1 := by rw [HC1.out, Int.mul_comm]
              have hT1 : IntKind.u64.wrap (U0 - C0) = T1 := HTT.out
              have kR : T1 % 4294967296 = R := HKR.out
              have kD1 : T1 / 9223372036854775808 = D1 := HD1.out.symm
              have HKU4 := Lib.hid hKU4; have HIK := Lib.hid hiK
              clear hKU4 hiK hor4 hi
              have i0 : (0 : Int) ≤ (i : Int) := by omega
              have i1 : (i : Int) < (n : Int) := by omega
              have i2 : (i : Int) + (k : Int) < (LU : Int) := by have := HIK.out; omega
              go_wp2
              go_roundw
              case rel => exact ⟨i + 1, C1, D1, by omega, by go_num, rfl, rfl, hB4.out.setCell (Nat.le_refl _) _, hKQ4.out.far (Nat.ne_of_gt hg2) _, .inr ⟨by have := HIK.out; omega, rfl, rfl, by
                have h1 := HKU4.out.set_ (i + k) (.int .u32 R)
                have e : (arr (N.kU a K (k + 1)) LU).setIfInBounds (i + k) (.int .u32 R) = (arr (N.kU a K (k + 1)) LU).setIfInBounds (k + K) (.int .u32 R) := by rw [show i + k = k + K by have := HIK.out; omega]
                rw [e] at h1; exact h1⟩⟩
              case measure => simp [intOf]; omega
            · exact absurd h (by omega)
          · rcases hor4.out with ⟨h, _⟩ | ⟨_, rfl, rfl, hKU4⟩
            · exact absurd h (by omega)
            · obtain rfl : i = n := by omega
              have hn1 := HN.out; have hmq := HMQ.out; have hlu := HLU.out; have hm1 := HM.out
              have d1 : wr.cell? ⟨g1, k + i, none⟩ = some (.int .u32 U1) := by
                rw [hKU4.cell, Array.getElem?_setIfInBounds_ne (by omega), arr_get (by omega), HU1.out, show k + i = k + K + 1 by omega]
              have f1 : wr.frozen? ⟨g1, k + i, none⟩ = false := hKU4.frozen _
              have qc : wr.cell? ⟨g2, k, none⟩ = some (.int .u32 0) := by
                rw [hKQ4.out.cell, arr_get (by omega), N.wd_mul_high]; rfl
              have fq : wr.frozen? ⟨g2, k, none⟩ = false := hKQ4.out.frozen _
              have hne : g1 ≠ g2 := Nat.ne_of_lt hg2
              have kD : U1 - D1 = C1 := by have := HKD.out; omega
              have kD' : U1 - C1 = D1 := HKD.out
              have eW : IntKind.u64.wrap D1 = D1 := by rw [IntKind.wrap_u64]; omega
              have HFU : Hid (Blk ((wr.setCell ⟨g1, k + i, none⟩ (.int .u32 0)).setCell ⟨g2, k, none⟩ (.int .u32 G)) g1 122 (arr (N.kU a K k) LU)) := by
                show Blk _ _ _ _
                have h1 := (hKU4.set_ (k + i) (.int .u32 0)).far (p := ⟨g2, k, none⟩) hne (.int .u32 G)
                have e : ((arr (N.kU a K (k + 1)) LU).setIfInBounds (k + K) (.int .u32 R)).setIfInBounds (k + i) (.int .u32 0) = arr (N.kU a K k) LU := by rw [show k + i = k + K + 1 by omega, HR.out]; exact N.kU_set HR3.out (by omega) HR2.out
                rw [e] at h1; exact h1
              have HFQ : Hid (Blk ((wr.setCell ⟨g1, k + i, none⟩ (.int .u32 0)).setCell ⟨g2, k, none⟩ (.int .u32 G)) g2 122 (arr (a / N.B ^ K / N.B ^ k * N.B ^ k) MQ)) := by
                show Blk _ _ _ _
                have h1 := (hKQ4.out.far (p := ⟨g1, k + i, none⟩) (Ne.symm hne) (.int .u32 0)).set_ k (.int .u32 G)
                have e : (arr (a / N.B ^ K / N.B ^ (k + 1) * N.B ^ (k + 1)) MQ).setIfInBounds k (.int .u32 G) = arr (a / N.B ^ K / N.B ^ k * N.B ^ k) MQ := by rw [HG.out, arr_put N.wd_mul_high (N.wd_lt _ _) (by omega), ← N.kQ_step]
                rw [e] at h1; exact h1
              have j2 : (k : Int) < (MQ : Int) := by omega
              clear hKU4 hor4 hi hi2 hn1 hmq hlu hm1 kD
              go_wp2
              go_roundw
              case rel => exact ⟨k, by omega, rfl, HFU, HFQ, (hB4.out.setCell (Nat.le_refl _) _).setCell (Nat.le_of_lt hg2) _⟩
              case measure => simp [intOf]
/-- What a division may meet here. -/
def DivIn (a b : Nat) : Prop := b ≠ 0 ∧ N.ln a ≤ 28 ∧ (a < b ∨ N.ln a ≤ 2 ∨ N.ln b = 1 ∨ ∃ K, 1 ≤ K ∧ K ≤ 20 ∧ b = N.B ^ K)
theorem bdiv_ok (u v : Value) (a b : Nat) (h : DivIn a b) (w : World) (hu : Nm w u a) (hv : Nm w v b) : Calls Try.prog 114 #[u, v] w (DivOk w a b) := by
  obtain ⟨hb0, hl, hc⟩ := h
  have hs : Sm a := by show N.ln a ≤ 30; omega
  by_cases h1 : a < b
  · exact div_less u v a b h1 hs w hu hv
  have h1' : b ≤ a := by omega
  by_cases h2 : N.ln a ≤ 2
  · exact div_plain u v a b h1' hb0 h2 w hu hv
  by_cases h3 : N.ln b = 1
  · exact div_small u v a b h1' (by omega) h3 hs w hu hv
  rcases hc with hc | hc | hc | ⟨K, hK1, hK20, rfl⟩
  · exact absurd hc h1
  · exact absurd hc h2
  · exact absurd hc h3
  · obtain ⟨_, A, cap, rfl, _, _⟩ := hu.open_
    obtain ⟨_, A2, cap2, rfl, _, _⟩ := hv.open_
    have hlk := N.ln_mono h1'
    rw [N.ln_pow] at hlk
    rw [N.ln_pow] at hv ⊢
    exact div_pow_raw A A2 cap cap2 a K (N.ln a) (K + 1) (N.ln a - K) (N.ln a + 2) (N.ln a - K + 1) rfl (by omega) hl hK1 hK20 rfl (by omega) rfl rfl h1' w hu hv
end Go.Proofs.Ytkmcniaaecijdaa
