/- Walks of the reckoner with numbers of any size: plain, words, cmp. -/
import Derived.Test.YtgpjhbaehhjdhaaN2
import Derived.Test.YtgpjhbaehhjdhaaWp
namespace Go.Proofs.Ytgpjhbaehhjdhaa
open Go.RowKit
set_option linter.unusedVariables false
set_option linter.unusedSimpArgs false
set_option maxRecDepth 100000

/-- The slice's parts: its cells, word by word. -/
theorem Nm.open_ {w : World} {v : Value} {n : Nat} (h : Nm w v n) : N.ln n ≤ maxLen ∧ ∃ A cap, v = .slice A (N.ln n) cap ∧ N.ln n ≤ cap ∧ (0 < N.ln n → ∃ b off, A = some ⟨b, off, none⟩ ∧ ∀ j, j < N.ln n → w.cell? ⟨b, off + j, none⟩ = some (.int .u32 (N.wd n j : Nat))) := by
  obtain ⟨hl, hm, A, cap, rfl, hc, ha⟩ := Rd.ints h.1
  refine ⟨hm, A, cap, rfl, hc, fun h0 => ?_⟩
  obtain ⟨b, off, hA, hcell⟩ := ha h0
  exact ⟨b, off, hA, fun j hj => by rw [hcell j hj, N.lv_getD hj]⟩
theorem or_low (x y : Int) (h0 : 0 ≤ x) (h1 : x < 4294967296) (h2 : 0 ≤ y) (h3 : y < 4294967296) : bits .or .u64 x (y * 4294967296) = x + y * 4294967296 := by
  obtain ⟨a, rfl⟩ := Int.eq_ofNat_of_zero_le h0
  obtain ⟨b, rfl⟩ := Int.eq_ofNat_of_zero_le h2
  have e : ((b : Int) * 4294967296) = ((b * 4294967296 : Nat) : Int) := by omega
  rw [e, u64_or_nat a (b * 4294967296) (by omega) (by omega), Nat.or_comm, nat_join 32 (b * 4294967296) a (by omega) (by omega)]
  omega
theorem or_high (x y : Int) (h0 : 0 ≤ x) (h1 : x < 4294967296) (h2 : 0 ≤ y) (h3 : y < 4294967296) : bits .or .u64 (y * 4294967296) x = x + y * 4294967296 := by
  obtain ⟨a, rfl⟩ := Int.eq_ofNat_of_zero_le h0
  obtain ⟨b, rfl⟩ := Int.eq_ofNat_of_zero_le h2
  have e : ((b : Int) * 4294967296) = ((b * 4294967296 : Nat) : Int) := by omega
  rw [e, u64_or_nat (b * 4294967296) a (by omega) (by omega), nat_join 32 (b * 4294967296) a (by omega) (by omega)]
  omega
theorem N.plain_two (n : Nat) : n % 18446744073709551616 = N.wd n 0 + N.wd n 1 * 4294967296 := by
  have h1 := N.mod_succ n 0
  have h2 := N.mod_succ n 1
  rw [Nat.zero_add, Nat.pow_zero, Nat.mod_one, Nat.zero_add, Nat.mul_one] at h1
  rw [h1] at h2
  have e : N.B ^ (1 + 1) = 18446744073709551616 := by decide
  rw [e, Nat.pow_one, N.B_eq] at h2
  exact h2
set_option maxHeartbeats 1000000 in
theorem plain_ok (v : Value) (n : Nat) (w : World) (hv : Nm w v n) :
    Calls Try.prog 135 #[v] w fun e w' => e = .returned (.int .u64 ((n % 18446744073709551616 : Nat) : Int)) ∧ w = w' := by
  have HP := Lib.hid (N.plain_two n)
  obtain ⟨hm, A, cap, rfl, hc, ha⟩ := hv.open_
  unfold maxLen at hm
  have HH : Hid (∀ j, N.ln n ≤ j → N.wd n j = 0) := fun j hj => N.wd_high (N.lt_ln n) hj
  obtain ⟨L, hL⟩ : ∃ L, L = N.ln n := ⟨_, rfl⟩
  rw [← hL] at hm hc ha ⊢
  have HA := Lib.hid ha; have HL := Lib.hid hL; clear ha hL hv
  rcases (show L = 0 ∨ L = 1 ∨ 2 ≤ L by omega) with h0 | h0 | h0
  · have e : Hid (((n % 18446744073709551616 : Nat) : Int) = 0) := by
      have := HP.out; have h1 := HH.out 0 (by rw [← HL.out]; omega); have h2 := HH.out 1 (by rw [← HL.out]; omega)
      show ((n % 18446744073709551616 : Nat) : Int) = 0
      omega
    subst h0
    go_enter Try.func135, Try.ntmps135
    go_wp2
    go_ret
    exact ⟨W.ret1 (W.u64 e.out.symm), rfl⟩
  · subst h0
    obtain ⟨b, off, rfl, hcell⟩ := HA.out (by omega)
    obtain ⟨X, hX⟩ : ∃ X : Int, X = (N.wd n 0 : Nat) := ⟨_, rfl⟩
    have c0 : w.cell? ⟨b, off, none⟩ = some (.int .u32 X) := by rw [hX]; exact hcell 0 (by omega)
    have bx : 0 ≤ X ∧ X < 4294967296 := by have := N.wd_lt n 0; omega
    obtain ⟨bx0, bx1⟩ := bx
    have e : Hid (((n % 18446744073709551616 : Nat) : Int) = X) := by
      have := HP.out; have h2 := HH.out 1 (by rw [← HL.out]; omega)
      show ((n % 18446744073709551616 : Nat) : Int) = X
      omega
    clear hcell hX
    go_enter Try.func135, Try.ntmps135
    go_wp2
    go_ret
    exact ⟨W.ret1 (W.u64 e.out.symm), rfl⟩
  · obtain ⟨b, off, rfl, hcell⟩ := HA.out (by omega)
    obtain ⟨X, hX⟩ : ∃ X : Int, X = (N.wd n 0 : Nat) := ⟨_, rfl⟩
    obtain ⟨Y, hY⟩ : ∃ Y : Int, Y = (N.wd n 1 : Nat) := ⟨_, rfl⟩
    have c0 : w.cell? ⟨b, off, none⟩ = some (.int .u32 X) := by rw [hX]; exact hcell 0 (by omega)
    have c1 : w.cell? ⟨b, off + 1, none⟩ = some (.int .u32 Y) := by rw [hY]; exact hcell 1 (by omega)
    have bx : (0 ≤ X ∧ X < 4294967296) ∧ 0 ≤ Y ∧ Y < 4294967296 := by have := N.wd_lt n 0; have := N.wd_lt n 1; omega
    obtain ⟨⟨bx0, bx1⟩, by0, by1⟩ := bx
    have e : Hid (((n % 18446744073709551616 : Nat) : Int) = X + Y * 4294967296) := by
      have := HP.out
      show ((n % 18446744073709551616 : Nat) : Int) = X + Y * 4294967296
      omega
    have HOR := Lib.hid (or_low X Y bx0 bx1 by0 by1)
    clear hcell hX hY
    go_enter Try.func135, Try.ntmps135
    go_wp2
    go_ret
    exact ⟨W.ret1 (W.u64 (by rw [e.out, ← HOR.out])), rfl⟩

/-- Two words of a number of 64 bits. -/
theorem N.two_words (x : Nat) (hx : x < 18446744073709551616) : N.lv x 2 = [(x : Int) % 4294967296, (x : Int) / 4294967296] := by
  have e0 : N.wd x 0 = x % 4294967296 := by rw [N.wd_zero]; rfl
  have e1 : N.wd x 1 = x / 4294967296 := by
    unfold N.wd; rw [Nat.pow_one, N.B_eq]; omega
  unfold N.lv
  simp [List.range_succ, e0, e1]
theorem rd_lit (w : World) (x y : Value) : Rd (w.alloc (.cells #[x, y] 124)) 1 (.slice (some ⟨w.heap.size, 0, none⟩) 2 2) 2 [x, y] ∧ Tp (w.alloc (.cells #[x, y] 124)) (.slice (some ⟨w.heap.size, 0, none⟩) 2 2) := by
  refine ⟨?_, Tp.alloc _ _ _ _ _ _⟩
  refine ⟨rfl, by decide, some ⟨w.heap.size, 0, none⟩, 2, rfl, Nat.le_refl _, fun _ => ⟨w.heap.size, 0, rfl, fun j u hu => ?_⟩⟩
  rcases j with _ | _ | j
  · simp at hu; subst hu; simp
  · simp at hu; subst hu; simp
  · simp at hu
set_option maxHeartbeats 1000000 in
theorem words_ok (x : Nat) (hx : x < 18446744073709551616) (w : World) :
    Calls Try.prog 129 #[.int .u64 (x : Int)] w fun e w' => ∃ u, e = .returned u ∧ Below w.heap.size w w' ∧ Nm w' u x := by
  have HT : Hid (∀ (w : World) (v : Value), (Rd w 1 v 2 [.int .u32 ((x : Int) % 4294967296), .int .u32 ((x : Int) / 4294967296)] ∧ Tp w v) → Calls Try.prog 134 #[v] w fun e w' => ∃ u, e = .returned u ∧ w = w' ∧ Nm w u x) := fun w v hv =>
    trim_ok v 2 x (by have : N.B ^ 2 = 18446744073709551616 := by decide
                      omega) w (by rw [N.two_words x hx]; exact hv)
  go_enter Try.func129, Try.ntmps129
  go_wp2_with (first | (go_at_call 134; refine (HT.out _ _ (rd_lit _ _ _)).mono ?_; rintro e w1 ⟨u, rfl, rfl, hu⟩; have HU := Lib.hid hu; clear hu))
  go_ret
  exact ⟨u, rfl, (Below.refl _ _).alloc (Nat.le_refl _) _, HU.out⟩
/-- How two numbers compare. -/
def cmpI (a b : Nat) : Int := if a < b then -1 else if b < a then 1 else 0
theorem cmpI_lt {a b : Nat} (h : a < b) : cmpI a b = -1 := if_pos h
theorem cmpI_gt {a b : Nat} (h : b < a) : cmpI a b = 1 := by unfold cmpI; rw [if_neg (by omega), if_pos h]
theorem cmpI_eq {a b : Nat} (h : a = b) : cmpI a b = 0 := by unfold cmpI; rw [if_neg (by omega), if_neg (by omega)]
set_option maxHeartbeats 2000000 in
theorem cmp_ok (u v : Value) (a b : Nat) (w : World) (hu : Nm w u a) (hv : Nm w v b) :
    Calls Try.prog 111 #[u, v] w fun e w' => e = .returned (.int .i64 (cmpI a b)) ∧ ∃ m, w' = w.drewN m := by
  obtain ⟨hm, A, cap, rfl, hc, ha⟩ := hu.open_
  obtain ⟨hm2, A2, cap2, rfl, hc2, ha2⟩ := hv.open_
  unfold maxLen at hm hm2
  clear hu hv
  obtain ⟨L, hL⟩ : ∃ L, L = N.ln a := ⟨_, rfl⟩
  obtain ⟨M, hM⟩ : ∃ M, M = N.ln b := ⟨_, rfl⟩
  rw [← hL] at hm hc ha ⊢
  rw [← hM] at hm2 hc2 ha2 ⊢
  have HA := Lib.hid ha; have HA2 := Lib.hid ha2; have HL := Lib.hid hL; have HM := Lib.hid hM; clear ha ha2 hL hM
  by_cases hne : L = M
  · subst hne
    have nn : ((L : Int) != (L : Int)) = false := by simp
    go_enter Try.func111, Try.ntmps111
    go_wp2
    go_loopw [5] (fun i wr => ∃ k : Nat, k ≤ L ∧ i = .int .i64 ((k : Int) - 1) ∧ Hid (a / N.B ^ k = b / N.B ^ k) ∧ Hid (∃ m, wr = w.drewN m)) (fun i _ => (intOf i + 1).toNat)
    case atStart => exact ⟨L, Nat.le_refl _, rfl, by
      show a / N.B ^ L = b / N.B ^ L
      rw [Nat.div_eq_of_lt (by rw [HL.out]; exact N.lt_ln a), Nat.div_eq_of_lt (by rw [HM.out]; exact N.lt_ln b)], ⟨0, rfl⟩⟩
    case round =>
      obtain ⟨k, hk, rfl, he, hw⟩ := hrel
      obtain ⟨m, rfl⟩ := hw.out
      clear hw
      rcases k with _ | k
      · go_wp2
        go_ret
        exact ⟨W.ret1 (W.i64 (cmpI_eq (by have := he.out; simpa using this)).symm), m, rfl⟩
      · obtain ⟨bx, ox, rfl, cx⟩ := HA.out (by omega)
        obtain ⟨byy, oy, rfl, cy⟩ := HA2.out (by omega)
        obtain ⟨X, hX⟩ : ∃ X : Int, X = (N.wd a k : Nat) := ⟨_, rfl⟩
        obtain ⟨Y, hY⟩ : ∃ Y : Int, Y = (N.wd b k : Nat) := ⟨_, rfl⟩
        have c1 : w.cell? ⟨bx, ox + k, none⟩ = some (.int .u32 X) := by rw [hX]; exact cx k (by omega)
        have c2 : w.cell? ⟨byy, oy + k, none⟩ = some (.int .u32 Y) := by rw [hY]; exact cy k (by omega)
        have HX := Lib.hid hX; have HY := Lib.hid hY; clear hX hY cx cy HA HA2
        have ek : ((k + 1 : Nat) : Int) - 1 = (k : Int) := by omega
        rw [ek]
        clear ek
        have i0 : (0 : Int) ≤ (k : Int) := by omega
        have i1 : (k : Int) < (L : Int) := by omega
        by_cases hxy : X = Y
        · have hb : (X != Y) = false := by simp [hxy]
          have HXY := Lib.hid hxy; clear hxy
          go_wp2
          refine Rg.wp_region [] (by kernel_rfl) (by kernel_rfl) ?_
          repeat (first | (refine Rg.wpL_nil ?_) | (refine Rg.wpL_skip rfl ?_; simp only [Act.put, List.setIfInBounds_toArray, List.set_cons_zero, List.set_cons_succ]) | (refine Rg.wpL_q rfl rfl (fun K hK => ?_); go_big_quiet_op; refine hK _ ?_; clear hK K) | (refine Rg.wpL_w rfl rfl (fun K hK => ?_); go_wp2_with (first | fail | fail)))
          go_wp2
          go_roundw
          case rel => exact ⟨k, by omega, rfl, N.cmp_same he.out (by have := HX.out; have := HY.out; have := HXY.out; omega), ⟨m + 1, rfl⟩⟩
          case measure => simp [intOf]
        · have hb : (X != Y) = true := by simpa using hxy
          by_cases hlt : X < Y
          · have HXY : Hid (cmpI a b = -1) := cmpI_lt (N.cmp_step he.out (by have := HX.out; have := HY.out; omega))
            clear hxy
            go_wp2
            refine Rg.wp_region [] (by kernel_rfl) (by kernel_rfl) ?_
            repeat (first | (refine Rg.wpL_nil ?_) | (refine Rg.wpL_skip rfl ?_; simp only [Act.put, List.setIfInBounds_toArray, List.set_cons_zero, List.set_cons_succ]) | (refine Rg.wpL_q rfl rfl (fun K hK => ?_); go_big_quiet_op; refine hK _ ?_; clear hK K) | (refine Rg.wpL_w rfl rfl (fun K hK => ?_); go_wp2_with (first | fail | fail)))
            go_wp2
            refine Rg.wp_region [] (by kernel_rfl) (by kernel_rfl) ?_
            repeat (first | (refine Rg.wpL_nil ?_) | (refine Rg.wpL_skip rfl ?_; simp only [Act.put, List.setIfInBounds_toArray, List.set_cons_zero, List.set_cons_succ]) | (refine Rg.wpL_q rfl rfl (fun K hK => ?_); go_big_quiet_op; refine hK _ ?_; clear hK K) | (refine Rg.wpL_w rfl rfl (fun K hK => ?_); go_wp2_with (first | fail | fail)))
            go_wp2
            go_ret
            exact ⟨W.ret1 (W.i64 HXY.out.symm), m + 1 + 1, rfl⟩
          · have HXY : Hid (cmpI a b = 1) := cmpI_gt (N.cmp_step he.out.symm (by have := HX.out; have := HY.out; omega))
            have hge : Y ≤ X := by omega
            clear hxy hlt
            go_wp2
            refine Rg.wp_region [] (by kernel_rfl) (by kernel_rfl) ?_
            repeat (first | (refine Rg.wpL_nil ?_) | (refine Rg.wpL_skip rfl ?_; simp only [Act.put, List.setIfInBounds_toArray, List.set_cons_zero, List.set_cons_succ]) | (refine Rg.wpL_q rfl rfl (fun K hK => ?_); go_big_quiet_op; refine hK _ ?_; clear hK K) | (refine Rg.wpL_w rfl rfl (fun K hK => ?_); go_wp2_with (first | fail | fail)))
            go_wp2
            refine Rg.wp_region [] (by kernel_rfl) (by kernel_rfl) ?_
            repeat (first | (refine Rg.wpL_nil ?_) | (refine Rg.wpL_skip rfl ?_; simp only [Act.put, List.setIfInBounds_toArray, List.set_cons_zero, List.set_cons_succ]) | (refine Rg.wpL_q rfl rfl (fun K hK => ?_); go_big_quiet_op; refine hK _ ?_; clear hK K) | (refine Rg.wpL_w rfl rfl (fun K hK => ?_); go_wp2_with (first | fail | fail)))
            go_wp2
            go_ret
            exact ⟨W.ret1 (W.i64 HXY.out.symm), m + 1 + 1, rfl⟩
  · have nn : ((L : Int) != (M : Int)) = true := by simp only [bne_iff_ne, ne_eq]; omega
    by_cases hlt : L < M
    · have HXY : Hid (cmpI a b = -1) := cmpI_lt (N.lt_of_ln (by rw [← HL.out, ← HM.out]; exact hlt))
      go_enter Try.func111, Try.ntmps111
      go_wp2
      go_ret
      exact ⟨W.ret1 (W.i64 HXY.out.symm), 0, rfl⟩
    · have HXY : Hid (cmpI a b = 1) := cmpI_gt (N.lt_of_ln (by rw [← HL.out, ← HM.out]; omega))
      have hlt' : M ≤ L := by omega
      clear hlt
      go_enter Try.func111, Try.ntmps111
      go_wp2
      go_ret
      exact ⟨W.ret1 (W.i64 HXY.out.symm), 0, rfl⟩
end Go.Proofs.Ytgpjhbaehhjdhaa
