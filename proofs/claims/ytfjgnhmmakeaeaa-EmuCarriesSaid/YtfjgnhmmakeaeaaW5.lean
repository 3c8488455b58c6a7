/- Walk of word.Split: the words of a number. -/
import Derived.Test.YtfjgnhmmakeaeaaW2
import Derived.Test.YtfjgnhmmakeaeaaB0
namespace Go.Proofs.Ytfjgnhmmakeaeaa
open Go.RowKit
set_option linter.unusedVariables false
set_option maxRecDepth 100000

theorem Try.infoI : (Try.prog.info? 3).map (fun i => (i.zero, i.size, i.bytes)) = some (some (.int .i64 0), 1, 8) := by kernel_rfl

/-- A number without its lowest j words; its lowest k words. -/
def W.dn (j : Nat) (x : Int) : Int := x / 65536 ^ j
def W.split : Nat → Int → List Int
  | 0, _ => []
  | k + 1, x => W.split k x ++ [W.dn k x % 65536]
/-- How many words a width takes. -/
def W.nw (v : Int) : Nat := if v = 32 then 2 else if v = 64 then 4 else 1
theorem W.split_len (k : Nat) (x : Int) : (W.split k x).length = k := by
  induction k with
  | zero => rfl
  | succ k ih => simp [W.split, ih]
theorem W.dn_zero (x : Int) : W.dn 0 x = x := by simp [W.dn]
theorem W.dn_succ (j : Nat) (x : Int) : W.dn (j + 1) x = W.dn j x / 65536 := by
  have hp : (0 : Int) < 65536 ^ j := Int.pow_pos (by decide)
  unfold W.dn; rw [Int.pow_succ, Int.ediv_ediv, if_neg (by omega), Int.sub_zero]
theorem W.dn_U (j : Nat) (x : Int) (h : W.U x) : W.U (W.dn j x) := by
  have hp : (0 : Int) < 65536 ^ j := Int.pow_pos (by decide)
  have := W.div_le h.1 (Int.le_of_lt hp)
  exact ⟨Int.ediv_nonneg h.1 (Int.le_of_lt hp), by have := h.2; unfold W.dn; omega⟩

set_option maxHeartbeats 1000000 in
theorem split_8 (x X : Int) (hX : bits .and .u64 x (W.mk 8) = X) (hU : W.U X) (w : World) :
    Calls Try.prog 27 #[.int .u64 x, .int .i64 8] w fun e w' => ∃ v, e = .returned (.tuple #[v, .int .i64 0]) ∧ w'.ownsRow w.heap.size 3 1 v 1 ((W.split 1 X).map (Value.int .i64)) ∧ Below w.heap.size w w' := by
  obtain ⟨i0, hi, hz0, hz1, hz2⟩ := info_parts Try.infoI
  go_enter Try.func27, Try.ntmps27
  go_wp2_with (first | (go_at_call 48; refine (width_ok _ (by simp [W.ok]) _).mono ?_; rintro e w' ⟨rfl, rfl⟩) | (go_at_call 49; refine (mask_ok _ (by simp [W.ok]) _).mono ?_; rintro e w' ⟨rfl, rfl⟩))
  go_loopw [0, 6, 17] (fun y l k wr => ∃ j : Nat, j ≤ 1 ∧ k = .int .i64 j ∧ y = .int .u64 (W.dn j X) ∧ wr.ownsRow w.heap.size 3 1 l j ((W.split j X).map (Value.int .i64)) ∧ Below w.heap.size w wr) (fun _ _ k _ => 1 - (intOf k).toNat)
  case atStart => exact ⟨0, Nat.zero_le _, rfl, by rw [W.dn_zero], World.ownsRow_nil _ _ _ _, Below.refl _ _⟩
  case round =>
    obtain ⟨j, hj, rfl, rfl, hown, hb⟩ := hrel
    have hU' := W.dn_U j X hU
    obtain ⟨D, hD⟩ : ∃ D, D = W.dn j X % 65536 := ⟨_, rfl⟩
    have hd : bits .and .u64 (W.dn j X) 65535 = D := by rw [hD]; exact W.and65535 _ hU'.1 hU'.2
    have hD0 : 0 ≤ D := by omega
    have hD1 : D < 65536 := by omega
    have HD := Lib.hid hD; clear hD
    have HS := Lib.hid (W.dn_succ j X)
    by_cases hlt : j < 1
    · go_wp2_with (first | (at_builtin; refine wpList_append_own _ rfl _ _ 22 rfl w.heap.size 3 i0 (.int .i64 0) 1 8 Try.underlying22 hi hz0 hz1 hz2 rfl (by decide) _ _ _ rfl (hown.alloc _) ⟨wr.heap.size, 0, none⟩ 1 1 [.int .i64 D] rfl rfl ?c1 ?c2 ?c3 ?c4 ?c5 ?_))
      case c1 =>
        intro i u hi
        match i, hi with
        | 0, hi => simp at hi; subst hi; simp [Addr.add]
      case c2 => intro u hu; simp at hu; subst hu; rfl
      case c3 => unfold maxLen; omega
      case c4 => omega
      case c5 => have := hb.size; simp; omega
      · intro v' w1 hown' hgrow _
        have hb' := (hb.alloc (by have := hb.size; omega) (.cells #[.int .i64 D] 3)).grown hgrow (by have := hb.size; simp; omega) (fun k hk => (hown.alloc (.cells #[.int .i64 D] 3)).lt k hk |>.1)
        clear hgrow hown hb
        go_wp2
        go_roundw
        case rel => exact ⟨j + 1, by omega, by go_num, W.u64 (by rw [HS.out]), by simpa [W.split, HD.out] using hown', hb'⟩
        case measure => simp [intOf]; omega
    · have : j = 1 := by omega
      subst this
      go_wp2
      go_ret2
      exact ⟨_, rfl, hown, hb⟩
set_option maxHeartbeats 1000000 in
theorem split_16 (x X : Int) (hX : bits .and .u64 x (W.mk 16) = X) (hU : W.U X) (w : World) :
    Calls Try.prog 27 #[.int .u64 x, .int .i64 16] w fun e w' => ∃ v, e = .returned (.tuple #[v, .int .i64 0]) ∧ w'.ownsRow w.heap.size 3 1 v 1 ((W.split 1 X).map (Value.int .i64)) ∧ Below w.heap.size w w' := by
  obtain ⟨i0, hi, hz0, hz1, hz2⟩ := info_parts Try.infoI
  go_enter Try.func27, Try.ntmps27
  go_wp2_with (first | (go_at_call 48; refine (width_ok _ (by simp [W.ok]) _).mono ?_; rintro e w' ⟨rfl, rfl⟩) | (go_at_call 49; refine (mask_ok _ (by simp [W.ok]) _).mono ?_; rintro e w' ⟨rfl, rfl⟩))
  go_loopw [0, 6, 17] (fun y l k wr => ∃ j : Nat, j ≤ 1 ∧ k = .int .i64 j ∧ y = .int .u64 (W.dn j X) ∧ wr.ownsRow w.heap.size 3 1 l j ((W.split j X).map (Value.int .i64)) ∧ Below w.heap.size w wr) (fun _ _ k _ => 1 - (intOf k).toNat)
  case atStart => exact ⟨0, Nat.zero_le _, rfl, by rw [W.dn_zero], World.ownsRow_nil _ _ _ _, Below.refl _ _⟩
  case round =>
    obtain ⟨j, hj, rfl, rfl, hown, hb⟩ := hrel
    have hU' := W.dn_U j X hU
    obtain ⟨D, hD⟩ : ∃ D, D = W.dn j X % 65536 := ⟨_, rfl⟩
    have hd : bits .and .u64 (W.dn j X) 65535 = D := by rw [hD]; exact W.and65535 _ hU'.1 hU'.2
    have hD0 : 0 ≤ D := by omega
    have hD1 : D < 65536 := by omega
    have HD := Lib.hid hD; clear hD
    have HS := Lib.hid (W.dn_succ j X)
    by_cases hlt : j < 1
    · go_wp2_with (first | (at_builtin; refine wpList_append_own _ rfl _ _ 22 rfl w.heap.size 3 i0 (.int .i64 0) 1 8 Try.underlying22 hi hz0 hz1 hz2 rfl (by decide) _ _ _ rfl (hown.alloc _) ⟨wr.heap.size, 0, none⟩ 1 1 [.int .i64 D] rfl rfl ?c1 ?c2 ?c3 ?c4 ?c5 ?_))
      case c1 =>
        intro i u hi
        match i, hi with
        | 0, hi => simp at hi; subst hi; simp [Addr.add]
      case c2 => intro u hu; simp at hu; subst hu; rfl
      case c3 => unfold maxLen; omega
      case c4 => omega
      case c5 => have := hb.size; simp; omega
      · intro v' w1 hown' hgrow _
        have hb' := (hb.alloc (by have := hb.size; omega) (.cells #[.int .i64 D] 3)).grown hgrow (by have := hb.size; simp; omega) (fun k hk => (hown.alloc (.cells #[.int .i64 D] 3)).lt k hk |>.1)
        clear hgrow hown hb
        go_wp2
        go_roundw
        case rel => exact ⟨j + 1, by omega, by go_num, W.u64 (by rw [HS.out]), by simpa [W.split, HD.out] using hown', hb'⟩
        case measure => simp [intOf]; omega
    · have : j = 1 := by omega
      subst this
      go_wp2
      go_ret2
      exact ⟨_, rfl, hown, hb⟩
set_option maxHeartbeats 1000000 in
theorem split_32 (x X : Int) (hX : bits .and .u64 x (W.mk 32) = X) (hU : W.U X) (w : World) :
    Calls Try.prog 27 #[.int .u64 x, .int .i64 32] w fun e w' => ∃ v, e = .returned (.tuple #[v, .int .i64 0]) ∧ w'.ownsRow w.heap.size 3 1 v 2 ((W.split 2 X).map (Value.int .i64)) ∧ Below w.heap.size w w' := by
  obtain ⟨i0, hi, hz0, hz1, hz2⟩ := info_parts Try.infoI
  go_enter Try.func27, Try.ntmps27
  go_wp2_with (first | (go_at_call 48; refine (width_ok _ (by simp [W.ok]) _).mono ?_; rintro e w' ⟨rfl, rfl⟩) | (go_at_call 49; refine (mask_ok _ (by simp [W.ok]) _).mono ?_; rintro e w' ⟨rfl, rfl⟩))
  go_loopw [0, 6, 17] (fun y l k wr => ∃ j : Nat, j ≤ 2 ∧ k = .int .i64 j ∧ y = .int .u64 (W.dn j X) ∧ wr.ownsRow w.heap.size 3 1 l j ((W.split j X).map (Value.int .i64)) ∧ Below w.heap.size w wr) (fun _ _ k _ => 2 - (intOf k).toNat)
  case atStart => exact ⟨0, Nat.zero_le _, rfl, by rw [W.dn_zero], World.ownsRow_nil _ _ _ _, Below.refl _ _⟩
  case round =>
    obtain ⟨j, hj, rfl, rfl, hown, hb⟩ := hrel
    have hU' := W.dn_U j X hU
    obtain ⟨D, hD⟩ : ∃ D, D = W.dn j X % 65536 := ⟨_, rfl⟩
    have hd : bits .and .u64 (W.dn j X) 65535 = D := by rw [hD]; exact W.and65535 _ hU'.1 hU'.2
    have hD0 : 0 ≤ D := by omega
    have hD1 : D < 65536 := by omega
    have HD := Lib.hid hD; clear hD
    have HS := Lib.hid (W.dn_succ j X)
    by_cases hlt : j < 2
    · go_wp2_with (first | (at_builtin; refine wpList_append_own _ rfl _ _ 22 rfl w.heap.size 3 i0 (.int .i64 0) 1 8 Try.underlying22 hi hz0 hz1 hz2 rfl (by decide) _ _ _ rfl (hown.alloc _) ⟨wr.heap.size, 0, none⟩ 1 1 [.int .i64 D] rfl rfl ?c1 ?c2 ?c3 ?c4 ?c5 ?_))
      case c1 =>
        intro i u hi
        match i, hi with
        | 0, hi => simp at hi; subst hi; simp [Addr.add]
      case c2 => intro u hu; simp at hu; subst hu; rfl
      case c3 => unfold maxLen; omega
      case c4 => omega
      case c5 => have := hb.size; simp; omega
      · intro v' w1 hown' hgrow _
        have hb' := (hb.alloc (by have := hb.size; omega) (.cells #[.int .i64 D] 3)).grown hgrow (by have := hb.size; simp; omega) (fun k hk => (hown.alloc (.cells #[.int .i64 D] 3)).lt k hk |>.1)
        clear hgrow hown hb
        go_wp2
        go_roundw
        case rel => exact ⟨j + 1, by omega, by go_num, W.u64 (by rw [HS.out]), by simpa [W.split, HD.out] using hown', hb'⟩
        case measure => simp [intOf]; omega
    · have : j = 2 := by omega
      subst this
      go_wp2
      go_ret2
      exact ⟨_, rfl, hown, hb⟩
set_option maxHeartbeats 1000000 in
theorem split_64 (x X : Int) (hX : bits .and .u64 x (W.mk 64) = X) (hU : W.U X) (w : World) :
    Calls Try.prog 27 #[.int .u64 x, .int .i64 64] w fun e w' => ∃ v, e = .returned (.tuple #[v, .int .i64 0]) ∧ w'.ownsRow w.heap.size 3 1 v 4 ((W.split 4 X).map (Value.int .i64)) ∧ Below w.heap.size w w' := by
  obtain ⟨i0, hi, hz0, hz1, hz2⟩ := info_parts Try.infoI
  go_enter Try.func27, Try.ntmps27
  go_wp2_with (first | (go_at_call 48; refine (width_ok _ (by simp [W.ok]) _).mono ?_; rintro e w' ⟨rfl, rfl⟩) | (go_at_call 49; refine (mask_ok _ (by simp [W.ok]) _).mono ?_; rintro e w' ⟨rfl, rfl⟩))
  go_loopw [0, 6, 17] (fun y l k wr => ∃ j : Nat, j ≤ 4 ∧ k = .int .i64 j ∧ y = .int .u64 (W.dn j X) ∧ wr.ownsRow w.heap.size 3 1 l j ((W.split j X).map (Value.int .i64)) ∧ Below w.heap.size w wr) (fun _ _ k _ => 4 - (intOf k).toNat)
  case atStart => exact ⟨0, Nat.zero_le _, rfl, by rw [W.dn_zero], World.ownsRow_nil _ _ _ _, Below.refl _ _⟩
  case round =>
    obtain ⟨j, hj, rfl, rfl, hown, hb⟩ := hrel
    have hU' := W.dn_U j X hU
    obtain ⟨D, hD⟩ : ∃ D, D = W.dn j X % 65536 := ⟨_, rfl⟩
    have hd : bits .and .u64 (W.dn j X) 65535 = D := by rw [hD]; exact W.and65535 _ hU'.1 hU'.2
    have hD0 : 0 ≤ D := by omega
    have hD1 : D < 65536 := by omega
    have HD := Lib.hid hD; clear hD
    have HS := Lib.hid (W.dn_succ j X)
    by_cases hlt : j < 4
    · go_wp2_with (first | (at_builtin; refine wpList_append_own _ rfl _ _ 22 rfl w.heap.size 3 i0 (.int .i64 0) 1 8 Try.underlying22 hi hz0 hz1 hz2 rfl (by decide) _ _ _ rfl (hown.alloc _) ⟨wr.heap.size, 0, none⟩ 1 1 [.int .i64 D] rfl rfl ?c1 ?c2 ?c3 ?c4 ?c5 ?_))
      case c1 =>
        intro i u hi
        match i, hi with
        | 0, hi => simp at hi; subst hi; simp [Addr.add]
      case c2 => intro u hu; simp at hu; subst hu; rfl
      case c3 => unfold maxLen; omega
      case c4 => omega
      case c5 => have := hb.size; simp; omega
      · intro v' w1 hown' hgrow _
        have hb' := (hb.alloc (by have := hb.size; omega) (.cells #[.int .i64 D] 3)).grown hgrow (by have := hb.size; simp; omega) (fun k hk => (hown.alloc (.cells #[.int .i64 D] 3)).lt k hk |>.1)
        clear hgrow hown hb
        go_wp2
        go_roundw
        case rel => exact ⟨j + 1, by omega, by go_num, W.u64 (by rw [HS.out]), by simpa [W.split, HD.out] using hown', hb'⟩
        case measure => simp [intOf]; omega
    · have : j = 4 := by omega
      subst this
      go_wp2
      go_ret2
      exact ⟨_, rfl, hown, hb⟩

theorem split_ok (x v : Int) (h : W.ok v) (hx : W.U x) (w : World) :
    Calls Try.prog 27 #[.int .u64 x, .int .i64 v] w fun e w' => ∃ u, e = .returned (.tuple #[u, .int .i64 0]) ∧ w'.ownsRow w.heap.size 3 1 u (W.nw v) ((W.split (W.nw v) (W.cut v x)).map (Value.int .i64)) ∧ Below w.heap.size w w' := by
  rcases h with rfl | rfl | rfl | rfl
  · exact split_8 x _ (W.msk _ (by simp [W.ok]) x hx) (W.U_cut _ _) w
  · exact split_16 x _ (W.msk _ (by simp [W.ok]) x hx) (W.U_cut _ _) w
  · exact split_32 x _ (W.msk _ (by simp [W.ok]) x hx) (W.U_cut _ _) w
  · exact split_64 x _ (W.msk _ (by simp [W.ok]) x hx) (W.U_cut _ _) w
set_option maxHeartbeats 400000 in
theorem split_no (x v : Int) (h : ¬ W.ok v) (w : World) :
    Calls Try.prog 27 #[.int .u64 x, .int .i64 v] w fun e w' => e = .returned (.tuple #[.slice none 0 0, .int .i64 1]) ∧ w = w' := by
  go_enter Try.func27, Try.ntmps27
  go_wp2_with (first | (go_at_call 48; refine (width_no v h _).mono ?_; rintro e w' ⟨rfl, rfl⟩))
  go_ret2
  exact ⟨rfl, rfl⟩
end Go.Proofs.Ytfjgnhmmakeaeaa
