/- The document's machine: logic. -/
import Derived.Test.YtfjgnhmmakeaeaaB7
namespace Go.Proofs.Ytfjgnhmmakeaeaa
open Go.RowKit
set_option linter.unusedVariables false
set_option linter.unusedSimpArgs false
set_option maxRecDepth 100000
open Mc
/-- Two rows of sixteen bits, just laid. -/
theorem two_rows {w w2 : World} (h : Below w.heap.size w w2) (f g : Nat → Bool) (z1 z2 : Array Value) (hz1 : z1 = bitsA (fun _ => false)) (hz2 : z2 = bitsA (fun _ => false)) :
    Blk ((w2.alloc (.cells z1 113)).alloc (.cells z2 113)) w2.heap.size 113 (bitsA (fun _ => false)) ∧
    Blk (((w2.alloc (.cells z1 113)).alloc (.cells z2 113)).setRow w2.heap.size (bitsA f)) (w2.heap.size + 1) 113 (bitsA (fun _ => false)) ∧
    Blk ((((w2.alloc (.cells z1 113)).alloc (.cells z2 113)).setRow w2.heap.size (bitsA f)).setRow (w2.heap.size + 1) (bitsA g)) w2.heap.size 113 (bitsA f) ∧
    Blk ((((w2.alloc (.cells z1 113)).alloc (.cells z2 113)).setRow w2.heap.size (bitsA f)).setRow (w2.heap.size + 1) (bitsA g)) (w2.heap.size + 1) 113 (bitsA g) ∧
    Below w.heap.size w ((((w2.alloc (.cells z1 113)).alloc (.cells z2 113)).setRow w2.heap.size (bitsA f)).setRow (w2.heap.size + 1) (bitsA g)) := by
  subst hz1; subst hz2
  have hs := h.size
  have a1 : Blk ((w2.alloc (.cells (bitsA (fun _ => false)) 113)).alloc (.cells (bitsA (fun _ => false)) 113)) w2.heap.size 113 (bitsA (fun _ => false)) := (Blk.new w2 _ _).alloc _
  have a2 : Blk ((w2.alloc (.cells (bitsA (fun _ => false)) 113)).alloc (.cells (bitsA (fun _ => false)) 113)) (w2.heap.size + 1) 113 (bitsA (fun _ => false)) := by
    have := Blk.new (w2.alloc (.cells (bitsA (fun _ => false)) 113)) 113 (bitsA (fun _ => false))
    show Blk _ _ _ _
    simpa using this
  have b2 := a2.farRow (g' := w2.heap.size) (by omega) (bitsA f)
  have b1 := a1.row (bitsA f)
  refine ⟨a1, b2, b1.farRow (g' := w2.heap.size + 1) (by omega) (bitsA g), b2.row (bitsA g), ?_⟩
  exact Below.row (Below.row (Ext.alloc (Ext.alloc h _) _) hs _) (by omega) _
set_option maxHeartbeats 8000000 in
theorem logic9 (x y : Int) (hx : 0 ≤ x ∧ x < 65536) (hy : 0 ≤ y ∧ y < 65536) (w : World) :
    Calls Try.prog 67 #[.int .i64 9, .int .i64 x, .int .i64 y] w fun e w' => e = .returned (.int .i64 (Mc.twoR 9 x y false)) ∧ Below w.heap.size w w' := by
  have CX : Hid (∀ w1 : World, Calls Try.prog 68 #[.int .i64 x] w1 fun e w' => e = .returned (.agg (bitsA (bit x))) ∧ Below w1.heap.size w1 w') := fun w1 => bits_ok x hx.1 hx.2 w1
  have CY : Hid (∀ w1 : World, Calls Try.prog 68 #[.int .i64 y] w1 fun e w' => e = .returned (.agg (bitsA (bit y))) ∧ Below w1.heap.size w1 w') := fun w1 => bits_ok y hy.1 hy.2 w1
  have HLG := Lib.hid (Mc.lg_is 9 x y false (by decide) hx hy)
  clear hx hy
  go_enter Try.func67, Try.ntmps67
  go_upto_region 2 with (first | (go_at_call_of 68 (Value.int IntKind.i64 x); refine (CX.out _).mono ?_; rintro e w1 ⟨rfl, hb1⟩; have HB1 := Lib.hid hb1; clear hb1) | (go_at_call_of 68 (Value.int IntKind.i64 y); refine (CY.out _).mono ?_; rintro e w2 ⟨rfl, hb2⟩; have HS := Lib.hid (Nat.le_trans HB1.out.size hb2.size); have HR := Lib.hid (two_rows (HB1.out.trans (hb2.mono HB1.out.size)) (bit x) (bit y) _ _ rfl rfl); clear hb2) | (refine wpList_store_row rfl 113 _ _ rfl w2.heap.size (bitsA (bit x)) rfl rfl 113 (bitsA (fun _ => false)) HR.out.1 (by kernel_rfl) (by rw [bitsA_size, bitsA_size]) (bitsA_one _) ?_) | (refine wpList_store_row rfl 113 _ _ rfl (w2.heap.size + 1) (bitsA (bit y)) rfl rfl 113 (bitsA (fun _ => false)) HR.out.2.1 (by kernel_rfl) (by rw [bitsA_size, bitsA_size]) (bitsA_one _) ?_))
  generalize hw0 : World.setRow (World.setRow _ _ _) _ _ = w0
  obtain ⟨hp, hq, hb⟩ := HR.out.2.2
  have HP : Hid (Blk w0 w2.heap.size 113 (bitsA (bit x))) := by rw [← hw0]; exact hp
  have HQ : Hid (Blk w0 (w2.heap.size + 1) 113 (bitsA (bit y))) := by rw [← hw0]; exact hq
  have HB0 : Hid (Below w.heap.size w w0) := by rw [← hw0]; exact hb
  have HS2 : Hid (w.heap.size ≤ w2.heap.size) := HS
  clear hw0 HR hp hq hb HB1 HS
  generalize w2.heap.size = gp at *
  obtain ⟨F, hF⟩ : ∃ F : Nat → Bool, F = fun j => lg 9 (bit x j) (bit y j) := ⟨_, rfl⟩
  have CN : Hid (∀ w1 : World, Calls Try.prog 69 #[.agg (bitsA F)] w1 fun e w' => e = .returned (.int .i64 (Mc.twoR 9 x y false)) ∧ Below w1.heap.size w1 w') := fun w1 => by rw [← HLG.out, ← hF]; exact number_ok F w1
  have HF := Lib.hid hF
  clear hF HLG CX CY
  have hg1 : ¬ gp + 1 = gp := by omega
  have hg2 : ¬ gp = gp + 1 := by omega
  go_wp2
  go_loopw [9, 14] (fun _ i wr => ∃ k : Nat, k ≤ 16 ∧ i = .int .i64 (k : Int) ∧ Hid (Blk wr gp 113 (bitsA (fun j => if j < k then F j else bit x j))) ∧ Hid (Blk wr (gp + 1) 113 (bitsA (bit y))) ∧ Hid (Below w.heap.size w wr)) (fun _ i _ => 16 - (intOf i).toNat)
  case atStart => exact ⟨0, by omega, rfl, (by rw [show (fun j => if j < 0 then F j else bit x j) = bit x from by funext j; simp]; exact HP), HQ, HB0⟩
  case round =>
    obtain ⟨k, hk, rfl, hp, hq, hbw⟩ := hrel
    by_cases hlt : k < 16
    · obtain ⟨BX, hBX⟩ : ∃ b, b = bit x k := ⟨_, rfl⟩
      obtain ⟨BY, hBY⟩ : ∃ b, b = bit y k := ⟨_, rfl⟩
      have cp : wr.cell? ⟨gp, k, none⟩ = some (.bool BX) := by rw [hp.out.cell, bitsA_at _ k hlt, if_neg (by omega), hBX]
      have fp := hp.out.frozen k
      have cq : wr.cell? ⟨gp + 1, k, none⟩ = some (.bool BY) := by rw [hq.out.cell, bitsA_at _ k hlt, hBY]
      have hnext : Hid (∀ v, v = lg 9 BX BY → Blk (wr.setCell ⟨gp, k, none⟩ (.bool v)) gp 113 (bitsA (fun j => if j < k + 1 then F j else bit x j))) := fun v hv => by
        have := hp.out.set_ k (.bool v)
        rw [bitsA_set _ (fun j => if j < k + 1 then F j else bit x j) k v (by rw [if_pos (by omega), hv, hBX, hBY, HF.out]) (fun j hj => by
          by_cases h : j < k
          · rw [if_pos h, if_pos (by omega)]
          · rw [if_neg h, if_neg (by omega)])] at this
        exact this
      have hq2 : Hid (∀ v : Value, Blk (wr.setCell ⟨gp, k, none⟩ v) (gp + 1) 113 (bitsA (bit y)) ∧ Below w.heap.size w (wr.setCell ⟨gp, k, none⟩ v)) := fun v => ⟨hq.out.far hg1 v, Below.setCell hbw.out (p := ⟨gp, k, none⟩) HS2.out _⟩
      clear hBX hBY hp hq hbw HP HQ HB0
      cases BX
      · go_wp2
        go_roundw
        case rel => exact ⟨k + 1, by omega, by go_num, (by apply hnext.out; rfl), (hq2.out _).1, (hq2.out _).2⟩
        case measure => (simp [intOf]; try omega)
      · go_wp2
        go_roundw
        case rel => exact ⟨k + 1, by omega, by go_num, (by apply hnext.out; rfl), (hq2.out _).1, (hq2.out _).2⟩
        case measure => (simp [intOf]; try omega)
    · have hk16 : k = 16 := by omega
      subst hk16
      have HE : Hid (Blk wr gp 113 (bitsA F)) := by
        have e : bitsA (fun j => if j < 16 then F j else bit x j) = bitsA F := by
          have e2 : (List.range 16).map (fun j => Value.bool (if j < 16 then F j else bit x j)) = (List.range 16).map (fun j => Value.bool (F j)) := List.map_congr_left (fun j hj => by rw [List.mem_range] at hj; simp [hj])
          unfold bitsA; rw [e2]
        rw [← e]; exact hp.out
      clear hp hq HP HQ HB0
      go_wp2_with (first | (refine wpList_load_row rfl 113 _ rfl gp rfl 113 (bitsA F) (0, 0) _ HE.out Try.underlying113 rfl (by kernel_rfl) ?_) | (go_at_call 69; refine (CN.out _).mono ?_; rintro e w3 ⟨rfl, hb3⟩; have HB3 := Lib.hid hb3; clear hb3))
      go_ret
      exact ⟨rfl, hbw.out.trans (HB3.out.mono hbw.out.size)⟩
set_option maxHeartbeats 8000000 in
theorem logic10 (x y : Int) (hx : 0 ≤ x ∧ x < 65536) (hy : 0 ≤ y ∧ y < 65536) (w : World) :
    Calls Try.prog 67 #[.int .i64 10, .int .i64 x, .int .i64 y] w fun e w' => e = .returned (.int .i64 (Mc.twoR 10 x y false)) ∧ Below w.heap.size w w' := by
  have CX : Hid (∀ w1 : World, Calls Try.prog 68 #[.int .i64 x] w1 fun e w' => e = .returned (.agg (bitsA (bit x))) ∧ Below w1.heap.size w1 w') := fun w1 => bits_ok x hx.1 hx.2 w1
  have CY : Hid (∀ w1 : World, Calls Try.prog 68 #[.int .i64 y] w1 fun e w' => e = .returned (.agg (bitsA (bit y))) ∧ Below w1.heap.size w1 w') := fun w1 => bits_ok y hy.1 hy.2 w1
  have HLG := Lib.hid (Mc.lg_is 10 x y false (by decide) hx hy)
  clear hx hy
  go_enter Try.func67, Try.ntmps67
  go_upto_region 2 with (first | (go_at_call_of 68 (Value.int IntKind.i64 x); refine (CX.out _).mono ?_; rintro e w1 ⟨rfl, hb1⟩; have HB1 := Lib.hid hb1; clear hb1) | (go_at_call_of 68 (Value.int IntKind.i64 y); refine (CY.out _).mono ?_; rintro e w2 ⟨rfl, hb2⟩; have HS := Lib.hid (Nat.le_trans HB1.out.size hb2.size); have HR := Lib.hid (two_rows (HB1.out.trans (hb2.mono HB1.out.size)) (bit x) (bit y) _ _ rfl rfl); clear hb2) | (refine wpList_store_row rfl 113 _ _ rfl w2.heap.size (bitsA (bit x)) rfl rfl 113 (bitsA (fun _ => false)) HR.out.1 (by kernel_rfl) (by rw [bitsA_size, bitsA_size]) (bitsA_one _) ?_) | (refine wpList_store_row rfl 113 _ _ rfl (w2.heap.size + 1) (bitsA (bit y)) rfl rfl 113 (bitsA (fun _ => false)) HR.out.2.1 (by kernel_rfl) (by rw [bitsA_size, bitsA_size]) (bitsA_one _) ?_))
  generalize hw0 : World.setRow (World.setRow _ _ _) _ _ = w0
  obtain ⟨hp, hq, hb⟩ := HR.out.2.2
  have HP : Hid (Blk w0 w2.heap.size 113 (bitsA (bit x))) := by rw [← hw0]; exact hp
  have HQ : Hid (Blk w0 (w2.heap.size + 1) 113 (bitsA (bit y))) := by rw [← hw0]; exact hq
  have HB0 : Hid (Below w.heap.size w w0) := by rw [← hw0]; exact hb
  have HS2 : Hid (w.heap.size ≤ w2.heap.size) := HS
  clear hw0 HR hp hq hb HB1 HS
  generalize w2.heap.size = gp at *
  obtain ⟨F, hF⟩ : ∃ F : Nat → Bool, F = fun j => lg 10 (bit x j) (bit y j) := ⟨_, rfl⟩
  have CN : Hid (∀ w1 : World, Calls Try.prog 69 #[.agg (bitsA F)] w1 fun e w' => e = .returned (.int .i64 (Mc.twoR 10 x y false)) ∧ Below w1.heap.size w1 w') := fun w1 => by rw [← HLG.out, ← hF]; exact number_ok F w1
  have HF := Lib.hid hF
  clear hF HLG CX CY
  have hg1 : ¬ gp + 1 = gp := by omega
  have hg2 : ¬ gp = gp + 1 := by omega
  go_wp2
  go_loopw [9, 14] (fun _ i wr => ∃ k : Nat, k ≤ 16 ∧ i = .int .i64 (k : Int) ∧ Hid (Blk wr gp 113 (bitsA (fun j => if j < k then F j else bit x j))) ∧ Hid (Blk wr (gp + 1) 113 (bitsA (bit y))) ∧ Hid (Below w.heap.size w wr)) (fun _ i _ => 16 - (intOf i).toNat)
  case atStart => exact ⟨0, by omega, rfl, (by rw [show (fun j => if j < 0 then F j else bit x j) = bit x from by funext j; simp]; exact HP), HQ, HB0⟩
  case round =>
    obtain ⟨k, hk, rfl, hp, hq, hbw⟩ := hrel
    by_cases hlt : k < 16
    · obtain ⟨BX, hBX⟩ : ∃ b, b = bit x k := ⟨_, rfl⟩
      obtain ⟨BY, hBY⟩ : ∃ b, b = bit y k := ⟨_, rfl⟩
      have cp : wr.cell? ⟨gp, k, none⟩ = some (.bool BX) := by rw [hp.out.cell, bitsA_at _ k hlt, if_neg (by omega), hBX]
      have fp := hp.out.frozen k
      have cq : wr.cell? ⟨gp + 1, k, none⟩ = some (.bool BY) := by rw [hq.out.cell, bitsA_at _ k hlt, hBY]
      have hnext : Hid (∀ v, v = lg 10 BX BY → Blk (wr.setCell ⟨gp, k, none⟩ (.bool v)) gp 113 (bitsA (fun j => if j < k + 1 then F j else bit x j))) := fun v hv => by
        have := hp.out.set_ k (.bool v)
        rw [bitsA_set _ (fun j => if j < k + 1 then F j else bit x j) k v (by rw [if_pos (by omega), hv, hBX, hBY, HF.out]) (fun j hj => by
          by_cases h : j < k
          · rw [if_pos h, if_pos (by omega)]
          · rw [if_neg h, if_neg (by omega)])] at this
        exact this
      have hq2 : Hid (∀ v : Value, Blk (wr.setCell ⟨gp, k, none⟩ v) (gp + 1) 113 (bitsA (bit y)) ∧ Below w.heap.size w (wr.setCell ⟨gp, k, none⟩ v)) := fun v => ⟨hq.out.far hg1 v, Below.setCell hbw.out (p := ⟨gp, k, none⟩) HS2.out _⟩
      clear hBX hBY hp hq hbw HP HQ HB0
      cases BX
      · go_wp2
        go_roundw
        case rel => exact ⟨k + 1, by omega, by go_num, (by apply hnext.out; rfl), (hq2.out _).1, (hq2.out _).2⟩
        case measure => (simp [intOf]; try omega)
      · go_wp2
        go_roundw
        case rel => exact ⟨k + 1, by omega, by go_num, (by apply hnext.out; rfl), (hq2.out _).1, (hq2.out _).2⟩
        case measure => (simp [intOf]; try omega)
    · have hk16 : k = 16 := by omega
      subst hk16
      have HE : Hid (Blk wr gp 113 (bitsA F)) := by
        have e : bitsA (fun j => if j < 16 then F j else bit x j) = bitsA F := by
          have e2 : (List.range 16).map (fun j => Value.bool (if j < 16 then F j else bit x j)) = (List.range 16).map (fun j => Value.bool (F j)) := List.map_congr_left (fun j hj => by rw [List.mem_range] at hj; simp [hj])
          unfold bitsA; rw [e2]
        rw [← e]; exact hp.out
      clear hp hq HP HQ HB0
      go_wp2_with (first | (refine wpList_load_row rfl 113 _ rfl gp rfl 113 (bitsA F) (0, 0) _ HE.out Try.underlying113 rfl (by kernel_rfl) ?_) | (go_at_call 69; refine (CN.out _).mono ?_; rintro e w3 ⟨rfl, hb3⟩; have HB3 := Lib.hid hb3; clear hb3))
      go_ret
      exact ⟨rfl, hbw.out.trans (HB3.out.mono hbw.out.size)⟩
set_option maxHeartbeats 8000000 in
theorem logic11 (x y : Int) (hx : 0 ≤ x ∧ x < 65536) (hy : 0 ≤ y ∧ y < 65536) (w : World) :
    Calls Try.prog 67 #[.int .i64 11, .int .i64 x, .int .i64 y] w fun e w' => e = .returned (.int .i64 (Mc.twoR 11 x y false)) ∧ Below w.heap.size w w' := by
  have CX : Hid (∀ w1 : World, Calls Try.prog 68 #[.int .i64 x] w1 fun e w' => e = .returned (.agg (bitsA (bit x))) ∧ Below w1.heap.size w1 w') := fun w1 => bits_ok x hx.1 hx.2 w1
  have CY : Hid (∀ w1 : World, Calls Try.prog 68 #[.int .i64 y] w1 fun e w' => e = .returned (.agg (bitsA (bit y))) ∧ Below w1.heap.size w1 w') := fun w1 => bits_ok y hy.1 hy.2 w1
  have HLG := Lib.hid (Mc.lg_is 11 x y false (by decide) hx hy)
  clear hx hy
  go_enter Try.func67, Try.ntmps67
  go_upto_region 2 with (first | (go_at_call_of 68 (Value.int IntKind.i64 x); refine (CX.out _).mono ?_; rintro e w1 ⟨rfl, hb1⟩; have HB1 := Lib.hid hb1; clear hb1) | (go_at_call_of 68 (Value.int IntKind.i64 y); refine (CY.out _).mono ?_; rintro e w2 ⟨rfl, hb2⟩; have HS := Lib.hid (Nat.le_trans HB1.out.size hb2.size); have HR := Lib.hid (two_rows (HB1.out.trans (hb2.mono HB1.out.size)) (bit x) (bit y) _ _ rfl rfl); clear hb2) | (refine wpList_store_row rfl 113 _ _ rfl w2.heap.size (bitsA (bit x)) rfl rfl 113 (bitsA (fun _ => false)) HR.out.1 (by kernel_rfl) (by rw [bitsA_size, bitsA_size]) (bitsA_one _) ?_) | (refine wpList_store_row rfl 113 _ _ rfl (w2.heap.size + 1) (bitsA (bit y)) rfl rfl 113 (bitsA (fun _ => false)) HR.out.2.1 (by kernel_rfl) (by rw [bitsA_size, bitsA_size]) (bitsA_one _) ?_))
  generalize hw0 : World.setRow (World.setRow _ _ _) _ _ = w0
  obtain ⟨hp, hq, hb⟩ := HR.out.2.2
  have HP : Hid (Blk w0 w2.heap.size 113 (bitsA (bit x))) := by rw [← hw0]; exact hp
  have HQ : Hid (Blk w0 (w2.heap.size + 1) 113 (bitsA (bit y))) := by rw [← hw0]; exact hq
  have HB0 : Hid (Below w.heap.size w w0) := by rw [← hw0]; exact hb
  have HS2 : Hid (w.heap.size ≤ w2.heap.size) := HS
  clear hw0 HR hp hq hb HB1 HS
  generalize w2.heap.size = gp at *
  obtain ⟨F, hF⟩ : ∃ F : Nat → Bool, F = fun j => lg 11 (bit x j) (bit y j) := ⟨_, rfl⟩
  have CN : Hid (∀ w1 : World, Calls Try.prog 69 #[.agg (bitsA F)] w1 fun e w' => e = .returned (.int .i64 (Mc.twoR 11 x y false)) ∧ Below w1.heap.size w1 w') := fun w1 => by rw [← HLG.out, ← hF]; exact number_ok F w1
  have HF := Lib.hid hF
  clear hF HLG CX CY
  have hg1 : ¬ gp + 1 = gp := by omega
  have hg2 : ¬ gp = gp + 1 := by omega
  go_wp2
  go_loopw [9, 14] (fun _ i wr => ∃ k : Nat, k ≤ 16 ∧ i = .int .i64 (k : Int) ∧ Hid (Blk wr gp 113 (bitsA (fun j => if j < k then F j else bit x j))) ∧ Hid (Blk wr (gp + 1) 113 (bitsA (bit y))) ∧ Hid (Below w.heap.size w wr)) (fun _ i _ => 16 - (intOf i).toNat)
  case atStart => exact ⟨0, by omega, rfl, (by rw [show (fun j => if j < 0 then F j else bit x j) = bit x from by funext j; simp]; exact HP), HQ, HB0⟩
  case round =>
    obtain ⟨k, hk, rfl, hp, hq, hbw⟩ := hrel
    by_cases hlt : k < 16
    · obtain ⟨BX, hBX⟩ : ∃ b, b = bit x k := ⟨_, rfl⟩
      obtain ⟨BY, hBY⟩ : ∃ b, b = bit y k := ⟨_, rfl⟩
      have cp : wr.cell? ⟨gp, k, none⟩ = some (.bool BX) := by rw [hp.out.cell, bitsA_at _ k hlt, if_neg (by omega), hBX]
      have fp := hp.out.frozen k
      have cq : wr.cell? ⟨gp + 1, k, none⟩ = some (.bool BY) := by rw [hq.out.cell, bitsA_at _ k hlt, hBY]
      have hnext : Hid (∀ v, v = lg 11 BX BY → Blk (wr.setCell ⟨gp, k, none⟩ (.bool v)) gp 113 (bitsA (fun j => if j < k + 1 then F j else bit x j))) := fun v hv => by
        have := hp.out.set_ k (.bool v)
        rw [bitsA_set _ (fun j => if j < k + 1 then F j else bit x j) k v (by rw [if_pos (by omega), hv, hBX, hBY, HF.out]) (fun j hj => by
          by_cases h : j < k
          · rw [if_pos h, if_pos (by omega)]
          · rw [if_neg h, if_neg (by omega)])] at this
        exact this
      have hq2 : Hid (∀ v : Value, Blk (wr.setCell ⟨gp, k, none⟩ v) (gp + 1) 113 (bitsA (bit y)) ∧ Below w.heap.size w (wr.setCell ⟨gp, k, none⟩ v)) := fun v => ⟨hq.out.far hg1 v, Below.setCell hbw.out (p := ⟨gp, k, none⟩) HS2.out _⟩
      clear hBX hBY hp hq hbw HP HQ HB0
      go_wp2
      refine Rg.wp_region [] (by kernel_rfl) (by kernel_rfl) ?_
      repeat (first | (refine Rg.wpL_nil ?_) | (refine Rg.wpL_skip rfl ?_; simp only [Act.put, List.setIfInBounds_toArray, List.set_cons_zero, List.set_cons_succ]) | (refine Rg.wpL_q rfl rfl (fun K hK => ?_); go_big_quiet_op; refine hK _ ?_; clear hK K) | (refine Rg.wpL_w rfl rfl (fun K hK => ?_); go_wp2_with (first | fail | fail)))
      go_wp2
      go_roundw
      case rel => exact ⟨k + 1, by omega, by go_num, (by apply hnext.out; rfl), (hq2.out _).1, Below.drew (hq2.out _).2⟩
      case measure => (simp [intOf]; try omega)
    · have hk16 : k = 16 := by omega
      subst hk16
      have HE : Hid (Blk wr gp 113 (bitsA F)) := by
        have e : bitsA (fun j => if j < 16 then F j else bit x j) = bitsA F := by
          have e2 : (List.range 16).map (fun j => Value.bool (if j < 16 then F j else bit x j)) = (List.range 16).map (fun j => Value.bool (F j)) := List.map_congr_left (fun j hj => by rw [List.mem_range] at hj; simp [hj])
          unfold bitsA; rw [e2]
        rw [← e]; exact hp.out
      clear hp hq HP HQ HB0
      go_wp2_with (first | (refine wpList_load_row rfl 113 _ rfl gp rfl 113 (bitsA F) (0, 0) _ HE.out Try.underlying113 rfl (by kernel_rfl) ?_) | (go_at_call 69; refine (CN.out _).mono ?_; rintro e w3 ⟨rfl, hb3⟩; have HB3 := Lib.hid hb3; clear hb3))
      go_ret
      exact ⟨rfl, hbw.out.trans (HB3.out.mono hbw.out.size)⟩
end Go.Proofs.Ytfjgnhmmakeaeaa
