/- emu.Run, whole. -/
import Derived.Test.YtfjgnhmmakeaeaaE27
namespace Go.Proofs.Ytfjgnhmmakeaeaa
open Go.RowKit
set_option linter.unusedVariables false
set_option linter.unusedSimpArgs false
set_option maxRecDepth 100000
open Mc

/-- Nothing is wrong: what this says. -/
theorem wary_zero {nC nI : Nat} {r0 r1 r2 r3 r4 r5 r6 r7 pc fuel : Int} {ms : List Int} (h : Mc.wary nC nI (Mc.wr [r0, r1, r2, r3, r4, r5, r6, r7] pc ms) fuel = 0) :
    nC ≤ 65536 ∧ nI ≤ 65536 ∧ ms.length ≤ 65536 ∧ (0 ≤ fuel ∧ fuel ≤ 1000000) ∧ (∀ x ∈ [r0, r1, r2, r3, r4, r5, r6, r7], Wd x) ∧ Wd pc ∧ ∀ x ∈ ms, Wd x := by
  unfold Mc.wary at h
  split at h
  · exact absurd h (by decide)
  rename_i h1
  split at h
  · rename_i h2; exact absurd h h2
  rename_i h2
  have h2 : Mc.wr [r0, r1, r2, r3, r4, r5, r6, r7] pc ms = 0 := by
    rcases Classical.em (Mc.wr [r0, r1, r2, r3, r4, r5, r6, r7] pc ms = 0) with h | h
    · exact h
    · exact absurd h h2
  split at h
  · exact absurd h (by decide)
  rename_i h3
  unfold Mc.wr at h2
  split at h2
  · exact absurd h2 (by decide)
  rename_i h4
  split at h2
  · rename_i h5
    rw [List.all_eq_true] at h5
    have hin : ∀ x, x ∈ [r0, r1, r2, r3, r4, r5, r6, r7] ++ [pc] ++ ms → Wd x := fun x hx => by have := h5 x hx; unfold Mc.inr at this; have h6 := of_decide_eq_true this; exact h6
    exact ⟨by omega, by omega, by omega, by omega, fun x hx => hin x (by simp only [List.mem_append]; exact .inl (.inl hx)), hin pc (by simp), fun x hx => hin x (by simp only [List.mem_append]; exact .inr hx)⟩
  · exact absurd h2 (by decide)
theorem begin_fine {nI : Nat} {r0 r1 r2 r3 r4 r5 r6 r7 pc : Int} {c z n v : Bool} {ms : List Int} (hr : ∀ x ∈ [r0, r1, r2, r3, r4, r5, r6, r7], Wd x) (hp : Wd pc) (hm : ∀ x ∈ ms, Wd x) : Mc.Fine nI (Mc.begin (reg8 r0 r1 r2 r3 r4 r5 r6 r7) c z n v pc ms) := by
  refine ⟨⟨fun k hk => ?_, hp, fun j hj => ?_⟩, by show 0 ≤ _; omega, Nat.zero_le _⟩
  · show Wd (reg8 r0 r1 r2 r3 r4 r5 r6 r7 k)
    unfold reg8
    rw [List.getD_eq_getElem?_getD, List.getElem?_eq_getElem (by simpa using hk)]
    exact hr _ (List.getElem_mem _)
  · show Wd (memOf ms j)
    unfold memOf
    rw [List.getD_eq_getElem?_getD]
    rcases Nat.lt_or_ge j ms.length with h | h
    · rw [List.getElem?_eq_getElem h]; exact hm _ (List.getElem_mem _)
    · rw [List.getElem?_eq_none h]; exact ⟨Int.le_refl 0, show (0 : Int) < 65536 by decide⟩
/-- The machine's state after a run. -/
def Mc.ends (cd inp : List Int) (fuel : Int) (r0 r1 r2 r3 r4 r5 r6 r7 : Int) (c z n v : Bool) (pc : Int) (ms : List Int) : St := (go Mc.alone cd inp fuel.toNat (Mc.begin (reg8 r0 r1 r2 r3 r4 r5 r6 r7) c z n v pc ms) ()).1
/-- What a run gives: what is wrong, or what came of it. -/
def RunR (E1 : Int) (F : St) (w : World) (e : Ending) (w' : World) : Prop :=
  (E1 ≠ 0 ∧ e = .returned (.tuple #[ranZ, .int .i64 E1]) ∧ Below w.heap.size w w') ∨
  (E1 = 0 ∧ ∃ ov mv, e = .returned (.tuple #[ranV F ov mv, .int .i64 0]) ∧ w'.ownsRow w.heap.size 5 1 ov F.out.length (F.out.map (Value.int .u8)) ∧ w'.ownsRow w.heap.size 3 1 mv (top F.mem MS) ((left F.mem).map (Value.int .i64)) ∧ F.out.length ≤ 65536 ∧ Below w.heap.size w w')
theorem watch_ok (cv iv mv : Value) (nC nI mn : Nat) (r0 r1 r2 r3 r4 r5 r6 r7 pc fuel : Int) (c z n v : Bool) (cd inp ms : List Int) (w : World)
    (hc : Rd w 1 cv nC (cd.map (Value.int .i64))) (hi : Rd w 1 iv nI (inp.map (Value.int .u8))) (hm : Rd w 1 mv mn (ms.map (Value.int .i64))) (hby : ∀ x ∈ inp, 0 ≤ x ∧ x < 256) :
    Calls Try.prog 43 #[cv, stV r0 r1 r2 r3 r4 r5 r6 r7 c z n v pc mv, iv, .int .i64 fuel, .nilFunc, .nilFunc] w (RunR (Mc.wary nC nI (Mc.wr [r0, r1, r2, r3, r4, r5, r6, r7] pc ms) fuel) (Mc.ends cd inp fuel r0 r1 r2 r3 r4 r5 r6 r7 c z n v pc ms) w) := by
  obtain ⟨_, hmC, ca, cc, rfl, _, _⟩ := hc.ints
  obtain ⟨_, hmI, ia, ic, rfl, _, _⟩ := hi.ints
  obtain ⟨hml, hmM, ma, mc, rfl, _, _⟩ := hm.ints
  have hw : ∀ w1 : World, Below w.heap.size w w1 → Calls Try.prog 61 #[.slice ca nC cc, stV r0 r1 r2 r3 r4 r5 r6 r7 c z n v pc (.slice ma mn mc), .slice ia nI ic, .int .i64 fuel] w1 fun e w' => e = .returned (.int .i64 (Mc.wary nC nI (Mc.wr [r0, r1, r2, r3, r4, r5, r6, r7] pc ms) fuel)) ∧ Below w1.heap.size w1 w' := fun w1 hb =>
    wary_ok _ _ nC nI ca ia cc ic rfl rfl (by unfold maxLen at hmC; omega) (by unfold maxLen at hmI; omega) r0 r1 r2 r3 r4 r5 r6 r7 pc fuel c z n v _ mn ms w1 (hm.below hb)
  by_cases h0 : Mc.wary nC nI (Mc.wr [r0, r1, r2, r3, r4, r5, r6, r7] pc ms) fuel = 0
  · obtain ⟨h1, h2, h3, h4, h5, h6, h7⟩ := wary_zero h0
    rw [h0] at hw
    refine (watch_run ca ia ma nC cc nI ic mn mc r0 r1 r2 r3 r4 r5 r6 r7 pc fuel c z n v cd inp ms w hw hc hi hm h1 h2 (by omega) hby h4 (begin_fine h5 h6 h7) (Mc.ends cd inp fuel r0 r1 r2 r3 r4 r5 r6 r7 c z n v pc ms) rfl).mono ?_
    rintro e w' ⟨ov, mv, he, q1, q2, q3⟩
    exact .inr ⟨h0, ov, mv, he, q1, q2, q3⟩
  · refine (watch_wrong _ _ _ h0 r0 r1 r2 r3 r4 r5 r6 r7 pc fuel c z n v _ .nilFunc .nilFunc w hw ⟨_, _, _, rfl⟩).mono ?_
    rintro e w' ⟨he, hb⟩
    exact .inl ⟨h0, he, hb⟩
theorem ranL_one2 (s : St) (ov mv : Value) (h1 : ov.oneCell' = true) (h2 : mv.oneCell' = true) : ((ranL s ov mv).toArray).all (·.oneCell') = true := by
  simp only [List.all_toArray, List.all_cons, List.all_nil, h1, h2]; rfl
theorem own_lowRow {w : World} {base e size : Nat} {v : Value} {n : Nat} {xs : List Value} (h : w.ownsRow base e size v n xs) {g : Nat} (hg : g < base) (cs' : Array Value) : (w.setRow g cs').ownsRow base e size v n xs := by
  obtain ⟨hl, h2⟩ := h
  refine ⟨hl, ?_⟩
  rcases h2 with ⟨rfl, rfl⟩ | ⟨g', cap, cur, rfl, hbb, hg', hc, hm, hsz, htake⟩
  · exact .inl ⟨rfl, rfl⟩
  · exact .inr ⟨g', cap, cur, rfl, hbb, (setRow_other w g g' cs' (by omega)).trans hg', hc, hm, hsz, htake⟩
theorem own_one {w : World} {base e size : Nat} {v : Value} {n : Nat} {xs : List Value} (h : w.ownsRow base e size v n xs) : v.oneCell' = true := by
  obtain ⟨a, c, rfl, _⟩ := own_slice h; rfl
set_option maxHeartbeats 4000000 in
/-- A run, what Watch gives being known. -/
theorem run_at (cv iv : Value) (ma : Option Addr) (mn mc : Nat) (r0 r1 r2 r3 r4 r5 r6 r7 pc fuel E1 : Int) (c z n v : Bool) (rl : World → List Value → Prop) (w : World)
    (hone : ∀ w' l, rl w' l → l.toArray.all (·.oneCell') = true ∧ l.length = 19)
    (CW : ∀ w1 : World, Below w.heap.size w w1 → w1.heap.size = w.heap.size + 2 → Calls Try.prog 43 #[cv, stV r0 r1 r2 r3 r4 r5 r6 r7 c z n v pc (.slice ma mn mc), iv, .int .i64 fuel, .nilFunc, .nilFunc] w1 (fun e w' => ∃ l, e = .returned (.tuple #[.agg l.toArray, .int .i64 E1]) ∧ rl w' l ∧ Below w1.heap.size w1 w')) :
    Calls Try.prog 15 #[cv, stV r0 r1 r2 r3 r4 r5 r6 r7 c z n v pc (.slice ma mn mc), iv, .int .i64 fuel] w (fun e w' => ∃ l wx, e = .returned (.tuple #[.agg l.toArray, .int .i64 E1]) ∧ rl wx l ∧ w' = wx.setRow (w.heap.size + 1) l.toArray ∧ Below w.heap.size w w') := by
  have HCW := Lib.hid CW
  have HONE := Lib.hid hone
  clear CW hone
  have HZ0 : Hid (Blk ((w.alloc (.cells (stC r0 r1 r2 r3 r4 r5 r6 r7 c z n v pc (.slice ma mn mc)) 27)).alloc (.cells ranZc 30)) (w.heap.size + 1) 30 ranZc) := by
    have := Blk.new (w.alloc (.cells (stC r0 r1 r2 r3 r4 r5 r6 r7 c z n v pc (.slice ma mn mc)) 27)) 30 ranZc
    show Blk _ _ _ _
    simpa using this
  have HW0 : Hid (Below w.heap.size w ((w.alloc (.cells (stC r0 r1 r2 r3 r4 r5 r6 r7 c z n v pc (.slice ma mn mc)) 27)).alloc (.cells ranZc 30))) := Ext.alloc (Ext.alloc (Below.refl _ _) _) _
  go_enter Try.func15, Try.ntmps15
  go_wp2_with (first | (go_at_call 43; refine (HCW.out _ HW0.out (by simp)).mono ?_; rintro e wx ⟨l, rfl, hl, hbx⟩; have HL := Lib.hid hl; have HZ1 := Lib.hid (HZ0.out.keep hbx); have HB1 := Lib.hid (Ext.trans HW0.out hbx); have HO := Lib.hid (HONE.out _ _ hl); clear hl hbx) | (refine wpList_store_row rfl 30 _ _ rfl (w.heap.size + 1) l.toArray rfl rfl 30 ranZc HZ1.out (by rw [List.size_toArray, HO.out.2]; kernel_rfl) (by simp [HO.out.2]) HO.out.1 ?_))
  exact bodyPost_ret (results_cell2 rfl _ _ (w.heap.size + 1) 30 l.toArray (0, 0) _ rfl (HZ1.out.row _) Try.underlying30 rfl (by rw [List.size_toArray, HO.out.2]; kernel_rfl)) rfl ⟨l, wx, rfl, HL.out, rfl, Below.row HB1.out (Nat.le_succ _) _⟩
/-- THE RUN. -/
theorem run_ok (cv iv mv : Value) (nC nI mn : Nat) (r0 r1 r2 r3 r4 r5 r6 r7 pc fuel : Int) (c z n v : Bool) (cd inp ms : List Int) (w : World)
    (hc : Rd w 1 cv nC (cd.map (Value.int .i64))) (hi : Rd w 1 iv nI (inp.map (Value.int .u8))) (hm : Rd w 1 mv mn (ms.map (Value.int .i64))) (hby : ∀ x ∈ inp, 0 ≤ x ∧ x < 256) :
    Calls Try.prog 15 #[cv, stV r0 r1 r2 r3 r4 r5 r6 r7 c z n v pc mv, iv, .int .i64 fuel] w (RunR (Mc.wary nC nI (Mc.wr [r0, r1, r2, r3, r4, r5, r6, r7] pc ms) fuel) (Mc.ends cd inp fuel r0 r1 r2 r3 r4 r5 r6 r7 c z n v pc ms) w) := by
  obtain ⟨_, _, ma, mc, hmv, _, _⟩ := hm.ints
  subst hmv
  have CW : ∀ w1 : World, Below w.heap.size w w1 → Calls Try.prog 43 #[cv, stV r0 r1 r2 r3 r4 r5 r6 r7 c z n v pc (.slice ma mn mc), iv, .int .i64 fuel, .nilFunc, .nilFunc] w1 (RunR (Mc.wary nC nI (Mc.wr [r0, r1, r2, r3, r4, r5, r6, r7] pc ms) fuel) (Mc.ends cd inp fuel r0 r1 r2 r3 r4 r5 r6 r7 c z n v pc ms) w1) := fun w1 hb =>
    watch_ok cv iv _ nC nI mn r0 r1 r2 r3 r4 r5 r6 r7 pc fuel c z n v cd inp ms w1 (hc.below hb) (hi.below hb) (hm.below hb) hby
  generalize Mc.wary nC nI (Mc.wr [r0, r1, r2, r3, r4, r5, r6, r7] pc ms) fuel = E1 at *
  generalize Mc.ends cd inp fuel r0 r1 r2 r3 r4 r5 r6 r7 c z n v pc ms = F at *
  by_cases h0 : E1 = 0
  · subst h0
    refine (run_at cv iv ma mn mc r0 r1 r2 r3 r4 r5 r6 r7 pc fuel 0 c z n v (fun w' l => ∃ ov mv, l = ranL F ov mv ∧ w'.ownsRow (w.heap.size + 2) 5 1 ov F.out.length (F.out.map (Value.int .u8)) ∧ w'.ownsRow (w.heap.size + 2) 3 1 mv (top F.mem MS) ((left F.mem).map (Value.int .i64)) ∧ F.out.length ≤ 65536) w ?_ ?_).mono ?_
    · rintro w' l ⟨ov, mv, rfl, q1, q2, _⟩
      exact ⟨ranL_one2 F ov mv (own_one q1) (own_one q2), rfl⟩
    · intro w1 hb hs
      refine (CW w1 hb).mono ?_
      rintro e w' (⟨h, _⟩ | ⟨_, ov, mv, he, q1, q2, q3, q4⟩)
      · exact absurd rfl h
      · rw [hs] at q1 q2; exact ⟨ranL F ov mv, he, ⟨ov, mv, rfl, q1, q2, q3⟩, q4⟩
    · rintro e w' ⟨l, wx, he, ⟨ov, mv, rfl, q1, q2, q3⟩, rfl, hb⟩
      exact .inr ⟨rfl, ov, mv, he, own_mono (by omega) (own_lowRow q1 (by omega) _), own_mono (by omega) (own_lowRow q2 (by omega) _), q3, hb⟩
  · refine (run_at cv iv ma mn mc r0 r1 r2 r3 r4 r5 r6 r7 pc fuel E1 c z n v (fun w' l => l = ranZc.toList) w ?_ ?_).mono ?_
    · rintro w' l rfl
      exact ⟨ranZ_one, rfl⟩
    · intro w1 hb hs
      refine (CW w1 hb).mono ?_
      rintro e w' (⟨_, he, hb2⟩ | ⟨h, _⟩)
      · exact ⟨ranZc.toList, he, rfl, hb2⟩
      · exact absurd h h0
    · rintro e w' ⟨l, wx, he, rfl, rfl, hb⟩
      exact .inl ⟨h0, he, hb⟩
end Go.Proofs.Ytfjgnhmmakeaeaa
