/- probe.Trace, whole. -/
import Derived.Test.YtfjgnhmmakeaeaaE64
namespace Go.Proofs.Ytfjgnhmmakeaeaa
open Go.RowKit
set_option linter.unusedVariables false
set_option linter.unusedSimpArgs false
set_option maxRecDepth 100000
open Mc
set_option maxHeartbeats 8000000 in
theorem trace_wrong (ca ia ma : Option Addr) (nC cc nI ic mn mc : Nat) (r0 r1 r2 r3 r4 r5 r6 r7 pc fuel most E1 : Int) (c z n v : Bool) (w : World) (hm0 : 0 ≤ most) (hm1 : most ≤ 10000) (h0 : E1 ≠ 0)
    (CW : ∀ wW : World, Below w.heap.size w wW → Calls Try.prog 43 #[.slice ca nC cc, stV r0 r1 r2 r3 r4 r5 r6 r7 c z n v pc (.slice ma mn mc), .slice ia nI ic, .int .i64 fuel, .nilFunc, .func (.func 55) #[] #[pz w.heap.size, pz (w.heap.size + 4), pz (w.heap.size + 2)]] wW fun e w' => e = .returned (.tuple #[ranZ, .int .i64 E1]) ∧ Below wW.heap.size wW w') :
    Calls Try.prog 36 #[.slice ca nC cc, stV r0 r1 r2 r3 r4 r5 r6 r7 c z n v pc (.slice ma mn mc), .slice ia nI ic, .int .i64 fuel, .int .i64 most] w fun e w' => e = .returned (.tuple #[.slice none 0 0, ranZ, .int .i64 E1]) ∧ Below w.heap.size w w' := by
  have HCW := Lib.hid CW
  have HT := Lib.hid (tr_start w (.slice ca nC cc) (.cells (stC r0 r1 r2 r3 r4 r5 r6 r7 c z n v pc (.slice ma mn mc)) 27) most)
  have HTS := Lib.hid (tr_state w (.slice ca nC cc) (stC r0 r1 r2 r3 r4 r5 r6 r7 c z n v pc (.slice ma mn mc)) most)
  have e0 : (E1 != 0) = true := by simpa using h0
  clear CW h0
  go_enter Try.func36, Try.ntmps36
  go_wp2_with (first | (go_at_call 43; refine (HCW.out _ HT.out.2.1).mono ?_; rintro e wx ⟨rfl, hb⟩; have HB := Lib.hid hb; have HZ := Lib.hid (HT.out.2.2.2.2.1.keep hb); have HBW := Lib.hid (Ext.trans HT.out.2.1 hb); clear hb) | (refine wpList_load_row rfl 27 _ rfl (w.heap.size + 1) rfl 27 (stC r0 r1 r2 r3 r4 r5 r6 r7 c z n v pc (.slice ma mn mc)) (0, 0) _ HTS.out Try.underlying27 rfl (by kernel_rfl) ?_) | (refine wpList_store_row rfl 30 _ _ rfl wx.heap.size ranZc rfl rfl 30 ranZc (Blk.new _ _ _) (by kernel_rfl) rfl ranZ_one ?_; generalize hw4 : (wx.alloc (Obj.cells ranZc 30)).setRow wx.heap.size ranZc = w4; have HB4 := Lib.hid ((by rw [← hw4]; exact Below.row (Ext.alloc (Below.refl _ _) _) (Nat.le_refl _) _ : Below wx.heap.size wx w4)); have HZ4 := Lib.hid (HZ.out.keep HB4.out); clear hw4) | (refine wpList_store_row rfl 30 _ _ rfl (w.heap.size + 3) ranZc rfl rfl 30 ranZc HZ4.out (by kernel_rfl) rfl ranZ_one ?_))
  exact bodyPost_ret (results_3 rfl _ _ (w.heap.size + 3) 30 ranZc (0, 0) _ rfl (HZ4.out.row _) Try.underlying30 rfl (by kernel_rfl)) rfl ⟨rfl, Below.row (Ext.trans HBW.out HB4.out) (by omega) _⟩
theorem tr_start4 (w : World) (cv : Value) (o1 : Obj) (most : Int) : Blk ((((w.alloc (.cells #[cv] 22)).alloc o1).alloc (.cells #[.int .i64 most] 3)).alloc (.cells ranZc 30)) (w.heap.size + 3) 30 ranZc ∧ Below w.heap.size w ((((w.alloc (.cells #[cv] 22)).alloc o1).alloc (.cells #[.int .i64 most] 3)).alloc (.cells ranZc 30)) :=
  ⟨Blk.new_at _ _ (by simp), Ext.alloc (Ext.alloc (Ext.alloc (Ext.alloc (Below.refl _ _) _) _) _) _⟩
set_option maxHeartbeats 8000000 in
theorem trace_range (ca ia ma : Option Addr) (nC cc nI ic mn mc : Nat) (r0 r1 r2 r3 r4 r5 r6 r7 pc fuel most : Int) (c z n v : Bool) (w : World) (h0 : most < 0 ∨ most > 10000) :
    Calls Try.prog 36 #[.slice ca nC cc, stV r0 r1 r2 r3 r4 r5 r6 r7 c z n v pc (.slice ma mn mc), .slice ia nI ic, .int .i64 fuel, .int .i64 most] w fun e w' => e = .returned (.tuple #[.slice none 0 0, ranZ, .int .i64 3]) ∧ Below w.heap.size w w' := by
  have HT := Lib.hid (tr_start4 w (.slice ca nC cc) (.cells (stC r0 r1 r2 r3 r4 r5 r6 r7 c z n v pc (.slice ma mn mc)) 27) most)
  rcases h0 with h0 | h0
  · go_enter Try.func36, Try.ntmps36
    go_wp2_with (first | (refine wpList_store_row rfl 30 _ _ rfl (w.heap.size + 3) ranZc rfl rfl 30 ranZc HT.out.1 (by kernel_rfl) rfl ranZ_one ?_))
    exact bodyPost_ret (results_3 rfl _ _ (w.heap.size + 3) 30 ranZc (0, 0) _ rfl (HT.out.1.row _) Try.underlying30 rfl (by kernel_rfl)) rfl ⟨rfl, Below.row HT.out.2 (by omega) _⟩
  · have h1 : ¬ most < 0 := by omega
    go_enter Try.func36, Try.ntmps36
    go_wp2_with (first | (refine wpList_store_row rfl 30 _ _ rfl (w.heap.size + 3) ranZc rfl rfl 30 ranZc HT.out.1 (by kernel_rfl) rfl ranZ_one ?_))
    exact bodyPost_ret (results_3 rfl _ _ (w.heap.size + 3) 30 ranZc (0, 0) _ rfl (HT.out.1.row _) Try.underlying30 rfl (by kernel_rfl)) rfl ⟨rfl, Below.row HT.out.2 (by omega) _⟩
theorem goA_fine' {cd inp : List Int} {nI : Nat} (hn : inp.length = nI) (hby : ∀ x ∈ inp, 0 ≤ x ∧ x < 256) : ∀ (n : Nat) (s : St), Fine nI s → Fine nI (goA cd inp n s)
  | 0, s, h => h
  | n + 1, s, h => by
    unfold goA; split
    · exact goA_fine' hn hby n _ (tick_fine hn hby s h)
    · exact tick_fine hn hby s h
/-- What a trace gives. -/
def TraceR (E1 : Int) (F : St) (cd : List Int) (G : List (Int × St)) (w : World) (e : Ending) (w' : World) : Prop :=
  (E1 ≠ 0 ∧ e = .returned (.tuple #[.slice none 0 0, ranZ, .int .i64 E1]) ∧ Below w.heap.size w w') ∨
  (E1 = 0 ∧ ∃ lv ov mv, e = .returned (.tuple #[lv, ranV F ov mv, .int .i64 0]) ∧ w'.ownsRow w.heap.size 5 1 ov F.out.length (F.out.map (Value.int .u8)) ∧ w'.ownsRow w.heap.size 3 1 mv (top F.mem MS) ((left F.mem).map (Value.int .i64)) ∧ w'.ownsRow w.heap.size 80 17 lv G.length (shR cd G) ∧ F.out.length ≤ 65536 ∧ G.length ≤ 10000 ∧ Below w.heap.size w w')
theorem trace_ok (cv iv mv : Value) (nC nI mn : Nat) (r0 r1 r2 r3 r4 r5 r6 r7 pc fuel most : Int) (c z n v : Bool) (cd inp ms : List Int) (w : World)
    (hc : Rd w 1 cv nC (cd.map (Value.int .i64))) (hi : Rd w 1 iv nI (inp.map (Value.int .u8))) (hm : Rd w 1 mv mn (ms.map (Value.int .i64))) (hby : ∀ x ∈ inp, 0 ≤ x ∧ x < 256) :
    Calls Try.prog 36 #[cv, stV r0 r1 r2 r3 r4 r5 r6 r7 c z n v pc mv, iv, .int .i64 fuel, .int .i64 most] w (TraceR (if most < 0 ∨ most > 10000 then 3 else Mc.wary nC nI (Mc.wr [r0, r1, r2, r3, r4, r5, r6, r7] pc ms) fuel) (Mc.ends cd inp fuel r0 r1 r2 r3 r4 r5 r6 r7 c z n v pc ms) cd ((trL cd inp fuel.toNat (Mc.begin (reg8 r0 r1 r2 r3 r4 r5 r6 r7) c z n v pc ms)).take most.toNat) w) := by
  obtain ⟨_, hmC, ca, cc, rfl, _, _⟩ := hc.ints
  obtain ⟨_, hmI, ia, ic, rfl, _, _⟩ := hi.ints
  obtain ⟨hml, hmM, ma, mc, rfl, _, _⟩ := hm.ints
  by_cases hr : most < 0 ∨ most > 10000
  · rw [if_pos hr]
    refine (trace_range ca ia ma nC cc nI ic mn mc r0 r1 r2 r3 r4 r5 r6 r7 pc fuel most c z n v w hr).mono ?_
    rintro e w' ⟨he, hb⟩
    exact .inl ⟨by decide, he, hb⟩
  rw [if_neg hr]
  have hmo0 : 0 ≤ most := by omega
  have hmo1 : most ≤ 10000 := by omega
  have hw : ∀ w0 : World, Below w.heap.size w w0 → ∀ w1 : World, Below w0.heap.size w0 w1 → Calls Try.prog 61 #[.slice ca nC cc, stV r0 r1 r2 r3 r4 r5 r6 r7 c z n v pc (.slice ma mn mc), .slice ia nI ic, .int .i64 fuel] w1 fun e w' => e = .returned (.int .i64 (Mc.wary nC nI (Mc.wr [r0, r1, r2, r3, r4, r5, r6, r7] pc ms) fuel)) ∧ Below w1.heap.size w1 w' := fun w0 hb0 w1 hb =>
    wary_ok _ _ nC nI ca ia cc ic rfl rfl (by unfold maxLen at hmC; omega) (by unfold maxLen at hmI; omega) r0 r1 r2 r3 r4 r5 r6 r7 pc fuel c z n v _ mn ms w1 (hm.below (Ext.trans hb0 hb))
  by_cases h0 : Mc.wary nC nI (Mc.wr [r0, r1, r2, r3, r4, r5, r6, r7] pc ms) fuel = 0
  · obtain ⟨h1, h2, h3, h4, h5, h6, h7⟩ := wary_zero h0
    rw [h0] at hw ⊢
    have hE : ∀ (g : List (Int × St)) (x : Int), (envT cd most).sB g x = false ∧ (envT cd most).sG g x = g := fun _ _ => ⟨rfl, rfl⟩
    have hFe : (go (envT cd most) cd inp fuel.toNat (Mc.begin (reg8 r0 r1 r2 r3 r4 r5 r6 r7) c z n v pc ms) []).1 = Mc.ends cd inp fuel r0 r1 r2 r3 r4 r5 r6 r7 c z n v pc ms := by
      rw [go_dG _ hE]; unfold Mc.ends; rw [go_alone _ (fun _ _ => rfl)]
    have hGe : (go (envT cd most) cd inp fuel.toNat (Mc.begin (reg8 r0 r1 r2 r3 r4 r5 r6 r7) c z n v pc ms) []).2 = (trL cd inp fuel.toNat (Mc.begin (reg8 r0 r1 r2 r3 r4 r5 r6 r7) c z n v pc ms)).take most.toNat := by
      rw [go_tr cd inp most hmo0]; simp
    have hFG : (Mc.ends cd inp fuel r0 r1 r2 r3 r4 r5 r6 r7 c z n v pc ms, (trL cd inp fuel.toNat (Mc.begin (reg8 r0 r1 r2 r3 r4 r5 r6 r7) c z n v pc ms)).take most.toNat) = go (envT cd most) cd inp fuel.toNat (Mc.begin (reg8 r0 r1 r2 r3 r4 r5 r6 r7) c z n v pc ms) [] := by rw [← hFe, ← hGe]
    generalize Mc.ends cd inp fuel r0 r1 r2 r3 r4 r5 r6 r7 c z n v pc ms = F at hFG ⊢
    generalize hG : (trL cd inp fuel.toNat (Mc.begin (reg8 r0 r1 r2 r3 r4 r5 r6 r7) c z n v pc ms)).take most.toNat = G at hFG ⊢
    have hGl : G.length ≤ 10000 := by rw [← hG, List.length_take]; omega
    clear hFe hGe hG
    refine (trace_run ca ia ma nC cc nI ic mn mc r0 r1 r2 r3 r4 r5 r6 r7 pc fuel most c z n v cd G F w hmo0 hmo1 ?_).mono ?_
    · intro wW hs hb q1 q2 q3 q4
      have a1 : w.heap.size < wW.heap.size := by omega
      have a2 : w.heap.size + 2 < wW.heap.size := by omega
      have a3 : w.heap.size + 4 < wW.heap.size := by omega
      have hRd : ∀ (xv : Value) (m : Nat) (cs : List Value), Rd w 1 xv m cs → ∀ wx, Bel wW.heap.size (fun b => b = w.heap.size + 4) wW wx → RdB wx w.heap.size xv m cs := fun xv m cs hx wx hbx =>
        ((RdB.of hx).below hb).heap (fun b hbb => hbx.block b (by omega) (fun (k : b = w.heap.size + 4) => by omega))
      refine (watchT_run (E := envT cd most) (l0 := fun b => b = w.heap.size + 4) #[pz w.heap.size, pz (w.heap.size + 4), pz (w.heap.size + 2)] ca ia ma nC cc nI ic mn mc r0 r1 r2 r3 r4 r5 r6 r7 pc fuel c z n v cd inp ms wW
        (eyT cd most w.heap.size (w.heap.size + 4) (w.heap.size + 2) wW.heap.size w.heap.size (.slice ca nC cc) nC a1 a2 a3 (Nat.le_refl _) (by omega) (by omega)) [] (fun _ _ => True) trivial (fun _ _ _ => trivial) hE
        (doneT cd inp most hmo1 _ _ _ _ _ _ nC (by omega) _ _ _ _ _ _) ?_ (hw wW hb) (fun wx hbx => (hRd _ _ _ hc wx hbx).up (by omega)) (fun wx hbx => (hRd _ _ _ hi wx hbx).up (by omega)) (hm.below hb) h1 h2 (by omega) hby h4 (begin_fine h5 h6 h7) F G hFG).mono ?_
      · exact ⟨q1, q2, hRd _ _ _ hc wW (Bel.refl _ _ _), _, q4, World.ownsRow_nil _ _ _ _, fun b => ⟨fun h => .inl h, fun h => by rcases h with h | h; exact h; cases h⟩, Nat.zero_le _⟩
      · rintro e w' ⟨ov, mv, l, he, p1, p2, p3, ⟨k1, k2, k3, lv, k4, k5, k6, k7⟩, p5, p6⟩
        obtain ⟨oa, oc, rfl, _⟩ := own_slice p1
        obtain ⟨xa, xc, rfl, _⟩ := own_slice p2
        obtain ⟨la, lc, rfl, _⟩ := own_slice k5
        rw [hs] at p1 p2 k5
        exact ⟨oa, oc, xa, xc, la, lc, he, p1, p2, p3, k4, k5, q3.bel p6 (by omega) (fun (k : w.heap.size + 3 = w.heap.size + 4) => by omega), hb.trans (p6.mono (by omega) (l' := fun _ => False) (fun b hbb (k : b = w.heap.size + 4) => by omega)).below⟩
    · rintro e w' ⟨lv, ov, mv, he, p1, p2, p3, p4⟩
      have hlen : Fine nI F := by
        have := goA_fine' (cd := cd) (by have := hi.1; simpa using this) hby fuel.toNat _ (begin_fine (nI := nI) (c := c) (z := z) (n := n) (v := v) h5 h6 h7)
        rw [← go_dG _ hE cd inp fuel.toNat _ [], ← hFG] at this; exact this
      exact .inr ⟨rfl, lv, ov, mv, he, p1, p2, p3, hlen.2.1, hGl, p4⟩
  · refine (trace_wrong ca ia ma nC cc nI ic mn mc r0 r1 r2 r3 r4 r5 r6 r7 pc fuel most _ c z n v w hmo0 hmo1 h0 (fun wW hb => watch_wrong _ _ _ h0 r0 r1 r2 r3 r4 r5 r6 r7 pc fuel c z n v _ .nilFunc _ wW (hw wW hb) ⟨_, _, _, rfl⟩)).mono ?_
    rintro e w' ⟨he, hb⟩
    exact .inl ⟨h0, he, hb⟩
end Go.Proofs.Ytfjgnhmmakeaeaa
