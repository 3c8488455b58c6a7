/- probe.Until, whole. -/
import Derived.Test.YtfjgnhmmakeaeaaE66
namespace Go.Proofs.Ytfjgnhmmakeaeaa
open Go.RowKit
set_option linter.unusedVariables false
set_option linter.unusedSimpArgs false
set_option maxRecDepth 100000
open Mc
theorem Blk.newA {w : World} {n : Nat} (t : TypeId) (cs : Array Value) (h : w.heap.size = n) : Blk (w.alloc (.cells cs t)) n t cs := by subst h; exact Blk.new w t cs
abbrev unW (w : World) (st : Array Value) (pv : Value) : World := (((w.alloc (.cells st 27)).alloc (.cells #[pv] 22)).alloc (.cells ranZc 30)).alloc (.cells #[.bool false] 4)
theorem un_start (w : World) (st : Array Value) (pv : Value) : (unW w st pv).heap.size = w.heap.size + 4 ∧ Below w.heap.size w (unW w st pv) ∧ Blk (unW w st pv) w.heap.size 27 st ∧ Blk (unW w st pv) (w.heap.size + 1) 22 #[pv] ∧ Blk (unW w st pv) (w.heap.size + 2) 30 ranZc ∧ Blk (unW w st pv) (w.heap.size + 3) 4 #[.bool false] :=
  ⟨by simp, Ext.alloc (Ext.alloc (Ext.alloc (Ext.alloc (Below.refl _ _) _) _) _) _, (((Blk.new w _ _).alloc _).alloc _).alloc _, ((Blk.newA _ _ (by simp)).alloc _).alloc _, (Blk.newA _ _ (by simp)).alloc _, Blk.newA _ _ (by simp)⟩
set_option maxHeartbeats 8000000 in
theorem until_run (cv iv : Value) (pa ma : Option Addr) (pn pk mn mc : Nat) (r0 r1 r2 r3 r4 r5 r6 r7 pc fuel E1 : Int) (c z n v : Bool) (rl : World → List Value → Prop) (w : World)
    (CW : ∀ wW : World, wW.heap.size = w.heap.size + 4 → Below w.heap.size w wW → Blk wW (w.heap.size + 1) 22 #[.slice pa pn pk] → Blk wW (w.heap.size + 2) 30 ranZc → Blk wW (w.heap.size + 3) 4 #[.bool false] →
      Calls Try.prog 43 #[cv, stV r0 r1 r2 r3 r4 r5 r6 r7 c z n v pc (.slice ma mn mc), iv, .int .i64 fuel, .func (.func 56) #[] #[.pointer (some ⟨w.heap.size + 3, 0, none⟩), .pointer (some ⟨w.heap.size + 1, 0, none⟩)], .nilFunc] wW fun e w' => ∃ l : List Value, e = .returned (.tuple #[.agg l.toArray, .int .i64 E1]) ∧ l.length = 19 ∧ l.toArray.all (·.oneCell') = true ∧ rl w' l ∧ Blk w' (w.heap.size + 2) 30 ranZc ∧ Below w.heap.size w w') :
    Calls Try.prog 37 #[cv, stV r0 r1 r2 r3 r4 r5 r6 r7 c z n v pc (.slice ma mn mc), iv, .int .i64 fuel, .slice pa pn pk] w fun e w' => ∃ (l : List Value) (wx : World), e = .returned (.tuple #[.agg l.toArray, .int .i64 E1]) ∧ rl wx l ∧ w' = wx.setRow (w.heap.size + 2) l.toArray ∧ Below w.heap.size w w' := by
  have HCW := Lib.hid CW
  have HT := Lib.hid (un_start w (stC r0 r1 r2 r3 r4 r5 r6 r7 c z n v pc (.slice ma mn mc)) (.slice pa pn pk))
  have HON : Hid (∀ l : List Value, l.length = 19 → (Try.prog.info? 30).map (·.size) = some l.toArray.size) := fun l hl => by rw [List.size_toArray, hl]; kernel_rfl
  clear CW
  go_enter Try.func37, Try.ntmps37
  go_wp2_with (first | (go_at_call 43; refine (HCW.out _ HT.out.1 HT.out.2.1 HT.out.2.2.2.1 HT.out.2.2.2.2.1 HT.out.2.2.2.2.2).mono ?_; rintro e wx ⟨l, rfl, hl19, hl1, hrl, hz, hb⟩; have HL19 := Lib.hid hl19; have HL1 := Lib.hid hl1; have HRL := Lib.hid hrl; have HZ := Lib.hid hz; have HB := Lib.hid hb; clear hl19 hl1 hrl hz hb) | (refine wpList_load_row rfl 27 _ rfl w.heap.size rfl 27 (stC r0 r1 r2 r3 r4 r5 r6 r7 c z n v pc (.slice ma mn mc)) (0, 0) _ HT.out.2.2.1 Try.underlying27 rfl (by kernel_rfl) ?_) | (refine wpList_store_row rfl 30 _ _ rfl (w.heap.size + 2) l.toArray rfl rfl 30 ranZc HZ.out (HON.out l HL19.out) (by simp [HL19.out]) HL1.out ?_))
  exact bodyPost_ret (results_cell2 rfl _ _ (w.heap.size + 2) 30 l.toArray (0, 0) _ rfl (HZ.out.row _) Try.underlying30 rfl (HON.out l HL19.out)) rfl ⟨l, wx, rfl, HRL.out, rfl, Below.row HB.out (by omega) _⟩
theorem goU_fine {cd inp ps : List Int} {nI : Nat} (hn : inp.length = nI) (hby : ∀ x ∈ inp, 0 ≤ x ∧ x < 256) : ∀ (n : Nat) (s : St) (b : Bool), Fine nI s → Fine nI (go (envU ps) cd inp n s b).1
  | 0, s, b, h => by
    unfold go; split <;> exact h
  | n + 1, s, b, h => by
    unfold go; split
    · exact h
    · split
      · exact goU_fine hn hby n _ _ (tick_fine hn hby s h)
      · exact tick_fine hn hby s h
/-- UNTIL. -/
theorem until_ok (cv iv mv pv : Value) (nC nI mn np : Nat) (r0 r1 r2 r3 r4 r5 r6 r7 pc fuel : Int) (c z n v : Bool) (cd inp ms ps : List Int) (w : World)
    (hc : Rd w 1 cv nC (cd.map (Value.int .i64))) (hi : Rd w 1 iv nI (inp.map (Value.int .u8))) (hm : Rd w 1 mv mn (ms.map (Value.int .i64))) (hp : Rd w 1 pv np (ps.map (Value.int .i64))) (hby : ∀ x ∈ inp, 0 ≤ x ∧ x < 256) :
    Calls Try.prog 37 #[cv, stV r0 r1 r2 r3 r4 r5 r6 r7 c z n v pc mv, iv, .int .i64 fuel, pv] w (RunR (Mc.wary nC nI (Mc.wr [r0, r1, r2, r3, r4, r5, r6, r7] pc ms) fuel) (go (envU ps) cd inp fuel.toNat (Mc.begin (reg8 r0 r1 r2 r3 r4 r5 r6 r7) c z n v pc ms) false).1 w) := by
  obtain ⟨_, hmC, ca, cc, rfl, _, _⟩ := hc.ints
  obtain ⟨_, hmI, ia, ic, rfl, _, _⟩ := hi.ints
  obtain ⟨hml, hmM, ma, mc, rfl, _, _⟩ := hm.ints
  obtain ⟨_, _, pa, pk, rfl, _, _⟩ := hp.ints
  have hw : ∀ w0 : World, Below w.heap.size w w0 → ∀ w1 : World, Below w0.heap.size w0 w1 → Calls Try.prog 61 #[.slice ca nC cc, stV r0 r1 r2 r3 r4 r5 r6 r7 c z n v pc (.slice ma mn mc), .slice ia nI ic, .int .i64 fuel] w1 fun e w' => e = .returned (.int .i64 (Mc.wary nC nI (Mc.wr [r0, r1, r2, r3, r4, r5, r6, r7] pc ms) fuel)) ∧ Below w1.heap.size w1 w' := fun w0 hb0 w1 hb =>
    wary_ok _ _ nC nI ca ia cc ic rfl rfl (by unfold maxLen at hmC; omega) (by unfold maxLen at hmI; omega) r0 r1 r2 r3 r4 r5 r6 r7 pc fuel c z n v _ mn ms w1 (hm.below (Ext.trans hb0 hb))
  by_cases h0 : Mc.wary nC nI (Mc.wr [r0, r1, r2, r3, r4, r5, r6, r7] pc ms) fuel = 0
  · obtain ⟨h1, h2, h3, h4, h5, h6, h7⟩ := wary_zero h0
    rw [h0] at hw ⊢
    generalize hR : go (envU ps) cd inp fuel.toNat (Mc.begin (reg8 r0 r1 r2 r3 r4 r5 r6 r7) c z n v pc ms) false = R
    obtain ⟨F, G⟩ := R
    refine (until_run _ _ pa ma np pk mn mc r0 r1 r2 r3 r4 r5 r6 r7 pc fuel 0 c z n v (fun w' l => ∃ ov mv, l = ranL F ov mv ∧ w'.ownsRow (w.heap.size + 4) 5 1 ov F.out.length (F.out.map (Value.int .u8)) ∧ w'.ownsRow (w.heap.size + 4) 3 1 mv (top F.mem MS) ((left F.mem).map (Value.int .i64)) ∧ F.out.length ≤ 65536) w ?_).mono ?_
    · intro wW hs hb q1 q2 q3
      have a1 : w.heap.size + 3 < wW.heap.size := by omega
      have a2 : w.heap.size + 1 < wW.heap.size := by omega
      have hRd : ∀ (xv : Value) (m : Nat) (cs : List Value), Rd w 1 xv m cs → ∀ wx, Bel wW.heap.size (fun b => b = w.heap.size + 3) wW wx → RdB wx w.heap.size xv m cs := fun xv m cs hx wx hbx =>
        ((RdB.of hx).below hb).below ((hbx.mono (B' := w.heap.size) (l' := fun _ => False) (by omega) (fun b hbb (k : b = w.heap.size + 3) => by omega)).below)
      refine (watchS_run (E := envU ps) (l0 := fun b => b = w.heap.size + 3) #[.pointer (some ⟨w.heap.size + 3, 0, none⟩), .pointer (some ⟨w.heap.size + 1, 0, none⟩)] ca ia ma nC cc nI ic mn mc r0 r1 r2 r3 r4 r5 r6 r7 pc fuel c z n v cd inp ms wW
        (eyU ps np (.slice pa np pk) (w.heap.size + 3) (w.heap.size + 1) wW.heap.size w.heap.size a1 a2 (by omega) (by omega)) false (fun _ _ => True) trivial (fun _ _ _ => trivial) (fun _ _ _ => rfl)
        (stopU ps np _ _ _ _ _ _ _ _ _) ?_ (hw wW hb) (fun wx hbx => (hRd _ _ _ hc wx hbx).up (by omega)) (fun wx hbx => (hRd _ _ _ hi wx hbx).up (by omega)) (hm.below hb) h1 h2 (by omega) hby h4 (begin_fine h5 h6 h7) F G hR.symm).mono ?_
      · exact ⟨q3, q1, hRd _ _ _ hp wW (Bel.refl _ _ _), fun b => Iff.rfl⟩
      · rintro e w' ⟨ov, mv, l, he, p1, p2, p3, p4, p5, p6⟩
        rw [hs] at p1 p2
        exact ⟨ranL F ov mv, he, rfl, ranL_one2 F ov mv (own_one p1) (own_one p2), ⟨ov, mv, rfl, p1, p2, p3⟩, q2.bel p6 (by omega) (fun (k : w.heap.size + 2 = w.heap.size + 3) => by omega), hb.trans (p6.mono (by omega) (l' := fun _ => False) (fun b hbb (k : b = w.heap.size + 3) => by omega)).below⟩
    · rintro e w' ⟨l, wx, he, ⟨ov, mv, rfl, p1, p2, p3⟩, rfl, hb⟩
      exact .inr ⟨rfl, ov, mv, he, own_mono (by omega) (own_lowRow p1 (by omega) _), own_mono (by omega) (own_lowRow p2 (by omega) _), p3, hb⟩
  · refine (until_run _ _ pa ma np pk mn mc r0 r1 r2 r3 r4 r5 r6 r7 pc fuel (Mc.wary nC nI (Mc.wr [r0, r1, r2, r3, r4, r5, r6, r7] pc ms) fuel) c z n v (fun w' l => l = ranZc.toList) w (fun wW hs hb q1 q2 q3 => (watch_wrong _ _ _ h0 r0 r1 r2 r3 r4 r5 r6 r7 pc fuel c z n v _ _ .nilFunc wW (hw wW hb) ⟨_, _, _, rfl⟩).mono ?_)).mono ?_
    · rintro e w' ⟨he, hb2⟩
      exact ⟨ranZc.toList, he, rfl, ranZ_one, rfl, q2.keep hb2, Ext.trans hb hb2⟩
    · rintro e w' ⟨l, wx, he, rfl, rfl, hb⟩
      exact .inl ⟨h0, he, hb⟩
end Go.Proofs.Ytfjgnhmmakeaeaa
