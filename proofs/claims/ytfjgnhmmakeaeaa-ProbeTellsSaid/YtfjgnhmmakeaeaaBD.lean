/- Walk of probe.Until. -/
import Derived.Test.YtfjgnhmmakeaeaaE62
import Derived.Test.YtfjgnhmmakeaeaaBB
namespace Go.Proofs.Ytfjgnhmmakeaeaa
open Go.RowKit
set_option linter.unusedVariables false
set_option linter.unusedSimpArgs false
set_option maxRecDepth 100000
open Mc
theorem rdB_heap {w w' : World} {B : Nat} {v : Value} {n : Nat} {cs : List Value} (h : RdB w B v n cs) (hb : ∀ b, b < B → w'.heap[b]? = w.heap[b]?) : RdB w' B v n cs := by
  obtain ⟨⟨h1, h2, a, cap, hv, hc, hr⟩, hB⟩ := h
  refine ⟨⟨h1, h2, a, cap, hv, hc, fun hne => ?_⟩, hB⟩
  obtain ⟨b, off, ha, hj⟩ := hr hne
  have hn : 0 < n := (by rcases Nat.eq_zero_or_pos n with h | h; exact absurd (List.eq_nil_of_length_eq_zero (by omega)) hne; exact h)
  have hlt : b < B := hB hn ⟨b, off, none⟩ n cap (by rw [hv, ha])
  exact ⟨b, off, ha, fun j u hu => by rw [← hj j u hu]; simp only [World.cell?]; rw [hb b hlt]⟩
set_option maxHeartbeats 4000000 in
/-- slices.Index over numbers: whether it is there. -/
theorem index_ok (v : Value) (n : Nat) (xs : List Int) (a : Int) (w : World) (h : Rd w 1 v n (xs.map (Value.int .i64))) :
    Calls Try.prog 73 #[v, .int .i64 a] w fun e w' => ∃ i : Int, e = .returned (.int .i64 i) ∧ (-1 ≤ i ∧ i < 9223372036854775807) ∧ (0 ≤ i ↔ a ∈ xs) ∧ Below w.heap.size w w' := by
  obtain ⟨hl, hm, sa, sc, rfl, hcap, hcell⟩ := h.ints
  have hmx : n ≤ 9223372036854775807 := by unfold maxLen at hm; omega
  have HC := Lib.hid hcell; have HLN := Lib.hid hl
  clear h hcell hl hm
  go_enter Try.func73, Try.ntmps73
  go_wp2
  go_loop [5, 8] (fun _ i => ∃ k : Nat, k ≤ n ∧ i = .int .i64 (k : Int) ∧ Hid (∀ j, j < k → xs.getD j 0 ≠ a)) (fun _ i => n - (intOf i).toNat)
  case atStart => exact ⟨0, Nat.zero_le _, rfl, fun j hj => absurd hj (Nat.not_lt_zero _)⟩
  case round =>
    obtain ⟨k, hk, rfl, hno⟩ := hrel
    by_cases hlt : k < n
    · obtain ⟨b, off, rfl, hd⟩ := HC.out (by omega)
      have ck := hd k hlt
      obtain ⟨X, hX⟩ : ∃ X, X = xs.getD k 0 := ⟨_, rfl⟩
      rw [← hX] at ck
      have HX := Lib.hid hX
      clear hd hX HC
      by_cases hx : a = X
      · have hx2 : (a == X) = true := by simpa using hx
        have HA := Lib.hid hx
        clear hx
        go_wp2
        go_ret
        exact ⟨_, rfl, ⟨by omega, by omega⟩, ⟨fun _ => by rw [HA.out, HX.out, List.getD_eq_getElem?_getD, List.getElem?_eq_getElem (by rw [HLN.out]; exact hlt)]; exact List.getElem_mem _, fun _ => by omega⟩, Below.refl _ _⟩
      · have hx2 : (a == X) = false := by simpa using hx
        have HA := Lib.hid hx
        clear hx
        go_wp2
        go_round
        case rel => exact ⟨k + 1, by omega, by go_num, fun j hj => by
          rcases Nat.lt_or_ge j k with h | h
          · exact hno.out j h
          · have : j = k := by omega
            rw [this, ← HX.out]; exact fun e => HA.out e.symm⟩
        case measure => (simp [intOf]; try omega)
    · go_wp2
      go_ret
      refine ⟨_, rfl, ⟨by omega, by omega⟩, ⟨fun h => absurd h (by decide), fun h => ?_⟩, Below.refl _ _⟩
      exfalso
      obtain ⟨j, hj, he⟩ := List.getElem_of_mem h
      have := hno.out j (by have := HLN.out; omega)
      rw [List.getD_eq_getElem?_getD, List.getElem?_eq_getElem hj] at this
      exact this he
set_option maxHeartbeats 4000000 in
theorem contains_ok (v : Value) (n : Nat) (xs : List Int) (a : Int) (w : World) (h : Rd w 1 v n (xs.map (Value.int .i64))) :
    Calls Try.prog 57 #[v, .int .i64 a] w fun e w' => e = .returned (.bool (xs.contains a)) ∧ Below w.heap.size w w' := by
  have CI := index_ok v n xs a w h
  obtain ⟨_, _, sa, sc, rfl, _, _⟩ := h.ints
  have HCI := Lib.hid CI
  clear CI h
  go_enter Try.func57, Try.ntmps57
  go_wp2_with (first | (go_at_call 73; refine HCI.out.mono ?_; rintro e w1 ⟨i, rfl, ⟨hi0, hi1⟩, hiff, hb1⟩; have HIF := Lib.hid hiff; have HB1 := Lib.hid hb1; clear hiff hb1))
  go_ret
  refine ⟨?_, HB1.out⟩
  congr 2
  by_cases hx : 0 ≤ i
  · simp [hx, HIF.out.1 hx]
  · simp [hx]; exact fun k => hx (HIF.out.2 k)
set_option maxHeartbeats 4000000 in
/-- The first time it only says that it was asked. -/
theorem until_first (a : Int) (bb bp : Nat) (w : World) (hb : w.cell? ⟨bb, 0, none⟩ = some (.bool false)) (hf : w.frozen? ⟨bb, 0, none⟩ = false) :
    Calls Try.prog 56 #[.int .i64 a, .pointer (some ⟨bb, 0, none⟩), .pointer (some ⟨bp, 0, none⟩)] w fun e w' => e = .returned (.bool false) ∧ w' = w.setCell ⟨bb, 0, none⟩ (.bool true) := by
  go_enter Try.func56, Try.ntmps56
  go_wp2
  go_ret
  exact ⟨rfl, rfl⟩
set_option maxHeartbeats 4000000 in
theorem until_next (a : Int) (bb bp : Nat) (pv : Value) (n : Nat) (ps : List Int) (w : World) (hb : w.cell? ⟨bb, 0, none⟩ = some (.bool true)) (hf : w.frozen? ⟨bb, 0, none⟩ = false) (hne : bp ≠ bb) (hp : w.cell? ⟨bp, 0, none⟩ = some pv)
    (CC : ∀ w1 : World, w1 = w.setCell ⟨bb, 0, none⟩ (.bool true) → Calls Try.prog 57 #[pv, .int .i64 a] w1 fun e w' => e = .returned (.bool (ps.contains a)) ∧ Below w1.heap.size w1 w') :
    Calls Try.prog 56 #[.int .i64 a, .pointer (some ⟨bb, 0, none⟩), .pointer (some ⟨bp, 0, none⟩)] w fun e w' => e = .returned (.bool (ps.contains a)) ∧ Below w.heap.size (w.setCell ⟨bb, 0, none⟩ (.bool true)) w' := by
  have HCC := Lib.hid CC
  clear CC
  have hp2 : (w.setCell ⟨bb, 0, none⟩ (.bool true)).cell? ⟨bp, 0, none⟩ = some pv := by rw [cell?_setCell_far _ hne]; exact hp
  go_enter Try.func56, Try.ntmps56
  go_wp2_with (first | (go_at_call 57; refine (HCC.out _ rfl).mono ?_; rintro e w1 ⟨rfl, hb1⟩; have HB1 := Lib.hid hb1; clear hb1))
  go_ret
  exact ⟨by simp, by simpa using HB1.out⟩
/-- What it holds: whether it was asked. -/
def eyU (ps : List Int) (np : Nat) (pv : Value) (bb bp B0 N : Nat) (h1 : bb < B0) (h2 : bp < B0) (h3 : N ≤ bp) (h4 : bp < bb) : Eyes (envU ps) B0 (fun b => b = bb) where
  Look w l g := Blk w bb 4 #[.bool g] ∧ Blk w bp 22 #[pv] ∧ RdB w N pv np (ps.map (Value.int .i64)) ∧ ∀ b, l b ↔ b = bb
  keep := by
    rintro w w' l g ⟨q1, q2, q3, q4⟩ hs hb
    refine ⟨(hb bb (.inl ((q4 bb).2 rfl))).trans q1, (hb bp (.inr ⟨h2, by omega⟩)).trans q2, rdB_heap q3 (fun b hbN => hb b (.inr ⟨by omega, by omega⟩)), q4⟩
  nb := by
    rintro w l g b ⟨q1, q2, q3, q4⟩ hb
    obtain rfl := (q4 b).1 hb
    exact ⟨_, _, q1, by decide, by decide, by decide⟩
theorem stopU (ps : List Int) (np : Nat) (pv : Value) (bb bp B0 N : Nat) (h1 : bb < B0) (h2 : bp < B0) (h3 : N ≤ bp) (h4 : bp < bb) :
    Stops (eyU ps np pv bb bp B0 N h1 h2 h3 h4) 56 (fun a => #[.int .i64 a] ++ #[.pointer (some ⟨bb, 0, none⟩), .pointer (some ⟨bp, 0, none⟩)]) := by
  intro a l g wx hwd hlk hl
  obtain ⟨q1, q2, q3, q4⟩ := hlk
  have c1 : wx.cell? ⟨bb, 0, none⟩ = some (.bool g) := by rw [q1.cell]; rfl
  have c2 : wx.cell? ⟨bp, 0, none⟩ = some pv := by rw [q2.cell]; rfl
  have hbel : Bel wx.heap.size l wx (wx.setCell ⟨bb, 0, none⟩ (.bool true)) := ⟨rfl, rfl, rfl, by simp, fun b hb hn => Below.heap_setCell wx ⟨bb, 0, none⟩ _ b (fun e => hn ((q4 b).2 e))⟩
  have hlk2 : (eyU ps np pv bb bp B0 N h1 h2 h3 h4).Look (wx.setCell ⟨bb, 0, none⟩ (.bool true)) l true :=
    ⟨q1.set_ 0 _, q2.far (by show bp ≠ bb; omega) _, rdB_heap q3 (fun b hb => Below.heap_setCell wx ⟨bb, 0, none⟩ _ b (by show b ≠ bb; omega)), q4⟩
  cases g
  · refine (until_first a bb bp wx c1 (q1.frozen 0)).mono ?_
    rintro e w' ⟨he, rfl⟩
    exact ⟨he, l, hlk2, hbel, fun b hb => .inl hb⟩
  · refine (until_next a bb bp pv np ps wx c1 (q1.frozen 0) (by omega) c2 (fun w1 e => contains_ok pv np ps a w1 (e ▸ hlk2.2.2.1.1))).mono ?_
    rintro e w' ⟨he, hb⟩
    have hb2 : Below (wx.setCell ⟨bb, 0, none⟩ (.bool true)).heap.size (wx.setCell ⟨bb, 0, none⟩ (.bool true)) w' := by simpa using hb
    have hB : B0 ≤ N ∨ N ≤ B0 := by omega
    refine ⟨he, l, ⟨hlk2.1.keep hb2, hlk2.2.1.keep hb2, rdB_heap hlk2.2.2.1 (fun b hbN => hb.block b (by have := q2.lt; omega)), q4⟩, hbel.trans (Bel.of hb), fun b hb => .inl hb⟩
end Go.Proofs.Ytfjgnhmmakeaeaa
/- probe.Until, whole. -/
namespace Go.Proofs.Ytfjgnhmmakeaeaa
open Go.RowKit
set_option linter.unusedVariables false
set_option linter.unusedSimpArgs false
set_option maxRecDepth 100000
open Mc
theorem Blk.newA {w : World} {n : Nat} (t : TypeId) (cs : Array Value) (h : w.heap.size = n) : Blk (w.alloc (.cells cs t)) n t cs := by subst h; exact Blk.new w t cs
abbrev unW (w : World) (st : Array Value) (pv : Value) : World := (((w.alloc (.cells st 27)).alloc (.cells #[pv] 22)).alloc (.cells ranZc 30)).alloc (.cells #[.bool false] 4)
theorem un_start (w : World) (st : Array Value) (pv : Value) : (unW w st pv).heap.size = w.heap.size + 4 ∧ Below w.heap.size w (unW w st pv) ∧ Blk (unW w st pv) w.heap.size 27 st ∧ Blk (unW w st pv) (w.heap.size + 1) 22 #[pv] ∧ Blk (unW w st pv) (w.heap.size + 2) 30 ranZc ∧ Blk (unW w st pv) (w.heap.size + 3) 4 #[.bool false] :=
  ⟨by simp, Ext.alloc (Ext.alloc (Ext.alloc (Ext.alloc (Below.refl _ _) _) _) _) _, (((Blk.new w _ _).alloc _).alloc _).alloc _, ((Blk.newA _ _ (by simp)).alloc _).alloc _, (Blk.newA _ _ (by simp)).alloc _, Blk.newA _ _ (by simp)⟩
set_option maxHeartbeats 8000000 in
theorem until_run (cv iv : Value) (pa ma : Option Addr) (pn pk mn mc : Nat) (r0 r1 r2 r3 r4 r5 r6 r7 pc fuel E1 : Int) (c z n v : Bool) (rl : World → List Value → Prop) (w : World)
    (CW : ∀ wW : World, wW.heap.size = w.heap.size + 4 → Below w.heap.size w wW → Blk wW (w.heap.size + 1) 22 #[.slice pa pn pk] → Blk wW (w.heap.size + 2) 30 ranZc → Blk wW (w.heap.size + 3) 4 #[.bool false] →
      Calls Try.prog 43 #[cv, stV r0 r1 r2 r3 r4 r5 r6 r7 c z n v pc (.slice ma mn mc), iv, .int .i64 fuel, .func (.func 56) #[] #[.pointer (some ⟨w.heap.size + 3, 0, none⟩), .pointer (some ⟨w.heap.size + 1, 0, none⟩)], .nilFunc] wW fun e w' => ∃ l : List Value, e = .returned (.tuple #[.agg l.toArray, .int .i64 E1]) ∧ l.length = 19 ∧ l.toArray.all (·.oneCell') = true ∧ rl w' l ∧ Blk w' (w.heap.size + 2) 30 ranZc ∧ Below w.heap.size w w') :
    Calls Try.prog 37 #[cv, stV r0 r1 r2 r3 r4 r5 r6 r7 c z n v pc (.slice ma mn mc), iv, .int .i64 fuel, .slice pa pn pk] w fun e w' => ∃ (l : List Value) (wx : World), e = .returned (.tuple #[.agg l.toArray, .int .i64 E1]) ∧ rl wx l ∧ w' = wx.setRow (w.heap.size + 2) l.toArray ∧ Below w.heap.size w w' := by
  have HCW := Lib.hid CW
  have HT := Lib.hid (un_start w (stC r0 r1 r2 r3 r4 r5 r6 r7 c z n v pc (.slice ma mn mc)) (.slice pa pn pk))
  have HON : Hid (∀ l : List Value, l.length = 19 → (Try.prog.info? 30).map (·.size) = some l.toArray.size) := fun l hl => by rw [List.size_toArray, hl]; kernel_rfl
  clear CW
  go_enter Try.func37, Try.ntmps37
  go_wp2_with (first | (go_at_call 43; refine (HCW.out _ HT.out.1 HT.out.2.1 HT.out.2.2.2.1 HT.out.2.2.2.2.1 HT.out.2.2.2.2.2).mono ?_; rintro e wx ⟨l, rfl, hl19, hl1, hrl, hz, hb⟩; have HL19 := Lib.hid hl19; have HL1 := Lib.hid hl1; have HRL := Lib.hid hrl; have HZ := Lib.hid hz; have HB := Lib.hid hb; clear hl19 hl1 hrl hz hb) | (refine wpList_load_row rfl 27 _ rfl w.heap.size rfl 27 (stC r0 r1 r2 r3 r4 r5 r6 r7 c z n v pc (.slice ma mn mc)) (0, 0) _ HT.out.2.2.1 Try.underlying27 rfl (by kernel_rfl) ?_) | (refine wpList_store_row rfl 30 _ _ rfl (w.heap.size + 2) l.toArray rfl rfl 30 ranZc HZ.out (HON.out l HL19.out) (by simp [HL19.out]) HL1.out ?_))
  exact bodyPost_ret (results_cell2 rfl _ _ (w.heap.size + 2) 30 l.toArray (0, 0) _ rfl (HZ.out.row _) Try.underlying30 rfl (HON.out l HL19.out)) rfl ⟨l, wx, rfl, HRL.out, rfl, Below.row HB.out (by omega) _⟩
theorem goU_fine {cd inp ps : List Int} {nI : Nat} (hn : inp.length = nI) (hby : ∀ x ∈ inp, 0 ≤ x ∧ x < 256) : ∀ (n : Nat) (s : St) (b : Bool), Fine nI s → Fine nI (go (envU ps) cd inp n s b).1
  | 0, s, b, h => by
    unfold go; split <;> exact h
  | n + 1, s, b, h => by
    unfold go; split
    · exact h
    · split
      · exact goU_fine hn hby n _ _ (tick_fine hn hby s h)
      · exact tick_fine hn hby s h
/-- UNTIL. -/
theorem until_ok (cv iv mv pv : Value) (nC nI mn np : Nat) (r0 r1 r2 r3 r4 r5 r6 r7 pc fuel : Int) (c z n v : Bool) (cd inp ms ps : List Int) (w : World)
    (hc : Rd w 1 cv nC (cd.map (Value.int .i64))) (hi : Rd w 1 iv nI (inp.map (Value.int .u8))) (hm : Rd w 1 mv mn (ms.map (Value.int .i64))) (hp : Rd w 1 pv np (ps.map (Value.int .i64))) (hby : ∀ x ∈ inp, 0 ≤ x ∧ x < 256) :
    Calls Try.prog 37 #[cv, stV r0 r1 r2 r3 r4 r5 r6 r7 c z n v pc mv, iv, .int .i64 fuel, pv] w (RunR (Mc.wary nC nI (Mc.wr [r0, r1, r2, r3, r4, r5, r6, r7] pc ms) fuel) (go (envU ps) cd inp fuel.toNat (Mc.begin (reg8 r0 r1 r2 r3 r4 r5 r6 r7) c z n v pc ms) false).1 w) := by
  obtain ⟨_, hmC, ca, cc, rfl, _, _⟩ := hc.ints
  obtain ⟨_, hmI, ia, ic, rfl, _, _⟩ := hi.ints
  obtain ⟨hml, hmM, ma, mc, rfl, _, _⟩ := hm.ints
  obtain ⟨_, _, pa, pk, rfl, _, _⟩ := hp.ints
  have hw : ∀ w0 : World, Below w.heap.size w w0 → ∀ w1 : World, Below w0.heap.size w0 w1 → Calls Try.prog 61 #[.slice ca nC cc, stV r0 r1 r2 r3 r4 r5 r6 r7 c z n v pc (.slice ma mn mc), .slice ia nI ic, .int .i64 fuel] w1 fun e w' => e = .returned (.int .i64 (Mc.wary nC nI (Mc.wr [r0, r1, r2, r3, r4, r5, r6, r7] pc ms) fuel)) ∧ Below w1.heap.size w1 w' := fun w0 hb0 w1 hb =>
    wary_ok _ _ nC nI ca ia cc ic rfl rfl (by unfold maxLen at hmC; omega) (by unfold maxLen at hmI; omega) r0 r1 r2 r3 r4 r5 r6 r7 pc fuel c z n v _ mn ms w1 (hm.below (Ext.trans hb0 hb))
  by_cases h0 : Mc.wary nC nI (Mc.wr [r0, r1, r2, r3, r4, r5, r6, r7] pc ms) fuel = 0
  · obtain ⟨h1, h2, h3, h4, h5, h6, h7⟩ := wary_zero h0
    rw [h0] at hw ⊢
    generalize hR : go (envU ps) cd inp fuel.toNat (Mc.begin (reg8 r0 r1 r2 r3 r4 r5 r6 r7) c z n v pc ms) false = R
    obtain ⟨F, G⟩ := R
    refine (until_run _ _ pa ma np pk mn mc r0 r1 r2 r3 r4 r5 r6 r7 pc fuel 0 c z n v (fun w' l => ∃ ov mv, l = ranL F ov mv ∧ w'.ownsRow (w.heap.size + 4) 5 1 ov F.out.length (F.out.map (Value.int .u8)) ∧ w'.ownsRow (w.heap.size + 4) 3 1 mv (top F.mem MS) ((left F.mem).map (Value.int .i64)) ∧ F.out.length ≤ 65536) w ?_).mono ?_
    · intro wW hs hb q1 q2 q3
      have a1 : w.heap.size + 3 < wW.heap.size := by omega
      have a2 : w.heap.size + 1 < wW.heap.size := by omega
      have hRd : ∀ (xv : Value) (m : Nat) (cs : List Value), Rd w 1 xv m cs → ∀ wx, Bel wW.heap.size (fun b => b = w.heap.size + 3) wW wx → RdB wx w.heap.size xv m cs := fun xv m cs hx wx hbx =>
        ((RdB.of hx).below hb).below ((hbx.mono (B' := w.heap.size) (l' := fun _ => False) (by omega) (fun b hbb (k : b = w.heap.size + 3) => by omega)).below)
      refine (watchS_run (E := envU ps) (l0 := fun b => b = w.heap.size + 3) #[.pointer (some ⟨w.heap.size + 3, 0, none⟩), .pointer (some ⟨w.heap.size + 1, 0, none⟩)] ca ia ma nC cc nI ic mn mc r0 r1 r2 r3 r4 r5 r6 r7 pc fuel c z n v cd inp ms wW
        (eyU ps np (.slice pa np pk) (w.heap.size + 3) (w.heap.size + 1) wW.heap.size w.heap.size a1 a2 (by omega) (by omega)) false (fun _ _ => True) trivial (fun _ _ _ => trivial) (fun _ _ _ => rfl)
        (stopU ps np _ _ _ _ _ _ _ _ _) ?_ (hw wW hb) (fun wx hbx => (hRd _ _ _ hc wx hbx).up (by omega)) (fun wx hbx => (hRd _ _ _ hi wx hbx).up (by omega)) (hm.below hb) h1 h2 (by omega) hby h4 (begin_fine h5 h6 h7) F G hR.symm).mono ?_
      · exact ⟨q3, q1, hRd _ _ _ hp wW (Bel.refl _ _ _), fun b => Iff.rfl⟩
      · rintro e w' ⟨ov, mv, l, he, p1, p2, p3, p4, p5, p6⟩
        rw [hs] at p1 p2
        exact ⟨ranL F ov mv, he, rfl, ranL_one2 F ov mv (own_one p1) (own_one p2), ⟨ov, mv, rfl, p1, p2, p3⟩, q2.bel p6 (by omega) (fun (k : w.heap.size + 2 = w.heap.size + 3) => by omega), hb.trans (p6.mono (by omega) (l' := fun _ => False) (fun b hbb (k : b = w.heap.size + 3) => by omega)).below⟩
    · rintro e w' ⟨l, wx, he, ⟨ov, mv, rfl, p1, p2, p3⟩, rfl, hb⟩
      exact .inr ⟨rfl, ov, mv, he, own_mono (by omega) (own_lowRow p1 (by omega) _), own_mono (by omega) (own_lowRow p2 (by omega) _), p3, hb⟩
  · refine (until_run _ _ pa ma np pk mn mc r0 r1 r2 r3 r4 r5 r6 r7 pc fuel (Mc.wary nC nI (Mc.wr [r0, r1, r2, r3, r4, r5, r6, r7] pc ms) fuel) c z n v (fun w' l => l = ranZc.toList) w (fun wW hs hb q1 q2 q3 => (watch_wrong _ _ _ h0 r0 r1 r2 r3 r4 r5 r6 r7 pc fuel c z n v _ _ .nilFunc wW (hw wW hb) ⟨_, _, _, rfl⟩).mono ?_)).mono ?_
    · rintro e w' ⟨he, hb2⟩
      exact ⟨ranZc.toList, he, rfl, ranZ_one, rfl, q2.keep hb2, Ext.trans hb hb2⟩
    · rintro e w' ⟨l, wx, he, rfl, rfl, hb⟩
      exact .inl ⟨h0, he, hb⟩
end Go.Proofs.Ytfjgnhmmakeaeaa
