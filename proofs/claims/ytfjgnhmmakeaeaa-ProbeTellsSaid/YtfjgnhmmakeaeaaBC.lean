/- Walk of probe.Hits. -/
import Derived.Test.YtfjgnhmmakeaeaaBH
import Derived.Test.YtfjgnhmmakeaeaaBB
namespace Go.Proofs.Ytfjgnhmmakeaeaa
open Go.RowKit
set_option linter.unusedVariables false
set_option linter.unusedSimpArgs false
set_option maxRecDepth 100000
open Mc
theorem Try.infoInt : (Try.prog.info? 3).map (fun i => (i.zero, i.size, i.bytes)) = some (some (.int .i64 0), 1, 8) := by kernel_rfl
set_option maxHeartbeats 4000000 in
/-- One word more. -/
theorem hit_in (k n mb bo gb : Nat) (x : Int) (w : World) (ho : w.cell? ⟨bo, 0, none⟩ = some (.slice (some ⟨gb, 0, none⟩) n n)) (hk : k < n) (hn : n ≤ 70000) (hx : w.cell? ⟨gb, k, none⟩ = some (.int .i64 x)) (hf : w.frozen? ⟨gb, k, none⟩ = false) (x0 : 0 ≤ x) (x1 : x < 1000000) :
    Calls Try.prog 58 #[.int .i64 (k : Int), .pointer (some ⟨mb, 0, none⟩), .pointer (some ⟨bo, 0, none⟩)] w fun e w' => e = .returned (.tuple #[]) ∧ w' = w.setCell ⟨gb, k, none⟩ (.int .i64 (x + 1)) := by
  go_enter Try.func58, Try.ntmps58
  go_wp2
  go_end0
  exact ⟨rfl, rfl⟩
set_option maxHeartbeats 4000000 in
theorem hit_out (a : Int) (n mb bo gb : Nat) (w : World) (ho : w.cell? ⟨bo, 0, none⟩ = some (.slice (some ⟨gb, 0, none⟩) n n)) (hk : ¬ a < (n : Int)) (hn : n ≤ 70000) :
    Calls Try.prog 58 #[.int .i64 a, .pointer (some ⟨mb, 0, none⟩), .pointer (some ⟨bo, 0, none⟩)] w fun e w' => e = .returned (.tuple #[]) ∧ w' = w := by
  go_enter Try.func58, Try.ntmps58
  go_wp2
  go_end0
  exact ⟨rfl, rfl⟩
/-- What it holds: how often a run came to each word. -/
def eyH (n bo gb B0 : Nat) (h1 : bo < B0) (h2 : gb < B0) (h3 : bo ≠ gb) : Eyes (envH n) B0 (fun b => b = bo ∨ b = gb) where
  Look w l g := Blk w bo 22 #[.slice (some ⟨gb, 0, none⟩) n n] ∧ (∃ arr, Blk w gb 3 arr ∧ ∀ j, j < n → arr[j]? = some (.int .i64 (g j))) ∧ ∀ b, l b ↔ (b = bo ∨ b = gb)
  keep := by
    rintro w w' l g ⟨q1, ⟨arr, q2, q3⟩, q4⟩ hs hb
    exact ⟨(hb bo (.inl ((q4 bo).2 (.inl rfl)))).trans q1, ⟨arr, (hb gb (.inl ((q4 gb).2 (.inr rfl)))).trans q2, q3⟩, q4⟩
  nb := by
    rintro w l g b ⟨q1, ⟨arr, q2, q3⟩, q4⟩ hb
    rcases (q4 b).1 hb with rfl | rfl
    · exact ⟨_, _, q1, by decide, by decide, by decide⟩
    · exact ⟨_, _, q2, by decide, by decide, by decide⟩
/-- Counts are no more than steps. -/
def IvH (g : Nat → Int) (s : St) : Prop := 0 ≤ s.steps ∧ ∀ j, 0 ≤ g j ∧ g j ≤ s.steps
theorem ivH_step (n : Nat) (cd inp : List Int) (g : Nat → Int) (s : St) (h : IvH g s) : IvH ((envH n).dG ((envH n).sG g s.pc) s.pc (tick cd inp s)) (tick cd inp s) := by
  have h1 := tick_steps cd inp s
  obtain ⟨h0, h⟩ := h
  refine ⟨by omega, fun j => ?_⟩
  show 0 ≤ (if s.pc < (n : Int) then upd g s.pc.toNat (g s.pc.toNat + 1) else g) j ∧ (if s.pc < (n : Int) then upd g s.pc.toNat (g s.pc.toNat + 1) else g) j ≤ _
  have hj := h j
  split
  · unfold upd; split
    · rename_i e; have := h s.pc.toNat; omega
    · omega
  · omega
theorem doneH (cd inp : List Int) (n bo gb B0 : Nat) (hn : n ≤ 70000) (h1 : bo < B0) (h2 : gb < B0) (h3 : bo ≠ gb) :
    Dones (eyH n bo gb B0 h1 h2 h3) cd inp IvH 58 (fun a mb => #[.int .i64 a, .pointer (some ⟨mb, 0, none⟩)] ++ #[.pointer (some ⟨bo, 0, none⟩)]) := by
  intro L s s' ov l g wx hs hm hB hok hwd hs0 hs1 hI hlk hgm hl
  obtain ⟨q1, ⟨arr, q2, q3⟩, q4⟩ := hlk
  have c1 : wx.cell? ⟨bo, 0, none⟩ = some (.slice (some ⟨gb, 0, none⟩) n n) := by rw [q1.cell]; rfl
  by_cases hk : s'.pc < (n : Int)
  · obtain ⟨k, hk'⟩ : ∃ k : Nat, s'.pc = (k : Int) := ⟨s'.pc.toNat, by have := hwd.1; omega⟩
    have hkn : k < n := by omega
    have hcell : wx.cell? ⟨gb, k, none⟩ = some (.int .i64 (g k)) := by rw [q2.cell]; exact q3 k hkn
    have hi := hI.2 k
    have h0 := hit_in k n L.mb bo gb (g k) wx c1 hkn hn hcell (q2.frozen k) hi.1 (by omega)
    rw [hk']
    refine h0.mono ?_
    rintro e w' ⟨he, rfl⟩
    have hd : (envH n).dG g (k : Int) s = upd g k (g k + 1) := by
      show (if (k : Int) < (n : Int) then upd g (k : Int).toNat (g (k : Int).toNat + 1) else g) = _
      rw [if_pos (by omega)]; rfl
    rw [hd]
    refine ⟨he, l, ⟨q1.far h3 _, ⟨_, q2.set_ k _, fun j hj => ?_⟩, q4⟩, ?_, fun b hb => .inl hb⟩
    · have hs : j < arr.size := (by have := q3 j hj; rcases Nat.lt_or_ge j arr.size with h | h; exact h; rw [Array.getElem?_eq_none h] at this; cases this)
      unfold upd
      rw [Array.getElem?_setIfInBounds]
      by_cases e : k = j
      · subst e; simp [hs]
      · rw [if_neg e, if_neg (fun h => e h.symm)]; exact q3 j hj
    · exact ⟨rfl, rfl, rfl, by simp, fun b hb hn => Below.heap_setCell wx ⟨gb, k, none⟩ _ b (fun e => hn ((q4 b).2 (.inr e)))⟩
  · refine (hit_out s'.pc n L.mb bo gb wx c1 hk hn).mono ?_
    rintro e w' ⟨he, rfl⟩
    have hd : (envH n).dG g s'.pc s = g := if_neg hk
    rw [hd]
    exact ⟨he, l, ⟨q1, ⟨arr, q2, q3⟩, q4⟩, Bel.refl _ _ _, fun b hb => .inl hb⟩
end Go.Proofs.Ytfjgnhmmakeaeaa
/- probe.Hits, whole. -/
namespace Go.Proofs.Ytfjgnhmmakeaeaa
open Go.RowKit
set_option linter.unusedVariables false
set_option linter.unusedSimpArgs false
set_option maxRecDepth 100000
open Mc
theorem Blk.newAt {w : World} {n : Nat} (t : TypeId) (cs : Array Value) (h : w.heap.size = n) : Blk (w.alloc (.cells cs t)) n t cs := by subst h; exact Blk.new w t cs
theorem hi_start {w w1 : World} {n : Nat} (hs : w1.heap.size = w.heap.size + 2) (hb : Below w.heap.size w w1) (hg : Blk w1 (w.heap.size + 1) 3 (List.replicate n (Value.int .i64 0)).toArray) (v : Value) :
    (w1.alloc (.cells #[v] 22)).heap.size = w.heap.size + 3 ∧ Below w.heap.size w (w1.alloc (.cells #[v] 22)) ∧ Blk (w1.alloc (.cells #[v] 22)) (w.heap.size + 1) 3 (List.replicate n (Value.int .i64 0)).toArray ∧ Blk (w1.alloc (.cells #[v] 22)) (w.heap.size + 2) 22 #[v] :=
  ⟨by simp; omega, Ext.alloc hb _, hg.alloc _, Blk.newAt _ _ (by omega)⟩
set_option maxHeartbeats 8000000 in
theorem hits_run (ca ia ma : Option Addr) (nC cc nI ic mn mc : Nat) (r0 r1 r2 r3 r4 r5 r6 r7 pc fuel E1 : Int) (c z n v : Bool) (Pz : World → Value → Prop) (w : World) (hn : nC ≤ 35184372088832)
    (CW : ∀ wW : World, wW.heap.size = w.heap.size + 3 → Below w.heap.size w wW → Blk wW (w.heap.size + 1) 3 (List.replicate nC (Value.int .i64 0)).toArray → Blk wW (w.heap.size + 2) 22 #[.slice (some ⟨w.heap.size + 1, 0, none⟩) nC nC] →
      Calls Try.prog 43 #[.slice ca nC cc, stV r0 r1 r2 r3 r4 r5 r6 r7 c z n v pc (.slice ma mn mc), .slice ia nI ic, .int .i64 fuel, .nilFunc, .func (.func 58) #[] #[.pointer (some ⟨w.heap.size + 2, 0, none⟩)]] wW fun e w' => ∃ l : List Value, e = .returned (.tuple #[.agg l.toArray, .int .i64 E1]) ∧ l.length = 19 ∧ l.toArray.all (·.oneCell') = true ∧ Below w.heap.size w w' ∧ Blk w' (w.heap.size + 2) 22 #[.slice (some ⟨w.heap.size + 1, 0, none⟩) nC nC] ∧ (∀ w2, Below w'.heap.size w' w2 → Pz w2 (.slice (some ⟨w.heap.size + 1, 0, none⟩) nC nC))) :
    Calls Try.prog 38 #[.slice ca nC cc, stV r0 r1 r2 r3 r4 r5 r6 r7 c z n v pc (.slice ma mn mc), .slice ia nI ic, .int .i64 fuel] w fun e w' => (E1 ≠ 0 ∧ e = .returned (.tuple #[.slice none 0 0, .int .i64 E1]) ∧ Below w.heap.size w w') ∨ (E1 = 0 ∧ ∃ v, e = .returned (.tuple #[v, .int .i64 0]) ∧ Pz w' v ∧ Below w.heap.size w w') := by
  have HCW := Lib.hid CW
  have HS0 := Lib.hid (Blk.new w 27 (stC r0 r1 r2 r3 r4 r5 r6 r7 c z n v pc (.slice ma mn mc)))
  obtain ⟨iI, hi, hz0, hz1, hz2⟩ := info_parts Try.infoInt
  have HI : Hid (iI.bytes * nC ≤ 281474976710656) := by show _ ≤ _; rw [hz2]; omega
  have hn63 : nC ≤ 9223372036854775807 := by omega
  clear CW hn
  have HONE : ∀ l : List Value, l.length = 19 → (Try.prog.info? 30).map (·.size) = some l.toArray.size := fun l hl => by rw [List.size_toArray, hl]; kernel_rfl
  have HON := Lib.hid HONE
  clear HONE
  by_cases h0 : E1 = 0
  · subst h0
    go_enter Try.func38, Try.ntmps38
    go_wp2_with (first | (at_make; refine wpList_make_blk _ rfl _ _ 22 rfl 3 iI (.int .i64 0) Try.underlying22 hi hz0 hz1 rfl .i64 .i64 nC rfl rfl HI.out hn63 ?_; intro w1 hblk hbw hsz; have hs1 : w1.heap.size = w.heap.size + 2 := (by simpa using hsz); have HK := Lib.hid ((by simpa using hblk : Blk w1 (w.heap.size + 1) 3 (List.replicate nC (Value.int .i64 0)).toArray)); have HB := Lib.hid (Ext.trans (Ext.alloc (Below.refl w.heap.size w) _) hbw); have HS1 := Lib.hid (HS0.out.keep hbw); clear hblk hbw hsz) | (refine wpList_load_row rfl 27 _ rfl w.heap.size rfl 27 (stC r0 r1 r2 r3 r4 r5 r6 r7 c z n v pc (.slice ma mn mc)) (0, 0) _ (HS1.out.alloc _) Try.underlying27 rfl (by kernel_rfl) ?_) | (go_at_call 43; refine (HCW.out _ (hi_start hs1 HB.out HK.out _).1 (hi_start hs1 HB.out HK.out _).2.1 (hi_start hs1 HB.out HK.out _).2.2.1 (hi_start hs1 HB.out HK.out _).2.2.2).mono ?_; rintro e wx ⟨l, rfl, hl19, hl1, hbw, hko, hpz⟩; have HL19 := Lib.hid hl19; have HL1 := Lib.hid hl1; have HBW := Lib.hid hbw; have HKO := Lib.hid hko; have HPZ := Lib.hid hpz; clear hl19 hl1 hbw hko hpz) | (refine wpList_store_row rfl 30 _ _ rfl wx.heap.size l.toArray rfl rfl 30 ranZc (Blk.new _ _ _) (HON.out l HL19.out) (by simp [HL19.out]) HL1.out ?_; generalize hw4 : (wx.alloc (Obj.cells ranZc 30)).setRow wx.heap.size l.toArray = w4; have HB4 := Lib.hid ((by rw [← hw4]; exact Below.row (Ext.alloc (Below.refl _ _) _) (Nat.le_refl _) _ : Below wx.heap.size wx w4)); have k4 : w4.cell? ⟨w.heap.size + 2, 0, none⟩ = some (.slice (some ⟨w.heap.size + 1, 0, none⟩) nC nC) := (by rw [(HKO.out.keep HB4.out).cell]; rfl); clear hw4))
    go_ret2
    exact .inr ⟨trivial, _, rfl, HPZ.out _ HB4.out, Ext.trans HBW.out HB4.out⟩
  · have e0 : (E1 != 0) = true := by simpa using h0
    have HE0 := Lib.hid h0
    clear h0
    go_enter Try.func38, Try.ntmps38
    go_wp2_with (first | (at_make; refine wpList_make_blk _ rfl _ _ 22 rfl 3 iI (.int .i64 0) Try.underlying22 hi hz0 hz1 rfl .i64 .i64 nC rfl rfl HI.out hn63 ?_; intro w1 hblk hbw hsz; have hs1 : w1.heap.size = w.heap.size + 2 := (by simpa using hsz); have HK := Lib.hid ((by simpa using hblk : Blk w1 (w.heap.size + 1) 3 (List.replicate nC (Value.int .i64 0)).toArray)); have HB := Lib.hid (Ext.trans (Ext.alloc (Below.refl w.heap.size w) _) hbw); have HS1 := Lib.hid (HS0.out.keep hbw); clear hblk hbw hsz) | (refine wpList_load_row rfl 27 _ rfl w.heap.size rfl 27 (stC r0 r1 r2 r3 r4 r5 r6 r7 c z n v pc (.slice ma mn mc)) (0, 0) _ (HS1.out.alloc _) Try.underlying27 rfl (by kernel_rfl) ?_) | (go_at_call 43; refine (HCW.out _ (hi_start hs1 HB.out HK.out _).1 (hi_start hs1 HB.out HK.out _).2.1 (hi_start hs1 HB.out HK.out _).2.2.1 (hi_start hs1 HB.out HK.out _).2.2.2).mono ?_; rintro e wx ⟨l, rfl, hl19, hl1, hbw, hko, hpz⟩; have HL19 := Lib.hid hl19; have HL1 := Lib.hid hl1; have HBW := Lib.hid hbw; have HKO := Lib.hid hko; have HPZ := Lib.hid hpz; clear hl19 hl1 hbw hko hpz) | (refine wpList_store_row rfl 30 _ _ rfl wx.heap.size l.toArray rfl rfl 30 ranZc (Blk.new _ _ _) (HON.out l HL19.out) (by simp [HL19.out]) HL1.out ?_; generalize hw4 : (wx.alloc (Obj.cells ranZc 30)).setRow wx.heap.size l.toArray = w4; have HB4 := Lib.hid ((by rw [← hw4]; exact Below.row (Ext.alloc (Below.refl _ _) _) (Nat.le_refl _) _ : Below wx.heap.size wx w4)); have k4 : w4.cell? ⟨w.heap.size + 2, 0, none⟩ = some (.slice (some ⟨w.heap.size + 1, 0, none⟩) nC nC) := (by rw [(HKO.out.keep HB4.out).cell]; rfl); clear hw4))
    go_ret2
    exact .inl ⟨HE0.out, rfl, Ext.trans HBW.out HB4.out⟩
/-- What counting gives. -/
def HitsR (E1 : Int) (G : Nat → Int) (nC : Nat) (w : World) (e : Ending) (w' : World) : Prop :=
  (E1 ≠ 0 ∧ e = .returned (.tuple #[.slice none 0 0, .int .i64 E1]) ∧ Below w.heap.size w w') ∨
  (E1 = 0 ∧ ∃ v, e = .returned (.tuple #[v, .int .i64 0]) ∧ Rd w' 1 v nC (((List.range nC).map G).map (Value.int .i64)) ∧ Below w.heap.size w w')
theorem goA_fineH {cd inp : List Int} {nI : Nat} (hn : inp.length = nI) (hby : ∀ x ∈ inp, 0 ≤ x ∧ x < 256) : ∀ (n : Nat) (s : St), Fine nI s → Fine nI (goA cd inp n s)
  | 0, s, h => h
  | n + 1, s, h => by
    unfold goA; split
    · exact goA_fineH hn hby n _ (tick_fine hn hby s h)
    · exact tick_fine hn hby s h
theorem rd_counts {w : World} {g n : Nat} {G : Nat → Int} {arr : Array Value} (hb : Blk w g 3 arr) (ha : ∀ j, j < n → arr[j]? = some (.int .i64 (G j))) (hn : n ≤ maxLen) : Rd w 1 (.slice (some ⟨g, 0, none⟩) n n) n (((List.range n).map G).map (Value.int .i64)) := by
  refine ⟨by simp, hn, _, n, rfl, Nat.le_refl _, fun _ => ⟨g, 0, rfl, fun j u hu => ?_⟩⟩
  rw [Nat.zero_add, hb.cell]
  rw [List.map_map, List.getElem?_map] at hu
  rcases Nat.lt_or_ge j n with hj | hj
  · rw [List.getElem?_range hj] at hu
    simp at hu; subst hu
    exact ha j hj
  · rw [List.getElem?_eq_none (by simpa using hj)] at hu; cases hu
theorem hits_ok (cv iv mv : Value) (nC nI mn : Nat) (r0 r1 r2 r3 r4 r5 r6 r7 pc fuel : Int) (c z n v : Bool) (cd inp ms : List Int) (w : World) (hsz : nC ≤ 35184372088832)
    (hc : Rd w 1 cv nC (cd.map (Value.int .i64))) (hi : Rd w 1 iv nI (inp.map (Value.int .u8))) (hm : Rd w 1 mv mn (ms.map (Value.int .i64))) (hby : ∀ x ∈ inp, 0 ≤ x ∧ x < 256) :
    Calls Try.prog 38 #[cv, stV r0 r1 r2 r3 r4 r5 r6 r7 c z n v pc mv, iv, .int .i64 fuel] w (HitsR (Mc.wary nC nI (Mc.wr [r0, r1, r2, r3, r4, r5, r6, r7] pc ms) fuel) (go (envH nC) cd inp fuel.toNat (Mc.begin (reg8 r0 r1 r2 r3 r4 r5 r6 r7) c z n v pc ms) (fun _ => 0)).2 nC w) := by
  obtain ⟨_, hmC, ca, cc, rfl, _, _⟩ := hc.ints
  obtain ⟨_, hmI, ia, ic, rfl, _, _⟩ := hi.ints
  obtain ⟨hml, hmM, ma, mc, rfl, _, _⟩ := hm.ints
  have hw : ∀ w0 : World, Below w.heap.size w w0 → ∀ w1 : World, Below w0.heap.size w0 w1 → Calls Try.prog 61 #[.slice ca nC cc, stV r0 r1 r2 r3 r4 r5 r6 r7 c z n v pc (.slice ma mn mc), .slice ia nI ic, .int .i64 fuel] w1 fun e w' => e = .returned (.int .i64 (Mc.wary nC nI (Mc.wr [r0, r1, r2, r3, r4, r5, r6, r7] pc ms) fuel)) ∧ Below w1.heap.size w1 w' := fun w0 hb0 w1 hb =>
    wary_ok _ _ nC nI ca ia cc ic rfl rfl (by unfold maxLen at hmC; omega) (by unfold maxLen at hmI; omega) r0 r1 r2 r3 r4 r5 r6 r7 pc fuel c z n v _ mn ms w1 (hm.below (Ext.trans hb0 hb))
  by_cases h0 : Mc.wary nC nI (Mc.wr [r0, r1, r2, r3, r4, r5, r6, r7] pc ms) fuel = 0
  · obtain ⟨h1, h2, h3, h4, h5, h6, h7⟩ := wary_zero h0
    rw [h0] at hw ⊢
    generalize hR : go (envH nC) cd inp fuel.toNat (Mc.begin (reg8 r0 r1 r2 r3 r4 r5 r6 r7) c z n v pc ms) (fun _ => 0) = R
    obtain ⟨F, G⟩ := R
    refine (hits_run ca ia ma nC cc nI ic mn mc r0 r1 r2 r3 r4 r5 r6 r7 pc fuel 0 c z n v (fun w2 v => Rd w2 1 v nC (((List.range nC).map G).map (Value.int .i64))) w hsz ?_).mono ?_
    · intro wW hs hb q1 q2
      have a1 : w.heap.size + 2 < wW.heap.size := by omega
      have a2 : w.heap.size + 1 < wW.heap.size := by omega
      have hRd : ∀ (xv : Value) (m : Nat) (cs : List Value), Rd w 1 xv m cs → ∀ wx, Bel wW.heap.size (fun b => b = w.heap.size + 2 ∨ b = w.heap.size + 1) wW wx → RdB wx w.heap.size xv m cs := fun xv m cs hx wx hbx =>
        ((RdB.of hx).below hb).below ((hbx.mono (B' := w.heap.size) (l' := fun _ => False) (by omega) (fun b hbb k => by omega)).below)
      refine (watchH_run (E := envH nC) (l0 := fun b => b = w.heap.size + 2 ∨ b = w.heap.size + 1) #[.pointer (some ⟨w.heap.size + 2, 0, none⟩)] ca ia ma nC cc nI ic mn mc r0 r1 r2 r3 r4 r5 r6 r7 pc fuel c z n v cd inp ms wW
        (eyH nC (w.heap.size + 2) (w.heap.size + 1) wW.heap.size a1 a2 (by omega)) (fun _ => 0) IvH ⟨Int.le_refl _, fun j => ⟨Int.le_refl _, Int.le_refl _⟩⟩ (fun g s h => ivH_step nC cd inp g s h) (fun _ _ => ⟨rfl, rfl⟩)
        (doneH cd inp nC _ _ _ (by omega) _ _ _) ?_ (hw wW hb) (fun wx hbx => (hRd _ _ _ hc wx hbx).up (by omega)) (fun wx hbx => (hRd _ _ _ hi wx hbx).up (by omega)) (hm.below hb) h1 h2 (by omega) hby h4 (begin_fine h5 h6 h7) F G hR.symm).mono ?_
      · exact ⟨q2, ⟨_, q1, fun j hj => by simp [List.getElem?_replicate, hj]⟩, fun b => Iff.rfl⟩
      · rintro e w' ⟨ov, mv, l, he, p1, p2, p3, ⟨k1, ⟨arr, k2, k3⟩, k4⟩, p5, p6⟩
        refine ⟨ranL F ov mv, he, rfl, ranL_one2 F ov mv (own_one p1) (own_one p2), hb.trans (p6.mono (by omega) (l' := fun _ => False) (fun b hbb k => by omega)).below, k1, fun w2 hb2 => rd_counts (k2.keep hb2) k3 (by unfold maxLen; omega)⟩
    · exact fun e w' h => h
  · refine (hits_run ca ia ma nC cc nI ic mn mc r0 r1 r2 r3 r4 r5 r6 r7 pc fuel (Mc.wary nC nI (Mc.wr [r0, r1, r2, r3, r4, r5, r6, r7] pc ms) fuel) c z n v (fun w2 v => True) w hsz (fun wW hs hb q1 q2 => (watch_wrong _ _ _ h0 r0 r1 r2 r3 r4 r5 r6 r7 pc fuel c z n v _ .nilFunc _ wW (hw wW hb) ⟨_, _, _, rfl⟩).mono ?_)).mono ?_
    · rintro e w' ⟨he, hb2⟩
      exact ⟨ranZc.toList, he, rfl, ranZ_one, Ext.trans hb hb2, q2.keep hb2, fun _ _ => trivial⟩
    · rintro e w' (h | ⟨h, _⟩)
      · exact .inl h
      · exact absurd h h0
end Go.Proofs.Ytfjgnhmmakeaeaa
