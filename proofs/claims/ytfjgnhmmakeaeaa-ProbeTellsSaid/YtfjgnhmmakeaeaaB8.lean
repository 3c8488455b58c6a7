/- The document's machine: how it lies in memory; Load. -/
import Derived.Test.YtfjgnhmmakeaeaaB2
import Derived.Maps.OwnSet
import Derived.Maps.Views
import Derived.Test.YtfjgnhmmakeaeaaB0
import Derived.BigQuiet
import Derived.Test.YtfjgnhmmakeaeaaB7
import Derived.Test.YtfjgnhmmakeaeaaB6
import Derived.Test.YtfjgnhmmakeaeaaBN
import Derived.Test.YtfjgnhmmakeaeaaE11
namespace Go.Proofs.Ytfjgnhmmakeaeaa
open Go.RowKit Go.Maps
set_option linter.unusedVariables false
set_option linter.unusedSimpArgs false
set_option maxRecDepth 100000
open Mc
theorem keyed_int : Keyed Try.prog 3 := int_keyed Try.underlying3
/-- What was put, beside what memory had. -/
def PutIs (w : World) (mp N : Nat) (ms : List Int) (mem : Nat → Int) : Prop :=
  ∃ D : DataW Unit, w.ownsMap Try.prog 3 (plainElem Try.prog 3) mp N D ∧ (∀ j : Nat, j < 65536 → (has D (.int .i64 (j : Int)) = true → D.atKey (.int .i64 (j : Int)) (.lit (.int .i64 0)) = .lit (.int .i64 (mem j))) ∧ (has D (.int .i64 (j : Int)) = false → mem j = memOf ms j))
structure Lay3 where
  bb : Nat
  mp : Nat
  cv : Value
  iv : Value
  ma : Option Addr
  mn : Nat
  mcap : Nat
def cells3 (L : Lay3) (s : St) (ov : Value) : Array Value :=
  #[L.cv, .int .i64 (s.r 0), .int .i64 (s.r 1), .int .i64 (s.r 2), .int .i64 (s.r 3), .int .i64 (s.r 4), .int .i64 (s.r 5), .int .i64 (s.r 6), .int .i64 (s.r 7),
    .bool s.c, .bool s.z, .bool s.n, .bool s.v, .int .i64 s.pc, .slice L.ma L.mn L.mcap, .map (some L.mp), L.iv, .int .i64 (s.read : Int), ov, .int .i64 s.trap, .int .i64 s.steps]
/-- The document's machine in memory. -/
structure Box3 (w : World) (B : Nat) (L : Lay3) (N : Nat) (ms : List Int) (s : St) (ov : Value) : Prop where
  blk : Blk w L.bb 88 (cells3 L s ov)
  put : PutIs w L.mp N ms s.mem
  lo1 : B ≤ L.bb
  lo2 : B ≤ L.mp
  out : w.ownsRow B 5 1 ov s.out.length (s.out.map (Value.int .u8))
abbrev bP (L : Lay3) : Value := .pointer (some ⟨L.bb, 0, none⟩)
theorem Box3.at_ {w : World} {B : Nat} {L : Lay3} {N : Nat} {ms : List Int} {s : St} {ov : Value} (h : Box3 w B L N ms s ov) (j : Nat) (u : Value) (hu : (cells3 L s ov)[j]? = some u) : w.cell? ⟨L.bb, j, none⟩ = some u ∧ w.frozen? ⟨L.bb, j, none⟩ = false :=
  ⟨by rw [h.blk.cell, hu], h.blk.frozen j⟩
theorem int_key (x : Int) (hx : (Lit.int .i64 x).wf = true) : keyOf Try.prog 3 (.int .i64 x) = some (.int .i64 x) := Maps.keyOf_int_mk Try.underlying3 hx
theorem PutIs.look {w : World} {mp N : Nat} {ms : List Int} {mem : Nat → Int} (h : PutIs w mp N ms mem) (j : Nat) (hj : j < 65536) :
    ∃ X b, (Instr.lookup 86 (.map (some mp)) (.int .i64 (j : Int)) true).run Try.prog w = .ok (.tuple #[.int .i64 X, .bool b]) w ∧ (b = true → X = mem j) ∧ (b = false → mem j = memOf ms j) := by
  obtain ⟨D, ho, hD⟩ := h
  have hwf : (Lit.int .i64 (j : Int)).wf = true := by simp [Lit.wf, IntKind.min, IntKind.max, IntKind.signed, IntKind.bits]; omega
  obtain ⟨v, ps, hrun, hv⟩ := ho.look_ok keyed_int Try.underlying86 (z := .int .i64 0) (by kernel_rfl) (plainElem_int Try.underlying3 (by decide)) (int_key (j : Int) hwf)
  obtain ⟨X, rfl, hX, _⟩ := plainElem_int_inv Try.underlying3 hv
  obtain ⟨h1, h2⟩ := hD j hj
  simp only [Prod.mk.injEq] at hX
  refine ⟨X, _, hrun, fun hb => ?_, h2⟩
  have := h1 hb
  rw [hX.1] at this
  injection this with this
  injection this
theorem PutIs.keep {w w' : World} {mp N : Nat} {ms : List Int} {mem : Nat → Int} (h : PutIs w mp N ms mem) {row : Option Nat} (hg : w.grownBy w' row) (hne : some mp ≠ row) : PutIs w' mp N ms mem := by
  obtain ⟨D, ho, hD⟩ := h; exact ⟨D, ho.kept hg hne, hD⟩
theorem PutIs.put {w : World} {mp N : Nat} {ms : List Int} {mem : Nat → Int} (h : PutIs w mp N ms mem) (hN : N < maxLen) (k : Nat) (hk : k < 65536) (x : Int) (hx : 0 ≤ x ∧ x < 65536) :
    ∃ w', (Instr.mapUpdate 86 (.map (some mp)) (.int .i64 (k : Int)) (.int .i64 x)).run Try.prog w = .ok () w' ∧ PutIs w' mp (N + 1) ms (upd mem k x) ∧ w.grownBy w' (some mp) := by
  obtain ⟨D, ho, hD⟩ := h
  have hwf : (Lit.int .i64 (k : Int)).wf = true := by simp [Lit.wf, IntKind.min, IntKind.max, IntKind.signed, IntKind.bits]; omega
  have hwx : (Lit.int .i64 x).wf = true := by simp [Lit.wf, IntKind.min, IntKind.max, IntKind.signed, IntKind.bits]; omega
  obtain ⟨w', hrun, ho', hg⟩ := ho.update keyed_int Try.underlying86 hN (int_key (k : Int) hwf) (plainElem_int Try.underlying3 hwx)
  have hkey : WideAt.IsKeyLit (.int .i64 (k : Int)) := keyed_int.key (int_key (k : Int) hwf)
  refine ⟨w', hrun, ⟨_, ho', fun j hj => ?_⟩, hg⟩
  by_cases e : j = k
  · subst e
    rw [has_put_same ho.isMap hkey, atKey_put_same ho.isMap hkey]
    exact ⟨fun _ => by unfold upd; rw [if_pos rfl], fun h => by cases h⟩
  · have hne : (Lit.int .i64 (j : Int)) ≠ (Lit.int .i64 (k : Int)) := fun h => by injection h with _ h; omega
    rw [has_put_other hne, atKey_put_other hne]
    have : upd mem k x j = mem j := by unfold upd; rw [if_neg e]
    rw [this]; exact hD j hj
set_option maxHeartbeats 4000000 in
theorem load3_ok (B : Nat) (L : Lay3) (N : Nat) (ms : List Int) (s : St) (ov : Value) (a : Int) (ha : 0 ≤ a ∧ a < 1000000) (w : World) (h : Box3 w B L N ms s ov) (hm : Rd w 1 (.slice L.ma L.mn L.mcap) L.mn (ms.map (Value.int .i64))) :
    Calls Try.prog 45 #[bP L, .int .i64 a] w fun e w' => e = .returned (.int .i64 (s.mem (a % 65536).toNat)) ∧ w = w' := by
  obtain ⟨k, hk⟩ : ∃ k : Nat, (k : Int) = a % 65536 := ⟨(a % 65536).toNat, by omega⟩
  have hk2 : k < 65536 := by omega
  obtain ⟨X, b, hrun, hb1, hb2⟩ := h.put.look k hk2
  obtain ⟨c15, f15⟩ := h.at_ 15 (.map (some L.mp)) rfl
  obtain ⟨c14, f14⟩ := h.at_ 14 (.slice L.ma L.mn L.mcap) rfl
  obtain ⟨hl, hmm, sa, sc, hv, hcap, hcell⟩ := hm.ints
  injection hv with hv1 hv2 hv3
  have hkn : (a % 65536).toNat = k := by omega
  rw [hkn]
  have ek : a % 65536 = (k : Int) := hk.symm
  have HE := Lib.hid ek
  obtain ⟨Y, hY⟩ : ∃ Y, Y = s.mem k := ⟨_, rfl⟩
  rw [← hY] at hb1 hb2 ⊢
  have HX1 := Lib.hid hb1; have HX2 := Lib.hid hb2
  obtain ⟨h0, h1⟩ := ha
  clear hk hkn hY hb1 hb2 h hm hmm hv2
  cases b
  · have hYm := HX2.out rfl
    by_cases hlt : k < L.mn
    · obtain ⟨bm, om, ham, hd⟩ := hcell (by omega)
      have hmem : memOf ms k = ms.getD k 0 := rfl
      have cd := hd k hlt
      rw [← hmem, ← hYm] at cd
      have e1 : ¬ L.mn ≤ k := by omega
      rw [hv1, ham] at c14
      have hv1' : L.ma = some ⟨bm, om, none⟩ := hv1.trans ham
      clear hYm hmem hd hcell HX1 HX2 hv1 hv3 ham
      go_enter Try.func45, Try.ntmps45
      go_wp2
      go_ret
      exact ⟨rfl, rfl⟩
    · have hz : Y = 0 := by
        rw [hYm]; unfold memOf; rw [List.getD_eq_getElem?_getD, List.getElem?_eq_none (by have : ms.length = L.mn := hl; omega)]; rfl
      have e1 : L.mn ≤ k := by omega
      clear hYm hcell HX1 HX2 hv1 hv3 hlt
      subst hz
      go_enter Try.func45, Try.ntmps45
      go_wp2
      go_ret
      exact ⟨rfl, rfl⟩
  · have hXY := HX1.out rfl
    subst hXY
    clear hcell HX1 HX2 hv1 hv3
    go_enter Try.func45, Try.ntmps45
    go_wp2
    go_ret
    exact ⟨rfl, rfl⟩
end Go.Proofs.Ytfjgnhmmakeaeaa
/- The document's machine: Push, Pop, plain. -/
namespace Go.Proofs.Ytfjgnhmmakeaeaa
open Go.RowKit Go.Maps
set_option linter.unusedVariables false
set_option linter.unusedSimpArgs false
set_option maxRecDepth 100000
open Mc
theorem PutIs.far {w : World} {mp N : Nat} {ms : List Int} {mem : Nat → Int} (h : PutIs w mp N ms mem) {p : Addr} (hp : mp ≠ p.block) (u : Value) : PutIs (w.setCell p u) mp N ms mem := by
  obtain ⟨D, ho, hD⟩ := h; exact ⟨D, ho.setCell hp u, hD⟩
theorem Box3.ne {w : World} {B : Nat} {L : Lay3} {N : Nat} {ms : List Int} {s : St} {ov : Value} (h : Box3 w B L N ms s ov) : L.mp ≠ L.bb := by
  obtain ⟨D, ⟨es, cl, hb, _⟩, _⟩ := h.put
  intro e
  have := h.blk
  unfold Blk at this
  rw [← e, hb] at this
  cases this
/-- A cell of the machine is written. -/
theorem Box3.set {w : World} {B : Nat} {L : Lay3} {N : Nat} {ms : List Int} {s : St} {ov : Value} (h : Box3 w B L N ms s ov) (k : Nat) (u : Value) (s' : St) (hc : (cells3 L s ov).setIfInBounds k u = cells3 L s' ov) (hm : s'.mem = s.mem) (ho : s'.out = s.out) : Box3 (w.setCell ⟨L.bb, k, none⟩ u) B L N ms s' ov :=
  ⟨by rw [← hc]; exact h.blk.set_ k u, by rw [hm]; exact h.put.far h.ne u, h.lo1, h.lo2, by rw [ho]; exact ownsRow_far h.out h.blk (by decide) k u⟩
theorem Box3.setR {w : World} {B : Nat} {L : Lay3} {N : Nat} {ms : List Int} {s : St} {ov : Value} (h : Box3 w B L N ms s ov) (k : Nat) (hk : k < 8) (x : Int) : Box3 (w.setCell ⟨L.bb, 1 + k, none⟩ (.int .i64 x)) B L N ms { s with r := upd s.r k x } ov := by
  refine h.set (1 + k) _ _ ?_ rfl rfl
  rcases (show k = 0 ∨ k = 1 ∨ k = 2 ∨ k = 3 ∨ k = 4 ∨ k = 5 ∨ k = 6 ∨ k = 7 by omega) with rfl | rfl | rfl | rfl | rfl | rfl | rfl | rfl <;> rfl
theorem Box3.reg {w : World} {B : Nat} {L : Lay3} {N : Nat} {ms : List Int} {s : St} {ov : Value} (h : Box3 w B L N ms s ov) (k : Nat) (hk : k < 8) : w.cell? ⟨L.bb, 1 + k, none⟩ = some (.int .i64 (s.r k)) ∧ w.frozen? ⟨L.bb, 1 + k, none⟩ = false := by
  refine h.at_ (1 + k) _ ?_
  rcases (show k = 0 ∨ k = 1 ∨ k = 2 ∨ k = 3 ∨ k = 4 ∨ k = 5 ∨ k = 6 ∨ k = 7 by omega) with rfl | rfl | rfl | rfl | rfl | rfl | rfl | rfl <;> rfl
theorem grownBy_below3 {w w' : World} (h : Below w.heap.size w w') : w.grownBy w' none := ⟨h.os, h.tape, h.output, h.size, fun i hi _ => h.block i hi⟩
/-- Only the machine's block, its map and what it told have changed, and new blocks. -/
structure Frm3 (L : Lay3) (ov : Value) (w w' : World) : Prop where
  os : w'.os = w.os
  tape : w'.tape = w.tape
  output : w'.output = w.output
  size : w.heap.size ≤ w'.heap.size
  block : ∀ b, b < w.heap.size → ¬ (b = L.bb ∨ b = L.mp) → some b ≠ ov.ownBlock → w'.heap[b]? = w.heap[b]?
theorem Frm3.refl (L : Lay3) (ov : Value) (w : World) : Frm3 L ov w w := ⟨rfl, rfl, rfl, Nat.le_refl _, fun _ _ _ _ => rfl⟩
theorem Frm3.cell {L : Lay3} {ov : Value} {w w' : World} (h : Frm3 L ov w w') {p : Addr} (hp : p.block = L.bb) (u : Value) : Frm3 L ov w (w'.setCell p u) :=
  ⟨h.os, h.tape, h.output, by simpa using h.size, fun b hb hn ho => (Below.heap_setCell w' p u b (fun e => hn (.inl (by rw [e, hp])))).trans (h.block b hb hn ho)⟩
theorem Frm3.drew {L : Lay3} {ov : Value} {w w' : World} (h : Frm3 L ov w w') : Frm3 L ov w w'.drew := ⟨h.os, h.tape, h.output, h.size, h.block⟩
theorem Frm3.below {L : Lay3} {ov : Value} {w w1 w2 : World} (h : Frm3 L ov w w1) (k : Below w1.heap.size w1 w2) : Frm3 L ov w w2 :=
  ⟨k.os.trans h.os, k.tape.trans h.tape, k.output.trans h.output, Nat.le_trans h.size k.size, fun b hb hn ho => (k.block b (Nat.lt_of_lt_of_le hb h.size)).trans (h.block b hb hn ho)⟩
theorem Frm3.put {L : Lay3} {ov : Value} {w w1 w2 : World} (h : Frm3 L ov w w1) (k : w1.grownBy w2 (some L.mp)) : Frm3 L ov w w2 :=
  ⟨k.os.trans h.os, k.tape.trans h.tape, k.output.trans h.output, Nat.le_trans h.size k.size, fun b hb hn ho => (k.block b (Nat.lt_of_lt_of_le hb h.size) (fun e => hn (.inr (by injection e)))).trans (h.block b hb hn ho)⟩
theorem Box3.keep {w w' : World} {B : Nat} {L : Lay3} {N : Nat} {ms : List Int} {s : St} {ov : Value} (h : Box3 w B L N ms s ov) (hb : Below w.heap.size w w') : Box3 w' B L N ms s ov :=
  ⟨h.blk.keep hb, h.put.keep (row := none) (grownBy_below3 hb) (by simp), h.lo1, h.lo2, ownsRow_below h.out hb⟩
theorem Box3.drew {w : World} {B : Nat} {L : Lay3} {N : Nat} {ms : List Int} {s : St} {ov : Value} (h : Box3 w B L N ms s ov) : Box3 w.drew B L N ms s ov := ⟨h.blk, h.put, h.lo1, h.lo2, h.out⟩
/-- Something put. -/
theorem Box3.putk {w : World} {B : Nat} {L : Lay3} {N : Nat} {ms : List Int} {s : St} {ov : Value} (h : Box3 w B L N ms s ov) (hN : N < 9000000) (k : Nat) (hk : k < 65536) (x : Int) (hx : 0 ≤ x ∧ x < 65536) :
    ∃ w', (Instr.mapUpdate 86 (.map (some L.mp)) (.int .i64 (k : Int)) (.int .i64 x)).run Try.prog w = .ok () w' ∧ Box3 w' B L (N + 1) ms { s with mem := upd s.mem k x } ov ∧ w.grownBy w' (some L.mp) := by
  obtain ⟨w', hrun, hp, hg⟩ := h.put.put (by unfold maxLen; omega) k hk x hx
  refine ⟨w', hrun, ⟨h.blk.grown hg (fun e => h.ne (by injection e with e; exact e.symm)), hp, h.lo1, h.lo2, ?_⟩, hg⟩
  refine h.out.kept hg ?_
  rcases h.out.2 with ⟨hv, _⟩ | ⟨g, cap, cur, hv, _, hb, _⟩
  · exact .inl (by rw [hv]; rfl)
  · right
    intro e
    rw [hv] at e
    have e : g = L.mp := by simpa [Value.ownBlock] using e
    obtain ⟨D, ⟨es, cl, hb2, _⟩, _⟩ := h.put
    rw [← e, hb] at hb2
    cases hb2
set_option maxHeartbeats 4000000 in
theorem plain3_ok (B : Nat) (L : Lay3) (N : Nat) (ms : List Int) (s : St) (ov : Value) (x : Int) (c : Bool) (hx : 0 ≤ x ∧ x < 65536) (w : World) (h : Box3 w B L N ms s ov) :
    Calls Try.prog 66 #[bP L, .int .i64 x, .bool c] w fun e w' => e = .returned (.int .i64 x) ∧ Box3 w' B L N ms { s with c := c, z := x == 0, n := decide (x ≥ 32768), v := false } ov ∧ Frm3 L ov w w' := by
  obtain ⟨c9, f9⟩ := h.at_ 9 (.bool s.c) rfl
  obtain ⟨c10, f10⟩ := h.at_ 10 (.bool s.z) rfl
  obtain ⟨c11, f11⟩ := h.at_ 11 (.bool s.n) rfl
  obtain ⟨c12, f12⟩ := h.at_ 12 (.bool s.v) rfl
  have H := Lib.hid h
  clear h
  go_enter Try.func66, Try.ntmps66
  go_wp2
  go_ret
  refine ⟨rfl, ?_, Frm3.cell (Frm3.cell (Frm3.cell (Frm3.cell (Frm3.refl _ _ _) rfl _) rfl _) rfl _) rfl _⟩
  exact (((H.out.set 9 (.bool c) { s with c := c } rfl rfl rfl).set 10 (.bool (x == 0)) { s with c := c, z := x == 0 } rfl rfl rfl).set 11 (.bool (decide (32768 ≤ x))) { s with c := c, z := x == 0, n := decide (x ≥ 32768) } rfl rfl rfl).set 12 (.bool false) { s with c := c, z := x == 0, n := decide (x ≥ 32768), v := false } rfl rfl rfl
set_option maxHeartbeats 4000000 in
theorem push3_ok (B : Nat) (L : Lay3) (N : Nat) (ms : List Int) (s : St) (ov : Value) (x : Int) (hx : 0 ≤ x ∧ x < 65536) (hr : 0 ≤ s.r 7 ∧ s.r 7 < 65536) (hN : N < 9000000) (w : World) (h : Box3 w B L N ms s ov) :
    Calls Try.prog 70 #[bP L, .int .i64 x] w fun e w' => e = .returned (.tuple #[]) ∧ Box3 w' B L (N + 1) ms { s with r := upd s.r 7 ((s.r 7 + 65535) % 65536), mem := upd s.mem ((s.r 7 + 65535) % 65536).toNat x } ov ∧ Frm3 L ov w w' := by
  obtain ⟨c8, f8⟩ := h.at_ 8 (.int .i64 (s.r 7)) rfl
  obtain ⟨c15, f15⟩ := h.at_ 15 (.map (some L.mp)) rfl
  obtain ⟨R, hR⟩ : ∃ R, R = s.r 7 := ⟨_, rfl⟩
  have HR := Lib.hid hR
  rw [← hR] at hr c8
  obtain ⟨r0, r1⟩ := hr
  have H := Lib.hid h; have HX := Lib.hid hx; have HN := Lib.hid hN
  clear h hR hx hN
  go_enter Try.func70, Try.ntmps70
  go_wp2
  refine Rg.wp_region [] (by kernel_rfl) (by kernel_rfl) ?_
  repeat (first | (refine Rg.wpL_nil ?_) | (refine Rg.wpL_skip rfl ?_; simp only [Act.put, List.setIfInBounds_toArray, List.set_cons_zero, List.set_cons_succ]) | (refine Rg.wpL_q rfl rfl (fun K hK => ?_); go_big_quiet_op; refine hK _ ?_; clear hK K) | (refine Rg.wpL_w rfl rfl (fun K hK => ?_); go_wp2_with (first | fail | fail)))
  obtain ⟨k, hk⟩ : ∃ k : Nat, (k : Int) = (R + 65535) % 65536 := ⟨((R + 65535) % 65536).toNat, by omega⟩
  have hk2 : k < 65536 := by omega
  have hkt : ((s.r 7 + 65535) % 65536).toNat = k := by rw [← HR.out]; omega
  have HKT := Lib.hid hkt
  have h1 : Box3 (w.setCell ⟨L.bb, 8, none⟩ (.int .i64 ((R + 65535) % 65536))).drew B L N ms { s with r := upd s.r 7 ((s.r 7 + 65535) % 65536) } ov := by
    rw [HR.out]; exact (H.out.setR 7 (by omega) _).drew
  have hf1 : Frm3 L ov w (w.setCell ⟨L.bb, 8, none⟩ (.int .i64 ((R + 65535) % 65536))).drew := (Frm3.cell (Frm3.refl _ _ _) rfl _).drew
  rw [← hk] at h1 hf1 ⊢
  generalize (w.setCell ⟨L.bb, 8, none⟩ (.int .i64 (k : Int))).drew = w1 at *
  have hkr : (upd s.r 7 ((s.r 7 + 65535) % 65536)) 7 = (k : Int) := by show (if 7 = 7 then _ else _) = _; rw [if_pos rfl, ← HR.out, hk]
  obtain ⟨d8, e8⟩ := h1.at_ 8 (.int .i64 (k : Int)) (by show some (Value.int .i64 (upd s.r 7 ((s.r 7 + 65535) % 65536) 7)) = _; rw [hkr])
  obtain ⟨d15, e15⟩ := h1.at_ 15 (.map (some L.mp)) rfl
  obtain ⟨w2, hrun, hbx, hgr⟩ := h1.drew.putk HN.out k hk2 x HX.out
  have HBX := Lib.hid hbx; have HGR := Lib.hid hgr; have HF1 := Lib.hid hf1.drew
  clear c8 f8 c15 f15 r0 r1 hk hk2 hkt h1 hf1 hkr hbx hgr H HX HN
  go_wp2
  refine Rg.wp_region [] (by kernel_rfl) (by kernel_rfl) ?_
  repeat (first | (refine Rg.wpL_nil ?_) | (refine Rg.wpL_skip rfl ?_; simp only [Act.put, List.setIfInBounds_toArray, List.set_cons_zero, List.set_cons_succ]) | (refine Rg.wpL_q rfl rfl (fun K hK => ?_); go_big_quiet_op; refine hK _ ?_; clear hK K) | (refine Rg.wpL_w rfl rfl (fun K hK => ?_); go_wp2_with (first | fail | fail)))
  go_wp2
  go_end0
  refine ⟨rfl, ?_, HF1.out.put HGR.out⟩
  rw [HKT.out]; exact HBX.out
set_option maxHeartbeats 4000000 in
theorem pop3_ok (B : Nat) (L : Lay3) (N : Nat) (ms : List Int) (s : St) (ov : Value) (hr : 0 ≤ s.r 7 ∧ s.r 7 < 65536) (w : World) (h : Box3 w B L N ms s ov) (hm : Rd w 1 (.slice L.ma L.mn L.mcap) L.mn (ms.map (Value.int .i64))) :
    Calls Try.prog 71 #[bP L] w fun e w' => e = .returned (.int .i64 (s.mem (s.r 7).toNat)) ∧ Box3 w' B L N ms { s with r := upd s.r 7 ((s.r 7 + 1) % 65536) } ov ∧ Frm3 L ov w w' := by
  obtain ⟨c8, f8⟩ := h.at_ 8 (.int .i64 (s.r 7)) rfl
  have hld := fun (w1 : World) (e : w1 = w) => load3_ok B L N ms s ov (s.r 7) (by omega) w1 (e ▸ h) (e ▸ hm)
  have hkt : (s.r 7 % 65536).toNat = (s.r 7).toNat := by omega
  rw [hkt] at hld
  obtain ⟨X, hX⟩ : ∃ X, X = s.mem (s.r 7).toNat := ⟨_, rfl⟩
  rw [← hX] at hld ⊢
  obtain ⟨R, hR⟩ : ∃ R, R = s.r 7 := ⟨_, rfl⟩
  have HR := Lib.hid hR
  rw [← hR] at hr c8 hld
  obtain ⟨r0, r1⟩ := hr
  have H := Lib.hid h; have HL := Lib.hid hld
  clear h hR hm hld hX hkt
  go_enter Try.func71, Try.ntmps71
  go_wp2_with (first | (go_at_call 45; refine (HL.out _ rfl).mono ?_; rintro e w1 ⟨rfl, rfl⟩))
  refine Rg.wp_region [] (by kernel_rfl) (by kernel_rfl) ?_
  repeat (first | (refine Rg.wpL_nil ?_) | (refine Rg.wpL_skip rfl ?_; simp only [Act.put, List.setIfInBounds_toArray, List.set_cons_zero, List.set_cons_succ]) | (refine Rg.wpL_q rfl rfl (fun K hK => ?_); go_big_quiet_op; refine hK _ ?_; clear hK K) | (refine Rg.wpL_w rfl rfl (fun K hK => ?_); go_wp2_with (first | fail | fail)))
  go_wp2
  go_ret
  refine ⟨rfl, ?_, (Frm3.cell (Frm3.refl _ _ _) rfl _).drew⟩
  rw [HR.out]
  exact (H.out.setR 7 (by omega) _).drew
end Go.Proofs.Ytfjgnhmmakeaeaa

/- The document's machine: what a step touches. -/
namespace Go.Proofs.Ytfjgnhmmakeaeaa
open Go.RowKit Go.Maps
set_option linter.unusedVariables false
set_option linter.unusedSimpArgs false
set_option maxRecDepth 100000
open Mc
theorem Box3.lt {w : World} {B : Nat} {L : Lay3} {N : Nat} {ms : List Int} {s : St} {ov : Value} (h : Box3 w B L N ms s ov) : L.bb < w.heap.size := h.blk.lt
theorem Box3.hi {w : World} {B : Nat} {L : Lay3} {N : Nat} {ms : List Int} {s : St} {ov : Value} (h : Box3 w B L N ms s ov) : B ≤ w.heap.size := by have := h.lo1; have := h.lt; omega
theorem PutIs.ne_ {w : World} {mp N : Nat} {ms : List Int} {mem : Nat → Int} (h : PutIs w mp N ms mem) {g : Nat} {t : TypeId} {cs : Array Value} (hb : Blk w g t cs) : mp ≠ g := by
  obtain ⟨D, ⟨es, cl, hb2, _⟩, _⟩ := h
  intro e
  unfold Blk at hb
  rw [← e, hb2] at hb
  cases hb
theorem Box3.other {w : World} {B : Nat} {L : Lay3} {N : Nat} {ms : List Int} {s : St} {ov : Value} (h : Box3 w B L N ms s ov) {g : Nat} {t : TypeId} {cs : Array Value} (hb : Blk w g t cs) (h1 : L.bb ≠ g) (h2 : 5 ≠ t) (k : Nat) (u : Value) : Box3 (w.setCell ⟨g, k, none⟩ u) B L N ms s ov :=
  ⟨h.blk.far h1 u, h.put.far (h.put.ne_ hb) u, h.lo1, h.lo2, ownsRow_far h.out hb h2 k u⟩
theorem Frm3.new {L : Lay3} {ov : Value} {w w' : World} (h : Frm3 L ov w w') {p : Addr} (hp : w.heap.size ≤ p.block) (u : Value) : Frm3 L ov w (w'.setCell p u) :=
  ⟨h.os, h.tape, h.output, by simpa using h.size, fun b hb hn ho => (Below.heap_setCell w' p u b (fun e => by omega)).trans (h.block b hb hn ho)⟩
theorem Frm3.trans {L : Lay3} {ov : Value} {w w1 w2 : World} (h : Frm3 L ov w w1) (k : Frm3 L ov w1 w2) : Frm3 L ov w w2 :=
  ⟨k.os.trans h.os, k.tape.trans h.tape, k.output.trans h.output, Nat.le_trans h.size k.size, fun b hb hn ho => (k.block b (Nat.lt_of_lt_of_le hb h.size) hn ho).trans (h.block b hb hn ho)⟩
theorem Frm3.grown {L : Lay3} {ov : Value} {w w1 w2 : World} (h : Frm3 L ov w w1) (k : w1.grownBy w2 ov.ownBlock) : Frm3 L ov w w2 :=
  ⟨k.os.trans h.os, k.tape.trans h.tape, k.output.trans h.output, Nat.le_trans h.size k.size, fun b hb hn ho => (k.block b (Nat.lt_of_lt_of_le hb h.size) ho).trans (h.block b hb hn ho)⟩
theorem Frm3.to {B : Nat} {L : Lay3} {N : Nat} {ms : List Int} {s : St} {ov : Value} {w w' : World} (h : Frm3 L ov w w') (hm : Box3 w B L N ms s ov) : Below B w w' :=
  ⟨h.os, h.tape, h.output, h.size, fun b hb => h.block b (by have := hm.lo1; have := hm.lt; omega) (by have := hm.lo1; have := hm.lo2; omega) (fun e => by have := (own_low hm.out b e.symm).1; omega)⟩
/-- Another block stays. -/
theorem Blk.frm3 {L : Lay3} {w w' : World} {B N : Nat} {ms : List Int} {s : St} {ov : Value} {g : Nat} {t : TypeId} {cs : Array Value} (h : Blk w g t cs) (k : Frm3 L ov w w') (hm : Box3 w B L N ms s ov) (h1 : ¬ g = L.bb) (h2 : 5 ≠ t) : Blk w' g t cs :=
  (k.block g h.lt (fun e => e.elim h1 (fun e => hm.put.ne_ h e.symm)) (own_ne hm.out h h2)).trans h
theorem ins_store3 {w w0 : World} {B : Nat} {L : Lay3} {N : Nat} {ms : List Int} {s : St} {ov : Value} (h : Box3 w B L N ms s ov) (hw : Frm3 L ov w0 w) {g : Nat} (hg : w0.heap.size ≤ g) {a0 a1 a2 a3 : Int} (hb : Blk w g 43 #[.int .i64 a0, .int .i64 a1, .int .i64 a2, .int .i64 a3]) (x y z u : Int) :
    Box3 ((((w.setCell ⟨g, 0, none⟩ (.int .i64 x)).setCell ⟨g, 1, none⟩ (.int .i64 y)).setCell ⟨g, 2, none⟩ (.int .i64 z)).setCell ⟨g, 3, none⟩ (.int .i64 u)) B L N ms s ov ∧ Frm3 L ov w0 ((((w.setCell ⟨g, 0, none⟩ (.int .i64 x)).setCell ⟨g, 1, none⟩ (.int .i64 y)).setCell ⟨g, 2, none⟩ (.int .i64 z)).setCell ⟨g, 3, none⟩ (.int .i64 u)) ∧
    Blk ((((w.setCell ⟨g, 0, none⟩ (.int .i64 x)).setCell ⟨g, 1, none⟩ (.int .i64 y)).setCell ⟨g, 2, none⟩ (.int .i64 z)).setCell ⟨g, 3, none⟩ (.int .i64 u)) g 43 #[.int .i64 x, .int .i64 y, .int .i64 z, .int .i64 u] := by
  have hn : L.bb ≠ g := fun e => by subst e; exact h.blk.ne_ hb (by decide) rfl
  exact ⟨(((h.other hb hn (by decide) 0 _).other (hb.set_ 0 _) hn (by decide) 1 _).other ((hb.set_ 0 _).set_ 1 _) hn (by decide) 2 _).other (((hb.set_ 0 _).set_ 1 _).set_ 2 _) hn (by decide) 3 _,
   Frm3.new (Frm3.new (Frm3.new (Frm3.new hw (p := ⟨g, 0, none⟩) hg _) (p := ⟨g, 1, none⟩) hg _) (p := ⟨g, 2, none⟩) hg _) (p := ⟨g, 3, none⟩) hg _,
   (((hb.set_ 0 (.int .i64 x)).set_ 1 (.int .i64 y)).set_ 2 (.int .i64 z)).set_ 3 (.int .i64 u)⟩
theorem ins_cell3 {w : World} {B : Nat} {L : Lay3} {N : Nat} {ms : List Int} {s : St} {ov : Value} (h : Box3 w B L N ms s ov) {g : Nat} {a0 a1 a2 a3 : Int} (hb : Blk w g 43 #[.int .i64 a0, .int .i64 a1, .int .i64 a2, .int .i64 a3]) {k : Nat} {v : Value} (hc : w.cell? ⟨L.bb, k, none⟩ = some v) (x y z u : Value) :
    ((((w.setCell ⟨g, 0, none⟩ x).setCell ⟨g, 1, none⟩ y).setCell ⟨g, 2, none⟩ z).setCell ⟨g, 3, none⟩ u).cell? ⟨L.bb, k, none⟩ = some v := by
  have h1 : L.bb ≠ g := fun e => by subst e; exact h.blk.ne_ hb (by decide) rfl
  rw [cell?_setCell_far _ h1, cell?_setCell_far _ h1, cell?_setCell_far _ h1, cell?_setCell_far _ h1, hc]
theorem Box3.setPc {w : World} {B : Nat} {L : Lay3} {N : Nat} {ms : List Int} {s : St} {ov : Value} (h : Box3 w B L N ms s ov) (x : Int) : Box3 (w.setCell ⟨L.bb, 13, none⟩ (.int .i64 x)) B L N ms { s with pc := x } ov := h.set 13 _ { s with pc := x } rfl rfl rfl
/-- Four flags. -/
theorem Box3.setFl {w : World} {B : Nat} {L : Lay3} {N : Nat} {ms : List Int} {s : St} {ov : Value} (h : Box3 w B L N ms s ov) (c z n v : Bool) : Box3 ((((w.setCell ⟨L.bb, 9, none⟩ (.bool c)).setCell ⟨L.bb, 10, none⟩ (.bool z)).setCell ⟨L.bb, 11, none⟩ (.bool n)).setCell ⟨L.bb, 12, none⟩ (.bool v)) B L N ms { s with c := c, z := z, n := n, v := v } ov :=
  (((h.set 9 (.bool c) { s with c := c } rfl rfl rfl).set 10 (.bool z) { s with c := c, z := z } rfl rfl rfl).set 11 (.bool n) { s with c := c, z := z, n := n } rfl rfl rfl).set 12 (.bool v) { s with c := c, z := z, n := n, v := v } rfl rfl rfl
theorem Frm3.fl {L : Lay3} {ov : Value} {w w' : World} (h : Frm3 L ov w w') (a b c d : Value) : Frm3 L ov w ((((w'.setCell ⟨L.bb, 9, none⟩ a).setCell ⟨L.bb, 10, none⟩ b).setCell ⟨L.bb, 11, none⟩ c).setCell ⟨L.bb, 12, none⟩ d) :=
  Frm3.cell (Frm3.cell (Frm3.cell (Frm3.cell h rfl _) rfl _) rfl _) rfl _
theorem four_set (z0 : Array Value) (hz : z0.size = 4) (a b c d : Value) : (((z0.setIfInBounds 0 a).setIfInBounds 1 b).setIfInBounds 2 c).setIfInBounds 3 d = #[a, b, c, d] := by
  obtain ⟨l⟩ := z0
  rcases l with _ | ⟨x0, _ | ⟨x1, _ | ⟨x2, _ | ⟨x3, _ | ⟨x4, l⟩⟩⟩⟩⟩
  case cons.cons.cons.cons.nil => rfl
  all_goals (simp at hz)
/-- The flags of before, in a block. -/
theorem al_facts3 {w wf : World} {B : Nat} {L : Lay3} {N : Nat} {ms : List Int} {s : St} {ov : Value} (h : Box3 wf B L N ms s ov) (hw : Frm3 L ov w wf) {g : Nat} {ics : Array Value} (hg : Blk wf g 43 ics) (z0 : Array Value) (a b c d : Bool) (hz : z0.size = 4) :
    Box3 (((((wf.alloc (.cells z0 25)).setCell ⟨wf.heap.size, 0, none⟩ (.bool a)).setCell ⟨wf.heap.size, 1, none⟩ (.bool b)).setCell ⟨wf.heap.size, 2, none⟩ (.bool c)).setCell ⟨wf.heap.size, 3, none⟩ (.bool d)) B L N ms s ov ∧
    Frm3 L ov w (((((wf.alloc (.cells z0 25)).setCell ⟨wf.heap.size, 0, none⟩ (.bool a)).setCell ⟨wf.heap.size, 1, none⟩ (.bool b)).setCell ⟨wf.heap.size, 2, none⟩ (.bool c)).setCell ⟨wf.heap.size, 3, none⟩ (.bool d)) ∧
    Blk (((((wf.alloc (.cells z0 25)).setCell ⟨wf.heap.size, 0, none⟩ (.bool a)).setCell ⟨wf.heap.size, 1, none⟩ (.bool b)).setCell ⟨wf.heap.size, 2, none⟩ (.bool c)).setCell ⟨wf.heap.size, 3, none⟩ (.bool d)) g 43 ics ∧
    Blk (((((wf.alloc (.cells z0 25)).setCell ⟨wf.heap.size, 0, none⟩ (.bool a)).setCell ⟨wf.heap.size, 1, none⟩ (.bool b)).setCell ⟨wf.heap.size, 2, none⟩ (.bool c)).setCell ⟨wf.heap.size, 3, none⟩ (.bool d)) wf.heap.size 25 #[.bool a, .bool b, .bool c, .bool d] := by
  have hb : Below wf.heap.size wf (((((wf.alloc (.cells z0 25)).setCell ⟨wf.heap.size, 0, none⟩ (.bool a)).setCell ⟨wf.heap.size, 1, none⟩ (.bool b)).setCell ⟨wf.heap.size, 2, none⟩ (.bool c)).setCell ⟨wf.heap.size, 3, none⟩ (.bool d)) :=
    Ext.setCell (Ext.setCell (Ext.setCell (Ext.setCell (Ext.alloc (Below.refl _ _) _) (by simp) _) (by simp) _) (by simp) _) (by simp) _
  refine ⟨h.keep hb, hw.below hb, hg.keep hb, ?_⟩
  have := ((((Blk.new wf 25 z0).set_ 0 (.bool a)).set_ 1 (.bool b)).set_ 2 (.bool c)).set_ 3 (.bool d)
  rw [four_set z0 hz] at this
  exact this
/-- What a step gives. -/
def Did3 (B : Nat) (L : Lay3) (N : Nat) (ms : List Int) (ov : Value) (r : St × Int) (w : World) (e : Ending) (w' : World) : Prop := e = .returned (.int .i64 r.2) ∧ ∃ N' ov', N' ≤ N + 1 ∧ Box3 w' B L N' ms r.1 ov' ∧ Frm3 L ov w w'
theorem bl4 {w : World} {g : Nat} {t : TypeId} {a b c d : Bool} (h : Blk w g t #[.bool a, .bool b, .bool c, .bool d]) : (w.cell? ⟨g, 0, none⟩ = some (.bool a) ∧ w.cell? ⟨g, 1, none⟩ = some (.bool b) ∧ w.cell? ⟨g, 2, none⟩ = some (.bool c) ∧ w.cell? ⟨g, 3, none⟩ = some (.bool d)) :=
  ⟨by rw [h.cell]; rfl, by rw [h.cell]; rfl, by rw [h.cell]; rfl, by rw [h.cell]; rfl⟩
theorem goOn_id (s : St) (x : Int) (h0 : 0 ≤ x) (h1 : x < 65536) : goOn s x = { s with pc := x } := by unfold goOn; rw [Int.emod_eq_of_lt h0 h1]
theorem pushed_eq (s : St) (x : Int) (hr : 0 ≤ s.r 7 ∧ s.r 7 < 65536) : Mc.pushed s x = { s with r := upd s.r 7 ((s.r 7 + 65535) % 65536), mem := upd s.mem ((s.r 7 + 65535) % 65536).toNat (x % 65536) } := by
  unfold Mc.pushed
  rw [show (s.r 7 - 1) % 65536 = (s.r 7 + 65535) % 65536 by omega]
theorem Box3.drewN {w : World} {B : Nat} {L : Lay3} {N : Nat} {ms : List Int} {s : St} {ov : Value} (h : Box3 w B L N ms s ov) (n : Nat) : Box3 (w.drewN n) B L N ms s ov := ⟨h.blk, h.put, h.lo1, h.lo2, h.out⟩
theorem Frm3.drewN {L : Lay3} {ov : Value} {w w' : World} (h : Frm3 L ov w w') (n : Nat) : Frm3 L ov w (w'.drewN n) := ⟨h.os, h.tape, h.output, h.size, h.block⟩
theorem mem_bd (s : St) (hok : Mc.Ok s) (k : Nat) (hk : k < 65536) : 0 ≤ s.mem k ∧ s.mem k < 65536 := hok.2.2 k hk
theorem plain3_p (B : Nat) (L : Lay3) (N : Nat) (ms : List Int) (s : St) (ov : Value) (x : Int) (c : Bool) (hx : 0 ≤ x ∧ x < 65536) (w : World) (h : Box3 w B L N ms s ov) :
    Calls Try.prog 66 #[bP L, .int .i64 x, .bool c] w fun e w' => e = .returned (.int .i64 x) ∧ Box3 w' B L N ms (Mc.fl s c x false) ov ∧ Frm3 L ov w w' := by
  have e : Mc.fl s c x false = { s with c := c, z := x == 0, n := decide (x ≥ 32768), v := false } := by
    unfold Mc.fl; rw [← fZ_eq, ← fN_eq, show decide (32767 < x) = decide (x ≥ 32768) from by rw [decide_eq_decide]; omega]
  rw [e]
  exact plain3_ok B L N ms s ov x c hx w h
/-- Push, as the machine's. -/
theorem push3_p (B : Nat) (L : Lay3) (N : Nat) (ms : List Int) (s : St) (ov : Value) (x y : Int) (hy : y % 65536 = x) (hr : 0 ≤ s.r 7 ∧ s.r 7 < 65536) (hN : N < 9000000) (w : World) (h : Box3 w B L N ms s ov) :
    Calls Try.prog 70 #[bP L, .int .i64 x] w fun e w' => e = .returned (.tuple #[]) ∧ Box3 w' B L (N + 1) ms (Mc.pushed s y) ov ∧ Frm3 L ov w w' := by
  rw [pushed_eq s y hr, hy]
  exact push3_ok B L N ms s ov x (by omega) hr hN w h
/-- Something told. -/
theorem Box3.told {w w' : World} {B : Nat} {L : Lay3} {N : Nat} {ms : List Int} {s : St} {ov v' : Value} {x : Int} (h : Box3 w B L N ms s ov) (hg : w.grownBy w' ov.ownBlock) (ho : w'.ownsRow B 5 1 v' (s.out.length + 1) (s.out.map (Value.int .u8) ++ [.int .u8 x])) :
    Blk w' L.bb 88 (cells3 L s ov) ∧ Box3 (w'.setCell ⟨L.bb, 18, none⟩ v') B L N ms { s with out := s.out ++ [x] } v' := by
  have hb := h.blk.grown hg (own_ne h.out h.blk (by decide))
  have hmp : some L.mp ≠ ov.ownBlock := by
    rcases h.out.2 with ⟨hv, _⟩ | ⟨g, cap, cur, hv, _, hb, _⟩
    · rw [hv]; simp [Value.ownBlock]
    · intro e
      rw [hv] at e
      have e : L.mp = g := by simpa [Value.ownBlock] using e
      obtain ⟨D, ⟨es, cl, hb2, _⟩, _⟩ := h.put
      rw [e, hb] at hb2
      cases hb2
  have hp := h.put.keep hg hmp
  refine ⟨hb, hb.set_ 18 v', hp.far (hp.ne_ hb) v', h.lo1, h.lo2, ?_⟩
  have := ownsRow_far ho hb (by decide) 18 v'
  simpa using this
theorem refSum_agg (x y : Int) (c : Bool) (w : World) : Calls Try.prog 64 #[.int .i64 x, .int .i64 y, .bool c] w fun e w' => e = .returned (.tuple #[.int .i64 (W.sR x y c), .agg #[.bool (W.sC x y c), .bool (W.fZ (W.sR x y c)), .bool (W.fN (W.sR x y c)), .bool (W.sV x y c)]]) ∧ Below w.heap.size w w' := refSum_ok x y c w
theorem refDiff_agg (x y : Int) (c : Bool) (w : World) : Calls Try.prog 65 #[.int .i64 x, .int .i64 y, .bool c] w fun e w' => e = .returned (.tuple #[.int .i64 (W.dR x y c), .agg #[.bool (W.dC x y c), .bool (W.fZ (W.dR x y c)), .bool (W.fN (W.dR x y c)), .bool (W.dV x y c)]]) ∧ Below w.heap.size w w' := refDiff_ok x y c w
theorem upd_twice (f : Nat → Int) (k : Nat) (x y : Int) : upd (upd f k x) k y = upd f k y := by funext j; unfold upd; split <;> rfl
end Go.Proofs.Ytfjgnhmmakeaeaa
