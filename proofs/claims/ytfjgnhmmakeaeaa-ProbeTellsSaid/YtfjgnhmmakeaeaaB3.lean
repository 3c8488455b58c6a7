/- The machine: what it is, and how its block lies in memory. -/
import Derived.Test.YtfjgnhmmakeaeaaB0
import Derived.Test.YtfjgnhmmakeaeaaRows
import Derived.WalkSpells
import Derived.WalkLawsBesides
namespace Go.Proofs.Ytfjgnhmmakeaeaa
open Go.RowKit
set_option linter.unusedVariables false
set_option linter.unusedSimpArgs false
set_option maxRecDepth 100000

namespace Mc
/-- The machine's state. -/
structure St where
  r : Nat → Int
  c : Bool
  z : Bool
  n : Bool
  v : Bool
  pc : Int
  mem : Nat → Int
  how : Int
  trap : Int
  out : List Int
  read : Nat
  steps : Int
/-- Where it lies. -/
structure Lay where
  mb : Nat
  gm : Nat
  cap : Nat
  cv : Value
  iv : Value
/-- How much memory there is. -/
def MS : Nat := 65536
def cells (L : Lay) (s : St) (ov : Value) : Array Value :=
  #[.int .i64 (s.r 0), .int .i64 (s.r 1), .int .i64 (s.r 2), .int .i64 (s.r 3), .int .i64 (s.r 4), .int .i64 (s.r 5), .int .i64 (s.r 6), .int .i64 (s.r 7),
    .bool s.c, .bool s.z, .bool s.n, .bool s.v, .int .i64 s.pc, .slice (some ⟨L.gm, 0, none⟩) MS L.cap, L.cv, L.iv,
    .int .i64 s.how, .int .i64 s.trap, ov, .int .i64 (s.read : Int), .int .i64 s.steps,
    .int .i64 0, .int .i64 0, .int .i64 0, .int .i64 0, .int .i64 0, .int .i64 0, .int .i64 0, .int .i64 0, .bool false, .bool false, .bool false, .bool false, .int .i64 0, .slice none 0 0]
def MemIs (w : World) (g : Nat) (mem : Nat → Int) : Prop := ∃ arr, Blk w g 3 arr ∧ ∀ j, j < MS → arr[j]? = some (.int .i64 (mem j))
end Mc
open Mc
/-- The machine in memory: all of it above block B. -/
structure Mach (w : World) (B : Nat) (L : Lay) (s : St) (ov : Value) : Prop where
  blk : Blk w L.mb 107 (cells L s ov)
  mem : MemIs w L.gm s.mem
  lo1 : B ≤ L.mb
  lo2 : B ≤ L.gm
  cap : MS ≤ L.cap
  out : w.ownsRow B 5 1 ov s.out.length (s.out.map (Value.int .u8))
abbrev mP (L : Lay) : Value := .pointer (some ⟨L.mb, 0, none⟩)
theorem Mach.mcell {w : World} {B : Nat} {L : Lay} {s : St} {ov : Value} (h : Mach w B L s ov) (j : Nat) (hj : j < MS) : w.cell? ⟨L.gm, j, none⟩ = some (.int .i64 (s.mem j)) ∧ w.frozen? ⟨L.gm, j, none⟩ = false := by
  obtain ⟨arr, hb, hc⟩ := h.mem
  exact ⟨by rw [hb.cell, hc j hj], hb.frozen j⟩
theorem Mach.at_ {w : World} {B : Nat} {L : Lay} {s : St} {ov : Value} (h : Mach w B L s ov) (j : Nat) (u : Value) (hu : (cells L s ov)[j]? = some u) : w.cell? ⟨L.mb, j, none⟩ = some u ∧ w.frozen? ⟨L.mb, j, none⟩ = false :=
  ⟨by rw [h.blk.cell, hu], h.blk.frozen j⟩
theorem and65 (x : Int) : bits .and .i64 x 65535 = x % 65536 := W.i64_and65535 x

/-- What the call owns stays owned behind a callee that only makes memory. -/
theorem ownsRow_below {w w' : World} {base e size : Nat} {v : Value} {n : Nat} {xs : List Value} (h : w.ownsRow base e size v n xs) (hb : Below w.heap.size w w') : w'.ownsRow base e size v n xs := by
  obtain ⟨h1, h2⟩ := h
  refine ⟨h1, ?_⟩
  rcases h2 with h2 | ⟨g, cap, cur, hv, hg, hh, r⟩
  · exact Or.inl h2
  · exact Or.inr ⟨g, cap, cur, hv, hg, by rw [hb.block g (lt_of_block hh)]; exact hh, r⟩
theorem own_mono {w : World} {base base' e size : Nat} {v : Value} {n : Nat} {xs : List Value} (hb : base' ≤ base) (h : w.ownsRow base e size v n xs) : w.ownsRow base' e size v n xs := by
  obtain ⟨h1, h2⟩ := h
  refine ⟨h1, ?_⟩
  rcases h2 with h2 | ⟨g, cap, cur, hv, hg, r⟩
  · exact Or.inl h2
  · exact Or.inr ⟨g, cap, cur, hv, by omega, r⟩
theorem ownsRow_drew {w : World} {base e size : Nat} {v : Value} {n : Nat} {xs : List Value} (h : w.ownsRow base e size v n xs) : w.drew.ownsRow base e size v n xs := h
def upd (f : Nat → Int) (k : Nat) (x : Int) : Nat → Int := fun j => if j = k then x else f j
theorem Mc.MemIs.far {w : World} {g : Nat} {mem : Nat → Int} (h : MemIs w g mem) {p : Addr} (hp : g ≠ p.block) (u : Value) : MemIs (w.setCell p u) g mem := by
  obtain ⟨arr, hb, hc⟩ := h; exact ⟨arr, hb.far hp u, hc⟩
theorem Mc.MemIs.set_ {w : World} {g : Nat} {mem : Nat → Int} (h : MemIs w g mem) (k : Nat) (x : Int) : MemIs (w.setCell ⟨g, k, none⟩ (.int .i64 x)) g (upd mem k x) := by
  obtain ⟨arr, hb, hc⟩ := h
  refine ⟨_, hb.set_ k _, fun j hj => ?_⟩
  have hs : j < arr.size := (by have := hc j hj; rcases Nat.lt_or_ge j arr.size with h | h; exact h; rw [Array.getElem?_eq_none h] at this; cases this)
  unfold upd
  rw [Array.getElem?_setIfInBounds]
  by_cases e : k = j
  · subst e; simp [hs]
  · rw [if_neg e, if_neg (fun h => e h.symm)]; exact hc j hj
theorem Mc.MemIs.keep {w w' : World} {g : Nat} {mem : Nat → Int} (h : MemIs w g mem) (hb : Below w.heap.size w w') : MemIs w' g mem := by
  obtain ⟨arr, hk, hc⟩ := h; exact ⟨arr, hk.keep hb, hc⟩
theorem Mc.MemIs.grown {w w' : World} {g : Nat} {mem : Nat → Int} {row : Option Nat} (h : MemIs w g mem) (hb : w.grownBy w' row) (hg : some g ≠ row) : MemIs w' g mem := by
  obtain ⟨arr, hk, hc⟩ := h; exact ⟨arr, hk.grown hb hg, hc⟩
theorem ownsRow_far {w : World} {base e size : Nat} {v : Value} {n : Nat} {xs : List Value} (h : w.ownsRow base e size v n xs) {g : Nat} {t : TypeId} {cs : Array Value} (hb : Blk w g t cs) (hne : e ≠ t) (k : Nat) (u : Value) : (w.setCell ⟨g, k, none⟩ u).ownsRow base e size v n xs := by
  obtain ⟨hl, h2⟩ := h
  refine ⟨hl, ?_⟩
  rcases h2 with ⟨rfl, rfl⟩ | ⟨g', cap, cur, rfl, hbb, hg, hc, hm, hsz, htake⟩
  · exact .inl ⟨rfl, rfl⟩
  · refine .inr ⟨g', cap, cur, rfl, hbb, ?_, hc, hm, hsz, htake⟩
    have hn : g' ≠ g := fun e' => by
      subst e'; unfold Blk at hb; rw [hg] at hb; injection hb with hb; injection hb with _ ht; exact hne ht
    exact (Below.heap_setCell w ⟨g, k, none⟩ u g' hn).trans hg
section
variable {w w' : World} {B : Nat} {L : Lay} {s s' : St} {ov : Value}
theorem Mach.ne (h : Mach w B L s ov) : L.mb ≠ L.gm := by
  obtain ⟨arr, hb, _⟩ := h.mem; exact h.blk.ne_ hb (by decide)
/-- A cell of the machine is written. -/
theorem Mach.set (h : Mach w B L s ov) (k : Nat) (u : Value) (s' : St) (hc : (cells L s ov).setIfInBounds k u = cells L s' ov) (hm : s'.mem = s.mem) (ho : s'.out = s.out) : Mach (w.setCell ⟨L.mb, k, none⟩ u) B L s' ov :=
  ⟨by rw [← hc]; exact h.blk.set_ k u, by rw [hm]; exact h.mem.far (fun e => h.ne e.symm) u, h.lo1, h.lo2, h.cap, by rw [ho]; exact ownsRow_far h.out h.blk (by decide) k u⟩
theorem Mach.setR (h : Mach w B L s ov) (k : Nat) (hk : k < 8) (x : Int) : Mach (w.setCell ⟨L.mb, k, none⟩ (.int .i64 x)) B L { s with r := upd s.r k x } ov := by
  refine h.set k _ _ ?_ rfl rfl
  rcases (show k = 0 ∨ k = 1 ∨ k = 2 ∨ k = 3 ∨ k = 4 ∨ k = 5 ∨ k = 6 ∨ k = 7 by omega) with rfl | rfl | rfl | rfl | rfl | rfl | rfl | rfl <;> rfl
theorem Mach.setMem (h : Mach w B L s ov) (k : Nat) (x : Int) : Mach (w.setCell ⟨L.gm, k, none⟩ (.int .i64 x)) B L { s with mem := upd s.mem k x } ov := by
  obtain ⟨arr, hb, _⟩ := h.mem
  exact ⟨h.blk.far h.ne _, h.mem.set_ k x, h.lo1, h.lo2, h.cap, ownsRow_far h.out hb (by decide) k _⟩
theorem Mach.keep (h : Mach w B L s ov) (hb : Below w.heap.size w w') : Mach w' B L s ov :=
  ⟨h.blk.keep hb, h.mem.keep hb, h.lo1, h.lo2, h.cap, ownsRow_below h.out hb⟩
theorem Mach.setFl (h : Mach w B L s ov) (a b c d : Bool) : Mach ((((w.setCell ⟨L.mb, 8, none⟩ (.bool a)).setCell ⟨L.mb, 9, none⟩ (.bool b)).setCell ⟨L.mb, 10, none⟩ (.bool c)).setCell ⟨L.mb, 11, none⟩ (.bool d)) B L { s with c := a, z := b, n := c, v := d } ov :=
  (((h.set 8 (.bool a) { s with c := a } rfl rfl rfl).set 9 (.bool b) { s with c := a, z := b } rfl rfl rfl).set 10 (.bool c) { s with c := a, z := b, n := c } rfl rfl rfl).set 11 (.bool d) { s with c := a, z := b, n := c, v := d } rfl rfl rfl
theorem Mach.reg (h : Mach w B L s ov) (k : Nat) (hk : k < 8) : w.cell? ⟨L.mb, k, none⟩ = some (.int .i64 (s.r k)) ∧ w.frozen? ⟨L.mb, k, none⟩ = false := by
  refine h.at_ k _ ?_
  rcases (show k = 0 ∨ k = 1 ∨ k = 2 ∨ k = 3 ∨ k = 4 ∨ k = 5 ∨ k = 6 ∨ k = 7 by omega) with rfl | rfl | rfl | rfl | rfl | rfl | rfl | rfl <;> rfl
theorem Mach.lt (h : Mach w B L s ov) : L.mb < w.heap.size := h.blk.lt
theorem Mach.glt (h : Mach w B L s ov) : L.gm < w.heap.size := by obtain ⟨arr, hb, _⟩ := h.mem; exact hb.lt
end
/-- Only the machine's block and its memory have changed, and new blocks. -/
structure Tch (L : Lay) (w w' : World) : Prop where
  os : w'.os = w.os
  tape : w'.tape = w.tape
  output : w'.output = w.output
  size : w.heap.size ≤ w'.heap.size
  block : ∀ b, b < w.heap.size → ¬ (b = L.mb ∨ b = L.gm) → w'.heap[b]? = w.heap[b]?
theorem Tch.refl (L : Lay) (w : World) : Tch L w w := ⟨rfl, rfl, rfl, Nat.le_refl _, fun _ _ _ => rfl⟩
theorem Tch.cell {L : Lay} {w w' : World} (h : Tch L w w') {p : Addr} (hp : p.block = L.mb ∨ p.block = L.gm) (u : Value) : Tch L w (w'.setCell p u) :=
  ⟨h.os, h.tape, h.output, by simpa using h.size, fun b hb hn => (Below.heap_setCell w' p u b (fun e => hn (e ▸ hp))).trans (h.block b hb hn)⟩
theorem Tch.drew {L : Lay} {w w' : World} (h : Tch L w w') : Tch L w w'.drew := ⟨h.os, h.tape, h.output, h.size, h.block⟩
theorem Tch.alloc {L : Lay} {w w' : World} (h : Tch L w w') (o : Obj) : Tch L w (w'.alloc o) :=
  ⟨h.os, h.tape, h.output, by have := h.size; simp; omega, fun b hb hn => (Below.heap_alloc w' o b (Nat.lt_of_lt_of_le hb h.size)).trans (h.block b hb hn)⟩
theorem Tch.trans {L : Lay} {w w1 w2 : World} (h : Tch L w w1) (k : Tch L w1 w2) : Tch L w w2 :=
  ⟨k.os.trans h.os, k.tape.trans h.tape, k.output.trans h.output, Nat.le_trans h.size k.size, fun b hb hn => (k.block b (Nat.lt_of_lt_of_le hb h.size) hn).trans (h.block b hb hn)⟩
theorem Tch.below {L : Lay} {w w1 w2 : World} (h : Tch L w w1) (k : Below w1.heap.size w1 w2) : Tch L w w2 :=
  h.trans ⟨k.os, k.tape, k.output, k.size, fun b hb _ => k.block b hb⟩
theorem Tch.to {L : Lay} {w w' : World} {B : Nat} (h : Tch L w w') (h1 : B ≤ L.mb) (h2 : B ≤ L.gm) (h3 : B ≤ w.heap.size) : Below B w w' :=
  ⟨h.os, h.tape, h.output, h.size, fun b hb => h.block b (by omega) (by omega)⟩
theorem Mc.Blk_tch {L : Lay} {w w' : World} {g : Nat} {t : TypeId} {cs : Array Value} (h : Blk w g t cs) (k : Tch L w w') (hn : ¬ (g = L.mb ∨ g = L.gm)) : Blk w' g t cs := (k.block g h.lt hn).trans h
/-- What a step of the machine leaves: the machine anew, and all else as it was. -/
def Turn (B : Nat) (L : Lay) (s' : St) (ov : Value) (v : Value) (w : World) (e : Ending) (w' : World) : Prop := e = .returned v ∧ Mach w' B L s' ov ∧ Tch L w w'

set_option maxHeartbeats 2000000 in
theorem mload_ok (B : Nat) (L : Lay) (s : St) (ov : Value) (at_ : Int) (w : World) (h : Mach w B L s ov) :
    Calls Try.prog 76 #[mP L, .int .i64 at_] w fun e w' => e = .returned (.int .i64 (s.mem (at_ % 65536).toNat)) ∧ w = w' := by
  obtain ⟨c13, f13⟩ := h.at_ 13 (.slice (some ⟨L.gm, 0, none⟩) MS L.cap) rfl
  obtain ⟨k, hk⟩ : ∃ k : Nat, (k : Int) = at_ % 65536 := ⟨(at_ % 65536).toNat, by omega⟩
  have hand : bits .and .i64 at_ 65535 = (k : Int) := by rw [and65, hk]
  have hk2 : k < MS := (by have : MS = 65536 := rfl; omega)
  obtain ⟨cm, fm⟩ := h.mcell k hk2
  rw [show (at_ % 65536).toNat = k by omega]
  clear hk h
  generalize s.mem k = X at *
  go_enter Try.func76, Try.ntmps76
  go_wp2
  go_ret
  exact ⟨rfl, rfl⟩

set_option maxHeartbeats 2000000 in
theorem mstore_ok (B : Nat) (L : Lay) (s : St) (ov : Value) (at_ x : Int) (w : World) (h : Mach w B L s ov) :
    Calls Try.prog 77 #[mP L, .int .i64 at_, .int .i64 x] w (Turn B L { s with mem := upd s.mem (at_ % 65536).toNat (x % 65536) } ov (.tuple #[]) w) := by
  obtain ⟨c13, f13⟩ := h.at_ 13 (.slice (some ⟨L.gm, 0, none⟩) MS L.cap) rfl
  obtain ⟨k, hk⟩ : ∃ k : Nat, (k : Int) = at_ % 65536 := ⟨(at_ % 65536).toNat, by omega⟩
  have hand : bits .and .i64 at_ 65535 = (k : Int) := by rw [and65, hk]
  have hand2 : bits .and .i64 x 65535 = x % 65536 := and65 x
  have hk2 : k < MS := (by have : MS = 65536 := rfl; omega)
  obtain ⟨cm, fm⟩ := h.mcell k hk2
  rw [show (at_ % 65536).toNat = k by omega]
  have H := Lib.hid h
  clear hk h
  go_enter Try.func77, Try.ntmps77
  go_wp2
  exact bodyPost_ret (v := .tuple #[]) (by simp [results, Try.results77, go_sem]) rfl ⟨rfl, H.out.setMem k _, Tch.cell (Tch.refl _ _) (.inr rfl) _⟩
set_option maxHeartbeats 2000000 in
theorem shown_ok (B : Nat) (L : Lay) (s : St) (ov : Value) (x : Int) (c : Bool) (w : World) (h : Mach w B L s ov) :
    Calls Try.prog 93 #[mP L, .int .i64 x, .bool c] w (Turn B L { s with c := c, z := x % 65536 == 0, n := decide (32767 < x % 65536), v := false } ov (.int .i64 (x % 65536)) w) := by
  have hand2 : bits .and .i64 x 65535 = x % 65536 := and65 x
  obtain ⟨c8, f8⟩ := h.at_ 8 (.bool s.c) rfl
  obtain ⟨c9, f9⟩ := h.at_ 9 (.bool s.z) rfl
  obtain ⟨c10, f10⟩ := h.at_ 10 (.bool s.n) rfl
  obtain ⟨c11, f11⟩ := h.at_ 11 (.bool s.v) rfl
  have H := Lib.hid h
  clear h
  generalize hX : x % 65536 = X at *
  go_enter Try.func93, Try.ntmps93
  go_wp2
  go_ret
  exact ⟨rfl, H.out.setFl c (X == 0) (decide (32767 < X)) false, Tch.cell (Tch.cell (Tch.cell (Tch.cell (Tch.refl _ _) (.inl rfl) _) (.inl rfl) _) (.inl rfl) _) (.inl rfl) _⟩
end Go.Proofs.Ytfjgnhmmakeaeaa
/- The machine's stack: walks of push and pop. -/
namespace Go.Proofs.Ytfjgnhmmakeaeaa
open Go.RowKit
set_option linter.unusedVariables false
set_option linter.unusedSimpArgs false
set_option maxRecDepth 100000
open Mc

theorem Mach.drew {w : World} {B : Nat} {L : Lay} {s : St} {ov : Value} (h : Mach w B L s ov) : Mach w.drew B L s ov := h.keep (Ext.drew (Below.refl _ _))
theorem Mach.drewN {w : World} {B : Nat} {L : Lay} {s : St} {ov : Value} (h : Mach w B L s ov) (n : Nat) : Mach (w.drewN n) B L s ov := h.keep (Ext.drewN (Below.refl _ _) n)
theorem Mach.setRead {w : World} {B : Nat} {L : Lay} {s : St} {ov : Value} (h : Mach w B L s ov) (k : Nat) (x : Int) (hx : x = (k : Int)) : Mach (w.setCell ⟨L.mb, 19, none⟩ (.int .i64 x)) B L { s with read := k } ov := by
  subst hx; exact h.set 19 _ { s with read := k } rfl rfl rfl
/-- The stack's register is turned, and a word stored. -/
def Mc.pushed (s : St) (x : Int) : St := { s with r := upd s.r 7 ((s.r 7 - 1) % 65536), mem := upd s.mem ((s.r 7 - 1) % 65536).toNat (x % 65536) }
set_option maxHeartbeats 2000000 in
theorem mpush_ok (B : Nat) (L : Lay) (s : St) (ov : Value) (x : Int) (w : World) (h : Mach w B L s ov) (hr : 0 ≤ s.r 7 ∧ s.r 7 < 65536) :
    Calls Try.prog 81 #[mP L, .int .i64 x] w (Turn B L (Mc.pushed s x) ov (.tuple #[]) w) := by
  obtain ⟨c7, f7⟩ := h.reg 7 (by decide)
  obtain ⟨X, hX⟩ : ∃ X, X = s.r 7 := ⟨_, rfl⟩
  have hand : bits .and .i64 (X - 1) 65535 = (X - 1) % 65536 := and65 _
  obtain ⟨Y, hY⟩ : ∃ Y, Y = (X - 1) % 65536 := ⟨_, rfl⟩
  rw [← hX] at c7 hr
  rw [← hY] at hand
  obtain ⟨x0, x1⟩ := hr
  have hm : Y % 65536 = Y := by omega
  have CS : Hid (∀ w1 : World, Mach w1 B L { s with r := upd s.r 7 Y } ov → Calls Try.prog 77 #[mP L, .int .i64 Y, .int .i64 x] w1 (Turn B L (Mc.pushed s x) ov (.tuple #[]) w1)) := fun w1 h1 => by
    have := mstore_ok B L _ ov Y x w1 h1
    rw [hm] at this
    unfold Mc.pushed
    rw [← hX, ← hY]; exact this
  have H := Lib.hid h
  clear h hX hY hm
  go_enter Try.func81, Try.ntmps81
  go_wp2
  go_region
  go_wp2_with (first | (go_at_call 77; refine (CS.out _ (H.out.setR 7 (by decide) _).drew).mono ?_; rintro e w1 ⟨rfl, hm1, hb1⟩; have HM := Lib.hid hm1; have HB := Lib.hid hb1; clear hm1 hb1))
  exact bodyPost_ret (v := .tuple #[]) (by simp [results, Try.results81, go_sem]) rfl ⟨rfl, HM.out, Tch.trans (Tch.drew (Tch.cell (Tch.refl _ _) (.inl rfl) _)) HB.out⟩
def Mc.popped (s : St) : St := { s with r := upd s.r 7 ((s.r 7 + 1) % 65536) }
set_option maxHeartbeats 2000000 in
theorem mpop_ok (B : Nat) (L : Lay) (s : St) (ov : Value) (w : World) (h : Mach w B L s ov) (hr : 0 ≤ s.r 7 ∧ s.r 7 < 65536) :
    Calls Try.prog 82 #[mP L] w (Turn B L (Mc.popped s) ov (.int .i64 (s.mem (s.r 7).toNat)) w) := by
  obtain ⟨c7, f7⟩ := h.reg 7 (by decide)
  obtain ⟨X, hX⟩ : ∃ X, X = s.r 7 := ⟨_, rfl⟩
  have hand : bits .and .i64 (X + 1) 65535 = (X + 1) % 65536 := and65 _
  obtain ⟨Y, hY⟩ : ∃ Y, Y = (X + 1) % 65536 := ⟨_, rfl⟩
  rw [← hX] at c7 hr ⊢
  rw [← hY] at hand
  obtain ⟨x0, x1⟩ := hr
  have hm : X % 65536 = X := by omega
  obtain ⟨Z, hZ⟩ : ∃ Z, Z = s.mem X.toNat := ⟨_, rfl⟩
  rw [← hZ]
  have CS : Hid (∀ w1 : World, Mach w1 B L s ov → Calls Try.prog 76 #[mP L, .int .i64 X] w1 (fun e w' => e = .returned (.int .i64 Z) ∧ w1 = w')) := fun w1 h1 => by
    have := mload_ok B L s ov X w1 h1
    rw [hm, ← hZ] at this; exact this
  have HP : Hid (Mc.popped s = { s with r := upd s.r 7 Y }) := by show Mc.popped s = _; unfold Mc.popped; rw [← hX, ← hY]
  have H := Lib.hid h
  clear h hX hY hm hZ
  go_enter Try.func82, Try.ntmps82
  go_wp2_with (first | (go_at_call 76; refine (CS.out _ H.out).mono ?_; rintro e w' ⟨rfl, rfl⟩))
  go_region
  go_wp2
  go_ret
  exact ⟨rfl, by rw [HP.out]; exact (H.out.setR 7 (by decide) _).drew, Tch.drew (Tch.cell (Tch.refl _ _) (.inl rfl) _)⟩
theorem one_at {w : World} {g : Nat} {x : Value} (h : w.cell? ⟨g, 0, none⟩ = some x) : ∀ j u, [x][j]? = some u → w.cell? ((⟨g, 0, none⟩ : Addr).add j) = some u := by
  intro j u hj
  rcases j with _ | j
  · simp at hj; subst hj; exact h
  · simp at hj
/-- A slice below block B that reads as these cells. -/
def RdB (w : World) (B : Nat) (v : Value) (n : Nat) (cs : List Value) : Prop := Rd w 1 v n cs ∧ (0 < n → ∀ a m c, v = .slice (some a) m c → a.block < B)
theorem RdB.of {w0 : World} {v : Value} {n : Nat} {cs : List Value} (h : Rd w0 1 v n cs) : RdB w0 w0.heap.size v n cs := by
  refine ⟨h, fun hn a m c hv => ?_⟩
  obtain ⟨h1, h2, a', cap, hv', hc, hr⟩ := h
  have hne : cs ≠ [] := (by intro e; subst e; simp at h1; omega)
  obtain ⟨b, off, ha, hj⟩ := hr hne
  rw [hv] at hv'
  injection hv' with e1 e2 e3
  rw [ha] at e1; injection e1 with e1; subst e1
  have : (cs[0]? : Option Value) = some (cs[0]'(by omega)) := List.getElem?_eq_getElem (by omega)
  exact World.block_lt_of_cell? w0 ⟨b, off + 0, none⟩ (hj 0 _ this)
theorem RdB.below {w w' : World} {B : Nat} {v : Value} {n : Nat} {cs : List Value} (h : RdB w B v n cs) (hb : Below B w w') : RdB w' B v n cs := by
  obtain ⟨⟨h1, h2, a, cap, hv, hc, hr⟩, hB⟩ := h
  refine ⟨⟨h1, h2, a, cap, hv, hc, fun hne => ?_⟩, hB⟩
  obtain ⟨b, off, ha, hj⟩ := hr hne
  have hn : 0 < n := (by rcases Nat.eq_zero_or_pos n with h | h; exact absurd (List.eq_nil_of_length_eq_zero (by omega)) hne; exact h)
  have hlt : b < B := hB hn ⟨b, off, none⟩ n cap (by rw [hv, ha])
  exact ⟨b, off, ha, fun j u hu => by rw [Below.cell (w := w) hb (p := ⟨b, off + j, none⟩) hlt]; exact hj j u hu⟩
/-- A byte that comes in. -/
def Mc.came (inp : List Int) (d : Nat) (s : St) : St :=
  if inp.length = s.read then { s with c := true, r := upd s.r d 0 }
  else { s with c := false, r := upd (upd s.r d 0) d (inp.getD s.read 0), read := s.read + 1 }
set_option maxHeartbeats 2000000 in
theorem mcome_ok (B : Nat) (L : Lay) (s : St) (ov : Value) (n : Nat) (inp : List Int) (d : Nat) (hd : d < 8) (w : World) (h : Mach w B L s ov) (hib : RdB w B L.iv n (inp.map (Value.int .u8))) (hn : n ≤ 65536) (hrd : s.read ≤ n) (hby : ∀ x ∈ inp, 0 ≤ x ∧ x < 256) :
    Calls Try.prog 83 #[mP L, .int .i64 (d : Int)] w (Turn B L (Mc.came inp d s) ov (.tuple #[]) w) := by
  obtain ⟨c8, f8⟩ := h.at_ 8 (.bool s.c) rfl
  obtain ⟨c19, f19⟩ := h.at_ 19 (.int .i64 (s.read : Int)) rfl
  obtain ⟨hi, hfar⟩ := hib
  obtain ⟨hl, hm, a, cap, hv, hcap, hcell⟩ := hi.ints
  obtain ⟨c15, f15⟩ := h.at_ 15 L.iv rfl
  rw [hv] at c15
  obtain ⟨cd, fd⟩ := h.reg d hd
  obtain ⟨X, hX⟩ : ∃ X, X = s.r d := ⟨_, rfl⟩
  rw [← hX] at cd
  obtain ⟨R, hR⟩ : ∃ R, R = s.read := ⟨_, rfl⟩
  rw [← hR] at c19 hrd
  have d8 : ¬ d = 8 := by omega
  have d19 : ¬ d = 19 := by omega
  have d15 : ¬ d = 15 := by omega
  have H := Lib.hid h
  by_cases he : R = n
  · subst he
    have HP : Hid (Mc.came inp d s = { s with c := true, r := upd s.r d 0 }) := by show Mc.came inp d s = _; unfold Mc.came; rw [if_pos (by omega)]
    clear h hi hv hcell hR hl hfar hby
    go_enter Try.func83, Try.ntmps83
    go_wp2
    go_region
    go_wp2
    exact bodyPost_ret (v := .tuple #[]) (by simp [results, Try.results83, go_sem]) rfl ⟨rfl, by rw [HP.out]; exact ((H.out.set 8 (.bool true) { s with c := true } rfl rfl rfl).drew.setR d hd 0), Tch.cell (Tch.drew (Tch.cell (Tch.refl _ _) (.inl rfl) _)) (.inl rfl) _⟩
  · obtain ⟨b, off, rfl, hc⟩ := hcell (by omega)
    have hR2 : R < n := by omega
    have hci := hc R hR2
    obtain ⟨Z, hZ⟩ : ∃ Z, Z = inp.getD R 0 := ⟨_, rfl⟩
    rw [← hZ] at hci
    have HP : Hid (Mc.came inp d s = { s with c := false, r := upd (upd s.r d 0) d Z, read := s.read + 1 }) := by show Mc.came inp d s = _; unfold Mc.came; rw [if_neg (by omega), ← hR, ← hZ]
    have hbB : b < B := hfar (by omega) _ _ _ hv
    have hne1 : ¬ b = L.mb := (by have := H.out.lo1; omega)
    have hRn : ((R : Int) == (n : Int)) = false := (by simp; omega)
    have hsg : IntKind.i64.signed = true := rfl
    have hw64 : IntKind.i64.wrap Z = Z := by
      have hz : 0 ≤ Z ∧ Z < 256 := (by rw [hZ, List.getD_eq_getElem?_getD, List.getElem?_eq_getElem (show R < inp.length by omega)]; exact hby _ (List.getElem_mem _))
      rw [IntKind.wrap_i64]; omega
    have HR := Lib.hid hR
    clear h hi hv hcell hc hl hfar hR hZ he hby
    go_enter Try.func83, Try.ntmps83
    go_wp2
    go_region
    go_wp2
    go_region
    go_wp2
    exact bodyPost_ret (v := .tuple #[]) (by simp [results, Try.results83, go_sem]) rfl ⟨rfl, by rw [HP.out]; exact (((((H.out.set 8 (.bool false) { s with c := false } rfl rfl rfl).setR d hd 0).setR d hd Z).setRead (s.read + 1) _ (by rw [HR.out]; rfl)).drew.drew), Tch.drew (Tch.drew (Tch.cell (Tch.cell (Tch.cell (Tch.cell (Tch.refl _ _) (.inl rfl) _) (.inl rfl) _) (.inl rfl) _) (.inl rfl) _))⟩
end Go.Proofs.Ytfjgnhmmakeaeaa
