/- The machine: what an instruction does. -/
import Derived.Test.YtfjgnhmmakeaeaaB4
import Derived.Test.YtfjgnhmmakeaeaaB0
import Derived.Test.YtfjgnhmmakeaeaaE6
namespace Go.Proofs.Ytfjgnhmmakeaeaa
open Go.RowKit
set_option linter.unusedVariables false
set_option linter.unusedSimpArgs false
set_option maxRecDepth 100000
open Mc

namespace Mc
def goOn (s : St) (next : Int) : St := { s with pc := next % 65536 }
/-- Words are words. -/
def Ok (s : St) : Prop := (∀ k, k < 8 → 0 ≤ s.r k ∧ s.r k < 65536) ∧ (0 ≤ s.pc ∧ s.pc < 65536) ∧ ∀ j, j < MS → 0 ≤ s.mem j ∧ s.mem j < 65536
/-- What an instruction does; how it ends. -/
def exec (inp : List Int) (op : Int) (d e : Nat) (imm next : Int) (s : St) : St × Int :=
  if op = 0 then (s, 1)
  else if op = 32 then ({ s with trap := imm }, 2)
  else if op = 1 then (goOn { s with r := upd s.r d (s.r e) } next, 0)
  else if op = 2 then (goOn { s with r := upd s.r d imm } next, 0)
  else if op = 3 then (goOn { s with r := upd s.r d (s.mem ((s.r e + imm) % 65536).toNat) } next, 0)
  else if op = 4 then (goOn { s with mem := upd s.mem ((s.r d + imm) % 65536).toNat (s.r e % 65536) } next, 0)
  else if op = 12 ∨ op = 13 then (goOn (two op (s.r d) (s.r e) s) next, 0)
  else if 5 ≤ op ∧ op ≤ 11 then (goOn { two op (s.r d) (s.r e) s with r := upd s.r d (twoR op (s.r d) (s.r e) s.c) } next, 0)
  else if 14 ≤ op ∧ op ≤ 18 then (goOn { sh op (s.r d) s with r := upd s.r d (shX op (s.r d) s.c) } next, 0)
  else if 19 ≤ op ∧ op ≤ 25 then (goOn s (if goes s op then imm else next), 0)
  else if op = 26 then (goOn (pushed s next) imm, 0)
  else if op = 27 then (goOn (popped s) (s.mem (s.r 7).toNat), 0)
  else if op = 28 then (goOn (pushed s (s.r e)) next, 0)
  else if op = 29 then (goOn { popped s with r := upd (popped s).r d (s.mem (s.r 7).toNat) } next, 0)
  else if op = 31 then (goOn (came inp d s) next, 0)
  else if s.out.length = 65536 then (s, 5)
  else (goOn { s with out := s.out ++ [s.r e % 256] } next, 0)
end Mc
/-- Only the machine's block, its memory and what it told have changed, and new blocks. -/
structure Frm (L : Lay) (ov : Value) (w w' : World) : Prop where
  os : w'.os = w.os
  tape : w'.tape = w.tape
  output : w'.output = w.output
  size : w.heap.size ≤ w'.heap.size
  block : ∀ b, b < w.heap.size → ¬ (b = L.mb ∨ b = L.gm) → some b ≠ ov.ownBlock → w'.heap[b]? = w.heap[b]?
theorem Frm.refl (L : Lay) (ov : Value) (w : World) : Frm L ov w w := ⟨rfl, rfl, rfl, Nat.le_refl _, fun _ _ _ _ => rfl⟩
theorem Frm.cell {L : Lay} {ov : Value} {w w' : World} (h : Frm L ov w w') {p : Addr} (hp : p.block = L.mb ∨ p.block = L.gm) (u : Value) : Frm L ov w (w'.setCell p u) :=
  ⟨h.os, h.tape, h.output, by simpa using h.size, fun b hb hn ho => (Below.heap_setCell w' p u b (fun e => hn (e ▸ hp))).trans (h.block b hb hn ho)⟩
theorem Frm.new {L : Lay} {ov : Value} {w w' : World} (h : Frm L ov w w') {p : Addr} (hp : w.heap.size ≤ p.block) (u : Value) : Frm L ov w (w'.setCell p u) :=
  ⟨h.os, h.tape, h.output, by simpa using h.size, fun b hb hn ho => (Below.heap_setCell w' p u b (fun e => by omega)).trans (h.block b hb hn ho)⟩
theorem Frm.drew {L : Lay} {ov : Value} {w w' : World} (h : Frm L ov w w') : Frm L ov w w'.drew := ⟨h.os, h.tape, h.output, h.size, h.block⟩
theorem Frm.below {L : Lay} {ov : Value} {w w1 w2 : World} (h : Frm L ov w w1) (k : Below w1.heap.size w1 w2) : Frm L ov w w2 :=
  ⟨k.os.trans h.os, k.tape.trans h.tape, k.output.trans h.output, Nat.le_trans h.size k.size, fun b hb hn ho => (k.block b (Nat.lt_of_lt_of_le hb h.size)).trans (h.block b hb hn ho)⟩
theorem Frm.tch {L : Lay} {ov : Value} {w w1 w2 : World} (h : Frm L ov w w1) (k : Tch L w1 w2) : Frm L ov w w2 :=
  ⟨k.os.trans h.os, k.tape.trans h.tape, k.output.trans h.output, Nat.le_trans h.size k.size, fun b hb hn ho => (k.block b (Nat.lt_of_lt_of_le hb h.size) hn).trans (h.block b hb hn ho)⟩
theorem Frm.grown {L : Lay} {ov : Value} {w w1 w2 : World} (h : Frm L ov w w1) (k : w1.grownBy w2 ov.ownBlock) : Frm L ov w w2 :=
  ⟨k.os.trans h.os, k.tape.trans h.tape, k.output.trans h.output, Nat.le_trans h.size k.size, fun b hb hn ho => (k.block b (Nat.lt_of_lt_of_le hb h.size) ho).trans (h.block b hb hn ho)⟩
theorem own_low {w : World} {base e size n : Nat} {v : Value} {xs : List Value} (h : w.ownsRow base e size v n xs) : ∀ k, v.ownBlock = some k → base ≤ k ∧ k < w.heap.size := by
  obtain ⟨hl, h2⟩ := h
  rcases h2 with ⟨rfl, rfl⟩ | ⟨g', cap, cur, rfl, hbb, hg, hc, hm, hsz, htake⟩
  · intro k hk; simp [Value.ownBlock] at hk
  · intro k hk; simp [Value.ownBlock] at hk; subst hk; exact ⟨hbb, lt_of_block hg⟩
theorem Frm.to {B : Nat} {L : Lay} {s : St} {ov : Value} {w w' : World} (h : Frm L ov w w') (hm : Mach w B L s ov) : Below B w w' :=
  ⟨h.os, h.tape, h.output, h.size, fun b hb => h.block b (by have := hm.lo1; have := hm.lt; omega) (by have := hm.lo1; have := hm.lo2; omega) (fun e => by have := (own_low hm.out b e.symm).1; omega)⟩
/-- What a step gives. -/
def Did (B : Nat) (L : Lay) (ov : Value) (r : St × Int) (w : World) (e : Ending) (w' : World) : Prop := e = .returned (.int .i64 r.2) ∧ ∃ ov', Mach w' B L r.1 ov' ∧ Frm L ov w w'
def InsOk (D E n imm : Int) (d e : Nat) : Prop := (D = (d : Int) ∧ d < 8) ∧ (E = (e : Int) ∧ e < 8) ∧ (n = 1 ∨ n = 2) ∧ 0 ≤ imm ∧ imm < 65536
theorem In4.of_blk {w : World} {g : Nat} {t : TypeId} {a b c d : Int} (h : Blk w g t #[.int .i64 a, .int .i64 b, .int .i64 c, .int .i64 d]) : In4 w g a b c d :=
  ⟨by rw [h.cell]; rfl, by rw [h.cell]; rfl, by rw [h.cell]; rfl, by rw [h.cell]; rfl, h.frozen 0, h.frozen 1, h.frozen 2, h.frozen 3⟩
theorem Mach.other {w : World} {B : Nat} {L : Lay} {s : St} {ov : Value} (h : Mach w B L s ov) {g : Nat} {cs : Array Value} (hb : Blk w g 43 cs) (k : Nat) (u : Value) : Mach (w.setCell ⟨g, k, none⟩ u) B L s ov := by
  have h1 : L.mb ≠ g := fun e => by subst e; exact h.blk.ne_ hb (by decide) rfl
  obtain ⟨arr, hm, hc⟩ := h.mem
  exact ⟨h.blk.far h1 u, MemIs.far ⟨arr, hm, hc⟩ (hm.ne_ hb (by decide)) u, h.lo1, h.lo2, h.cap, ownsRow_far h.out hb (by decide) k u⟩
theorem cell?_setCell_far (w : World) {b g : Nat} (h : b ≠ g) {k j : Nat} {u : Value} : (w.setCell ⟨g, j, none⟩ u).cell? ⟨b, k, none⟩ = w.cell? ⟨b, k, none⟩ := by
  simp only [World.cell?]
  rw [Below.heap_setCell w ⟨g, j, none⟩ u b h]
theorem ptr_same {v : Value} {w : World} {g : Nat} {t : TypeId} {cs : Array Value} (ev : v = Value.pointer (some ⟨g, 0, none⟩)) (h : Blk w g t cs) : ∀ g', v = Value.pointer (some ⟨g', 0, none⟩) → Blk w g' t cs := by
  intro g' e; rw [ev] at e; injection e with e; injection e with e; injection e with e; subst e; exact h
theorem ins_store {w w0 : World} {B : Nat} {L : Lay} {s : St} {ov : Value} (h : Mach w B L s ov) (hw : Frm L ov w0 w) {g : Nat} (hg : w0.heap.size ≤ g) {a0 a1 a2 a3 : Int} (hb : Blk w g 43 #[.int .i64 a0, .int .i64 a1, .int .i64 a2, .int .i64 a3]) (x y z u : Int) :
    Mach ((((w.setCell ⟨g, 0, none⟩ (.int .i64 x)).setCell ⟨g, 1, none⟩ (.int .i64 y)).setCell ⟨g, 2, none⟩ (.int .i64 z)).setCell ⟨g, 3, none⟩ (.int .i64 u)) B L s ov ∧ Frm L ov w0 ((((w.setCell ⟨g, 0, none⟩ (.int .i64 x)).setCell ⟨g, 1, none⟩ (.int .i64 y)).setCell ⟨g, 2, none⟩ (.int .i64 z)).setCell ⟨g, 3, none⟩ (.int .i64 u)) ∧
    Blk ((((w.setCell ⟨g, 0, none⟩ (.int .i64 x)).setCell ⟨g, 1, none⟩ (.int .i64 y)).setCell ⟨g, 2, none⟩ (.int .i64 z)).setCell ⟨g, 3, none⟩ (.int .i64 u)) g 43 #[.int .i64 x, .int .i64 y, .int .i64 z, .int .i64 u] :=
  ⟨(((h.other hb 0 _).other (hb.set_ 0 _) 1 _).other ((hb.set_ 0 _).set_ 1 _) 2 _).other (((hb.set_ 0 _).set_ 1 _).set_ 2 _) 3 _,
   Frm.new (Frm.new (Frm.new (Frm.new hw (p := ⟨g, 0, none⟩) hg _) (p := ⟨g, 1, none⟩) hg _) (p := ⟨g, 2, none⟩) hg _) (p := ⟨g, 3, none⟩) hg _,
   (((hb.set_ 0 (.int .i64 x)).set_ 1 (.int .i64 y)).set_ 2 (.int .i64 z)).set_ 3 (.int .i64 u)⟩
theorem ins_cell {w : World} {B : Nat} {L : Lay} {s : St} {ov : Value} (h : Mach w B L s ov) {g : Nat} {a0 a1 a2 a3 : Int} (hb : Blk w g 43 #[.int .i64 a0, .int .i64 a1, .int .i64 a2, .int .i64 a3]) {k : Nat} {v : Value} (hc : w.cell? ⟨L.mb, k, none⟩ = some v) (x y z u : Value) :
    ((((w.setCell ⟨g, 0, none⟩ x).setCell ⟨g, 1, none⟩ y).setCell ⟨g, 2, none⟩ z).setCell ⟨g, 3, none⟩ u).cell? ⟨L.mb, k, none⟩ = some v := by
  have h1 : L.mb ≠ g := fun e => by subst e; exact h.blk.ne_ hb (by decide) rfl
  rw [cell?_setCell_far _ h1, cell?_setCell_far _ h1, cell?_setCell_far _ h1, cell?_setCell_far _ h1, hc]
theorem ins_keep {w : World} {g : Nat} {a0 a1 a2 a3 : Int} (hb : Blk w g 43 #[.int .i64 a0, .int .i64 a1, .int .i64 a2, .int .i64 a3]) {N : Nat} {v : Value} {x y z u : Int}
    (h : ∃ g', v = Value.pointer (some ⟨g', 0, none⟩) ∧ N ≤ g' ∧ ∃ b0 b1 b2 b3, Blk w g' 43 #[.int .i64 b0, .int .i64 b1, .int .i64 b2, .int .i64 b3]) :
    ∃ g', v = Value.pointer (some ⟨g', 0, none⟩) ∧ N ≤ g' ∧ ∃ b0 b1 b2 b3, Blk ((((w.setCell ⟨g, 0, none⟩ (.int .i64 x)).setCell ⟨g, 1, none⟩ (.int .i64 y)).setCell ⟨g, 2, none⟩ (.int .i64 z)).setCell ⟨g, 3, none⟩ (.int .i64 u)) g' 43 #[.int .i64 b0, .int .i64 b1, .int .i64 b2, .int .i64 b3] := by
  obtain ⟨g', e, hl, b0, b1, b2, b3, hk⟩ := h
  refine ⟨g', e, hl, ?_⟩
  by_cases hg : g' = g
  · subst hg; exact ⟨x, y, z, u, (((hb.set_ 0 (.int .i64 x)).set_ 1 (.int .i64 y)).set_ 2 (.int .i64 z)).set_ 3 (.int .i64 u)⟩
  · exact ⟨b0, b1, b2, b3, (((hk.far hg _).far hg _).far hg _).far hg _⟩
theorem Mach.setPc {w : World} {B : Nat} {L : Lay} {s : St} {ov : Value} (h : Mach w B L s ov) (x : Int) : Mach (w.setCell ⟨L.mb, 12, none⟩ (.int .i64 x)) B L { s with pc := x } ov := h.set 12 _ { s with pc := x } rfl rfl rfl
def Regs (w : World) (L : Lay) (s : St) (d e : Nat) : Prop := (w.cell? ⟨L.mb, d, none⟩ = some (.int .i64 (s.r d)) ∧ w.frozen? ⟨L.mb, d, none⟩ = false) ∧ (w.cell? ⟨L.mb, e, none⟩ = some (.int .i64 (s.r e)) ∧ w.frozen? ⟨L.mb, e, none⟩ = false) ∧ L.mb < w.heap.size
theorem Regs.keep {w w' : World} {L : Lay} {s : St} {d e : Nat} (h : Regs w L s d e) (hb : Below w.heap.size w w') : Regs w' L s d e := by
  obtain ⟨⟨a1, a2⟩, ⟨b1, b2⟩, hl⟩ := h
  obtain ⟨hc, hf⟩ := bcell hb
  exact ⟨⟨by rw [hc _ _ hl]; exact a1, by rw [hf _ _ hl]; exact a2⟩, ⟨by rw [hc _ _ hl]; exact b1, by rw [hf _ _ hl]; exact b2⟩, Nat.lt_of_lt_of_le hl hb.size⟩
theorem Mach.regs {w : World} {B : Nat} {L : Lay} {s s' : St} {ov : Value} (h : Mach w B L s' ov) (hr : s'.r = s.r) {d e : Nat} (hd : d < 8) (he : e < 8) : Regs w L s d e := by
  have h1 := h.reg d hd; have h2 := h.reg e he
  rw [hr] at h1 h2
  exact ⟨h1, h2, h.lt⟩
theorem two_pc (op a b : Int) (s : St) : (Mc.two op a b s).pc = s.pc := by unfold Mc.two; (repeat' split) <;> rfl
theorem two_r (op a b : Int) (s : St) : (Mc.two op a b s).r = s.r := by unfold Mc.two; (repeat' split) <;> rfl
theorem came_pc (inp : List Int) (d : Nat) (s : St) : (Mc.came inp d s).pc = s.pc := by unfold Mc.came; split <;> rfl
theorem exec_out (inp : List Int) (d e : Nat) (imm next : Int) (s : St) : Mc.exec inp 30 d e imm next s = if s.out.length = 65536 then (s, 5) else (goOn { s with out := s.out ++ [s.r e % 256] } next, 0) := rfl
theorem exec_two (inp : List Int) (op : Int) (d e : Nat) (imm next : Int) (s : St) (h : 5 ≤ op ∧ op ≤ 11) : Mc.exec inp op d e imm next s = (goOn { two op (s.r d) (s.r e) s with r := upd s.r d (twoR op (s.r d) (s.r e) s.c) } next, 0) := by
  unfold Mc.exec
  rw [if_neg (by omega), if_neg (by omega), if_neg (by omega), if_neg (by omega), if_neg (by omega), if_neg (by omega), if_neg (by omega), if_pos h]
theorem exec_sh (inp : List Int) (op : Int) (d e : Nat) (imm next : Int) (s : St) (h : 14 ≤ op ∧ op ≤ 18) : Mc.exec inp op d e imm next s = (goOn { sh op (s.r d) s with r := upd s.r d (shX op (s.r d) s.c) } next, 0) := by
  unfold Mc.exec
  rw [if_neg (by omega), if_neg (by omega), if_neg (by omega), if_neg (by omega), if_neg (by omega), if_neg (by omega), if_neg (by omega), if_neg (by omega), if_pos h]
theorem exec_goes (inp : List Int) (op : Int) (d e : Nat) (imm next : Int) (s : St) (h : 19 ≤ op ∧ op ≤ 25) : Mc.exec inp op d e imm next s = (goOn s (if goes s op then imm else next), 0) := by
  unfold Mc.exec
  rw [if_neg (by omega), if_neg (by omega), if_neg (by omega), if_neg (by omega), if_neg (by omega), if_neg (by omega), if_neg (by omega), if_neg (by omega), if_neg (by omega), if_pos h]
theorem ins_far {w : World} {B : Nat} {L : Lay} {s : St} {ov : Value} {g : Nat} {cs : Array Value} (hb : Blk w g 43 cs) (h : Mach w B L s ov) : ¬ (g = L.mb ∨ g = L.gm) := by
  obtain ⟨arr, hm, hc⟩ := h.mem
  rintro (rfl | rfl)
  · exact h.blk.ne_ hb (by decide) rfl
  · exact hm.ne_ hb (by decide) rfl
/-- The machine but for what it told. -/
structure MachB (w : World) (B : Nat) (L : Lay) (s : St) (ov : Value) : Prop where
  blk : Blk w L.mb 107 (cells L s ov)
  mem : MemIs w L.gm s.mem
  lo1 : B ≤ L.mb
  lo2 : B ≤ L.gm
  cap : MS ≤ L.cap
theorem Mach.b {w : World} {B : Nat} {L : Lay} {s : St} {ov : Value} (h : Mach w B L s ov) : MachB w B L s ov := ⟨h.blk, h.mem, h.lo1, h.lo2, h.cap⟩
theorem MachB.at_ {w : World} {B : Nat} {L : Lay} {s : St} {ov : Value} (h : MachB w B L s ov) (j : Nat) (u : Value) (hu : (cells L s ov)[j]? = some u) : w.cell? ⟨L.mb, j, none⟩ = some u ∧ w.frozen? ⟨L.mb, j, none⟩ = false :=
  ⟨by rw [h.blk.cell, hu], h.blk.frozen j⟩
theorem MachB.keep {w w' : World} {B : Nat} {L : Lay} {s : St} {ov : Value} (h : MachB w B L s ov) (hb : Below w.heap.size w w') : MachB w' B L s ov := ⟨h.blk.keep hb, h.mem.keep hb, h.lo1, h.lo2, h.cap⟩
theorem MachB.hi {w : World} {B : Nat} {L : Lay} {s : St} {ov : Value} (h : MachB w B L s ov) : B ≤ w.heap.size := by have := h.lo1; have := h.blk.lt; omega
theorem own_ne {w : World} {base e size g n : Nat} {v : Value} {t : TypeId} {xs : List Value} {cs : Array Value} (h : w.ownsRow base e size v n xs) (hb : Blk w g t cs) (hne : e ≠ t) : some g ≠ v.ownBlock := by
  obtain ⟨hl, h2⟩ := h
  rcases h2 with ⟨rfl, rfl⟩ | ⟨g', cap, cur, rfl, hbb, hg, hc, hm, hsz, htake⟩
  · simp [Value.ownBlock]
  · intro e'
    simp [Value.ownBlock] at e'
    subst e'; unfold Blk at hb; rw [hg] at hb; injection hb with hb; injection hb with _ ht; exact hne ht
theorem own_slice {w : World} {base e size n : Nat} {v : Value} {xs : List Value} (h : w.ownsRow base e size v n xs) : ∃ a c, v = .slice a n c ∧ ∀ k, v.ownBlock = some k → base ≤ k ∧ k < w.heap.size := by
  have hl := own_low h
  obtain ⟨_, h2⟩ := h
  rcases h2 with ⟨rfl, rfl⟩ | ⟨g', cap, cur, rfl, hbb, hg, hc, hm, hsz, htake⟩
  · exact ⟨_, _, rfl, hl⟩
  · exact ⟨_, _, rfl, hl⟩
theorem MachB.told {w : World} {B : Nat} {L : Lay} {s : St} {ov v : Value} (h : MachB w B L s ov) (x : Int) (ho : w.ownsRow B 5 1 v (s.out.length + 1) (s.out.map (Value.int .u8) ++ [.int .u8 x])) : Mach (w.setCell ⟨L.mb, 18, none⟩ v) B L { s with out := s.out ++ [x] } v := by
  obtain ⟨arr, hm, hc⟩ := h.mem
  refine ⟨h.blk.set_ 18 v, MemIs.far ⟨arr, hm, hc⟩ (fun e => h.blk.ne_ hm (by decide) e.symm) v, h.lo1, h.lo2, h.cap, ?_⟩
  have := ownsRow_far ho h.blk (by decide) 18 v
  simpa using this
theorem own_slice2 {w : World} {base e size n : Nat} {v : Value} {xs : List Value} (h : w.ownsRow base e size v n xs) : ∃ a c, v = Value.slice a n c ∧ w.ownsRow base e size (Value.slice a n c) n xs := by
  obtain ⟨a, c, hv, _⟩ := own_slice h
  exact ⟨a, c, hv, by rw [← hv]; exact h⟩
theorem grown_below {w w' : World} {B : Nat} {row : Option Nat} (h : w.grownBy w' row) (hB : B ≤ w.heap.size) (hr : ∀ k, row = some k → B ≤ k ∧ k < w.heap.size) : Below B w w' :=
  ⟨h.os, h.tape, h.output, h.size, fun k hk => h.block k (by omega) (fun e => by have := (hr k e.symm).1; omega)⟩
theorem MachB.grown {w w' : World} {B size n : Nat} {L : Lay} {s : St} {ov v : Value} {xs : List Value} (h : MachB w B L s ov) (hg : w.grownBy w' v.ownBlock) (ho : w.ownsRow B 5 size v n xs) : MachB w' B L s ov := by
  obtain ⟨arr, hm, hc⟩ := h.mem
  exact ⟨h.blk.grown hg (own_ne ho h.blk (by decide)), ⟨arr, hm.grown hg (own_ne ho hm (by decide)), hc⟩, h.lo1, h.lo2, h.cap⟩
theorem MachB.regs {w : World} {B : Nat} {L : Lay} {s s' : St} {ov : Value} (h : MachB w B L s' ov) (hr : s'.r = s.r) {d e : Nat} (hd : d < 8) (he : e < 8) : Regs w L s d e := by
  have hreg : ∀ k, k < 8 → (cells L s' ov)[k]? = some (.int .i64 (s.r k)) := fun k hk => by
    rw [← hr]
    rcases (show k = 0 ∨ k = 1 ∨ k = 2 ∨ k = 3 ∨ k = 4 ∨ k = 5 ∨ k = 6 ∨ k = 7 by omega) with rfl | rfl | rfl | rfl | rfl | rfl | rfl | rfl <;> rfl
  exact ⟨h.at_ d _ (hreg d hd), h.at_ e _ (hreg e he), h.blk.lt⟩
theorem slice_keep {w w' : World} {M : Nat} {row : Option Nat} {X v : Value} (hr : ∀ k, row = some k → k < M) (hg : w.grownBy w' row) (h : ∃ g1, v = Value.slice (some ⟨g1, 0, none⟩) 1 1 ∧ M ≤ g1 ∧ w.cell? ⟨g1, 0, none⟩ = some X) :
    ∃ g1, v = Value.slice (some ⟨g1, 0, none⟩) 1 1 ∧ M ≤ g1 ∧ w'.cell? ⟨g1, 0, none⟩ = some X := by
  obtain ⟨g1, e, hl, hc⟩ := h
  exact ⟨g1, e, hl, by rw [World.cell?_of_block (hg.block g1 (World.block_lt_of_cell? _ ⟨g1, 0, none⟩ hc) (fun e => by have := hr g1 e.symm; omega))]; exact hc⟩
theorem Try.infoU8 : (Try.prog.info? 5).map (fun i => (i.zero, i.size, i.bytes)) = some (some (.int .u8 0), 1, 1) := by kernel_rfl
theorem mwrap {x : Int} (h0 : 0 ≤ x) (h1 : x < 1000000) : IntKind.i64.wrap x = x := by rw [IntKind.wrap_i64]; omega
end Go.Proofs.Ytfjgnhmmakeaeaa
