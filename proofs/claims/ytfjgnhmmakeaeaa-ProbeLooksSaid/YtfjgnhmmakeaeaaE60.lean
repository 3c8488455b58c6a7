/- Who looks on, in memory: its blocks, and what the machine leaves of them. No condition. -/
import Derived.Test.YtfjgnhmmakeaeaaE28
namespace Go.Proofs.Ytfjgnhmmakeaeaa
open Go.RowKit
set_option linter.unusedVariables false
set_option linter.unusedSimpArgs false
set_option maxRecDepth 100000
open Mc

/-- Below B only what l says has changed. -/
structure Bel (B : Nat) (l : Nat → Prop) (w w' : World) : Prop where
  os : w'.os = w.os
  tape : w'.tape = w.tape
  output : w'.output = w.output
  size : w.heap.size ≤ w'.heap.size
  block : ∀ b, b < B → ¬ l b → w'.heap[b]? = w.heap[b]?
theorem Bel.refl (B : Nat) (l : Nat → Prop) (w : World) : Bel B l w w := ⟨rfl, rfl, rfl, Nat.le_refl _, fun _ _ _ => rfl⟩
theorem Bel.of {B : Nat} {l : Nat → Prop} {w w' : World} (h : Below B w w') : Bel B l w w' := ⟨h.os, h.tape, h.output, h.size, fun b hb _ => h.block b hb⟩
theorem Bel.trans {B : Nat} {l : Nat → Prop} {w w1 w2 : World} (h : Bel B l w w1) (k : Bel B l w1 w2) : Bel B l w w2 :=
  ⟨k.os.trans h.os, k.tape.trans h.tape, k.output.trans h.output, Nat.le_trans h.size k.size, fun b hb hn => (k.block b hb hn).trans (h.block b hb hn)⟩
theorem Bel.mono {B B' : Nat} {l l' : Nat → Prop} {w w' : World} (h : Bel B l w w') (hB : B' ≤ B) (hl : ∀ b, b < B' → l b → l' b) : Bel B' l' w w' :=
  ⟨h.os, h.tape, h.output, h.size, fun b hb hn => h.block b (by omega) (fun k => hn (hl b hb k))⟩
theorem Bel.cell {B : Nat} {l : Nat → Prop} {w w' : World} (h : Bel B l w w') {p : Addr} (hp : B ≤ p.block) (u : Value) : Bel B l w (w'.setCell p u) :=
  ⟨h.os, h.tape, h.output, by simpa using h.size, fun b hb hn => (Below.heap_setCell w' p u b (by omega)).trans (h.block b hb hn)⟩
theorem Bel.row {B : Nat} {l : Nat → Prop} {w w' : World} (h : Bel B l w w') {g : Nat} (hg : B ≤ g) (cs : Array Value) : Bel B l w (w'.setRow g cs) :=
  h.trans ⟨rfl, rfl, rfl, by simp [World.setRow], fun k hk _ => setRow_other w' g k cs (by omega)⟩
theorem Bel.below {B : Nat} {w w' : World} (h : Bel B (fun _ => False) w w') : Below B w w' := ⟨h.os, h.tape, h.output, h.size, fun b hb => h.block b hb (fun k => k)⟩
/-- Who looks on: what it holds, in which blocks. -/
structure Eyes {G : Type} (E : Env G) (B0 : Nat) (l0 : Nat → Prop) where
  Look : World → (Nat → Prop) → G → Prop
  keep : ∀ {w w' : World} {l : Nat → Prop} {g : G}, Look w l g → w.heap.size ≤ w'.heap.size → (∀ b, l b ∨ (b < B0 ∧ ¬ l0 b) → w'.heap[b]? = w.heap[b]?) → Look w' l g
  nb : ∀ {w : World} {l : Nat → Prop} {g : G} {b : Nat}, Look w l g → l b → ∃ t cs, Blk w b t cs ∧ t ≠ 5 ∧ t ≠ 107 ∧ t ≠ 30
/-- What it does behind a step. -/
def Dones {G : Type} {E : Env G} {B0 : Nat} {l0 : Nat → Prop} (Y : Eyes E B0 l0) (cd inp : List Int) (Jn : G → St → Prop) (DF : Nat) (args : Int → Nat → Array Value) : Prop :=
  ∀ (L : Lay) (s s' : St) (ov : Value) (l : Nat → Prop) (g : G) (wx : World), s = tick cd inp s' → Mach wx L.mb L s ov → B0 ≤ L.mb → Ok s → Wd s'.pc → 0 ≤ s'.steps → s'.steps < 1000000 → Jn g s' → Y.Look wx l g → ¬ l L.gm → (∀ b, l b → l0 b ∨ B0 ≤ b) →
    Calls Try.prog DF (args s'.pc L.mb) wx fun e w' => e = .returned (.tuple #[]) ∧ ∃ l', Y.Look w' l' (E.dG g s'.pc s) ∧ Bel wx.heap.size l wx w' ∧ ∀ b, l' b → l b ∨ wx.heap.size ≤ b
/-- What it says ahead of a step. -/
def Stops {G : Type} {E : Env G} {B0 : Nat} {l0 : Nat → Prop} (Y : Eyes E B0 l0) (SF : Nat) (args : Int → Array Value) : Prop :=
  ∀ (a : Int) (l : Nat → Prop) (g : G) (wx : World), Wd a → Y.Look wx l g → (∀ b, l b → l0 b ∨ B0 ≤ b) →
    Calls Try.prog SF (args a) wx fun e w' => e = .returned (.bool (E.sB g a)) ∧ ∃ l', Y.Look w' l' (E.sG g a) ∧ Bel wx.heap.size l wx w' ∧ ∀ b, l' b → l b ∨ wx.heap.size ≤ b
theorem Blk.bel {w w' : World} {g : Nat} {t : TypeId} {cs : Array Value} (h : Blk w g t cs) {B : Nat} {l : Nat → Prop} (k : Bel B l w w') (hg : g < B) (hn : ¬ l g) : Blk w' g t cs := (k.block g hg hn).trans h
theorem Mc.MemIs.bel {w w' : World} {g : Nat} {mem : Nat → Int} (h : MemIs w g mem) {l : Nat → Prop} (k : Bel w.heap.size l w w') (hn : ¬ l g) : MemIs w' g mem := by
  obtain ⟨arr, hb, hc⟩ := h; exact ⟨arr, hb.bel k hb.lt hn, hc⟩
theorem ownsRow_bel {w w' : World} {base e size : Nat} {v : Value} {n : Nat} {xs : List Value} (h : w.ownsRow base e size v n xs) {l : Nat → Prop} (k : Bel w.heap.size l w w') (hn : ∀ b, v.ownBlock = some b → ¬ l b) : w'.ownsRow base e size v n xs := by
  obtain ⟨hl, h2⟩ := h
  refine ⟨hl, ?_⟩
  rcases h2 with ⟨rfl, rfl⟩ | ⟨g', cap, cur, rfl, hbb, hg', hc, hm, hsz, htake⟩
  · exact .inl ⟨rfl, rfl⟩
  · exact .inr ⟨g', cap, cur, rfl, hbb, (k.block g' (lt_of_block hg') (hn g' rfl)).trans hg', hc, hm, hsz, htake⟩
section
variable {G : Type} {E : Env G} {B0 : Nat} {l0 : Nat → Prop} (Y : Eyes E B0 l0) {w w' : World} {B : Nat} {L : Lay} {s s' : St} {ov : Value} {l : Nat → Prop} {g : G}
theorem Eyes.lt (h : Y.Look w l g) {b : Nat} (hb : l b) : b < w.heap.size := by
  obtain ⟨t, cs, k, _⟩ := Y.nb h hb; exact k.lt
theorem Eyes.mb (h : Y.Look w l g) (hm : Mach w B L s ov) : ¬ l L.mb := fun k => by
  obtain ⟨t, cs, hb, _, hn, _⟩ := Y.nb h k
  exact hm.blk.ne_ hb (fun e => hn e.symm) rfl
theorem Eyes.ran (h : Y.Look w l g) {z : Nat} {cs : Array Value} (hz : Blk w z 30 cs) : ¬ l z := fun k => by
  obtain ⟨t, cs', hb, _, _, hn⟩ := Y.nb h k
  exact hz.ne_ hb (fun e => hn e.symm) rfl
theorem Eyes.out (h : Y.Look w l g) {e n : Nat} {v : Value} {xs : List Value} (ho : w.ownsRow B 5 e v n xs) : ∀ b, v.ownBlock = some b → ¬ l b := fun b hb k => by
  obtain ⟨t, cs', hk, hn, _, _⟩ := Y.nb h k
  exact own_ne ho hk (fun e => hn e.symm) hb.symm
/-- The machine stays where another looks. -/
theorem Eyes.mach (h : Y.Look w l g) (hm : Mach w B L s ov) (hg : ¬ l L.gm) (k : Bel w.heap.size l w w') : Mach w' B L s ov :=
  ⟨hm.blk.bel k hm.blk.lt (Y.mb h hm), hm.mem.bel k hg, hm.lo1, hm.lo2, hm.cap, ownsRow_bel hm.out k (Y.out h hm.out)⟩
/-- Who looks on stays where the machine works. -/
theorem Eyes.step (h : Y.Look w l g) (hm : Mach w B L s ov) (hB : B0 ≤ B) (hg : ¬ l L.gm) (k : Frm L ov w w') : Y.Look w' l g :=
  Y.keep h k.size (fun b hb => by
    have h1 := hm.lo1; have h2 := hm.lo2
    rcases hb with hb | ⟨hb, _⟩
    · exact k.block b (Y.lt h hb) (by rintro (rfl | rfl); exact Y.mb h hm hb; exact hg hb) (fun e => Y.out h hm.out b e.symm hb)
    · have := hm.lt
      exact k.block b (by omega) (by omega) (fun e => by have := (own_low hm.out b e.symm).1; omega))
theorem Eyes.cell (h : Y.Look w l g) (hm : Mach w B L s ov) (hB : B0 ≤ B) (k : Nat) (u : Value) : Y.Look (w.setCell ⟨L.mb, k, none⟩ u) l g :=
  Y.keep h (by simp) (fun b hb => Below.heap_setCell w ⟨L.mb, k, none⟩ u b (by
    have h1 := hm.lo1
    rcases hb with hb | ⟨hb, _⟩
    · intro e; subst e; exact Y.mb h hm hb
    · show b ≠ L.mb; omega))
theorem Eyes.below (h : Y.Look w l g) (hB : B0 ≤ w.heap.size) (k : Below w.heap.size w w') : Y.Look w' l g :=
  Y.keep h k.size (fun b hb => by
    rcases hb with hb | ⟨hb, _⟩
    · exact k.block b (Y.lt h hb)
    · exact k.block b (by omega))
end
theorem RdB.up {w : World} {B B' : Nat} {v : Value} {n : Nat} {cs : List Value} (h : RdB w B v n cs) (hb : B ≤ B') : RdB w B' v n cs := ⟨h.1, fun hn a m c e => Nat.lt_of_lt_of_le (h.2 hn a m c e) hb⟩
/-- The loop of a run that is looked at, at its head. -/
structure LoopE {G : Type} (E : Env G) {B0 : Nat} {l0 : Nat → Prop} (Y : Eyes E B0 l0) (Jn : G → St → Prop) (cd inp : List Int) (nI : Nat) (fuel : Int) (w3 : World) (L : Lay) (fin : St × G) (wr : World) : Prop where
  of ::
  get : ∃ (s : St) (n : Nat) (ov : Value) (g : G) (l : Nat → Prop), Mach wr L.mb L s ov ∧ Bel L.mb l0 w3 wr ∧ Y.Look wr l g ∧ ¬ l L.gm ∧ (∀ b, l b → l0 b ∨ w3.heap.size ≤ b) ∧ Jn g s ∧ Fine nI s ∧ s.steps + n = fuel ∧ 0 ≤ s.steps ∧ (s.how = 0 → go E cd inp n s g = fin) ∧ (s.how ≠ 0 → (s, g) = fin)
/-- The last lines of a run that was looked at. -/
theorem run_end2 {G : Type} {E : Env G} {B0 : Nat} {l0 : Nat → Prop} (Y : Eyes E B0 l0) {w W wc : World} {B ZB : Nat} {L : Lay} {s : St} {ov : Value} {a : Option Addr} {k vk : Nat} {l : Nat → Prop} {g : G} (hm : Mach W B L s ov) (hlo : s.out.length ≤ 65536) (hkm : k ≤ MS) (ht : top s.mem MS = k) (hz : Blk W ZB 30 ranZc) (hB : B0 ≤ B) (hZ : B0 ≤ ZB)
    (hw : Bel B0 l0 w W) (hk : Y.Look W l g) (hbc : Below W.heap.size W wc) (ho : wc.ownsRow W.heap.size 3 1 (.slice a k vk) k (((List.range k).map s.mem).map (Value.int .i64))) :
    Blk (wc.setCell ⟨L.mb, 13, none⟩ (.slice a k vk)) L.mb 107 (mac5 L s ov (.slice a k vk)) ∧ Blk ((wc.setCell ⟨L.mb, 13, none⟩ (.slice a k vk)).setRow L.mb (mac6 L s ov (.slice a k vk))) L.mb 107 (mac6 L s ov (.slice a k vk)) ∧
    Blk ((wc.setCell ⟨L.mb, 13, none⟩ (.slice a k vk)).setRow L.mb (mac6 L s ov (.slice a k vk))) ZB 30 ranZc ∧
    ∀ cs', ((((wc.setCell ⟨L.mb, 13, none⟩ (.slice a k vk)).setRow L.mb (mac6 L s ov (.slice a k vk))).setRow ZB cs').ownsRow B0 5 1 ov s.out.length (s.out.map (Value.int .u8)) ∧
      (((wc.setCell ⟨L.mb, 13, none⟩ (.slice a k vk)).setRow L.mb (mac6 L s ov (.slice a k vk))).setRow ZB cs').ownsRow B0 3 1 (.slice a k vk) (top s.mem MS) ((left s.mem).map (Value.int .i64)) ∧
      Y.Look (((wc.setCell ⟨L.mb, 13, none⟩ (.slice a k vk)).setRow L.mb (mac6 L s ov (.slice a k vk))).setRow ZB cs') l g ∧
      Bel B0 l0 w (((wc.setCell ⟨L.mb, 13, none⟩ (.slice a k vk)).setRow L.mb (mac6 L s ov (.slice a k vk))).setRow ZB cs')) := by
  have hBW : B0 ≤ W.heap.size := by have := hm.lo1; have := hm.lt; omega
  have hk2 : k ≤ 65536 := hkm
  have hmc := hm.keep hbc
  have hzc := hz.keep hbc
  have h5 : Blk (wc.setCell ⟨L.mb, 13, none⟩ (.slice a k vk)) L.mb 107 (mac5 L s ov (.slice a k vk)) := hmc.blk.set_ 13 _
  have hne : ZB ≠ L.mb := fun e => by subst e; exact hmc.blk.ne_ hzc (by decide) rfl
  have z5 : Blk (wc.setCell ⟨L.mb, 13, none⟩ (.slice a k vk)) ZB 30 ranZc := hzc.far hne _
  have h6 := h5.row (mac6 L s ov (.slice a k vk))
  have z6 := z5.farRow hne (mac6 L s ov (.slice a k vk))
  have hkc := Y.below hk hBW hbc
  refine ⟨h5, h6, z6, fun cs' => ⟨?_, ?_, ?_, ?_⟩⟩
  · exact own_mono hB (ownsRow_farRow (ownsRow_farRow (ownsRow_far hmc.out hmc.blk (by decide) 13 _) h5 (by decide) _) z6 (by decide) cs')
  · have := ownsRow_farRow (ownsRow_farRow (ownsRow_far ho hmc.blk (by decide) 13 (.slice a k vk)) h5 (by decide) (mac6 L s ov (.slice a k vk))) z6 (by decide) cs'
    rw [show left s.mem = (List.range k).map s.mem by unfold left; rw [ht], ht]
    exact own_mono hBW this
  · have hnm := Y.mb hkc hmc
    have hnz := Y.ran hkc hzc
    have hlm := hm.lo1
    refine Y.keep hkc (by simp [World.setRow]) (fun b hb => ?_)
    have b1 : b ≠ L.mb := by rcases hb with hb | ⟨hb, _⟩; (intro e; subst e; exact hnm hb); omega
    have b2 : b ≠ ZB := by rcases hb with hb | ⟨hb, _⟩; (intro e; subst e; exact hnz hb); omega
    exact (setRow_other _ ZB b cs' b2).trans ((setRow_other _ L.mb b _ b1).trans (Below.heap_setCell wc ⟨L.mb, 13, none⟩ _ b b1))
  · have hlm := hm.lo1
    exact Bel.row (Bel.row (Bel.cell (hw.trans (Bel.of (hbc.mono hBW))) (p := ⟨L.mb, 13, none⟩) (by show B0 ≤ L.mb; omega) _) (by omega) _) hZ _
end Go.Proofs.Ytfjgnhmmakeaeaa
