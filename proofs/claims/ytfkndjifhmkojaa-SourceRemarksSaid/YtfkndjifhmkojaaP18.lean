/- What is known within parser.stat. No condition. -/
import Derived.Test.YtfkndjifhmkojaaP17
import Derived.Defers
import Derived.LoopTactic
import Derived.Deep.Cut
namespace Go.Proofs.Ytfkndjifhmkojaa
open Go.RowKit
set_option linter.unusedVariables false
set_option linter.unusedSimpArgs false
set_option maxRecDepth 100000
namespace Ps
theorem seq_seq {α β γ : Type} (r : Res α) (f : α → List Tok → Res β) (k : β → List Tok → Res γ) : seq (seq r f) k = seq r fun x l => seq (f x l) k := by cases r <;> rfl
end Ps
/-- Within stat, one level down: where what comes up again lies. -/
structure Sd (w : World) (g fin d b : Nat) (l : List Tk.Tok) (W : World) : Prop where
  fz : Fz w g 56 Pw.zS W
  pb : Pb W g fin (d + 1) l
  ne : b ≠ g
  lt : w.heap.size < b
  cb : W.cell? ⟨b, 0, none⟩ = some (P g)
section
variable {w W W1 : World} {g fin d b s9 : Nat} {cs : Array Value} {l l1 : List Tk.Tok}
theorem Sd.chg (h : Sd w g fin d b l W) (hg : g < w.heap.size) (hc : Chg g W W1) (hp : Pb W1 g fin (d + 1) l1) : Sd w g fin d b l1 W1 := ⟨h.fz.step hg hc, hp, h.ne, h.lt, hc.cell h.ne h.cb⟩
theorem Sd.keep (h : Sd w g fin d b l W) (hb : Below W.heap.size W W1) : Sd w g fin d b l W1 := ⟨h.fz.below hb, h.pb.keep hb, h.ne, h.lt, (World.cell?_of_block (hb.block b (World.block_lt_of_cell? _ ⟨b, 0, none⟩ h.cb))).trans h.cb⟩
/-- A local struct's block besides. -/
structure Sx (w : World) (g fin d b sb : Nat) (cs : Array Value) (l : List Tk.Tok) (W : World) : Prop where
  sd : Sd w g fin d b l W
  lt : w.heap.size < sb
  nb : b ≠ sb
  sb : Blk W sb 56 cs
theorem Sx.chg (h : Sx w g fin d b s9 cs l W) (hg : g < w.heap.size) (hc : Chg g W W1) (hp : Pb W1 g fin (d + 1) l1) : Sx w g fin d b s9 cs l1 W1 :=
  ⟨h.sd.chg hg hc hp, h.lt, h.nb, (hc.block s9 h.sb.lt (fun e => by injection e with e; have := h.lt; omega)).trans h.sb⟩
theorem Sx.keep (h : Sx w g fin d b s9 cs l W) (hb : Below W.heap.size W W1) : Sx w g fin d b s9 cs l W1 := ⟨h.sd.keep hb, h.lt, h.nb, h.sb.keep hb⟩
theorem Sx.far (h : Sx w g fin d b s9 cs l W) (hg : g < w.heap.size) {cs1 : Array Value} (hf : ∀ k, k ≠ s9 → W1.heap[k]? = W.heap[k]?) (hc : Chg g w W1) (hb : Blk W1 s9 56 cs1) : Sx w g fin d b s9 cs1 l W1 :=
  ⟨⟨⟨hc, (hf _ (by have := h.lt; omega)).trans h.sd.fz.z⟩, h.sd.pb.same fun k hk hl => hf k (by have := h.lt; omega), h.sd.ne, h.sd.lt, (World.cell?_of_block (w := W) (hf b h.nb)).trans h.sd.cb⟩, h.lt, h.nb, hb⟩
theorem Sx.set (h : Sx w g fin d b s9 cs l W) (hg : g < w.heap.size) (k : Nat) (u : Value) : Sx w g fin d b s9 (cs.setIfInBounds k u) l (W.setCell ⟨s9, k, none⟩ u) :=
  h.far hg (fun i hi => Below.heap_setCell W ⟨s9, k, none⟩ u i hi) (h.sd.fz.chg.setNew (by show w.heap.size ≤ s9; have := h.lt; omega) u) (h.sb.set_ k u)
theorem Sx.row (h : Sx w g fin d b s9 cs l W) (hg : g < w.heap.size) (cs1 : Array Value) : Sx w g fin d b s9 cs1 l (W.setRow s9 cs1) :=
  h.far hg (fun i hi => setRow_other W s9 i cs1 hi) (Pw.rowC h.sd.fz.chg (by have := h.lt; omega) cs1) (Pw.rowB h.sb cs1)
theorem Sx.new (h : Sd w g fin d b l W) (cs : Array Value) : Sx w g fin d b W.heap.size cs l (W.alloc (.cells cs 56)) :=
  ⟨h.keep (Ext.alloc (Below.refl _ _) _), h.fz.lt, Nat.ne_of_lt (World.block_lt_of_cell? W ⟨b, 0, none⟩ h.cb), Blk.new _ _ _⟩
end
/-- What stat asks of the readers of its parts. -/
structure StH (g fin d : Nat) (F : Ps.F) (N : Nat) : Prop where
  less : Ps.Less F
  ex : ∀ (w1 : World) (l1 : List Tk.Tok), l1.length ≤ N → Pb w1 g fin d l1 → Calls Try.prog 46 #[P g] w1 (PxR g fin d w1 (F.expr d l1))
  one : ∀ (w1 : World) (l1 : List Tk.Tok), l1.length < N → Pb w1 g fin d l1 → Calls Try.prog 86 #[P g] w1 (PlR g fin d w1 (Ps.bodyS F d l1))
  blk : ∀ (w1 : World) (l1 : List Tk.Tok), l1.length < N → Pb w1 g fin d l1 → Calls Try.prog 45 #[P g] w1 (PlR g fin d w1 (F.block d [] l1))
  set : ∀ (w1 : World) (l1 : List Tk.Tok), l1.length ≤ N → Pb w1 g fin d l1 → Calls Try.prog 88 #[P g] w1 (PsR g fin d w1 (Ps.setS F fin d l1))
  sets : ∀ (s : List UInt8) (w1 : World) (l1 : List Tk.Tok), l1.length ≤ N → Pb w1 g fin d l1 → Calls Try.prog 87 #[P g, .string ⟨s.toArray⟩] w1 (PlR g fin d w1 (Ps.setsS F fin s d l1))
set_option maxHeartbeats 4000000 in
theorem pstat_no (w : World) (g fin d : Nat) (l : List Tk.Tok) (h : Pb w g fin d l) (hd : 400 ≤ d) (hd1 : d ≤ 1000) :
    Calls Try.prog 67 #[P g] w (PsR g fin d w (.error (4, Ps.pos fin l))) := by
  have HB0 := Lib.hid (Ext.alloc (Below.refl w.heap.size w) (.cells Pw.zS 56))
  have HD := Lib.hid (pdeeper_no _ g fin d l (h.keep HB0.out) hd hd1)
  clear h hd hd1
  go_enter_defers Try.func67, Try.ntmps67
  go_wp2_with (first | (go_at_call 68; refine HD.out.mono ?_; rintro e w2 ⟨rfl, hc2, hp2⟩; have HC2 := Lib.hid hc2; have HP2 := Lib.hid hp2; clear hc2 hp2))
  exact ⟨(Chg.of_below HB0.out).trans HC2.out, HP2.out, rfl⟩
end Go.Proofs.Ytfkndjifhmkojaa
