/- What a walk through a text keeps. No condition. -/
import Derived.Test.YtkmcniaaecijdaaK9
import Derived.Test.YtkmcniaaecijdaaK10
import Derived.Maps.AppendAt
namespace Go.Proofs.Ytkmcniaaecijdaa
open Go.RowKit
set_option linter.unusedVariables false
set_option linter.unusedSimpArgs false
set_option maxRecDepth 100000
namespace Tk
def tc (t : Tok) : List Value := cells t.kind ⟨t.text.toArray⟩ t.n t.bits t.sg t.pos
def tkR (ts : List Tok) : List Value := ts.flatMap tc
theorem tkR_snoc (ts : List Tok) (t : Tok) : tkR (ts ++ [t]) = tkR ts ++ tc t := by unfold tkR; rw [List.flatMap_append]; simp
theorem info_tok : (Try.prog.info? 33).map (fun i => (i.zero, i.size, i.bytes)) = some (some (.agg #[.int .i64 0, .string ⟨#[]⟩, .int .u64 0, .int .i64 0, .bool false, .int .i64 0]), 6, 56) := by kernel_rfl
theorem addr0 (b off j : Nat) : (⟨b, off, none⟩ : Addr).add j = ⟨b, off + j, none⟩ := by rcases j with _ | j <;> simp [Addr.add]
theorem own_sl {w : World} {base e size n : Nat} {v : Value} {xs : List Value} (h : w.ownsRow base e size v n xs) : ∃ a c, v = .slice a n c := by
  obtain ⟨_, ⟨rfl, rfl⟩ | ⟨g', cap, cur, rfl, _⟩⟩ := h
  · exact ⟨_, _, rfl⟩
  · exact ⟨_, _, rfl⟩
/-- 'append(out, t)'. -/
theorem wpList_app_tok {wv : World} {ops : Array Oper} {rest : List Oper} {o : Oper} {a : Act} {Q : Exit → Act → World → Prop} (hgd : o.guard = none) (s x : Operand) (ho : o.op = .call { callee := .builtin .append, args := #[s, x], argTypes := #[23, 23] })
    (B : Nat) (lv : Value) (m : Nat) (xs : List Value) (g : Nat) (k n b : Int) (sg : Bool) (tx : ByteArray) (at' : Int) (hs : a.eval s = lv) (hx : a.eval x = .slice (some ⟨g, 0, none⟩) 1 1) (hown : wv.ownsRow B 33 6 lv m xs) (hb : TkB wv g k tx n b sg at') (hm : m + 1 ≤ 1000000000) (hB : B ≤ wv.heap.size)
    (h : ∀ a' c' w', w'.ownsRow B 33 6 (.slice a' (m + 1) c') (m + 1) (xs ++ cells k tx n b sg at') → wv.grownBy w' lv.ownBlock → wpList Try.prog ops Q rest (a.put o.dst (.slice a' (m + 1) c')) w') :
    wpList Try.prog ops Q (o :: rest) a wv := by
  obtain ⟨iI, hi, hz0, hz1, hz2⟩ := info_parts info_tok
  refine wpList_append_own_at _ hgd s x 23 ho B 33 iI _ 6 56 Try.underlying23 hi hz0 hz1 hz2 rfl (by decide) lv m xs hs hown ⟨g, 0, none⟩ 1 1 (cells k tx n b sg at') hx rfl (fun j u hj => ?_) (fun u hu => ?_) (by unfold maxLen; omega) (by omega) hB ?_
  · rw [addr0, Nat.zero_add, hb.cell, ← hj]; simp [cells]
  · simp only [cells, List.mem_cons, List.not_mem_nil, or_false] at hu
    rcases hu with rfl | rfl | rfl | rfl | rfl | rfl <;> rfl
  · intro v' w' ho' hg' _ hat
    obtain ⟨a', c', hv⟩ := own_sl ho'
    subst hv
    exact h a' c' w' ho' hg'
/-- What holds as a text is walked through. -/
structure L (w : World) (B G : Nat) (l : List UInt8) (a : Nat) (ts : List Tok) (av : Option Addr) (cv : Nat) (wr : World) : Prop where
  ext : Below w.heap.size w wr
  ft : Blk wr w.heap.size 26 #[.int .i64 0, .int .i64 0]
  sg : Blk wr G 9 (sgL.map strV).toArray
  own : wr.ownsRow B 33 6 (.slice av ts.length cv) ts.length (tkR ts)
  eq : ahead ts (frm l a) = frm l 0
  lt : w.heap.size < B
  ltG : G < B
  low : B ≤ wr.heap.size
  few : ts.length ≤ a
theorem own_keepT {w w' : World} {base e size n : Nat} {v : Value} {xs : List Value} (h : w.ownsRow base e size v n xs) (hb : Below w.heap.size w w') : w'.ownsRow base e size v n xs := by
  refine ⟨h.1, ?_⟩
  rcases h.2 with ⟨rfl, hz⟩ | ⟨g, cap, cur, rfl, hbg, hg, hnc, hcm, hcs, htake⟩
  · exact .inl ⟨rfl, hz⟩
  · have hlt : g < w.heap.size := by
      rcases Nat.lt_or_ge g w.heap.size with h | h
      · exact h
      · rw [Array.getElem?_eq_none h] at hg; cases hg
    exact .inr ⟨g, cap, cur, rfl, hbg, (hb.block g hlt).trans hg, hnc, hcm, hcs, htake⟩
theorem L.keep {w wr w' : World} {B G : Nat} {l : List UInt8} {a : Nat} {ts : List Tok} {av : Option Addr} {cv : Nat} (h : L w B G l a ts av cv wr) (hb : Below wr.heap.size wr w') : L w B G l a ts av cv w' :=
  ⟨Ext.trans h.ext hb, h.ft.keep hb, h.sg.keep hb, own_keepT h.own hb, h.eq, h.lt, h.ltG, Nat.le_trans h.low hb.size, h.few⟩
/-- Nothing was there: on. -/
theorem L.skip {w wr : World} {B G : Nat} {l : List UInt8} {a k : Nat} {ts : List Tok} {av : Option Addr} {cv : Nat} (h : L w B G l a ts av cv wr) {c : UInt8} {r : List UInt8} (hc : l.drop a = c :: r) (hs : step a c r = .skip k) : L w B G l (a + k) ts av cv wr :=
  ⟨h.ext, h.ft, h.sg, h.own, by rw [← h.eq, frm_step l a c r hc, hs], h.lt, h.ltG, h.low, Nat.le_trans h.few (Nat.le_add_right _ _)⟩
/-- A token more. -/
theorem L.tok {w wz w' : World} {B G : Nat} {l : List UInt8} {a k : Nat} {ts : List Tok} {av : Option Addr} {cv : Nat} (h : L w B G l a ts av cv wz) {c : UInt8} {r : List UInt8} (hc : l.drop a = c :: r) {t : Tok} (hs : step a c r = .tok t k)
    {a' : Option Addr} {c' : Nat} (ho : w'.ownsRow B 33 6 (.slice a' (ts.length + 1) c') (ts.length + 1) (tkR ts ++ tc t)) (hg : wz.grownBy w' (Value.slice av ts.length cv).ownBlock) : L w B G l (a + k) (ts ++ [t]) a' c' w' := by
  have hlo := h.own.lt
  have far : ∀ g, g < B → some g ≠ (Value.slice av ts.length cv).ownBlock := fun g hg e => by have := (hlo g e.symm).1; omega
  have hlt := h.lt
  have hk := (step_long a c r k (by rw [hs]; rfl)).1
  refine ⟨⟨hg.os.trans h.ext.os, hg.tape.trans h.ext.tape, hg.output.trans h.ext.output, Nat.le_trans h.ext.size hg.size, fun i hi => (hg.block i (by have := h.ext.size; omega) (far i (by omega))).trans (h.ext.block i hi)⟩,
    h.ft.grown hg (far _ hlt), h.sg.grown hg (far _ h.ltG), ?_, ?_, h.lt, h.ltG, Nat.le_trans h.low hg.size, ?_⟩
  · rw [List.length_append, tkR_snoc]; exact ho
  · rw [← h.eq, frm_step l a c r hc, hs]; exact (ahead_cons _ _ _).symm
  · rw [List.length_append]; have := h.few; simp only [List.length_cons, List.length_nil]; omega
/-- What comes of a text. -/
def R (l : List UInt8) (w : World) (e : Ending) (w' : World) : Prop := Below w.heap.size w w' ∧
  ((65536 < l.length ∧ e = .returned (.tuple #[.slice none 0 0, .agg #[.int .i64 4, .int .i64 0]])) ∨
   (l.length ≤ 65536 ∧ (∀ er a, frm l 0 = .error (er, a) → e = .returned (.tuple #[.slice none 0 0, .agg #[.int .i64 er, .int .i64 (a : Int)]])) ∧
     (∀ ts, frm l 0 = .ok ts → ∃ av cv, e = .returned (.tuple #[.slice av ts.length cv, .agg #[.int .i64 0, .int .i64 0]]) ∧ w'.ownsRow w.heap.size 33 6 (.slice av ts.length cv) ts.length (tkR ts))))
theorem R.err {l : List UInt8} {w w' : World} {a : Nat} {e : Ending} {ts : List Tok} (hl : l.length ≤ 65536) (heq : ahead ts (frm l a) = frm l 0) {c : UInt8} {r : List UInt8} (hc : l.drop a = c :: r) {z : Int} (hs : step a c r = .err z) (he : e = .returned (.tuple #[.slice none 0 0, .agg #[.int .i64 z, .int .i64 (a : Int)]])) (hb : Below w.heap.size w w') : R l w e w' := by
  have h0 : frm l 0 = .error (z, a) := by rw [← heq, frm_step l a c r hc, hs]; rfl
  refine ⟨hb, .inr ⟨hl, fun er' a' h => ?_, fun ts' h => ?_⟩⟩
  · rw [h0] at h; injection h with h; injection h with h1 h2; subst h1; subst h2; exact he
  · rw [h0] at h; cases h
theorem R.done {l : List UInt8} {w w' : World} {e : Ending} {ts : List Tok} {a B : Nat} {av : Option Addr} {cv : Nat} (hl : l.length ≤ 65536) (heq : ahead ts (frm l a) = frm l 0) (ha : l.length ≤ a) (he : e = .returned (.tuple #[.slice av ts.length cv, .agg #[.int .i64 0, .int .i64 0]])) (hb : Below w.heap.size w w') (ho : w'.ownsRow B 33 6 (.slice av ts.length cv) ts.length (tkR ts)) (hB : w.heap.size ≤ B) : R l w e w' := by
  have h0 : frm l 0 = .ok ts := by rw [← heq, frm_end l a ha]; show Except.ok (ts ++ []) = _; rw [List.append_nil]
  refine ⟨hb, .inr ⟨hl, fun er' a' h => ?_, fun ts' h => ?_⟩⟩
  · rw [h0] at h; cases h
  · rw [h0] at h; injection h with h; subst h
    refine ⟨av, cv, he, ho.1, ?_⟩
    rcases ho.2 with h | ⟨g, cap, cur, hv, hbg, hr⟩
    · exact .inl h
    · exact .inr ⟨g, cap, cur, hv, Nat.le_trans hB hbg, hr⟩
theorem own_row {w : World} {B e s n g : Nat} {v : Value} {xs : List Value} (h : w.ownsRow B e s v n xs) (hg : g < B) (cs : Array Value) : (w.setRow g cs).ownsRow B e s v n xs := by
  refine ⟨h.1, ?_⟩
  rcases h.2 with ⟨rfl, hz⟩ | ⟨g', cap, cur, rfl, hbg, hg', hnc, hcm, hcs, htake⟩
  · exact .inl ⟨rfl, hz⟩
  · exact .inr ⟨g', cap, cur, rfl, hbg, (setRow_other w g g' cs (by omega)).trans hg', hnc, hcm, hcs, htake⟩
theorem results_two {P : Program} {fn : Func} {p q : Tmp} {ty : TypeId} (h : fn.results = #[.tmp p, .cell q ty]) (tmps : Array Value) (w : World) (g : Nat) (t : TypeId) (cs : Array Value) (fr : Nat × Nat) (d : TypeDesc)
    (hp : tmps.getD q undef = .pointer (some ⟨g, 0, none⟩)) (hg : w.heap[g]? = some (.cells cs t fr))
    (hu : P.underlying ty = some d) (hd : (match d with | .struct _ | .array _ _ => true | _ => false) = true) (hi : (P.info? ty).map (·.size) = some cs.size) :
    (results fn tmps).run P w = .ok (.tuple #[tmps.getD p undef, .agg cs]) w := by
  have hp' : tmps[q]?.getD undef = .pointer (some ⟨g, 0, none⟩) := by simpa using hp
  simp [results, h, hp', asAddr, run_loadVar_row w g t ty cs fr d hg hu hd hi]
end Tk
end Go.Proofs.Ytkmcniaaecijdaa
