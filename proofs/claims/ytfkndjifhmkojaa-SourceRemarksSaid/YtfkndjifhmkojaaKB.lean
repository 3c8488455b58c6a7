/- A text's tokens, plain: how the step is met. No condition. -/
import Derived.Test.YtfkndjifhmkojaaKA
import Derived.Lib.Bytealg
import Derived.Lib.Strings
import Derived.Test.YtfkndjifhmkojaaK9
import Derived.Maps.AppendAt
namespace Go.Proofs.Ytfkndjifhmkojaa
open Go.RowKit
set_option linter.unusedVariables false
set_option linter.unusedSimpArgs false
set_option maxRecDepth 100000
namespace Tk
def nl (x : Nat) : Bool := x != 10
theorem u8_ne {b : UInt8} : (b == 10) = !nl b.toNat := by
  unfold nl
  rw [Bool.eq_iff_iff]
  simp only [beq_iff_eq, Bool.not_eq_true', bne_eq_false_iff_eq]
  constructor
  · rintro rfl; rfl
  · intro h; exact UInt8.toNat_inj.1 h
/-- The library's way to a line's end. -/
theorem ib_run : ∀ l : List UInt8, Lib.indexByte l 10 = if run nl l = l.length then -1 else (run nl l : Int)
  | [] => rfl
  | b :: l => by
    have hle := run_le nl l
    unfold Lib.indexByte run
    rw [u8_ne, ib_run l]
    cases h : nl b.toNat with
    | false => simp
    | true =>
      simp only [Bool.not_true, Bool.false_eq_true, if_false, if_true, List.length_cons]
      by_cases hl : run nl l = l.length
      · simp [hl]
      · have e1 : ((run nl l : Int) == -1) = false := by simp
        rw [if_neg hl, e1, if_neg Bool.false_ne_true, if_neg (show ¬ run nl l + 1 = l.length + 1 by omega)]
        omega
theorem drop_cons (L : List UInt8) (a : Nat) (h : a < L.length) : L.drop a = L[a] :: L.drop (a + 1) := List.drop_eq_getElem_cons h
theorem head_drop (L : List UInt8) (a : Nat) : (L.drop a).head? = L[a]? := by rw [List.head?_drop]
/-- Is a remark there? -/
theorem hit_remark (c : UInt8) (r : List UInt8) : Lib.hasPrefix (c :: r) [47, 47] = decide (c.toNat = 47 ∧ r.head? = some 47) := by
  unfold Lib.hasPrefix
  have e : (47 == c) = decide (c.toNat = 47) := by
    rw [Bool.eq_iff_iff]; simp only [beq_iff_eq, decide_eq_true_eq]
    constructor
    · rintro rfl; rfl
    · intro h; exact (UInt8.toNat_inj.1 h).symm
  cases r with
  | nil => simp [List.isPrefixOf]
  | cons d r =>
    simp only [List.isPrefixOf, Bool.and_true, e, List.head?_cons]
    rw [Bool.eq_iff_iff]; simp only [Bool.and_eq_true, decide_eq_true_eq, beq_iff_eq, Option.some.injEq]
    constructor
    · rintro ⟨h1, rfl⟩; exact ⟨h1, rfl⟩
    · rintro ⟨h1, rfl⟩; exact ⟨h1, rfl⟩
theorem step_blank (a : Nat) (c : UInt8) (r : List UInt8) (h : c.toNat = 32 ∨ c.toNat = 9 ∨ c.toNat = 10) : step a c r = .skip 1 := by unfold step; rw [if_pos h]
theorem step_remark (a : Nat) (c : UInt8) (r : List UInt8) (h : ¬ (c.toNat = 32 ∨ c.toNat = 9 ∨ c.toNat = 10)) (h2 : c.toNat = 47 ∧ r.head? = some 47) : step a c r = .skip (run nl (c :: r)) := by unfold step; rw [if_neg h, if_pos h2]; rfl
theorem step_name (a : Nat) (c : UInt8) (r : List UInt8) (h : isL c.toNat = true) : step a c r = .tok ⟨1, (c :: r).take (run isW (c :: r)), 0, 0, false, a⟩ (run isW (c :: r)) := by
  have h1 : ¬ (c.toNat = 32 ∨ c.toNat = 9 ∨ c.toNat = 10) := by
    unfold isL at h; simp only [Bool.or_eq_true, decide_eq_true_eq] at h; omega
  have h2 : ¬ (c.toNat = 47 ∧ r.head? = some 47) := by
    unfold isL at h; simp only [Bool.or_eq_true, decide_eq_true_eq] at h; omega
  unfold step; rw [if_neg h1, if_neg h2, if_pos h]
theorem step_num (a : Nat) (c : UInt8) (r : List UInt8) (h : isD c.toNat = true) (v : Nat) (hv : v = val 0 ((c :: r).take (run isD (c :: r)))) (u : Bool) (hu : ((c :: r)[run isD (c :: r)]? == some 117) = u) (b : Int) (s : Bool) (z : Int) (hl : lit v u = (b, s, z)) :
    step a c r = if 18446744073709551616 ≤ v then .err 3 else if z ≠ 0 then .err z else .tok ⟨2, (c :: r).take (run isD (c :: r)), v, b, s, a⟩ (run isD (c :: r) + if u then 1 else 0) := by
  have hc : 48 ≤ c.toNat ∧ c.toNat ≤ 57 := by unfold isD at h; simpa using h
  have h0 : isL c.toNat = false := by
    unfold isL; simp only [Bool.or_eq_false_iff, decide_eq_false_iff_not]; omega
  unfold step
  rw [if_neg (by omega), if_neg (by omega), h0, if_neg (by decide), if_pos h, hu, ← hv, hl]
theorem step_sign (a : Nat) (c : UInt8) (r : List UInt8) (h : ¬ (c.toNat = 32 ∨ c.toNat = 9 ∨ c.toNat = 10)) (h2 : ¬ (c.toNat = 47 ∧ r.head? = some 47)) (h3 : isL c.toNat = false) (h4 : isD c.toNat = false) :
    step a c r = if sgn (c :: r) = 0 then .err 2 else .tok ⟨3, (c :: r).take (sgn (c :: r)), 0, 0, false, a⟩ (sgn (c :: r)) := by
  unfold step
  rw [if_neg h, if_neg h2, h3, if_neg (by decide), h4, if_neg (by decide)]
end Tk
end Go.Proofs.Ytfkndjifhmkojaa
/- What a walk through a text keeps. No condition. -/
namespace Go.Proofs.Ytfkndjifhmkojaa
open Go.RowKit
set_option linter.unusedVariables false
set_option linter.unusedSimpArgs false
set_option maxRecDepth 100000
namespace Tk
def tc (t : Tok) : List Value := cells t.kind ⟨t.text.toArray⟩ t.n t.bits t.sg t.pos
def tkR (ts : List Tok) : List Value := ts.flatMap tc
theorem tkR_snoc (ts : List Tok) (t : Tok) : tkR (ts ++ [t]) = tkR ts ++ tc t := by unfold tkR; rw [List.flatMap_append]; simp
theorem info_tok : (Try.prog.info? 92).map (fun i => (i.zero, i.size, i.bytes)) = some (some (.agg #[.int .i64 0, .string ⟨#[]⟩, .int .u64 0, .int .i64 0, .bool false, .int .i64 0]), 6, 56) := by kernel_rfl
theorem addr0 (b off j : Nat) : (⟨b, off, none⟩ : Addr).add j = ⟨b, off + j, none⟩ := by rcases j with _ | j <;> simp [Addr.add]
theorem own_sl {w : World} {base e size n : Nat} {v : Value} {xs : List Value} (h : w.ownsRow base e size v n xs) : ∃ a c, v = .slice a n c := by
  obtain ⟨_, ⟨rfl, rfl⟩ | ⟨g', cap, cur, rfl, _⟩⟩ := h
  · exact ⟨_, _, rfl⟩
  · exact ⟨_, _, rfl⟩
/-- 'append(out, t)'. -/
theorem wpList_app_tok {wv : World} {ops : Array Oper} {rest : List Oper} {o : Oper} {a : Act} {Q : Exit → Act → World → Prop} (hgd : o.guard = none) (s x : Operand) (ho : o.op = .call { callee := .builtin .append, args := #[s, x], argTypes := #[57, 57] })
    (B : Nat) (lv : Value) (m : Nat) (xs : List Value) (g : Nat) (k n b : Int) (sg : Bool) (tx : ByteArray) (at' : Int) (hs : a.eval s = lv) (hx : a.eval x = .slice (some ⟨g, 0, none⟩) 1 1) (hown : wv.ownsRow B 92 6 lv m xs) (hb : TkB wv g k tx n b sg at') (hm : m + 1 ≤ 1000000000) (hB : B ≤ wv.heap.size)
    (h : ∀ a' c' w', w'.ownsRow B 92 6 (.slice a' (m + 1) c') (m + 1) (xs ++ cells k tx n b sg at') → wv.grownBy w' lv.ownBlock → wpList Try.prog ops Q rest (a.put o.dst (.slice a' (m + 1) c')) w') :
    wpList Try.prog ops Q (o :: rest) a wv := by
  obtain ⟨iI, hi, hz0, hz1, hz2⟩ := info_parts info_tok
  refine wpList_append_own_at _ hgd s x 57 ho B 92 iI _ 6 56 Try.underlying57 hi hz0 hz1 hz2 rfl (by decide) lv m xs hs hown ⟨g, 0, none⟩ 1 1 (cells k tx n b sg at') hx rfl (fun j u hj => ?_) (fun u hu => ?_) (by unfold maxLen; omega) (by omega) hB ?_
  · rw [addr0, Nat.zero_add, hb.cell, ← hj]; simp [cells]
  · simp only [cells, List.mem_cons, List.not_mem_nil, or_false] at hu
    rcases hu with rfl | rfl | rfl | rfl | rfl | rfl <;> rfl
  · intro v' w' ho' hg' _ hat
    obtain ⟨a', c', hv⟩ := own_sl ho'
    subst hv
    exact h a' c' w' ho' hg'
/-- What holds as a text is walked through. -/
structure L (w : World) (B G : Nat) (l : List UInt8) (a : Nat) (ts : List Tok) (av : Option Addr) (cv : Nat) (wr : World) : Prop where
  ext : Below w.heap.size w wr
  ft : Blk wr w.heap.size 29 #[.int .i64 0, .int .i64 0]
  sg : Blk wr G 9 (sgL.map strV).toArray
  own : wr.ownsRow B 92 6 (.slice av ts.length cv) ts.length (tkR ts)
  eq : ahead ts (frm l a) = frm l 0
  lt : w.heap.size < B
  ltG : G < B
  low : B ≤ wr.heap.size
  few : ts.length ≤ a
theorem own_keepT {w w' : World} {base e size n : Nat} {v : Value} {xs : List Value} (h : w.ownsRow base e size v n xs) (hb : Below w.heap.size w w') : w'.ownsRow base e size v n xs := by
  refine ⟨h.1, ?_⟩
  rcases h.2 with ⟨rfl, hz⟩ | ⟨g, cap, cur, rfl, hbg, hg, hnc, hcm, hcs, htake⟩
  · exact .inl ⟨rfl, hz⟩
  · have hlt : g < w.heap.size := by
      rcases Nat.lt_or_ge g w.heap.size with h | h
      · exact h
      · rw [Array.getElem?_eq_none h] at hg; cases hg
    exact .inr ⟨g, cap, cur, rfl, hbg, (hb.block g hlt).trans hg, hnc, hcm, hcs, htake⟩
theorem L.keep {w wr w' : World} {B G : Nat} {l : List UInt8} {a : Nat} {ts : List Tok} {av : Option Addr} {cv : Nat} (h : L w B G l a ts av cv wr) (hb : Below wr.heap.size wr w') : L w B G l a ts av cv w' :=
  ⟨Ext.trans h.ext hb, h.ft.keep hb, h.sg.keep hb, own_keepT h.own hb, h.eq, h.lt, h.ltG, Nat.le_trans h.low hb.size, h.few⟩
/-- Nothing was there: on. -/
theorem L.skip {w wr : World} {B G : Nat} {l : List UInt8} {a k : Nat} {ts : List Tok} {av : Option Addr} {cv : Nat} (h : L w B G l a ts av cv wr) {c : UInt8} {r : List UInt8} (hc : l.drop a = c :: r) (hs : step a c r = .skip k) : L w B G l (a + k) ts av cv wr :=
  ⟨h.ext, h.ft, h.sg, h.own, by rw [← h.eq, frm_step l a c r hc, hs], h.lt, h.ltG, h.low, Nat.le_trans h.few (Nat.le_add_right _ _)⟩
/-- A token more. -/
theorem L.tok {w wz w' : World} {B G : Nat} {l : List UInt8} {a k : Nat} {ts : List Tok} {av : Option Addr} {cv : Nat} (h : L w B G l a ts av cv wz) {c : UInt8} {r : List UInt8} (hc : l.drop a = c :: r) {t : Tok} (hs : step a c r = .tok t k)
    {a' : Option Addr} {c' : Nat} (ho : w'.ownsRow B 92 6 (.slice a' (ts.length + 1) c') (ts.length + 1) (tkR ts ++ tc t)) (hg : wz.grownBy w' (Value.slice av ts.length cv).ownBlock) : L w B G l (a + k) (ts ++ [t]) a' c' w' := by
  have hlo := h.own.lt
  have far : ∀ g, g < B → some g ≠ (Value.slice av ts.length cv).ownBlock := fun g hg e => by have := (hlo g e.symm).1; omega
  have hlt := h.lt
  have hk := (step_long a c r k (by rw [hs]; rfl)).1
  refine ⟨⟨hg.os.trans h.ext.os, hg.tape.trans h.ext.tape, hg.output.trans h.ext.output, Nat.le_trans h.ext.size hg.size, fun i hi => (hg.block i (by have := h.ext.size; omega) (far i (by omega))).trans (h.ext.block i hi)⟩,
    h.ft.grown hg (far _ hlt), h.sg.grown hg (far _ h.ltG), ?_, ?_, h.lt, h.ltG, Nat.le_trans h.low hg.size, ?_⟩
  · rw [List.length_append, tkR_snoc]; exact ho
  · rw [← h.eq, frm_step l a c r hc, hs]; exact (ahead_cons _ _ _).symm
  · rw [List.length_append]; have := h.few; simp only [List.length_cons, List.length_nil]; omega
/-- What comes of a text. -/
def R (l : List UInt8) (w : World) (e : Ending) (w' : World) : Prop := Below w.heap.size w w' ∧
  ((65536 < l.length ∧ e = .returned (.tuple #[.slice none 0 0, .agg #[.int .i64 4, .int .i64 0]])) ∨
   (l.length ≤ 65536 ∧ (∀ er a, frm l 0 = .error (er, a) → e = .returned (.tuple #[.slice none 0 0, .agg #[.int .i64 er, .int .i64 (a : Int)]])) ∧
     (∀ ts, frm l 0 = .ok ts → ∃ av cv, e = .returned (.tuple #[.slice av ts.length cv, .agg #[.int .i64 0, .int .i64 0]]) ∧ w'.ownsRow w.heap.size 92 6 (.slice av ts.length cv) ts.length (tkR ts))))
theorem R.err {l : List UInt8} {w w' : World} {a : Nat} {e : Ending} {ts : List Tok} (hl : l.length ≤ 65536) (heq : ahead ts (frm l a) = frm l 0) {c : UInt8} {r : List UInt8} (hc : l.drop a = c :: r) {z : Int} (hs : step a c r = .err z) (he : e = .returned (.tuple #[.slice none 0 0, .agg #[.int .i64 z, .int .i64 (a : Int)]])) (hb : Below w.heap.size w w') : R l w e w' := by
  have h0 : frm l 0 = .error (z, a) := by rw [← heq, frm_step l a c r hc, hs]; rfl
  refine ⟨hb, .inr ⟨hl, fun er' a' h => ?_, fun ts' h => ?_⟩⟩
  · rw [h0] at h; injection h with h; injection h with h1 h2; subst h1; subst h2; exact he
  · rw [h0] at h; cases h
theorem R.done {l : List UInt8} {w w' : World} {e : Ending} {ts : List Tok} {a B : Nat} {av : Option Addr} {cv : Nat} (hl : l.length ≤ 65536) (heq : ahead ts (frm l a) = frm l 0) (ha : l.length ≤ a) (he : e = .returned (.tuple #[.slice av ts.length cv, .agg #[.int .i64 0, .int .i64 0]])) (hb : Below w.heap.size w w') (ho : w'.ownsRow B 92 6 (.slice av ts.length cv) ts.length (tkR ts)) (hB : w.heap.size ≤ B) : R l w e w' := by
  have h0 : frm l 0 = .ok ts := by rw [← heq, frm_end l a ha]; show Except.ok (ts ++ []) = _; rw [List.append_nil]
  refine ⟨hb, .inr ⟨hl, fun er' a' h => ?_, fun ts' h => ?_⟩⟩
  · rw [h0] at h; cases h
  · rw [h0] at h; injection h with h; subst h
    refine ⟨av, cv, he, ho.1, ?_⟩
    rcases ho.2 with h | ⟨g, cap, cur, hv, hbg, hr⟩
    · exact .inl h
    · exact .inr ⟨g, cap, cur, hv, Nat.le_trans hB hbg, hr⟩
theorem own_row {w : World} {B e s n g : Nat} {v : Value} {xs : List Value} (h : w.ownsRow B e s v n xs) (hg : g < B) (cs : Array Value) : (w.setRow g cs).ownsRow B e s v n xs := by
  refine ⟨h.1, ?_⟩
  rcases h.2 with ⟨rfl, hz⟩ | ⟨g', cap, cur, rfl, hbg, hg', hnc, hcm, hcs, htake⟩
  · exact .inl ⟨rfl, hz⟩
  · exact .inr ⟨g', cap, cur, rfl, hbg, (setRow_other w g g' cs (by omega)).trans hg', hnc, hcm, hcs, htake⟩
theorem results_two {P : Program} {fn : Func} {p q : Tmp} {ty : TypeId} (h : fn.results = #[.tmp p, .cell q ty]) (tmps : Array Value) (w : World) (g : Nat) (t : TypeId) (cs : Array Value) (fr : Nat × Nat) (d : TypeDesc)
    (hp : tmps.getD q undef = .pointer (some ⟨g, 0, none⟩)) (hg : w.heap[g]? = some (.cells cs t fr))
    (hu : P.underlying ty = some d) (hd : (match d with | .struct _ | .array _ _ => true | _ => false) = true) (hi : (P.info? ty).map (·.size) = some cs.size) :
    (results fn tmps).run P w = .ok (.tuple #[tmps.getD p undef, .agg cs]) w := by
  have hp' : tmps[q]?.getD undef = .pointer (some ⟨g, 0, none⟩) := by simpa using hp
  simp [results, h, hp', asAddr, run_loadVar_row w g t ty cs fr d hg hu hd hi]
end Tk
end Go.Proofs.Ytfkndjifhmkojaa

/- What the document's walk through a text keeps. No condition. -/
namespace Go.Proofs.Ytfkndjifhmkojaa
open Go.RowKit
set_option linter.unusedVariables false
set_option linter.unusedSimpArgs false
set_option maxRecDepth 100000
theorem Tk.fone (a b : Int) : (#[.int .i64 a, .int .i64 b] : Array Value).all (·.oneCell') = true := by simp [Value.oneCell']
namespace Tk
theorem lit_code (n : Int) (u : Bool) : (W.lit n u).2.2 = 0 ∨ (W.lit n u).2.2 = 3 := by
  unfold W.lit
  split
  · split
    · exact .inl rfl
    split
    · exact .inl rfl
    · exact .inl rfl
  · split
    · exact .inl rfl
    split
    · exact .inl rfl
    split
    · exact .inl rfl
    · exact .inr rfl
structure L8 (w : World) (B : Nat) (l : List UInt8) (a : Nat) (ts : List Tok) (av : Option Addr) (cv : Nat) (wr : World) : Prop where
  ext : Below w.heap.size w wr
  ft : Blk wr w.heap.size 29 #[.int .i64 0, .int .i64 0]
  own : wr.ownsRow B 92 6 (.slice av ts.length cv) ts.length (tkR ts)
  eq : ahead ts (frm l a) = frm l 0
  lt : w.heap.size < B
  low : B ≤ wr.heap.size
  few : ts.length ≤ a
theorem L8.keep {w wr w' : World} {B : Nat} {l : List UInt8} {a : Nat} {ts : List Tok} {av : Option Addr} {cv : Nat} (h : L8 w B l a ts av cv wr) (hb : Below wr.heap.size wr w') : L8 w B l a ts av cv w' :=
  ⟨Ext.trans h.ext hb, h.ft.keep hb, own_keepT h.own hb, h.eq, h.lt, Nat.le_trans h.low hb.size, h.few⟩
theorem L8.skip {w wr : World} {B : Nat} {l : List UInt8} {a k : Nat} {ts : List Tok} {av : Option Addr} {cv : Nat} (h : L8 w B l a ts av cv wr) {c : UInt8} {r : List UInt8} (hc : l.drop a = c :: r) (hs : step a c r = .skip k) : L8 w B l (a + k) ts av cv wr :=
  ⟨h.ext, h.ft, h.own, by rw [← h.eq, frm_step l a c r hc, hs], h.lt, h.low, Nat.le_trans h.few (Nat.le_add_right _ _)⟩
theorem L8.tok {w wz w' : World} {B : Nat} {l : List UInt8} {a k : Nat} {ts : List Tok} {av : Option Addr} {cv : Nat} (h : L8 w B l a ts av cv wz) {c : UInt8} {r : List UInt8} (hc : l.drop a = c :: r) {t : Tok} (hs : step a c r = .tok t k)
    {a' : Option Addr} {c' : Nat} (ho : w'.ownsRow B 92 6 (.slice a' (ts.length + 1) c') (ts.length + 1) (tkR ts ++ tc t)) (hg : wz.grownBy w' (Value.slice av ts.length cv).ownBlock) : L8 w B l (a + k) (ts ++ [t]) a' c' w' := by
  have hlo := h.own.lt
  have far : ∀ g, g < B → some g ≠ (Value.slice av ts.length cv).ownBlock := fun g hg e => by have := (hlo g e.symm).1; omega
  have hlt := h.lt
  have hk := (step_long a c r k (by rw [hs]; rfl)).1
  refine ⟨⟨hg.os.trans h.ext.os, hg.tape.trans h.ext.tape, hg.output.trans h.ext.output, Nat.le_trans h.ext.size hg.size, fun i hi => (hg.block i (by have := h.ext.size; omega) (far i (by omega))).trans (h.ext.block i hi)⟩,
    h.ft.grown hg (far _ hlt), ?_, ?_, h.lt, Nat.le_trans h.low hg.size, ?_⟩
  · rw [List.length_append, tkR_snoc]; exact ho
  · rw [← h.eq, frm_step l a c r hc, hs]; exact (ahead_cons _ _ _).symm
  · rw [List.length_append]; have := h.few; simp only [List.length_cons, List.length_nil]; omega
end Tk
end Go.Proofs.Ytfkndjifhmkojaa
