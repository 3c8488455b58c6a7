/- Of source.Read: tokens as they lie; two rows apart. No condition. -/
import Derived.Test.YtfkndjifhmkojaaPt2
import Derived.Test.YtfkndjifhmkojaaP25
import Derived.Test.YtfkndjifhmkojaaP21
import Derived.Test.YtfkndjifhmkojaaK12
import Derived.Test.YtfkndjifhmkojaaB0
import Derived.Defers
import Derived.Recover
import Derived.Laws.Pointers
import Derived.LoopTactic
import Derived.Deep.Cut
import Derived.Lib.Hide
import Derived.WalkLawsBesides
import Derived.Test.YtfkndjifhmkojaaPA
namespace Go.Proofs.Ytfkndjifhmkojaa
open Go.RowKit
set_option linter.unusedVariables false
set_option linter.unusedSimpArgs false
set_option maxRecDepth 100000
namespace Tk
theorem lit_I (n : Int) (u : Bool) : W.I (lit n u).1 := by
  unfold lit
  repeat' split
  all_goals (constructor <;> decide)
theorem step_ok (a : Nat) (c : UInt8) (r : List UInt8) (t : Tok) (k : Nat) (h : step a c r = .tok t k) (hl : (c :: r).length ≤ 65536) : TokOk t := by
  have tk : ∀ j, ((c :: r).take j).length ≤ 65536 := fun j => by rw [List.length_take]; omega
  unfold step at h
  split at h
  · cases h
  split at h
  · cases h
  split at h
  · injection h with h _; subst h
    exact ⟨tk _, Ps.U0, Ps.I0⟩
  split at h
  · split at h
    · cases h
    · split at h
      · cases h
      · rename_i h1 h2
        injection h with h _; subst h
        refine ⟨tk _, ⟨?_, ?_⟩, lit_I _ _⟩
        · exact Int.natCast_nonneg _
        · show ((_ : Nat) : Int) < _
          omega
  split at h
  · cases h
  · injection h with h _; subst h
    exact ⟨tk _, Ps.U0, Ps.I0⟩
/-- A text's tokens are as they should be. -/
theorem frm_ok (L : List UInt8) (hL : L.length ≤ 65536) : ∀ (n a : Nat) (ts : List Tok), L.length - a ≤ n → frm L a = .ok ts → ts.length ≤ L.length - a ∧ ∀ t ∈ ts, TokOk t := by
  intro n
  induction n with
  | zero =>
    intro a ts hn h
    rw [frm_end L a (by omega)] at h
    injection h with h
    subst h
    exact ⟨Nat.zero_le _, fun t ht => by cases ht⟩
  | succ n ih =>
    intro a ts hn h
    cases hd : L.drop a with
    | nil =>
      have hl : L.length ≤ a := by have := congrArg List.length hd; rw [List.length_drop] at this; simp at this; omega
      rw [frm_end L a hl] at h
      injection h with h
      subst h
      exact ⟨Nat.zero_le _, fun t ht => by cases ht⟩
    | cons c r =>
      have hl : a < L.length := by have := congrArg List.length hd; rw [List.length_drop] at this; simp at this; omega
      have hcr : (c :: r).length = L.length - a := by rw [← hd, List.length_drop]
      rw [frm_step _ _ c r hd] at h
      cases hs : step a c r with
      | skip k =>
        rw [hs] at h
        have := step_long a c r k (by rw [hs]; rfl)
        obtain ⟨h1, h2⟩ := ih (a + k) ts (by omega) h
        exact ⟨by omega, h2⟩
      | tok t k =>
        rw [hs] at h
        have := step_long a c r k (by rw [hs]; rfl)
        have h : cons t (frm L (a + k)) = .ok ts := h
        cases hf : frm L (a + k) with
        | error e => rw [hf] at h; cases h
        | ok l =>
          rw [hf] at h
          injection h with h
          subst h
          obtain ⟨h1, h2⟩ := ih (a + k) l (by omega) hf
          refine ⟨by rw [List.length_cons]; omega, fun u hu => ?_⟩
          rcases List.mem_cons.1 hu with rfl | hu
          · exact step_ok a c r _ k hs (by omega)
          · exact h2 u hu
      | err e => rw [hs] at h; cases h
theorem tkR_at : ∀ (ts : List Tok) (i : Nat) (t : Tok), ts[i]? = some t → ∀ j u, (tc t)[j]? = some u → (tkR ts)[i * 6 + j]? = some u
  | [], i, t, h => by simp at h
  | x :: ts, 0, t, h => fun j u hu => by
    injection h with h
    subst h
    show (tc x ++ tkR ts)[0 * 6 + j]? = some u
    have hj : j < (tc x).length := (List.getElem?_eq_some_iff.1 hu).1
    rw [Nat.zero_mul, Nat.zero_add, List.getElem?_append_left hj]; exact hu
  | x :: ts, i + 1, t, h => fun j u hu => by
    show (tc x ++ tkR ts)[(i + 1) * 6 + j]? = some u
    have hl : (tc x).length = 6 := rfl
    rw [List.getElem?_append_right (by omega), hl, show (i + 1) * 6 + j - 6 = i * 6 + j by omega]
    exact tkR_at ts i t h j u hu
end Tk
/-- Tokens that a call gave lie there, below the reader. -/
theorem Tks.of {w : World} {B g : Nat} {ts : List Tk.Tok} {av : Option Addr} {cv : Nat} (h : w.ownsRow B 92 6 (.slice av ts.length cv) ts.length (Tk.tkR ts)) (hg : ∀ k, (Value.slice av ts.length cv).ownBlock = some k → k < g) (hok : ∀ t ∈ ts, TokOk t) : Tks w g ts (.slice av ts.length cv) := by
  refine ⟨?_, hok⟩
  obtain ⟨_, _, e, h1, h2⟩ := own_sliceX h
  injection e with _ _ e
  subst e
  refine ⟨av, cv, fun i => (ts[i]?.map Tk.tc).getD [], rfl, h1, h2, fun i x hx => by show TokAt x ((ts[i]?.map Tk.tc).getD []); rw [hx]; rfl, fun h0 => ?_⟩
  rcases h.2 with ⟨_, hz⟩ | ⟨q, cap, cur, ev, hbb, hq, hc, hm, hsz, htake⟩
  · omega
  · injection ev with ea _ _
    subst ea
    refine ⟨q, 0, ⟨hg q rfl, cur, hq⟩, rfl, fun i j u hi hu => ?_⟩
    replace hu : ((ts[i]?.map Tk.tc).getD [])[j]? = some u := hu
    rw [List.getElem?_eq_getElem hi] at hu
    have := h.cells (g := q) rfl (i * 6 + j) u (Tk.tkR_at ts i _ (List.getElem?_eq_getElem hi) j u hu)
    rw [X.add_addr] at this
    rw [Nat.zero_add] at this ⊢
    exact this
/-- Two own rows, apart from one another and from what lies in them. -/
structure Two {α β : Type} (w : World) (B T0 z0 T1 z1 : Nat) (L0 : World → (Nat → Prop) → α → List Value → Prop) (L1 : World → (Nat → Prop) → β → List Value → Prop) (xs : List α) (ys : List β) (a0 : Option Addr) (c0 : Nat) (a1 : Option Addr) (c1 : Nat) (f0 f1 : Nat → List Value) : Prop where
  own0 : w.ownsRow B T0 z0 (.slice a0 xs.length c0) xs.length (flat f0 xs.length)
  own1 : w.ownsRow B T1 z1 (.slice a1 ys.length c1) ys.length (flat f1 ys.length)
  kid0 : ∀ i y, xs[i]? = some y → L0 w (fun k => B ≤ k ∧ (Value.slice a0 xs.length c0).ownBlock ≠ some k ∧ (Value.slice a1 ys.length c1).ownBlock ≠ some k) y (f0 i)
  kid1 : ∀ i y, ys[i]? = some y → L1 w (fun k => B ≤ k ∧ (Value.slice a0 xs.length c0).ownBlock ≠ some k ∧ (Value.slice a1 ys.length c1).ownBlock ≠ some k) y (f1 i)
  apart : ∀ k, (Value.slice a0 xs.length c0).ownBlock = some k → (Value.slice a1 ys.length c1).ownBlock ≠ some k
section
variable {α β : Type} {w w' : World} {B T0 z0 T1 z1 : Nat} {L0 : World → (Nat → Prop) → α → List Value → Prop} {L1 : World → (Nat → Prop) → β → List Value → Prop} {xs : List α} {ys : List β} {a0 a1 : Option Addr} {c0 c1 : Nat} {f0 f1 : Nat → List Value}
theorem Two.nil (w : World) (B T0 z0 T1 z1 : Nat) (L0 : World → (Nat → Prop) → α → List Value → Prop) (L1 : World → (Nat → Prop) → β → List Value → Prop) : Two w B T0 z0 T1 z1 L0 L1 ([] : List α) ([] : List β) none 0 none 0 (fun _ => []) (fun _ => []) :=
  ⟨⟨by simp [flat], .inl ⟨rfl, rfl⟩⟩, ⟨by simp [flat], .inl ⟨rfl, rfl⟩⟩, fun i y h => by simp at h, fun i y h => by simp at h, fun k h => by simp [Value.ownBlock] at h⟩
theorem Two.swap (h : Two w B T0 z0 T1 z1 L0 L1 xs ys a0 c0 a1 c1 f0 f1) (h0 : Lay z0 L0) (h1 : Lay z1 L1) : Two w B T1 z1 T0 z0 L1 L0 ys xs a1 c1 a0 c0 f1 f0 :=
  ⟨h.own1, h.own0, fun i y hy => h1.move (h.kid1 i y hy) fun k hk _ => ⟨⟨hk.1, hk.2.2, hk.2.1⟩, rfl⟩, fun i y hy => h0.move (h.kid0 i y hy) fun k hk _ => ⟨⟨hk.1, hk.2.2, hk.2.1⟩, rfl⟩, fun k h2 h3 => h.apart k h3 h2⟩
theorem Two.same (h : Two w B T0 z0 T1 z1 L0 L1 xs ys a0 c0 a1 c1 f0 f1) (h0 : Lay z0 L0) (h1 : Lay z1 L1) (hs : ∀ k, B ≤ k → k < w.heap.size → w'.heap[k]? = w.heap[k]?) : Two w' B T0 z0 T1 z1 L0 L1 xs ys a0 c0 a1 c1 f0 f1 :=
  ⟨own_heapR h.own0 fun b hb => hs b (own_lowR h.own0 b hb).1 (own_lowR h.own0 b hb).2, own_heapR h.own1 fun b hb => hs b (own_lowR h.own1 b hb).1 (own_lowR h.own1 b hb).2,
    fun i y hy => h0.move (h.kid0 i y hy) fun k hk hl => ⟨hk, hs k hk.1 hl⟩, fun i y hy => h1.move (h.kid1 i y hy) fun k hk hl => ⟨hk, hs k hk.1 hl⟩, h.apart⟩
theorem Two.chg {g : Nat} (h : Two w B T0 z0 T1 z1 L0 L1 xs ys a0 c0 a1 c1 f0 f1) (h0 : Lay z0 L0) (h1 : Lay z1 L1) (hg : g < B) (hc : Chg g w w') : Two w' B T0 z0 T1 z1 L0 L1 xs ys a0 c0 a1 c1 f0 f1 :=
  h.same h0 h1 fun k hk hl => hc.block k hl (fun e => by injection e with e; omega)
theorem Two.keep (h : Two w B T0 z0 T1 z1 L0 L1 xs ys a0 c0 a1 c1 f0 f1) (h0 : Lay z0 L0) (h1 : Lay z1 L1) (hb : Below w.heap.size w w') : Two w' B T0 z0 T1 z1 L0 L1 xs ys a0 c0 a1 c1 f0 f1 := h.same h0 h1 fun k _ hl => hb.block k hl
/-- One more in the first row. -/
theorem Two.app {y : α} {vs : List Value} {a' : Option Addr} {c' N : Nat} (h : Two w B T0 z0 T1 z1 L0 L1 xs ys a0 c0 a1 c1 f0 f1) (h0 : Lay z0 L0) (h1 : Lay z1 L1)
    (hN0 : ∀ k, (Value.slice a0 xs.length c0).ownBlock = some k → k < N) (hN1 : ∀ k, (Value.slice a1 ys.length c1).ownBlock = some k → k < N) (hBN : B ≤ N)
    (hy : L0 w (fun k => N ≤ k) y vs) (ho' : w'.ownsRow B T0 z0 (.slice a' (xs.length + 1) c') (xs.length + 1) (flat f0 xs.length ++ vs)) (hg : w.grownBy w' (Value.slice a0 xs.length c0).ownBlock)
    (hat : (Value.slice a' (xs.length + 1) c').ownBlock = (Value.slice a0 xs.length c0).ownBlock ∨ (Value.slice a' (xs.length + 1) c').ownBlock = some w.heap.size) :
    Two w' B T0 z0 T1 z1 L0 L1 (xs ++ [y]) ys a' c' a1 c1 (fun i => if i < xs.length then f0 i else vs) f1 := by
  have hl : (xs ++ [y]).length = xs.length + 1 := by simp
  have hlo0 := own_lowR h.own0
  have hlo1 := own_lowR h.own1
  have hne : ∀ k, k < w.heap.size → (Value.slice a0 xs.length c0).ownBlock ≠ some k → (Value.slice a' (xs.length + 1) c').ownBlock ≠ some k := fun k hk h2 e => by
    rcases hat with h3 | h3
    · exact h2 (h3 ▸ e)
    · rw [h3] at e; injection e with e; omega
  refine ⟨?_, own_heapR h.own1 fun b hb => hg.block b (hlo1 b hb).2 (fun e => h.apart b e.symm hb), fun i x hx => ?_, fun i x hx => ?_, fun k hk => ?_⟩
  · rw [hl, flat_succ]
    have e1 : flat (fun i => if i < xs.length then f0 i else vs) xs.length = flat f0 xs.length := flat_congr fun i hi => if_pos hi
    rw [e1]
    simpa using ho'
  · rw [hl]
    rcases Nat.lt_or_ge i xs.length with hi | hi
    · rw [List.getElem?_append_left hi] at hx
      simp only [if_pos hi]
      exact h0.move (h.kid0 i x hx) fun k hk hkl => ⟨⟨hk.1, hne k hkl hk.2.1, hk.2.2⟩, hg.block k hkl (fun e => hk.2.1 e.symm)⟩
    · have hi2 : i = xs.length := by have := (List.getElem?_eq_some_iff.1 hx).1; rw [hl] at this; omega
      subst hi2
      rw [List.getElem?_append_right (Nat.le_refl _), Nat.sub_self] at hx
      injection hx with hx
      subst hx
      simp only [if_neg (Nat.lt_irrefl _)]
      exact h0.move hy fun k hk hkl => ⟨⟨by omega, hne k hkl (fun e => by have := hN0 k e; omega), fun e => by have := hN1 k e; omega⟩, hg.block k hkl (fun e => by have := hN0 k e.symm; omega)⟩
  · rw [hl]
    exact h1.move (h.kid1 i x hx) fun k hk hkl => ⟨⟨hk.1, hne k hkl hk.2.1, hk.2.2⟩, hg.block k hkl (fun e => hk.2.1 e.symm)⟩
  · rw [hl] at hk
    intro e
    rcases hat with h3 | h3
    · exact h.apart k (h3 ▸ hk) e
    · rw [h3] at hk; injection hk with hk; have := (hlo1 k e).2; omega
theorem row_of {γ : Type} {z T n : Nat} {L : World → (Nat → Prop) → γ → List Value → Prop} {p q : Nat → Prop} {l : List γ} {a : Option Addr} {c : Nat} {f : Nat → List Value} (hL : Lay z L) (ho : w.ownsRow B T z (.slice a l.length c) l.length (flat f l.length)) (hk : ∀ i y, l[i]? = some y → L w p y (f i)) (hpq : ∀ k, p k → q k) (hB : ∀ k, B ≤ k → q k) : Row w q z (L w q) l (.slice a l.length c) := by
  obtain ⟨_, _, e, h1, h2⟩ := own_sliceX ho
  injection e with _ _ e
  subst e
  refine ⟨a, c, f, rfl, h1, h2, fun i y hy => hL.move (hk i y hy) fun g hg _ => ⟨hpq g hg, rfl⟩, fun h0 => ?_⟩
  have hz : ∀ i, i < l.length → (f i).length = z := fun i hi => hL.len (hk i l[i] (List.getElem?_eq_getElem hi))
  rcases ho.2 with ⟨_, hz⟩ | ⟨g, cap, cur, ev, hbb, hg, hc, hm, hsz, htake⟩
  · omega
  · injection ev with ea _ _
    subst ea
    refine ⟨g, 0, hB g hbb, rfl, fun i j u hi hu => ?_⟩
    have hj : j < z := by
      have := hz i hi
      have := (List.getElem?_eq_some_iff.1 hu).1
      omega
    have := ho.cells (g := g) rfl (i * z + j) u (by rw [flat_at f z l.length hz i j hi hj]; exact hu)
    rw [X.add_addr] at this
    rw [Nat.zero_add] at this ⊢
    exact this
end
end Go.Proofs.Ytfkndjifhmkojaa
/- Of source.Read: the closure that recovers. No condition. -/
namespace Go.Proofs.Ytfkndjifhmkojaa
open Go.RowKit
set_option linter.unusedVariables false
set_option linter.unusedSimpArgs false
set_option maxRecDepth 100000
theorem catch_idle (bp bf : Nat) (w : World) : CallsD Try.prog 18 #[.pointer (some ⟨bp, 0, none⟩), .pointer (some ⟨bf, 0, none⟩)] .returning w fun e u' w' => e = .returned (.tuple #[]) ∧ u' = .returning ∧ w' = w := by
  refine callsD_of_wpS Try.func18 rfl fun c₀ cs hu => ?_
  apply wpS_seq
  apply wpS_region
  simp [wpOpsS, go_sem, recoverD, hu, Try.ntmps18, Exit.thenS]
  refine wpS_of_wp ?_
  go_wp2
  cases c₀
  simp_all [bodyPostS, results, Try.results18]
/-- Two blocks, and new ones, changed. -/
structure Ct (bp bf : Nat) (w w' : World) : Prop where
  os : w'.os = w.os
  tape : w'.tape = w.tape
  output : w'.output = w.output
  size : w.heap.size ≤ w'.heap.size
  block : ∀ k, k < w.heap.size → k ≠ bp → k ≠ bf → w'.heap[k]? = w.heap[k]?
theorem Ct.keep {bp bf : Nat} {w w1 w2 : World} (h : Ct bp bf w w1) (hb : Below w1.heap.size w1 w2) : Ct bp bf w w2 :=
  ⟨hb.os.trans h.os, hb.tape.trans h.tape, hb.output.trans h.output, Nat.le_trans h.size hb.size, fun k hk h1 h2 => (hb.block k (Nat.lt_of_lt_of_le hk h.size)).trans (h.block k hk h1 h2)⟩
theorem Ct.refl (bp bf : Nat) (w : World) : Ct bp bf w w := ⟨rfl, rfl, rfl, Nat.le_refl _, fun _ _ _ _ => rfl⟩
theorem Ct.setP {bp bf : Nat} {w w1 : World} (h : Ct bp bf w w1) (k : Nat) (u : Value) : Ct bp bf w (w1.setCell ⟨bp, k, none⟩ u) :=
  ⟨h.os, h.tape, h.output, by simpa using h.size, fun i hi h1 h2 => (Below.heap_setCell w1 ⟨bp, k, none⟩ u i h1).trans (h.block i hi h1 h2)⟩
theorem Ct.setF {bp bf : Nat} {w w1 : World} (h : Ct bp bf w w1) (k : Nat) (u : Value) : Ct bp bf w (w1.setCell ⟨bf, k, none⟩ u) :=
  ⟨h.os, h.tape, h.output, by simpa using h.size, fun i hi h1 h2 => (Below.heap_setCell w1 ⟨bf, k, none⟩ u i h2).trans (h.block i hi h1 h2)⟩
set_option maxHeartbeats 4000000 in
theorem catch_yes (bp bf : Nat) (c a : Int) (v0 v1 f0 f1 : Value) (w : World) (hp : Blk w bp 26 #[v0, v1]) (hf : Blk w bf 29 #[f0, f1]) (hne : bp ≠ bf) :
    CallsD Try.prog 18 #[.pointer (some ⟨bp, 0, none⟩), .pointer (some ⟨bf, 0, none⟩)] (.panicking [{ v := .iface 61 (.agg #[.int .i64 c, .int .i64 a]), recovered := false }]) w fun e u' w' =>
      e = .returned (.tuple #[]) ∧ u' = .panicking [{ v := .iface 61 (.agg #[.int .i64 c, .int .i64 a]), recovered := true }] ∧ Ct bp bf w w' ∧ Blk w' bp 26 #[.slice none 0 0, .slice none 0 0] ∧ Blk w' bf 29 #[.int .i64 c, .int .i64 a] := by
  refine callsD_of_wpS Try.func18 rfl fun c₀ cs hu => ?_
  apply wpS_seq
  apply wpS_region
  simp [wpOpsS, go_sem, recoverD, hu, Try.ntmps18, Exit.thenS]
  refine wpS_of_wp ?_
  have hta : ∀ w, (Instr.typeAssert (.iface 61 (.agg #[.int .i64 c, .int .i64 a])) 20 61 true).run Try.prog w = .ok (.tuple #[.agg #[.int .i64 c, .int .i64 a], .bool true]) w := fun _ => by kernel_rfl
  have HP := Lib.hid hp
  have HF := Lib.hid hf
  have HN := Lib.hid hne
  have HU := Lib.hid hu
  clear hp hf hne hu
  refine (show Code.wp _ _ _ ⟨#[.pointer (some ⟨bp, 0, none⟩), .pointer (some ⟨bf, 0, none⟩), undef, undef, undef, .iface 61 (.agg #[.int .i64 c, .int .i64 a]), undef, undef, undef, undef, undef, undef, undef, undef], []⟩ _ from ?_)
  go_upto_region 7 with (fail)
  generalize hw3 : World.alloc w _ = w3
  obtain ⟨b3, hb3⟩ : ∃ b3, b3 = w.heap.size := ⟨_, rfl⟩
  rw [← hb3]
  have HB3 : Hid (Below w.heap.size w w3) := by show Below _ _ _; rw [← hw3]; exact Ext.alloc (Below.refl _ _) _
  have HY3 : Hid (Blk w3 b3 61 #[.int .i64 c, .int .i64 a]) := by show Blk _ _ _ _; rw [← hw3, hb3]; exact Blk.new _ _ _
  have HNB : Hid (b3 ≠ bp ∧ bp ≠ b3 ∧ b3 ≠ bf) := by have h1 := HP.out.lt; have h2 := HF.out.lt; exact ⟨by omega, by omega, by omega⟩
  have HP3 := Lib.hid (HP.out.keep HB3.out)
  have HF3 := Lib.hid (HF.out.keep HB3.out)
  clear hw3 hb3
  apply Iy.wp_region 4 [3] (fun _ => []) (Ix.Rb) (fun nn vs wi => Hid (Ct bp bf w3 wi ∧ Blk wi bp 26 (if nn = 0 then #[v0, v1] else #[.slice none 0 0, .slice none 0 0]) ∧ Blk wi bf 29 #[f0, f1] ∧ Blk wi b3 61 #[.int .i64 c, .int .i64 a])) (Iy.vp [(Iy.is (.agg #[.slice none 0 0, .slice none 0 0])), (Iy.is _), (Iy.is (.agg #[.int .i64 c, .int .i64 a])), (fun _ => True)]) (fun _ => false) (by kernel_rfl) (by kernel_rfl) (by kernel_rfl) (by kernel_rfl) (by kernel_rfl) (fun _ _ _ _ _ h => h) (fun _ => Below.refl _ _) (fun nn vs _ _ h hb => ⟨h.out.1.keep hb, h.out.2.1.keep hb, h.out.2.2.1.keep hb, h.out.2.2.2.keep hb⟩) (fun _ _ => Iy.vp_keeps _ _ _ _) (Ix.not_al _) (fun vs => ⟨(Ct.refl bp bf w3).keep (Ext.drew (Below.refl _ _)), HP3.out.keep (Ext.drew (Below.refl _ _)), HF3.out.keep (Ext.drew (Below.refl _ _)), HY3.out.keep (Ext.drew (Below.refl _ _))⟩)
  case step =>
    refine zys 3 0 1 [] (fun _ _ wi HB => ?_) <| zys 2 1 2 [] (fun _ _ wi HB => ?_) <| zys 1 2 3 [(1, some 12)] (fun _ _ wi HB => ?_) <| zyc 0 3 4 0 [(0, some 11)] (fun vsp wi HB => ?_) <| Iy.steps_nil
    iterate 2 (· ((repeat (refine zya ?_; rintro _ rfl)); refine zye ?_; (try simp only [zyp]); refine Iy.goI_yes rfl rfl fun K hK => ?_; (try simp only [zyp] at hK); go_wp2_with (first | fail); exact hK _ _ (Below.refl _ _) rfl))
    (· ((repeat (refine zya ?_; rintro _ rfl)); refine zye ?_; have e0 := HB.out.2.2.2.cell 0; have e1 := HB.out.2.2.2.cell 1; (try simp only [zyp]); refine Iy.goI_yes rfl rfl fun K hK => ?_; (try simp only [zyp] at hK); go_wp2_with (first | fail); exact hK _ _ (Below.refl _ _) rfl))
    (· (refine zya ?_; rintro _ ⟨rfl, ev0⟩; refine zye ?_; have e0 := HB.out.2.1.cell 0; have e1 := HB.out.2.1.cell 1; have g0 := HB.out.2.1.frozen 0; have g1 := HB.out.2.1.frozen 1; (try simp only [zyp]); refine Iy.goI_yes rfl rfl fun K hK => ?_; (try simp only [zyp] at hK); go_wp2_with (first | fail); exact hK undef _ ⟨⟨(HB.out.1.setP 0 _).setP 1 _, by simpa using (HB.out.2.1.set_ 0 (.slice none 0 0)).set_ 1 (.slice none 0 0), (HB.out.2.2.1.far (by exact fun e => HN.out e.symm) _).far (by exact fun e => HN.out e.symm) _, (HB.out.2.2.2.far (by exact HNB.out.1) _).far (by exact HNB.out.1) _⟩, fun _ _ h => h⟩ trivial))
  intro vsf wf HF hdf
  refine zyv 3 0 1 ?_; rintro _ _ rfl; refine zyv 2 1 2 ?_; rintro _ _ rfl; refine zyv 1 2 3 ?_; rintro _ _ rfl; refine zyv 0 3 4 ?_; rintro _ _ _
  refine Ix.allV_nil ?_
  have e0 := HF.out.2.2.1.cell 0; have e1 := HF.out.2.2.1.cell 1; have g0 := HF.out.2.2.1.frozen 0; have g1 := HF.out.2.2.1.frozen 1
  (try simp only [Act.put, List.setIfInBounds_toArray, List.set_cons_zero, List.set_cons_succ, List.drop_succ_cons, List.drop_zero])
  go_wp2_with (first | fail)
  all_goals (first | refine Ix.only ?_ | (refine Ix.onlyP fun tz => ?_))
  have HW : Hid (Ct bp bf w ((wf.setCell ⟨bf, 0, none⟩ (.int .i64 c)).setCell ⟨bf, 1, none⟩ (.int .i64 a)) ∧ Blk ((wf.setCell ⟨bf, 0, none⟩ (.int .i64 c)).setCell ⟨bf, 1, none⟩ (.int .i64 a)) bp 26 #[.slice none 0 0, .slice none 0 0] ∧ Blk ((wf.setCell ⟨bf, 0, none⟩ (.int .i64 c)).setCell ⟨bf, 1, none⟩ (.int .i64 a)) bf 29 #[.int .i64 c, .int .i64 a]) := by
    refine ⟨?_, (HF.out.2.1.far (by exact HN.out) _).far (by exact HN.out) _, by simpa using (HF.out.2.2.1.set_ 0 (.int .i64 c)).set_ 1 (.int .i64 a)⟩
    have h1 := (HF.out.1.setF 0 (.int .i64 c)).setF 1 (.int .i64 a)
    exact ⟨h1.os.trans HB3.out.os, h1.tape.trans HB3.out.tape, h1.output.trans HB3.out.output, Nat.le_trans HB3.out.size h1.size, fun k hk h2 h3 => (h1.block k (Nat.lt_of_lt_of_le hk HB3.out.size) h2 h3).trans (HB3.out.block k hk)⟩
  clear e0 e1 g0 g1
  go_wp2_with (fail)
  exact ⟨rfl, _, rfl, .tuple #[], by simp [results, Try.results18, go_sem], rfl, rfl, HW.out⟩
/-- Two results that lie in cells. -/
theorem results_two {P : Program} {fn : Func} {p q : Tmp} {ty tz : TypeId} (h : fn.results = #[.cell p ty, .cell q tz]) (tmps : Array Value) (w : World) (g g2 : Nat) (t t2 : TypeId) (cs cs2 : Array Value) (d d2 : TypeDesc)
    (hp : tmps.getD p undef = .pointer (some ⟨g, 0, none⟩)) (hq : tmps.getD q undef = .pointer (some ⟨g2, 0, none⟩)) (hg : Blk w g t cs) (hg2 : Blk w g2 t2 cs2)
    (hu : P.underlying ty = some d) (hd : (match d with | .struct _ | .array _ _ => true | _ => false) = true) (hi : (P.info? ty).map (·.size) = some cs.size)
    (hu2 : P.underlying tz = some d2) (hd2 : (match d2 with | .struct _ | .array _ _ => true | _ => false) = true) (hi2 : (P.info? tz).map (·.size) = some cs2.size) :
    (results fn tmps).run P w = .ok (.tuple #[.agg cs, .agg cs2]) w := by
  have hp' : tmps[p]?.getD undef = .pointer (some ⟨g, 0, none⟩) := by simpa using hp
  have hq' : tmps[q]?.getD undef = .pointer (some ⟨g2, 0, none⟩) := by simpa using hq
  simp [results, h, hp', hq', asAddr, run_loadVar_row w g t ty cs (0, 0) d hg hu hd hi, run_loadVar_row w g2 t2 tz cs2 (0, 0) d2 hg2 hu2 hd2 hi2, Sem.run_bind]
end Go.Proofs.Ytfkndjifhmkojaa

/- Of source.Read: what is kept. No condition. -/
namespace Go.Proofs.Ytfkndjifhmkojaa
open Go.RowKit
set_option linter.unusedVariables false
set_option linter.unusedSimpArgs false
set_option maxRecDepth 100000
namespace Tk
theorem step_err (a : Nat) (c : UInt8) (r : List UInt8) (e : Int) (h : step a c r = .err e) : e ≠ 0 := by
  unfold step at h
  split at h
  · cases h
  split at h
  · cases h
  split at h
  · cases h
  split at h
  · split at h
    · injection h with h; subst h; decide
    · split at h
      · rename_i h1; injection h with h; subst h; exact h1
      · cases h
  split at h
  · injection h with h; subst h; decide
  · cases h
theorem frm_err (L : List UInt8) : ∀ (n a : Nat) (z : Int × Nat), L.length - a ≤ n → frm L a = .error z → z.1 ≠ 0 := by
  intro n
  induction n with
  | zero => intro a z hn h; rw [frm_end L a (by omega)] at h; cases h
  | succ n ih =>
    intro a z hn h
    cases hd : L.drop a with
    | nil =>
      have hl : L.length ≤ a := by have := congrArg List.length hd; rw [List.length_drop] at this; simp at this; omega
      rw [frm_end L a hl] at h; cases h
    | cons c r =>
      have hl : a < L.length := by have := congrArg List.length hd; rw [List.length_drop] at this; simp at this; omega
      rw [frm_step _ _ c r hd] at h
      cases hs : step a c r with
      | skip k => rw [hs] at h; have := step_long a c r k (by rw [hs]; rfl); exact ih (a + k) z (by omega) h
      | tok t k =>
        rw [hs] at h
        have := step_long a c r k (by rw [hs]; rfl)
        have h : cons t (frm L (a + k)) = .error z := h
        cases hf : frm L (a + k) with
        | error e => rw [hf] at h; injection h with h; subst h; exact ih (a + k) e (by omega) hf
        | ok l => rw [hf] at h; cases h
      | err e => rw [hs] at h; injection h with h; subst h; exact step_err a c r e hs
end Tk
/-- What comes of reading a text. -/
def RdR (s : List UInt8) (w : World) (e : Ending) (w' : World) : Prop := Below w.heap.size w w' ∧ ∃ (v0 v1 : Value) (er a : Int), e = .returned (.tuple #[.agg #[v0, v1], .agg #[.int .i64 er, .int .i64 a]]) ∧ match Ps.read s with
  | .error z => er = z.1 ∧ a = (z.2 : Int) ∧ z.1 ≠ 0 ∧ v0 = .slice none 0 0 ∧ v1 = .slice none 0 0
  | .ok g => er = 0 ∧ a = 0 ∧ PgIn w' (fun k => w.heap.size ≤ k) g v0 v1 ∧ Pg.Wf g ∧ Pg.wrong g = 0
abbrev qrow (a0 : Option Addr) (n0 c0 : Nat) (a1 : Option Addr) (n1 c1 : Nat) : Array Value := #[.slice a0 n0 c0, .slice a1 n1 c1]
/-- What stands at the head of the loop over a program's parts. -/
structure RdL (w : World) (bp bf g fin N0 : Nat) (R : Except (Int × Nat) Pg) (wr : World) (m : Nat) (gs : List Gl) (fs : List Fn) (l : List Tk.Tok) (a0 : Option Addr) (c0 : Nat) (a1 : Option Addr) (c1 : Nat) : Prop where
  bel : Below w.heap.size w wr
  lbp : w.heap.size ≤ bp
  lpf : bp < bf
  lfg : bf < g
  hp : Blk wr bp 26 (qrow a0 gs.length c0 a1 fs.length c1)
  hf : Blk wr bf 29 #[.int .i64 0, .int .i64 0]
  two : ∃ f0 f1, Two wr (g + 1) 41 5 45 5 LG LF gs fs a0 c0 a1 c1 f0 f1
  pb : Pb wr g fin 0 l
  is : R = (Ps.at' fin m).prog ⟨gs, fs⟩ l
  fuel : 32 * l.length + 26 ≤ m
  few : gs.length + fs.length + l.length ≤ N0
  most : fs.length ≤ 100
theorem Pw.formF {w : World} {p : Nat → Prop} {f : Fn} {cs : List Value} (h : FnIn w p f cs) : ∃ v0 v1, cs = [.string f.nm, .int .i64 f.b, .bool f.s, v0, v1] := by obtain ⟨v0, v1, e, _⟩ := h; exact ⟨v0, v1, e⟩
theorem Pw.formG {w : World} {p : Nat → Prop} {f : Gl} {cs : List Value} (h : GlIn w p f cs) : ∃ v0, cs = [.int .i64 f.b, .bool f.s, .string f.nm, .int .i64 f.size, v0] := by obtain ⟨v0, e, _⟩ := h; exact ⟨v0, e⟩
theorem bcell_of {w : World} {tb : Nat} {t : TypeId} {cs : List Value} (h : Blk w tb t cs.toArray) : ∀ j u, cs[j]? = some u → w.cell? ⟨tb, j, none⟩ = some u := fun j u hu => by rw [h.cell]; simpa using hu
section
variable {w wr wx wx' W w5 w' : World} {bp bf g fin N0 m : Nat} {R : Except (Int × Nat) Pg} {gs : List Gl} {fs : List Fn} {l l2 : List Tk.Tok} {a0 a1 : Option Addr} {c0 c1 : Nat} {s : List UInt8}
/-- Where a call that the reader made has ended. -/
theorem RdL.belc (h : RdL w bp bf g fin N0 R wr m gs fs l a0 c0 a1 c1) (hc : Chg g wr W) : Below w.heap.size w W :=
  Below.chg h.bel (Nat.le_refl _) (by have := h.lbp; have := h.lpf; have := h.lfg; omega) hc
theorem RdL.hpc (h : RdL w bp bf g fin N0 R wr m gs fs l a0 c0 a1 c1) (hc : Chg g wr W) : Blk W bp 26 (qrow a0 gs.length c0 a1 fs.length c1) :=
  (hc.block bp h.hp.lt (fun e => by injection e with e; have := h.lpf; have := h.lfg; omega)).trans h.hp
theorem RdL.hfc (h : RdL w bp bf g fin N0 R wr m gs fs l a0 c0 a1 c1) (hc : Chg g wr W) : Blk W bf 29 #[.int .i64 0, .int .i64 0] :=
  (hc.block bf h.hf.lt (fun e => by injection e with e; have := h.lfg; omega)).trans h.hf
theorem RdR.err {z : Int × Nat} (hB : Below w.heap.size w W) (hct : Ct bp bf W w5) (hbp : w.heap.size ≤ bp) (hbf : w.heap.size ≤ bf) (hr : Ps.read s = .error z) (hz : z.1 ≠ 0) :
    RdR s w (.returned (.tuple #[.agg #[.slice none 0 0, .slice none 0 0], .agg #[.int .i64 z.1, .int .i64 (z.2 : Int)]])) w5 := by
  refine ⟨⟨hct.os.trans hB.os, hct.tape.trans hB.tape, hct.output.trans hB.output, Nat.le_trans hB.size hct.size, fun k hk => (hct.block k (Nat.lt_of_lt_of_le hk hB.size) (by omega) (by omega)).trans (hB.block k hk)⟩, _, _, _, _, rfl, ?_⟩
  rw [hr]
  exact ⟨rfl, rfl, hz, rfl, rfl⟩
/-- A function more. -/
theorem RdL.nextF {f : Fn} {ys : List Value} {f0 f1 : Nat → List Value} {a' : Option Addr} {c' : Nat} {M : Nat} (h : RdL w bp bf g fin N0 R wr M gs fs l a0 c0 a1 c1) (his : R = (Ps.at' fin m).prog ⟨gs, fs ++ [f]⟩ l2) (hlt : l2.length < l.length) (hm : 32 * l2.length + 26 ≤ m) (h100 : ¬ fs.length = 100)
    (hc : Chg g wr wx) (hp : Pb wx g fin 0 l2) (ht : Two wx (g + 1) 41 5 45 5 LG LF gs fs a0 c0 a1 c1 f0 f1) (hy : FnIn wx (fun k => wr.heap.size ≤ k) f ys)
    (ho' : w'.ownsRow (g + 1) 45 5 (.slice a' (fs.length + 1) c') (fs.length + 1) (flat f1 fs.length ++ ys)) (hgr : wx.grownBy w' (Value.slice a1 fs.length c1).ownBlock)
    (hat : (Value.slice a' (fs.length + 1) c').ownBlock = (Value.slice a1 fs.length c1).ownBlock ∨ (Value.slice a' (fs.length + 1) c').ownBlock = some wx.heap.size) :
    RdL w bp bf g fin N0 R (w'.setCell ⟨bp, 1, none⟩ (.slice a' (fs.length + 1) c')) m gs (fs ++ [f]) l2 a0 c0 a' c' ∧ tkL (w'.setCell ⟨bp, 1, none⟩ (.slice a' (fs.length + 1) c')) g = l2.length := by
  have hlb := h.lbp; have hpf := h.lpf; have hfg := h.lfg
  have hl9 : (fs ++ [f]).length = fs.length + 1 := by simp
  have hlo := own_lowR ht.own1
  obtain ⟨f0', f1', ht0⟩ := h.two
  have hlo0 := own_lowR ht0.own0
  have hlo1 := own_lowR ht0.own1
  have hgl := h.pb.lt
  have hfar : ∀ k, k ≠ bp → (w'.setCell ⟨bp, 1, none⟩ (.slice a' (fs.length + 1) c')).heap[k]? = w'.heap[k]? := fun k hk => Below.heap_setCell w' ⟨bp, 1, none⟩ _ k hk
  have hgo : ∀ k, k ≤ g → k < wx.heap.size → w'.heap[k]? = wx.heap[k]? := fun k hk hkl => hgr.block k hkl (fun e => by have := (hlo k e.symm).1; omega)
  have hB : Below w.heap.size w wx := h.belc hc
  have hps : Pb (w'.setCell ⟨bp, 1, none⟩ (.slice a' (fs.length + 1) c')) g fin 0 l2 := by
    obtain ⟨v, hb, htk⟩ := hp
    have hb' : ∀ k, k ≤ g → k ≠ bp → k < wx.heap.size → (w'.setCell ⟨bp, 1, none⟩ (.slice a' (fs.length + 1) c')).heap[k]? = wx.heap[k]? := fun k hk hn hl => (hfar k hn).trans (hgo k hk hl)
    refine ⟨v, (hb' g (Nat.le_refl _) (by omega) hb.lt).trans hb, htk.far fun k hk ht hl => hb' k (Nat.le_of_lt hk) (fun e => ?_) hl⟩
    obtain ⟨cs, hcs⟩ := ht
    have h1 := h.hpc hc
    rw [e, Blk, h1] at hcs
    injection hcs with hcs
    injection hcs with _ hcs
    exact absurd hcs (by decide)
  have htw := (ht.swap layG layF).app layF layG (N := wr.heap.size) (fun k hk => (hlo1 k hk).2) (fun k hk => (hlo0 k hk).2) hgl hy ho' hgr hat
  refine ⟨⟨⟨hgr.os.trans hB.os, hgr.tape.trans hB.tape, hgr.output.trans hB.output, by have := hB.size; have := hgr.size; simp; omega, fun k hk => (hfar k (by omega)).trans ((hgo k (by omega) (Nat.lt_of_lt_of_le hk hB.size)).trans (hB.block k hk))⟩, hlb, hpf, hfg, ?_, ?_, ⟨_, _, ((htw.swap layF layG).same layG layF fun k hk hl => hfar k (by omega))⟩, hps, his, hm, by rw [hl9]; have := h.few; omega, by rw [hl9]; have := h.most; omega⟩, hps.tkL⟩
  · have h1 := h.hpc hc
    have h2 : Blk w' bp 26 _ := (hgo bp (by omega) h1.lt).trans h1
    have h3 := h2.set_ 1 (.slice a' (fs.length + 1) c')
    rw [hl9]
    simpa using h3
  · have h1 := h.hfc hc
    exact (hfar bf (by omega)).trans ((hgo bf (by omega) h1.lt).trans h1)
/-- A variable more. -/
theorem RdL.nextG {f : Gl} {ys : List Value} {f0 f1 : Nat → List Value} {a' : Option Addr} {c' : Nat} {M : Nat} (h : RdL w bp bf g fin N0 R wr M gs fs l a0 c0 a1 c1) (his : R = (Ps.at' fin m).prog ⟨gs ++ [f], fs⟩ l2) (hlt : l2.length < l.length) (hm : 32 * l2.length + 26 ≤ m) 
    (hc : Chg g wr wx) (hp : Pb wx g fin 0 l2) (ht : Two wx (g + 1) 41 5 45 5 LG LF gs fs a0 c0 a1 c1 f0 f1) (hy : GlIn wx (fun k => wr.heap.size ≤ k) f ys)
    (ho' : w'.ownsRow (g + 1) 41 5 (.slice a' (gs.length + 1) c') (gs.length + 1) (flat f0 gs.length ++ ys)) (hgr : wx.grownBy w' (Value.slice a0 gs.length c0).ownBlock)
    (hat : (Value.slice a' (gs.length + 1) c').ownBlock = (Value.slice a0 gs.length c0).ownBlock ∨ (Value.slice a' (gs.length + 1) c').ownBlock = some wx.heap.size) :
    RdL w bp bf g fin N0 R (w'.setCell ⟨bp, 0, none⟩ (.slice a' (gs.length + 1) c')) m (gs ++ [f]) fs l2 a' c' a1 c1 ∧ tkL (w'.setCell ⟨bp, 0, none⟩ (.slice a' (gs.length + 1) c')) g = l2.length := by
  have hlb := h.lbp; have hpf := h.lpf; have hfg := h.lfg
  have hl9 : (gs ++ [f]).length = gs.length + 1 := by simp
  have hlo := own_lowR ht.own0
  obtain ⟨f0', f1', ht0⟩ := h.two
  have hlo0 := own_lowR ht0.own0
  have hlo1 := own_lowR ht0.own1
  have hgl := h.pb.lt
  have hfar : ∀ k, k ≠ bp → (w'.setCell ⟨bp, 0, none⟩ (.slice a' (gs.length + 1) c')).heap[k]? = w'.heap[k]? := fun k hk => Below.heap_setCell w' ⟨bp, 0, none⟩ _ k hk
  have hgo : ∀ k, k ≤ g → k < wx.heap.size → w'.heap[k]? = wx.heap[k]? := fun k hk hkl => hgr.block k hkl (fun e => by have := (hlo k e.symm).1; omega)
  have hB : Below w.heap.size w wx := h.belc hc
  have hps : Pb (w'.setCell ⟨bp, 0, none⟩ (.slice a' (gs.length + 1) c')) g fin 0 l2 := by
    obtain ⟨v, hb, htk⟩ := hp
    have hb' : ∀ k, k ≤ g → k ≠ bp → k < wx.heap.size → (w'.setCell ⟨bp, 0, none⟩ (.slice a' (gs.length + 1) c')).heap[k]? = wx.heap[k]? := fun k hk hn hl => (hfar k hn).trans (hgo k hk hl)
    refine ⟨v, (hb' g (Nat.le_refl _) (by omega) hb.lt).trans hb, htk.far fun k hk ht hl => hb' k (Nat.le_of_lt hk) (fun e => ?_) hl⟩
    obtain ⟨cs, hcs⟩ := ht
    have h1 := h.hpc hc
    rw [e, Blk, h1] at hcs
    injection hcs with hcs
    injection hcs with _ hcs
    exact absurd hcs (by decide)
  have htw := ht.app layG layF (N := wr.heap.size) (fun k hk => (hlo0 k hk).2) (fun k hk => (hlo1 k hk).2) hgl hy ho' hgr hat
  refine ⟨⟨⟨hgr.os.trans hB.os, hgr.tape.trans hB.tape, hgr.output.trans hB.output, by have := hB.size; have := hgr.size; simp; omega, fun k hk => (hfar k (by omega)).trans ((hgo k (by omega) (Nat.lt_of_lt_of_le hk hB.size)).trans (hB.block k hk))⟩, hlb, hpf, hfg, ?_, ?_, ⟨_, _, (htw.same layG layF fun k hk hl => hfar k (by omega))⟩, hps, his, hm, by rw [hl9]; have := h.few; omega, h.most⟩, hps.tkL⟩
  · have h1 := h.hpc hc
    have h2 : Blk w' bp 26 _ := (hgo bp (by omega) h1.lt).trans h1
    have h3 := h2.set_ 0 (.slice a' (gs.length + 1) c')
    rw [hl9]
    simpa using h3
  · have h1 := h.hfc hc
    exact (hfar bf (by omega)).trans ((hgo bf (by omega) h1.lt).trans h1)
end
end Go.Proofs.Ytfkndjifhmkojaa

/- Reading a program, plain: what is wrong has a number. No condition. -/
namespace Go.Proofs.Ytfkndjifhmkojaa
open Go.RowKit
set_option linter.unusedVariables false
set_option linter.unusedSimpArgs false
set_option maxRecDepth 100000
namespace Ps
def Nz {α : Type} (r : Res α) : Prop := ∀ z, r = .error z → z.1 ≠ 0
section
variable {fin : Nat} {α β : Type}
theorem Nz.ok {x : α × List Tok} : Nz (.ok x : Res α) := fun _ h => by cases h
theorem Nz.err {z : Int × Nat} (h : z.1 ≠ 0) : Nz (.error z : Res α) := fun _ e => by injection e with e; subst e; exact h
theorem Nz.seq {r : Res α} {f : α → List Tok → Res β} (h : Nz r) (hf : ∀ x l, Nz (f x l)) : Nz (Ps.seq r f) := fun z e => by
  cases r with
  | error y => injection e with e; subst e; exact h _ rfl
  | ok p => exact hf _ _ _ e
theorem Nz.ite {c : Prop} [Decidable c] {a b : Res α} (h1 : Nz a) (h2 : Nz b) : Nz (if c then a else b) := by split <;> assumption
theorem Nz.need (s : Bs) (l : List Tok) : Nz (Ps.need fin s l) := .ite .ok (.err (by show (2 : Int) ≠ 0; decide))
theorem Nz.name (l : List Tok) : Nz (Ps.name fin l) := by
  cases l with
  | nil => exact .err (by show (2 : Int) ≠ 0; decide)
  | cons t l => exact .ite (.err (by show (2 : Int) ≠ 0; decide)) (.ite (.err (by show (7 : Int) ≠ 0; decide)) .ok)
structure NzF (P : F) : Prop where
  expr : ∀ d l, Nz (P.expr d l)
  level : ∀ i d l, Nz (P.level i d l)
  tail : ∀ i d x l, Nz (P.tail i d x l)
  unary : ∀ d l, Nz (P.unary d l)
  args : ∀ d acc l, Nz (P.args d acc l)
  stat : ∀ d l, Nz (P.stat d l)
  block : ∀ d acc l, Nz (P.block d acc l)
  params : ∀ acc l, Nz (P.params acc l)
  inits : ∀ z acc l, Nz (P.inits z acc l)
  prog : ∀ g l z, P.prog g l = .error z → z.1 ≠ 0
variable {P : F}
abbrev nz {n : Int} (h : n ≠ 0) : n ≠ 0 := h
theorem nz_id (H : NzF P) (d : Nat) (l : List Tok) : Nz (idS P fin d l) :=
  .seq (.name l) fun s l => .ite (.seq (H.expr _ _) fun x l => .seq (.need _ _) fun _ l => .ok) (.ite (.seq (H.args _ _ _) fun x l => .ok) .ok)
theorem nz_prim (H : NzF P) (d : Nat) (l : List Tok) : Nz (primS P fin d l) := by
  unfold primS
  refine .ite (.seq (H.expr _ _) fun x l => .seq (.need _ _) fun _ l => .ok) ?_
  cases l with
  | nil => exact nz_id H d []
  | cons t l => exact .ite .ok (nz_id H d (t :: l))
theorem nz_unary (H : NzF P) (d : Nat) (l : List Tok) : Nz (unaryS P fin d l) := by
  cases l with
  | nil => exact nz_prim H d []
  | cons t l =>
    rw [unaryS]
    refine .ite (.ite (.err (by show (4 : Int) ≠ 0; decide)) (.seq (H.unary _ _) fun x l => .ok)) ?_
    cases casts (t :: l) with
    | none => exact nz_prim H d (t :: l)
    | some ty => exact .ite (.err (by show (4 : Int) ≠ 0; decide)) (.seq (.need _ _) fun _ l => .seq (H.unary _ _) fun x l => .ok)
theorem nz_first (acc : List α) (s : Bs) (l : List Tok) : Nz (if acc = [] then (.ok ((), l) : Res Unit) else Ps.need fin s l) := .ite .ok (.need _ _)
theorem nz_set (H : NzF P) (d : Nat) (l : List Tok) : Nz (setS P fin d l) :=
  .seq (H.expr _ _) fun x l1 => .ite (.ite (.seq (H.expr _ _) fun y l => .ok) (.err (by show (8 : Int) ≠ 0; decide))) .ok
theorem nz_sets (H : NzF P) (s : Bs) (d : Nat) (l : List Tok) : Nz (setsS P fin s d l) := .ite .ok (.seq (nz_set H _ _) fun x l => .ok)
theorem nz_body (H : NzF P) (d : Nat) (l : List Tok) : Nz (bodyS P d l) := .seq (H.stat _ _) fun x l => .ok
theorem nz_cond (H : NzF P) (d : Nat) (l : List Tok) : Nz (condS P fin d l) := .seq (.need _ _) fun _ l => .seq (H.expr _ _) fun x l => .seq (.need _ _) fun _ l => .ok
theorem nz_may (H : NzF P) (s : Bs) (d : Nat) (l : List Tok) : Nz (mayS P s d l) := .ite .ok (.seq (H.expr _ _) fun x l => .ok)
theorem nz_end (x : S) (l : List Tok) : Nz (endS fin x l) := .seq (.need _ _) fun _ l => .ok
theorem nz_decl (H : NzF P) (b : Int) (s : Bool) (d : Nat) (l : List Tok) : Nz (declS P fin b s d l) := .seq (.name l) fun n l => .ite (.seq (H.expr _ _) fun x l => nz_end _ _) (nz_end _ _)
theorem nz_if (H : NzF P) (d : Nat) (l : List Tok) : Nz (ifS P fin d l) := .seq (nz_cond H _ _) fun x l => .seq (nz_body H _ _) fun b l => .ite (.seq (nz_body H _ _) fun x l => .ok) .ok
theorem nz_while (H : NzF P) (d : Nat) (l : List Tok) : Nz (whileS P fin d l) := .seq (nz_cond H _ _) fun x l => .seq (nz_body H _ _) fun b l => .ok
theorem nz_for (H : NzF P) (d : Nat) (l : List Tok) : Nz (forS P fin d l) :=
  .seq (.need _ _) fun _ l => .seq (nz_sets H _ _ _) fun i l => .seq (.need _ _) fun _ l => .seq (nz_may H _ _ _) fun x l => .seq (.need _ _) fun _ l => .seq (nz_sets H _ _ _) fun st l => .seq (.need _ _) fun _ l => .seq (nz_body H _ _) fun b l => .ok
theorem nz_ret (H : NzF P) (d : Nat) (l : List Tok) : Nz (retS P fin d l) := .seq (nz_may H _ _ _) fun x l => nz_end _ _
theorem nz_inner (H : NzF P) (d : Nat) (l : List Tok) : Nz (innerS P fin d l) := by
  unfold innerS
  refine .ite .ok (.ite (.seq (H.block _ _ _) fun x l => .ok) (.ite (nz_if H _ _) (.ite (nz_while H _ _) (.ite (nz_for H _ _) (.ite (nz_ret H _ _) (.ite (nz_end _ _) (.ite (nz_end _ _) ?_)))))))
  cases typed l with
  | none => exact .seq (nz_set H _ _) fun x l => nz_end _ _
  | some t => exact nz_decl H _ _ _ _
theorem nz_fn (H : NzF P) (b : Int) (s : Bool) (n : Bs) (l : List Tok) : Nz (fnS P fin b s n l) := .seq (H.params _ _) fun ps l => .seq (.need _ _) fun _ l => .seq (H.block _ _ _) fun bd l => .ok
theorem nz_size (l : List Tok) : Nz (sizeS fin l) := by
  unfold sizeS
  refine .ite ?_ .ok
  cases l.tail with
  | nil => exact .err (by show (2 : Int) ≠ 0; decide)
  | cons t l => exact .ite (.err (by show (2 : Int) ≠ 0; decide)) (.ite (.err (by show (3 : Int) ≠ 0; decide)) (.seq (.need _ _) fun _ l => .ok))
theorem nz_gl (H : NzF P) (b : Int) (s : Bool) (n : Bs) (l : List Tok) : Nz (glS P fin b s n l) :=
  .seq (nz_size l) fun z l => .ite (.ite (.seq (H.expr _ _) fun x l => .seq (.need _ _) fun _ l => .ok) (.seq (.need _ _) fun _ l => .seq (H.inits _ _ _) fun xs l => .seq (.need _ _) fun _ l => .ok)) (.seq (.need _ _) fun _ l => .ok)
theorem nz_prog (H : NzF P) (g : Pg) (l : List Tok) (z : Int × Nat) (h : progS P fin g l = .error z) : z.1 ≠ 0 := by
  unfold progS at h
  split at h
  · cases h
  cases hh : headS l with
  | none => rw [hh] at h; injection h with h; subst h; show (2 : Int) ≠ 0; decide
  | some hd =>
    rw [hh] at h
    simp only at h
    cases hn : name fin l.tail with
    | error e => rw [hn] at h; injection h with h; subst h; exact Nz.name _ _ hn
    | ok p =>
      obtain ⟨n, l1⟩ := p
      rw [hn] at h
      simp only at h
      split at h
      · split at h
        · injection h with h; subst h; show (5 : Int) ≠ 0; decide
        cases hf : fnS P fin (hd.getD (0, false)).1 (hd.getD (0, false)).2 n l1.tail with
        | error e => rw [hf] at h; injection h with h; subst h; exact nz_fn H _ _ _ _ _ hf
        | ok q => rw [hf] at h; exact H.prog _ _ _ h
      · cases hd with
        | none => injection h with h; subst h; show (2 : Int) ≠ 0; decide
        | some t =>
          simp only at h
          cases hf : glS P fin t.1 t.2 n l1 with
          | error e => rw [hf] at h; injection h with h; subst h; exact nz_gl H _ _ _ _ _ hf
          | ok q => rw [hf] at h; exact H.prog _ _ _ h
theorem nz_at (fin : Nat) : ∀ n, NzF (at' fin n)
  | 0 => by
    have h : ∀ {α : Type}, Nz (.error (1, 0) : Res α) := .err (by show (1 : Int) ≠ 0; decide)
    exact ⟨fun _ _ => h, fun _ _ _ => h, fun _ _ _ _ => h, fun _ _ => h, fun _ _ _ => h, fun _ _ => h, fun _ _ _ => h, fun _ _ => h, fun _ _ _ => h, fun _ _ z e => by injection e with e; subst e; show (1 : Int) ≠ 0; decide⟩
  | n + 1 => by
    have H := nz_at fin n
    refine ⟨fun d l => .ite (.err (by show (4 : Int) ≠ 0; decide)) (H.level _ _ _), fun i d l => .ite (H.unary _ _) (.seq (H.level _ _ _) fun x l => H.tail _ _ _ _), fun i d x l => ?_, nz_unary H, fun d acc l => .ite .ok (.seq (nz_first _ _ _) fun _ l => .ite (.err (by show (5 : Int) ≠ 0; decide)) (.seq (H.expr _ _) fun x l => H.args _ _ _)), fun d l => .ite (.err (by show (4 : Int) ≠ 0; decide)) (nz_inner H _ _), fun d acc l => .ite .ok (.ite (.err (by show (2 : Int) ≠ 0; decide)) (.seq (H.stat _ _) fun x l => H.block _ _ _)), fun acc l => .ite .ok (.seq (nz_first _ _ _) fun _ l => .ite (.err (by show (5 : Int) ≠ 0; decide)) ?_), fun z acc l => .ite .ok (.seq (nz_first _ _ _) fun _ l => .ite (.err (by show (5 : Int) ≠ 0; decide)) (.seq (H.expr _ _) fun x l => H.inits _ _ _)), nz_prog H⟩
    · cases l with
      | nil => exact .ok
      | cons t l => exact .ite (.seq (H.level _ _ _) fun y l => H.tail _ _ _ _) .ok
    · cases typed l with
      | none => exact .err (by show (2 : Int) ≠ 0; decide)
      | some t => exact .seq (.name _) fun n l => H.params _ _
end
end Ps
end Go.Proofs.Ytfkndjifhmkojaa

/- Walk of source.Read where a text has no tokens. No condition. -/
namespace Go.Proofs.Ytfkndjifhmkojaa
open Go.RowKit
set_option linter.unusedVariables false
set_option linter.unusedSimpArgs false
set_option maxRecDepth 100000
theorem two_new (w w0 : World) (h : w0 = (w.alloc (.cells #[.slice none 0 0, .slice none 0 0] 26)).alloc (.cells #[.int .i64 0, .int .i64 0] 29)) :
    Below w.heap.size w w0 ∧ Blk w0 w.heap.size 26 #[.slice none 0 0, .slice none 0 0] ∧ Blk w0 (w.heap.size + 1) 29 #[.int .i64 0, .int .i64 0] := by
  subst h
  exact ⟨Ext.alloc (Ext.alloc (Below.refl _ _) _) _, (Blk.new w _ _).alloc _, Blk.newn _ _ (by simp)⟩
set_option maxHeartbeats 8000000 in
theorem read_err (s : ByteArray) (w : World) (er : Int) (a : Nat) (ht : ∀ w1 : World, Calls Try.prog 17 #[.string s] w1 fun e w' => e = .returned (.tuple #[.slice none 0 0, .agg #[.int .i64 er, .int .i64 (a : Int)]]) ∧ Below w1.heap.size w1 w') (h0 : er ≠ 0) (hr : Ps.read s.data.toList = .error (er, a)) :
    Calls Try.prog 7 #[.string s] w (RdR s.data.toList w) := by
  obtain ⟨w0, hw0⟩ : ∃ w0, w0 = (w.alloc (.cells #[.slice none 0 0, .slice none 0 0] 26)).alloc (.cells #[.int .i64 0, .int .i64 0] 29) := ⟨_, rfl⟩
  have HN := Lib.hid (two_new w w0 hw0)
  obtain ⟨bp, hbp⟩ : ∃ bp, bp = w.heap.size := ⟨_, rfl⟩
  obtain ⟨bf, hbf⟩ : ∃ bf, bf = w.heap.size + 1 := ⟨_, rfl⟩
  rw [← hbf, ← hbp] at HN
  have HW0 := Lib.hid hw0
  have HBP := Lib.hid hbp
  have HBF := Lib.hid hbf
  have HT := Lib.hid (ht w0)
  have HR := Lib.hid hr
  have HZ := Lib.hid h0
  have q1 : (er != 0) = true := by simpa using h0
  have HNE : Hid (bp ≠ bf ∧ bf ≠ bp ∧ w.heap.size ≤ bp ∧ w.heap.size ≤ bf) := ⟨by omega, by omega, by omega, by omega⟩
  clear ht hr hw0 hbp hbf h0
  go_enter_defers Try.func7, Try.ntmps7
  go_upto_region 1 with (fail)
  rw [← HW0.out, ← HBF.out, ← HBP.out]
  go_upto_region 3 with (first | (go_at_call 17; refine (HT.out).mono ?_; rintro e w1 ⟨rfl, hb1⟩; have HB1 := Lib.hid hb1; have hf1 := HN.out.2.2.keep hb1; have e0 := hf1.cell 0; have e1 := hf1.cell 1; have f0 := hf1.frozen 0; have f1 := hf1.frozen 1; clear hb1 hf1))
  generalize hw2 : World.setCell (World.setCell w1 _ _) _ _ = w2
  have HS2 : Hid (Ct bp bf w0 w2 ∧ Blk w2 bp 26 #[.slice none 0 0, .slice none 0 0] ∧ Blk w2 bf 29 #[.int .i64 er, .int .i64 (a : Int)]) := by
    show _ ∧ _ ∧ _
    rw [← hw2]
    exact ⟨(((Ct.refl bp bf w0).keep HB1.out).setF 0 _).setF 1 _, ((HN.out.2.1.keep HB1.out).far (by exact HNE.out.1) _).far (by exact HNE.out.1) _, by simpa using ((HN.out.2.2.keep HB1.out).set_ 0 (.int .i64 er)).set_ 1 (.int .i64 (a : Int))⟩
  clear hw2 e0 e1 f0 f1
  apply Iy.wp_region 3 [2] (fun _ => []) (Ix.Rb) (fun nn vs wi => Hid (Ct bp bf w0 wi ∧ Blk wi bp 26 #[.slice none 0 0, .slice none 0 0] ∧ Blk wi bf 29 #[.int .i64 er, .int .i64 (a : Int)])) (Iy.vp [(Iy.is (.agg #[.slice none 0 0, .slice none 0 0])), (Iy.is (.agg #[.int .i64 er, .int .i64 (a : Int)])), (fun _ => True)]) (fun _ => false) (by kernel_rfl) (by kernel_rfl) (by kernel_rfl) (by kernel_rfl) (by kernel_rfl) (fun _ _ _ _ _ h => h) (fun _ => Below.refl _ _) (fun nn vs _ _ h hb => ⟨h.out.1.keep hb, h.out.2.1.keep hb, h.out.2.2.keep hb⟩) (fun _ _ => Iy.vp_keeps _ _ _ _) (Ix.not_al _) (fun vs => ⟨HS2.out.1.keep (Ext.drew (Below.refl _ _)), HS2.out.2.1.keep (Ext.drew (Below.refl _ _)), HS2.out.2.2.keep (Ext.drew (Below.refl _ _))⟩)
  case step =>
    refine zys 2 0 1 [] (fun _ _ wi HB => ?_) <| zys 1 1 2 [] (fun _ _ wi HB => ?_) <| zyc 0 2 3 0 [(0, some 19)] (fun vsp wi HB => ?_) <| Iy.steps_nil
    iterate 2 (· (have e0 := HB.out.2.1.cell 0; have e1 := HB.out.2.1.cell 1; have g0 := HB.out.2.2.cell 0; have g1 := HB.out.2.2.cell 1; have f0 := HB.out.2.1.frozen 0; have f1 := HB.out.2.1.frozen 1; (repeat (refine zya ?_; rintro _ rfl)); refine zye ?_; (try simp only [zyp]); refine Iy.goI_yes rfl rfl fun K hK => ?_; (try simp only [zyp] at hK); go_wp2_with (first | fail); exact hK _ _ (Below.refl _ _) rfl))
    (· (have e0 := HB.out.2.1.cell 0; have e1 := HB.out.2.1.cell 1; have f0 := HB.out.2.1.frozen 0; have f1 := HB.out.2.1.frozen 1; refine zya ?_; rintro _ ⟨rfl, ev0⟩; refine zye ?_; (try simp only [zyp]); refine Iy.goI_yes rfl rfl fun K hK => ?_; (try simp only [zyp] at hK); go_wp2_with (first | fail); exact hK undef _ ⟨⟨(HB.out.1.setP 0 _).setP 1 _, by simpa using (HB.out.2.1.set_ 0 (.slice none 0 0)).set_ 1 (.slice none 0 0), (HB.out.2.2.far (by exact HNE.out.2.1) _).far (by exact HNE.out.2.1) _⟩, fun _ _ h => h⟩ trivial))
  intro vsf wf HF hdf
  refine zyv 2 0 1 ?_; rintro _ _ rfl; refine zyv 1 1 2 ?_; rintro _ _ rfl; refine zyv 0 2 3 ?_; rintro _ _ _
  refine Ix.allV_nil ?_
  have g0 := HF.out.2.2.cell 0; have g1 := HF.out.2.2.cell 1; have f0 := HF.out.2.2.frozen 0; have f1 := HF.out.2.2.frozen 1
  (try simp only [Act.put, List.setIfInBounds_toArray, List.set_cons_zero, List.set_cons_succ, List.drop_succ_cons, List.drop_zero])
  go_wp2_with (first | fail)
  all_goals (first | refine Ix.only ?_ | (refine Ix.onlyP fun tz => ?_))
  generalize hw4 : World.setCell (World.setCell wf _ _) _ _ = w4
  have HS4 : Hid (Ct bp bf w0 w4 ∧ Blk w4 bp 26 #[.slice none 0 0, .slice none 0 0] ∧ Blk w4 bf 29 #[.int .i64 er, .int .i64 (a : Int)]) := by
    show _ ∧ _ ∧ _
    rw [← hw4]
    exact ⟨(HF.out.1.setF 0 _).setF 1 _, (HF.out.2.1.far (by exact HNE.out.1) _).far (by exact HNE.out.1) _, by simpa using (HF.out.2.2.set_ 0 (.int .i64 er)).set_ 1 (.int .i64 (a : Int))⟩
  clear hw4 g0 g1 f0 f1
  go_wp2_with (fail)
  exact ⟨_, results_two rfl _ _ bp bf 26 29 _ _ _ _ rfl rfl HS4.out.2.1 HS4.out.2.2 Try.underlying26 rfl (by kernel_rfl) Try.underlying29 rfl (by kernel_rfl), RdR.err (z := (er, a)) (by rw [← HBP.out]; exact HN.out.1) HS4.out.1 HNE.out.2.2.1 HNE.out.2.2.2 HR.out HZ.out⟩
end Go.Proofs.Ytfkndjifhmkojaa
