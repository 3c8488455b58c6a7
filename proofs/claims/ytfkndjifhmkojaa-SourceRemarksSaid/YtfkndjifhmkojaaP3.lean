/- The reader's memory: tokens that are left; walks of parser's small parts. No condition. -/
import Derived.Test.YtfkndjifhmkojaaPA
import Derived.Test.YtfkndjifhmkojaaYB
import Derived.Test.YtfkndjifhmkojaaKB
import Derived.Laws.Tables
import Derived.LoopTactic
import Derived.Deep.Cut
import Derived.WalkLawsBesides
namespace Go.Proofs.Ytfkndjifhmkojaa
open Go.RowKit
set_option linter.unusedVariables false
set_option linter.unusedSimpArgs false
set_option maxRecDepth 100000
def TokAt (t : Tk.Tok) (cs : List Value) : Prop := cs = [.int .i64 t.kind, .string ⟨t.text.toArray⟩, .int .u64 t.n, .int .i64 t.bits, .bool t.sg, .int .i64 (t.pos : Int)]
/-- Tokens as a text has them. -/
structure TokOk (t : Tk.Tok) : Prop where
  len : t.text.length ≤ 65536
  n : W.U t.n
  b : W.I t.bits
/-- A block of tokens. -/
def IsTok (w : World) (k : Nat) : Prop := ∃ cs, Blk w k 92 cs
def Tks (w : World) (g : Nat) (l : List Tk.Tok) (v : Value) : Prop := Row w (fun t => t < g ∧ IsTok w t) 6 TokAt l v ∧ ∀ t ∈ l, TokOk t
abbrev ParB (w : World) (g : Nat) (v : Value) (fin d : Nat) : Prop := Blk w g 64 #[v, .int .i64 (fin : Int), .int .i64 (d : Int)]
section
variable {w w' : World} {g : Nat} {l : List Tk.Tok} {v : Value} {t : Tk.Tok}
theorem Tks.far (h : Tks w g l v) (hs : ∀ k, k < g → IsTok w k → k < w.heap.size → w'.heap[k]? = w.heap[k]?) : Tks w' g l v := ⟨h.1.move (fun _ _ _ h => h) (fun x _ cs h => by rw [h]; simp) (fun k hk hl => ⟨⟨hk.1, by obtain ⟨cs, hb⟩ := hk.2; exact ⟨cs, (hs k hk.1 hk.2 hl).trans hb⟩⟩, hs k hk.1 hk.2 hl⟩), h.2⟩
theorem Tks.same (h : Tks w g l v) (hs : ∀ k, k < g → k < w.heap.size → w'.heap[k]? = w.heap[k]?) : Tks w' g l v := h.far fun k hk _ hl => hs k hk hl
theorem Tks.chg (h : Tks w g l v) (hc : Chg g w w') : Tks w' g l v := h.same fun k hk hl => hc.block k hl (fun e => by injection e with e; omega)
theorem Tks.ok (h : Tks w g (t :: l) v) : TokOk t := h.2 t (List.mem_cons_self ..)
theorem Tks.sl (h : Tks w g l v) : ∃ a c, v = .slice a l.length c ∧ l.length ≤ c ∧ c ≤ maxLen := by
  obtain ⟨a, c, e, h1, h2, _⟩ := h.1.parts; exact ⟨a, c, e, h1, h2⟩
theorem Tks.hd (h : Tks w g (t :: l) v) : ∃ q off c, q ≠ g ∧ v = .slice (some ⟨q, off, none⟩) (l.length + 1) c ∧ l.length + 1 ≤ c ∧ c ≤ maxLen ∧ w.cell? ⟨q, off, none⟩ = some (.int .i64 t.kind) ∧ w.cell? ⟨q, off + 1, none⟩ = some (.string ⟨t.text.toArray⟩) ∧
    w.cell? ⟨q, off + 2, none⟩ = some (.int .u64 t.n) ∧ w.cell? ⟨q, off + 3, none⟩ = some (.int .i64 t.bits) ∧ w.cell? ⟨q, off + 4, none⟩ = some (.bool t.sg) ∧ w.cell? ⟨q, off + 5, none⟩ = some (.int .i64 (t.pos : Int)) := by
  obtain ⟨a, c, e, h1, h2, h3⟩ := h.1.parts
  obtain ⟨q, off, cs, hp, ea, hx, hc⟩ := h3 0 t rfl
  unfold TokAt at hx
  subst hx ea
  simp only [Nat.zero_mul, Nat.add_zero] at hc
  exact ⟨q, off, c, Nat.ne_of_lt hp.1, e, h1, h2, hc 0 _ rfl, hc 1 _ rfl, hc 2 _ rfl, hc 3 _ rfl, hc 4 _ rfl, hc 5 _ rfl⟩
theorem Tks.tl {q off c : Nat} (h : Tks w g (t :: l) (.slice (some ⟨q, off, none⟩) (l.length + 1) c)) : Tks w g l (.slice (if c = 1 then some ⟨q, off, none⟩ else some ⟨q, off + 6, none⟩) l.length (c - 1)) := by
  have hok : ∀ t ∈ l, TokOk t := fun u hu => h.2 u (List.mem_cons_of_mem _ hu)
  obtain ⟨a, c2, cs, e, hc, hm, hk, ha⟩ := h.1
  refine ⟨?_, hok⟩
  injection e with e1 e2 e3
  subst e3
  obtain ⟨b, o2, hp, ea, hcell⟩ := ha (by simp)
  rw [ea] at e1
  injection e1 with e1
  injection e1 with e4 e5
  subst e4 e5
  have hc' : l.length + 1 ≤ c := hc
  refine ⟨_, c - 1, fun i => cs (i + 1), rfl, by omega, by omega, fun i x hx => hk (i + 1) x hx, fun h0 => ⟨q, off + 6, hp, ?_, fun i j u hi hu => ?_⟩⟩
  · rw [if_neg (by omega)]
  · have := hcell (i + 1) j u (by simp; omega) hu
    rw [← this]; congr 2; omega
end
/-- The reader, so many tokens left. -/
def Pb (w : World) (g fin d : Nat) (l : List Tk.Tok) : Prop := ∃ v, ParB w g v fin d ∧ Tks w g l v
theorem Pb.keep {w w' : World} {g fin d : Nat} {l : List Tk.Tok} (h : Pb w g fin d l) (hb : Below w.heap.size w w') : Pb w' g fin d l := by
  obtain ⟨v, h1, h2⟩ := h
  exact ⟨v, h1.keep hb, h2.chg (Chg.of_below hb)⟩
set_option maxHeartbeats 4000000 in
theorem psees_ok (w : World) (g fin d : Nat) (l : List Tk.Tok) (s : List UInt8) (h : Pb w g fin d l) : Calls Try.prog 43 #[P g, .string ⟨s.toArray⟩] w fun e w' => e = .returned (.bool (Ps.sees s l)) ∧ w = w' := by
  obtain ⟨v, hb, ht⟩ := h
  have p0 := hb.cell 0
  cases l with
  | nil =>
    obtain ⟨a, c, rfl, _, _⟩ := ht.sl
    clear hb ht
    go_enter Try.func43, Try.ntmps43
    go_wp2
    go_ret
    exact ⟨rfl, rfl⟩
  | cons t l =>
    obtain ⟨q, off, c, hq, rfl, hlc, hcm, c0, c1, c2, c3, c4, c5⟩ := ht.hd
    clear hb ht
    by_cases hk : t.kind = 2
    · have e : Ps.sees s (t :: l) = false := by unfold Ps.sees; simp [hk]
      rw [e]
      have qk : (t.kind != 2) = false := by simp [hk]
      clear hk e
      go_enter Try.func43, Try.ntmps43
      go_wp2
      go_ret
      exact ⟨rfl, rfl⟩
    · have qk : (t.kind != 2) = true := by simpa using hk
      obtain ⟨z, hz⟩ : ∃ z, (t.text == s) = z := ⟨_, rfl⟩
      have e : Ps.sees s (t :: l) = z := by show (t.kind != 2 && t.text == s) = z; rw [qk, ← hz]; rfl
      rw [e]
      clear hk e
      go_enter Try.func43, Try.ntmps43
      go_wp2
      go_ret
      exact ⟨rfl, rfl⟩
set_option maxHeartbeats 4000000 in
theorem pat_ok (w : World) (g fin d : Nat) (l : List Tk.Tok) (h : Pb w g fin d l) : Calls Try.prog 19 #[P g] w fun e w' => e = .returned (.int .i64 (Ps.pos fin l : Int)) ∧ w = w' := by
  obtain ⟨v, hb, ht⟩ := h
  have p0 := hb.cell 0
  have p1 := hb.cell 1
  cases l with
  | nil =>
    obtain ⟨a, c, rfl, _, _⟩ := ht.sl
    clear hb ht
    go_enter Try.func19, Try.ntmps19
    go_wp2
    go_ret
    exact ⟨rfl, rfl⟩
  | cons t l =>
    obtain ⟨q, off, c, hq, rfl, hlc, hcm, c0, c1, c2, c3, c4, c5⟩ := ht.hd
    have q0 : ((l.length : Int) + 1 == 0) = false := by simp; omega
    clear hb ht
    go_enter Try.func19, Try.ntmps19
    go_wp2
    go_ret
    exact ⟨rfl, rfl⟩
/-- The text cannot go on. -/
abbrev Oops (c : Int) (a : Nat) : Ending := .panicked [{ v := .iface 61 (.agg #[.int .i64 c, .int .i64 (a : Int)]), recovered := false }]
theorem pfail_ok (w : World) (g : Nat) (c a : Int) : Calls Try.prog 22 #[P g, .int .i64 c, .int .i64 a] w fun e w' => e = .panicked [{ v := .iface 61 (.agg #[.int .i64 c, .int .i64 a]), recovered := false }] ∧ w = w' := by
  go_enter Try.func22, Try.ntmps22
  go_wp2
  exact ⟨rfl, rfl, rfl⟩
set_option maxHeartbeats 4000000 in
theorem pis_no (w : World) (g fin d : Nat) (l : List Tk.Tok) (s : List UInt8) (h : Pb w g fin d l) (hs : Ps.sees s l = false) : Calls Try.prog 21 #[P g, .string ⟨s.toArray⟩] w fun e w' => e = .returned (.bool false) ∧ w = w' := by
  have HS := Lib.hid (psees_ok w g fin d l s h)
  rw [hs] at HS
  clear h hs
  go_enter Try.func21, Try.ntmps21
  go_wp2_with (first | (go_at_call 43; refine HS.out.mono ?_; rintro e w' ⟨rfl, rfl⟩))
  go_ret
  exact ⟨rfl, rfl⟩
/-- One token less. -/
theorem Pb.tl {w : World} {g fin d q off c : Nat} {t : Tk.Tok} {l : List Tk.Tok} (hb : ParB w g (.slice (some ⟨q, off, none⟩) (l.length + 1) c) fin d) (ht : Tks w g (t :: l) (.slice (some ⟨q, off, none⟩) (l.length + 1) c)) (a : Option Addr) (ha : a = if c = 1 then some ⟨q, off, none⟩ else some ⟨q, off + 6, none⟩) :
    Chg g w (w.setCell ⟨g, 0, none⟩ (.slice a l.length (c - 1))) ∧ Pb (w.setCell ⟨g, 0, none⟩ (.slice a l.length (c - 1))) g fin d l := by
  have hc : Chg g w (w.setCell ⟨g, 0, none⟩ (.slice a l.length (c - 1))) := (Chg.of_below (Below.refl _ _)).setCell 0 _
  refine ⟨hc, .slice a l.length (c - 1), ?_, ?_⟩
  · have := hb.set_ 0 (.slice a l.length (c - 1)); simpa using this
  · rw [ha]; rw [ha] at hc; exact ht.tl.chg hc
set_option maxHeartbeats 4000000 in
theorem pis_yes (w : World) (g fin d : Nat) (l : List Tk.Tok) (s : List UInt8) (h : Pb w g fin d l) (hs : Ps.sees s l = true) : Calls Try.prog 21 #[P g, .string ⟨s.toArray⟩] w fun e w' => e = .returned (.bool true) ∧ Chg g w w' ∧ Pb w' g fin d l.tail := by
  have HS := Lib.hid (psees_ok w g fin d l s h)
  rw [hs] at HS
  cases l with
  | nil => cases hs
  | cons t l =>
    obtain ⟨v, hb, ht⟩ := h
    have p0 := hb.cell 0
    have z0 := hb.frozen 0
    obtain ⟨q, off, c, hq, rfl, hlc, hcm, c0, c1, c2, c3, c4, c5⟩ := ht.hd
    have HTL : Hid (∀ a, (a = if c = 1 then some ⟨q, off, none⟩ else some ⟨q, off + 6, none⟩) → Chg g w (w.setCell ⟨g, 0, none⟩ (.slice a l.length (c - 1))) ∧ Pb (w.setCell ⟨g, 0, none⟩ (.slice a l.length (c - 1))) g fin d l) := fun a ha => Pb.tl hb ht a ha
    clear hb ht hs
    by_cases hc1 : c = 1
    · subst hc1
      obtain rfl : l = [] := List.eq_nil_of_length_eq_zero (by omega)
      have HTN := Lib.hid (HTL.out _ (if_pos rfl).symm)
      clear HTL
      go_enter Try.func21, Try.ntmps21
      go_wp2_with (first | (go_at_call 43; refine HS.out.mono ?_; rintro e w' ⟨rfl, rfl⟩))
      go_ret
      exact ⟨rfl, HTN.out⟩
    · have HTN := Lib.hid (HTL.out _ (if_neg hc1).symm)
      go_enter Try.func21, Try.ntmps21
      go_wp2_with (first | (go_at_call 43; refine HS.out.mono ?_; rintro e w' ⟨rfl, rfl⟩))
      go_ret
      exact ⟨rfl, HTN.out⟩
/-- There is a reader. -/
def ParA (w : World) (g : Nat) : Prop := ∃ (v : Value) (f D : Int), Blk w g 64 #[v, .int .i64 f, .int .i64 D]
theorem Pb.par {w : World} {g fin d : Nat} {l : List Tk.Tok} (h : Pb w g fin d l) : ParA w g := by obtain ⟨v, h, _⟩ := h; exact ⟨v, _, _, h⟩
theorem ParA.keep {w w' : World} {g : Nat} (h : ParA w g) (hb : Below w.heap.size w w') : ParA w' g := by obtain ⟨v, f, D, h⟩ := h; exact ⟨v, f, D, h.keep hb⟩
/-- What comes of a call that takes tokens away: it goes on, or cannot. -/
def PuR (g fin d : Nat) (w : World) (r : Ps.Res Unit) (e : Ending) (w' : World) : Prop := Chg g w w' ∧ ParA w' g ∧ match r with
  | .ok p => e = .returned (.tuple #[]) ∧ Pb w' g fin d p.2
  | .error z => e = Oops z.1 z.2
set_option maxHeartbeats 4000000 in
theorem pneed_ok (w : World) (g fin d : Nat) (l : List Tk.Tok) (s : List UInt8) (h : Pb w g fin d l) : Calls Try.prog 44 #[P g, .string ⟨s.toArray⟩] w (PuR g fin d w (Ps.need fin s l)) := by
  unfold Ps.need
  cases hs : Ps.sees s l with
  | true =>
    rw [if_pos rfl]
    have HS := Lib.hid (pis_yes w g fin d l s h hs)
    clear h hs
    go_enter Try.func44, Try.ntmps44
    go_wp2_with (first | (go_at_call 21; refine HS.out.mono ?_; rintro e w3 ⟨rfl, hc, hb⟩; have HC := Lib.hid hc; have HB := Lib.hid hb; clear hc hb))
    go_end0
    exact ⟨HC.out, HB.out.par, rfl, HB.out⟩
  | false =>
    rw [if_neg (by decide)]
    have HS := Lib.hid (pis_no w g fin d l s h hs)
    have HA := Lib.hid (pat_ok w g fin d l h)
    have HPA := Lib.hid h.par
    clear h hs
    go_enter Try.func44, Try.ntmps44
    go_wp2_with (first | (go_at_call 21; refine HS.out.mono ?_; rintro e w' ⟨rfl, rfl⟩) | (go_at_call 19; refine HA.out.mono ?_; rintro e w' ⟨rfl, rfl⟩) | (go_at_call 22; refine (pfail_ok _ _ _ _).mono ?_; rintro e w' ⟨rfl, rfl⟩))
    exact ⟨rfl, Chg.of_below (Below.refl _ _), HPA.out, rfl⟩
/-- What comes of a name. -/
def PnR (g fin d : Nat) (w : World) (r : Ps.Res (List UInt8)) (e : Ending) (w' : World) : Prop := Chg g w w' ∧ ParA w' g ∧ match r with
  | .ok p => e = .returned (.string ⟨p.1.toArray⟩) ∧ Pb w' g fin d p.2
  | .error z => e = Oops z.1 z.2
set_option maxHeartbeats 8000000 in
theorem pname_ok (w : World) (g fin d : Nat) (l : List Tk.Tok) (h : Pb w g fin d l) : Calls Try.prog 23 #[P g] w (PnR g fin d w (Ps.name fin l)) := by
  have HA := Lib.hid (pat_ok w g fin d l h)
  have HPA := Lib.hid h.par
  obtain ⟨v, hb, ht⟩ := h
  have p0 := hb.cell 0
  have z0 := hb.frozen 0
  cases l with
  | nil =>
    obtain ⟨a, c, rfl, _, _⟩ := ht.sl
    clear hb ht
    go_enter Try.func23, Try.ntmps23
    go_wp2_with (first | (go_at_call 19; refine HA.out.mono ?_; rintro e w' ⟨rfl, rfl⟩) | (go_at_call 22; refine (pfail_ok _ _ _ _).mono ?_; rintro e w' ⟨rfl, rfl⟩))
    exact ⟨rfl, Chg.of_below (Below.refl _ _), HPA.out, rfl⟩
  | cons t l =>
    obtain ⟨q, off, c, hq, rfl, hlc, hcm, c0, c1, c2, c3, c4, c5⟩ := ht.hd
    have q0 : ((l.length : Int) + 1 == 0) = false := by simp; omega
    by_cases hk : t.kind = 1
    rotate_left
    · have e : Ps.name fin (t :: l) = .error (2, t.pos) := by rw [Ps.name, if_pos hk]
      rw [e]
      have qk : (t.kind != 1) = true := by simpa using hk
      clear hb ht hk e
      go_enter Try.func23, Try.ntmps23
      go_wp2_with (first | (go_at_call 19; refine HA.out.mono ?_; rintro e w' ⟨rfl, rfl⟩) | (go_at_call 22; refine (pfail_ok _ _ _ _).mono ?_; rintro e w' ⟨rfl, rfl⟩))
      exact ⟨rfl, Chg.of_below (Below.refl _ _), HPA.out, rfl⟩
    have qk : (t.kind != 1) = false := by simpa using hk
    obtain ⟨w1, hw1⟩ : ∃ w1, w1 = w.alloc (.cells #[.int .i64 t.kind, .string ⟨t.text.toArray⟩, .int .u64 t.n, .int .i64 t.bits, .bool t.sg, .int .i64 (t.pos : Int)] 92) := ⟨_, rfl⟩
    have HBL : Hid (Below w.heap.size w w1) := by show Below _ _ _; rw [hw1]; exact Ext.alloc (Below.refl _ _) _
    have hbt : Blk w1 w.heap.size 92 #[.int .i64 t.kind, .string ⟨t.text.toArray⟩, .int .u64 t.n, .int .i64 t.bits, .bool t.sg, .int .i64 (t.pos : Int)] := by rw [hw1]; exact Blk.new _ _ _
    have hsz : t.text.length ≤ 65536 := ht.ok.len
    obtain ⟨V, hV⟩ : ∃ V, V = Tk.nmd t.text := ⟨_, rfl⟩
    have HNA : Hid (∀ w1 : World, Calls Try.prog 11 #[.string ⟨t.text.toArray⟩] w1 fun e w' => e = .returned (.bool V) ∧ Below w1.heap.size w1 w') := fun w1 => by
      rw [hV]
      exact sNamed_ok ⟨t.text.toArray⟩ (by rw [Tk.size_is]; show t.text.toArray.toList.length ≤ _; unfold maxLen; simp; omega) w1
    have e : Ps.name fin (t :: l) = if V = false then .error (7, t.pos) else .ok (t.text, l) := by rw [Ps.name, if_neg (fun h => h hk), hV]
    have HLT : Hid (g < w.heap.size) := hb.lt
    have HD : Hid (∀ wi, Below w1.heap.size w1 wi → ParB wi g (.slice (some ⟨q, off, none⟩) (l.length + 1) c) fin d ∧ Tks wi g (t :: l) (.slice (some ⟨q, off, none⟩) (l.length + 1) c) ∧ Blk wi w.heap.size 92 #[.int .i64 t.kind, .string ⟨t.text.toArray⟩, .int .u64 t.n, .int .i64 t.bits, .bool t.sg, .int .i64 (t.pos : Int)]) := fun wi hb2 =>
      ⟨(hb.keep HBL.out).keep hb2, (ht.chg (Chg.of_below HBL.out)).chg (Chg.of_below hb2), hbt.keep hb2⟩
    rw [e]
    clear hb ht hk e hbt hsz hV
    go_enter Try.func23, Try.ntmps23
    go_upto_region 4 with (fail)
    rw [← hw1]
    obtain ⟨bt, hbt⟩ : ∃ bt, bt = w.heap.size := ⟨_, rfl⟩
    rw [← hbt] at HD HLT ⊢
    have HBT := Lib.hid hbt
    clear hw1 c0 c1 c2 c3 c4 c5 p0 z0 hbt
    obtain ⟨h1, h2, h3⟩ := HD.out w1 (Below.refl _ _)
    have k1 := h3.cell 1
    have k5 := h3.cell 5
    clear h1 h2 h3
    cases V with
    | false =>
      go_wp2_with (first | (go_at_call 11; refine (HNA.out _).mono ?_; rintro e w3 ⟨rfl, hb3⟩; have HB3 := Lib.hid hb3; obtain ⟨_, _, h3⟩ := HD.out w3 hb3; clear k1 k5; have k1 := h3.cell 1; have k5 := h3.cell 5; clear hb3 h3) | (go_at_call 22; refine (pfail_ok _ _ _ _).mono ?_; rintro e w' ⟨rfl, rfl⟩))
      exact ⟨rfl, Chg.of_below (Ext.trans HBL.out HB3.out), HPA.out.keep (Ext.trans HBL.out HB3.out), rfl⟩
    | true =>
      go_upto_region 6 with (first | (go_at_call 11; refine (HNA.out _).mono ?_; rintro e w3 ⟨rfl, hb3⟩; have HB3 := Lib.hid hb3; obtain ⟨h1, h2, h3⟩ := HD.out w3 hb3; clear k1 k5; have k1 := h3.cell 1; have p0 := h1.cell 0; have z0 := h1.frozen 0; have HP := Lib.hid h1; have HT := Lib.hid h2; clear hb3 h1 h2 h3))
      have hne : bt ≠ g := by have := HLT.out; omega
      have HNE := Lib.hid hne
      have HCW : Hid (Chg g w w3) := Chg.of_below (Ext.trans HBL.out HB3.out)
      by_cases hc1 : c = 1
      · subst hc1
        obtain rfl : l = [] := List.eq_nil_of_length_eq_zero (by omega)
        have HTN := Lib.hid (Pb.tl HP.out HT.out _ (if_pos rfl).symm)
        go_wp2_with (fail)
        go_ret
        exact ⟨HCW.out.trans HTN.out.1, HTN.out.2.par, rfl, HTN.out.2⟩
      · have HTN := Lib.hid (Pb.tl HP.out HT.out _ (if_neg hc1).symm)
        go_wp2_with (fail)
        go_ret
        exact ⟨HCW.out.trans HTN.out.1, HTN.out.2.par, rfl, HTN.out.2⟩
end Go.Proofs.Ytfkndjifhmkojaa
