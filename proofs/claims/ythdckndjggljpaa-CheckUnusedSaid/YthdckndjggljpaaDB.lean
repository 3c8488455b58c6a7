/- Check, plain: what a walk over statements keeps. No condition. -/
import Derived.Test.YthdckndjggljpaaY5
import Derived.Test.YthdckndjggljpaaYA
namespace Go.Proofs.Ythdckndjggljpaa
open Go.RowKit
set_option linter.unusedVariables false
set_option linter.unusedSimpArgs false
set_option maxRecDepth 100000
theorem X.cnts_mono_of {xs : List X} (ih : ∀ y ∈ xs, ∀ N d, N ≤ (X.cnt y N d).2) : ∀ N d, N ≤ (X.cnts xs N d).2 := by
  induction xs with
  | nil => intro N d; rw [X.cnts]; exact Nat.le_refl _
  | cons x xs ih2 =>
    intro N d
    rw [X.cnts]
    have h1 := ih x (List.mem_cons_self ..) N d
    split
    · exact Nat.le_trans h1 (ih2 (fun z hz => ih z (List.mem_cons_of_mem _ hz)) _ _)
    · exact h1
theorem X.cnt_mono (x : X) : ∀ N d, N ≤ (X.cnt x N d).2 := by
  induction x using X.up with
  | _ x ih =>
    intro N d
    rw [X.cnt_eq]
    split
    · exact Nat.le_succ _
    · split
      · exact Nat.le_trans (Nat.le_succ _) (X.cnts_mono_of ih _ _)
      · exact Nat.le_succ _
theorem thn_mono {r : Int × Nat} {f : Nat → Int × Nat} {N : Nat} (hr : N ≤ r.2) (hf : ∀ M, M ≤ (f M).2) : N ≤ (thn r f).2 := by
  unfold thn; split
  · exact Nat.le_trans hr (hf _)
  · exact hr
theorem S.cnts_mono_of {xs : List S} (ih : ∀ y ∈ xs, ∀ N d, N ≤ (S.cnt y N d).2) : ∀ N d, N ≤ (S.cnts xs N d).2 := by
  induction xs with
  | nil => intro N d; rw [S.cnts]; exact Nat.le_refl _
  | cons x xs ih2 =>
    intro N d
    rw [S.cnts]
    have h1 := ih x (List.mem_cons_self ..) N d
    split
    · exact Nat.le_trans h1 (ih2 (fun z hz => ih z (List.mem_cons_of_mem _ hz)) _ _)
    · exact h1
theorem if_mono {c : Prop} [Decidable c] {r r' : Int × Nat} {N : Nat} (h : N ≤ r.2) (h' : N ≤ r'.2) : N ≤ (if c then r else r').2 := by split <;> assumption
theorem S.cnt_mono1 (x : S) : ∀ N d, N ≤ (S.cnt x N d).2 ∧ ((S.cnt x N d).1 = 0 → N + 1 ≤ (S.cnt x N d).2) := by
  induction x using S.up with
  | _ x ih =>
    intro N d
    obtain ⟨k, b, s, nm, has, x, i, l0, l1, l2, l3⟩ := x
    have i0 := S.cnts_mono_of (xs := l0) fun y hy N d => (ih y (.inl hy) N d).1
    have i1 := S.cnts_mono_of (xs := l1) fun y hy N d => (ih y (.inr (.inl hy)) N d).1
    have i2 := S.cnts_mono_of (xs := l2) fun y hy N d => (ih y (.inr (.inr (.inl hy))) N d).1
    have i3 := S.cnts_mono_of (xs := l3) fun y hy N d => (ih y (.inr (.inr (.inr hy))) N d).1
    have key : N + 1 ≤ (S.cnt (.mk k b s nm has x i l0 l1 l2 l3) N d).2 := by
      rw [S.cnt]
      refine if_mono (Nat.le_refl _) (if_mono (Nat.le_refl _) ?_)
      refine thn_mono (if_mono (X.cnt_mono _ _ _) (Nat.le_refl _)) fun M => ?_
      refine thn_mono (if_mono (if_mono (Nat.le_refl _) (i0 _ _)) (Nat.le_refl _)) fun M => ?_
      refine thn_mono (if_mono (X.cnt_mono _ _ _) (Nat.le_refl _)) fun M => ?_
      refine thn_mono (if_mono (if_mono (Nat.le_refl _) (i1 _ _)) (Nat.le_refl _)) fun M => ?_
      refine thn_mono (if_mono (i2 _ _) (Nat.le_refl _)) fun M => ?_
      exact if_mono (i3 _ _) (Nat.le_refl _)
    exact ⟨Nat.le_of_succ_le key, fun _ => key⟩
theorem S.cnts_mono (xs : List S) : ∀ N d, N ≤ (S.cnts xs N d).2 := S.cnts_mono_of fun y _ N d => (S.cnt_mono1 y N d).1
theorem thn_zero {r : Int × Nat} {f : Nat → Int × Nat} (h : (thn r f).1 = 0) : r.1 = 0 ∧ thn r f = f r.2 := by
  unfold thn at *
  split at h
  · rename_i h1; rw [if_pos h1]; exact ⟨h1, rfl⟩
  · rename_i h1; exact absurd h h1
namespace Ck
theorem on_bad {r : Int × Env} {f : Env → Int × Env} (h : r.1 ≠ 0) : on r f = r := if_neg h
theorem on_good {r : Int × Env} {f : Env → Int × Env} (h : r.1 = 0) : on r f = f r.2 := if_pos h
/-- Levels and loops are as they were. -/
def Kept (e e' : Env) : Prop := e'.lv.length = e.lv.length ∧ e'.loops = e.loops ∧ e.slots.length ≤ e'.slots.length
theorem Kept.refl (e : Env) : Kept e e := ⟨rfl, rfl, Nat.le_refl _⟩
theorem Kept.trans {a b c : Env} (h : Kept a b) (k : Kept b c) : Kept a c := ⟨k.1.trans h.1, k.2.1.trans h.2.1, Nat.le_trans h.2.2 k.2.2⟩
theorem on_kept {e : Env} {r : Int × Env} {f : Env → Int × Env} (hr : Kept e r.2) (hf : ∀ a, Kept e a → Kept e (f a).2) : Kept e (on r f).2 := by
  unfold on; split
  · exact hf _ hr
  · exact hr
theorem shut_kept {e a : Env} {r : Int × Env} (ha : Kept e a) (hr : Kept a.open r.2) : Kept e (shut r).2 := by
  obtain ⟨h1, h2, h3⟩ := hr
  refine ha.trans ⟨?_, h2, h3⟩
  show (r.2.lv.dropLast).length = _
  rw [List.length_dropLast, h1]; simp [Env.open]
theorem less_kept {e a : Env} {r : Int × Env} (ha : Kept e a) (hr : Kept (more a).open r.2) : Kept e (less (shut r)).2 := by
  obtain ⟨h1, h2, h3⟩ := hr
  refine ha.trans ⟨?_, ?_, h3⟩
  · show (r.2.lv.dropLast).length = _
    rw [List.length_dropLast, h1]; simp [Env.open, more]
  · show r.2.loops - 1 = _
    rw [h2]; simp [Env.open, more]
theorem may_env (P : Pg) (has : Bool) (x : X) (e : Env) : (may P has x e).2 = e := by unfold may vals; split <;> rfl
theorem declare_kept {e e' : Env} {b : Int} {s : Bool} {n : Nm} (h : e.declare b s n = some e') (h1 : 1 ≤ e.lv.length) : Kept e e' ∧ e'.slots.length = e.slots.length + 1 := by
  unfold Env.declare at h
  split at h
  · cases h
  · injection h with h
    subst h
    refine ⟨⟨?_, rfl, ?_⟩, ?_⟩
    · show (e.lv.dropLast ++ [_]).length = _
      rw [List.length_append, List.length_dropLast]; simp; omega
    · show e.slots.length ≤ (e.slots ++ [_]).length; simp
    · show (e.slots ++ [_]).length = _; simp
theorem stats_kept_of {P : Pg} {rb : Int} {l : List S} (ih : ∀ y ∈ l, ∀ e, 1 ≤ e.lv.length → Kept e (stat P rb y e).2) : ∀ e, 1 ≤ e.lv.length → Kept e (stats P rb l e).2 := by
  induction l with
  | nil => intro e _; rw [stats]; exact Kept.refl e
  | cons y l ih2 =>
    intro e h1
    rw [stats]
    exact on_kept (ih y (List.mem_cons_self ..) e h1) fun a ha => ha.trans (ih2 (fun z hz => ih z (List.mem_cons_of_mem _ hz)) a (by rw [ha.1]; exact h1))
theorem open_one (e : Env) : 1 ≤ e.open.lv.length := by simp [Env.open]
theorem stat_kept (P : Pg) (rb : Int) (x : S) : ∀ e, 1 ≤ e.lv.length → Kept e (stat P rb x e).2 := by
  induction x using S.up with
  | _ x ih =>
    intro e h1
    obtain ⟨k, b, s, nm, has, x, i, l0, l1, l2, l3⟩ := x
    have i0 := stats_kept_of (P := P) (rb := rb) (l := l0) fun y hy e => ih y (.inl hy) e
    have i1 := stats_kept_of (P := P) (rb := rb) (l := l1) fun y hy e => ih y (.inr (.inl hy)) e
    have i2 := stats_kept_of (P := P) (rb := rb) (l := l2) fun y hy e => ih y (.inr (.inr (.inl hy))) e
    have i3 := stats_kept_of (P := P) (rb := rb) (l := l3) fun y hy e => ih y (.inr (.inr (.inr hy))) e
    rw [stat]
    have r0 := Kept.refl e
    have rm : ∀ x, Kept e (may P has x e).2 := fun x => by rw [may_env]; exact r0
    have rv : Kept e (vals P x e).2 := r0
    split
    · unfold on
      split
      · rw [may_env]
        try dsimp only
        cases hd : e.declare b s nm.data.toList with
        | none => exact r0
        | some e' => exact (declare_kept hd h1).1
      · exact rm x
    split
    · refine on_kept (rm i) fun a ha => ?_
      split
      · exact ha
      · split
        · exact ha
        · exact ha
    split
    · exact r0
    split
    · split
      · exact r0
      · exact rm x
    split
    · exact r0
    split
    · refine on_kept rv fun a ha => ?_
      exact on_kept (shut_kept ha (i2 _ (open_one a))) fun c hc => shut_kept hc (i3 _ (open_one c))
    split
    · exact on_kept rv fun a ha => less_kept ha (i2 _ (open_one _))
    split
    · refine on_kept (shut_kept r0 (i0 _ (open_one e))) fun a ha => ?_
      refine on_kept (by rw [may_env]; exact ha) fun c hc => ?_
      exact on_kept (shut_kept hc (i1 _ (open_one c))) fun d hd => less_kept hd (i2 _ (open_one _))
    split
    · exact shut_kept r0 (i2 _ (open_one e))
    · exact r0
theorem stats_kept (P : Pg) (rb : Int) (l : List S) : ∀ e, 1 ≤ e.lv.length → Kept e (stats P rb l e).2 := stats_kept_of fun y _ => stat_kept P rb y
/-- Slots are no more than the nodes counted. -/
def Slt (r : Int × Env) (M : Nat) : Prop := r.2.slots.length ≤ M + 8
theorem shut_slt {r : Int × Env} {M : Nat} (h : Slt r M) : Slt (shut r) M := h
theorem less_slt {r : Int × Env} {M : Nat} (h : Slt r M) : Slt (less r) M := h
theorem Slt.mono {r : Int × Env} {M M' : Nat} (h : Slt r M) (hm : M ≤ M') : Slt r M' := Nat.le_trans h (by omega)
theorem on_slt {r : Int × Env} {f : Env → Int × Env} {M M' : Nat} (hr : Slt r M) (hm : M ≤ M') (hf : ∀ a, a.slots.length ≤ M + 8 → Slt (f a) M') : Slt (on r f) M' := by
  unfold on; split
  · exact hf _ hr
  · exact hr.mono hm
theorem on_sl {r : Int × Env} {f : Env → Int × Env} {M M' : Nat} (hr : Slt r M) (hm : M ≤ M') (hf : Slt (f r.2) M') : Slt (on r f) M' := by
  unfold on; split
  · exact hf
  · exact hr.mono hm
theorem stats_slt_of {P : Pg} {rb : Int} {l : List S} (ih : ∀ y ∈ l, ∀ e N d, (S.cnt y N d).1 = 0 → 1 ≤ e.lv.length → e.slots.length ≤ N + 8 → Slt (stat P rb y e) (S.cnt y N d).2) :
    ∀ e N d, (S.cnts l N d).1 = 0 → 1 ≤ e.lv.length → e.slots.length ≤ N + 8 → Slt (stats P rb l e) (S.cnts l N d).2 := by
  induction l with
  | nil => intro e N d _ _ h; rw [stats, S.cnts]; exact h
  | cons y l ih2 =>
    intro e N d h0 h1 h
    rw [S.cnts] at h0 ⊢
    rw [stats]
    by_cases hc : (S.cnt y N d).1 = 0
    · rw [if_pos hc] at h0 ⊢
      have hy := ih y (List.mem_cons_self ..) e N d hc h1 h
      unfold on
      split
      · refine ih2 (fun z hz => ih z (List.mem_cons_of_mem _ hz)) _ _ _ h0 ?_ hy
        have := (stat_kept P rb y e h1).1; omega
      · exact hy.mono (S.cnts_mono _ _ _)
    · rw [if_neg hc] at h0; exact absurd h0 hc
theorem stat_slt (P : Pg) (rb : Int) (x : S) : ∀ e N d, (S.cnt x N d).1 = 0 → 1 ≤ e.lv.length → e.slots.length ≤ N + 8 → Slt (stat P rb x e) (S.cnt x N d).2 := by
  induction x using S.up with
  | _ x ih =>
    intro e N d h0 h1 h
    obtain ⟨k, b, s, nm, has, x, i, l0, l1, l2, l3⟩ := x
    have i0 := stats_slt_of (P := P) (rb := rb) (l := l0) fun y hy e => ih y (.inl hy) e
    have i1 := stats_slt_of (P := P) (rb := rb) (l := l1) fun y hy e => ih y (.inr (.inl hy)) e
    have i2 := stats_slt_of (P := P) (rb := rb) (l := l2) fun y hy e => ih y (.inr (.inr (.inl hy))) e
    have i3 := stats_slt_of (P := P) (rb := rb) (l := l3) fun y hy e => ih y (.inr (.inr (.inr hy))) e
    have hmono := (S.cnt_mono1 (.mk k b s nm has x i l0 l1 l2 l3) N d).2 h0
    have es : ∀ {r : Int × Env}, r.2.slots = e.slots → Slt r (S.cnt (.mk k b s nm has x i l0 l1 l2 l3) N d).2 := fun {r} hr => by unfold Slt; rw [hr]; omega
    obtain ⟨M, hM⟩ : ∃ M, M = (S.cnt (.mk k b s nm has x i l0 l1 l2 l3) N d).2 := ⟨_, rfl⟩
    rw [← hM] at hmono es ⊢
    rw [S.cnt] at h0 hM
    split at h0
    · exact absurd h0 (by show ¬ (4 : Int) = 0; decide)
    rename_i c0
    rw [if_neg c0] at hM
    split at h0
    · rename_i c1; exact absurd h0 c1
    rename_i c1
    rw [if_neg c1] at hM
    obtain ⟨z1, t1⟩ := thn_zero h0
    rw [t1] at h0 hM
    obtain ⟨z2, t2⟩ := thn_zero h0
    rw [t2] at h0 hM
    obtain ⟨z3, t3⟩ := thn_zero h0
    rw [t3] at h0 hM
    obtain ⟨z4, t4⟩ := thn_zero h0
    rw [t4] at h0 hM
    obtain ⟨z5, t5⟩ := thn_zero h0
    rw [t5] at h0 hM
    rw [stat]
    have ev : ∀ {x : X}, (vals P x e).2.slots = e.slots := rfl
    have em : ∀ {h : Bool} {x : X}, (may P h x e).2.slots = e.slots := fun {h x} => by rw [may_env]
    split
    · refine on_sl (es em) (Nat.le_refl _) ?_
      rw [may_env]
      try dsimp only
      cases hd : e.declare b s nm.data.toList with
      | none => exact es rfl
      | some e' => have := (declare_kept hd h1).2; show e'.slots.length ≤ M + 8; omega
    rename_i k2
    split
    · refine on_sl (es em) (Nat.le_refl _) ?_
      rw [may_env]
      try dsimp only
      split
      · exact es rfl
      · split
        · exact es rfl
        · exact es ev
    rename_i k3
    split
    · exact es rfl
    split
    · split
      · exact es rfl
      · exact es em
    split
    · exact es rfl
    have a1 : (if k = 3 ∧ has = true then X.cnt i (N + 1) (d + 1) else (0, N + 1)) = (0, N + 1) := if_neg (fun hh => k3 hh.1)
    rw [a1] at t2 t3 t4 t5 h0 hM z2 z3 z4 z5
    simp only [] at t2 t3 t4 t5 h0 hM z2 z3 z4 z5
    split
    · rename_i k5
      have a2 : (if k = 7 then (if S.brk l0 ≠ 0 then (S.brk l0, N + 1) else S.cnts l0 (N + 1) (d + 1)) else (0, N + 1)) = (0, N + 1) := if_neg (by omega)
      rw [a2] at t3 t4 t5 h0 hM z3 z4 z5
      simp only [] at t3 t4 t5 h0 hM z3 z4 z5
      generalize hX : (if S.looks k has = true then X.cnt x (N + 1) (d + 1) else ((0 : Int), N + 1)) = RX at z3 z4 z5 h0 hM
      have hXm : N + 1 ≤ RX.2 := by rw [← hX]; exact if_mono (X.cnt_mono _ _ _) (Nat.le_refl _)
      have a4 : (if k = 7 then (if S.brk l1 ≠ 0 then (S.brk l1, RX.2) else S.cnts l1 RX.2 (d + 1)) else (0, RX.2)) = (0, RX.2) := if_neg (by omega)
      rw [a4] at z5 h0 hM
      simp only [] at z5 h0 hM
      rw [if_pos (Or.inl k5)] at z5 h0 hM
      rw [if_pos k5] at h0 hM
      refine on_sl (es ev) (Nat.le_refl _) ?_
      have hs2 := i2 e.open RX.2 (d + 1) z5 (open_one e) (by show e.slots.length ≤ _; omega)
      rw [hM]
      refine on_sl (shut_slt hs2) (S.cnts_mono _ _ _) ?_
      exact shut_slt (i3 _ _ _ h0 (open_one _) hs2)
    rename_i k5
    split
    · rename_i k6
      have a2 : (if k = 7 then (if S.brk l0 ≠ 0 then (S.brk l0, N + 1) else S.cnts l0 (N + 1) (d + 1)) else (0, N + 1)) = (0, N + 1) := if_neg (by omega)
      rw [a2] at t3 t4 t5 h0 hM z3 z4 z5
      simp only [] at t3 t4 t5 h0 hM z3 z4 z5
      generalize hX : (if S.looks k has = true then X.cnt x (N + 1) (d + 1) else ((0 : Int), N + 1)) = RX at z3 z4 z5 h0 hM
      have hXm : N + 1 ≤ RX.2 := by rw [← hX]; exact if_mono (X.cnt_mono _ _ _) (Nat.le_refl _)
      have a4 : (if k = 7 then (if S.brk l1 ≠ 0 then (S.brk l1, RX.2) else S.cnts l1 RX.2 (d + 1)) else (0, RX.2)) = (0, RX.2) := if_neg (by omega)
      rw [a4] at z5 h0 hM
      simp only [] at z5 h0 hM
      rw [if_pos (Or.inr (Or.inl k6))] at z5 h0 hM
      rw [if_neg k5] at h0 hM
      refine on_sl (es ev) (Nat.le_refl _) ?_
      rw [hM]
      exact less_slt (shut_slt (i2 _ _ _ z5 (open_one _) (by show e.slots.length ≤ _; omega)))
    rename_i k6
    split
    · rename_i k7
      simp only [if_pos k7] at z2 z3 z4 z5 h0 hM
      split at z2
      · rename_i hb; exact absurd z2 hb
      rename_i hb
      rw [if_neg hb] at z3 z4 z5 h0 hM
      generalize hR0 : S.cnts l0 (N + 1) (d + 1) = R0 at z2 z3 z4 z5 h0 hM
      have m0 : N + 1 ≤ R0.2 := by rw [← hR0]; exact S.cnts_mono _ _ _
      obtain ⟨RX, hX⟩ : ∃ RX, RX = (if S.looks k has = true then X.cnt x R0.2 (d + 1) else ((0 : Int), R0.2)) := ⟨_, rfl⟩
      rw [← hX] at z3 z4 z5 h0 hM
      have hXm : R0.2 ≤ RX.2 := by rw [hX]; exact if_mono (X.cnt_mono _ _ _) (Nat.le_refl _)
      split at z4
      · rename_i hb; exact absurd z4 hb
      rename_i hb1
      rw [if_neg hb1] at z5 h0 hM
      generalize hR1 : S.cnts l1 RX.2 (d + 1) = R1 at z4 z5 h0 hM
      have m1 : RX.2 ≤ R1.2 := by rw [← hR1]; exact S.cnts_mono _ _ _
      rw [if_pos (Or.inr (Or.inr (Or.inl k7)))] at z5 h0 hM
      rw [if_neg k5] at h0 hM
      have m2 : R1.2 ≤ M := by rw [hM]; exact S.cnts_mono _ _ _
      have hs0 := i0 e.open (N + 1) (d + 1) (by rw [hR0]; exact z2) (open_one e) (by show e.slots.length ≤ _; omega)
      rw [hR0] at hs0
      refine on_slt (shut_slt hs0) (by omega) fun a ha => ?_
      refine on_sl (M := R0.2) (by show (may P has x a).2.slots.length ≤ _; rw [may_env]; exact ha) (by omega) ?_
      rw [may_env]
      have hs1 := i1 a.open RX.2 (d + 1) (by rw [hR1]; exact z4) (open_one a) (by show a.slots.length ≤ _; omega)
      rw [hR1] at hs1
      refine on_slt (shut_slt hs1) m2 fun c hc => ?_
      rw [hM]
      exact less_slt (shut_slt (i2 _ _ _ z5 (open_one _) (by show c.slots.length ≤ _; omega)))
    rename_i k7
    have a2 : (if k = 7 then (if S.brk l0 ≠ 0 then (S.brk l0, N + 1) else S.cnts l0 (N + 1) (d + 1)) else (0, N + 1)) = (0, N + 1) := if_neg (by omega)
    rw [a2] at t3 t4 t5 h0 hM z3 z4 z5
    simp only [] at t3 t4 t5 h0 hM z3 z4 z5
    generalize hX : (if S.looks k has = true then X.cnt x (N + 1) (d + 1) else ((0 : Int), N + 1)) = RX at z3 z4 z5 h0 hM
    have hXm : N + 1 ≤ RX.2 := by rw [← hX]; exact if_mono (X.cnt_mono _ _ _) (Nat.le_refl _)
    have a4 : (if k = 7 then (if S.brk l1 ≠ 0 then (S.brk l1, RX.2) else S.cnts l1 RX.2 (d + 1)) else (0, RX.2)) = (0, RX.2) := if_neg (by omega)
    rw [a4] at z5 h0 hM
    simp only [] at z5 h0 hM
    split
    · rename_i k11
      rw [if_pos (Or.inr (Or.inr (Or.inr k11)))] at z5 h0 hM
      rw [if_neg k5] at h0 hM
      rw [hM]
      exact shut_slt (i2 _ _ _ z5 (open_one _) (by show e.slots.length ≤ _; omega))
    · exact es rfl
theorem stats_slt (P : Pg) (rb : Int) (l : List S) : ∀ e N d, (S.cnts l N d).1 = 0 → 1 ≤ e.lv.length → e.slots.length ≤ N + 8 → Slt (stats P rb l e) (S.cnts l N d).2 := stats_slt_of fun y _ => stat_slt P rb y
theorem on_zero {r : Int × Env} {f : Env → Int × Env} (h : (on r f).1 = 0) : r.1 = 0 ∧ on r f = f r.2 := by
  unfold on at *
  split at h
  · rename_i h1; exact ⟨h1, if_pos h1⟩
  · rename_i h1; exact absurd h h1
theorem stats_snoc (P : Pg) (rb : Int) (l : List S) (x : S) : ∀ e, (stats P rb l e).1 = 0 → stats P rb (l ++ [x]) e = stat P rb x (stats P rb l e).2 := by
  induction l with
  | nil =>
    intro e _
    rw [List.nil_append, stats, stats]
    unfold on
    split
    · rename_i h; rw [Prod.ext_iff]; exact ⟨h.symm, rfl⟩
    · rfl
  | cons y l ih =>
    intro e h
    rw [stats] at h
    rw [List.cons_append, stats, stats]
    obtain ⟨h1, h2⟩ := on_zero h
    rw [on_good h1, on_good h1]
    rw [h2] at h
    exact ih _ h
theorem stats_stop (P : Pg) (rb : Int) (l m : List S) : ∀ e, (stats P rb l e).1 ≠ 0 → stats P rb (l ++ m) e = stats P rb l e := by
  induction l with
  | nil => intro e h; rw [stats] at h; exact absurd rfl h
  | cons y l ih =>
    intro e h
    rw [stats] at h
    rw [List.cons_append, stats, stats]
    unfold on at *
    split at h
    · rename_i h1; rw [if_pos h1, if_pos h1]; exact ih _ h
    · rename_i h1; rw [if_neg h1, if_neg h1]
end Ck
end Go.Proofs.Ythdckndjggljpaa
/- Check, plain: what a right shape says of a statement's parts. No condition. -/
namespace Go.Proofs.Ythdckndjggljpaa
open Go.RowKit
set_option linter.unusedVariables false
set_option linter.unusedSimpArgs false
set_option maxRecDepth 100000
namespace S
variable {k b : Int} {s : Bool} {nm : ByteArray} {has : Bool} {x i : X} {l0 l1 l2 l3 : List S} {N : Nat} {d : Int}
/-- What the counting went through. -/
structure Cnt (k b : Int) (nm : ByteArray) (has : Bool) (x i : X) (l0 l1 l2 l3 : List S) (N : Nat) (d : Int) (N1 N2 N3 N4 N5 : Nat) : Prop where
  nn : N < 20000
  dd : d ≤ 100
  ow : S.own k b nm.data.toList = 0
  c1 : (if k = 3 ∧ has = true then X.cnt i (N + 1) (d + 1) else (0, N + 1)) = (0, N1)
  c2 : (if k = 7 then (if brk l0 ≠ 0 then (brk l0, N1) else cnts l0 N1 (d + 1)) else (0, N1)) = (0, N2)
  c3 : (if looks k has = true then X.cnt x N2 (d + 1) else (0, N2)) = (0, N3)
  c4 : (if k = 7 then (if brk l1 ≠ 0 then (brk l1, N3) else cnts l1 N3 (d + 1)) else (0, N3)) = (0, N4)
  c5 : (if k = 5 ∨ k = 6 ∨ k = 7 ∨ k = 11 then cnts l2 N4 (d + 1) else (0, N4)) = (0, N5)
  c6 : k = 5 → (cnts l3 N5 (d + 1)).1 = 0
theorem pair0 {r : Int × Nat} (h : r.1 = 0) : r = (0, r.2) := by rw [Prod.ext_iff]; exact ⟨h, rfl⟩
theorem cnt_open (h : (S.cnt (.mk k b s nm has x i l0 l1 l2 l3) N d).1 = 0) : ∃ N1 N2 N3 N4 N5, Cnt k b nm has x i l0 l1 l2 l3 N d N1 N2 N3 N4 N5 := by
  rw [S.cnt] at h
  split at h
  · exact absurd h (by show ¬ (4 : Int) = 0; decide)
  rename_i h0
  split at h
  · rename_i h1; exact absurd h h1
  rename_i h1
  obtain ⟨z1, t1⟩ := thn_zero h
  rw [t1] at h
  obtain ⟨z2, t2⟩ := thn_zero h
  rw [t2] at h
  obtain ⟨z3, t3⟩ := thn_zero h
  rw [t3] at h
  obtain ⟨z4, t4⟩ := thn_zero h
  rw [t4] at h
  obtain ⟨z5, t5⟩ := thn_zero h
  rw [t5] at h
  exact ⟨_, _, _, _, _, by omega, by omega, Classical.not_not.1 h1, pair0 z1, pair0 z2, pair0 z3, pair0 z4, pair0 z5, fun hk => by rw [if_pos hk] at h; exact h⟩
section
variable {N1 N2 N3 N4 N5 : Nat} (h : Cnt k b nm has x i l0 l1 l2 l3 N d N1 N2 N3 N4 N5)
include h
theorem Cnt.m1 : N + 1 ≤ N1 := by
  have h0 := h.c1
  split at h0
  · have := X.cnt_mono i (N + 1) (d + 1); rw [h0] at this; exact this
  · injection h0 with _ h0; omega
theorem Cnt.m2 : N1 ≤ N2 := by
  have h0 := h.c2
  split at h0
  · split at h0
    · injection h0 with _ h0; omega
    · have := S.cnts_mono l0 N1 (d + 1); rw [h0] at this; exact this
  · injection h0 with _ h0; omega
theorem Cnt.m3 : N2 ≤ N3 := by
  have h0 := h.c3
  split at h0
  · have := X.cnt_mono x N2 (d + 1); rw [h0] at this; exact this
  · injection h0 with _ h0; omega
theorem Cnt.m4 : N3 ≤ N4 := by
  have h0 := h.c4
  split at h0
  · split at h0
    · injection h0 with _ h0; omega
    · have := S.cnts_mono l1 N3 (d + 1); rw [h0] at this; exact this
  · injection h0 with _ h0; omega
theorem Cnt.m5 : N4 ≤ N5 := by
  have h0 := h.c5
  split at h0
  · have := S.cnts_mono l2 N4 (d + 1); rw [h0] at this; exact this
  · injection h0 with _ h0; omega
theorem Cnt.shx (hl : looks k has = true) : X.Shp x := by
  have h0 := h.c3
  rw [if_pos hl] at h0
  exact X.cnt_shp x N2 (d + 1) (by rw [h0])
theorem Cnt.shi (hk : k = 3) (hh : has = true) : X.Shp i := by
  have h0 := h.c1
  rw [if_pos ⟨hk, hh⟩] at h0
  exact X.cnt_shp i (N + 1) (d + 1) (by rw [h0])
theorem Cnt.for0 (hk : k = 7) : cnts l0 N1 (d + 1) = (0, N2) := by
  have h0 := h.c2
  rw [if_pos hk] at h0
  split at h0
  · rename_i hb; injection h0 with h0 _; exact absurd h0 hb
  · exact h0
theorem Cnt.for1 (hk : k = 7) : cnts l1 N3 (d + 1) = (0, N4) := by
  have h0 := h.c4
  rw [if_pos hk] at h0
  split at h0
  · rename_i hb; injection h0 with h0 _; exact absurd h0 hb
  · exact h0
theorem Cnt.for2 (hk : k = 5 ∨ k = 6 ∨ k = 7 ∨ k = 11) : cnts l2 N4 (d + 1) = (0, N5) := by
  have h0 := h.c5
  rwa [if_pos hk] at h0
/-- All of it within 20000. -/
theorem Cnt.b1 : N1 ≤ 20000 := by
  have h0 := h.c1
  split at h0
  · have := X.cnt_small i (N + 1) (d + 1) (by have := h.nn; omega) (by rw [h0]); rw [h0] at this; exact this
  · injection h0 with _ h0; have := h.nn; omega
theorem Cnt.b2 : N2 ≤ 20000 := by
  have h1 := h.b1
  have h0 := h.c2
  split at h0
  · split at h0
    · injection h0 with _ h0; omega
    · have := S.cnts_little l0 N1 (d + 1) h1 (by rw [h0]); rw [h0] at this; exact this
  · injection h0 with _ h0; omega
theorem Cnt.b3 : N3 ≤ 20000 := by
  have h1 := h.b2
  have h0 := h.c3
  split at h0
  · have := X.cnt_small x N2 (d + 1) h1 (by rw [h0]); rw [h0] at this; exact this
  · injection h0 with _ h0; omega
theorem Cnt.b4 : N4 ≤ 20000 := by
  have h1 := h.b3
  have h0 := h.c4
  split at h0
  · split at h0
    · injection h0 with _ h0; omega
    · have := S.cnts_little l1 N3 (d + 1) h1 (by rw [h0]); rw [h0] at this; exact this
  · injection h0 with _ h0; omega
theorem Cnt.b5 : N5 ≤ 20000 := by
  have h1 := h.b4
  have h0 := h.c5
  split at h0
  · have := S.cnts_little l2 N4 (d + 1) h1 (by rw [h0]); rw [h0] at this; exact this
  · injection h0 with _ h0; omega
end
end S
end Go.Proofs.Ythdckndjggljpaa
