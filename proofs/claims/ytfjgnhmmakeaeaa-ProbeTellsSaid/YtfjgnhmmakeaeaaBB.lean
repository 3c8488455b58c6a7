/- Plain: who looks on changes nothing; what is told of the steps; how often a run came to each word; where it may be stopped. No condition. -/
import Derived.Test.YtfjgnhmmakeaeaaB9
import Derived.Test.YtfjgnhmmakeaeaaE28
namespace Go.Proofs.Ytfjgnhmmakeaeaa
open Go.RowKit
set_option linter.unusedVariables false
set_option linter.unusedSimpArgs false
set_option maxRecDepth 100000
namespace Mc
/-- Who is told of steps, so many at most. -/
def envT (cd : List Int) (most : Int) : Env (List (Int × St)) := ⟨fun _ _ => false, fun g _ => g, fun g a s => if 0 < (U.one cd a).n ∧ (g.length : Int) < most then g ++ [(a, s)] else g⟩
/-- Who counts. -/
def envH (nC : Nat) : Env (Nat → Int) := ⟨fun _ _ => false, fun g _ => g, fun g a s => if a < (nC : Int) then upd g a.toNat (g a.toNat + 1) else g⟩
/-- Who stops at places, but at the first. -/
def envU (ps : List Int) : Env Bool := ⟨fun g a => g && ps.contains a, fun _ _ => true, fun g _ _ => g⟩
theorem go_zero {G : Type} (E : Env G) (hE : ∀ g x, E.sB g x = false ∧ E.sG g x = g) (cd inp : List Int) (s : St) (g : G) : go E cd inp 0 s g = ({ s with how := 3 }, g) := by
  unfold go; rw [(hE g s.pc).1, (hE g s.pc).2, if_neg (by decide)]
theorem go_on {G : Type} (E : Env G) (hE : ∀ g x, E.sB g x = false ∧ E.sG g x = g) (cd inp : List Int) (n : Nat) (s : St) (g : G) (h : (tick cd inp s).how = 0) : go E cd inp (n + 1) s g = go E cd inp n (tick cd inp s) (E.dG g s.pc (tick cd inp s)) := by
  show (if E.sB g s.pc then _ else _ : St × G) = _
  rw [(hE g s.pc).1, if_neg (by decide), if_pos h, (hE g s.pc).2]
theorem go_end {G : Type} (E : Env G) (hE : ∀ g x, E.sB g x = false ∧ E.sG g x = g) (cd inp : List Int) (n : Nat) (s : St) (g : G) (h : ¬ (tick cd inp s).how = 0) : go E cd inp (n + 1) s g = (tick cd inp s, E.dG g s.pc (tick cd inp s)) := by
  show (if E.sB g s.pc then _ else _ : St × G) = _
  rw [(hE g s.pc).1, if_neg (by decide), if_neg h, (hE g s.pc).2]
/-- WHO LOOKS CHANGES NOTHING. -/
theorem go_dG {G : Type} (E : Env G) (hE : ∀ g x, E.sB g x = false ∧ E.sG g x = g) (cd inp : List Int) : ∀ (n : Nat) (s : St) (g : G), (go E cd inp n s g).1 = goA cd inp n s
  | 0, s, g => by rw [go_zero E hE]; rfl
  | n + 1, s, g => by
    by_cases h : (tick cd inp s).how = 0
    · rw [go_on E hE cd inp n s g h, go_dG E hE cd inp n]; exact (if_pos h).symm
    · rw [go_end E hE cd inp n s g h]; exact (if_neg h).symm
theorem one_neg (cd : List Int) (a : Int) (h : ¬ 0 < (U.one cd a).n) : (U.one cd a).n = 0 := by
  rcases Classical.em ((U.one cd a).n = 0) with h0 | h0
  · exact h0
  · obtain ⟨_, _, _, h1 | h1, _⟩ := U.one_in cd a h0
    · omega
    · omega
theorem tick_bad (cd inp : List Int) (s : St) (h : (U.one cd s.pc).n = 0) : (tick cd inp s).how = 4 ∧ (tick cd inp s).pc = s.pc := by
  have e : step cd inp { s with steps := s.steps + 1 } = ({ s with steps := s.steps + 1 }, 4) := if_pos h
  unfold tick; rw [e]; exact ⟨rfl, rfl⟩
/-- The steps of a run, each with what it left. -/
def trL (cd inp : List Int) : Nat → St → List (Int × St)
  | 0, _ => []
  | n + 1, s => if 0 < (U.one cd s.pc).n then (s.pc, tick cd inp s) :: (if (tick cd inp s).how = 0 then trL cd inp n (tick cd inp s) else []) else []
/-- What is told of them: the first ones. -/
theorem go_tr (cd inp : List Int) (most : Int) (hm : 0 ≤ most) : ∀ (n : Nat) (s : St) (g : List (Int × St)), (go (envT cd most) cd inp n s g).2 = g ++ (trL cd inp n s).take (most.toNat - g.length) := by
  have hE : ∀ g x, (envT cd most).sB g x = false ∧ (envT cd most).sG g x = g := fun _ _ => ⟨rfl, rfl⟩
  intro n
  induction n with
  | zero => intro s g; rw [go_zero _ hE]; simp [trL]
  | succ n ih =>
    intro s g
    by_cases hN : 0 < (U.one cd s.pc).n
    · have ht : trL cd inp (n + 1) s = (s.pc, tick cd inp s) :: (if (tick cd inp s).how = 0 then trL cd inp n (tick cd inp s) else []) := if_pos hN
      by_cases hk : (g.length : Int) < most
      · have hd : (envT cd most).dG g s.pc (tick cd inp s) = g ++ [(s.pc, tick cd inp s)] := if_pos ⟨hN, hk⟩
        have hs : most.toNat - g.length = (most.toNat - (g.length + 1)) + 1 := by omega
        rw [ht, hs, List.take_succ_cons]
        by_cases h : (tick cd inp s).how = 0
        · rw [go_on _ hE cd inp n s g h, hd, ih, if_pos h, List.length_append, List.append_assoc]; rfl
        · rw [go_end _ hE cd inp n s g h, hd, if_neg h, List.take_nil]
      · have hd : (envT cd most).dG g s.pc (tick cd inp s) = g := if_neg (fun k => hk k.2)
        have hs : most.toNat - g.length = 0 := by omega
        rw [hs, List.take_zero]
        by_cases h : (tick cd inp s).how = 0
        · rw [go_on _ hE cd inp n s g h, hd, ih, hs, List.take_zero]
        · rw [go_end _ hE cd inp n s g h, hd]; simp
    · have h4 := tick_bad cd inp s (one_neg cd s.pc hN)
      have ht : trL cd inp (n + 1) s = [] := if_neg hN
      have hd : (envT cd most).dG g s.pc (tick cd inp s) = g := if_neg (fun k => hN k.1)
      rw [go_end _ hE cd inp n s g (by rw [h4.1]; decide), hd, ht]; simp
/-- There are no more of them than steps. -/
theorem trL_len (cd inp : List Int) : ∀ (n : Nat) (s : St), ((trL cd inp n s).length : Int) ≤ (goA cd inp n s).steps - s.steps
  | 0, s => by show ((0 : Nat) : Int) ≤ s.steps - s.steps; omega
  | n + 1, s => by
    have h1 := tick_steps cd inp s
    have ih := trL_len cd inp n (tick cd inp s)
    unfold trL goA
    by_cases hN : 0 < (U.one cd s.pc).n
    · rw [if_pos hN]
      by_cases h : (tick cd inp s).how = 0
      · rw [if_pos h, if_pos h, List.length_cons]; omega
      · rw [if_neg h, if_neg h]; simp; omega
    · have h4 := tick_bad cd inp s (one_neg cd s.pc hN)
      rw [if_neg hN, if_neg (by rw [h4.1]; decide)]; simp; omega
/-- What does not jump goes on behind itself. -/
theorem exec_next (inp : List Int) (op : Int) (d e : Nat) (imm next : Int) (s : St) (h0 : (exec inp op d e imm next s).2 = 0) (hj : op < 19 ∨ 27 < op) : (exec inp op d e imm next s).1.pc = next % 65536 := by
  unfold exec at h0 ⊢
  have q : ∀ {p : Prop} [Decidable p] {a b : St × Int}, (p → (a.2 = 0 → a.1.pc = next % 65536)) → (¬ p → (b.2 = 0 → b.1.pc = next % 65536)) → ((if p then a else b).2 = 0 → (if p then a else b).1.pc = next % 65536) := by
    intro p _ a b h1 h2
    by_cases h : p
    · rw [if_pos h]; exact h1 h
    · rw [if_neg h]; exact h2 h
  revert h0
  refine q (fun _ h => absurd h (show ¬ (1 : Int) = 0 by decide)) (fun _ => ?_)
  refine q (fun _ h => absurd h (show ¬ (2 : Int) = 0 by decide)) (fun _ => ?_)
  refine q (fun _ _ => rfl) (fun _ => ?_)
  refine q (fun _ _ => rfl) (fun _ => ?_)
  refine q (fun _ _ => rfl) (fun _ => ?_)
  refine q (fun _ _ => rfl) (fun _ => ?_)
  refine q (fun _ _ => rfl) (fun _ => ?_)
  refine q (fun _ _ => rfl) (fun _ => ?_)
  refine q (fun _ _ => rfl) (fun _ => ?_)
  refine q (fun h => by exfalso; omega) (fun _ => ?_)
  refine q (fun h => by exfalso; omega) (fun _ => ?_)
  refine q (fun h => by exfalso; omega) (fun _ => ?_)
  refine q (fun _ _ => rfl) (fun _ => ?_)
  refine q (fun _ _ => rfl) (fun _ => ?_)
  refine q (fun _ _ => rfl) (fun _ => ?_)
  refine q (fun _ h => absurd h (show ¬ (5 : Int) = 0 by decide)) (fun _ _ => rfl)
theorem tick_next (cd inp : List Int) (s : St) (hN : 0 < (U.one cd s.pc).n) (h0 : (tick cd inp s).how = 0) (hj : (U.one cd s.pc).op < 19 ∨ 27 < (U.one cd s.pc).op) : (tick cd inp s).pc = (s.pc + (U.one cd s.pc).n) % 65536 := by
  have e : step cd inp { s with steps := s.steps + 1 } = exec inp (U.one cd s.pc).op (U.one cd s.pc).d.toNat (U.one cd s.pc).s.toNat (U.one cd s.pc).imm (s.pc + (U.one cd s.pc).n) { s with steps := s.steps + 1 } := if_neg (show ¬ (U.one cd s.pc).n = 0 by omega)
  unfold tick at h0 ⊢
  rw [e] at h0 ⊢
  exact exec_next _ _ _ _ _ _ _ h0 hj
theorem trL_head (cd inp : List Int) (n : Nat) (s : St) (x : Int × St) (h : (trL cd inp n s)[0]? = some x) : x.1 = s.pc := by
  cases n with
  | zero => cases h
  | succ n =>
    unfold trL at h
    split at h
    · simp at h; rw [← h]
    · cases h
/-- EACH STEP IS WHERE THE ONE AHEAD LEFT IT. -/
theorem trL_at (cd inp : List Int) : ∀ (n : Nat) (s : St) (i : Nat) (x : Int × St), (trL cd inp n s)[i]? = some x → 0 < (U.one cd x.1).n ∧ ∀ y, (trL cd inp n s)[i + 1]? = some y → ((U.one cd x.1).op < 19 ∨ 27 < (U.one cd x.1).op) → y.1 = (x.1 + (U.one cd x.1).n) % 65536
  | 0, s, i, x, h => by cases h
  | n + 1, s, i, x, h => by
    by_cases hN : 0 < (U.one cd s.pc).n
    · have ht : trL cd inp (n + 1) s = (s.pc, tick cd inp s) :: (if (tick cd inp s).how = 0 then trL cd inp n (tick cd inp s) else []) := if_pos hN
      rw [ht] at h ⊢
      cases i with
      | zero =>
        simp at h; subst h
        refine ⟨hN, fun y hy hj => ?_⟩
        rw [List.getElem?_cons_succ] at hy
        by_cases h0 : (tick cd inp s).how = 0
        · rw [if_pos h0] at hy
          rw [trL_head cd inp n _ y hy]; exact tick_next cd inp s hN h0 hj
        · rw [if_neg h0] at hy; cases hy
      | succ i =>
        rw [List.getElem?_cons_succ] at h
        by_cases h0 : (tick cd inp s).how = 0
        · rw [if_pos h0] at h ⊢
          obtain ⟨h1, h2⟩ := trL_at cd inp n _ i x h
          exact ⟨h1, fun y hy => h2 y (by rw [List.getElem?_cons_succ] at hy; exact hy)⟩
        · rw [if_neg h0] at h; cases h
    · have ht : trL cd inp (n + 1) s = [] := if_neg hN
      rw [ht] at h; cases h
/-- The sum of counts. -/
def sumTo (g : Nat → Int) : Nat → Int
  | 0 => 0
  | n + 1 => sumTo g n + g n
theorem sumTo_upd (g : Nat → Int) (k : Nat) : ∀ n, sumTo (upd g k (g k + 1)) n = sumTo g n + (if k < n then 1 else 0)
  | 0 => by simp [sumTo]
  | n + 1 => by
    unfold sumTo
    rw [sumTo_upd g k n]
    by_cases h : k < n
    · have : upd g k (g k + 1) n = g n := by unfold upd; rw [if_neg (by omega)]
      rw [this, if_pos h, if_pos (by omega)]; omega
    · by_cases h2 : k = n
      · subst h2
        have : upd g k (g k + 1) k = g k + 1 := by unfold upd; rw [if_pos rfl]
        rw [this, if_neg h, if_pos (by omega)]; omega
      · have : upd g k (g k + 1) n = g n := by unfold upd; rw [if_neg (by omega)]
        rw [this, if_neg h, if_neg (by omega)]; omega
theorem sumTo_nn {g : Nat → Int} (h : ∀ j, 0 ≤ g j) : ∀ n, 0 ≤ sumTo g n
  | 0 => Int.le_refl _
  | n + 1 => by have := sumTo_nn h n; have := h n; unfold sumTo; omega
theorem sumTo_mono {g : Nat → Int} (h : ∀ j, 0 ≤ g j) {m : Nat} : ∀ n, m ≤ n → sumTo g m ≤ sumTo g n
  | 0, hm => by have : m = 0 := by omega
                rw [this]; exact Int.le_refl _
  | n + 1, hm => by
    rcases Nat.lt_or_ge m (n + 1) with h1 | h1
    · have := sumTo_mono h n (by omega : m ≤ n); have := h n; show sumTo g m ≤ sumTo g n + g n; omega
    · have : m = n + 1 := by omega
      rw [this]; exact Int.le_refl _
/-- EACH STEP IS SOMEWHERE. -/
theorem go_hits (cd inp : List Int) (nI : Nat) (hn : inp.length = nI) (hby : ∀ x ∈ inp, 0 ≤ x ∧ x < 256) : ∀ (n : Nat) (s : St) (g : Nat → Int), Fine nI s → (∀ j, 0 ≤ g j) →
    (∀ j, 0 ≤ (go (envH cd.length) cd inp n s g).2 j) ∧ (sumTo (go (envH cd.length) cd inp n s g).2 cd.length - sumTo g cd.length = (goA cd inp n s).steps - s.steps ∨
      ((goA cd inp n s).how = 4 ∧ sumTo (go (envH cd.length) cd inp n s g).2 cd.length - sumTo g cd.length = (goA cd inp n s).steps - s.steps - 1 ∧ (cd.length : Int) ≤ (goA cd inp n s).pc)) := by
  have hE : ∀ g x, (envH cd.length).sB g x = false ∧ (envH cd.length).sG g x = g := fun _ _ => ⟨rfl, rfl⟩
  intro n
  induction n with
  | zero => intro s g hf hg; rw [go_zero _ hE]; exact ⟨hg, .inl (by show sumTo g _ - _ = s.steps - s.steps; omega)⟩
  | succ n ih =>
    intro s g hf hg
    have hpc : 0 ≤ s.pc := hf.1.2.1.1
    have h1 := tick_steps cd inp s
    by_cases hp : s.pc < (cd.length : Int)
    · have hd : (envH cd.length).dG g s.pc (tick cd inp s) = upd g s.pc.toNat (g s.pc.toNat + 1) := if_pos hp
      have hg' : ∀ j, 0 ≤ upd g s.pc.toNat (g s.pc.toNat + 1) j := by
        intro j; unfold upd; split
        · have := hg s.pc.toNat; omega
        · exact hg j
      have hs := sumTo_upd g s.pc.toNat cd.length
      rw [if_pos (by omega)] at hs
      by_cases h : (tick cd inp s).how = 0
      · rw [go_on _ hE cd inp n s g h, hd]
        have hA : goA cd inp (n + 1) s = goA cd inp n (tick cd inp s) := if_pos h
        rw [hA]
        obtain ⟨q1, q2⟩ := ih (tick cd inp s) _ (tick_fine hn hby s hf) hg'
        refine ⟨q1, ?_⟩
        rcases q2 with q2 | ⟨q2, q3, q4⟩
        · exact .inl (by omega)
        · exact .inr ⟨q2, by omega, q4⟩
      · rw [go_end _ hE cd inp n s g h, hd]
        have hA : goA cd inp (n + 1) s = tick cd inp s := if_neg h
        rw [hA]
        exact ⟨hg', .inl (by show sumTo (upd g s.pc.toNat (g s.pc.toNat + 1)) cd.length - sumTo g cd.length = _; omega)⟩
    · have hd : (envH cd.length).dG g s.pc (tick cd inp s) = g := if_neg hp
      have hN : (U.one cd s.pc).n = 0 := by unfold U.one; rw [if_pos (.inr (by omega))]; rfl
      obtain ⟨h4, h5⟩ := tick_bad cd inp s hN
      have h : ¬ (tick cd inp s).how = 0 := by rw [h4]; decide
      rw [go_end _ hE cd inp n s g h, hd]
      have hA : goA cd inp (n + 1) s = tick cd inp s := if_neg h
      rw [hA]
      exact ⟨hg, .inr ⟨h4, by show sumTo g _ - _ = _; omega, by rw [h5]; omega⟩⟩
/-- Behind a stop: the run so far, alone, and where it stands. -/
theorem go_stop (ps : List Int) (cd inp : List Int) : ∀ (n : Nat) (s : St) (b : Bool), s.how = 0 → (go (envU ps) cd inp n s b).1.how = 6 → ∃ (m : Nat) (t : St), m ≤ n ∧ (go (envU ps) cd inp n s b).1 = { t with how := 6 } ∧ goA cd inp m s = { t with how := 3 } ∧ t.how = 0 ∧ t.steps = s.steps + m ∧ ps.contains t.pc = true := by
  intro n
  induction n with
  | zero =>
    intro s b hs h
    have e : go (envU ps) cd inp 0 s b = if (b && ps.contains s.pc) = true then ({ s with how := 6 }, true) else ({ s with how := 3 }, true) := rfl
    rw [e] at h ⊢
    by_cases hb : (b && ps.contains s.pc) = true
    · rw [if_pos hb]
      exact ⟨0, s, Nat.le_refl _, rfl, rfl, hs, by simp, by simp at hb; simpa using hb.2⟩
    · rw [if_neg hb] at h; exact absurd h (show ¬ (3 : Int) = 6 by decide)
  | succ n ih =>
    intro s b hs h
    have e : go (envU ps) cd inp (n + 1) s b = if (b && ps.contains s.pc) = true then ({ s with how := 6 }, true) else if (tick cd inp s).how = 0 then go (envU ps) cd inp n (tick cd inp s) true else (tick cd inp s, true) := rfl
    rw [e] at h ⊢
    by_cases hb : (b && ps.contains s.pc) = true
    · rw [if_pos hb]
      exact ⟨0, s, Nat.zero_le _, rfl, rfl, hs, by simp, by simp at hb; simpa using hb.2⟩
    · rw [if_neg hb] at h ⊢
      by_cases h0 : (tick cd inp s).how = 0
      · rw [if_pos h0] at h ⊢
        obtain ⟨m, t, q1, q2, q3, q4, q5, q6⟩ := ih (tick cd inp s) true h0 h
        refine ⟨m + 1, t, by omega, q2, ?_, q4, ?_, q6⟩
        · show (if _ then _ else _) = _; rw [if_pos h0]; exact q3
        · rw [q5, tick_steps]; omega
      · rw [if_neg h0] at h ⊢
        exfalso
        have : (tick cd inp s).how ≠ 6 := by
          show (step cd inp _).2 ≠ 6
          unfold step
          split
          · show (4 : Int) ≠ 6; decide
          · unfold exec
            iterate 16 (refine ite_ind (M := fun r : St × Int => r.2 ≠ 6) (fun hyp => ?_) (fun hyp => ?_); (· first | (show (1 : Int) ≠ 6; decide) | (show (2 : Int) ≠ 6; decide) | (show (0 : Int) ≠ 6; decide) | (show (5 : Int) ≠ 6; decide)))
            show (0 : Int) ≠ 6; decide
        exact this h
end Mc
end Go.Proofs.Ytfjgnhmmakeaeaa
/- Who looks on, in memory: its blocks, and what the machine leaves of them. No condition. -/
namespace Go.Proofs.Ytfjgnhmmakeaeaa
open Go.RowKit
set_option linter.unusedVariables false
set_option linter.unusedSimpArgs false
set_option maxRecDepth 100000
open Mc

/-- Below B only what l says has changed. -/
structure Bel (B : Nat) (l : Nat → Prop) (w w' : World) : Prop where
  os : w'.os = w.os
  tape : w'.tape = w.tape
  output : w'.output = w.output
  size : w.heap.size ≤ w'.heap.size
  block : ∀ b, b < B → ¬ l b → w'.heap[b]? = w.heap[b]?
theorem Bel.refl (B : Nat) (l : Nat → Prop) (w : World) : Bel B l w w := ⟨rfl, rfl, rfl, Nat.le_refl _, fun _ _ _ => rfl⟩
theorem Bel.of {B : Nat} {l : Nat → Prop} {w w' : World} (h : Below B w w') : Bel B l w w' := ⟨h.os, h.tape, h.output, h.size, fun b hb _ => h.block b hb⟩
theorem Bel.trans {B : Nat} {l : Nat → Prop} {w w1 w2 : World} (h : Bel B l w w1) (k : Bel B l w1 w2) : Bel B l w w2 :=
  ⟨k.os.trans h.os, k.tape.trans h.tape, k.output.trans h.output, Nat.le_trans h.size k.size, fun b hb hn => (k.block b hb hn).trans (h.block b hb hn)⟩
theorem Bel.mono {B B' : Nat} {l l' : Nat → Prop} {w w' : World} (h : Bel B l w w') (hB : B' ≤ B) (hl : ∀ b, b < B' → l b → l' b) : Bel B' l' w w' :=
  ⟨h.os, h.tape, h.output, h.size, fun b hb hn => h.block b (by omega) (fun k => hn (hl b hb k))⟩
theorem Bel.cell {B : Nat} {l : Nat → Prop} {w w' : World} (h : Bel B l w w') {p : Addr} (hp : B ≤ p.block) (u : Value) : Bel B l w (w'.setCell p u) :=
  ⟨h.os, h.tape, h.output, by simpa using h.size, fun b hb hn => (Below.heap_setCell w' p u b (by omega)).trans (h.block b hb hn)⟩
theorem Bel.row {B : Nat} {l : Nat → Prop} {w w' : World} (h : Bel B l w w') {g : Nat} (hg : B ≤ g) (cs : Array Value) : Bel B l w (w'.setRow g cs) :=
  h.trans ⟨rfl, rfl, rfl, by simp [World.setRow], fun k hk _ => setRow_other w' g k cs (by omega)⟩
theorem Bel.below {B : Nat} {w w' : World} (h : Bel B (fun _ => False) w w') : Below B w w' := ⟨h.os, h.tape, h.output, h.size, fun b hb => h.block b hb (fun k => k)⟩
/-- Who looks on: what it holds, in which blocks. -/
structure Eyes {G : Type} (E : Env G) (B0 : Nat) (l0 : Nat → Prop) where
  Look : World → (Nat → Prop) → G → Prop
  keep : ∀ {w w' : World} {l : Nat → Prop} {g : G}, Look w l g → w.heap.size ≤ w'.heap.size → (∀ b, l b ∨ (b < B0 ∧ ¬ l0 b) → w'.heap[b]? = w.heap[b]?) → Look w' l g
  nb : ∀ {w : World} {l : Nat → Prop} {g : G} {b : Nat}, Look w l g → l b → ∃ t cs, Blk w b t cs ∧ t ≠ 5 ∧ t ≠ 107 ∧ t ≠ 30
/-- What it does behind a step. -/
def Dones {G : Type} {E : Env G} {B0 : Nat} {l0 : Nat → Prop} (Y : Eyes E B0 l0) (cd inp : List Int) (Jn : G → St → Prop) (DF : Nat) (args : Int → Nat → Array Value) : Prop :=
  ∀ (L : Lay) (s s' : St) (ov : Value) (l : Nat → Prop) (g : G) (wx : World), s = tick cd inp s' → Mach wx L.mb L s ov → B0 ≤ L.mb → Ok s → Wd s'.pc → 0 ≤ s'.steps → s'.steps < 1000000 → Jn g s' → Y.Look wx l g → ¬ l L.gm → (∀ b, l b → l0 b ∨ B0 ≤ b) →
    Calls Try.prog DF (args s'.pc L.mb) wx fun e w' => e = .returned (.tuple #[]) ∧ ∃ l', Y.Look w' l' (E.dG g s'.pc s) ∧ Bel wx.heap.size l wx w' ∧ ∀ b, l' b → l b ∨ wx.heap.size ≤ b
/-- What it says ahead of a step. -/
def Stops {G : Type} {E : Env G} {B0 : Nat} {l0 : Nat → Prop} (Y : Eyes E B0 l0) (SF : Nat) (args : Int → Array Value) : Prop :=
  ∀ (a : Int) (l : Nat → Prop) (g : G) (wx : World), Wd a → Y.Look wx l g → (∀ b, l b → l0 b ∨ B0 ≤ b) →
    Calls Try.prog SF (args a) wx fun e w' => e = .returned (.bool (E.sB g a)) ∧ ∃ l', Y.Look w' l' (E.sG g a) ∧ Bel wx.heap.size l wx w' ∧ ∀ b, l' b → l b ∨ wx.heap.size ≤ b
theorem Blk.bel {w w' : World} {g : Nat} {t : TypeId} {cs : Array Value} (h : Blk w g t cs) {B : Nat} {l : Nat → Prop} (k : Bel B l w w') (hg : g < B) (hn : ¬ l g) : Blk w' g t cs := (k.block g hg hn).trans h
theorem Mc.MemIs.bel {w w' : World} {g : Nat} {mem : Nat → Int} (h : MemIs w g mem) {l : Nat → Prop} (k : Bel w.heap.size l w w') (hn : ¬ l g) : MemIs w' g mem := by
  obtain ⟨arr, hb, hc⟩ := h; exact ⟨arr, hb.bel k hb.lt hn, hc⟩
theorem ownsRow_bel {w w' : World} {base e size : Nat} {v : Value} {n : Nat} {xs : List Value} (h : w.ownsRow base e size v n xs) {l : Nat → Prop} (k : Bel w.heap.size l w w') (hn : ∀ b, v.ownBlock = some b → ¬ l b) : w'.ownsRow base e size v n xs := by
  obtain ⟨hl, h2⟩ := h
  refine ⟨hl, ?_⟩
  rcases h2 with ⟨rfl, rfl⟩ | ⟨g', cap, cur, rfl, hbb, hg', hc, hm, hsz, htake⟩
  · exact .inl ⟨rfl, rfl⟩
  · exact .inr ⟨g', cap, cur, rfl, hbb, (k.block g' (lt_of_block hg') (hn g' rfl)).trans hg', hc, hm, hsz, htake⟩
section
variable {G : Type} {E : Env G} {B0 : Nat} {l0 : Nat → Prop} (Y : Eyes E B0 l0) {w w' : World} {B : Nat} {L : Lay} {s s' : St} {ov : Value} {l : Nat → Prop} {g : G}
theorem Eyes.lt (h : Y.Look w l g) {b : Nat} (hb : l b) : b < w.heap.size := by
  obtain ⟨t, cs, k, _⟩ := Y.nb h hb; exact k.lt
theorem Eyes.mb (h : Y.Look w l g) (hm : Mach w B L s ov) : ¬ l L.mb := fun k => by
  obtain ⟨t, cs, hb, _, hn, _⟩ := Y.nb h k
  exact hm.blk.ne_ hb (fun e => hn e.symm) rfl
theorem Eyes.ran (h : Y.Look w l g) {z : Nat} {cs : Array Value} (hz : Blk w z 30 cs) : ¬ l z := fun k => by
  obtain ⟨t, cs', hb, _, _, hn⟩ := Y.nb h k
  exact hz.ne_ hb (fun e => hn e.symm) rfl
theorem Eyes.out (h : Y.Look w l g) {e n : Nat} {v : Value} {xs : List Value} (ho : w.ownsRow B 5 e v n xs) : ∀ b, v.ownBlock = some b → ¬ l b := fun b hb k => by
  obtain ⟨t, cs', hk, hn, _, _⟩ := Y.nb h k
  exact own_ne ho hk (fun e => hn e.symm) hb.symm
/-- The machine stays where another looks. -/
theorem Eyes.mach (h : Y.Look w l g) (hm : Mach w B L s ov) (hg : ¬ l L.gm) (k : Bel w.heap.size l w w') : Mach w' B L s ov :=
  ⟨hm.blk.bel k hm.blk.lt (Y.mb h hm), hm.mem.bel k hg, hm.lo1, hm.lo2, hm.cap, ownsRow_bel hm.out k (Y.out h hm.out)⟩
/-- Who looks on stays where the machine works. -/
theorem Eyes.step (h : Y.Look w l g) (hm : Mach w B L s ov) (hB : B0 ≤ B) (hg : ¬ l L.gm) (k : Frm L ov w w') : Y.Look w' l g :=
  Y.keep h k.size (fun b hb => by
    have h1 := hm.lo1; have h2 := hm.lo2
    rcases hb with hb | ⟨hb, _⟩
    · exact k.block b (Y.lt h hb) (by rintro (rfl | rfl); exact Y.mb h hm hb; exact hg hb) (fun e => Y.out h hm.out b e.symm hb)
    · have := hm.lt
      exact k.block b (by omega) (by omega) (fun e => by have := (own_low hm.out b e.symm).1; omega))
theorem Eyes.cell (h : Y.Look w l g) (hm : Mach w B L s ov) (hB : B0 ≤ B) (k : Nat) (u : Value) : Y.Look (w.setCell ⟨L.mb, k, none⟩ u) l g :=
  Y.keep h (by simp) (fun b hb => Below.heap_setCell w ⟨L.mb, k, none⟩ u b (by
    have h1 := hm.lo1
    rcases hb with hb | ⟨hb, _⟩
    · intro e; subst e; exact Y.mb h hm hb
    · show b ≠ L.mb; omega))
theorem Eyes.below (h : Y.Look w l g) (hB : B0 ≤ w.heap.size) (k : Below w.heap.size w w') : Y.Look w' l g :=
  Y.keep h k.size (fun b hb => by
    rcases hb with hb | ⟨hb, _⟩
    · exact k.block b (Y.lt h hb)
    · exact k.block b (by omega))
end
theorem RdB.up {w : World} {B B' : Nat} {v : Value} {n : Nat} {cs : List Value} (h : RdB w B v n cs) (hb : B ≤ B') : RdB w B' v n cs := ⟨h.1, fun hn a m c e => Nat.lt_of_lt_of_le (h.2 hn a m c e) hb⟩
/-- The loop of a run that is looked at, at its head. -/
structure LoopE {G : Type} (E : Env G) {B0 : Nat} {l0 : Nat → Prop} (Y : Eyes E B0 l0) (Jn : G → St → Prop) (cd inp : List Int) (nI : Nat) (fuel : Int) (w3 : World) (L : Lay) (fin : St × G) (wr : World) : Prop where
  of ::
  get : ∃ (s : St) (n : Nat) (ov : Value) (g : G) (l : Nat → Prop), Mach wr L.mb L s ov ∧ Bel L.mb l0 w3 wr ∧ Y.Look wr l g ∧ ¬ l L.gm ∧ (∀ b, l b → l0 b ∨ w3.heap.size ≤ b) ∧ Jn g s ∧ Fine nI s ∧ s.steps + n = fuel ∧ 0 ≤ s.steps ∧ (s.how = 0 → go E cd inp n s g = fin) ∧ (s.how ≠ 0 → (s, g) = fin)
/-- The last lines of a run that was looked at. -/
theorem run_end2 {G : Type} {E : Env G} {B0 : Nat} {l0 : Nat → Prop} (Y : Eyes E B0 l0) {w W wc : World} {B ZB : Nat} {L : Lay} {s : St} {ov : Value} {a : Option Addr} {k vk : Nat} {l : Nat → Prop} {g : G} (hm : Mach W B L s ov) (hlo : s.out.length ≤ 65536) (hkm : k ≤ MS) (ht : top s.mem MS = k) (hz : Blk W ZB 30 ranZc) (hB : B0 ≤ B) (hZ : B0 ≤ ZB)
    (hw : Bel B0 l0 w W) (hk : Y.Look W l g) (hbc : Below W.heap.size W wc) (ho : wc.ownsRow W.heap.size 3 1 (.slice a k vk) k (((List.range k).map s.mem).map (Value.int .i64))) :
    Blk (wc.setCell ⟨L.mb, 13, none⟩ (.slice a k vk)) L.mb 107 (mac5 L s ov (.slice a k vk)) ∧ Blk ((wc.setCell ⟨L.mb, 13, none⟩ (.slice a k vk)).setRow L.mb (mac6 L s ov (.slice a k vk))) L.mb 107 (mac6 L s ov (.slice a k vk)) ∧
    Blk ((wc.setCell ⟨L.mb, 13, none⟩ (.slice a k vk)).setRow L.mb (mac6 L s ov (.slice a k vk))) ZB 30 ranZc ∧
    ∀ cs', ((((wc.setCell ⟨L.mb, 13, none⟩ (.slice a k vk)).setRow L.mb (mac6 L s ov (.slice a k vk))).setRow ZB cs').ownsRow B0 5 1 ov s.out.length (s.out.map (Value.int .u8)) ∧
      (((wc.setCell ⟨L.mb, 13, none⟩ (.slice a k vk)).setRow L.mb (mac6 L s ov (.slice a k vk))).setRow ZB cs').ownsRow B0 3 1 (.slice a k vk) (top s.mem MS) ((left s.mem).map (Value.int .i64)) ∧
      Y.Look (((wc.setCell ⟨L.mb, 13, none⟩ (.slice a k vk)).setRow L.mb (mac6 L s ov (.slice a k vk))).setRow ZB cs') l g ∧
      Bel B0 l0 w (((wc.setCell ⟨L.mb, 13, none⟩ (.slice a k vk)).setRow L.mb (mac6 L s ov (.slice a k vk))).setRow ZB cs')) := by
  have hBW : B0 ≤ W.heap.size := by have := hm.lo1; have := hm.lt; omega
  have hk2 : k ≤ 65536 := hkm
  have hmc := hm.keep hbc
  have hzc := hz.keep hbc
  have h5 : Blk (wc.setCell ⟨L.mb, 13, none⟩ (.slice a k vk)) L.mb 107 (mac5 L s ov (.slice a k vk)) := hmc.blk.set_ 13 _
  have hne : ZB ≠ L.mb := fun e => by subst e; exact hmc.blk.ne_ hzc (by decide) rfl
  have z5 : Blk (wc.setCell ⟨L.mb, 13, none⟩ (.slice a k vk)) ZB 30 ranZc := hzc.far hne _
  have h6 := h5.row (mac6 L s ov (.slice a k vk))
  have z6 := z5.farRow hne (mac6 L s ov (.slice a k vk))
  have hkc := Y.below hk hBW hbc
  refine ⟨h5, h6, z6, fun cs' => ⟨?_, ?_, ?_, ?_⟩⟩
  · exact own_mono hB (ownsRow_farRow (ownsRow_farRow (ownsRow_far hmc.out hmc.blk (by decide) 13 _) h5 (by decide) _) z6 (by decide) cs')
  · have := ownsRow_farRow (ownsRow_farRow (ownsRow_far ho hmc.blk (by decide) 13 (.slice a k vk)) h5 (by decide) (mac6 L s ov (.slice a k vk))) z6 (by decide) cs'
    rw [show left s.mem = (List.range k).map s.mem by unfold left; rw [ht], ht]
    exact own_mono hBW this
  · have hnm := Y.mb hkc hmc
    have hnz := Y.ran hkc hzc
    have hlm := hm.lo1
    refine Y.keep hkc (by simp [World.setRow]) (fun b hb => ?_)
    have b1 : b ≠ L.mb := by rcases hb with hb | ⟨hb, _⟩; (intro e; subst e; exact hnm hb); omega
    have b2 : b ≠ ZB := by rcases hb with hb | ⟨hb, _⟩; (intro e; subst e; exact hnz hb); omega
    exact (setRow_other _ ZB b cs' b2).trans ((setRow_other _ L.mb b _ b1).trans (Below.heap_setCell wc ⟨L.mb, 13, none⟩ _ b b1))
  · have hlm := hm.lo1
    exact Bel.row (Bel.row (Bel.cell (hw.trans (Bel.of (hbc.mono hBW))) (p := ⟨L.mb, 13, none⟩) (by show B0 ≤ L.mb; omega) _) (by omega) _) hZ _
end Go.Proofs.Ytfjgnhmmakeaeaa
