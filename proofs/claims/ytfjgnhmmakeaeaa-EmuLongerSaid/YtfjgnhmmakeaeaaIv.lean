/- Regions that draw their order, with calls that give new things: each operation tells what its value means in any later world; so no order matters. No condition but a static look. -/
import Derived.Test.YtfjgnhmmakeaeaaHd
import Derived.Test.YtfjgnhmmakeaeaaRg
namespace Go.Proofs.Ytfjgnhmmakeaeaa
open Go
open Go.RowKit
set_option linter.unusedVariables false
namespace Iv

/-- The act with what the operations of 'on' left. -/
def fill : Nat → List Oper → (Nat → Bool) → (Nat → Value) → Act → Act
  | _, [], _, _, a => a
  | i, o :: rest, on, vs, a => fill (i + 1) rest on vs (if on i then a.put o.dst (vs i) else a)

theorem put_size (a : Act) (d : Option Tmp) (v : Value) : (a.put d v).tmps.size = a.tmps.size := by cases d <;> simp [Act.put]
theorem put_defers (a : Act) (d : Option Tmp) (v : Value) : (a.put d v).defers = a.defers := by cases d <;> rfl
theorem fill_size : ∀ (l : List Oper) (i : Nat) (on : Nat → Bool) (vs : Nat → Value) (a : Act), (fill i l on vs a).tmps.size = a.tmps.size
  | [], _, _, _, _ => rfl
  | o :: l, i, on, vs, a => by
    unfold fill; rw [fill_size l]; split
    · exact put_size ..
    · rfl
theorem fill_defers : ∀ (l : List Oper) (i : Nat) (on : Nat → Bool) (vs : Nat → Value) (a : Act), (fill i l on vs a).defers = a.defers
  | [], _, _, _, _ => rfl
  | o :: l, i, on, vs, a => by
    unfold fill; rw [fill_defers l]; split
    · exact put_defers ..
    · rfl
theorem put_get (a : Act) (d : Option Tmp) (v : Value) (t : Nat) : (a.put d v).tmps[t]? = if d = some t then (if t < a.tmps.size then some v else none) else a.tmps[t]? := by
  cases d with
  | none => simp [Act.put]
  | some d =>
    simp only [Act.put, Array.getElem?_setIfInBounds, Option.some.injEq]
    by_cases h : d = t
    · subst h; simp
    · simp [h]
/-- What it leaves in a slot hangs on the operations that write there alone. -/
theorem fill_get : ∀ (l : List Oper) (i : Nat) (on on' : Nat → Bool) (vs vs' : Nat → Value) (a a' : Act) (t : Nat), a.tmps.size = a'.tmps.size → a.tmps[t]? = a'.tmps[t]? →
    (∀ j o, l[j]? = some o → o.dst = some t → on (i + j) = on' (i + j) ∧ (on (i + j) = true → vs (i + j) = vs' (i + j))) → (fill i l on vs a).tmps[t]? = (fill i l on' vs' a').tmps[t]?
  | [], _, _, _, _, _, _, _, _, _, h, _ => h
  | o :: l, i, on, on', vs, vs', a, a', t, hs, h, hj => by
    unfold fill
    refine fill_get l (i + 1) on on' vs vs' _ _ t ?_ ?_ (fun j o' ho hd => by
      have := hj (j + 1) o' (by simpa using ho) hd
      rw [show i + 1 + j = i + (j + 1) by omega]; exact this)
    · split <;> split <;> simp [put_size, hs]
    · by_cases hd : o.dst = some t
      · have := hj 0 o (by simp) hd
        simp only [Nat.add_zero] at this
        rw [← this.1]
        split
        · rename_i hon; rw [put_get, put_get, hs, this.2 hon, h]
        · exact h
      · split <;> split <;> simp [put_get, hd, h]
theorem put_put (a : Act) {x y : Option Tmp} (v u : Value) (h : ∀ d, x = some d → y ≠ some d) : (a.put x v).put y u = (a.put y u).put x v := Act.put_comm a v u h
theorem fill_put : ∀ (l : List Oper) (i : Nat) (on : Nat → Bool) (vs : Nat → Value) (a : Act) (x : Option Tmp) (v : Value), (∀ (j : Nat) (o : Oper), l[j]? = some o → ∀ d, x = some d → o.dst ≠ some d) →
    fill i l on vs (a.put x v) = (fill i l on vs a).put x v
  | [], _, _, _, _, _, _, _ => rfl
  | o :: l, i, on, vs, a, x, v, h => by
    unfold fill
    split
    · rw [put_put a v (vs i) (h 0 o (by simp)), fill_put l (i + 1) on vs _ x v (fun j o' ho => h (j + 1) o' (by simpa using ho))]
    · rw [fill_put l (i + 1) on vs _ x v (fun j o' ho => h (j + 1) o' (by simpa using ho))]
theorem fill_congr : ∀ (l : List Oper) (i : Nat) (on on' : Nat → Bool) (vs vs' : Nat → Value) (a : Act), (∀ j, j < l.length → on (i + j) = on' (i + j) ∧ (on (i + j) = true → vs (i + j) = vs' (i + j))) → fill i l on vs a = fill i l on' vs' a
  | [], _, _, _, _, _, _, _ => rfl
  | o :: l, i, on, on', vs, vs', a, h => by
    unfold fill
    have h0 := h 0 (by simp)
    simp only [Nat.add_zero] at h0
    rw [← h0.1]
    have e : (if on i = true then a.put o.dst (vs i) else a) = (if on i = true then a.put o.dst (vs' i) else a) := by
      split
      · rename_i hon; rw [h0.2 hon]
      · rfl
    rw [e]
    exact fill_congr l (i + 1) on on' vs vs' _ (fun j hj => by
      have := h (j + 1) (by simp; omega)
      rw [show i + 1 + j = i + (j + 1) by omega]; exact this)
theorem getD_rep (n k : Nat) : (Array.replicate n false).getD k false = false := by
  simp only [Array.getD_eq_getD_getElem?, Array.getElem?_replicate]; split <;> rfl
theorem fill_none : ∀ (l : List Oper) (i : Nat) (on : Nat → Bool) (vs : Nat → Value) (a : Act), (∀ j, on j = false) → fill i l on vs a = a
  | [], _, _, _, _, _ => rfl
  | o :: l, i, on, vs, a, h => by
    unfold fill; rw [h i]; exact fill_none l (i + 1) on vs _ h
/-- One operation more. -/
theorem fill_add : ∀ (l : List Oper) (i p : Nat) (on on' : Nat → Bool) (vs vs' : Nat → Value) (a : Act) (o : Oper), l[p]? = some o → on (i + p) = false → on' (i + p) = true →
    (∀ j, j ≠ p → on' (i + j) = on (i + j) ∧ vs' (i + j) = vs (i + j)) → (∀ (j k : Nat) (x y : Oper), l[j]? = some x → l[k]? = some y → j ≠ k → ∀ d, x.dst = some d → y.dst ≠ some d) →
    fill i l on' vs' a = (fill i l on vs a).put o.dst (vs' (i + p))
  | [], _, _, _, _, _, _, _, _, h, _, _, _, _ => by simp at h
  | o0 :: l, i, 0, on, on', vs, vs', a, o, h, hoff, hon, hsame, hd => by
    simp at h; subst h
    unfold fill
    simp only [Nat.add_zero] at hoff hon
    rw [hoff, hon]
    simp only [if_true, Nat.add_zero, Bool.false_eq_true, if_false]
    rw [fill_congr l (i + 1) on' on vs' vs _ (fun j hj => by
      have := hsame (j + 1) (by omega)
      rw [show i + 1 + j = i + (j + 1) by omega]; exact ⟨this.1, fun _ => this.2⟩)]
    exact fill_put l (i + 1) on vs a _ _ (fun j o' ho d hx => hd 0 (j + 1) _ _ (by simp) (by simpa using ho) (by omega) d hx)
  | o0 :: l, i, p + 1, on, on', vs, vs', a, o, h, hoff, hon, hsame, hd => by
    unfold fill
    have h0 := hsame 0 (by omega)
    simp only [Nat.add_zero] at h0
    rw [h0.1, h0.2, show i + (p + 1) = (i + 1) + p by omega]
    exact fill_add l (i + 1) p on on' vs vs' _ o (by simpa using h) (by rw [← hoff]; congr 1; omega) (by rw [← hon]; congr 1; omega)
      (fun j hj => by have := hsame (j + 1) (by omega); rw [show i + 1 + j = i + (j + 1) by omega]; exact this)
      (fun j k x y hx hy hjk => hd (j + 1) (k + 1) x y (by simpa using hx) (by simpa using hy) (by omega))

/-- What surely came ahead of an operation: a table, and the look at it. -/
def befs (md : Region.Mode) (l : List Oper) : List (List Nat) :=
  l.foldl (fun acc o => acc ++ [(o.after.toList.filter (fun e => Region.binds md e)).foldr (fun e r => (e.on :: (acc[e.on]?.getD [])) ++ r) [] |>.eraseDups]) []
def tabB (md : Region.Mode) (l : List Oper) (B : List (List Nat)) : Bool :=
  (List.range l.length).all fun i => match l[i]? with
    | none => true
    | some o => (B[i]?.getD []).all fun k => o.after.toList.any fun e => Region.binds md e && (e.on == k || (B[e.on]?.getD []).contains k)
def looksB (l : List Oper) (B : List (List Nat)) : Bool :=
  (List.range l.length).all fun i => match l[i]? with
    | none => true
    | some o => (List.range l.length).all fun j => match l[j]? with
      | none => true
      | some o' => match o'.dst with
        | none => true
        | some d => (!(o.looksAt l.toArray).contains d || (B[i]?.getD []).contains j) && (i == j || o.dst != some d)
def dagB (md : Region.Mode) (l : List Oper) : Bool :=
  (List.range l.length).all fun i => match l[i]? with
    | none => true
    | some o => o.after.toList.all fun e => !Region.binds md e || decide (e.on < i)
def okB (md : Region.Mode) (l : List Oper) (B : List (List Nat)) : Bool := Region.noSelect l.toArray && tabB md l B && looksB l B && dagB md l

theorem dagB_spec {md : Region.Mode} {l : List Oper} (h : dagB md l = true) (listed : Array Bool) (hs : listed.size = l.length) (hr : Region.ready md l.toArray listed = []) :
    ∀ k, k < l.length → listed.getD k false = true := by
  intro k
  induction k using Nat.strongRecOn with
  | _ k ih =>
    intro hk
    cases hl : listed.getD k false with
    | true => rfl
    | false =>
      exfalso
      have hm : k ∈ Region.ready md l.toArray listed := by
        refine mem_ready.2 ⟨?_, l[k], by simp [hk], fun e he hb => ?_⟩
        · have hk' : k < listed.size := by omega
          simp [hk'] at hl ⊢; exact hl
        · unfold dagB at h
          rw [List.all_eq_true] at h
          have h1 := h k (List.mem_range.2 hk)
          simp only [List.getElem?_eq_getElem hk] at h1
          rw [List.all_eq_true] at h1
          have h2 := h1 e (by simpa using he)
          rw [hb] at h2
          have h3 : e.on < k := by simpa using h2
          exact ih _ h3 (by omega)
      rw [hr] at hm
      cases hm

theorem tabB_spec {md : Region.Mode} {l : List Oper} {B : List (List Nat)} (h : tabB md l B = true) {i : Nat} {o : Oper} (hi : l[i]? = some o) {k : Nat} (hk : k ∈ B[i]?.getD []) :
    ∃ e ∈ o.after, Region.binds md e = true ∧ (e.on = k ∨ k ∈ B[e.on]?.getD []) := by
  unfold tabB at h
  rw [List.all_eq_true] at h
  have h1 := h i (List.mem_range.2 (List.getElem?_eq_some_iff.1 hi).1)
  simp only [hi] at h1
  rw [List.all_eq_true] at h1
  have h2 := h1 k hk
  rw [List.any_eq_true] at h2
  obtain ⟨e, he, h3⟩ := h2
  simp only [Bool.and_eq_true, Bool.or_eq_true, beq_iff_eq, List.contains_iff_mem] at h3
  exact ⟨e, by simpa using he, h3.1, h3.2⟩
theorem looksB_spec {l : List Oper} {B : List (List Nat)} (h : looksB l B = true) {i j : Nat} {o o' : Oper} (hi : l[i]? = some o) (hj : l[j]? = some o') {d : Tmp} (hd : o'.dst = some d) :
    (d ∈ o.looksAt l.toArray → j ∈ B[i]?.getD []) ∧ (i ≠ j → o.dst ≠ some d) := by
  unfold looksB at h
  rw [List.all_eq_true] at h
  have h1 := h i (List.mem_range.2 (List.getElem?_eq_some_iff.1 hi).1)
  simp only [hi] at h1
  rw [List.all_eq_true] at h1
  have h2 := h1 j (List.mem_range.2 (List.getElem?_eq_some_iff.1 hj).1)
  simp only [hj, hd, Bool.and_eq_true, Bool.or_eq_true, Bool.not_eq_true', beq_iff_eq, bne_iff_ne, ne_eq] at h2
  refine ⟨fun hm => ?_, fun hne => h2.2.resolve_left hne⟩
  rcases h2.1 with h3 | h3
  · have : (o.looksAt l.toArray).contains d = true := by simpa using hm
    rw [h3] at this; cases this
  · simpa using h3

def lastB (l : List Oper) (p : Nat) (B : List (List Nat)) : Bool := decide (p + 1 = l.length) && (List.range p).all fun k => (B[p]?.getD []).contains k
/-- Does operation o look at what operation k leaves? -/
def lk (l : List Oper) (o : Oper) (k : Nat) : Bool := match l[k]? with
  | none => false
  | some o' => match o'.dst with
    | none => false
    | some d => (o.looksAt l.toArray).contains d

section
variable {P : Program} {md : Region.Mode} {l : List Oper} {Q : Exit → Act → World → Prop} {S : World → Prop} {V : Nat → Value → World → Prop} {B : List (List Nat)} {a0 : Act}

/-- What is to be shown of operation i: run in any world of S in which those that it looks at mean what they mean. -/
def goI (P : Program) (l : List Oper) (Q : Exit → Act → World → Prop) (V : Nat → Value → World → Prop) (i : Nat) (o : Oper) (w : World) (a : Act) : Prop :=
  if Region.wanted o (yielded l.toArray a.tmps) = true then ∀ K : Act → World → Prop, (∀ v w', Below w.heap.size w w' → V i v w' → K (a.put o.dst v) w') → o.wp P a w K Q
  else V i undef w
def stepI (P : Program) (l : List Oper) (Q : Exit → Act → World → Prop) (S : World → Prop) (V : Nat → Value → World → Prop) (a0 : Act) (i : Nat) (o : Oper) : Prop :=
  ∀ (vs : Nat → Value) (w : World), S w → (∀ k, lk l o k = true → V k (vs k) w) → goI P l Q V i o w (fill 0 l (lk l o) vs a0)
/-- The same, one operation that is looked at after the other. -/
def ask (V : Nat → Value → World → Prop) (w : World) (look : List Tmp) (G : Act → Prop) : Nat → List Oper → Act → Prop
  | _, [], a => G a
  | j, o :: rest, a => match o.dst with
    | none => ask V w look G (j + 1) rest a
    | some d => if look.contains d = true then ∀ v, V j v w → ask V w look G (j + 1) rest (a.put (some d) v) else ask V w look G (j + 1) rest a
theorem ask_fill {V : Nat → Value → World → Prop} {w : World} {look : List Tmp} {G : Act → Prop} : ∀ (l : List Oper) (j : Nat) (a : Act) (on : Nat → Bool) (vs : Nat → Value),
    (∀ k o, l[k]? = some o → on (j + k) = (match o.dst with | none => false | some d => look.contains d)) → (∀ k, k < l.length → on (j + k) = true → V (j + k) (vs (j + k)) w) → ask V w look G j l a → G (fill j l on vs a)
  | [], _, _, _, _, _, _, h => h
  | o :: l, j, a, on, vs, hon, hv, h => by
    unfold fill
    unfold ask at h
    have h0 := hon 0 o (by simp)
    simp only [Nat.add_zero] at h0
    have hon' : ∀ k o', l[k]? = some o' → on (j + 1 + k) = (match o'.dst with | none => false | some d => look.contains d) := fun k o' ho => by
      have := hon (k + 1) o' (by simpa using ho)
      rw [show j + 1 + k = j + (k + 1) by omega]; exact this
    have hv' : ∀ k, k < l.length → on (j + 1 + k) = true → V (j + 1 + k) (vs (j + 1 + k)) w := fun k hk => by
      have := hv (k + 1) (by simp; omega)
      rw [show j + 1 + k = j + (k + 1) by omega]; exact this
    cases hd : o.dst with
    | none =>
      rw [hd] at h h0
      simp only at h h0
      rw [h0]
      exact ask_fill l (j + 1) a on vs hon' hv' h
    | some d =>
      rw [hd] at h h0
      simp only at h h0
      cases hc : look.contains d with
      | true =>
        rw [hc] at h h0
        rw [h0]
        exact ask_fill l (j + 1) _ on vs hon' hv' (h _ (by have := hv 0 (by simp); simpa using this (by simpa using h0)))
      | false =>
        rw [hc] at h h0
        rw [h0]
        exact ask_fill l (j + 1) a on vs hon' hv' h
theorem ask_nil {V : Nat → Value → World → Prop} {w : World} {look : List Tmp} {G : Act → Prop} {j : Nat} {a : Act} (h : G a) : ask V w look G j [] a := h
theorem ask_no {V : Nat → Value → World → Prop} {w : World} {look : List Tmp} {G : Act → Prop} {j : Nat} {o : Oper} {rest : List Oper} {a : Act} (hn : (match o.dst with | none => false | some d => look.contains d) = false)
    (h : ask V w look G (j + 1) rest a) : ask V w look G j (o :: rest) a := by
  unfold ask
  cases hd : o.dst with
  | none => exact h
  | some d => rw [hd] at hn; simp only at hn ⊢; rw [hn]; exact h
theorem ask_yes {V : Nat → Value → World → Prop} {w : World} {look : List Tmp} {G : Act → Prop} {j : Nat} {o : Oper} {rest : List Oper} {a : Act} (hn : (match o.dst with | none => false | some d => look.contains d) = true)
    (h : ∀ v, V j v w → ask V w look G (j + 1) rest (a.put o.dst v)) : ask V w look G j (o :: rest) a := by
  unfold ask
  cases hd : o.dst with
  | none => rw [hd] at hn; cases hn
  | some d => rw [hd] at hn h; simp only at hn ⊢; rw [hn]; exact h
theorem lk_eq (l : List Oper) (o : Oper) (k : Nat) (o' : Oper) (h : l[k]? = some o') : lk l o k = (match o'.dst with | none => false | some d => (o.looksAt l.toArray).contains d) := by
  unfold lk; rw [h]
theorem stepI_of {S : World → Prop} {V : Nat → Value → World → Prop} {a0 : Act} {i : Nat} {o : Oper} (h : ∀ w, S w → ask V w (o.looksAt l.toArray) (goI P l Q V i o w) 0 l a0) : stepI P l Q S V a0 i o := fun vs w hs hv =>
  ask_fill l 0 a0 _ vs (fun k o' ho => by rw [Nat.zero_add]; exact lk_eq l o k o' ho) (fun k _ hk => by rw [Nat.zero_add] at hk ⊢; exact hv k hk) (h w hs)
/-- Which operations are looked at, as a list that is written out. -/
def needs (look : List Tmp) : Nat → List Oper → List (Nat × Option Tmp)
  | _, [] => []
  | j, o :: rest => match o.dst with
    | none => needs look (j + 1) rest
    | some d => if look.contains d = true then (j, some d) :: needs look (j + 1) rest else needs look (j + 1) rest
def askN (V : Nat → Value → World → Prop) (w : World) (G : Act → Prop) : List (Nat × Option Tmp) → Act → Prop
  | [], a => G a
  | (j, d) :: r, a => ∀ v, V j v w → askN V w G r (a.put d v)
theorem ask_needs {V : Nat → Value → World → Prop} {w : World} {look : List Tmp} {G : Act → Prop} : ∀ (l : List Oper) (j : Nat) (a : Act), askN V w G (needs look j l) a → ask V w look G j l a
  | [], _, _, h => h
  | o :: l, j, a, h => by
    unfold needs at h
    unfold ask
    cases hd : o.dst with
    | none => rw [hd] at h; exact ask_needs l (j + 1) a h
    | some d =>
      rw [hd] at h
      simp only at h ⊢
      cases hc : look.contains d with
      | true =>
        rw [hc] at h
        simp only [if_true] at h ⊢
        exact fun v hv => ask_needs l (j + 1) _ (h v hv)
      | false =>
        rw [hc] at h
        simp only [Bool.false_eq_true, if_false] at h ⊢
        exact ask_needs l (j + 1) a h
theorem askN_nil {V : Nat → Value → World → Prop} {w : World} {G : Act → Prop} {a : Act} (h : G a) : askN V w G [] a := h
theorem askN_cons {V : Nat → Value → World → Prop} {w : World} {G : Act → Prop} {j : Nat} {d : Option Tmp} {r : List (Nat × Option Tmp)} {a : Act} (h : ∀ v, V j v w → askN V w G r (a.put d v)) : askN V w G ((j, d) :: r) a := h
theorem stepI_ofN {S : World → Prop} {V : Nat → Value → World → Prop} {a0 : Act} {i : Nat} {o : Oper} (N : List (Nat × Option Tmp)) (hN : needs (o.looksAt l.toArray) 0 l = N) (h : ∀ w, S w → askN V w (goI P l Q V i o w) N a0) : stepI P l Q S V a0 i o :=
  stepI_of (fun w hs => ask_needs l 0 a0 (by rw [hN]; exact h w hs))
theorem goI_yes {V : Nat → Value → World → Prop} {i : Nat} {o : Oper} {w : World} {a : Act} (hw : Region.wanted o (yielded l.toArray a.tmps) = true)
    (h : ∀ K : Act → World → Prop, (∀ v w', Below w.heap.size w w' → V i v w' → K (a.put o.dst v) w') → o.wp P a w K Q) : goI P l Q V i o w a := by
  unfold goI; rw [if_pos hw]; exact h
theorem goI_no {V : Nat → Value → World → Prop} {i : Nat} {o : Oper} {w : World} {a : Act} (hw : Region.wanted o (yielded l.toArray a.tmps) = false) (h : V i undef w) : goI P l Q V i o w a := by
  unfold goI; rw [hw]; exact h
/-- All steps, one after the other. -/
def steps (P : Program) (l : List Oper) (Q : Exit → Act → World → Prop) (S : World → Prop) (V : Nat → Value → World → Prop) (a0 : Act) : Nat → Nat → List Oper → Prop
  | 0, _, _ => True
  | _, _, [] => True
  | n + 1, i, o :: rest => stepI P l Q S V a0 i o ∧ steps P l Q S V a0 n (i + 1) rest
theorem steps_cons {S : World → Prop} {V : Nat → Value → World → Prop} {a0 : Act} {n i : Nat} {o : Oper} {rest : List Oper} (h : stepI P l Q S V a0 i o) (hr : steps P l Q S V a0 n (i + 1) rest) : steps P l Q S V a0 (n + 1) i (o :: rest) := ⟨h, hr⟩
theorem steps_nil {S : World → Prop} {V : Nat → Value → World → Prop} {a0 : Act} {i : Nat} {rest : List Oper} : steps P l Q S V a0 0 i rest := by cases rest <;> trivial
theorem steps_get {S : World → Prop} {V : Nat → Value → World → Prop} {a0 : Act} : ∀ (n i : Nat) (r : List Oper), steps P l Q S V a0 n i r → ∀ j o, j < n → r[j]? = some o → stepI P l Q S V a0 (i + j) o
  | 0, _, _, _, _, _, hj, _ => by omega
  | n + 1, _, [], _, _, _, _, ho => by simp at ho
  | n + 1, i, o0 :: r, h, 0, o, _, ho => by simp at ho; subst ho; exact h.1
  | n + 1, i, o0 :: r, h, j + 1, o, hj, ho => by
    have := steps_get n (i + 1) r h.2 j o (by omega) (by simpa using ho)
    rw [show i + (j + 1) = i + 1 + j by omega]; exact this
/-- All of the first n, for what comes behind. -/
def all (V : Nat → Value → World → Prop) (w : World) (G : Act → Prop) : Nat → Nat → List Oper → Act → Prop
  | 0, _, _, a => G a
  | _, _, [], a => G a
  | n + 1, j, o :: rest, a => ∀ v, V j v w → all V w G n (j + 1) rest (a.put o.dst v)
theorem fill_off : ∀ (l : List Oper) (i : Nat) (on : Nat → Bool) (vs : Nat → Value) (a : Act), (∀ j, on (i + j) = false) → fill i l on vs a = a
  | [], _, _, _, _, _ => rfl
  | o :: l, i, on, vs, a, h => by
    unfold fill; rw [show on i = false from h 0]
    exact fill_off l (i + 1) on vs _ (fun j => by have := h (j + 1); rwa [show i + 1 + j = i + (j + 1) by omega])
theorem all_fill {V : Nat → Value → World → Prop} {w : World} {G : Act → Prop} : ∀ (n j : Nat) (l : List Oper) (a : Act) (on : Nat → Bool) (vs : Nat → Value),
    (∀ k, on (j + k) = decide (k < n)) → (∀ k, k < n → V (j + k) (vs (j + k)) w) → all V w G n j l a → G (fill j l on vs a)
  | 0, j, l, a, on, vs, hon, _, h => by
    rw [fill_off l j on vs a (fun k => by rw [hon]; simp)]
    cases l <;> exact h
  | n + 1, _, [], _, _, _, _, _, h => h
  | n + 1, j, o :: l, a, on, vs, hon, hv, h => by
    unfold fill
    have h0 := hon 0
    simp only [Nat.add_zero] at h0
    rw [h0]
    simp only [Nat.zero_lt_succ, decide_true, if_true]
    exact all_fill n (j + 1) l _ on vs (fun k => by have := hon (k + 1); rw [show j + 1 + k = j + (k + 1) by omega, this]; simp) (fun k hk => by
      have := hv (k + 1) (by omega); rwa [show j + (k + 1) = j + 1 + k by omega] at this) (h _ (by have := hv 0 (by omega); simpa using this))
theorem all_nil {V : Nat → Value → World → Prop} {w : World} {G : Act → Prop} {j : Nat} {l : List Oper} {a : Act} (h : G a) : all V w G 0 j l a := by cases l <;> exact h
theorem all_cons {V : Nat → Value → World → Prop} {w : World} {G : Act → Prop} {n j : Nat} {o : Oper} {l : List Oper} {a : Act} (h : ∀ v, V j v w → all V w G n (j + 1) l (a.put o.dst v)) : all V w G (n + 1) j (o :: l) a := h
/-- Values and what they mean, in a list. -/
def vl (L : List (Value → World → Prop)) (k : Nat) : Value → World → Prop := (L[k]?).getD (fun _ _ => True)
theorem vl_keeps {L : List (Value → World → Prop)} (h : ∀ f ∈ L, ∀ v, Hd.Keeps (f v)) (k : Nat) (v : Value) : Hd.Keeps (vl L k v) := by
  unfold vl
  cases hk : L[k]? with
  | none => exact fun _ _ _ _ => trivial
  | some f => exact h f (List.mem_of_getElem? hk) v
/-- One value. -/
def is (c : Value) : Value → World → Prop := fun v _ => v = c
/-- A value of a kind. -/
def sat (p : Value → Prop) : Value → World → Prop := fun v _ => p v
/-- A value with what the world tells of it. -/
def wld (p : Value → World → Prop) (h : ∀ v, Hd.Keeps (p v)) : Value → World → Prop := p
/-- One or the other. -/
def cnd (b : Bool) (f g : Value → World → Prop) : Value → World → Prop := fun v w => if b = true then f v w else g v w
theorem cnd_keeps {b : Bool} {f g : Value → World → Prop} (hf : ∀ v, Hd.Keeps (f v)) (hg : ∀ v, Hd.Keeps (g v)) (v : Value) : Hd.Keeps (cnd b f g v) := by
  cases b
  · exact hg v
  · exact hf v
theorem kcons {f : Value → World → Prop} {L : List (Value → World → Prop)} (h : ∀ v, Hd.Keeps (f v)) (hL : ∀ f ∈ L, ∀ v, Hd.Keeps (f v)) : ∀ f' ∈ f :: L, ∀ v, Hd.Keeps (f' v) := by
  intro f' hf'
  rcases List.mem_cons.1 hf' with rfl | hm
  · exact h
  · exact hL _ hm
theorem knil : ∀ f ∈ ([] : List (Value → World → Prop)), ∀ v, Hd.Keeps (f v) := fun _ h => by cases h
theorem is_keeps (c v : Value) : Hd.Keeps (is c v) := fun _ _ h _ => h
theorem sat_keeps (p : Value → Prop) (v : Value) : Hd.Keeps (sat p v) := fun _ _ h _ => h
theorem wld_keeps (p : Value → World → Prop) (h : ∀ v, Hd.Keeps (p v)) (v : Value) : Hd.Keeps (wld p h v) := h v

structure Inv (l : List Oper) (S : World → Prop) (V : Nat → Value → World → Prop) (B : List (List Nat)) (a0 : Act) (p : Nat) (listed : Array Bool) (a : Act) (w : World) : Prop where
  s : S w
  no : listed.getD p false = false
  sz : listed.size = l.length
  cl : ∀ i k, listed.getD i false = true → k ∈ B[i]?.getD [] → listed.getD k false = true
  v : ∃ vs : Nat → Value, a = fill 0 l (fun k => listed.getD k false) vs a0 ∧ ∀ k, listed.getD k false = true → V k (vs k) w

theorem put_same {a1 a2 : Act} {d : Option Tmp} {v v' : Value} (hs : a1.tmps.size = a2.tmps.size) (h : a1.put d v = a1.put d v') : a2.put d v = a2.put d v' := by
  cases d with
  | none => rfl
  | some t =>
    have h1 : (a1.put (some t) v).tmps[t]? = (a1.put (some t) v').tmps[t]? := by rw [h]
    rw [put_get, put_get] at h1
    by_cases ht : t < a1.tmps.size
    · simp [ht] at h1; rw [h1]
    · have e : ∀ u : Value, a2.tmps.setIfInBounds t u = a2.tmps := fun u => by
        unfold Array.setIfInBounds
        rw [dif_neg (by rw [← hs]; exact ht)]
      simp only [Act.put, e]

/-- The run hangs on the slots that are looked at alone. -/
theorem wp_move {o : Oper} {a1 a2 : Act} {w : World} {G : Value → World → Prop} {K2 : Act → World → Prop} (hp : ∀ c a a' w, Q (.panic c) a w → Q (.panic c) a' w)
    (hs : a1.tmps.size = a2.tmps.size) (hd : a1.defers = a2.defers) (he : execOp a2.eval o = execOp a1.eval o)
    (h : ∀ K : Act → World → Prop, (∀ v w', G v w' → K (a1.put o.dst v) w') → o.wp P a1 w K Q) (hK : ∀ v w', G v w' → K2 (a2.put o.dst v) w') : o.wp P a2 w K2 Q := by
  have h1 := h (fun a' w' => ∃ v, a' = a1.put o.dst v ∧ K2 (a2.put o.dst v) w') (fun v w' hg => ⟨v, rfl, hK v w' hg⟩)
  clear h
  have back : ∀ v w', (∃ v', a1.put o.dst v = a1.put o.dst v' ∧ K2 (a2.put o.dst v') w') → K2 (a2.put o.dst v) w' := by
    rintro v w' ⟨v', e, hk⟩
    rw [put_same hs e]; exact hk
  unfold Oper.wp at h1 ⊢
  rw [he]
  generalize (execOp a1.eval o).run P w = r at h1 ⊢
  cases r with
  | ok n w' =>
    cases n <;> simp only [Oper.upon] at h1 ⊢
    case value v => exact back v w' h1
    case skip => exact back undef w' h1
    case defer d =>
      exfalso
      obtain ⟨v', e, _⟩ := h1
      have := congrArg Act.defers e
      rw [put_defers, put_defers] at this
      exact absurd (congrArg List.length this) (by simp)
    case enter f args =>
      refine h1.mono fun e w'' hR => ?_
      cases e with
      | returned v => exact back v w'' hR
      | panicked c => exact hp _ _ _ _ hR
      | outgrown => exact hR
    case row row args => exact Rows.mono h1 fun v w'' hR => back v w'' hR
  | halt x w' =>
    cases x <;> simp only [Oper.upon] at h1 ⊢
    exact hp _ _ _ _ h1

theorem binv (hk : Hd.Keeps S) (hV : ∀ k v, Hd.Keeps (V k v)) (hok : okB md l B = true) (hp : ∀ c a a' w, Q (.panic c) a w → Q (.panic c) a' w)
    (p : Nat) (hpl : p = l.length ∨ (p + 1 = l.length ∧ ∀ k, k < p → k ∈ B[p]?.getD []))
    (step : ∀ i o, i < p → l[i]? = some o → stepI P l Q S V a0 i o)
    (last : ∀ (o : Oper) (vs : Nat → Value) (w : World), l[p]? = some o → S w → (∀ k, k < p → V k (vs k) w) → Region.wanted o (yielded l.toArray (fill 0 l (fun k => decide (k < p)) vs a0).tmps) = true ∧ o.wp P (fill 0 l (fun k => decide (k < p)) vs a0) w (fun a' w' => Q .normal a' w') Q)
    (fin : ∀ (vs : Nat → Value) (w : World), p = l.length → S w → (∀ k, k < l.length → V k (vs k) w) → Q .normal (fill 0 l (fun _ => true) vs a0) w) :
    ∀ (fuel : Nat) (listed : Array Bool) (a : Act) (w : World), (listed.toList.filter (fun b => !b)).length ≤ fuel → Inv l S V B a0 p listed a w → wpAny P md l.toArray Q fuel listed a w := by
  simp only [okB, Bool.and_eq_true] at hok
  obtain ⟨⟨⟨hsel, htab⟩, hlook⟩, hdg⟩ := hok
  have hdag := dagB_spec hdg
  have done : ∀ (listed : Array Bool) (a : Act) (w : World), Inv l S V B a0 p listed a w → Region.ready md l.toArray listed = [] → Q .normal a w := by
    intro listed a w hi hr
    have hall := hdag listed hi.sz hr
    have hpe : p = l.length := hpl.resolve_right (fun hh => by
      have := hall p (by omega)
      rw [hi.no] at this; cases this)
    obtain ⟨vs, rfl, hv⟩ := hi.v
    rw [fill_congr l 0 _ (fun _ => true) vs vs a0 (fun j hj => ⟨by simpa using hall j hj, fun _ => rfl⟩)]
    exact fin vs w hpe hi.s (fun k hk => hv k (hall k hk))
  intro fuel
  induction fuel with
  | zero =>
    intro listed a w hf hi
    have hnone : Region.ready md l.toArray listed = [] := by
      apply List.eq_nil_iff_forall_not_mem.2
      intro j hj
      obtain ⟨h0, o, ho, _⟩ := mem_ready.1 hj
      have hlt : j < listed.size := by
        rcases Nat.lt_or_ge j listed.size with h | h
        · exact h
        · simp [Array.getElem?_eq_none h] at h0
      have hmem : false ∈ listed.toList.filter (fun b => !b) := by
        rw [List.mem_filter]
        refine ⟨?_, rfl⟩
        have e : listed[j]? = some false := by
          rw [Array.getElem?_eq_getElem hlt]
          simp [hlt] at h0; rw [h0]
        simpa using Array.mem_of_getElem? e
      have hz := List.eq_nil_of_length_eq_zero (Nat.le_zero.1 hf)
      rw [hz] at hmem
      cases hmem
    exact ⟨hnone, done listed a w hi hnone⟩
  | succ fuel ih =>
    intro listed a w hf hi
    refine ⟨done listed a w hi, fun i hir => ?_⟩
    obtain ⟨h0, o, ho, hall⟩ := mem_ready.1 hir
    have ho' : l[i]? = some o := by simpa using ho
    have hlt : i < listed.size := by
      rcases Nat.lt_or_ge i listed.size with h | h
      · exact h
      · simp [Array.getElem?_eq_none h] at h0
    have h0' : listed.getD i false = false := by simp [hlt] at h0 ⊢; exact h0
    have hB : ∀ k ∈ B[i]?.getD [], listed.getD k false = true := by
      intro k hk
      obtain ⟨e, he, hb, hor⟩ := tabB_spec htab ho' hk
      have := hall e he hb
      rcases hor with rfl | hk2
      · exact this
      · exact hi.cl _ _ this hk2
    have hil : i < l.length := (List.getElem?_eq_some_iff.1 ho').1
    by_cases hip : i = p
    · -- the last one
      subst hip
      have hbef : ∀ k, k < i → k ∈ B[i]?.getD [] := (hpl.resolve_left (by omega)).2
      have hlen : i + 1 = l.length := (hpl.resolve_left (by omega)).1
      obtain ⟨vs, rfl, hv⟩ := hi.v
      have e : fill 0 l (fun k => listed.getD k false) vs a0 = fill 0 l (fun k => decide (k < i)) vs a0 := fill_congr l 0 _ _ vs vs a0 (fun j hj => by
        simp only [Nat.zero_add]
        by_cases hji : j < i
        · exact ⟨by rw [hB j (hbef j hji)]; simp [hji], by intros; trivial⟩
        · have : j = i := by omega
          subst this
          exact ⟨by rw [h0']; simp, by intros; trivial⟩)
      rw [e]
      have hl := last o vs w ho' hi.s (fun k hk => hv k (hB k (hbef k hk)))
      unfold wpOp
      simp only [ho, hl.1, if_true]
      refine .inl (Oper.wp_mono (fun a' w' hq => ?_) hl.2)
      have hempty : Region.ready md l.toArray (listed.setIfInBounds i true) = [] := by
        apply List.eq_nil_iff_forall_not_mem.2
        intro j hj
        obtain ⟨h1, oj, hoj, _⟩ := mem_ready.1 hj
        have hjl : j < l.length := (List.getElem?_eq_some_iff.1 (by simpa using hoj : l[j]? = some oj)).1
        by_cases hji : i = j
        · subst hji; simp [hlt] at h1
        · rw [getD_set_ne true hji] at h1
          have h2 := hB j (hbef j (by omega))
          have hjs : j < listed.size := by rw [hi.sz]; exact hjl
          simp [hjs] at h1 h2
          rw [h1] at h2; cases h2
      cases fuel with
      | zero => exact ⟨hempty, hq⟩
      | succ f => exact ⟨fun _ => hq, fun j hj => by rw [hempty] at hj; cases hj⟩
    have hipl : i < p := by rcases hpl with h | h <;> omega
    obtain ⟨vs, rfl, hv⟩ := hi.v
    have hlkB : ∀ k, lk l o k = true → k ∈ B[i]?.getD [] := by
      intro k hk
      unfold lk at hk
      cases hlk : l[k]? with
      | none => rw [hlk] at hk; cases hk
      | some o' =>
        rw [hlk] at hk
        cases hd : o'.dst with
        | none => simp only [hd] at hk; cases hk
        | some d => simp only [hd] at hk; exact (looksB_spec hlook ho' hlk hd).1 (by simpa using hk)
    have hst := step i o hipl ho' vs w hi.s (fun k hk => hv k (hB k (hlkB k hk)))
    unfold goI at hst
    -- slots that the operation looks at
    have same : ∀ t ∈ o.looksAt l.toArray, (fill 0 l (lk l o) vs a0).tmps[t]? = (fill 0 l (fun k => listed.getD k false) vs a0).tmps[t]? := by
      intro t ht
      refine fill_get l 0 _ _ vs vs a0 a0 t rfl rfl (fun j o' hj hd => ?_)
      have hm := (looksB_spec hlook ho' hj hd).1 ht
      simp only [Nat.zero_add]
      rw [hB j hm, lk_eq l o j o' hj, hd]
      refine ⟨by simpa using ht, by intros; trivial⟩
    have hwant : Region.wanted o (yielded l.toArray (fill 0 l (fun k => listed.getD k false) vs a0).tmps) = Region.wanted o (yielded l.toArray (fill 0 l (lk l o) vs a0).tmps) := by
      unfold Region.wanted
      cases hg : o.guard with
      | none => rfl
      | some gw =>
        obtain ⟨g, want⟩ := gw
        have hy : yielded l.toArray (fill 0 l (fun k => listed.getD k false) vs a0).tmps g = yielded l.toArray (fill 0 l (lk l o) vs a0).tmps g := by
          unfold yielded
          cases ht : (l.toArray[g]?).bind (·.dst) with
          | none => rfl
          | some t =>
            have := same t (by simp only [Oper.looksAt, hg, ht]; simp)
            simp only [Option.bind_some, this]
        simp only [hy]
    have hexec : execOp (fill 0 l (fun k => listed.getD k false) vs a0).eval o = execOp (fill 0 l (lk l o) vs a0).eval o := by
      refine execOp_congr o (Region.noSelect_spec hsel i o · · ho) (fun x hx => ?_)
      cases x with
      | tmp t =>
        have := same t (by unfold Oper.looksAt; exact List.mem_append_left _ (List.mem_filterMap.2 ⟨.tmp t, by simpa using hx, rfl⟩))
        show Array.getD _ t undef = Array.getD _ t undef
        rw [Array.getD_eq_getD_getElem?, Array.getD_eq_getD_getElem?, this]
      | _ => rfl
    have next : ∀ v w', Below w.heap.size w w' → V i v w' → wpAny P md l.toArray Q fuel (listed.setIfInBounds i true) ((fill 0 l (fun k => listed.getD k false) vs a0).put o.dst v) w' := by
      intro v w' hb hvi
      refine ih _ _ _ ?_ ⟨hk _ _ hi.s hb, by rw [getD_set_ne false hip]; exact hi.no, by simp [hi.sz], ?_, ?_⟩
      · have : ((listed.setIfInBounds i true).toList.filter (fun b => !b)).length + 1 = (listed.toList.filter (fun b => !b)).length := by
          rw [Array.toList_setIfInBounds]
          have hlt' : i < listed.toList.length := by simpa using hlt
          have hfalse : listed.toList[i] = false := by simp [hlt] at h0'; simpa using h0'
          rw [List.set_eq_take_append_cons_drop, if_pos hlt']
          conv => rhs; rw [← List.take_append_drop i listed.toList, List.drop_eq_getElem_cons hlt', hfalse]
          simp [List.filter_append]; omega
        omega
      · intro j k hj hkB
        by_cases hji : i = j
        · subst hji; exact getD_set_true (hB k hkB)
        · rw [getD_set_ne false hji] at hj
          exact getD_set_true (hi.cl j k hj hkB)
      · refine ⟨fun k => if k = i then v else vs k, ?_, ?_⟩
        · rw [fill_add l 0 i (fun k => listed.getD k false) (fun k => (listed.setIfInBounds i true).getD k false) vs (fun k => if k = i then v else vs k) a0 o ho' (by simpa using h0') (by simp [hlt]) (fun j hj => by
            simp only [Nat.zero_add]
            refine ⟨getD_set_ne false (Ne.symm hj), by simp [hj]⟩) (fun j k x y hx hy hjk d hd => (looksB_spec hlook hy hx hd).2 (Ne.symm hjk))]
          simp
        · intro k hkl
          by_cases hki : k = i
          · subst hki; simpa using hvi
          · rw [getD_set_ne false (Ne.symm hki)] at hkl
            simp only [hki, if_false]
            exact hV _ _ _ _ (hv k hkl) hb
    unfold wpOp
    simp only [ho]
    by_cases hw : Region.wanted o (yielded l.toArray (fill 0 l (lk l o) vs a0).tmps) = true
    · rw [hwant, hw]
      simp only [if_true]
      rw [if_pos hw] at hst
      exact .inl (wp_move (G := fun v w' => Below w.heap.size w w' ∧ V i v w') hp (by rw [fill_size, fill_size]) (by rw [fill_defers, fill_defers]) hexec (fun K hKK => hst K (fun v w' hb hvi => hKK v w' ⟨hb, hvi⟩)) (fun v w' hh => next v w' hh.1 hh.2))
    · rw [if_neg hw] at hst
      rw [hwant, if_neg hw]
      exact next undef w (Below.refl _ _) hst

/-- THE REGION'S LAW. -/
theorem wp_region {id : Nat} {w : World} (S : World → Prop) (V : Nat → Value → World → Prop) (hm : P.follows .mixedOrders = true) (hok : okB .any l (befs .any l) = true)
    (hk : Hd.Keeps S) (hV : ∀ k v, Hd.Keeps (V k v)) (hS : S w)
    (step : steps P l (Rg.Only Q) S V a0 l.length 0 l)
    (fin : ∀ w : World, S w → all V w (fun a => Q .normal a w) l.length 0 l a0) :
    (Code.region id l.toArray true).wp P Q a0 w := by
  refine Code.wp_mono (Q := Rg.Only Q) (fun e a w hh => ?_) ?_
  · cases e <;> first | exact hh | exact hh.elim
  refine wp_region_any hm (binv (Q := Rg.Only Q) hk hV hok (fun c a a' w h => h.elim) l.length (.inl rfl) (fun i o hi ho => by have := steps_get _ 0 l step i o hi ho; rwa [Nat.zero_add] at this) (fun o vs w h => by simp at h) (fun vs w _ hs hv => by rw [fill_congr l 0 (fun _ => true) (fun k => decide (k < l.length)) vs vs a0 (fun j hj => by simp [hj])]; exact all_fill l.length 0 l a0 _ vs (fun k => by rw [Nat.zero_add]) (fun k hk => by rw [Nat.zero_add]; exact hv k hk) (fin w hs)) _ _ a0 _ ?_ ⟨hk _ _ hS (Ext.drew (Below.refl _ _)), ?_, by simp, fun i k h => ?_, fun _ => undef, ?_, fun k h => ?_⟩)
  · refine Nat.le_trans (List.length_filter_le _ _) (by simp)
  · exact getD_rep _ _
  · rw [getD_rep] at h; cases h
  · exact (fill_none l 0 _ _ a0 (fun j => getD_rep _ _)).symm
  · rw [getD_rep] at h; cases h
/-- THE REGION'S LAW, of one whose last operation waits for all others and writes. -/
theorem wp_region_last {id : Nat} {w : World} (S : World → Prop) (V : Nat → Value → World → Prop) (p : Nat) (ol : Oper) (hm : P.follows .mixedOrders = true) (hok : okB .any l (befs .any l) = true)
    (hlast : lastB l p (befs .any l) = true) (hol : l[p]? = some ol)
    (hk : Hd.Keeps S) (hV : ∀ k v, Hd.Keeps (V k v)) (hS : S w)
    (step : steps P l (Rg.Only Q) S V a0 p 0 l)
    (hg : ol.guard = none)
    (last : ∀ w : World, S w → all V w (fun a => ∀ K : Act → World → Prop, (∀ a' w', Q .normal a' w' → K a' w') → ol.wp P a w K (Rg.Only Q)) p 0 l a0) :
    (Code.region id l.toArray true).wp P Q a0 w := by
  refine Code.wp_mono (Q := Rg.Only Q) (fun e a w hh => ?_) ?_
  · cases e <;> first | exact hh | exact hh.elim
  simp only [lastB, Bool.and_eq_true, decide_eq_true_eq, List.all_eq_true, List.mem_range] at hlast
  refine wp_region_any hm (binv (Q := Rg.Only Q) hk hV hok (fun c a a' w h => h.elim) p (.inr ⟨hlast.1, fun k hk => by simpa using hlast.2 k hk⟩) (fun i o hi ho => by have := steps_get _ 0 l step i o hi ho; rwa [Nat.zero_add] at this) (fun o vs w h hs hv => ?_) (fun vs w h => by omega) _ _ a0 _ ?_ ⟨hk _ _ hS (Ext.drew (Below.refl _ _)), ?_, by simp, fun i k h => ?_, fun _ => undef, ?_, fun k h => ?_⟩)
  · rw [hol] at h; cases h
    exact ⟨by unfold Region.wanted; rw [hg], all_fill p 0 l a0 _ vs (fun k => by rw [Nat.zero_add]) (fun k hk => by rw [Nat.zero_add]; exact hv k hk) (last w hs) _ (fun _ _ hq => hq)⟩
  · refine Nat.le_trans (List.length_filter_le _ _) (by simp)
  · exact getD_rep _ _
  · rw [getD_rep] at h; cases h
  · exact (fill_none l 0 _ _ a0 (fun j => getD_rep _ _)).symm
  · rw [getD_rep] at h; cases h
end
end Iv
end Go.Proofs.Ytfjgnhmmakeaeaa
