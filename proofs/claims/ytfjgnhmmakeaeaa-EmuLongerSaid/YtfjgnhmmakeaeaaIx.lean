/- Regions that draw their order: a first part whose operations may float, each telling what its value means in any later world, and a last part that waits for all ahead of it and goes in the order of the text. No condition but a static look. -/
import Derived.Test.YtfjgnhmmakeaeaaIv
namespace Go.Proofs.Ytfjgnhmmakeaeaa
open Go
open Go.RowKit
set_option linter.unusedVariables false
namespace Ix
open Iv (fill put_size put_defers fill_size fill_defers put_get fill_get fill_congr getD_rep fill_none fill_add befs tabB dagB dagB_spec tabB_spec lk needs ask askN ask_fill ask_needs askN_nil askN_cons all all_fill all_nil all_cons fill_off lk_eq put_same wp_move vl)

/-- What a value means, and that it goes on meaning it. -/
structure Kept where
  f : Value → World → Prop
  h : ∀ v, Hd.Keeps (f v)
def kis (c : Value) : Kept := ⟨fun v _ => v = c, fun _ _ _ h _ => h⟩
def ksat (p : Value → Prop) : Kept := ⟨fun v _ => p v, fun _ _ _ h _ => h⟩
def kwld (p : Value → World → Prop) (h : ∀ v, Hd.Keeps (p v)) : Kept := ⟨p, h⟩
def vk (L : List Kept) (k : Nat) : Value → World → Prop := ((L[k]?).map Kept.f).getD (fun _ _ => True)
theorem vk_keeps (L : List Kept) (k : Nat) (v : Value) : Hd.Keeps (vk L k v) := by
  unfold vk
  cases L[k]? with
  | none => exact fun _ _ _ _ => trivial
  | some x => exact x.h v
def KeepsR (R : World → World → Prop) (S : World → Prop) : Prop := ∀ w w', S w → R w w' → S w'
def looksB (l : List Oper) (p : Nat) (B : List (List Nat)) : Bool :=
  (List.range p).all fun i => match l[i]? with
    | none => true
    | some o => (List.range p).all fun j => match l[j]? with
      | none => true
      | some o' => match o'.dst with
        | none => true
        | some d => (!(o.looksAt l.toArray).contains d || (B[i]?.getD []).contains j) && (i == j || o.dst != some d)
def tailB (l : List Oper) (p : Nat) (B : List (List Nat)) : Bool :=
  (List.range l.length).all fun i => decide (i < p) || (List.range i).all fun k => (B[i]?.getD []).contains k
def okB (md : Region.Mode) (l : List Oper) (p : Nat) (B : List (List Nat)) : Bool := Region.noSelect l.toArray && tabB md l B && looksB l p B && dagB md l && tailB l p B
theorem tailB_spec {l : List Oper} {p : Nat} {B : List (List Nat)} (h : tailB l p B = true) : ∀ i, p ≤ i → i < l.length → ∀ k, k < i → k ∈ B[i]?.getD [] := by
  intro i hi hil k hk
  unfold tailB at h
  rw [List.all_eq_true] at h
  have h1 := h i (List.mem_range.2 hil)
  simp only [Bool.or_eq_true, decide_eq_true_eq, List.all_eq_true, List.mem_range] at h1
  have h2 := (h1.resolve_left (by omega)) k hk
  simpa using h2
theorem looksB_spec {l : List Oper} {p : Nat} {B : List (List Nat)} (h : looksB l p B = true) {i j : Nat} {o o' : Oper} (hi : l[i]? = some o) (hip : i < p) (hj : l[j]? = some o') (hjp : j < p) {d : Tmp} (hd : o'.dst = some d) :
    (d ∈ o.looksAt l.toArray → j ∈ B[i]?.getD []) ∧ (i ≠ j → o.dst ≠ some d) := by
  unfold looksB at h
  rw [List.all_eq_true] at h
  have h1 := h i (List.mem_range.2 hip)
  simp only [hi] at h1
  rw [List.all_eq_true] at h1
  have h2 := h1 j (List.mem_range.2 hjp)
  simp only [hj, hd, Bool.and_eq_true, Bool.or_eq_true, Bool.not_eq_true', beq_iff_eq, bne_iff_ne, ne_eq] at h2
  refine ⟨fun hm => ?_, fun hne => h2.2.resolve_left hne⟩
  rcases h2.1 with h3 | h3
  · have : (o.looksAt l.toArray).contains d = true := by simpa using hm
    rw [h3] at this; cases this
  · simpa using h3
theorem take_get {l : List Oper} {p j : Nat} {o : Oper} (h : (l.take p)[j]? = some o) : j < p ∧ l[j]? = some o := by
  rw [List.getElem?_take] at h
  split at h
  · exact ⟨by assumption, h⟩
  · cases h
theorem dagB_lt {md : Region.Mode} {l : List Oper} (h : dagB md l = true) {i : Nat} {o : Oper} (hi : l[i]? = some o) {e : Edge} (he : e ∈ o.after) (hb : Region.binds md e = true) : e.on < i := by
  unfold dagB at h
  rw [List.all_eq_true] at h
  have h1 := h i (List.mem_range.2 (List.getElem?_eq_some_iff.1 hi).1)
  simp only [hi] at h1
  rw [List.all_eq_true] at h1
  have h2 := h1 e (by simpa using he)
  rw [hb] at h2
  simpa using h2
theorem B_lt {md : Region.Mode} {l : List Oper} {B : List (List Nat)} (htab : tabB md l B = true) (hdg : dagB md l = true) : ∀ (i : Nat), i < l.length → ∀ k, k ∈ B[i]?.getD [] → k < i := by
  intro i
  induction i using Nat.strongRecOn with
  | _ i ih =>
    intro hil k hk
    have hi : l[i]? = some l[i] := List.getElem?_eq_getElem hil
    obtain ⟨e, he, hb, hor⟩ := tabB_spec htab hi hk
    have hlt := dagB_lt hdg hi he hb
    rcases hor with rfl | hk2
    · exact hlt
    · exact Nat.lt_trans (ih _ hlt (by omega) k hk2) hlt
theorem count_set {listed : Array Bool} {i : Nat} (hlt : i < listed.size) (h0 : listed.getD i false = false) : ((listed.setIfInBounds i true).toList.filter (fun b => !b)).length + 1 = (listed.toList.filter (fun b => !b)).length := by
  rw [Array.toList_setIfInBounds]
  have hlt' : i < listed.toList.length := by simpa using hlt
  have hfalse : listed.toList[i] = false := by simp [hlt] at h0; simpa using h0
  rw [List.set_eq_take_append_cons_drop, if_pos hlt']
  conv => rhs; rw [← List.take_append_drop i listed.toList, List.drop_eq_getElem_cons hlt', hfalse]
  simp [List.filter_append]; omega
theorem none_ready {md : Region.Mode} {ops : Array Oper} {listed : Array Bool} (hf : (listed.toList.filter (fun b => !b)).length ≤ 0) : Region.ready md ops listed = [] := by
  apply List.eq_nil_iff_forall_not_mem.2
  intro j hj
  obtain ⟨h0, o, ho, _⟩ := mem_ready.1 hj
  have hlt : j < listed.size := by
    rcases Nat.lt_or_ge j listed.size with h | h
    · exact h
    · simp [Array.getElem?_eq_none h] at h0
  have hmem : false ∈ listed.toList.filter (fun b => !b) := by
    rw [List.mem_filter]
    refine ⟨?_, rfl⟩
    have e : listed[j]? = some false := by
      rw [Array.getElem?_eq_getElem hlt]
      simp [hlt] at h0; rw [h0]
    simpa using Array.mem_of_getElem? e
  have hz := List.eq_nil_of_length_eq_zero (Nat.le_zero.1 hf)
  rw [hz] at hmem
  cases hmem

section
variable {P : Program} {md : Region.Mode} {l : List Oper} {p : Nat} {Q : Exit → Act → World → Prop} {R : World → World → Prop} {S : World → Prop} {V : Nat → Value → World → Prop} {B : List (List Nat)} {a0 : Act} {al : Nat → Bool}

theorem tail_any (htab : tabB md l B = true) (hdg : dagB md l = true) (hafter : ∀ i, p ≤ i → i < l.length → ∀ k, k < i → k ∈ B[i]?.getD []) :
    ∀ (fuel q : Nat) (listed : Array Bool) (a : Act) (w : World), p ≤ q → q ≤ l.length → listed.size = l.length → (∀ k, k < l.length → listed.getD k false = decide (k < q)) → (listed.toList.filter (fun b => !b)).length ≤ fuel →
    wpList P l.toArray Q (l.drop q) a w → wpAny P md l.toArray Q fuel listed a w := by
  have done : ∀ (q : Nat) (listed : Array Bool) (a : Act) (w : World), q ≤ l.length → listed.size = l.length → (∀ k, k < l.length → listed.getD k false = decide (k < q)) → wpList P l.toArray Q (l.drop q) a w → Region.ready md l.toArray listed = [] → Q .normal a w := by
    intro q listed a w hq hs hex h hr
    have hall := dagB_spec hdg listed hs hr
    have hpe : q = l.length := by
      rcases Nat.lt_or_ge q l.length with h | h
      · have h1 := hall q h
        rw [hex q h] at h1; simp at h1
      · omega
    rw [show l.drop q = [] by rw [hpe]; simp] at h
    exact h
  intro fuel
  induction fuel with
  | zero =>
    intro q listed a w hpq hq hs hex hf h
    have hnone : Region.ready md l.toArray listed = [] := none_ready hf
    exact ⟨hnone, done q listed a w hq hs hex h hnone⟩
  | succ fuel ih =>
    intro q listed a w hpq hq hs hex hf h
    refine ⟨done q listed a w hq hs hex h, fun i hir => ?_⟩
    obtain ⟨h0, o, ho, hall⟩ := mem_ready.1 hir
    have ho' : l[i]? = some o := by simpa using ho
    have hil : i < l.length := (List.getElem?_eq_some_iff.1 ho').1
    have hlt : i < listed.size := by omega
    have h0' : listed.getD i false = false := by simp [hlt] at h0 ⊢; exact h0
    have hqi : q ≤ i := by
      have h1 := hex i hil
      rw [h0'] at h1
      simp at h1; exact h1
    have hi : i = q := by
      rcases Nat.lt_or_ge q i with hlt2 | hge
      · exfalso
        obtain ⟨e, he, hb, hor⟩ := tabB_spec htab ho' (hafter i (by omega) hil q hlt2)
        have h1 := hall e he hb
        have h2 := dagB_lt hdg ho' he hb
        rw [hex e.on (by omega)] at h1
        have h3 : e.on < q := by simpa using h1
        rcases hor with h4 | h4
        · omega
        · have := B_lt htab hdg e.on (by omega) q h4
          omega
      · omega
    subst hi
    have hd : l.drop i = o :: l.drop (i + 1) := by
      rw [List.drop_eq_getElem_cons hil]
      congr 1
      exact (List.getElem?_eq_some_iff.1 ho').2
    rw [hd] at h
    have hrest : ∀ a w, wpList P l.toArray Q (l.drop (i + 1)) a w → wpAny P md l.toArray Q fuel (listed.setIfInBounds i true) a w := fun a w hh =>
      ih (i + 1) _ a w (by omega) (by omega) (by simp [hs]) (fun k hk => by
        by_cases hki : i = k
        · subst hki; simp [hlt]
        · rw [getD_set_ne false hki, hex k hk]
          simp; omega) (by have := count_set hlt h0'; omega) hh
    unfold wpList at h
    unfold wpOp
    simp only [ho]
    split
    · rename_i hw
      rw [if_pos hw] at h
      rcases h with h | h
      · exact .inl (Oper.wp_mono hrest h)
      · exact .inr h
    · rename_i hw
      rw [if_neg hw] at h
      exact hrest _ _ h

/-- What is to be shown of operation i: run in any world of S in which those that it looks at mean what they mean. -/
structure goI (P : Program) (l : List Oper) (Q : Exit → Act → World → Prop) (R : World → World → Prop) (V : Nat → Value → World → Prop) (al : Nat → Bool) (i : Nat) (o : Oper) (w : World) (a : Act) : Prop where
  of ::
  get : if Region.wanted o (yielded l.toArray a.tmps) = true then ∀ K : Act → World → Prop, (∀ v w', R w w' → V i v w' → (al i = true → v = Value.pointer (some ⟨w.heap.size, 0, none⟩)) → K (a.put o.dst v) w') → o.wp P a w K Q
    else V i undef w ∧ al i = false
structure stepI (P : Program) (l : List Oper) (p : Nat) (Q : Exit → Act → World → Prop) (R : World → World → Prop) (S : World → Prop) (V : Nat → Value → World → Prop) (al : Nat → Bool) (a0 : Act) (i : Nat) (o : Oper) : Prop where
  of ::
  get : ∀ (vs : Nat → Value) (w : World), S w → (∀ k, k < p → lk l o k = true → V k (vs k) w) → goI P l Q R V al i o w (fill 0 (l.take p) (lk l o) vs a0)
theorem stepI_ofN {i : Nat} {o : Oper} (N : List (Nat × Option Tmp)) (hN : decide (needs (o.looksAt l.toArray) 0 (l.take p) = N) = true) (h : ∀ w, S w → askN V w (goI P l Q R V al i o w) N a0) : stepI P l p Q R S V al a0 i o := .of fun vs w hs hv =>
  ask_fill (l.take p) 0 a0 _ vs (fun k o' ho => by rw [Nat.zero_add]; exact lk_eq l o k o' (take_get ho).2) (fun k hk hkl => by rw [Nat.zero_add] at hkl ⊢; exact hv k (by simp at hk; omega) hkl)
    (ask_needs (l.take p) 0 a0 (by rw [of_decide_eq_true hN]; exact h w hs))
theorem goI_yes {i : Nat} {o : Oper} {w : World} {a : Act} (hw : Region.wanted o (yielded l.toArray a.tmps) = true) (hal : al i = false)
    (h : ∀ K : Act → World → Prop, (∀ v w', R w w' → V i v w' → K (a.put o.dst v) w') → o.wp P a w K Q) : goI P l Q R V al i o w a := by
  refine .of ?_; rw [if_pos hw]; exact fun K hK => h K (fun v w' hr hv => hK v w' hr hv (fun hh => by rw [hal] at hh; cases hh))
theorem goI_new {i : Nat} {o : Oper} {w : World} {a : Act} (hw : Region.wanted o (yielded l.toArray a.tmps) = true)
    (h : ∀ K : Act → World → Prop, (∀ w', R w w' → V i (Value.pointer (some ⟨w.heap.size, 0, none⟩)) w' → K (a.put o.dst (Value.pointer (some ⟨w.heap.size, 0, none⟩))) w') → o.wp P a w K Q) : goI P l Q R V al i o w a := by
  refine .of ?_; rw [if_pos hw]; intro K hK
  exact h K (fun w' hr hv => hK _ w' hr hv (fun _ => rfl))
theorem goI_no {i : Nat} {o : Oper} {w : World} {a : Act} (hw : Region.wanted o (yielded l.toArray a.tmps) = false) (hal : al i = false) (h : V i undef w) : goI P l Q R V al i o w a := by
  refine .of ?_; rw [hw]; exact ⟨h, hal⟩
/-- All steps, one after the other. -/
def steps (P : Program) (l : List Oper) (p : Nat) (Q : Exit → Act → World → Prop) (R : World → World → Prop) (S : World → Prop) (V : Nat → Value → World → Prop) (al : Nat → Bool) (a0 : Act) : Nat → Nat → List Oper → Prop
  | 0, _, _ => True
  | _, _, [] => True
  | n + 1, i, o :: rest => stepI P l p Q R S V al a0 i o ∧ steps P l p Q R S V al a0 n (i + 1) rest
theorem steps_cons {n m i j : Nat} {o : Oper} {rest : List Oper} (hj : i + 1 = j) (hm : m = n + 1) (h : stepI P l p Q R S V al a0 i o) (hr : steps P l p Q R S V al a0 n j rest) : steps P l p Q R S V al a0 m i (o :: rest) := by
  subst hj; subst hm; exact ⟨h, hr⟩
theorem steps_nil {i : Nat} {rest : List Oper} : steps P l p Q R S V al a0 0 i rest := by cases rest <;> trivial
theorem steps_get : ∀ (n i : Nat) (r : List Oper), steps P l p Q R S V al a0 n i r → ∀ j o, j < n → r[j]? = some o → stepI P l p Q R S V al a0 (i + j) o
  | 0, _, _, _, _, _, hj, _ => by omega
  | n + 1, _, [], _, _, _, _, ho => by simp at ho
  | n + 1, i, o0 :: r, h, 0, o, _, ho => by simp at ho; subst ho; exact h.1
  | n + 1, i, o0 :: r, h, j + 1, o, hj, ho => by
    have := steps_get n (i + 1) r h.2 j o (by omega) (by simpa using ho)
    rw [show i + (j + 1) = i + 1 + j by omega]; exact this
theorem fill_take : ∀ (n i : Nat) (l : List Oper) (on : Nat → Bool) (vs : Nat → Value) (a : Act), (∀ k, on (i + k) = decide (k < n)) → fill i l on vs a = fill i (l.take n) on vs a
  | 0, i, l, on, vs, a, h => by
    rw [fill_off l i on vs a (fun k => by rw [h]; simp)]
    simp [fill]
  | n + 1, i, [], on, vs, a, h => by simp
  | n + 1, i, o :: l, on, vs, a, h => by
    simp only [List.take_succ_cons]
    unfold fill
    exact fill_take n (i + 1) l on vs _ (fun k => by have := h (k + 1); rw [show i + 1 + k = i + (k + 1) by omega, this]; simp)
/-- All of the first n, by name, for what comes behind. -/
def allV (V : Nat → Value → World → Prop) (vs : Nat → Value) (w : World) (G : Act → Prop) : Nat → Nat → List Oper → Act → Prop
  | 0, _, _, a => G a
  | _, _, [], a => G a
  | n + 1, j, o :: rest, a => ∀ v, vs j = v → V j v w → allV V vs w G n (j + 1) rest (a.put o.dst v)
theorem allV_of {V : Nat → Value → World → Prop} {vs : Nat → Value} {w : World} {G : Act → Prop} : ∀ (n j : Nat) (l : List Oper) (a : Act) (on : Nat → Bool),
    (∀ k, on (j + k) = decide (k < n)) → (∀ k, k < n → V (j + k) (vs (j + k)) w) → allV V vs w G n j l a → G (fill j l on vs a)
  | 0, j, l, a, on, hon, _, h => by
    rw [fill_off l j on vs a (fun k => by rw [hon]; simp)]
    cases l <;> exact h
  | n + 1, _, [], _, _, _, _, h => h
  | n + 1, j, o :: l, a, on, hon, hv, h => by
    unfold fill
    have h0 := hon 0
    simp only [Nat.add_zero] at h0
    rw [h0]
    simp only [Nat.zero_lt_succ, decide_true, if_true]
    exact allV_of n (j + 1) l _ on (fun k => by have := hon (k + 1); rw [show j + 1 + k = j + (k + 1) by omega, this]; simp) (fun k hk => by
      have := hv (k + 1) (by omega); rwa [show j + (k + 1) = j + 1 + k by omega] at this) (h _ rfl (by have := hv 0 (by omega); simpa using this))
theorem allV_nil {V : Nat → Value → World → Prop} {vs : Nat → Value} {w : World} {G : Act → Prop} {j : Nat} {l : List Oper} {a : Act} (h : G a) : allV V vs w G 0 j l a := by cases l <;> exact h
theorem allV_cons {V : Nat → Value → World → Prop} {vs : Nat → Value} {w : World} {G : Act → Prop} {n m j k : Nat} {o : Oper} {l : List Oper} {a : Act} (hj : j + 1 = k) (hm : m = n + 1) (h : ∀ v, vs j = v → V j v w → allV V vs w G n k l (a.put o.dst v)) : allV V vs w G m j (o :: l) a := by
  subst hj; subst hm; exact h
theorem only {a : Act} {w : World} (h : Q .normal a w) : Rg.Only Q .normal a w := h
theorem nil {P : Program} {ops : Array Oper} {a : Act} {w : World} (h : Q .normal a w) : wpList P ops (Rg.Only Q) [] a w := h
/-- The new block of an 'alloc', by what it holds. -/
theorem not_al (V : Nat → Value → World → Prop) : ∀ j v w, (fun _ : Nat => false) j = true → V j v w → ∃ b, v = Value.pointer (some ⟨b, 0, none⟩) ∧ b < w.heap.size := fun _ _ _ h => by cases h
structure Inv (l : List Oper) (S : World → Prop) (V : Nat → Value → World → Prop) (B : List (List Nat)) (al : Nat → Bool) (a0 : Act) (p : Nat) (listed : Array Bool) (a : Act) (w : World) : Prop where
  s : S w
  no : listed.getD p false = false
  sz : listed.size = l.length
  cl : ∀ i k, listed.getD i false = true → k ∈ B[i]?.getD [] → listed.getD k false = true
  v : ∃ vs : Nat → Value, a = fill 0 (l.take p) (fun k => listed.getD k false) vs a0 ∧ (∀ k, listed.getD k false = true → V k (vs k) w) ∧ ∀ i j, al i = true → al j = true → i ≠ j → listed.getD i false = true → listed.getD j false = true → vs i ≠ vs j

theorem binv (hR : ∀ w, R w w) (hk : KeepsR R S) (hV : ∀ k v, KeepsR R (V k v)) (hok : okB md l p B = true) (hp : ∀ c a a' w, Q (.panic c) a w → Q (.panic c) a' w) (hpl : p ≤ l.length)
    (step : ∀ i o, i < p → l[i]? = some o → stepI P l p Q R S V al a0 i o)
    (hal : ∀ j v w, al j = true → V j v w → ∃ b, v = Value.pointer (some ⟨b, 0, none⟩) ∧ b < w.heap.size)
    (tail : ∀ (vs : Nat → Value) (w : World), S w → (∀ k, k < p → V k (vs k) w) → (∀ i j, i < p → j < p → al i = true → al j = true → i ≠ j → vs i ≠ vs j) → wpList P l.toArray Q (l.drop p) (fill 0 (l.take p) (fun k => decide (k < p)) vs a0) w) :
    ∀ (fuel : Nat) (listed : Array Bool) (a : Act) (w : World), (listed.toList.filter (fun b => !b)).length ≤ fuel → Inv l S V B al a0 p listed a w → wpAny P md l.toArray Q fuel listed a w := by
  simp only [okB, Bool.and_eq_true] at hok
  obtain ⟨⟨⟨⟨hsel, htab⟩, hlook⟩, hdg⟩, htl⟩ := hok
  have hafter := tailB_spec htl
  have hdag := dagB_spec hdg
  have done : ∀ (listed : Array Bool) (a : Act) (w : World), Inv l S V B al a0 p listed a w → Region.ready md l.toArray listed = [] → Q .normal a w := by
    intro listed a w hi hr
    have hall := hdag listed hi.sz hr
    have hpe : p = l.length := by
      rcases Nat.lt_or_ge p l.length with h | h
      · have := hall p h
        rw [hi.no] at this; cases this
      · omega
    obtain ⟨vs, rfl, hv, hds⟩ := hi.v
    have ht := tail vs w hi.s (fun k hk => hv k (hall k (by omega))) (fun i j hip hjp hi hj hne => hds i j hi hj hne (hall i (by omega)) (hall j (by omega)))
    rw [show l.drop p = [] by rw [hpe]; simp] at ht
    rw [fill_congr (l.take p) 0 _ (fun k => decide (k < p)) vs vs a0 (fun j hj => ⟨by simp only [Nat.zero_add]; rw [hall j (by simp at hj; omega)]; simp at hj; simp; omega, fun _ => rfl⟩)]
    exact ht
  intro fuel
  induction fuel with
  | zero =>
    intro listed a w hf hi
    have hnone : Region.ready md l.toArray listed = [] := by
      apply List.eq_nil_iff_forall_not_mem.2
      intro j hj
      obtain ⟨h0, o, ho, _⟩ := mem_ready.1 hj
      have hlt : j < listed.size := by
        rcases Nat.lt_or_ge j listed.size with h | h
        · exact h
        · simp [Array.getElem?_eq_none h] at h0
      have hmem : false ∈ listed.toList.filter (fun b => !b) := by
        rw [List.mem_filter]
        refine ⟨?_, rfl⟩
        have e : listed[j]? = some false := by
          rw [Array.getElem?_eq_getElem hlt]
          simp [hlt] at h0; rw [h0]
        simpa using Array.mem_of_getElem? e
      have hz := List.eq_nil_of_length_eq_zero (Nat.le_zero.1 hf)
      rw [hz] at hmem
      cases hmem
    exact ⟨hnone, done listed a w hi hnone⟩
  | succ fuel ih =>
    intro listed a w hf hi
    refine ⟨done listed a w hi, fun i hir => ?_⟩
    obtain ⟨h0, o, ho, hall⟩ := mem_ready.1 hir
    have ho' : l[i]? = some o := by simpa using ho
    have hlt : i < listed.size := by
      rcases Nat.lt_or_ge i listed.size with h | h
      · exact h
      · simp [Array.getElem?_eq_none h] at h0
    have h0' : listed.getD i false = false := by simp [hlt] at h0 ⊢; exact h0
    have hB : ∀ k ∈ B[i]?.getD [], listed.getD k false = true := by
      intro k hk
      obtain ⟨e, he, hb, hor⟩ := tabB_spec htab ho' hk
      have := hall e he hb
      rcases hor with rfl | hk2
      · exact this
      · exact hi.cl _ _ this hk2
    have hil : i < l.length := (List.getElem?_eq_some_iff.1 ho').1
    by_cases hipl : p ≤ i
    · have hip : i = p := by
        rcases Nat.lt_or_ge p i with h | h
        · have := hB p (hafter i hipl hil p h)
          rw [hi.no] at this; cases this
        · omega
      subst hip
      obtain ⟨vs, rfl, hv, hds⟩ := hi.v
      have hex : ∀ k, k < l.length → listed.getD k false = decide (k < i) := fun k hk => by
        by_cases hki : k < i
        · rw [hB k (hafter i (Nat.le_refl _) hil k hki)]; simp [hki]
        · by_cases hke : k = i
          · subst hke; rw [h0']; simp
          · cases hl : listed.getD k false with
            | false => simp [hki]
            | true => have := hi.cl k i hl (hafter k (by omega) hk i (by omega)); rw [h0'] at this; cases this
      have ht := tail vs w hi.s (fun k hk => hv k (by rw [hex k (by omega)]; simp [hk])) (fun i' j' hip hjp hi' hj' hne => hds i' j' hi' hj' hne (by rw [hex i' (by omega)]; simp [hip]) (by rw [hex j' (by omega)]; simp [hjp]))
      rw [← fill_congr (l.take i) 0 (fun k => listed.getD k false) (fun k => decide (k < i)) vs vs a0 (fun j hj => ⟨by simp only [Nat.zero_add]; exact hex j (by simp at hj; omega), fun _ => rfl⟩)] at ht
      exact (tail_any htab hdg hafter (fuel + 1) i listed _ w (Nat.le_refl _) (Nat.le_of_lt hil) hi.sz hex hf ht).2 i hir
    have hip : ¬ i = p := by omega
    have hip2 : i < p := by omega
    obtain ⟨vs, rfl, hv, hds⟩ := hi.v
    have hlkB : ∀ k, k < p → lk l o k = true → k ∈ B[i]?.getD [] := by
      intro k hkp hk
      unfold lk at hk
      cases hlk : l[k]? with
      | none => rw [hlk] at hk; cases hk
      | some o' =>
        rw [hlk] at hk
        cases hd : o'.dst with
        | none => simp only [hd] at hk; cases hk
        | some d => simp only [hd] at hk; exact (looksB_spec hlook ho' hip2 hlk hkp hd).1 (by simpa using hk)
    have hst := (step i o hip2 ho').get vs w hi.s (fun k hkp hk => hv k (hB k (hlkB k hkp hk)))
    replace hst := hst.get
    -- slots that the operation looks at
    have same : ∀ t ∈ o.looksAt l.toArray, (fill 0 (l.take p) (lk l o) vs a0).tmps[t]? = (fill 0 (l.take p) (fun k => listed.getD k false) vs a0).tmps[t]? := by
      intro t ht
      refine fill_get (l.take p) 0 _ _ vs vs a0 a0 t rfl rfl (fun j o' hj hd => ?_)
      obtain ⟨hjp, hj⟩ := take_get hj
      have hm := (looksB_spec hlook ho' hip2 hj hjp hd).1 ht
      simp only [Nat.zero_add]
      rw [hB j hm, lk_eq l o j o' hj, hd]
      refine ⟨by simpa using ht, by intros; trivial⟩
    have hwant : Region.wanted o (yielded l.toArray (fill 0 (l.take p) (fun k => listed.getD k false) vs a0).tmps) = Region.wanted o (yielded l.toArray (fill 0 (l.take p) (lk l o) vs a0).tmps) := by
      unfold Region.wanted
      cases hg : o.guard with
      | none => rfl
      | some gw =>
        obtain ⟨g, want⟩ := gw
        have hy : yielded l.toArray (fill 0 (l.take p) (fun k => listed.getD k false) vs a0).tmps g = yielded l.toArray (fill 0 (l.take p) (lk l o) vs a0).tmps g := by
          unfold yielded
          cases ht : (l.toArray[g]?).bind (·.dst) with
          | none => rfl
          | some t =>
            have := same t (by simp only [Oper.looksAt, hg, ht]; simp)
            simp only [Option.bind_some, this]
        simp only [hy]
    have hexec : execOp (fill 0 (l.take p) (fun k => listed.getD k false) vs a0).eval o = execOp (fill 0 (l.take p) (lk l o) vs a0).eval o := by
      refine execOp_congr o (Region.noSelect_spec hsel i o · · ho) (fun x hx => ?_)
      cases x with
      | tmp t =>
        have := same t (by unfold Oper.looksAt; exact List.mem_append_left _ (List.mem_filterMap.2 ⟨.tmp t, by simpa using hx, rfl⟩))
        show Array.getD _ t undef = Array.getD _ t undef
        rw [Array.getD_eq_getD_getElem?, Array.getD_eq_getD_getElem?, this]
      | _ => rfl
    have next : ∀ v w', R w w' → V i v w' → (al i = true → v = Value.pointer (some ⟨w.heap.size, 0, none⟩)) → wpAny P md l.toArray Q fuel (listed.setIfInBounds i true) ((fill 0 (l.take p) (fun k => listed.getD k false) vs a0).put o.dst v) w' := by
      intro v w' hb hvi hnew
      refine ih _ _ _ ?_ ⟨hk _ _ hi.s hb, by rw [getD_set_ne false hip]; exact hi.no, by simp [hi.sz], ?_, ?_⟩
      · have : ((listed.setIfInBounds i true).toList.filter (fun b => !b)).length + 1 = (listed.toList.filter (fun b => !b)).length := by
          rw [Array.toList_setIfInBounds]
          have hlt' : i < listed.toList.length := by simpa using hlt
          have hfalse : listed.toList[i] = false := by simp [hlt] at h0'; simpa using h0'
          rw [List.set_eq_take_append_cons_drop, if_pos hlt']
          conv => rhs; rw [← List.take_append_drop i listed.toList, List.drop_eq_getElem_cons hlt', hfalse]
          simp [List.filter_append]; omega
        omega
      · intro j k hj hkB
        by_cases hji : i = j
        · subst hji; exact getD_set_true (hB k hkB)
        · rw [getD_set_ne false hji] at hj
          exact getD_set_true (hi.cl j k hj hkB)
      · refine ⟨fun k => if k = i then v else vs k, ?_, ?_, ?_⟩
        · rw [fill_add (l.take p) 0 i (fun k => listed.getD k false) (fun k => (listed.setIfInBounds i true).getD k false) vs (fun k => if k = i then v else vs k) a0 o (by rw [List.getElem?_take]; simp [hip2, ho']) (by simpa using h0') (by simp [hlt]) (fun j hj => by
            simp only [Nat.zero_add]
            refine ⟨getD_set_ne false (Ne.symm hj), by simp [hj]⟩) (fun j k x y hx hy hjk d hd => (looksB_spec hlook (take_get hy).2 (take_get hy).1 (take_get hx).2 (take_get hx).1 hd).2 (Ne.symm hjk))]
          simp
        · intro k hkl
          by_cases hki : k = i
          · subst hki; simpa using hvi
          · rw [getD_set_ne false (Ne.symm hki)] at hkl
            simp only [hki, if_false]
            exact hV _ _ _ _ (hv k hkl) hb
        · intro i' j' hai haj hne hli hlj
          by_cases hi1 : i' = i
          · have hj1 : ¬ j' = i := fun e => hne (hi1.trans e.symm)
            rw [getD_set_ne false (Ne.symm hj1)] at hlj
            simp only [hi1, if_true, hj1, if_false]
            rw [hi1] at hai
            obtain ⟨b, eb, hlb⟩ := hal j' _ w haj (hv j' hlj)
            rw [hnew hai, eb]
            intro e
            injection e with e; injection e with e; injection e with e
            omega
          · rw [getD_set_ne false (Ne.symm hi1)] at hli
            by_cases hj1 : j' = i
            · simp only [hi1, if_false, hj1, if_true]
              rw [hj1] at haj
              obtain ⟨b, eb, hlb⟩ := hal i' _ w hai (hv i' hli)
              rw [hnew haj, eb]
              intro e
              injection e with e; injection e with e; injection e with e
              omega
            · rw [getD_set_ne false (Ne.symm hj1)] at hlj
              simp only [hi1, if_false, hj1, if_false]
              exact hds i' j' hai haj hne hli hlj
    unfold wpOp
    simp only [ho]
    by_cases hw : Region.wanted o (yielded l.toArray (fill 0 (l.take p) (lk l o) vs a0).tmps) = true
    · rw [hwant, hw]
      simp only [if_true]
      rw [if_pos hw] at hst
      exact .inl (wp_move (G := fun v w' => R w w' ∧ V i v w' ∧ (al i = true → v = Value.pointer (some ⟨w.heap.size, 0, none⟩))) hp (by rw [fill_size, fill_size]) (by rw [fill_defers, fill_defers]) hexec (fun K hKK => hst K (fun v w' hb hvi hn => hKK v w' ⟨hb, hvi, hn⟩)) (fun v w' hh => next v w' hh.1 hh.2.1 hh.2.2))
    · rw [if_neg hw] at hst
      rw [hwant, if_neg hw]
      exact next undef w (hR w) hst.1 (fun hh => by rw [hst.2] at hh; cases hh)


/-- THE REGION'S LAW. -/
theorem wp_regionR {id : Nat} {w : World} (p : Nat) (R : World → World → Prop) (S : World → Prop) (V : Nat → Value → World → Prop) (al : Nat → Bool) (hm : P.follows .mixedOrders = true) (hok : okB .any l p (befs .any l) = true) (hpl : decide (p ≤ l.length) = true)
    (hR : ∀ w, R w w) (hk : KeepsR R S) (hV : ∀ k v, KeepsR R (V k v)) (hal : ∀ j v w, al j = true → V j v w → ∃ b, v = Value.pointer (some ⟨b, 0, none⟩) ∧ b < w.heap.size) (hS : S w.drew)
    (step : steps P l p (Rg.Only Q) R S V al a0 p 0 l)
    (fin : ∀ (vs : Nat → Value) (w : World), S w → (∀ i j, i < p → j < p → al i = true → al j = true → i ≠ j → vs i ≠ vs j) → allV V vs w (fun a => wpList P l.toArray (Rg.Only Q) (l.drop p) a w) p 0 l a0) :
    (Code.region id l.toArray true).wp P Q a0 w := by
  refine Code.wp_mono (Q := Rg.Only Q) (fun e a w hh => ?_) ?_
  · cases e <;> first | exact hh | exact hh.elim
  refine wp_region_any hm (binv (Q := Rg.Only Q) hR hk hV hok (fun c a a' w h => h.elim) (of_decide_eq_true hpl) (fun i o hi ho => by have := steps_get _ 0 l step i o hi ho; rwa [Nat.zero_add] at this) hal
    (fun vs w hs hv hd => by rw [← fill_take p 0 l (fun k => decide (k < p)) vs a0 (fun k => by rw [Nat.zero_add])]; exact allV_of (G := fun a => wpList P l.toArray (Rg.Only Q) (l.drop p) a w) p 0 l a0 _ (fun k => by rw [Nat.zero_add]) (fun k hk => by rw [Nat.zero_add]; exact hv k hk) (fin vs w hs hd)) _ _ a0 _ ?_ ⟨hS, ?_, by simp, fun i k h => ?_, fun _ => undef, ?_, fun k h => ?_, fun i j _ _ _ h => ?_⟩)
  · refine Nat.le_trans (List.length_filter_le _ _) (by simp)
  · exact getD_rep _ _
  · rw [getD_rep] at h; cases h
  · exact (fill_none (l.take p) 0 _ _ a0 (fun j => getD_rep _ _)).symm
  · rw [getD_rep] at h; cases h
  · rw [getD_rep] at h; cases h
/-- The first part only makes memory. -/
abbrev Rb (w w' : World) : Prop := Below w.heap.size w w'
theorem wp_region {id : Nat} {w : World} (p : Nat) (S : World → Prop) (V : Nat → Value → World → Prop) (al : Nat → Bool) (hm : P.follows .mixedOrders = true) (hok : okB .any l p (befs .any l) = true) (hpl : decide (p ≤ l.length) = true)
    (hk : Hd.Keeps S) (hV : ∀ k v, Hd.Keeps (V k v)) (hal : ∀ j v w, al j = true → V j v w → ∃ b, v = Value.pointer (some ⟨b, 0, none⟩) ∧ b < w.heap.size) (hS : S w)
    (step : steps P l p (Rg.Only Q) Rb S V al a0 p 0 l)
    (fin : ∀ (vs : Nat → Value) (w : World), S w → (∀ i j, i < p → j < p → al i = true → al j = true → i ≠ j → vs i ≠ vs j) → allV V vs w (fun a => wpList P l.toArray (Rg.Only Q) (l.drop p) a w) p 0 l a0) :
    (Code.region id l.toArray true).wp P Q a0 w :=
  wp_regionR p Rb S V al hm hok hpl (fun w => Below.refl _ _) hk hV hal (hk _ _ hS (Ext.drew (Below.refl _ _))) step fin
end
end Ix
end Go.Proofs.Ytfjgnhmmakeaeaa
