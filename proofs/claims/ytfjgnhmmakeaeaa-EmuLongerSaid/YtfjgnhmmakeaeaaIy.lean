/- Regions that draw their order and hold calls that write, these in a forced order: like Ix, but what is known of the world turns with each such call (a phase). No condition but a static look. -/
import Derived.Test.YtfjgnhmmakeaeaaIx
namespace Go.Proofs.Ytfjgnhmmakeaeaa
open Go
open Go.RowKit
set_option linter.unusedVariables false
namespace Iy
open Iv (fill put_size put_defers fill_size fill_defers put_get fill_get fill_congr getD_rep fill_none fill_add befs tabB dagB dagB_spec tabB_spec lk needs ask askN ask_fill ask_needs askN_nil askN_cons all all_fill all_nil all_cons fill_off lk_eq put_same wp_move vl)
open Ix (KeepsR okB take_get looksB looksB_spec tailB tailB_spec dagB_lt B_lt tail_any allV allV_of allV_nil allV_cons fill_take only nil)
section
variable {P : Program} {l : List Oper} {Q : Exit → Act → World → Prop} {R : World → World → Prop} {S : Nat → (Nat → Value) → World → Prop} {need : Nat → List Nat} {V : Nat → Value → World → Prop} {al : Nat → Bool} {a0 : Act} {md : Region.Mode} {p : Nat} {cs : List Nat} {B : List (List Nat)}
/-- How many of the writing calls are done. -/
def ph (cs : List Nat) (listed : Array Bool) : Nat := (cs.filter (fun k => listed.getD k false)).length
/-- They come in the order of the list, and ahead of the tail. -/
def ordB (cs : List Nat) (p : Nat) (B : List (List Nat)) : Bool :=
  (List.range cs.length).all fun j => decide (cs.getD j 0 < p) && (List.range j).all fun i => (B[cs.getD j 0]?.getD []).contains (cs.getD i 0) && cs.getD i 0 != cs.getD j 0
theorem ordB_spec {cs : List Nat} {p : Nat} {B : List (List Nat)} (h : ordB cs p B = true) {i j : Nat} (hij : i < j) (hj : j < cs.length) : cs.getD i 0 ∈ B[cs.getD j 0]?.getD [] ∧ cs.getD i 0 ≠ cs.getD j 0 := by
  unfold ordB at h
  rw [List.all_eq_true] at h
  have h1 := h j (List.mem_range.2 hj)
  rw [Bool.and_eq_true, List.all_eq_true] at h1
  have h2 := h1.2 i (List.mem_range.2 hij)
  rw [Bool.and_eq_true] at h2
  exact ⟨by simpa using h2.1, by simpa using h2.2⟩
theorem ordB_lt {cs : List Nat} {p : Nat} {B : List (List Nat)} (h : ordB cs p B = true) {j : Nat} (hj : j < cs.length) : cs.getD j 0 < p := by
  unfold ordB at h
  rw [List.all_eq_true] at h
  have h1 := h j (List.mem_range.2 hj)
  rw [Bool.and_eq_true] at h1
  simpa using h1.1
theorem ph_all {cs : List Nat} {listed : Array Bool} (h : ∀ k ∈ cs, listed.getD k false = true) : ph cs listed = cs.length := by
  unfold ph
  rw [List.filter_eq_self.2 (fun k hk => h k hk)]
theorem ph_other {cs : List Nat} {listed : Array Bool} {i : Nat} (h : i ∉ cs) : ph cs (listed.setIfInBounds i true) = ph cs listed := by
  unfold ph
  congr 1
  refine List.filter_congr (fun k hk => ?_)
  have : i ≠ k := fun e => h (e ▸ hk)
  exact getD_set_ne false this
/-- A prefix is done, the next is not, nor what comes behind. -/
theorem ph_at : ∀ (cs : List Nat) (listed : Array Bool) (j : Nat), j ≤ cs.length → (∀ i, i < j → listed.getD (cs.getD i 0) false = true) → (∀ i, j ≤ i → i < cs.length → listed.getD (cs.getD i 0) false = false) → ph cs listed = j
  | [], _, j, hj, _, _ => by simp at hj; subst hj; rfl
  | k :: cs, listed, 0, _, _, h0 => by
    unfold ph
    rw [List.filter_eq_nil_iff.2 (fun x hx => ?_)]; · rfl
    obtain ⟨i, hi, rfl⟩ := List.mem_iff_getElem.1 hx
    have := h0 i (Nat.zero_le _) hi
    rw [List.getD_eq_getElem?_getD, List.getElem?_eq_getElem hi] at this
    simp at this ⊢; exact this
  | k :: cs, listed, j + 1, hj, h1, h0 => by
    have h := ph_at cs listed j (by simp at hj; omega) (fun i hi => by have := h1 (i + 1) (by omega); simpa using this) (fun i hi hl => by have := h0 (i + 1) (by omega) (by simp; omega); simpa using this)
    have hk := h1 0 (by omega)
    unfold ph at h ⊢
    simp only [List.getD_cons_zero] at hk
    rw [List.filter_cons, if_pos hk, List.length_cons, h]

/-- What a phase speaks of is done in it. -/
def needB (cs : List Nat) (need : Nat → List Nat) (B : List (List Nat)) : Bool := (need 0).isEmpty && (List.range cs.length).all fun j => (need (j + 1)).all fun k => (B[cs.getD j 0]?.getD []).contains k
theorem needB_zero {cs : List Nat} {need : Nat → List Nat} {B : List (List Nat)} (h : needB cs need B = true) : need 0 = [] := by
  unfold needB at h; rw [Bool.and_eq_true] at h; simpa using h.1
theorem needB_spec {cs : List Nat} {need : Nat → List Nat} {B : List (List Nat)} (h : needB cs need B = true) {j k : Nat} (hj : j < cs.length) (hk : k ∈ need (j + 1)) : k ∈ B[cs.getD j 0]?.getD [] := by
  unfold needB at h
  rw [Bool.and_eq_true, List.all_eq_true] at h
  have h1 := h.2 j (List.mem_range.2 hj)
  rw [List.all_eq_true] at h1
  simpa using h1 k hk
/-- In phase m + 1 the call m is done. -/
theorem ph_done {cs : List Nat} {p : Nat} {B : List (List Nat)} {listed : Array Bool} (hoc : ordB cs p B = true) (hcl : ∀ i k, listed.getD i false = true → k ∈ B[i]?.getD [] → listed.getD k false = true) {m : Nat} (hm : ph cs listed = m + 1) (hml : m < cs.length) : listed.getD (cs.getD m 0) false = true := by
  cases hl : listed.getD (cs.getD m 0) false with
  | true => rfl
  | false =>
    exfalso
    have hb : ∀ i, m ≤ i → i < cs.length → listed.getD (cs.getD i 0) false = false := fun i h1 h2 => by
      rcases Nat.lt_or_ge m i with h | h
      · cases hl2 : listed.getD (cs.getD i 0) false with
        | false => rfl
        | true => have := hcl _ _ hl2 ((ordB_spec hoc h h2).1); rw [hl] at this; cases this
      · obtain rfl : i = m := by omega
        exact hl
    have hle : ∀ (cs : List Nat) (m : Nat), (∀ i, m ≤ i → i < cs.length → listed.getD (cs.getD i 0) false = false) → ph cs listed ≤ m := by
      intro cs
      induction cs with
      | nil => intro m _; exact Nat.zero_le _
      | cons k cs ih =>
        intro m h
        unfold ph at ih ⊢
        cases m with
        | zero =>
          have h0 := h 0 (Nat.le_refl _) (by simp)
          simp only [List.getD_cons_zero] at h0
          rw [List.filter_cons, if_neg (by rw [h0]; simp)]
          exact ih 0 (fun i hi hl => by have := h (i + 1) (by omega) (by simp; omega); simpa using this)
        | succ m =>
          have := ih m (fun i hi hl => by have := h (i + 1) (by omega) (by simp; omega); simpa using this)
          rw [List.filter_cons]
          split
          · rw [List.length_cons]; omega
          · omega
    have := hle cs m hb
    omega

structure goI (P : Program) (l : List Oper) (Q : Exit → Act → World → Prop) (T : World → World → Prop) (V : Nat → Value → World → Prop) (al : Nat → Bool) (no : Prop) (i : Nat) (o : Oper) (w : World) (a : Act) : Prop where
  of ::
  get : if Region.wanted o (yielded l.toArray a.tmps) = true then ∀ K : Act → World → Prop, (∀ v w', T w w' → V i v w' → (al i = true → v = Value.pointer (some ⟨w.heap.size, 0, none⟩)) → K (a.put o.dst v) w') → o.wp P a w K Q
    else V i undef w ∧ al i = false ∧ no
/-- What is to be shown of an operation that does not turn the phase. -/
structure stepI (P : Program) (l : List Oper) (p : Nat) (Q : Exit → Act → World → Prop) (R : World → World → Prop) (S : Nat → (Nat → Value) → World → Prop) (V : Nat → Value → World → Prop) (al : Nat → Bool) (cs : List Nat) (a0 : Act) (i : Nat) (o : Oper) : Prop where
  of ::
  get : (i ∉ cs → ∀ (vs : Nat → Value) (n : Nat) (w : World), S n vs w → (∀ k, k < p → lk l o k = true → V k (vs k) w) → goI P l Q R V al True i o w (fill 0 (l.take p) (lk l o) vs a0)) ∧
    (∀ j, j < cs.length → cs.getD j 0 = i → ∀ (vs : Nat → Value) (w : World), S j vs w → (∀ k, k < p → lk l o k = true → V k (vs k) w) → goI P l Q (fun w w' => S (j + 1) vs w' ∧ ∀ k, k ≠ i → V k (vs k) w → V k (vs k) w') V al False i o w (fill 0 (l.take p) (lk l o) vs a0))
theorem stepI_ofN {i : Nat} {o : Oper} (N : List (Nat × Option Tmp)) (hN : decide (needs (o.looksAt l.toArray) 0 (l.take p) = N) = true) (hc : cs.contains i = false) (h : ∀ n vs w, S n vs w → askN V w (goI P l Q R V al True i o w) N a0) : stepI P l p Q R S V al cs a0 i o := .of ⟨fun _ vs n w hs hv =>
  ask_fill (l.take p) 0 a0 _ vs (fun k o' ho => by rw [Nat.zero_add]; exact lk_eq l o k o' (take_get ho).2) (fun k hk hkl => by rw [Nat.zero_add] at hkl ⊢; exact hv k (by simp at hk; omega) hkl)
    (ask_needs (l.take p) 0 a0 (by rw [of_decide_eq_true hN]; exact h n vs w hs)), fun j hj e => by
      exfalso
      have : i ∈ cs := by rw [← e, List.getD_eq_getElem?_getD, List.getElem?_eq_getElem hj]; simp
      simp [this] at hc⟩
theorem stepI_ofC {i : Nat} {o : Oper} (j : Nat) (N : List (Nat × Option Tmp)) (hN : decide (needs (o.looksAt l.toArray) 0 (l.take p) = N) = true) (hc : decide (j < cs.length ∧ cs.getD j 0 = i ∧ ∀ j' ∈ List.range cs.length, cs.getD j' 0 = i → j' = j) = true) (h : ∀ vs w, S j vs w → askN (fun k v w => V k v w ∧ vs k = v) w (goI P l Q (fun w w' => S (j + 1) vs w' ∧ ∀ k, k ≠ i → V k (vs k) w → V k (vs k) w') V al False i o w) N a0) : stepI P l p Q R S V al cs a0 i o := .of ⟨fun hn => by
    exfalso
    obtain ⟨h1, h2, _⟩ := of_decide_eq_true hc
    apply hn; rw [← h2, List.getD_eq_getElem?_getD, List.getElem?_eq_getElem h1]; simp, fun j' hj e vs w hs hv => by
    obtain ⟨h1, h2, h3⟩ := of_decide_eq_true hc
    obtain rfl := h3 j' (List.mem_range.2 hj) e
    exact ask_fill (V := fun k v w => V k v w ∧ vs k = v) (l.take p) 0 a0 _ vs (fun k o' ho => by rw [Nat.zero_add]; exact lk_eq l o k o' (take_get ho).2) (fun k hk hkl => by rw [Nat.zero_add] at hkl ⊢; exact ⟨hv k (by simp at hk; omega) hkl, rfl⟩)
      (ask_needs (l.take p) 0 a0 (by rw [of_decide_eq_true hN]; exact h vs w hs))⟩
theorem goI_yes {T : World → World → Prop} {no : Prop} {i : Nat} {o : Oper} {w : World} {a : Act} (hw : Region.wanted o (yielded l.toArray a.tmps) = true) (hal : al i = false)
    (h : ∀ K : Act → World → Prop, (∀ v w', T w w' → V i v w' → K (a.put o.dst v) w') → o.wp P a w K Q) : goI P l Q T V al no i o w a := by
  refine .of ?_; rw [if_pos hw]; exact fun K hK => h K (fun v w' hr hv => hK v w' hr hv (fun hh => by rw [hal] at hh; cases hh))
theorem goI_new {T : World → World → Prop} {no : Prop} {i : Nat} {o : Oper} {w : World} {a : Act} (hw : Region.wanted o (yielded l.toArray a.tmps) = true)
    (h : ∀ K : Act → World → Prop, (∀ w', T w w' → V i (Value.pointer (some ⟨w.heap.size, 0, none⟩)) w' → K (a.put o.dst (Value.pointer (some ⟨w.heap.size, 0, none⟩))) w') → o.wp P a w K Q) : goI P l Q T V al no i o w a := by
  refine .of ?_; rw [if_pos hw]; intro K hK
  exact h K (fun w' hr hv => hK _ w' hr hv (fun _ => rfl))
theorem goI_no {T : World → World → Prop} {no : Prop} {i : Nat} {o : Oper} {w : World} {a : Act} (hw : Region.wanted o (yielded l.toArray a.tmps) = false) (hal : al i = false) (hno : no) (h : V i undef w) : goI P l Q T V al no i o w a := by
  refine .of ?_; rw [hw]; exact ⟨h, hal, hno⟩
/-- All steps, one after the other. -/
def steps (P : Program) (l : List Oper) (p : Nat) (Q : Exit → Act → World → Prop) (R : World → World → Prop) (S : Nat → (Nat → Value) → World → Prop) (V : Nat → Value → World → Prop) (al : Nat → Bool) (cs : List Nat) (a0 : Act) : Nat → Nat → List Oper → Prop
  | 0, _, _ => True
  | _, _, [] => True
  | n + 1, i, o :: rest => stepI P l p Q R S V al cs a0 i o ∧ steps P l p Q R S V al cs a0 n (i + 1) rest
theorem steps_cons {n m i j : Nat} {o : Oper} {rest : List Oper} (hj : i + 1 = j) (hm : m = n + 1) (h : stepI P l p Q R S V al cs a0 i o) (hr : steps P l p Q R S V al cs a0 n j rest) : steps P l p Q R S V al cs a0 m i (o :: rest) := by
  subst hj; subst hm; exact ⟨h, hr⟩
theorem steps_nil {i : Nat} {rest : List Oper} : steps P l p Q R S V al cs a0 0 i rest := by cases rest <;> trivial
theorem steps_get : ∀ (n i : Nat) (r : List Oper), steps P l p Q R S V al cs a0 n i r → ∀ j o, j < n → r[j]? = some o → stepI P l p Q R S V al cs a0 (i + j) o
  | 0, _, _, _, _, _, hj, _ => by omega
  | n + 1, _, [], _, _, _, _, ho => by simp at ho
  | n + 1, i, o0 :: r, h, 0, o, _, ho => by simp at ho; subst ho; exact h.1
  | n + 1, i, o0 :: r, h, j + 1, o, hj, ho => by
    have := steps_get n (i + 1) r h.2 j o (by omega) (by simpa using ho)
    rw [show i + (j + 1) = i + 1 + j by omega]; exact this
structure Inv (l : List Oper) (S : Nat → (Nat → Value) → World → Prop) (V : Nat → Value → World → Prop) (B : List (List Nat)) (al : Nat → Bool) (cs : List Nat) (a0 : Act) (p : Nat) (listed : Array Bool) (a : Act) (w : World) : Prop where
  no : listed.getD p false = false
  sz : listed.size = l.length
  cl : ∀ i k, listed.getD i false = true → k ∈ B[i]?.getD [] → listed.getD k false = true
  v : ∃ vs : Nat → Value, S (ph cs listed) vs w ∧ a = fill 0 (l.take p) (fun k => listed.getD k false) vs a0 ∧ (∀ k, listed.getD k false = true → V k (vs k) w) ∧ ∀ i j, al i = true → al j = true → i ≠ j → listed.getD i false = true → listed.getD j false = true → vs i ≠ vs j

theorem binv (hR : ∀ w, R w w) (hk : ∀ n vs, KeepsR R (S n vs)) (hoc : ordB cs p B = true) (hnd : ∀ n vs vs' w, (∀ k, k ∈ need n → vs k = vs' k) → S n vs w → S n vs' w) (hnb : needB cs need B = true) (hV : ∀ k v, KeepsR R (V k v)) (hok : okB md l p B = true) (hp : ∀ c a a' w, Q (.panic c) a w → Q (.panic c) a' w) (hpl : p ≤ l.length)
    (step : ∀ i o, i < p → l[i]? = some o → stepI P l p Q R S V al cs a0 i o)
    (hal : ∀ j v w, al j = true → V j v w → ∃ b, v = Value.pointer (some ⟨b, 0, none⟩) ∧ b < w.heap.size)
    (tail : ∀ (vs : Nat → Value) (w : World), S cs.length vs w → (∀ k, k < p → V k (vs k) w) → (∀ i j, i < p → j < p → al i = true → al j = true → i ≠ j → vs i ≠ vs j) → wpList P l.toArray Q (l.drop p) (fill 0 (l.take p) (fun k => decide (k < p)) vs a0) w) :
    ∀ (fuel : Nat) (listed : Array Bool) (a : Act) (w : World), (listed.toList.filter (fun b => !b)).length ≤ fuel → Inv l S V B al cs a0 p listed a w → wpAny P md l.toArray Q fuel listed a w := by
  simp only [okB, Bool.and_eq_true] at hok
  obtain ⟨⟨⟨⟨hsel, htab⟩, hlook⟩, hdg⟩, htl⟩ := hok
  have hafter := tailB_spec htl
  have hdag := dagB_spec hdg
  have done : ∀ (listed : Array Bool) (a : Act) (w : World), Inv l S V B al cs a0 p listed a w → Region.ready md l.toArray listed = [] → Q .normal a w := by
    intro listed a w hi hr
    have hall := hdag listed hi.sz hr
    have hpe : p = l.length := by
      rcases Nat.lt_or_ge p l.length with h | h
      · have := hall p h
        rw [hi.no] at this; cases this
      · omega
    obtain ⟨vs, hsv, rfl, hv, hds⟩ := hi.v
    have ht := tail vs w (by have := hsv; rwa [ph_all (fun k hk => by obtain ⟨j, hj, rfl⟩ := List.mem_iff_getElem.1 hk; exact hall _ (by have := ordB_lt hoc hj; rw [List.getD_eq_getElem?_getD, List.getElem?_eq_getElem hj] at this; simp at this; omega))] at this) (fun k hk => hv k (hall k (by omega))) (fun i j hip hjp hi hj hne => hds i j hi hj hne (hall i (by omega)) (hall j (by omega)))
    rw [show l.drop p = [] by rw [hpe]; simp] at ht
    rw [fill_congr (l.take p) 0 _ (fun k => decide (k < p)) vs vs a0 (fun j hj => ⟨by simp only [Nat.zero_add]; rw [hall j (by simp at hj; omega)]; simp at hj; simp; omega, fun _ => rfl⟩)]
    exact ht
  intro fuel
  induction fuel with
  | zero =>
    intro listed a w hf hi
    have hnone : Region.ready md l.toArray listed = [] := by
      apply List.eq_nil_iff_forall_not_mem.2
      intro j hj
      obtain ⟨h0, o, ho, _⟩ := mem_ready.1 hj
      have hlt : j < listed.size := by
        rcases Nat.lt_or_ge j listed.size with h | h
        · exact h
        · simp [Array.getElem?_eq_none h] at h0
      have hmem : false ∈ listed.toList.filter (fun b => !b) := by
        rw [List.mem_filter]
        refine ⟨?_, rfl⟩
        have e : listed[j]? = some false := by
          rw [Array.getElem?_eq_getElem hlt]
          simp [hlt] at h0; rw [h0]
        simpa using Array.mem_of_getElem? e
      have hz := List.eq_nil_of_length_eq_zero (Nat.le_zero.1 hf)
      rw [hz] at hmem
      cases hmem
    exact ⟨hnone, done listed a w hi hnone⟩
  | succ fuel ih =>
    intro listed a w hf hi
    refine ⟨done listed a w hi, fun i hir => ?_⟩
    obtain ⟨h0, o, ho, hall⟩ := mem_ready.1 hir
    have ho' : l[i]? = some o := by simpa using ho
    have hlt : i < listed.size := by
      rcases Nat.lt_or_ge i listed.size with h | h
      · exact h
      · simp [Array.getElem?_eq_none h] at h0
    have h0' : listed.getD i false = false := by simp [hlt] at h0 ⊢; exact h0
    have hB : ∀ k ∈ B[i]?.getD [], listed.getD k false = true := by
      intro k hk
      obtain ⟨e, he, hb, hor⟩ := tabB_spec htab ho' hk
      have := hall e he hb
      rcases hor with rfl | hk2
      · exact this
      · exact hi.cl _ _ this hk2
    have hil : i < l.length := (List.getElem?_eq_some_iff.1 ho').1
    by_cases hipl : p ≤ i
    · have hip : i = p := by
        rcases Nat.lt_or_ge p i with h | h
        · have := hB p (hafter i hipl hil p h)
          rw [hi.no] at this; cases this
        · omega
      subst hip
      obtain ⟨vs, hsv, rfl, hv, hds⟩ := hi.v
      have hex : ∀ k, k < l.length → listed.getD k false = decide (k < i) := fun k hk => by
        by_cases hki : k < i
        · rw [hB k (hafter i (Nat.le_refl _) hil k hki)]; simp [hki]
        · by_cases hke : k = i
          · subst hke; rw [h0']; simp
          · cases hl : listed.getD k false with
            | false => simp [hki]
            | true => have := hi.cl k i hl (hafter k (by omega) hk i (by omega)); rw [h0'] at this; cases this
      have ht := tail vs w (by have := hsv; rwa [ph_all (fun k hk => by obtain ⟨j, hj, rfl⟩ := List.mem_iff_getElem.1 hk; have h2 := ordB_lt hoc hj; rw [List.getD_eq_getElem?_getD, List.getElem?_eq_getElem hj] at h2; simp at h2; rw [hex _ (by omega)]; simp [h2])] at this) (fun k hk => hv k (by rw [hex k (by omega)]; simp [hk])) (fun i' j' hip hjp hi' hj' hne => hds i' j' hi' hj' hne (by rw [hex i' (by omega)]; simp [hip]) (by rw [hex j' (by omega)]; simp [hjp]))
      rw [← fill_congr (l.take i) 0 (fun k => listed.getD k false) (fun k => decide (k < i)) vs vs a0 (fun j hj => ⟨by simp only [Nat.zero_add]; exact hex j (by simp at hj; omega), fun _ => rfl⟩)] at ht
      exact (tail_any htab hdg hafter (fuel + 1) i listed _ w (Nat.le_refl _) (Nat.le_of_lt hil) hi.sz hex hf ht).2 i hir
    have hip : ¬ i = p := by omega
    have hip2 : i < p := by omega
    obtain ⟨vs, hsv, rfl, hv, hds⟩ := hi.v
    have hlkB : ∀ k, k < p → lk l o k = true → k ∈ B[i]?.getD [] := by
      intro k hkp hk
      unfold lk at hk
      cases hlk : l[k]? with
      | none => rw [hlk] at hk; cases hk
      | some o' =>
        rw [hlk] at hk
        cases hd : o'.dst with
        | none => simp only [hd] at hk; cases hk
        | some d => simp only [hd] at hk; exact (looksB_spec hlook ho' hip2 hlk hkp hd).1 (by simpa using hk)
    have hvals : ∀ k, k < p → lk l o k = true → V k (vs k) w := fun k hkp hk => hv k (hB k (hlkB k hkp hk))
    -- what the operation may do, and what is known behind it
    obtain ⟨T, no, hT, hTn, hTV, hno, hst⟩ : ∃ (T : World → World → Prop) (no : Prop), (∀ w', T w w' → S (ph cs (listed.setIfInBounds i true)) vs w') ∧ (∀ k, k ∈ need (ph cs (listed.setIfInBounds i true)) → listed.getD k false = true) ∧ (∀ k w', T w w' → k ≠ i → V k (vs k) w → V k (vs k) w') ∧ (no → T w w) ∧ goI P l Q T V al no i o w (fill 0 (l.take p) (lk l o) vs a0) := by
      by_cases hic : i ∈ cs
      · obtain ⟨j, hj, hji⟩ := List.mem_iff_getElem.1 hic
        have hg : cs.getD j 0 = i := by rw [List.getD_eq_getElem?_getD, List.getElem?_eq_getElem hj]; simpa using hji
        have before : ∀ i', i' < j → listed.getD (cs.getD i' 0) false = true := fun i' hi' => hB _ (by have := (ordB_spec hoc hi' hj).1; rwa [hg] at this)
        have behind : ∀ i', j < i' → i' < cs.length → listed.getD (cs.getD i' 0) false = false := fun i' h1 h2 => by
          cases hl : listed.getD (cs.getD i' 0) false with
          | false => rfl
          | true => have := hi.cl _ _ hl ((ordB_spec hoc h1 h2).1); rw [hg, h0'] at this; cases this
        have e1 : ph cs listed = j := ph_at cs listed j (Nat.le_of_lt hj) before (fun i' h1 h2 => by
          rcases Nat.lt_or_ge j i' with h | h
          · exact behind i' h h2
          · obtain rfl : i' = j := by omega
            rw [hg]; exact h0')
        have e2 : ph cs (listed.setIfInBounds i true) = j + 1 := ph_at cs _ (j + 1) hj (fun i' h1 => by
          rcases Nat.lt_or_ge i' j with h | h
          · exact getD_set_true (before i' h)
          · obtain rfl : i' = j := by omega
            rw [hg]; simp [hlt]) (fun i' h1 h2 => by
          rw [getD_set_ne false (by have := (ordB_spec hoc (show j < i' by omega) h2).2; rwa [hg] at this)]
          exact behind i' (by omega) h2)
        have hs := hsv
        rw [e1] at hs
        exact ⟨_, False, fun w' h => by rw [e2]; exact h.1, fun k hkn => by (rw [e2] at hkn; have := needB_spec hnb hj hkn; rw [hg] at this; exact hB k this), fun k w' h hne hv => h.2 k hne hv, fun h => h.elim, (step i o hip2 ho').get.2 j hj hg vs w hs hvals⟩
      · exact ⟨R, True, fun w' h => by rw [ph_other hic]; exact hk _ _ _ _ hsv h, fun k hkn => by
          rw [ph_other hic] at hkn
          obtain ⟨m, hm⟩ : ∃ m, m = ph cs listed := ⟨_, rfl⟩
          rw [← hm] at hkn
          cases m with
          | zero => rw [needB_zero hnb] at hkn; cases hkn
          | succ m =>
            have hml : m < cs.length := by
              have : ph cs listed ≤ cs.length := List.length_filter_le _ _
              omega
            have hmon : listed.getD (cs.getD m 0) false = true := ph_done hoc hi.cl hm.symm hml
            exact hi.cl _ _ hmon (needB_spec hnb hml hkn), fun k w' h _ hv => hV k _ _ _ hv h, fun _ => hR w, (step i o hip2 ho').get.1 hic vs _ w hsv hvals⟩
    replace hst := hst.get
    -- slots that the operation looks at
    have same : ∀ t ∈ o.looksAt l.toArray, (fill 0 (l.take p) (lk l o) vs a0).tmps[t]? = (fill 0 (l.take p) (fun k => listed.getD k false) vs a0).tmps[t]? := by
      intro t ht
      refine fill_get (l.take p) 0 _ _ vs vs a0 a0 t rfl rfl (fun j o' hj hd => ?_)
      obtain ⟨hjp, hj⟩ := take_get hj
      have hm := (looksB_spec hlook ho' hip2 hj hjp hd).1 ht
      simp only [Nat.zero_add]
      rw [hB j hm, lk_eq l o j o' hj, hd]
      refine ⟨by simpa using ht, by intros; trivial⟩
    have hwant : Region.wanted o (yielded l.toArray (fill 0 (l.take p) (fun k => listed.getD k false) vs a0).tmps) = Region.wanted o (yielded l.toArray (fill 0 (l.take p) (lk l o) vs a0).tmps) := by
      unfold Region.wanted
      cases hg : o.guard with
      | none => rfl
      | some gw =>
        obtain ⟨g, want⟩ := gw
        have hy : yielded l.toArray (fill 0 (l.take p) (fun k => listed.getD k false) vs a0).tmps g = yielded l.toArray (fill 0 (l.take p) (lk l o) vs a0).tmps g := by
          unfold yielded
          cases ht : (l.toArray[g]?).bind (·.dst) with
          | none => rfl
          | some t =>
            have := same t (by simp only [Oper.looksAt, hg, ht]; simp)
            simp only [Option.bind_some, this]
        simp only [hy]
    have hexec : execOp (fill 0 (l.take p) (fun k => listed.getD k false) vs a0).eval o = execOp (fill 0 (l.take p) (lk l o) vs a0).eval o := by
      refine execOp_congr o (Region.noSelect_spec hsel i o · · ho) (fun x hx => ?_)
      cases x with
      | tmp t =>
        have := same t (by unfold Oper.looksAt; exact List.mem_append_left _ (List.mem_filterMap.2 ⟨.tmp t, by simpa using hx, rfl⟩))
        show Array.getD _ t undef = Array.getD _ t undef
        rw [Array.getD_eq_getD_getElem?, Array.getD_eq_getD_getElem?, this]
      | _ => rfl
    have next : ∀ v w', T w w' → V i v w' → (al i = true → v = Value.pointer (some ⟨w.heap.size, 0, none⟩)) → wpAny P md l.toArray Q fuel (listed.setIfInBounds i true) ((fill 0 (l.take p) (fun k => listed.getD k false) vs a0).put o.dst v) w' := by
      intro v w' hb hvi hnew
      refine ih _ _ _ ?_ ⟨by rw [getD_set_ne false hip]; exact hi.no, by simp [hi.sz], ?_, ?_⟩
      · have : ((listed.setIfInBounds i true).toList.filter (fun b => !b)).length + 1 = (listed.toList.filter (fun b => !b)).length := by
          rw [Array.toList_setIfInBounds]
          have hlt' : i < listed.toList.length := by simpa using hlt
          have hfalse : listed.toList[i] = false := by simp [hlt] at h0'; simpa using h0'
          rw [List.set_eq_take_append_cons_drop, if_pos hlt']
          conv => rhs; rw [← List.take_append_drop i listed.toList, List.drop_eq_getElem_cons hlt', hfalse]
          simp [List.filter_append]; omega
        omega
      · intro j k hj hkB
        by_cases hji : i = j
        · subst hji; exact getD_set_true (hB k hkB)
        · rw [getD_set_ne false hji] at hj
          exact getD_set_true (hi.cl j k hj hkB)
      · refine ⟨fun k => if k = i then v else vs k, ?_, ?_, ?_, ?_⟩
        · refine hnd _ vs _ _ (fun k hkn => ?_) (hT _ hb)
          have := hTn k hkn
          have : ¬ k = i := fun e => by subst e; rw [h0'] at this; cases this
          simp [this]
        · rw [fill_add (l.take p) 0 i (fun k => listed.getD k false) (fun k => (listed.setIfInBounds i true).getD k false) vs (fun k => if k = i then v else vs k) a0 o (by rw [List.getElem?_take]; simp [hip2, ho']) (by simpa using h0') (by simp [hlt]) (fun j hj => by
            simp only [Nat.zero_add]
            refine ⟨getD_set_ne false (Ne.symm hj), by simp [hj]⟩) (fun j k x y hx hy hjk d hd => (looksB_spec hlook (take_get hy).2 (take_get hy).1 (take_get hx).2 (take_get hx).1 hd).2 (Ne.symm hjk))]
          simp
        · intro k hkl
          by_cases hki : k = i
          · subst hki; simpa using hvi
          · rw [getD_set_ne false (Ne.symm hki)] at hkl
            simp only [hki, if_false]
            exact hTV _ _ hb hki (hv k hkl)
        · intro i' j' hai haj hne hli hlj
          by_cases hi1 : i' = i
          · have hj1 : ¬ j' = i := fun e => hne (hi1.trans e.symm)
            rw [getD_set_ne false (Ne.symm hj1)] at hlj
            simp only [hi1, if_true, hj1, if_false]
            rw [hi1] at hai
            obtain ⟨b, eb, hlb⟩ := hal j' _ w haj (hv j' hlj)
            rw [hnew hai, eb]
            intro e
            injection e with e; injection e with e; injection e with e
            omega
          · rw [getD_set_ne false (Ne.symm hi1)] at hli
            by_cases hj1 : j' = i
            · simp only [hi1, if_false, hj1, if_true]
              rw [hj1] at haj
              obtain ⟨b, eb, hlb⟩ := hal i' _ w hai (hv i' hli)
              rw [hnew haj, eb]
              intro e
              injection e with e; injection e with e; injection e with e
              omega
            · rw [getD_set_ne false (Ne.symm hj1)] at hlj
              simp only [hi1, if_false, hj1, if_false]
              exact hds i' j' hai haj hne hli hlj
    unfold wpOp
    simp only [ho]
    by_cases hw : Region.wanted o (yielded l.toArray (fill 0 (l.take p) (lk l o) vs a0).tmps) = true
    · rw [hwant, hw]
      simp only [if_true]
      rw [if_pos hw] at hst
      exact .inl (wp_move (G := fun v w' => T w w' ∧ V i v w' ∧ (al i = true → v = Value.pointer (some ⟨w.heap.size, 0, none⟩))) hp (by rw [fill_size, fill_size]) (by rw [fill_defers, fill_defers]) hexec (fun K hKK => hst K (fun v w' hb hvi hn => hKK v w' ⟨hb, hvi, hn⟩)) (fun v w' hh => next v w' hh.1 hh.2.1 hh.2.2))
    · rw [if_neg hw] at hst
      rw [hwant, if_neg hw]
      exact next undef w (hno hst.2.2) hst.1 (fun hh => by rw [hst.2.1] at hh; cases hh)


/-- THE REGION'S LAW. -/
theorem wp_region {id : Nat} {w : World} (p : Nat) (cs : List Nat) (need : Nat → List Nat) (R : World → World → Prop) (S : Nat → (Nat → Value) → World → Prop) (V : Nat → Value → World → Prop) (al : Nat → Bool) (hm : P.follows .mixedOrders = true) (hok : okB .any l p (befs .any l) = true) (hpl : decide (p ≤ l.length) = true) (hoc : ordB cs p (befs .any l) = true) (hnb : needB cs need (befs .any l) = true)
    (hnd : ∀ n vs vs' w, (∀ k, k ∈ need n → vs k = vs' k) → S n vs w → S n vs' w)
    (hR : ∀ w, R w w) (hk : ∀ n vs, KeepsR R (S n vs)) (hV : ∀ k v, KeepsR R (V k v)) (hal : ∀ j v w, al j = true → V j v w → ∃ b, v = Value.pointer (some ⟨b, 0, none⟩) ∧ b < w.heap.size) (hS : ∀ vs, S 0 vs w.drew)
    (step : steps P l p (Rg.Only Q) R S V al cs a0 p 0 l)
    (fin : ∀ (vs : Nat → Value) (w : World), S cs.length vs w → (∀ i j, i < p → j < p → al i = true → al j = true → i ≠ j → vs i ≠ vs j) → allV V vs w (fun a => wpList P l.toArray (Rg.Only Q) (l.drop p) a w) p 0 l a0) :
    (Code.region id l.toArray true).wp P Q a0 w := by
  refine Code.wp_mono (Q := Rg.Only Q) (fun e a w hh => ?_) ?_
  · cases e <;> first | exact hh | exact hh.elim
  refine wp_region_any hm (binv (Q := Rg.Only Q) hR hk hoc hnd hnb hV hok (fun c a a' w h => h.elim) (of_decide_eq_true hpl) (fun i o hi ho => by have := steps_get _ 0 l step i o hi ho; rwa [Nat.zero_add] at this) hal
    (fun vs w hs hv hd => by rw [← fill_take p 0 l (fun k => decide (k < p)) vs a0 (fun k => by rw [Nat.zero_add])]; exact allV_of (G := fun a => wpList P l.toArray (Rg.Only Q) (l.drop p) a w) p 0 l a0 _ (fun k => by rw [Nat.zero_add]) (fun k hk => by rw [Nat.zero_add]; exact hv k hk) (fin vs w hs hd)) _ _ a0 _ ?_ ⟨?_, by simp, fun i k h => ?_, fun _ => undef, ?_, ?_, fun k h => ?_, fun i j _ _ _ h => ?_⟩)
  · refine Nat.le_trans (List.length_filter_le _ _) (by simp)
  · exact getD_rep _ _
  · rw [getD_rep] at h; cases h
  · rw [ph_at cs _ 0 (Nat.zero_le _) (fun i h => by omega) (fun i _ _ => getD_rep _ _)]; exact hS _
  · exact (fill_none (l.take p) 0 _ _ a0 (fun j => getD_rep _ _)).symm
  · rw [getD_rep] at h; cases h
  · rw [getD_rep] at h; cases h
end
/-- Values known for good. -/
def is (c : Value) : Value → Prop := fun v => v = c
def vp (L : List (Value → Prop)) (k : Nat) : Value → World → Prop := fun v _ => (L[k]?.getD (fun _ => True)) v
theorem vp_keeps (R : World → World → Prop) (L : List (Value → Prop)) (k : Nat) (v : Value) : KeepsR R (vp L k v) := fun _ _ h _ => h
/-- What the values mean is kept by a call, but for its own. -/
def okL (vs : Nat → Value) (w w' : World) (i : Nat) : Nat → List Ix.Kept → Prop
  | _, [] => True
  | j, x :: r => (j ≠ i → x.f (vs j) w → x.f (vs j) w') ∧ okL vs w w' i (j + 1) r
theorem okL_get {vs : Nat → Value} {w w' : World} {i : Nat} : ∀ (j : Nat) (L : List Ix.Kept), okL vs w w' i j L → ∀ k x, L[k]? = some x → j + k ≠ i → x.f (vs (j + k)) w → x.f (vs (j + k)) w'
  | _, [], _, k, x, hk, _ => by simp at hk
  | j, y :: L, h, 0, x, hk, hne => by simp at hk; subst hk; exact h.1 (by simpa using hne)
  | j, y :: L, h, k + 1, x, hk, hne => by
    have := okL_get (j + 1) L h.2 k x (by simpa using hk) (by omega)
    rw [show j + (k + 1) = j + 1 + k by omega]; exact this
theorem vk_turn {vs : Nat → Value} {L : List Ix.Kept} {w w' : World} {i : Nat} (h : okL vs w w' i 0 L) : ∀ k, k ≠ i → Ix.vk L k (vs k) w → Ix.vk L k (vs k) w' := by
  intro k hne
  unfold Ix.vk
  cases hk : L[k]? with
  | none => exact fun h => h
  | some x => have := okL_get 0 L h k x hk (by omega); rw [Nat.zero_add] at this; exact this
end Iy
end Go.Proofs.Ytfjgnhmmakeaeaa
