/- REGIONS THAT DRAW THEIR ORDER, WALKED IN THE ORDER OF THE TEXT, with calls and writes in them. A static look tells that whatever may come in another order makes no difference. No condition but that look. -/
import Derived.Deep.Quiet
import Derived.Deep.QuietTactic
import Derived.BigQuiet
import Derived.WalkKit
namespace Go.Proofs.Ytfjgnhmmakeaeaa
open Go
set_option linter.unusedVariables false
namespace Rg

/-- 0: it hands on a value, whatever the world; 1: it leaves the world alone; 2: it may do anything. -/
def kd (o : Oper) : Nat := match o.op with
  | .move _ | .assign _ | .extract .. => 0
  | .pick .. | .load .. | .binOp .. | .unOp .. | .fieldAddr .. | .indexAddr .. | .nilCheck .. | .field .. | .index .. | .convert .. | .slice .. | .build .. | .makeInterface .. | .lookup .. => 1
  | .call { callee := .builtin .len, .. } | .call { callee := .builtin .cap, .. } | .call { callee := .builtin .max, .. } | .call { callee := .builtin .min, .. } => 1
  | _ => 2
/-- .. with what the caller holds for writing. -/
def kx (ws : List Nat) (i : Nat) (o : Oper) : Nat := if ws.contains i then 2 else kd o
def compat (x y : Nat) : Bool := x == 0 || y == 0 || (x == 1 && y == 1)
/-- What waits for operation i, through others too. -/
def dep (md : Region.Mode) (ops : Array Oper) (i : Nat) : Array Bool :=
  ops.foldl (init := #[]) fun acc o => acc.push (o.after.any fun e => Region.binds md e && (e.on == i || acc.getD e.on false))
def freeK (md : Region.Mode) (ops : Array Oper) (ws : List Nat) (listed : Array Bool) (i : Nat) : Bool :=
  match ops[i]? with
  | none => false
  | some oi => (List.range ops.size).all fun j => match ops[j]? with
    | none => true
    | some oj => if j == i then true
      else if (dep md ops i).getD j false then (listed.getD j true == false) && oj.after.any (fun e => Region.binds md e && (e.on == i || ((dep md ops i).getD e.on false && e.on != i && decide (e.on < ops.size))))
      else listed.getD j true || (oi.apart ops oj && compat (kx ws i oi) (kx ws j oj))
def lexFrom (md : Region.Mode) (ops : Array Oper) (ws : List Nat) : Nat → Nat → Array Bool → Bool
  | 0, _, listed => (Region.ready md ops listed).isEmpty
  | fuel + 1, k, listed => (Region.ready md ops listed).contains k && freeK md ops ws listed k && lexFrom md ops ws fuel (k + 1) (listed.setIfInBounds k true)
/-- THE STATIC LOOK. -/
def lexB (ops : Array Oper) (ws : List Nat) : Bool := Region.noSelect ops && lexFrom .any ops ws ops.size 0 (Array.replicate ops.size false)

section
variable {P : Program} {ops : Array Oper} {md : Region.Mode} {ws : List Nat} {Q : Exit → Act → World → Prop}

def stepL (P : Program) (ops : Array Oper) (ws : List Nat) (Q : Exit → Act → World → Prop) (i : Nat) (K : Act → World → Prop) (a : Act) (w : World) : Prop :=
  match ops[i]? with
  | none => K a w
  | some o => if Region.wanted o (yielded ops a.tmps) then (if kx ws i o = 2 then o.wp P a w K Q else o.quiet P a (fun u => u = w) (fun a' => K a' w)) else K (a.put o.dst undef) w

/-- The walk in the order of the text. -/
def wpL (P : Program) (ops : Array Oper) (ws : List Nat) (Q : Exit → Act → World → Prop) : Nat → List Oper → Act → World → Prop
  | _, [], a, w => Q .normal a w
  | i, o :: rest, a, w => if Region.wanted o (yielded ops a.tmps) then (if kx ws i o = 2 then o.wp P a w (wpL P ops ws Q (i + 1) rest) Q else o.quiet P a (fun u => u = w) (fun a' => wpL P ops ws Q (i + 1) rest a' w)) else wpL P ops ws Q (i + 1) rest (a.put o.dst undef) w

def wpAnyL (P : Program) (md : Region.Mode) (ops : Array Oper) (ws : List Nat) (Q : Exit → Act → World → Prop) : Nat → Array Bool → Act → World → Prop
  | 0, listed, a, w => Region.ready md ops listed = [] ∧ Q .normal a w
  | fuel + 1, listed, a, w => (Region.ready md ops listed = [] → Q .normal a w) ∧ ∀ i ∈ Region.ready md ops listed, stepL P ops ws Q i (wpAnyL P md ops ws Q fuel (listed.setIfInBounds i true)) a w

theorem wpAny_of_L : ∀ (fuel : Nat) (listed : Array Bool) (a : Act) (w : World), wpAnyL P md ops ws Q fuel listed a w → wpAny P md ops Q fuel listed a w
  | 0, _, _, _, h => h
  | fuel + 1, listed, a, w, h => ⟨h.1, fun i hi => by
    have h2 := h.2 i hi
    unfold stepL at h2
    unfold wpOp
    split
    · rename_i ho; simp only [ho] at h2; exact wpAny_of_L fuel _ _ _ h2
    · rename_i o ho
      simp only [ho] at h2
      split
      · rename_i hw
        simp only [hw, if_true] at h2
        split at h2
        · exact .inl (Oper.wp_mono (fun a w hh => wpAny_of_L fuel _ a w hh) h2)
        · exact .inl (Oper.wp_of_quiet (C := fun u => u = w) rfl (fun a' w' hw' hh => by subst hw'; exact wpAny_of_L fuel _ _ _ hh) h2)
      · rename_i hw
        simp only [hw] at h2
        exact wpAny_of_L fuel _ _ _ h2⟩

/-- An act with other deferred calls. -/
def wd (a : Act) (ds : List Deferred) : Act := { a with defers := ds }
theorem wd_put (a : Act) (ds : List Deferred) (x : Option Tmp) (v : Value) : wd (a.put x v) ds = (wd a ds).put x v := by cases x <;> rfl
theorem wd_eval (a : Act) (ds : List Deferred) : (wd a ds).eval = a.eval := rfl

/-- No way out but the plain one. -/
structure Shut (Q : Exit → Act → World → Prop) : Prop where
  panic : ∀ c a w, ¬ Q (.panic c) a w
  out : ¬ LetsOut Q

theorem wp_out {o : Oper} {a : Act} {w : World} {K : Act → World → Prop} (hQ : Shut Q) (h : o.wp P a w K Q) : ∃ ds v w1, K ((wd a ds).put o.dst v) w1 := by
  unfold Oper.wp at h
  generalize (execOp a.eval o).run P w = r at h
  cases r with
  | ok n w' =>
    cases n <;> simp only [Oper.upon] at h
    case value v => exact ⟨a.defers, v, w', h⟩
    case skip => exact ⟨a.defers, undef, w', h⟩
    case defer d => exact ⟨d :: a.defers, undef, w', h⟩
    case enter f args =>
      obtain ⟨e, w'', fr, hR, _⟩ := h []
      cases e with
      | returned v => exact ⟨a.defers, v, w'', hR⟩
      | panicked c => exact absurd hR (hQ.panic _ _ _)
      | outgrown => exact absurd hR hQ.out
    case row row args =>
      obtain ⟨v, w'', hR, _⟩ := h { (default : Frame) with mode := default } []
      exact ⟨a.defers, v, w'', hR⟩
  | halt x w' => cases x <;> simp only [Oper.upon] at h; exact absurd h (hQ.panic _ _ _)

theorem wp_map {o : Oper} {a a' : Act} {w : World} {K K' : Act → World → Prop} (hQ : Shut Q) (he : execOp a'.eval o = execOp a.eval o) (hd : a'.defers = a.defers)
    (hk : ∀ ds v w1, K ((wd a ds).put o.dst v) w1 → K' ((wd a' ds).put o.dst v) w1) (h : o.wp P a w K Q) : o.wp P a' w K' Q := by
  unfold Oper.wp at h ⊢
  rw [he]
  generalize (execOp a.eval o).run P w = r at h ⊢
  have e0 : wd a' a.defers = a' := by unfold wd; rw [← hd]
  cases r with
  | ok n w' =>
    cases n <;> simp only [Oper.upon] at h ⊢
    case value v => have := hk a.defers v w' h; rwa [e0] at this
    case skip => have := hk a.defers undef w' h; rwa [e0] at this
    case defer d => have := hk (d :: a.defers) undef w' h; rw [hd]; exact this
    case enter f args =>
      refine h.mono fun e w'' hR => ?_
      cases e with
      | returned v => have := hk a.defers v w'' hR; rwa [e0] at this
      | panicked c => exact absurd hR (hQ.panic _ _ _)
      | outgrown => exact hR
    case row row args =>
      exact Rows.mono h fun v w'' hR => by have := hk a.defers v w'' hR; rwa [e0] at this
  | halt x w' =>
    cases x <;> simp only [Oper.upon] at h ⊢
    exact absurd h (hQ.panic _ _ _)

/-- Kind 0: one value, in every world; or none in any. -/
theorem const_kd {o : Oper} (h : kd o = 0) (a : Act) : (∃ v, ∀ w, (execOp a.eval o).run P w = .ok (.value v) w) ∨ (∀ w n w', (execOp a.eval o).run P w ≠ .ok n w') := by
  obtain ⟨dst, op, type, pos, after, guard⟩ := o
  cases op with
  | move x => exact .inl ⟨a.eval x, fun w => rfl⟩
  | assign x => exact .inl ⟨a.eval x, fun w => rfl⟩
  | extract x k =>
    show (∃ v, ∀ w, (execOp a.eval ⟨dst, .extract x k, type, pos, after, guard⟩).run P w = _) ∨ _
    unfold execOp
    simp only []
    unfold Instr.extract
    generalize a.eval x = val
    cases val with
    | tuple vs =>
      cases hv : vs[k]? with
      | some v => exact .inl ⟨v, fun w => by simp [hv, go_sem]⟩
      | none => exact .inr (fun w n w' => by simp [hv, go_sem])
    | _ => exact .inr (fun w n w' => by simp [go_sem])
  | call c =>
    exfalso
    unfold kd at h
    split at h <;> first | (cases h; done) | (rename_i hh; simp at hh)
  | _ => exact absurd h (by simp [kd])

/-- One operation of kind k. -/
def stepO (P : Program) (ops : Array Oper) (Q : Exit → Act → World → Prop) (k : Nat) (o : Oper) (K : Act → World → Prop) (a : Act) (w : World) : Prop :=
  if Region.wanted o (yielded ops a.tmps) then (if k = 2 then o.wp P a w K Q else o.quiet P a (fun u => u = w) (fun a' => K a' w)) else K (a.put o.dst undef) w
theorem stepL_eq {i : Nat} {o : Oper} {K : Act → World → Prop} {a : Act} {w : World} (hi : ops[i]? = some o) : stepL P ops ws Q i K a w = stepO P ops Q (kx ws i o) o K a w := by
  unfold stepL stepO; simp only [hi]
theorem stepO_mono {k : Nat} {o : Oper} {K K' : Act → World → Prop} {a : Act} {w : World} (h : ∀ a w, K a w → K' a w) (hs : stepO P ops Q k o K a w) : stepO P ops Q k o K' a w := by
  unfold stepO at *
  split
  · rename_i hw; simp only [hw, if_true] at hs
    split
    · rename_i hk; simp only [hk, if_true] at hs; exact Oper.wp_mono h hs
    · rename_i hk; simp only [hk, if_false] at hs; exact Oper.quiet_mono (fun a' hh => h a' w hh) hs
  · rename_i hw; simp only [hw] at hs; exact h _ _ hs
theorem stepO_out {k : Nat} {o : Oper} {K : Act → World → Prop} {a : Act} {w : World} (hQ : Shut Q) (hs : stepO P ops Q k o K a w) : ∃ a' w', K a' w' := by
  unfold stepO at hs
  split at hs
  · split at hs
    · obtain ⟨ds, v, w1, h⟩ := wp_out hQ hs; exact ⟨_, _, h⟩
    · obtain ⟨v, _, h⟩ := hs; exact ⟨_, _, h⟩
  · exact ⟨_, _, hs⟩

theorem wanted_wd (o : Oper) (a : Act) (ds : List Deferred) : Region.wanted o (yielded ops (wd a ds).tmps) = Region.wanted o (yielded ops a.tmps) := rfl

/-- What is quiet in one world at kind 0 is so in all, with the same value. -/
theorem quiet_const {o : Oper} (h : kd o = 0) {a : Act} {w : World} {v : Value} (hq : o.quietAt P a (fun u => u = w) w v) : ∀ w', o.quietAt P a (fun u => u = w') w' v := by
  intro w'
  unfold Oper.quietAt at *
  rcases const_kd (P := P) h a with ⟨u, hu⟩ | hn
  · rw [hu] at hq ⊢; exact ⟨rfl, hq.2⟩
  · exfalso
    cases hr : (execOp a.eval o).run P w with
    | ok n w1 => exact hn w n w1 hr
    | halt x w1 => rw [hr] at hq; exact hq

/-- THE SWAP: 'i, then j' gives 'j, then i'. -/
theorem swap {ki kj : Nat} {oi oj : Oper} {K K2 : Act → World → Prop} (hQ : Shut Q) (hsi : ∀ cs b, oi.op ≠ .select cs b) (hsj : ∀ cs b, oj.op ≠ .select cs b)
    (hap : oi.apart ops oj = true) (hc : compat ki kj = true) (h0i : ki = 0 → kd oi = 0) (h0j : kj = 0 → kd oj = 0)
    {a : Act} {w : World} (h : stepO P ops Q ki oi K a w) (hK : ∀ a' w', K a' w' → stepO P ops Q kj oj K2 a' w') :
    stepO P ops Q kj oj (fun a' w' => stepO P ops Q ki oi K2 a' w') a w := by
  obtain ⟨p1, p2, p3⟩ := Oper.apart_spec hap
  -- how each sees the other's value
  have ei : ∀ (a : Act) u, execOp (a.put oj.dst u).eval oi = execOp a.eval oi := fun a u => execOp_put oi hsi a oj.dst u p3
  have ej : ∀ (a : Act) u, execOp (a.put oi.dst u).eval oj = execOp a.eval oj := fun a u => execOp_put oj hsj a oi.dst u p1
  have wi : ∀ (a : Act) u, Region.wanted oi (yielded ops (a.put oj.dst u).tmps) = Region.wanted oi (yielded ops a.tmps) := fun a u => wanted_put oi a oj.dst u p3
  have wj : ∀ (a : Act) u, Region.wanted oj (yielded ops (a.put oi.dst u).tmps) = Region.wanted oj (yielded ops a.tmps) := fun a u => wanted_put oj a oi.dst u p1
  have cm : ∀ (a : Act) v u, (a.put oi.dst v).put oj.dst u = (a.put oj.dst u).put oi.dst v := fun a v u => Act.put_comm a v u p2
  by_cases hwi : Region.wanted oi (yielded ops a.tmps) = true
  · by_cases hk : ki = 2
    · -- i may do anything: j is of kind 0, or not wanted
      have hi' : oi.wp P a w K Q := by unfold stepO at h; simpa only [hwi, hk, if_true] using h
      by_cases hwj : Region.wanted oj (yielded ops a.tmps) = true
      · have hkj : kj = 0 := by
          subst hk
          simp only [compat, Bool.or_eq_true, Bool.and_eq_true, beq_iff_eq] at hc
          rcases hc with (hc | hc) | hc
          · omega
          · exact hc
          · omega
        have hkd := h0j hkj
        -- at each outcome: j hands on one value
        have each : ∀ ds v w1, K ((wd a ds).put oi.dst v) w1 → ∃ u, (∀ w', oj.quietAt P a (fun x => x = w') w' u) ∧ K2 (((wd a ds).put oi.dst v).put oj.dst u) w1 := by
          intro ds v w1 hk1
          have h2 := hK _ _ hk1
          unfold stepO at h2
          rw [wj, wanted_wd, hwj] at h2
          simp only [if_true, hkj] at h2
          obtain ⟨u, hu, hn⟩ := h2
          have hu1 := hu w1 rfl
          unfold Oper.quietAt at hu1
          rw [ej, wd_eval] at hu1
          exact ⟨u, quiet_const hkd (w := w1) hu1, hn⟩
        obtain ⟨ds0, v0, w0, hk0⟩ := wp_out hQ hi'
        obtain ⟨u, hu, _⟩ := each _ _ _ hk0
        unfold stepO
        rw [hwj]
        rw [if_pos rfl, if_neg (by omega)]
        refine ⟨u, fun x hx => by subst hx; exact hu x, ?_⟩
        show (if Region.wanted oi (yielded ops (a.put oj.dst u).tmps) = true then _ else _)
        rw [wi, hwi, if_pos rfl, if_pos hk]
        refine wp_map hQ (ei a u) (by cases oj.dst <;> rfl) (fun ds v w1 hk1 => ?_) hi'
        obtain ⟨u', hu', hn⟩ := each _ _ _ hk1
        have heq : u' = u := by
          rcases const_kd (P := P) hkd a with ⟨c, hcst⟩ | hno
          · have a1 := hu w1; have a2 := hu' w1
            unfold Oper.quietAt at a1 a2
            rw [hcst] at a1 a2
            rw [← a2.2, ← a1.2]
          · have a1 := hu w1
            unfold Oper.quietAt at a1
            cases hr : (execOp a.eval oj).run P w1 with
            | ok n w2 => exact absurd hr (hno _ _ _)
            | halt x w2 => rw [hr] at a1; exact a1.elim
        subst heq
        rw [wd_put, ← cm]; exact hn
      · have hwj' : Region.wanted oj (yielded ops a.tmps) = false := by simpa using hwj
        unfold stepO
        rw [hwj']
        simp only [Bool.false_eq_true, if_false]
        rw [wi, hwi, if_pos rfl, if_pos hk]
        refine wp_map hQ (ei a undef) (by cases oj.dst <;> rfl) (fun ds v w1 hk1 => ?_) hi'
        have h2 := hK _ _ hk1
        unfold stepO at h2
        rw [wj, wanted_wd, hwj'] at h2
        simp only [Bool.false_eq_true, if_false] at h2
        rw [wd_put, ← cm]; exact h2
    · -- i is quiet
      have hi' : oi.quiet P a (fun u => u = w) (fun a' => K a' w) := by unfold stepO at h; simpa only [hwi, hk, if_true, if_false] using h
      obtain ⟨v, hv, hn⟩ := hi'
      have h2 := hK _ _ hn
      -- i at a later act and world
      have later : ∀ (a' : Act) (w' : World), execOp a'.eval oi = execOp a.eval oi → Region.wanted oi (yielded ops a'.tmps) = Region.wanted oi (yielded ops a.tmps) → (w' = w ∨ ki = 0) → K2 (a'.put oi.dst v) w' → stepO P ops Q ki oi K2 a' w' := by
        intro a' w' he hwa hor hk2
        unfold stepO
        rw [hwa, hwi, if_pos rfl, if_neg hk]
        refine ⟨v, fun x hx => ?_, hk2⟩
        subst hx
        have hb : oi.quietAt P a (fun u => u = x) x v := by
          rcases hor with rfl | h0
          · exact hv _ rfl
          · exact quiet_const (h0i h0) (hv w rfl) x
        unfold Oper.quietAt at hb ⊢
        rw [he]; exact hb
      unfold stepO at h2 ⊢
      rw [wj] at h2
      by_cases hwj : Region.wanted oj (yielded ops a.tmps) = true
      · rw [hwj] at h2 ⊢
        simp only [if_true] at h2 ⊢
        by_cases hkj : kj = 2
        · have h0 : ki = 0 := by
            subst hkj
            simp only [compat, Bool.or_eq_true, Bool.and_eq_true, beq_iff_eq] at hc
            rcases hc with (hc | hc) | hc
            · exact hc
            · omega
            · omega
          rw [if_pos hkj] at h2 ⊢
          refine wp_map hQ (ej a v).symm (by cases oi.dst <;> rfl) (fun ds u w1 hk1 => ?_) h2
          refine later _ _ ?_ ?_ (.inr h0) ?_
          · rw [ei, wd_eval]
          · rw [wi, wanted_wd]
          · rw [← cm, ← wd_put]; exact hk1
        · rw [if_neg hkj] at h2 ⊢
          obtain ⟨u, hu, hn2⟩ := h2
          refine ⟨u, fun x hx => ?_, ?_⟩
          · have := hu x hx
            unfold Oper.quietAt at this ⊢
            rw [ej] at this; exact this
          · exact later _ _ (ei a u) (wi a u) (.inl rfl) (by rw [← cm]; exact hn2)
      · have hwj' : Region.wanted oj (yielded ops a.tmps) = false := by simpa using hwj
        rw [hwj'] at h2 ⊢
        simp only [Bool.false_eq_true, if_false] at h2 ⊢
        exact later _ _ (ei a undef) (wi a undef) (.inl rfl) (by rw [← cm]; exact h2)
  · -- i is passed over
    have hwi' : Region.wanted oi (yielded ops a.tmps) = false := by simpa using hwi
    have hi' : K (a.put oi.dst undef) w := by unfold stepO at h; simpa only [hwi', Bool.false_eq_true, if_false] using h
    have h2 := hK _ _ hi'
    have later : ∀ (a' : Act) (w' : World), Region.wanted oi (yielded ops a'.tmps) = Region.wanted oi (yielded ops a.tmps) → K2 (a'.put oi.dst undef) w' → stepO P ops Q ki oi K2 a' w' := by
      intro a' w' hwa hk2
      unfold stepO
      rw [hwa, hwi', if_neg (by decide)]; exact hk2
    unfold stepO at h2 ⊢
    rw [wj] at h2
    by_cases hwj : Region.wanted oj (yielded ops a.tmps) = true
    · rw [hwj] at h2 ⊢
      simp only [if_true] at h2 ⊢
      by_cases hkj : kj = 2
      · rw [if_pos hkj] at h2 ⊢
        refine wp_map hQ (ej a undef).symm (by cases oi.dst <;> rfl) (fun ds u w1 hk1 => ?_) h2
        exact later _ _ (by rw [wi, wanted_wd]) (by rw [← cm, ← wd_put]; exact hk1)
      · rw [if_neg hkj] at h2 ⊢
        obtain ⟨u, hu, hn2⟩ := h2
        refine ⟨u, fun x hx => ?_, later _ _ (wi a u) (by rw [← cm]; exact hn2)⟩
        have := hu x hx
        unfold Oper.quietAt at this ⊢
        rw [ej] at this; exact this
    · have hwj' : Region.wanted oj (yielded ops a.tmps) = false := by simpa using hwj
      rw [hwj'] at h2 ⊢
      simp only [Bool.false_eq_true, if_false] at h2 ⊢
      exact later _ _ (wi a undef) (by rw [← cm]; exact h2)

/-- What is known of operation i while it is still to come. -/
structure Free (md : Region.Mode) (ops : Array Oper) (ws : List Nat) (listed : Array Bool) (i : Nat) (oi : Oper) (D : Nat → Bool) : Prop where
  un : listed.getD i true = false
  dep : ∀ j oj, ops[j]? = some oj → j ≠ i → D j = true → listed.getD j true = false ∧ ∃ e ∈ oj.after, Region.binds md e = true ∧ (e.on = i ∨ (D e.on = true ∧ e.on ≠ i ∧ e.on < ops.size))
  ok : ∀ j oj, ops[j]? = some oj → j ≠ i → D j = false → listed.getD j true = false → oi.apart ops oj = true ∧ compat (kx ws i oi) (kx ws j oj) = true

theorem getD_tf {listed : Array Bool} {i : Nat} (h : listed.getD i true = false) : listed.getD i false = false := by
  rcases Nat.lt_or_ge i listed.size with h' | h'
  · simp [h'] at h ⊢; exact h
  · simp [Array.getElem?_eq_none h'] at h
/-- What is ready does not wait for i. -/
theorem Free.ready {listed : Array Bool} {i : Nat} {oi : Oper} {D : Nat → Bool} (F : Free md ops ws listed i oi D) {j : Nat} (hj : j ∈ Region.ready md ops listed) (hne : j ≠ i) : D j = false := by
  obtain ⟨h0, oj, hoj, hall⟩ := mem_ready.1 hj
  cases hD : D j with
  | false => rfl
  | true =>
    exfalso
    obtain ⟨_, e, he, hb, hor⟩ := F.dep j oj hoj hne hD
    have h1 := hall e he hb
    rcases hor with h2 | ⟨h2, h3, h4⟩
    · rw [h2, getD_tf F.un] at h1; cases h1
    · obtain ⟨o3, ho3⟩ : ∃ o, ops[e.on]? = some o := ⟨ops[e.on], Array.getElem?_eq_getElem h4⟩
      have := (F.dep e.on o3 ho3 h3 h2).1
      rw [getD_tf this] at h1; cases h1
theorem Free.set {listed : Array Bool} {i : Nat} {oi : Oper} {D : Nat → Bool} (F : Free md ops ws listed i oi D) {j : Nat} (hj : j ∈ Region.ready md ops listed) (hne : j ≠ i) : Free md ops ws (listed.setIfInBounds j true) i oi D := by
  have hDj := F.ready hj hne
  refine ⟨by rw [getD_set_ne true hne]; exact F.un, fun k ok hk hki hD => ?_, fun k ok hk hki hD hun => ?_⟩
  · have hkj : j ≠ k := fun e => by subst e; rw [hDj] at hD; cases hD
    rw [getD_set_ne true hkj]; exact F.dep k ok hk hki hD
  · refine F.ok k ok hk hki hD ?_
    by_cases hkj : j = k
    · subst hkj; exact (mem_ready.1 hj).1
    · rw [getD_set_ne true hkj] at hun; exact hun

theorem kx_zero {i : Nat} {o : Oper} (h : kx ws i o = 0) : kd o = 0 := by
  unfold kx at h; split at h
  · cases h
  · exact h

/-- **The next of the text may be taken first.** -/
theorem first {i : Nat} {oi : Oper} {D : Nat → Bool} (hi : ops[i]? = some oi) (hQ : Shut Q) (hsel : ∀ (j : Nat) (o : Oper) cs b, ops[j]? = some o → o.op ≠ .select cs b) :
    ∀ (fuel : Nat) (listed : Array Bool) (a : Act) (w : World), Free md ops ws listed i oi D → i ∈ Region.ready md ops listed →
      stepL P ops ws Q i (wpAnyL P md ops ws Q fuel (listed.setIfInBounds i true)) a w → wpAnyL P md ops ws Q (fuel + 1) listed a w := by
  intro fuel
  induction fuel with
  | zero =>
    intro listed a w F hr H
    refine ⟨fun h => (by rw [h] at hr; cases hr), fun j hj => ?_⟩
    by_cases hji : j = i
    · subst hji; exact H
    · rw [stepL_eq hi] at H
      obtain ⟨a', w', hk⟩ := stepO_out hQ H
      have := ready_mono hj hji
      rw [hk.1] at this
      cases this
  | succ fuel ih =>
    intro listed a w F hr H
    refine ⟨fun h => (by rw [h] at hr; cases hr), fun j hj => ?_⟩
    by_cases hji : j = i
    · subst hji; exact H
    · obtain ⟨hjun, oj, hoj, hall⟩ := mem_ready.1 hj
      have hD := F.ready hj hji
      obtain ⟨hap, hc⟩ := F.ok j oj hoj hji hD hjun
      rw [stepL_eq hi] at H
      have H2 := swap (K2 := wpAnyL P md ops ws Q fuel ((listed.setIfInBounds i true).setIfInBounds j true)) hQ (fun cs b => hsel i oi cs b hi) (fun cs b => hsel j oj cs b hoj) hap hc kx_zero kx_zero H
        (fun a' w' hk => by have := hk.2 j (ready_mono hj hji); rw [stepL_eq hoj] at this; exact this)
      rw [stepL_eq hoj]
      refine stepO_mono (fun a' w' h3 => ih (listed.setIfInBounds j true) a' w' (F.set hj hji) (ready_mono hr (Ne.symm hji)) ?_) H2
      rw [stepL_eq hi, Array.setIfInBounds_comm _ _ hji]
      exact h3

theorem free_spec {i : Nat} {oi : Oper} {listed : Array Bool} (hi : ops[i]? = some oi) (hr : i ∈ Region.ready md ops listed) (h : freeK md ops ws listed i = true) :
    Free md ops ws listed i oi (fun j => (dep md ops i).getD j false) := by
  simp only [freeK, hi, List.all_eq_true, List.mem_range] at h
  refine ⟨(mem_ready.1 hr).1, fun j oj hj hne hD => ?_, fun j oj hj hne hD hun => ?_⟩
  · have h1 := h j (Array.getElem?_eq_some_iff.1 hj).1
    simp only [hj, beq_iff_eq, hne, if_false, hD, if_true, Bool.and_eq_true] at h1
    obtain ⟨h2, h3⟩ := h1
    obtain ⟨e, he, hb⟩ := Array.any_eq_true'.1 h3
    simp only [Bool.and_eq_true, Bool.or_eq_true, beq_iff_eq, bne_iff_ne, decide_eq_true_eq] at hb
    refine ⟨h2, e, he, hb.1, ?_⟩
    rcases hb.2 with h4 | ⟨⟨h4, h5⟩, h6⟩
    · exact .inl h4
    · exact .inr ⟨h4, h5, h6⟩
  · have h1 := h j (Array.getElem?_eq_some_iff.1 hj).1
    simp only [hj, beq_iff_eq, hne, if_false, hD, Bool.false_eq_true, hun, Bool.false_or, Bool.and_eq_true] at h1
    exact h1

theorem lex (hs : Region.noSelect ops = true) (hQ : Shut Q) : ∀ (l : List Oper) (k : Nat) (listed : Array Bool) (a : Act) (w : World), (∀ j, l[j]? = ops[k + j]?) →
    lexFrom md ops ws l.length k listed = true → wpL P ops ws Q k l a w → wpAnyL P md ops ws Q l.length listed a w
  | [], _, _, _, _, _, hB, h => ⟨by simpa [lexFrom] using hB, h⟩
  | o :: l, k, listed, a, w, hl, hB, h => by
    have h0 : ops[k]? = some o := by simpa using (hl 0).symm
    simp only [List.length_cons, lexFrom, Bool.and_eq_true] at hB
    obtain ⟨⟨hr, hf⟩, hB'⟩ := hB
    have hr' : k ∈ Region.ready md ops listed := by simpa using hr
    refine first h0 hQ (Region.noSelect_spec hs) l.length listed a w (free_spec h0 hr' hf) hr' ?_
    rw [stepL_eq h0]
    have hst : stepO P ops Q (kx ws k o) o (wpL P ops ws Q (k + 1) l) a w := h
    exact stepO_mono (fun a' w' hh => lex hs hQ l (k + 1) _ a' w' (fun j => by have := hl (j + 1); simpa [Nat.add_assoc, Nat.add_comm 1 j] using this) hB' hh) hst

/-- No way out of the region but the plain one. -/
def Only (Q : Exit → Act → World → Prop) : Exit → Act → World → Prop
  | .normal, a, w => Q .normal a w
  | _, _, _ => False
theorem shut_only : Shut (Only Q) := ⟨fun _ _ _ h => h, fun ⟨_, _, h⟩ => h⟩

/-- **THE THEOREM: one walk in the order of the text serves every order.** -/
theorem wp_region {id : Nat} {a : Act} {w : World} {l : List Oper} (ws : List Nat) (hm : P.follows .mixedOrders = true) (hB : lexB l.toArray ws = true)
    (h : wpL P l.toArray ws (Only Q) 0 l a w.drew) : (Code.region id l.toArray true).wp P Q a w := by
  refine Code.wp_mono (Q := Only Q) (fun e a w hh => ?_) ?_
  · cases e <;> first | exact hh | exact hh.elim
  · simp only [lexB, Bool.and_eq_true] at hB
    refine wp_region_any hm (wpAny_of_L (ws := ws) _ _ _ _ ?_)
    have := lex (P := P) (md := .any) (ws := ws) (Q := Only Q) hB.1 shut_only l 0 (Array.replicate l.toArray.size false) a w.drew (by simp) (by simpa using hB.2) h
    simpa using this

/-! The steps of the walk. -/
theorem wpL_nil {i : Nat} {a : Act} {w : World} (h : Q .normal a w) : wpL P ops ws (Only Q) i [] a w := h
theorem wpL_skip {i : Nat} {o : Oper} {rest : List Oper} {a : Act} {w : World} (hw : Region.wanted o (yielded ops a.tmps) = false) (h : wpL P ops ws Q (i + 1) rest (a.put o.dst undef) w) : wpL P ops ws Q i (o :: rest) a w := by
  unfold wpL; rw [hw, if_neg (by decide)]; exact h
theorem wpL_q {i : Nat} {o : Oper} {rest : List Oper} {a : Act} {w : World} (hw : Region.wanted o (yielded ops a.tmps) = true) (hk : (kx ws i o == 2) = false)
    (h : ∀ K : Act → Prop, (∀ a, wpL P ops ws Q (i + 1) rest a w → K a) → o.quiet P a (fun u => u = w) K) : wpL P ops ws Q i (o :: rest) a w := by
  unfold wpL; rw [if_pos hw, if_neg (by simpa using hk)]; exact h _ (fun _ hh => hh)
theorem wpL_w {i : Nat} {o : Oper} {rest : List Oper} {a : Act} {w : World} (hw : Region.wanted o (yielded ops a.tmps) = true) (hk : (kx ws i o == 2) = true)
    (h : ∀ K : Act → World → Prop, (∀ a w, wpL P ops ws Q (i + 1) rest a w → K a w) → o.wp P a w K Q) : wpL P ops ws Q i (o :: rest) a w := by
  unfold wpL; rw [if_pos hw, if_pos (by simpa using hk)]; exact h _ (fun _ _ hh => hh)
end
end Rg
end Go.Proofs.Ytfjgnhmmakeaeaa
