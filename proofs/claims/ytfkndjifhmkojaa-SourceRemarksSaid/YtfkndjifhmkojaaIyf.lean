/- Iy's law with a frame: slots that the region does not write. No condition. -/
import Derived.Test.YtfkndjifhmkojaaB0
namespace Go.Proofs.Ytfkndjifhmkojaa
open Go
open Go.RowKit
set_option linter.unusedVariables false
namespace Iy
open Iv (fill put_size put_defers fill_size fill_defers put_get fill_get fill_congr getD_rep fill_none fill_add befs tabB dagB dagB_spec tabB_spec lk needs ask askN ask_fill ask_needs askN_nil askN_cons all all_fill all_nil all_cons fill_off lk_eq put_same wp_move vl)
open Ix (KeepsR okB take_get looksB looksB_spec tailB tailB_spec dagB_lt B_lt tail_any allV allV_of allV_nil allV_cons fill_take only nil)
section
variable {P : Program} {l : List Oper} {Q : Exit → Act → World → Prop} {R : World → World → Prop} {S : Nat → (Nat → Value) → World → Prop} {need : Nat → List Nat} {V : Nat → Value → World → Prop} {al : Nat → Bool} {a0 : Act} {md : Region.Mode} {p : Nat} {cs : List Nat} {B : List (List Nat)}
/-- No operation writes into these slots. -/
def offB (sl : List Nat) (l : List Oper) : Bool := l.all fun o => match o.dst with | none => true | some t => !sl.contains t
def agr (sl : List Nat) (a0 a : Act) : Prop := ∀ k, k ∈ sl → a.tmps[k]? = a0.tmps[k]?
def fr (sl : List Nat) (a0 : Act) (Q : Exit → Act → World → Prop) : Exit → Act → World → Prop := fun e a w => agr sl a0 a → Q e a w
theorem agr_put {sl : List Nat} {a0 a : Act} {d : Option Tmp} {v : Value} (h : agr sl a0 a) (hd : (match d with | none => true | some t => !sl.contains t) = true) : agr sl a0 (a.put d v) := by
  intro k hk
  rw [put_get, if_neg (fun e => by subst e; simp at hd; exact hd hk)]
  exact h k hk
theorem op_fr {o : Oper} {a : Act} {w : World} {K K' : Act → World → Prop} {sl : List Nat} (ha : agr sl a0 a) (ho : (match o.dst with | none => true | some t => !sl.contains t) = true) (hK : ∀ a w, agr sl a0 a → K a w → K' a w) (h : o.wp P a w K (Ix.Only2 (fr sl a0 Q))) : o.wp P a w K' Q := by
  unfold Oper.wp at h ⊢
  generalize (execOp a.eval o).run P w = r at h ⊢
  cases r with
  | ok n w' =>
    cases n <;> simp only [Oper.upon] at h ⊢
    case value v => exact hK _ _ (agr_put ha ho) h
    case skip => exact hK _ _ (agr_put ha ho) h
    case defer d => exact hK _ _ (agr_put ha ho) h
    case enter f args =>
      refine h.mono fun e w'' hR => ?_
      cases e with
      | returned v => exact hK _ _ (agr_put ha ho) hR
      | panicked c => exact hR a.tmps ha
      | outgrown => obtain ⟨_, _, h⟩ := hR; exact h.elim
    case row row args => exact Rows.mono h fun v w'' hR => hK _ _ (agr_put ha ho) hR
  | halt x w' =>
    cases x <;> simp only [Oper.upon] at h ⊢
    exact h a.tmps ha
theorem wpAny_fr (sl : List Nat) (hsl : offB sl l = true) : ∀ (fuel : Nat) (listed : Array Bool) (a : Act) (w : World), agr sl a0 a → wpAny P md l.toArray (Ix.Only2 (fr sl a0 Q)) fuel listed a w → wpAny P md l.toArray Q fuel listed a w
  | 0, _, _, _, ha, h => ⟨h.1, h.2 ha⟩
  | fuel + 1, listed, a, w, ha, h => by
    refine ⟨fun hr => h.1 hr ha, fun i hi => ?_⟩
    have h1 := h.2 i hi
    unfold wpOp at h1 ⊢
    cases ho : l.toArray[i]? with
    | none => rw [ho] at h1; exact wpAny_fr sl hsl fuel _ _ _ ha h1
    | some o =>
      rw [ho] at h1
      have hd : (match o.dst with | none => true | some t => !sl.contains t) = true := by
        unfold offB at hsl
        rw [List.all_eq_true] at hsl
        exact hsl o (List.mem_of_getElem? (by simpa using ho))
      simp only at h1 ⊢
      split at h1
      · rename_i hw
        rw [if_pos hw]
        rcases h1 with h1 | ⟨_, _, _, h1⟩
        · exact .inl (op_fr ha hd (fun a w hx hy => wpAny_fr sl hsl fuel _ _ _ hx hy) h1)
        · exact h1.elim
      · rename_i hw
        rw [if_neg hw]
        exact wpAny_fr sl hsl fuel _ _ _ (agr_put ha hd) h1
/-- A slot of the frame, as it is read. -/
theorem agr_getD {sl : List Nat} {a0 : Act} {t : Array Value} {d : List Deferred} {k : Nat} {v : Value} (h : agr sl a0 ⟨t, d⟩) (hk : k ∈ sl) (h0 : a0.tmps.getD k undef = v) : t.getD k undef = v := by
  have h1 : t[k]? = a0.tmps[k]? := h k hk
  rw [Array.getD_eq_getD_getElem?] at h0 ⊢
  rw [h1]; exact h0
/-- The same, with slots that the region does not write: what stands in them is known where it panics. -/
theorem wp_regionF {id : Nat} {w : World} (sl : List Nat) (hsl : offB sl l = true) (p : Nat) (cs : List Nat) (need : Nat → List Nat) (R : World → World → Prop) (S : Nat → (Nat → Value) → World → Prop) (V : Nat → Value → World → Prop) (al : Nat → Bool) (hm : P.follows .mixedOrders = true) (hok : okB .any l p (befs .any l) = true) (hpl : decide (p ≤ l.length) = true) (hoc : ordB cs p (befs .any l) = true) (hnb : needB cs need (befs .any l) = true)
    (hnd : ∀ n vs vs' w, (∀ k, k ∈ need n → vs k = vs' k) → S n vs w → S n vs' w)
    (hR : ∀ w, R w w) (hk : ∀ n vs, KeepsR R (S n vs)) (hV : ∀ k v, KeepsR R (V k v)) (hal : ∀ j v w, al j = true → V j v w → ∃ b, v = Value.pointer (some ⟨b, 0, none⟩) ∧ b < w.heap.size) (hS : ∀ vs, S 0 vs w.drew)
    (step : steps P l p (Ix.Only2 (fr sl a0 Q)) R S V al cs a0 p 0 l)
    (fin : ∀ (vs : Nat → Value) (w : World), S cs.length vs w → (∀ i j, i < p → j < p → al i = true → al j = true → i ≠ j → vs i ≠ vs j) → allV V vs w (fun a => wpList P l.toArray (Ix.Only2 (fr sl a0 Q)) (l.drop p) a w) p 0 l a0) :
    (Code.region id l.toArray true).wp P Q a0 w := by
  refine wp_region_any hm (wpAny_fr sl hsl _ _ _ _ (fun _ _ => rfl) (binv (Q := Ix.Only2 (fr sl a0 Q)) hR hk hoc hnd hnb hV hok Ix.only2_panic (of_decide_eq_true hpl) (fun i o hi ho => by have := steps_get _ 0 l step i o hi ho; rwa [Nat.zero_add] at this) hal
    (fun vs w hs hv hd => by rw [← fill_take p 0 l (fun k => decide (k < p)) vs a0 (fun k => by rw [Nat.zero_add])]; exact allV_of (G := fun a => wpList P l.toArray (Ix.Only2 (fr sl a0 Q)) (l.drop p) a w) p 0 l a0 _ (fun k => by rw [Nat.zero_add]) (fun k hk => by rw [Nat.zero_add]; exact hv k hk) (fin vs w hs hd)) _ _ a0 _ ?_ ⟨?_, by simp, fun i k h => ?_, fun _ => undef, ?_, ?_, fun k h => ?_, fun i j _ _ _ h => ?_⟩))
  · refine Nat.le_trans (List.length_filter_le _ _) (by simp)
  · exact getD_rep _ _
  · rw [getD_rep] at h; cases h
  · rw [ph_at cs _ 0 (Nat.zero_le _) (fun i h => by omega) (fun i _ _ => getD_rep _ _)]; exact hS _
  · exact (fill_none (l.take p) 0 _ _ a0 (fun j => getD_rep _ _)).symm
  · rw [getD_rep] at h; cases h
  · rw [getD_rep] at h; cases h
end
end Iy
end Go.Proofs.Ytfkndjifhmkojaa
