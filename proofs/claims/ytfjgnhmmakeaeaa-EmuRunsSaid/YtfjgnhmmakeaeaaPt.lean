/- Short names for the steps of a region's walk. No condition. -/
import Derived.Test.YtfjgnhmmakeaeaaB0
namespace Go.Proofs.Ytfjgnhmmakeaeaa
open Go.RowKit
set_option linter.unusedVariables false
theorem zzp : (∀ (a : Act) (d : Tmp) (v : Value), a.put (some d) v = { a with tmps := a.tmps.setIfInBounds d v }) ∧ (∀ (a : Act) (v : Value), a.put none v = a) ∧ (∀ (l : List Value) (i : Nat) (v : Value), l.toArray.setIfInBounds i v = (l.set i v).toArray) ∧ (∀ (x v : Value) (l : List Value), (x :: l).set 0 v = v :: l) ∧ (∀ (x v : Value) (l : List Value) (n : Nat), (x :: l).set (n + 1) v = x :: l.set n v) :=
  ⟨fun _ _ _ => rfl, fun _ _ => rfl, fun _ _ _ => List.setIfInBounds_toArray .., fun _ _ _ => rfl, fun _ _ _ _ => rfl⟩
theorem zza {V : Nat → Value → World → Prop} {w : World} {G : Act → Prop} {j : Nat} {d : Option Tmp} {r : List (Nat × Option Tmp)} {a : Act} (h : ∀ v, V j v w → Iv.askN V w G r (a.put d v)) : Iv.askN V w G ((j, d) :: r) a := h
theorem zze {V : Nat → Value → World → Prop} {w : World} {G : Act → Prop} {a : Act} (h : G a) : Iv.askN V w G [] a := h
theorem zzv {V : Nat → Value → World → Prop} {vs : Nat → Value} {w : World} {G : Act → Prop} {m : Nat} {o : Oper} {l : List Oper} {a : Act} (n j k : Nat) (hj : j + 1 = k) (hm : m = n + 1) (h : ∀ v, vs j = v → V j v w → Ix.allV V vs w G n k l (a.put o.dst v)) : Ix.allV V vs w G m j (o :: l) a := Ix.allV_cons hj hm h
section
variable {P : Program} {l : List Oper} {p : Nat} {Q : Exit → Act → World → Prop} {R : World → World → Prop} {V : Nat → Value → World → Prop} {a0 : Act} {al : Nat → Bool}
theorem zzx {S : World → Prop} {m : Nat} {o : Oper} {rest : List Oper} (n i j : Nat) (hj : i + 1 = j) (hm : m = n + 1) (N : List (Nat × Option Tmp)) (hN : decide (Iv.needs (o.looksAt l.toArray) 0 (l.take p) = N) = true) (h : ∀ w, S w → Iv.askN V w (Ix.goI P l Q R V al i o w) N a0)
    (hr : Ix.steps P l p Q R S V al a0 n j rest) : Ix.steps P l p Q R S V al a0 m i (o :: rest) := Ix.steps_cons hj hm (Ix.stepI_ofN N hN h) hr
variable {S : Nat → (Nat → Value) → World → Prop} {cs : List Nat}
theorem zzs {m : Nat} {o : Oper} {rest : List Oper} (n i j : Nat) (hj : i + 1 = j) (hm : m = n + 1) (N : List (Nat × Option Tmp)) (hN : decide (Iv.needs (o.looksAt l.toArray) 0 (l.take p) = N) = true) (hc : cs.contains i = false) (h : ∀ n vs w, S n vs w → Iv.askN V w (Iy.goI P l Q R V al True i o w) N a0)
    (hr : Iy.steps P l p Q R S V al cs a0 n j rest) : Iy.steps P l p Q R S V al cs a0 m i (o :: rest) := Iy.steps_cons hj hm (Iy.stepI_ofN N hN hc h) hr
end
end Go.Proofs.Ytfjgnhmmakeaeaa
