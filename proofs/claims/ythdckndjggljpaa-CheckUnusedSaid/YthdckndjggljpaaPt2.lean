/- Short names for the steps of a region's walk. No condition. -/
import Derived.Test.YthdckndjggljpaaB0
namespace Go.Proofs.Ythdckndjggljpaa
open Go.RowKit
set_option linter.unusedVariables false
theorem zyp : (∀ (a : Act) (d : Tmp) (v : Value), a.put (some d) v = { a with tmps := a.tmps.setIfInBounds d v }) ∧ (∀ (a : Act) (v : Value), a.put none v = a) ∧ (∀ (l : List Value) (i : Nat) (v : Value), l.toArray.setIfInBounds i v = (l.set i v).toArray) ∧ (∀ (x v : Value) (l : List Value), (x :: l).set 0 v = v :: l) ∧ (∀ (x v : Value) (l : List Value) (n : Nat), (x :: l).set (n + 1) v = x :: l.set n v) :=
  ⟨fun _ _ _ => rfl, fun _ _ => rfl, fun _ _ _ => List.setIfInBounds_toArray .., fun _ _ _ => rfl, fun _ _ _ _ => rfl⟩
theorem zya {V : Nat → Value → World → Prop} {w : World} {G : Act → Prop} {j : Nat} {d : Option Tmp} {r : List (Nat × Option Tmp)} {a : Act} (h : ∀ v, V j v w → Iv.askN V w G r (a.put d v)) : Iv.askN V w G ((j, d) :: r) a := h
theorem zye {V : Nat → Value → World → Prop} {w : World} {G : Act → Prop} {a : Act} (h : G a) : Iv.askN V w G [] a := h
theorem zyv {V : Nat → Value → World → Prop} {vs : Nat → Value} {w : World} {G : Act → Prop} {m : Nat} {o : Oper} {l : List Oper} {a : Act} (n j k : Nat) (h : ∀ v, vs j = v → V j v w → Ix.allV V vs w G n k l (a.put o.dst v)) (hj : j + 1 = k := by rfl) (hm : m = n + 1 := by rfl) : Ix.allV V vs w G m j (o :: l) a := Ix.allV_cons hj hm h
section
variable {P : Program} {l : List Oper} {p : Nat} {Q : Exit → Act → World → Prop} {R : World → World → Prop} {V : Nat → Value → World → Prop} {a0 : Act} {al : Nat → Bool}
theorem zyx {S : World → Prop} {m : Nat} {o : Oper} {rest : List Oper} (n i j : Nat) (N : List (Nat × Option Tmp)) (h : ∀ w, S w → Iv.askN V w (Ix.goI P l Q R V al i o w) N a0)
    (hr : Ix.steps P l p Q R S V al a0 n j rest) (hj : i + 1 = j := by rfl) (hm : m = n + 1 := by rfl) (hN : decide (Iv.needs (o.looksAt l.toArray) 0 (l.take p) = N) = true := by kernel_rfl) : Ix.steps P l p Q R S V al a0 m i (o :: rest) := Ix.steps_cons hj hm (Ix.stepI_ofN N hN h) hr
variable {S : Nat → (Nat → Value) → World → Prop} {cs : List Nat}
theorem zys {m : Nat} {o : Oper} {rest : List Oper} (n i j : Nat) (N : List (Nat × Option Tmp)) (h : ∀ n vs w, S n vs w → Iv.askN V w (Iy.goI P l Q R V al True i o w) N a0)
    (hr : Iy.steps P l p Q R S V al cs a0 n j rest) (hj : i + 1 = j := by rfl) (hm : m = n + 1 := by rfl) (hN : decide (Iv.needs (o.looksAt l.toArray) 0 (l.take p) = N) = true := by kernel_rfl) (hc : cs.contains i = false := by rfl) : Iy.steps P l p Q R S V al cs a0 m i (o :: rest) := Iy.steps_cons hj hm (Iy.stepI_ofN N hN hc h) hr
theorem zyc {m : Nat} {o : Oper} {rest : List Oper} (n i j c : Nat) (N : List (Nat × Option Tmp)) (h : ∀ vs w, S c vs w → Iv.askN (fun k v w => V k v w ∧ vs k = v) w (Iy.goI P l Q (fun w w' => S (c + 1) vs w' ∧ ∀ k, k ≠ i → V k (vs k) w → V k (vs k) w') V al False i o w) N a0)
    (hr : Iy.steps P l p Q R S V al cs a0 n j rest) (hj : i + 1 = j := by rfl) (hm : m = n + 1 := by rfl) (hN : decide (Iv.needs (o.looksAt l.toArray) 0 (l.take p) = N) = true := by kernel_rfl) (hc : decide (c < cs.length ∧ cs.getD c 0 = i ∧ ∀ j' ∈ List.range cs.length, cs.getD j' 0 = i → j' = c) = true := by kernel_rfl) : Iy.steps P l p Q R S V al cs a0 m i (o :: rest) := Iy.steps_cons hj hm (Iy.stepI_ofC c N hN hc h) hr
end
end Go.Proofs.Ythdckndjggljpaa
