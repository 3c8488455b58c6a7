/- The machine, plain: words stay words; a run; what is left of memory. No condition. -/
import Derived.Test.YtfjgnhmmakeaeaaE21
namespace Go.Proofs.Ytfjgnhmmakeaeaa
open Go.RowKit
set_option linter.unusedVariables false
set_option linter.unusedSimpArgs false
set_option maxRecDepth 100000
namespace Mc

def Wd (x : Int) : Prop := 0 ≤ x ∧ x < 65536
theorem Wd.mod (x : Int) : Wd (x % 65536) := ⟨by omega, by omega⟩
/-- Registers and memory hold words. -/
def Rm (s : St) : Prop := (∀ k, k < 8 → Wd (s.r k)) ∧ ∀ j, j < MS → Wd (s.mem j)
theorem Ok.rm {s : St} (h : Ok s) : Rm s := ⟨h.1, h.2.2⟩
theorem upd_wd {f : Nat → Int} {n k : Nat} {x : Int} (h : ∀ j, j < n → Wd (f j)) (hx : Wd x) : ∀ j, j < n → Wd (upd f k x j) := by
  intro j hj; unfold upd; split
  · exact hx
  · exact h j hj
theorem goOn_ok {s : St} (h : Rm s) (x : Int) : Ok (goOn s x) := ⟨h.1, Wd.mod x, h.2⟩
theorem two_mem (op a b : Int) (s : St) : (two op a b s).mem = s.mem := by unfold two; (repeat' split) <;> rfl
theorem two_out (op a b : Int) (s : St) : (two op a b s).out = s.out := by unfold two; (repeat' split) <;> rfl
theorem two_read (op a b : Int) (s : St) : (two op a b s).read = s.read := by unfold two; (repeat' split) <;> rfl
theorem two_steps (op a b : Int) (s : St) : (two op a b s).steps = s.steps := by unfold two; (repeat' split) <;> rfl
theorem two_how (op a b : Int) (s : St) : (two op a b s).how = s.how := by unfold two; (repeat' split) <;> rfl
theorem twoR_wd (op a b : Int) (c : Bool) : Wd (twoR op a b c) := by
  unfold twoR
  (repeat' split) <;> first | exact Wd.mod _ | exact W.sR_bd _ _ _ | exact W.dR_bd _ _ _
theorem shX_wd (op a : Int) (c : Bool) : Wd (shX op a c) := by
  unfold shX; split <;> exact Wd.mod _
theorem idx_lt (x : Int) : (x % 65536).toNat < MS := by show _ < 65536; omega
theorem ite_ind {α : Type} {p : Prop} [Decidable p] {a b : α} {M : α → Prop} (h1 : p → M a) (h2 : ¬ p → M b) : M (if p then a else b) := by
  by_cases h : p
  · rw [if_pos h]; exact h1 h
  · rw [if_neg h]; exact h2 h
/-- What a run keeps true. -/
def Fine (nI : Nat) (s : St) : Prop := Ok s ∧ s.out.length ≤ 65536 ∧ s.read ≤ nI
theorem exec_fine {inp : List Int} {nI : Nat} (hn : inp.length = nI) (hby : ∀ x ∈ inp, 0 ≤ x ∧ x < 256) (op : Int) (d e : Nat) (hd : d < 8) (he : e < 8) (imm next : Int) (him : Wd imm) (s : St) (h : Fine nI s) :
    Fine nI (exec inp op d e imm next s).1 := by
  obtain ⟨hok, ho, hr⟩ := h
  have hrm := hok.rm
  have m7 : Wd (s.mem (s.r 7).toNat) := hrm.2 _ (by have := hrm.1 7 (by decide); show _ < 65536; unfold Wd at this; omega)
  unfold exec
  refine ite_ind (M := fun r : St × Int => Fine nI r.1) (fun hyp => ?_) (fun hyp => ?_)
  · exact ⟨hok, ho, hr⟩
  refine ite_ind (M := fun r : St × Int => Fine nI r.1) (fun hyp => ?_) (fun hyp => ?_)
  · exact ⟨hok, ho, hr⟩
  refine ite_ind (M := fun r : St × Int => Fine nI r.1) (fun hyp => ?_) (fun hyp => ?_)
  · exact ⟨⟨upd_wd hrm.1 (hrm.1 e he), Wd.mod _, hrm.2⟩, ho, hr⟩
  refine ite_ind (M := fun r : St × Int => Fine nI r.1) (fun hyp => ?_) (fun hyp => ?_)
  · exact ⟨⟨upd_wd hrm.1 him, Wd.mod _, hrm.2⟩, ho, hr⟩
  refine ite_ind (M := fun r : St × Int => Fine nI r.1) (fun hyp => ?_) (fun hyp => ?_)
  · exact ⟨⟨upd_wd hrm.1 (hrm.2 _ (idx_lt _)), Wd.mod _, hrm.2⟩, ho, hr⟩
  refine ite_ind (M := fun r : St × Int => Fine nI r.1) (fun hyp => ?_) (fun hyp => ?_)
  · exact ⟨⟨hrm.1, Wd.mod _, upd_wd hrm.2 (Wd.mod _)⟩, ho, hr⟩
  refine ite_ind (M := fun r : St × Int => Fine nI r.1) (fun hyp => ?_) (fun hyp => ?_)
  · refine ⟨⟨by show ∀ k, k < 8 → Wd ((two op _ _ s).r k); rw [two_r]; exact hrm.1, Wd.mod _, by show ∀ j, j < MS → Wd ((two op _ _ s).mem j); rw [two_mem]; exact hrm.2⟩, ?_, ?_⟩
    · show (two op _ _ s).out.length ≤ _; rw [two_out]; exact ho
    · show (two op _ _ s).read ≤ _; rw [two_read]; exact hr
  refine ite_ind (M := fun r : St × Int => Fine nI r.1) (fun hyp => ?_) (fun hyp => ?_)
  · refine ⟨⟨upd_wd hrm.1 (twoR_wd _ _ _ _), Wd.mod _, ?_⟩, ?_, ?_⟩
    · show ∀ j, j < MS → Wd ((two op _ _ s).mem j); rw [two_mem]; exact hrm.2
    · show (two op _ _ s).out.length ≤ _; rw [two_out]; exact ho
    · show (two op _ _ s).read ≤ _; rw [two_read]; exact hr
  refine ite_ind (M := fun r : St × Int => Fine nI r.1) (fun hyp => ?_) (fun hyp => ?_)
  · exact ⟨⟨upd_wd hrm.1 (shX_wd _ _ _), Wd.mod _, hrm.2⟩, ho, hr⟩
  refine ite_ind (M := fun r : St × Int => Fine nI r.1) (fun hyp => ?_) (fun hyp => ?_)
  · exact ⟨⟨hrm.1, Wd.mod _, hrm.2⟩, ho, hr⟩
  refine ite_ind (M := fun r : St × Int => Fine nI r.1) (fun hyp => ?_) (fun hyp => ?_)
  · exact ⟨⟨upd_wd hrm.1 (Wd.mod _), Wd.mod _, upd_wd hrm.2 (Wd.mod _)⟩, ho, hr⟩
  refine ite_ind (M := fun r : St × Int => Fine nI r.1) (fun hyp => ?_) (fun hyp => ?_)
  · exact ⟨⟨upd_wd hrm.1 (Wd.mod _), Wd.mod _, hrm.2⟩, ho, hr⟩
  refine ite_ind (M := fun r : St × Int => Fine nI r.1) (fun hyp => ?_) (fun hyp => ?_)
  · exact ⟨⟨upd_wd hrm.1 (Wd.mod _), Wd.mod _, upd_wd hrm.2 (Wd.mod _)⟩, ho, hr⟩
  refine ite_ind (M := fun r : St × Int => Fine nI r.1) (fun hyp => ?_) (fun hyp => ?_)
  · exact ⟨⟨upd_wd (upd_wd hrm.1 (Wd.mod _)) m7, Wd.mod _, hrm.2⟩, ho, hr⟩
  refine ite_ind (M := fun r : St × Int => Fine nI r.1) (fun hyp => ?_) (fun hyp => ?_)
  · unfold came
    split
    · exact ⟨⟨upd_wd hrm.1 ⟨by decide, by decide⟩, Wd.mod _, hrm.2⟩, ho, hr⟩
    · rename_i hne
      have hlt : s.read < inp.length := by omega
      have hx : Wd (inp.getD s.read 0) := by
        have := hby (inp.getD s.read 0) (by rw [List.getD_eq_getElem?_getD, List.getElem?_eq_getElem hlt]; exact List.getElem_mem _)
        exact ⟨this.1, by omega⟩
      refine ⟨⟨upd_wd (upd_wd hrm.1 ⟨by decide, by decide⟩) hx, Wd.mod _, hrm.2⟩, ho, ?_⟩
      show s.read + 1 ≤ nI
      omega
  refine ite_ind (M := fun r : St × Int => Fine nI r.1) (fun hyp => ?_) (fun hyp => ?_)
  · exact ⟨hok, ho, hr⟩
  · have hne := hyp
    refine ⟨⟨hrm.1, Wd.mod _, hrm.2⟩, ?_, hr⟩
    show (s.out ++ [_]).length ≤ _
    rw [List.length_append]; simp; omega
theorem step_fine {cd inp : List Int} {nI : Nat} (hn : inp.length = nI) (hby : ∀ x ∈ inp, 0 ≤ x ∧ x < 256) (s : St) (h : Fine nI s) : Fine nI (step cd inp s).1 := by
  unfold step
  split
  · exact h
  · rename_i hz
    obtain ⟨_, ⟨d0, d1⟩, ⟨s0, s1⟩, _, i0, i1⟩ := U.one_in cd s.pc hz
    exact exec_fine hn hby _ _ _ (by omega) (by omega) _ _ ⟨i0, i1⟩ s h
/-- Steps and how it ends are not the instruction's. -/
theorem exec_steps (inp : List Int) (op : Int) (d e : Nat) (imm next : Int) (s : St) : (exec inp op d e imm next s).1.steps = s.steps ∧ (exec inp op d e imm next s).1.how = s.how := by
  unfold exec
  iterate 16 (refine ite_ind (M := fun r : St × Int => r.1.steps = s.steps ∧ r.1.how = s.how) (fun hyp => ?_) (fun hyp => ?_); (· first | exact ⟨rfl, rfl⟩ | exact ⟨two_steps _ _ _ _, two_how _ _ _ _⟩ | (unfold came; split <;> exact ⟨rfl, rfl⟩)))
  exact ⟨rfl, rfl⟩
theorem step_steps (cd inp : List Int) (s : St) : (step cd inp s).1.steps = s.steps ∧ (step cd inp s).1.how = s.how := by
  unfold step; split
  · exact ⟨rfl, rfl⟩
  · exact exec_steps ..
/-- Who looks on. -/
structure Env (G : Type) where
  sB : G → Int → Bool
  sG : G → Int → G
  dG : G → Int → St → G
/-- A round of the machine: it takes one more step. -/
def tick (cd inp : List Int) (s : St) : St := { (step cd inp { s with steps := s.steps + 1 }).1 with how := (step cd inp { s with steps := s.steps + 1 }).2 }
/-- A run, n steps at most. -/
def go {G : Type} (E : Env G) (cd inp : List Int) : Nat → St → G → St × G
  | 0, s, g => if E.sB g s.pc then ({ s with how := 6 }, E.sG g s.pc) else ({ s with how := 3 }, E.sG g s.pc)
  | n + 1, s, g => if E.sB g s.pc then ({ s with how := 6 }, E.sG g s.pc)
    else if (tick cd inp s).how = 0 then go E cd inp n (tick cd inp s) (E.dG (E.sG g s.pc) s.pc (tick cd inp s)) else (tick cd inp s, E.dG (E.sG g s.pc) s.pc (tick cd inp s))
theorem tick_fine {cd inp : List Int} {nI : Nat} (hn : inp.length = nI) (hby : ∀ x ∈ inp, 0 ≤ x ∧ x < 256) (s : St) (h : Fine nI s) : Fine nI (tick cd inp s) := by
  have := step_fine (cd := cd) hn hby { s with steps := s.steps + 1 } h
  exact this
theorem tick_steps (cd inp : List Int) (s : St) : (tick cd inp s).steps = s.steps + 1 := (step_steps cd inp { s with steps := s.steps + 1 }).1
/-- What of memory is written out. -/
def top (mem : Nat → Int) : Nat → Nat
  | 0 => 0
  | n + 1 => if mem n = 0 then top mem n else n + 1
theorem top_le (mem : Nat → Int) : ∀ n, top mem n ≤ n
  | 0 => Nat.le_refl _
  | n + 1 => by
    unfold top; split
    · exact Nat.le_succ_of_le (top_le mem n)
    · exact Nat.le_refl _
theorem top_zero {mem : Nat → Int} {n : Nat} (h : mem n = 0) : top mem (n + 1) = top mem n := by
  show (if mem n = 0 then top mem n else n + 1) = _; rw [if_pos h]
theorem top_not {mem : Nat → Int} {n : Nat} (h : mem n ≠ 0) : top mem (n + 1) = n + 1 := by
  show (if mem n = 0 then top mem n else n + 1) = _; rw [if_neg h]
def left (mem : Nat → Int) : List Int := (List.range (top mem MS)).map mem
end Mc
end Go.Proofs.Ytfjgnhmmakeaeaa
