/- Plain: a run that is cut, and gone on with what was left. No condition. -/
import Derived.Test.YtfjgnhmmakeaeaaE34
import Derived.Test.YtfjgnhmmakeaeaaE28
namespace Go.Proofs.Ytfjgnhmmakeaeaa
open Go.RowKit
set_option linter.unusedVariables false
set_option linter.unusedSimpArgs false
set_option maxRecDepth 100000
namespace Mc
/-- The same machine behind o told, k read, x steps. -/
def lift (o : List Int) (k : Nat) (x : Int) (b : St) : St := { b with read := k + b.read, out := o ++ b.out, steps := x + b.steps }
theorem two_lift (o : List Int) (k : Nat) (x : Int) (op a c : Int) (b : St) : two op a c (lift o k x b) = lift o k x (two op a c b) := by
  unfold two; (repeat' split) <;> rfl
theorem came_lift (o : List Int) (k : Nat) (x : Int) (inp : List Int) (hk : k ≤ inp.length) (d : Nat) (b : St) : came inp d (lift o k x b) = lift o k x (came (inp.drop k) d b) := by
  have h : inp.length = k + b.read ↔ (inp.drop k).length = b.read := by rw [List.length_drop]; omega
  have g : inp.getD (k + b.read) 0 = (inp.drop k).getD b.read 0 := by simp [List.getD_eq_getElem?_getD, List.getElem?_drop]
  unfold came
  by_cases h1 : (inp.drop k).length = b.read
  · rw [if_pos h1, if_pos (show inp.length = (lift o k x b).read from h.2 h1)]; rfl
  · rw [if_neg h1, if_neg (show ¬ inp.length = (lift o k x b).read from fun e => h1 (h.1 e))]
    show ({ (lift o k x b) with c := false, r := upd (upd b.r d 0) d (inp.getD (k + b.read) 0), read := k + b.read + 1 } : St) = _
    rw [g, Nat.add_assoc]; rfl
theorem exec_lift (o : List Int) (k : Nat) (x : Int) (inp : List Int) (hk : k ≤ inp.length) (op : Int) (d e : Nat) (imm next : Int) (b : St) (h : o.length + (exec (inp.drop k) op d e imm next b).1.out.length ≤ 65536) :
    exec inp op d e imm next (lift o k x b) = (lift o k x (exec (inp.drop k) op d e imm next b).1, (exec (inp.drop k) op d e imm next b).2) := by
  unfold exec at h ⊢
  by_cases c0 : op = 0
  · rw [if_pos c0, if_pos c0]
  rw [if_neg c0] at h ⊢; rw [if_neg c0]
  by_cases c1 : op = 32
  · rw [if_pos c1, if_pos c1]; rfl
  rw [if_neg c1] at h ⊢; rw [if_neg c1]
  by_cases c2 : op = 1
  · rw [if_pos c2, if_pos c2]; rfl
  rw [if_neg c2] at h ⊢; rw [if_neg c2]
  by_cases c3 : op = 2
  · rw [if_pos c3, if_pos c3]; rfl
  rw [if_neg c3] at h ⊢; rw [if_neg c3]
  by_cases c4 : op = 3
  · rw [if_pos c4, if_pos c4]; rfl
  rw [if_neg c4] at h ⊢; rw [if_neg c4]
  by_cases c5 : op = 4
  · rw [if_pos c5, if_pos c5]; rfl
  rw [if_neg c5] at h ⊢; rw [if_neg c5]
  by_cases c6 : op = 12 ∨ op = 13
  · rw [if_pos c6, if_pos c6, two_lift]; rfl
  rw [if_neg c6] at h ⊢; rw [if_neg c6]
  by_cases c7 : 5 ≤ op ∧ op ≤ 11
  · rw [if_pos c7, if_pos c7, two_lift]; rfl
  rw [if_neg c7] at h ⊢; rw [if_neg c7]
  by_cases c8 : 14 ≤ op ∧ op ≤ 18
  · rw [if_pos c8, if_pos c8]; rfl
  rw [if_neg c8] at h ⊢; rw [if_neg c8]
  by_cases c9 : 19 ≤ op ∧ op ≤ 25
  · rw [if_pos c9, if_pos c9]; rfl
  rw [if_neg c9] at h ⊢; rw [if_neg c9]
  by_cases c10 : op = 26
  · rw [if_pos c10, if_pos c10]; rfl
  rw [if_neg c10] at h ⊢; rw [if_neg c10]
  by_cases c11 : op = 27
  · rw [if_pos c11, if_pos c11]; rfl
  rw [if_neg c11] at h ⊢; rw [if_neg c11]
  by_cases c12 : op = 28
  · rw [if_pos c12, if_pos c12]; rfl
  rw [if_neg c12] at h ⊢; rw [if_neg c12]
  by_cases c13 : op = 29
  · rw [if_pos c13, if_pos c13]; rfl
  rw [if_neg c13] at h ⊢; rw [if_neg c13]
  by_cases c14 : op = 31
  · rw [if_pos c14, if_pos c14, came_lift o k x inp hk]; rfl
  rw [if_neg c14] at h ⊢; rw [if_neg c14]
  have hl : (lift o k x b).out.length = o.length + b.out.length := List.length_append
  by_cases c15 : b.out.length = 65536
  · rw [if_pos c15] at h ⊢
    have h' : o.length + b.out.length ≤ 65536 := h
    rw [if_pos (by rw [hl]; omega)]
  · rw [if_neg c15] at h ⊢
    have h' : o.length + (b.out ++ [b.r e % 256]).length ≤ 65536 := h
    rw [List.length_append] at h'
    rw [if_neg (by rw [hl]; simp at h'; omega)]
    show (goOn { (lift o k x b) with out := (o ++ b.out) ++ [b.r e % 256] } next, (0 : Int)) = _
    rw [List.append_assoc]; rfl
theorem step_lift (o : List Int) (k : Nat) (x : Int) (cd inp : List Int) (hk : k ≤ inp.length) (b : St) (h : o.length + (step cd (inp.drop k) b).1.out.length ≤ 65536) :
    step cd inp (lift o k x b) = (lift o k x (step cd (inp.drop k) b).1, (step cd (inp.drop k) b).2) := by
  unfold step at h ⊢
  by_cases c : (U.one cd b.pc).n = 0
  · rw [if_pos c, if_pos (show (U.one cd (lift o k x b).pc).n = 0 from c)]
  · rw [if_neg c] at h ⊢
    rw [if_neg (show ¬ (U.one cd (lift o k x b).pc).n = 0 from c)]
    exact exec_lift o k x inp hk _ _ _ _ _ b h
theorem tick_lift (o : List Int) (k : Nat) (x : Int) (cd inp : List Int) (hk : k ≤ inp.length) (b : St) (h : o.length + (tick cd (inp.drop k) b).out.length ≤ 65536) :
    tick cd inp (lift o k x b) = lift o k x (tick cd (inp.drop k) b) := by
  have e : ({ lift o k x b with steps := (lift o k x b).steps + 1 } : St) = lift o k x { b with steps := b.steps + 1 } := by
    show ({ lift o k x b with steps := x + b.steps + 1 } : St) = ({ lift o k x b with steps := x + (b.steps + 1) } : St)
    rw [Int.add_assoc]
  unfold tick
  rw [e, step_lift o k x cd inp hk _ h]
  rfl
theorem goA_lift (o : List Int) (k : Nat) (x : Int) (cd inp : List Int) (hk : k ≤ inp.length) : ∀ (n : Nat) (b : St), o.length + (goA cd (inp.drop k) n b).out.length ≤ 65536 →
    goA cd inp n (lift o k x b) = lift o k x (goA cd (inp.drop k) n b)
  | 0, b, _ => rfl
  | n + 1, b, h => by
    have hg : (tick cd (inp.drop k) b).out.length ≤ (goA cd (inp.drop k) (n + 1) b).out.length := by
      unfold goA; split
      · obtain ⟨⟨r, hr⟩, _, _⟩ := goA_le cd (inp.drop k) n (tick cd (inp.drop k) b)
        rw [hr]; simp
      · exact Nat.le_refl _
    have ht := tick_lift o k x cd inp hk b (by omega)
    unfold goA at h ⊢
    rw [ht]
    by_cases c : (tick cd (inp.drop k) b).how = 0
    · rw [if_pos c] at h ⊢
      rw [if_pos (show (lift o k x (tick cd (inp.drop k) b)).how = 0 from c)]
      exact goA_lift o k x cd inp hk n _ h
    · rw [if_neg c] at h ⊢
      rw [if_neg (show ¬ (lift o k x (tick cd (inp.drop k) b)).how = 0 from c)]
/-- Beyond the registers, beyond memory: nothing. -/
def Nz (s : St) : Prop := (∀ k, 8 ≤ k → s.r k = 0) ∧ ∀ j, MS ≤ j → s.mem j = 0
theorem upd_nz {f : Nat → Int} {n k : Nat} {x : Int} (hk : k < n) (h : ∀ j, n ≤ j → f j = 0) : ∀ j, n ≤ j → upd f k x j = 0 := by
  intro j hj; unfold upd; rw [if_neg (by omega)]; exact h j hj
theorem exec_nz (inp : List Int) (op : Int) (d e : Nat) (hd : d < 8) (imm next : Int) (s : St) (h : Nz s) : Nz (exec inp op d e imm next s).1 := by
  obtain ⟨h1, h2⟩ := h
  have p7 : ∀ x y, Nz { s with r := upd s.r 7 x, mem := upd s.mem ((s.r 7 - 1) % 65536).toNat y } := fun x y => ⟨upd_nz (by omega) h1, upd_nz (idx_lt _) h2⟩
  unfold exec
  refine ite_ind (M := fun r : St × Int => Nz r.1) (fun hyp => ?_) (fun hyp => ?_)
  · exact ⟨h1, h2⟩
  refine ite_ind (M := fun r : St × Int => Nz r.1) (fun hyp => ?_) (fun hyp => ?_)
  · exact ⟨h1, h2⟩
  refine ite_ind (M := fun r : St × Int => Nz r.1) (fun hyp => ?_) (fun hyp => ?_)
  · exact ⟨upd_nz hd h1, h2⟩
  refine ite_ind (M := fun r : St × Int => Nz r.1) (fun hyp => ?_) (fun hyp => ?_)
  · exact ⟨upd_nz hd h1, h2⟩
  refine ite_ind (M := fun r : St × Int => Nz r.1) (fun hyp => ?_) (fun hyp => ?_)
  · exact ⟨upd_nz hd h1, h2⟩
  refine ite_ind (M := fun r : St × Int => Nz r.1) (fun hyp => ?_) (fun hyp => ?_)
  · exact ⟨h1, upd_nz (idx_lt _) h2⟩
  refine ite_ind (M := fun r : St × Int => Nz r.1) (fun hyp => ?_) (fun hyp => ?_)
  · exact ⟨by show ∀ k, 8 ≤ k → (two op _ _ s).r k = 0; rw [two_r]; exact h1, by show ∀ j, MS ≤ j → (two op _ _ s).mem j = 0; rw [two_mem]; exact h2⟩
  refine ite_ind (M := fun r : St × Int => Nz r.1) (fun hyp => ?_) (fun hyp => ?_)
  · exact ⟨upd_nz hd h1, by show ∀ j, MS ≤ j → (two op _ _ s).mem j = 0; rw [two_mem]; exact h2⟩
  refine ite_ind (M := fun r : St × Int => Nz r.1) (fun hyp => ?_) (fun hyp => ?_)
  · exact ⟨upd_nz hd h1, h2⟩
  refine ite_ind (M := fun r : St × Int => Nz r.1) (fun hyp => ?_) (fun hyp => ?_)
  · exact ⟨h1, h2⟩
  refine ite_ind (M := fun r : St × Int => Nz r.1) (fun hyp => ?_) (fun hyp => ?_)
  · exact p7 _ _
  refine ite_ind (M := fun r : St × Int => Nz r.1) (fun hyp => ?_) (fun hyp => ?_)
  · exact ⟨upd_nz (by omega) h1, h2⟩
  refine ite_ind (M := fun r : St × Int => Nz r.1) (fun hyp => ?_) (fun hyp => ?_)
  · exact p7 _ _
  refine ite_ind (M := fun r : St × Int => Nz r.1) (fun hyp => ?_) (fun hyp => ?_)
  · exact ⟨upd_nz hd (upd_nz (by omega) h1), h2⟩
  refine ite_ind (M := fun r : St × Int => Nz r.1) (fun hyp => ?_) (fun hyp => ?_)
  · show Nz (goOn (came inp d s) next)
    unfold came; split
    · exact ⟨upd_nz hd h1, h2⟩
    · exact ⟨upd_nz hd (upd_nz hd h1), h2⟩
  refine ite_ind (M := fun r : St × Int => Nz r.1) (fun hyp => ?_) (fun hyp => ?_)
  · exact ⟨h1, h2⟩
  · exact ⟨h1, h2⟩
theorem tick_nz (cd inp : List Int) (s : St) (h : Nz s) : Nz (tick cd inp s) := by
  show Nz (step cd inp { s with steps := s.steps + 1 }).1
  unfold step; split
  · exact h
  · rename_i hz
    obtain ⟨_, ⟨d0, d1⟩, _⟩ := U.one_in cd s.pc hz
    exact exec_nz inp _ _ _ (show (U.one cd s.pc).d.toNat < 8 by omega) _ _ _ h
/-- Only a trap traps. -/
theorem exec_trap (inp : List Int) (op : Int) (d e : Nat) (imm next : Int) (s : St) : (exec inp op d e imm next s).2 = 0 → (exec inp op d e imm next s).1.trap = s.trap := by
  have two_trap : ∀ a b, (two op a b s).trap = s.trap := fun a b => by unfold two; (repeat' split) <;> rfl
  have came_trap : (came inp d s).trap = s.trap := by unfold came; split <;> rfl
  unfold exec
  iterate 16 (refine ite_ind (M := fun r : St × Int => r.2 = 0 → r.1.trap = s.trap) (fun hyp => ?_) (fun hyp => ?_); (· first | exact fun _ => rfl | exact fun h => absurd (show (2 : Int) = 0 from h) (by decide) | exact fun h => absurd (show (5 : Int) = 0 from h) (by decide) | exact fun _ => two_trap _ _ | exact fun _ => came_trap))
  exact fun _ => rfl
theorem tick_trap (cd inp : List Int) (s : St) (h : (tick cd inp s).how = 0) : (tick cd inp s).trap = s.trap := by
  have h' : (step cd inp { s with steps := s.steps + 1 }).2 = 0 := h
  show (step cd inp { s with steps := s.steps + 1 }).1.trap = s.trap
  unfold step at h' ⊢
  by_cases c : (U.one cd s.pc).n = 0
  · rw [if_pos c]
  · rw [if_neg c] at h' ⊢
    exact exec_trap _ _ _ _ _ _ _ h'
/-- Cut anywhere: what is left. -/
theorem goA_cut (cd inp : List Int) (nI : Nat) (hn : inp.length = nI) (hby : ∀ x ∈ inp, 0 ≤ x ∧ x < 256) : ∀ (n m : Nat) (s : St), (goA cd inp n s).how = 3 → s.how = 0 → Nz s → Fine nI s →
    ∃ t, goA cd inp n s = { t with how := 3 } ∧ goA cd inp (n + m) s = goA cd inp m t ∧ t.how = 0 ∧ t.trap = s.trap ∧ Nz t ∧ Fine nI t
  | 0, m, s, _, h0, hz, hf => ⟨s, rfl, by rw [Nat.zero_add], h0, rfl, hz, hf⟩
  | n + 1, m, s, h, h0, hz, hf => by
    unfold goA at h
    split at h
    · rename_i h1
      obtain ⟨t, k1, k2, k3, k4, k5⟩ := goA_cut cd inp nI hn hby n m _ h h1 (tick_nz cd inp s hz) (tick_fine hn hby s hf)
      refine ⟨t, ?_, ?_, k3, k4.trans (tick_trap cd inp s h1), k5⟩
      · show (if _ then _ else _) = _; rw [if_pos h1]; exact k1
      · rw [show n + 1 + m = (n + m) + 1 by omega]; show (if _ then _ else _) = _; rw [if_pos h1]; exact k2
    · exact absurd h (tick_how cd inp s)
theorem top_rest (mem : Nat → Int) : ∀ (n j : Nat), top mem n ≤ j → j < n → mem j = 0
  | 0, j, _, h => by omega
  | n + 1, j, h1, h2 => by
    by_cases c : mem n = 0
    · rw [top_zero c] at h1
      by_cases e : j = n
      · rw [e]; exact c
      · exact top_rest mem n j h1 (by omega)
    · rw [top_not c] at h1; omega
theorem memOf_left (mem : Nat → Int) (h : ∀ j, MS ≤ j → mem j = 0) : memOf (left mem) = mem := by
  funext j
  unfold memOf left
  rw [List.getD_eq_getElem?_getD, List.getElem?_map]
  rcases Nat.lt_or_ge j (top mem MS) with h1 | h1
  · rw [List.getElem?_range h1]; rfl
  · rw [List.getElem?_eq_none (by rw [List.length_range]; exact h1)]
    show (0 : Int) = mem j
    rcases Nat.lt_or_ge j MS with h2 | h2
    · exact (top_rest mem MS j h1 h2).symm
    · exact (h j h2).symm
theorem reg8_of (r : Nat → Int) (h : ∀ k, 8 ≤ k → r k = 0) : reg8 (r 0) (r 1) (r 2) (r 3) (r 4) (r 5) (r 6) (r 7) = r := by
  funext k
  match k with
  | 0 | 1 | 2 | 3 | 4 | 5 | 6 | 7 => rfl
  | k + 8 => rw [h (k + 8) (by omega)]; rfl
/-- A RUN MAY BE CUT: the second run begins where the first one ended. -/
theorem ends_cut (cd inp : List Int) (nI : Nat) (hn : inp.length = nI) (hby : ∀ x ∈ inp, 0 ≤ x ∧ x < 256) (n m : Nat) (s A B C : St) (hs : s.how = 0 ∧ s.trap = 0 ∧ s.read = 0 ∧ s.out = [] ∧ s.steps = 0) (hz : Nz s) (hf : Fine nI s)
    (hA : A = goA cd inp n s) (h3 : A.how = 3) (hC : C = goA cd inp (n + m) s)
    (hB : B = goA cd (inp.drop A.read) m (begin (reg8 (A.r 0) (A.r 1) (A.r 2) (A.r 3) (A.r 4) (A.r 5) (A.r 6) (A.r 7)) A.c A.z A.n A.v A.pc (left A.mem))) :
    (A.out.length + B.out.length ≤ 65536 → C = lift A.out A.read A.steps B) ∧ Fine nI A := by
  obtain ⟨t, k1, k2, k3, k4, k5, k6⟩ := goA_cut cd inp nI hn hby n m s (hA ▸ h3) hs.1 hz hf
  have hAt : A = { t with how := 3 } := hA.trans k1
  subst hAt
  refine ⟨fun hl => ?_, k6⟩
  have hb : begin (reg8 (t.r 0) (t.r 1) (t.r 2) (t.r 3) (t.r 4) (t.r 5) (t.r 6) (t.r 7)) t.c t.z t.n t.v t.pc (left t.mem) = { t with how := 0, trap := 0, out := [], read := 0, steps := 0 } := by
    unfold begin; rw [reg8_of t.r k5.1, memOf_left t.mem k5.2]
  have hB' : B = goA cd (inp.drop t.read) m { t with how := 0, trap := 0, out := [], read := 0, steps := 0 } := by rw [← hb]; exact hB
  have ht : t = lift t.out t.read t.steps { t with how := 0, trap := 0, out := [], read := 0, steps := 0 } := by
    unfold lift
    have a1 := k4.trans hs.2.1
    obtain ⟨r, c, z, n', v, pc, mem, how, trap, out, read, steps⟩ := t
    simp only at k3 a1
    subst k3; subst a1
    simp
  rw [hC, k2, hB']
  conv => lhs; rw [ht]
  exact goA_lift t.out t.read t.steps cd inp (by rw [hn]; exact k6.2.2) m _ (by rw [← hB']; exact hl)
end Mc
end Go.Proofs.Ytfjgnhmmakeaeaa
