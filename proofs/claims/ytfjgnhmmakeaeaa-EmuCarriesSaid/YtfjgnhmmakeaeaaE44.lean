/- Plain: straight programs. No condition. -/
import Derived.Test.YtfjgnhmmakeaeaaE34
import Derived.Test.YtfjgnhmmakeaeaaE32
namespace Go.Proofs.Ytfjgnhmmakeaeaa
open Go.RowKit
set_option linter.unusedVariables false
set_option linter.unusedSimpArgs false
set_option maxRecDepth 100000

/-- Fields that an instruction has not are 0. -/
def U.In.Tidy (i : U.In) : Prop := (U.hd i.op = false → i.d = 0) ∧ (U.hs i.op = false → i.s = 0) ∧ (U.hi i.op = false → i.imm = 0)
def U.In.ins (i : U.In) : U.Ins := ⟨i.op, i.d, i.s, i.imm, (U.enc i).length⟩
theorem getD_at (pre : List Int) (x : Int) (post : List Int) : (pre ++ x :: post).getD pre.length 0 = x := by
  rw [List.getD_eq_getElem?_getD, List.getElem?_append_right (Nat.le_refl _)]; simp
theorem getD_at1 (pre : List Int) (x y : Int) (post : List Int) : (pre ++ x :: y :: post).getD (pre.length + 1) 0 = y := by
  rw [List.getD_eq_getElem?_getD, List.getElem?_append_right (by omega)]; simp
/-- What is encoded is read. -/
theorem U.word_parts (op d s : Int) (db sb : Bool) (ho : 0 ≤ op ∧ op ≤ 32) (hd : 0 ≤ d ∧ d ≤ 7) (hs : 0 ≤ s ∧ s ≤ 7) (hd0 : db = false → d = 0) (hs0 : sb = false → s = 0) :
    ∃ x, op * 1024 + (if db = true then d * 128 else 0) + (if sb = true then s * 16 else 0) = x ∧ U.opOf x = op ∧ U.dOf x = d ∧ U.sOf x = s ∧ x % 16 = 0 ∧ 0 ≤ x ∧ x ≤ 65535 := by
  refine ⟨_, rfl, ?_⟩
  unfold U.opOf U.dOf U.sOf
  cases db <;> cases sb <;> simp at hd0 hs0 ⊢ <;> (try subst hd0) <;> (try subst hs0) <;> omega
theorem U.one_enc (pre post : List Int) (i : U.In) (h : i.Ok) (ht : i.Tidy) : U.one (pre ++ (U.enc i ++ post)) (pre.length : Int) = i.ins := by
  obtain ⟨op, d, s, imm⟩ := i
  obtain ⟨ho, hd, hs, hi, _⟩ := h
  obtain ⟨td, ts, ti⟩ := ht
  simp only at ho hd hs hi td ts ti
  have hd' : 0 ≤ d ∧ d ≤ 7 := by
    cases hb : U.hd op
    · have := td hb; omega
    · exact hd hb
  have hs' : 0 ≤ s ∧ s ≤ 7 := by
    cases hb : U.hs op
    · have := ts hb; omega
    · exact hs hb
  obtain ⟨x, hx, x1, x2, x3, x4, x5, x6⟩ := U.word_parts op d s (U.hd op) (U.hs op) ho hd' hs' td ts
  have hw : U.word ⟨op, d, s, imm⟩ = x := hx
  have hf : U.first x = true := by
    unfold U.first
    rw [x1, x2, x3]
    have hk : U.hk op = true := by unfold U.hk; exact decide_eq_true ho
    have e1 : (U.hd op || decide (d = 0)) = true := by
      cases hb : U.hd op
      · rw [td hb]; rfl
      · rfl
    have e2 : (U.hs op || decide (s = 0)) = true := by
      cases hb : U.hs op
      · rw [ts hb]; rfl
      · rfl
    rw [hk, e1, e2, decide_eq_true x4]; rfl
  have hwd : U.wd x = true := by unfold U.wd; exact decide_eq_true ⟨x5, x6⟩
  unfold U.one U.In.ins U.enc
  rw [hw]
  cases hb : U.hi op
  · have g1 : (pre ++ ((x :: if false = true then [imm] else []) ++ post)).getD pre.length 0 = x := getD_at pre x _
    rw [if_neg (by simp; omega), Int.toNat_natCast, g1, hwd, hf, x1, x2, x3, hb, if_neg (by decide), if_neg (by decide), if_pos rfl, ti hb]
    rfl
  · have g1 : (pre ++ ((x :: if true = true then [imm] else []) ++ post)).getD pre.length 0 = x := getD_at pre x _
    have g2 : (pre ++ ((x :: if true = true then [imm] else []) ++ post)).getD (pre.length + 1) 0 = imm := getD_at1 pre x imm _
    have hwi : U.wd imm = true := by unfold U.wd; exact decide_eq_true (hi hb)
    rw [if_neg (by simp; omega), Int.toNat_natCast, g1, hwd, hf, x1, x2, x3, hb, if_neg (by decide), if_neg (by decide), if_neg (by decide), if_neg (by simp; omega), g2, hwi, if_neg (by decide)]
    rfl
namespace Mc
/-- A round at an instruction that is known. -/
def doI (inp : List Int) (i : U.In) (s : St) : St :=
  { (exec inp i.op i.d.toNat i.s.toNat i.imm (s.pc + (U.enc i).length) { s with steps := s.steps + 1 }).1 with how := (exec inp i.op i.d.toNat i.s.toNat i.imm (s.pc + (U.enc i).length) { s with steps := s.steps + 1 }).2 }
theorem tick_do {pre post : List Int} {inp : List Int} {i : U.In} (h : i.Ok) (ht : i.Tidy) (s : St) (hp : s.pc = (pre.length : Int)) : tick (pre ++ (U.enc i ++ post)) inp s = doI inp i s := by
  have ho := U.one_enc pre post i h ht
  have hn : ¬ i.ins.n = 0 := by
    have := (U.enc_len i).1
    show ¬ ((U.enc i).length : Int) = 0
    omega
  unfold tick step doI
  show (({ (if (U.one _ s.pc).n = 0 then _ else _ : St × Int).1 with how := (if (U.one _ s.pc).n = 0 then _ else _ : St × Int).2 } : St)) = _
  rw [hp, ho, if_neg hn]
  rfl
/-- Instructions behind which the next one comes. -/
def Plain (i : U.In) : Prop := (1 ≤ i.op ∧ i.op ≤ 18) ∨ i.op = 28 ∨ i.op = 29 ∨ i.op = 30 ∨ i.op = 31
end Mc
/-- A look at an instruction that is written out. -/
def U.chk (op d s : Int) : Bool := decide (0 ≤ op ∧ op ≤ 32) && (if U.hd op then decide (0 ≤ d ∧ d ≤ 7) else decide (d = 0)) && (if U.hs op then decide (0 ≤ s ∧ s ≤ 7) else decide (s = 0)) && decide ((1 ≤ op ∧ op ≤ 18) ∨ op = 28 ∨ op = 29 ∨ op = 30 ∨ op = 31)
theorem U.in_full (op d s imm : Int) (hc : U.chk op d s = true) (hi : (U.hi op = true → 0 ≤ imm ∧ imm ≤ 65535) ∧ (U.hi op = false → imm = 0)) : U.In.Ok ⟨op, d, s, imm⟩ ∧ U.In.Tidy ⟨op, d, s, imm⟩ ∧ Mc.Plain ⟨op, d, s, imm⟩ := by
  unfold U.chk at hc
  simp only [Bool.and_eq_true, decide_eq_true_eq] at hc
  obtain ⟨⟨⟨h1, h2⟩, h3⟩, h4⟩ := hc
  have hd : (U.hd op = true → 0 ≤ d ∧ d ≤ 7) ∧ (U.hd op = false → d = 0) := by
    cases hb : U.hd op <;> simp [hb] at h2 ⊢ <;> exact h2
  have hs : (U.hs op = true → 0 ≤ s ∧ s ≤ 7) ∧ (U.hs op = false → s = 0) := by
    cases hb : U.hs op <;> simp [hb] at h3 ⊢ <;> exact h3
  have bd : W.I d := by
    unfold W.I
    cases hb : U.hd op
    · have := hd.2 hb; omega
    · have := hd.1 hb; omega
  have bs : W.I s := by
    unfold W.I
    cases hb : U.hs op
    · have := hs.2 hb; omega
    · have := hs.1 hb; omega
  have bi : W.I imm := by
    unfold W.I
    cases hb : U.hi op
    · have := hi.2 hb; omega
    · have := hi.1 hb; omega
  exact ⟨⟨h1, hd.1, hs.1, hi.1, ⟨bd, bs, bi⟩⟩, ⟨hd.2, hs.2, hi.2⟩, h4⟩
namespace Mc
theorem came_how (inp : List Int) (d : Nat) (s : St) : (came inp d s).how = s.how := by unfold came; split <;> rfl
theorem exec_on (inp : List Int) (op : Int) (d e : Nat) (imm next : Int) (s : St) (hp : (1 ≤ op ∧ op ≤ 18) ∨ op = 28 ∨ op = 29 ∨ op = 30 ∨ op = 31) (ho : s.out.length < 65536) :
    (exec inp op d e imm next s).2 = 0 ∧ (exec inp op d e imm next s).1.pc = next % 65536 ∧ (exec inp op d e imm next s).1.out.length ≤ s.out.length + 1 := by
  unfold exec
  rw [if_neg (by omega), if_neg (by omega)]
  iterate 5 (refine ite_ind (M := fun r : St × Int => r.2 = 0 ∧ r.1.pc = next % 65536 ∧ r.1.out.length ≤ s.out.length + 1) (fun hyp => ?_) (fun hyp => ?_); (· first | exact ⟨rfl, rfl, Nat.le_succ _⟩ | exact ⟨rfl, rfl, by show (two _ _ _ _).out.length ≤ _; rw [two_out]; exact Nat.le_succ _⟩))
  iterate 2 (refine ite_ind (M := fun r : St × Int => r.2 = 0 ∧ r.1.pc = next % 65536 ∧ r.1.out.length ≤ s.out.length + 1) (fun hyp => ?_) (fun hyp => ?_); (· first | exact ⟨rfl, rfl, by show (two _ _ _ _).out.length ≤ _; rw [two_out]; exact Nat.le_succ _⟩ | exact ⟨rfl, rfl, Nat.le_succ _⟩))
  rw [if_neg (by omega), if_neg (by omega), if_neg (by omega)]
  iterate 2 (refine ite_ind (M := fun r : St × Int => r.2 = 0 ∧ r.1.pc = next % 65536 ∧ r.1.out.length ≤ s.out.length + 1) (fun hyp => ?_) (fun hyp => ?_); (· exact ⟨rfl, rfl, Nat.le_succ _⟩))
  refine ite_ind (M := fun r : St × Int => r.2 = 0 ∧ r.1.pc = next % 65536 ∧ r.1.out.length ≤ s.out.length + 1) (fun hyp => ?_) (fun hyp => ?_)
  · refine ⟨rfl, rfl, ?_⟩
    show (came inp d s).out.length ≤ _
    unfold came; split <;> exact Nat.le_succ _
  · rw [if_neg (by omega)]
    refine ⟨rfl, rfl, ?_⟩
    show (s.out ++ [_]).length ≤ _
    simp
theorem doI_on (inp : List Int) (i : U.In) (s : St) (hp : Plain i) (ho : s.out.length < 65536) : (doI inp i s).how = 0 ∧ (doI inp i s).pc = (s.pc + (U.enc i).length) % 65536 ∧ (doI inp i s).out.length ≤ s.out.length + 1 :=
  exec_on inp i.op i.d.toNat i.s.toNat i.imm _ { s with steps := s.steps + 1 } hp ho
def runL (inp : List Int) : List U.In → St → St
  | [], s => s
  | i :: l, s => runL inp l (doI inp i s)
theorem runL_append (inp : List Int) : ∀ (a b : List U.In) (s : St), runL inp (a ++ b) s = runL inp b (runL inp a s)
  | [], _, _ => rfl
  | i :: a, b, s => runL_append inp a b _
theorem encs_cons (i : U.In) (l : List U.In) : U.encs (i :: l) = U.enc i ++ U.encs l := List.flatMap_cons
/-- A straight program runs from its first to its last. -/
theorem goA_line (inp : List Int) (n : Nat) (post : List Int) : ∀ (l : List U.In) (pre : List Int) (s : St), (∀ i ∈ l, i.Ok ∧ i.Tidy ∧ Plain i) → s.pc = (pre.length : Int) → (pre ++ (U.encs l ++ post)).length ≤ 65535 → s.out.length + l.length ≤ 65536 →
    goA (pre ++ (U.encs l ++ post)) inp (n + l.length) s = goA (pre ++ (U.encs l ++ post)) inp n (runL inp l s) ∧ (runL inp l s).pc = (((pre ++ U.encs l).length : Nat) : Int) ∧ (runL inp l s).how = (if l = [] then s.how else 0)
  | [], pre, s, _, hp, _, _ => ⟨rfl, by rw [show U.encs [] = [] from rfl, List.append_nil]; exact hp, rfl⟩
  | i :: l, pre, s, hl, hp, hsz, ho => by
    obtain ⟨hok, htd, hpl⟩ := hl i (List.mem_cons_self ..)
    obtain ⟨h0, h1, h2⟩ := doI_on inp i s hpl (by simp at ho; omega)
    have e : pre ++ (U.encs (i :: l) ++ post) = (pre ++ U.enc i) ++ (U.encs l ++ post) := by rw [encs_cons]; simp
    have ht : tick (pre ++ (U.encs (i :: l) ++ post)) inp s = doI inp i s := by
      rw [encs_cons, List.append_assoc]; exact tick_do hok htd s hp
    have hpc : (doI inp i s).pc = (((pre ++ U.enc i).length : Nat) : Int) := by
      rw [h1, hp, List.length_append]
      rw [e] at hsz
      simp only [List.length_append] at hsz
      omega
    obtain ⟨i1, i2, i3⟩ := goA_line inp n post l (pre ++ U.enc i) (doI inp i s) (fun j hj => hl j (List.mem_cons_of_mem _ hj)) hpc (by rw [← e]; exact hsz) (by simp at ho; omega)
    refine ⟨?_, ?_, ?_⟩
    · rw [List.length_cons, ← Nat.add_assoc]
      show (if (tick _ _ s).how = 0 then _ else _) = _
      rw [ht, if_pos h0, e]; exact i1
    · rw [encs_cons, ← List.append_assoc]; exact i2
    · rw [if_neg (by simp)]
      show (runL inp l (doI inp i s)).how = 0
      rw [i3]; split
      · exact h0
      · rfl
def haltI : U.In := ⟨0, 0, 0, 0⟩
theorem halt_ok : haltI.Ok := ⟨by decide, by decide, by decide, by decide, by simp [haltI, W.I]⟩
theorem halt_tidy : haltI.Tidy := ⟨fun _ => rfl, fun _ => rfl, fun _ => rfl⟩
/-- And halts. -/
theorem goA_halts (inp : List Int) (n : Nat) (l : List U.In) (s : St) (hl : ∀ i ∈ l, i.Ok ∧ i.Tidy ∧ Plain i) (hp : s.pc = 0) (hsz : (U.encs l).length ≤ 65534) (ho : s.out.length + l.length ≤ 65536) :
    goA (U.encs (l ++ [haltI])) inp (n + 1 + l.length) s = { runL inp l s with steps := (runL inp l s).steps + 1, how := 1 } := by
  have e : U.encs (l ++ [haltI]) = [] ++ (U.encs l ++ U.encs [haltI]) := by unfold U.encs; rw [List.flatMap_append]; rfl
  have hone : U.encs [haltI] = U.enc haltI ++ [] := rfl
  obtain ⟨h1, h2, _⟩ := goA_line inp (n + 1) (U.encs [haltI]) l [] s hl hp (by simp only [List.nil_append, List.length_append]; have : (U.encs [haltI]).length = 1 := rfl; omega) ho
  rw [e, h1]
  have ht : tick ([] ++ (U.encs l ++ U.encs [haltI])) inp (runL inp l s) = doI inp haltI (runL inp l s) := by
    rw [List.nil_append, hone]
    exact tick_do (pre := U.encs l) halt_ok halt_tidy _ (by rw [h2, List.nil_append])
  show (if (tick _ _ _).how = 0 then _ else _) = _
  rw [ht]
  rfl
end Mc
end Go.Proofs.Ytfjgnhmmakeaeaa
