/- The machine, plain: words stay words; a run; what is left of memory. No condition. -/
import Derived.Test.YtfjgnhmmakeaeaaE21
import Derived.Test.YtfjgnhmmakeaeaaB1
import Derived.LoopTactic
import Derived.Deep.Cut
namespace Go.Proofs.Ytfjgnhmmakeaeaa
open Go.RowKit
set_option linter.unusedVariables false
set_option linter.unusedSimpArgs false
set_option maxRecDepth 100000
namespace Mc

def Wd (x : Int) : Prop := 0 ≤ x ∧ x < 65536
theorem Wd.mod (x : Int) : Wd (x % 65536) := ⟨by omega, by omega⟩
/-- Registers and memory hold words. -/
def Rm (s : St) : Prop := (∀ k, k < 8 → Wd (s.r k)) ∧ ∀ j, j < MS → Wd (s.mem j)
theorem Ok.rm {s : St} (h : Ok s) : Rm s := ⟨h.1, h.2.2⟩
theorem upd_wd {f : Nat → Int} {n k : Nat} {x : Int} (h : ∀ j, j < n → Wd (f j)) (hx : Wd x) : ∀ j, j < n → Wd (upd f k x j) := by
  intro j hj; unfold upd; split
  · exact hx
  · exact h j hj
theorem goOn_ok {s : St} (h : Rm s) (x : Int) : Ok (goOn s x) := ⟨h.1, Wd.mod x, h.2⟩
theorem two_mem (op a b : Int) (s : St) : (two op a b s).mem = s.mem := by unfold two; (repeat' split) <;> rfl
theorem two_out (op a b : Int) (s : St) : (two op a b s).out = s.out := by unfold two; (repeat' split) <;> rfl
theorem two_read (op a b : Int) (s : St) : (two op a b s).read = s.read := by unfold two; (repeat' split) <;> rfl
theorem two_steps (op a b : Int) (s : St) : (two op a b s).steps = s.steps := by unfold two; (repeat' split) <;> rfl
theorem two_how (op a b : Int) (s : St) : (two op a b s).how = s.how := by unfold two; (repeat' split) <;> rfl
theorem twoR_wd (op a b : Int) (c : Bool) : Wd (twoR op a b c) := by
  unfold twoR
  (repeat' split) <;> first | exact Wd.mod _ | exact W.sR_bd _ _ _ | exact W.dR_bd _ _ _
theorem shX_wd (op a : Int) (c : Bool) : Wd (shX op a c) := by
  unfold shX; split <;> exact Wd.mod _
theorem idx_lt (x : Int) : (x % 65536).toNat < MS := by show _ < 65536; omega
theorem ite_ind {α : Type} {p : Prop} [Decidable p] {a b : α} {M : α → Prop} (h1 : p → M a) (h2 : ¬ p → M b) : M (if p then a else b) := by
  by_cases h : p
  · rw [if_pos h]; exact h1 h
  · rw [if_neg h]; exact h2 h
/-- What a run keeps true. -/
def Fine (nI : Nat) (s : St) : Prop := Ok s ∧ s.out.length ≤ 65536 ∧ s.read ≤ nI
theorem exec_fine {inp : List Int} {nI : Nat} (hn : inp.length = nI) (hby : ∀ x ∈ inp, 0 ≤ x ∧ x < 256) (op : Int) (d e : Nat) (hd : d < 8) (he : e < 8) (imm next : Int) (him : Wd imm) (s : St) (h : Fine nI s) :
    Fine nI (exec inp op d e imm next s).1 := by
  obtain ⟨hok, ho, hr⟩ := h
  have hrm := hok.rm
  have m7 : Wd (s.mem (s.r 7).toNat) := hrm.2 _ (by have := hrm.1 7 (by decide); show _ < 65536; unfold Wd at this; omega)
  unfold exec
  refine ite_ind (M := fun r : St × Int => Fine nI r.1) (fun hyp => ?_) (fun hyp => ?_)
  · exact ⟨hok, ho, hr⟩
  refine ite_ind (M := fun r : St × Int => Fine nI r.1) (fun hyp => ?_) (fun hyp => ?_)
  · exact ⟨hok, ho, hr⟩
  refine ite_ind (M := fun r : St × Int => Fine nI r.1) (fun hyp => ?_) (fun hyp => ?_)
  · exact ⟨⟨upd_wd hrm.1 (hrm.1 e he), Wd.mod _, hrm.2⟩, ho, hr⟩
  refine ite_ind (M := fun r : St × Int => Fine nI r.1) (fun hyp => ?_) (fun hyp => ?_)
  · exact ⟨⟨upd_wd hrm.1 him, Wd.mod _, hrm.2⟩, ho, hr⟩
  refine ite_ind (M := fun r : St × Int => Fine nI r.1) (fun hyp => ?_) (fun hyp => ?_)
  · exact ⟨⟨upd_wd hrm.1 (hrm.2 _ (idx_lt _)), Wd.mod _, hrm.2⟩, ho, hr⟩
  refine ite_ind (M := fun r : St × Int => Fine nI r.1) (fun hyp => ?_) (fun hyp => ?_)
  · exact ⟨⟨hrm.1, Wd.mod _, upd_wd hrm.2 (Wd.mod _)⟩, ho, hr⟩
  refine ite_ind (M := fun r : St × Int => Fine nI r.1) (fun hyp => ?_) (fun hyp => ?_)
  · refine ⟨⟨by show ∀ k, k < 8 → Wd ((two op _ _ s).r k); rw [two_r]; exact hrm.1, Wd.mod _, by show ∀ j, j < MS → Wd ((two op _ _ s).mem j); rw [two_mem]; exact hrm.2⟩, ?_, ?_⟩
    · show (two op _ _ s).out.length ≤ _; rw [two_out]; exact ho
    · show (two op _ _ s).read ≤ _; rw [two_read]; exact hr
  refine ite_ind (M := fun r : St × Int => Fine nI r.1) (fun hyp => ?_) (fun hyp => ?_)
  · refine ⟨⟨upd_wd hrm.1 (twoR_wd _ _ _ _), Wd.mod _, ?_⟩, ?_, ?_⟩
    · show ∀ j, j < MS → Wd ((two op _ _ s).mem j); rw [two_mem]; exact hrm.2
    · show (two op _ _ s).out.length ≤ _; rw [two_out]; exact ho
    · show (two op _ _ s).read ≤ _; rw [two_read]; exact hr
  refine ite_ind (M := fun r : St × Int => Fine nI r.1) (fun hyp => ?_) (fun hyp => ?_)
  · exact ⟨⟨upd_wd hrm.1 (shX_wd _ _ _), Wd.mod _, hrm.2⟩, ho, hr⟩
  refine ite_ind (M := fun r : St × Int => Fine nI r.1) (fun hyp => ?_) (fun hyp => ?_)
  · exact ⟨⟨hrm.1, Wd.mod _, hrm.2⟩, ho, hr⟩
  refine ite_ind (M := fun r : St × Int => Fine nI r.1) (fun hyp => ?_) (fun hyp => ?_)
  · exact ⟨⟨upd_wd hrm.1 (Wd.mod _), Wd.mod _, upd_wd hrm.2 (Wd.mod _)⟩, ho, hr⟩
  refine ite_ind (M := fun r : St × Int => Fine nI r.1) (fun hyp => ?_) (fun hyp => ?_)
  · exact ⟨⟨upd_wd hrm.1 (Wd.mod _), Wd.mod _, hrm.2⟩, ho, hr⟩
  refine ite_ind (M := fun r : St × Int => Fine nI r.1) (fun hyp => ?_) (fun hyp => ?_)
  · exact ⟨⟨upd_wd hrm.1 (Wd.mod _), Wd.mod _, upd_wd hrm.2 (Wd.mod _)⟩, ho, hr⟩
  refine ite_ind (M := fun r : St × Int => Fine nI r.1) (fun hyp => ?_) (fun hyp => ?_)
  · exact ⟨⟨upd_wd (upd_wd hrm.1 (Wd.mod _)) m7, Wd.mod _, hrm.2⟩, ho, hr⟩
  refine ite_ind (M := fun r : St × Int => Fine nI r.1) (fun hyp => ?_) (fun hyp => ?_)
  · unfold came
    split
    · exact ⟨⟨upd_wd hrm.1 ⟨by decide, by decide⟩, Wd.mod _, hrm.2⟩, ho, hr⟩
    · rename_i hne
      have hlt : s.read < inp.length := by omega
      have hx : Wd (inp.getD s.read 0) := by
        have := hby (inp.getD s.read 0) (by rw [List.getD_eq_getElem?_getD, List.getElem?_eq_getElem hlt]; exact List.getElem_mem _)
        exact ⟨this.1, by omega⟩
      refine ⟨⟨upd_wd (upd_wd hrm.1 ⟨by decide, by decide⟩) hx, Wd.mod _, hrm.2⟩, ho, ?_⟩
      show s.read + 1 ≤ nI
      omega
  refine ite_ind (M := fun r : St × Int => Fine nI r.1) (fun hyp => ?_) (fun hyp => ?_)
  · exact ⟨hok, ho, hr⟩
  · have hne := hyp
    refine ⟨⟨hrm.1, Wd.mod _, hrm.2⟩, ?_, hr⟩
    show (s.out ++ [_]).length ≤ _
    rw [List.length_append]; simp; omega
theorem step_fine {cd inp : List Int} {nI : Nat} (hn : inp.length = nI) (hby : ∀ x ∈ inp, 0 ≤ x ∧ x < 256) (s : St) (h : Fine nI s) : Fine nI (step cd inp s).1 := by
  unfold step
  split
  · exact h
  · rename_i hz
    obtain ⟨_, ⟨d0, d1⟩, ⟨s0, s1⟩, _, i0, i1⟩ := U.one_in cd s.pc hz
    exact exec_fine hn hby _ _ _ (by omega) (by omega) _ _ ⟨i0, i1⟩ s h
/-- Steps and how it ends are not the instruction's. -/
theorem exec_steps (inp : List Int) (op : Int) (d e : Nat) (imm next : Int) (s : St) : (exec inp op d e imm next s).1.steps = s.steps ∧ (exec inp op d e imm next s).1.how = s.how := by
  unfold exec
  iterate 16 (refine ite_ind (M := fun r : St × Int => r.1.steps = s.steps ∧ r.1.how = s.how) (fun hyp => ?_) (fun hyp => ?_); (· first | exact ⟨rfl, rfl⟩ | exact ⟨two_steps _ _ _ _, two_how _ _ _ _⟩ | (unfold came; split <;> exact ⟨rfl, rfl⟩)))
  exact ⟨rfl, rfl⟩
theorem step_steps (cd inp : List Int) (s : St) : (step cd inp s).1.steps = s.steps ∧ (step cd inp s).1.how = s.how := by
  unfold step; split
  · exact ⟨rfl, rfl⟩
  · exact exec_steps ..
/-- Who looks on. -/
structure Env (G : Type) where
  sB : G → Int → Bool
  sG : G → Int → G
  dG : G → Int → St → G
/-- A round of the machine: it takes one more step. -/
def tick (cd inp : List Int) (s : St) : St := { (step cd inp { s with steps := s.steps + 1 }).1 with how := (step cd inp { s with steps := s.steps + 1 }).2 }
/-- A run, n steps at most. -/
def go {G : Type} (E : Env G) (cd inp : List Int) : Nat → St → G → St × G
  | 0, s, g => if E.sB g s.pc then ({ s with how := 6 }, E.sG g s.pc) else ({ s with how := 3 }, E.sG g s.pc)
  | n + 1, s, g => if E.sB g s.pc then ({ s with how := 6 }, E.sG g s.pc)
    else if (tick cd inp s).how = 0 then go E cd inp n (tick cd inp s) (E.dG (E.sG g s.pc) s.pc (tick cd inp s)) else (tick cd inp s, E.dG (E.sG g s.pc) s.pc (tick cd inp s))
theorem tick_fine {cd inp : List Int} {nI : Nat} (hn : inp.length = nI) (hby : ∀ x ∈ inp, 0 ≤ x ∧ x < 256) (s : St) (h : Fine nI s) : Fine nI (tick cd inp s) := by
  have := step_fine (cd := cd) hn hby { s with steps := s.steps + 1 } h
  exact this
theorem tick_steps (cd inp : List Int) (s : St) : (tick cd inp s).steps = s.steps + 1 := (step_steps cd inp { s with steps := s.steps + 1 }).1
/-- What of memory is written out. -/
def top (mem : Nat → Int) : Nat → Nat
  | 0 => 0
  | n + 1 => if mem n = 0 then top mem n else n + 1
theorem top_le (mem : Nat → Int) : ∀ n, top mem n ≤ n
  | 0 => Nat.le_refl _
  | n + 1 => by
    unfold top; split
    · exact Nat.le_succ_of_le (top_le mem n)
    · exact Nat.le_refl _
theorem top_zero {mem : Nat → Int} {n : Nat} (h : mem n = 0) : top mem (n + 1) = top mem n := by
  show (if mem n = 0 then top mem n else n + 1) = _; rw [if_pos h]
theorem top_not {mem : Nat → Int} {n : Nat} (h : mem n ≠ 0) : top mem (n + 1) = n + 1 := by
  show (if mem n = 0 then top mem n else n + 1) = _; rw [if_neg h]
def left (mem : Nat → Int) : List Int := (List.range (top mem MS)).map mem
end Mc
end Go.Proofs.Ytfjgnhmmakeaeaa
/- Walk of emu.Watch, its start. -/
namespace Go.Proofs.Ytfjgnhmmakeaeaa
open Go.RowKit
set_option linter.unusedVariables false
set_option linter.unusedSimpArgs false
set_option maxRecDepth 100000
open Mc

/-- What a run gives, as a value. -/
abbrev ranV (s : St) (ov mv : Value) : Value :=
  .agg #[.int .i64 s.how, .int .i64 s.trap, ov, .int .i64 (s.read : Int), .int .i64 s.steps, .int .i64 (s.r 0), .int .i64 (s.r 1), .int .i64 (s.r 2), .int .i64 (s.r 3), .int .i64 (s.r 4), .int .i64 (s.r 5), .int .i64 (s.r 6), .int .i64 (s.r 7), .bool s.c, .bool s.z, .bool s.n, .bool s.v, .int .i64 s.pc, mv]
abbrev ranZ : Value := .agg #[.int .i64 0, .int .i64 0, .slice none 0 0, .int .i64 0, .int .i64 0, .int .i64 0, .int .i64 0, .int .i64 0, .int .i64 0, .int .i64 0, .int .i64 0, .int .i64 0, .int .i64 0, .bool false, .bool false, .bool false, .bool false, .int .i64 0, .slice none 0 0]
def memOf (ms : List Int) : Nat → Int := fun j => ms.getD j 0
/-- The machine as it begins. -/
def Mc.begin (r : Nat → Int) (c z n v : Bool) (pc : Int) (ms : List Int) : St := ⟨r, c, z, n, v, pc, memOf ms, 0, 0, [], 0, 0⟩
def reg8 (r0 r1 r2 r3 r4 r5 r6 r7 : Int) : Nat → Int := fun k => [r0, r1, r2, r3, r4, r5, r6, r7].getD k 0
theorem mem_cell (ms : List Int) (k : Nat) (h : ms.length + k = 65536) (j : Nat) (hj : j < MS) : (ms.map (Value.int .i64) ++ List.replicate k (Value.int .i64 0))[j]? = some (.int .i64 (memOf ms j)) := by
  have hj2 : j < 65536 := hj
  unfold memOf
  by_cases h1 : j < ms.length
  · rw [List.getElem?_append_left (by simpa using h1)]
    simp [List.getD_eq_getElem?_getD, List.getElem?_eq_getElem h1]
  · rw [List.getElem?_append_right (by simp; omega), List.getElem?_replicate, if_pos (by simp; omega)]
    simp [List.getD_eq_getElem?_getD, List.getElem?_eq_none (show ms.length ≤ j by omega)]
/-- A row of one's own of so many cells, as the machine's memory. -/
theorem own_mem {w : World} {base : Nat} {v : Value} {ms : List Int} {k : Nat} (hk : ms.length + k = 65536) (h : w.ownsRow base 3 1 v (ms.length + k) (ms.map (Value.int .i64) ++ List.replicate k (Value.int .i64 0))) :
    ∃ g cap, v = .slice (some ⟨g, 0, none⟩) MS cap ∧ MS ≤ cap ∧ base ≤ g ∧ MemIs w g (memOf ms) := by
  obtain ⟨hl, h2⟩ := h
  rcases h2 with ⟨rfl, h0⟩ | ⟨g, cap, cur, rfl, hb, hg, hc, hm, hsz, htake⟩
  · exfalso; omega
  · rw [hk] at hc htake
    refine ⟨g, cap, by rw [hk]; rfl, hc, hb, cur, hg, fun j hj => ?_⟩
    have e := mem_cell ms k hk j hj
    rw [← htake, List.getElem?_take] at e
    split at e
    · rw [← Array.getElem?_toList]; exact e
    · cases e
def msr (fuel : Int) (mb : Nat) (w : World) : Nat := (fuel + 1 - (intOf ((w.cell? ⟨mb, 20, none⟩).getD undef))).toNat
theorem msr_of {fuel : Int} {mb : Nat} {w : World} {x : Int} (h : w.cell? ⟨mb, 20, none⟩ = some (.int .i64 x)) : msr fuel mb w = (fuel + 1 - x).toNat := by
  unfold msr; rw [h]; rfl
theorem Mach.setHow {w : World} {B : Nat} {L : Lay} {s : St} {ov : Value} (h : Mach w B L s ov) (x : Int) : Mach (w.setCell ⟨L.mb, 16, none⟩ (.int .i64 x)) B L { s with how := x } ov := h.set 16 _ { s with how := x } rfl rfl rfl
theorem Mach.setSteps {w : World} {B : Nat} {L : Lay} {s : St} {ov : Value} (h : Mach w B L s ov) (x : Int) : Mach (w.setCell ⟨L.mb, 20, none⟩ (.int .i64 x)) B L { s with steps := x } ov := h.set 20 _ { s with steps := x } rfl rfl rfl
/-- Nobody looks on. -/
def Mc.alone : Env Unit := ⟨fun _ _ => false, fun g _ => g, fun g _ _ => g⟩
/-- The loop of a run, at its head. -/
structure LoopAt (cd inp : List Int) (nI : Nat) (fuel : Int) (w3 : World) (B : Nat) (L : Lay) (fin : St) (wr : World) : Prop where
  of ::
  get : ∃ (s : St) (n : Nat) (ov : Value), Mach wr B L s ov ∧ Below B w3 wr ∧ Fine nI s ∧ s.steps + n = fuel ∧ 0 ≤ s.steps ∧ (s.how = 0 → (go Mc.alone cd inp n s ()).1 = fin) ∧ (s.how ≠ 0 → s = fin)
theorem results_cell2 {P : Program} {fn : Func} {p q : Tmp} {ty : TypeId} (h : fn.results = #[.cell p ty, .tmp q]) (tmps : Array Value) (w : World) (g : Nat) (t : TypeId) (cs : Array Value) (fr : Nat × Nat) (d : TypeDesc)
    (hp : tmps.getD p undef = .pointer (some ⟨g, 0, none⟩)) (hg : w.heap[g]? = some (.cells cs t fr))
    (hu : P.underlying ty = some d) (hd : (match d with | .struct _ | .array _ _ => true | _ => false) = true) (hi : (P.info? ty).map (·.size) = some cs.size) :
    (results fn tmps).run P w = .ok (.tuple #[.agg cs, tmps.getD q undef]) w := by
  have hp' : tmps[p]?.getD undef = .pointer (some ⟨g, 0, none⟩) := by simpa using hp
  simp [results, h, hp', asAddr, run_loadVar_row w g t ty cs fr d hg hu hd hi]
theorem Blk.row {w : World} {g : Nat} {t : TypeId} {old : Array Value} (h : Blk w g t old) (cs : Array Value) : Blk (w.setRow g cs) g t cs := setRow_heap w g old cs t _ h
theorem Below.row {B : Nat} {w w' : World} (h : Below B w w') {g : Nat} (hg : B ≤ g) (cs : Array Value) : Below B w (w'.setRow g cs) :=
  h.trans ⟨rfl, rfl, rfl, by simp [World.setRow], fun k hk => setRow_other w' g k cs (by omega)⟩
theorem Blk.farRow {w : World} {g : Nat} {t : TypeId} {cs : Array Value} (h : Blk w g t cs) {g' : Nat} (hn : g ≠ g') (cs' : Array Value) : Blk (w.setRow g' cs') g t cs := (setRow_other w g' g cs' hn).trans h
abbrev ranZc : Array Value := #[.int .i64 0, .int .i64 0, .slice none 0 0, .int .i64 0, .int .i64 0, .int .i64 0, .int .i64 0, .int .i64 0, .int .i64 0, .int .i64 0, .int .i64 0, .int .i64 0, .int .i64 0, .bool false, .bool false, .bool false, .bool false, .int .i64 0, .slice none 0 0]
theorem ranZ_one : ranZc.all (·.oneCell') = true := by simp [Value.oneCell']
/-- A part of a block, read as a struct; written. -/
theorem run_load_sub {P : Program} (w : World) (g o : Nat) (t ty : TypeId) (cs : Array Value) (vs : List Value) (d : TypeDesc) (hg : Blk w g t cs) (hvs : (cs.toList.drop o).take vs.length = vs)
    (hu : P.underlying ty = some d) (hd : (match d with | .struct _ | .array _ _ => true | _ => false) = true) (hi : (P.info? ty).map (·.size) = some vs.length) : (loadVar ty ⟨g, o, none⟩).run P w = .ok (.agg vs.toArray) w := by
  have hl : (loadCells ⟨g, o, none⟩ vs.length).run P w = .ok vs.toArray w :=
    run_loadCells_list (P := P) w ⟨g, o, none⟩ vs (fun j v hv => by
      rw [addr_add, hg.cell, ← Array.getElem?_toList]
      rw [← hvs, List.getElem?_take] at hv
      split at hv
      · rwa [List.getElem?_drop] at hv
      · cases hv)
  cases hq : P.info? ty with
  | none => simp [hq] at hi
  | some i =>
    have hs : i.size = vs.length := by simpa [hq] using hi
    have hagg : (isAgg ty).run P w = .ok true w := by
      unfold isAgg
      rw [Sem.run_bind, run_underlying hu w]
      cases d <;> simp_all
    simp [loadVar, Sem.run_bind, hagg, sizeOf, typeInfo, hq, hs, hl]
theorem wpList_load_sub {P : Program} {ops : Array Oper} {rest : List Oper} {o : Oper} {a : Act} {w : World} {Q : Exit → Act → World → Prop} (hgd : o.guard = none) (ty : TypeId) (x : Operand) (ho : o.op = .load ty x)
    (g k : Nat) (hx : a.eval x = .pointer (some ⟨g, k, none⟩)) (t : TypeId) (cs : Array Value) (vs : List Value) (d : TypeDesc) (hg : Blk w g t cs) (hvs : (cs.toList.drop k).take vs.length = vs)
    (hu : P.underlying ty = some d) (hd : (match d with | .struct _ | .array _ _ => true | _ => false) = true) (hi : (P.info? ty).map (·.size) = some vs.length)
    (h : wpList P ops Q rest (a.put o.dst (.agg vs.toArray)) w) : wpList P ops Q (o :: rest) a w :=
  wpList_plain hgd fun _ hK => by
    unfold Oper.wp execOp
    simp only [ho, hx, Instr.loadAt, Instr.sureAddr, Sem.run_bind, Sem.run_pure, Result.andThen_ok, run_load_sub w g k t ty cs vs d hg hvs hu hd hi]
    exact hK _ _ h
theorem run_store_sub {P : Program} (w : World) (g o : Nat) (t ty : TypeId) (cs : Array Value) (vs : List Value) (hg : Blk w g t cs) (hi : (P.info? ty).map (·.size) = some vs.length) (hfit : o + vs.length ≤ cs.size) (h1 : ∀ u ∈ vs, u.oneCell' = true) :
    (storeVar ty ⟨g, o, none⟩ (.agg vs.toArray)).run P w = .ok () (w.setRow g (cs.toList.take o ++ vs ++ cs.toList.drop (o + vs.length)).toArray) := by
  have hst := run_storeCells_at P g o t vs 0 cs w hg (by simpa using hfit) h1
  simp only [Nat.add_zero] at hst
  cases hq : P.info? ty with
  | none => simp [hq] at hi
  | some i =>
    have hs : i.size = vs.length := by simpa [hq] using hi
    simp [storeVar, sizeOf, typeInfo, hq, Value.cells, hs, hst]
theorem wpList_store_sub {P : Program} {ops : Array Oper} {rest : List Oper} {o : Oper} {a : Act} {w : World} {Q : Exit → Act → World → Prop} (hgd : o.guard = none) (ty : TypeId) (x y : Operand) (ho : o.op = .store ty x y)
    (g k : Nat) (vs : List Value) (hx : a.eval x = .pointer (some ⟨g, k, none⟩)) (hy : a.eval y = .agg vs.toArray) (t : TypeId) (cs cs' : Array Value) (hg : Blk w g t cs) (hi : (P.info? ty).map (·.size) = some vs.length) (hfit : k + vs.length ≤ cs.size) (h1 : ∀ u ∈ vs, u.oneCell' = true)
    (hcs : (cs.toList.take k ++ vs ++ cs.toList.drop (k + vs.length)).toArray = cs')
    (h : wpList P ops Q rest (a.put o.dst undef) (w.setRow g cs')) : wpList P ops Q (o :: rest) a w :=
  wpList_plain hgd fun _ hK => by
    unfold Oper.wp execOp
    simp only [ho, hx, hy, Instr.storeAt, Instr.sureAddr, Sem.run_bind, Sem.run_pure, Result.andThen_ok, run_store_sub w g k t ty cs vs hg hi hfit h1, hcs]
    exact hK _ _ h
abbrev stL (s : St) (mv : Value) : List Value := [.int .i64 (s.r 0), .int .i64 (s.r 1), .int .i64 (s.r 2), .int .i64 (s.r 3), .int .i64 (s.r 4), .int .i64 (s.r 5), .int .i64 (s.r 6), .int .i64 (s.r 7), .bool s.c, .bool s.z, .bool s.n, .bool s.v, .int .i64 s.pc, mv]
abbrev mac5 (L : Lay) (s : St) (ov mv : Value) : Array Value :=
  #[.int .i64 (s.r 0), .int .i64 (s.r 1), .int .i64 (s.r 2), .int .i64 (s.r 3), .int .i64 (s.r 4), .int .i64 (s.r 5), .int .i64 (s.r 6), .int .i64 (s.r 7),
    .bool s.c, .bool s.z, .bool s.n, .bool s.v, .int .i64 s.pc, mv, L.cv, L.iv, .int .i64 s.how, .int .i64 s.trap, ov, .int .i64 (s.read : Int), .int .i64 s.steps,
    .int .i64 0, .int .i64 0, .int .i64 0, .int .i64 0, .int .i64 0, .int .i64 0, .int .i64 0, .int .i64 0, .bool false, .bool false, .bool false, .bool false, .int .i64 0, .slice none 0 0]
abbrev mac6 (L : Lay) (s : St) (ov mv : Value) : Array Value :=
  #[.int .i64 (s.r 0), .int .i64 (s.r 1), .int .i64 (s.r 2), .int .i64 (s.r 3), .int .i64 (s.r 4), .int .i64 (s.r 5), .int .i64 (s.r 6), .int .i64 (s.r 7),
    .bool s.c, .bool s.z, .bool s.n, .bool s.v, .int .i64 s.pc, mv, L.cv, L.iv, .int .i64 s.how, .int .i64 s.trap, ov, .int .i64 (s.read : Int), .int .i64 s.steps,
    .int .i64 (s.r 0), .int .i64 (s.r 1), .int .i64 (s.r 2), .int .i64 (s.r 3), .int .i64 (s.r 4), .int .i64 (s.r 5), .int .i64 (s.r 6), .int .i64 (s.r 7), .bool s.c, .bool s.z, .bool s.n, .bool s.v, .int .i64 s.pc, mv]
abbrev ranL (s : St) (ov mv : Value) : List Value := [.int .i64 s.how, .int .i64 s.trap, ov, .int .i64 (s.read : Int), .int .i64 s.steps, .int .i64 (s.r 0), .int .i64 (s.r 1), .int .i64 (s.r 2), .int .i64 (s.r 3), .int .i64 (s.r 4), .int .i64 (s.r 5), .int .i64 (s.r 6), .int .i64 (s.r 7), .bool s.c, .bool s.z, .bool s.n, .bool s.v, .int .i64 s.pc, mv]
theorem stL_one (s : St) (a : Option Addr) (l k : Nat) : ∀ u ∈ stL s (.slice a l k), u.oneCell' = true := by
  intro u hu; simp only [List.mem_cons, List.not_mem_nil, or_false] at hu; rcases hu with rfl | rfl | rfl | rfl | rfl | rfl | rfl | rfl | rfl | rfl | rfl | rfl | rfl | rfl <;> rfl
theorem ranL_one (s : St) (a b : Option Addr) (l k l' k' : Nat) : ((ranL s (.slice a l k) (.slice b l' k')).toArray).all (·.oneCell') = true := by simp [Value.oneCell']
theorem Mc.MemIs.rd {w : World} {g : Nat} {mem : Nat → Int} (h : MemIs w g mem) (k cap : Nat) (hk : k ≤ MS) (hc : k ≤ cap) : Rd w 1 (.slice (some ⟨g, 0, none⟩) k cap) k (((List.range k).map mem).map (Value.int .i64)) := by
  have hk2 : k ≤ 65536 := hk
  obtain ⟨arr, hb, hcell⟩ := h
  refine ⟨by simp, by unfold maxLen; omega, _, cap, rfl, hc, fun _ => ⟨g, 0, rfl, fun j u hu => ?_⟩⟩
  rw [Nat.zero_add, hb.cell]
  rw [List.map_map, List.getElem?_map] at hu
  rcases Nat.lt_or_ge j k with hj | hj
  · rw [List.getElem?_range hj] at hu
    simp at hu; subst hu
    exact hcell j (by omega)
  · rw [List.getElem?_eq_none (by simpa using hj)] at hu; cases hu
theorem ownsRow_farRow {w : World} {base e size : Nat} {v : Value} {n : Nat} {xs : List Value} (h : w.ownsRow base e size v n xs) {g : Nat} {t : TypeId} {cs : Array Value} (hb : Blk w g t cs) (hne : e ≠ t) (cs' : Array Value) : (w.setRow g cs').ownsRow base e size v n xs := by
  obtain ⟨hl, h2⟩ := h
  refine ⟨hl, ?_⟩
  rcases h2 with ⟨rfl, rfl⟩ | ⟨g', cap, cur, rfl, hbb, hg, hc, hm, hsz, htake⟩
  · exact .inl ⟨rfl, rfl⟩
  · refine .inr ⟨g', cap, cur, rfl, hbb, ?_, hc, hm, hsz, htake⟩
    have hn : g' ≠ g := fun e' => by
      subst e'; unfold Blk at hb; rw [hg] at hb; injection hb with hb; injection hb with _ ht; exact hne ht
    exact (setRow_other w g g' cs' hn).trans hg
/-- The last lines of a run: what is known where memory has been written out. -/
theorem run_end {w W wc : World} {B ZB : Nat} {L : Lay} {s : St} {ov : Value} {a : Option Addr} {k vk : Nat} (hm : Mach W B L s ov) (hlo : s.out.length ≤ 65536) (hkm : k ≤ MS) (ht : top s.mem MS = k) (hz : Blk W ZB 30 ranZc) (hB : w.heap.size ≤ B) (hZ : w.heap.size ≤ ZB)
    (hw : Below w.heap.size w W) (hbc : Below W.heap.size W wc) (ho : wc.ownsRow W.heap.size 3 1 (.slice a k vk) k (((List.range k).map s.mem).map (Value.int .i64))) :
    Blk (wc.setCell ⟨L.mb, 13, none⟩ (.slice a k vk)) L.mb 107 (mac5 L s ov (.slice a k vk)) ∧ Blk ((wc.setCell ⟨L.mb, 13, none⟩ (.slice a k vk)).setRow L.mb (mac6 L s ov (.slice a k vk))) L.mb 107 (mac6 L s ov (.slice a k vk)) ∧
    Blk ((wc.setCell ⟨L.mb, 13, none⟩ (.slice a k vk)).setRow L.mb (mac6 L s ov (.slice a k vk))) ZB 30 ranZc ∧
    ∀ cs', ((((wc.setCell ⟨L.mb, 13, none⟩ (.slice a k vk)).setRow L.mb (mac6 L s ov (.slice a k vk))).setRow ZB cs').ownsRow w.heap.size 5 1 ov s.out.length (s.out.map (Value.int .u8)) ∧
      (((wc.setCell ⟨L.mb, 13, none⟩ (.slice a k vk)).setRow L.mb (mac6 L s ov (.slice a k vk))).setRow ZB cs').ownsRow w.heap.size 3 1 (.slice a k vk) (top s.mem MS) ((left s.mem).map (Value.int .i64)) ∧
      Below w.heap.size w (((wc.setCell ⟨L.mb, 13, none⟩ (.slice a k vk)).setRow L.mb (mac6 L s ov (.slice a k vk))).setRow ZB cs')) := by
  have hk2 : k ≤ 65536 := hkm
  have hmc := hm.keep hbc
  have hzc := hz.keep hbc
  have h5 : Blk (wc.setCell ⟨L.mb, 13, none⟩ (.slice a k vk)) L.mb 107 (mac5 L s ov (.slice a k vk)) := hmc.blk.set_ 13 _
  have hne : ZB ≠ L.mb := fun e => by subst e; exact hmc.blk.ne_ hzc (by decide) rfl
  have z5 : Blk (wc.setCell ⟨L.mb, 13, none⟩ (.slice a k vk)) ZB 30 ranZc := hzc.far hne _
  have h6 := h5.row (mac6 L s ov (.slice a k vk))
  have z6 := z5.farRow hne (mac6 L s ov (.slice a k vk))
  refine ⟨h5, h6, z6, fun cs' => ⟨?_, ?_, ?_⟩⟩
  · exact own_mono hB (ownsRow_farRow (ownsRow_farRow (ownsRow_far hmc.out hmc.blk (by decide) 13 _) h5 (by decide) _) z6 (by decide) cs')
  · have := ownsRow_farRow (ownsRow_farRow (ownsRow_far ho hmc.blk (by decide) 13 (.slice a k vk)) h5 (by decide) (mac6 L s ov (.slice a k vk))) z6 (by decide) cs'
    rw [show left s.mem = (List.range k).map s.mem by unfold left; rw [ht], ht]
    exact own_mono hw.size this
  · exact Below.row (Below.row (Below.setCell (Ext.trans hw hbc) (p := ⟨L.mb, 13, none⟩) (Nat.le_trans hB hm.lo1) _) (Nat.le_trans hB hm.lo1) _) hZ _
theorem Below.to_w {w w1 w2 : World} (h : Below w.heap.size w w1) (k : Below w1.heap.size w1 w2) : Below w.heap.size w w2 := Ext.trans h k
set_option maxHeartbeats 4000000 in
theorem watch_wrong (cv iv : Value) (E1 : Int) (h0 : E1 ≠ 0) (r0 r1 r2 r3 r4 r5 r6 r7 pc fuel : Int) (c z n v : Bool) (mv sv dv : Value)
    (w : World) (hw : ∀ w1 : World, Below w.heap.size w w1 → Calls Try.prog 61 #[cv, stV r0 r1 r2 r3 r4 r5 r6 r7 c z n v pc mv, iv, .int .i64 fuel] w1 fun e w' => e = .returned (.int .i64 E1) ∧ Below w1.heap.size w1 w') (hmv : ∃ a l k, mv = .slice a l k) :
    Calls Try.prog 43 #[cv, stV r0 r1 r2 r3 r4 r5 r6 r7 c z n v pc mv, iv, .int .i64 fuel, sv, dv] w fun e w' => e = .returned (.tuple #[ranZ, .int .i64 E1]) ∧ Below w.heap.size w w' := by
  have HW := Lib.hid hw
  obtain ⟨stBox, hst⟩ : ∃ o : Obj, o = .cells #[.int .i64 r0, .int .i64 r1, .int .i64 r2, .int .i64 r3, .int .i64 r4, .int .i64 r5, .int .i64 r6, .int .i64 r7, .bool c, .bool z, .bool n, .bool v, .int .i64 pc, mv] 27 := ⟨_, rfl⟩
  have e0 : (E1 != 0) = true := by simpa using h0
  obtain ⟨ma, ml, mk, rfl⟩ := hmv
  clear hw h0
  go_enter Try.func43, Try.ntmps43
  go_wp2_with (first | (go_at_call 61; refine (HW.out _ (Ext.alloc (Ext.alloc (Below.refl _ _) _) _)).mono ?_; rintro e w1 ⟨rfl, hb1⟩; have HB1 := Lib.hid hb1; have HZ1 := Lib.hid ((by have := Blk.new (w.alloc stBox) 30 ranZc; subst hst; simpa using this.keep hb1 : Blk w1 (w.heap.size + 1) 30 ranZc)); clear hb1) | (refine wpList_store_row rfl 30 _ _ rfl (w.heap.size + 1) ranZc rfl rfl 30 ranZc HZ1.out (by kernel_rfl) rfl ranZ_one ?_))
  exact bodyPost_ret (results_cell2 rfl _ _ (w.heap.size + 1) 30 ranZc (0, 0) _ rfl (HZ1.out.row ranZc) Try.underlying30 rfl (by kernel_rfl)) rfl ⟨rfl, Below.row (Ext.trans (Ext.alloc (Ext.alloc (Below.refl _ _) _) _) HB1.out) (by omega) _⟩
end Go.Proofs.Ytfjgnhmmakeaeaa
