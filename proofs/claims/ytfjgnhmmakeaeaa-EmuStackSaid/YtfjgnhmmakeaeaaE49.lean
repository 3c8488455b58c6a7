/- EmuStack: plain law. -/
import Derived.Test.YtfjgnhmmakeaeaaE46
namespace Go.Proofs.Ytfjgnhmmakeaeaa
open Go.RowKit
set_option linter.unusedVariables false
set_option linter.unusedSimpArgs false
set_option maxRecDepth 100000
open Mc
namespace Mc
def pu (x : Int) : List U.In := [⟨2, 0, 0, x⟩, ⟨28, 0, 0, 0⟩]
def po : List U.In := [⟨29, 1, 0, 0⟩, ⟨30, 0, 1, 0⟩]
def puL (xs : List Int) : List U.In := xs.flatMap pu
def poL : Nat → List U.In
  | 0 => []
  | n + 1 => poL n ++ po
theorem puL_len (xs : List Int) : (puL xs).length = 2 * xs.length := by
  induction xs with
  | nil => rfl
  | cons x xs ih => unfold puL at *; rw [List.flatMap_cons, List.length_append, ih]; simp [pu]; omega
theorem poL_len : ∀ n, (poL n).length = 2 * n
  | 0 => rfl
  | n + 1 => by show (poL n ++ po).length = _; rw [List.length_append, poL_len n]; simp [po]; omega
theorem puL_snoc (xs : List Int) (x : Int) : puL (xs ++ [x]) = puL xs ++ pu x := by unfold puL; rw [List.flatMap_append]; simp
theorem pu_in {x : Int} (h : Wd x) : ∀ i ∈ pu x, i.Ok ∧ i.Tidy ∧ Plain i := by
  intro i hi
  unfold Wd at h
  simp only [pu, List.mem_cons, List.not_mem_nil, or_false] at hi
  rcases hi with rfl | rfl
  · exact U.in_full 2 0 0 x rfl ⟨fun _ => by omega, fun h => absurd h (by decide)⟩
  · exact U.in_full 28 0 0 0 rfl ⟨fun h => absurd h (by decide), fun _ => rfl⟩
theorem po_in : ∀ i ∈ po, i.Ok ∧ i.Tidy ∧ Plain i := by
  intro i hi
  simp only [po, List.mem_cons, List.not_mem_nil, or_false] at hi
  rcases hi with rfl | rfl
  · exact U.in_full 29 1 0 0 rfl ⟨fun h => absurd h (by decide), fun _ => rfl⟩
  · exact U.in_full 30 0 1 0 rfl ⟨fun h => absurd h (by decide), fun _ => rfl⟩
theorem stk_in (xs : List Int) (n : Nat) (h : ∀ x ∈ xs, Wd x) : ∀ i ∈ puL xs ++ poL n, i.Ok ∧ i.Tidy ∧ Plain i := by
  intro i hi
  rw [List.mem_append] at hi
  rcases hi with hi | hi
  · unfold puL at hi
    obtain ⟨x, hx, hi⟩ := List.mem_flatMap.1 hi
    exact pu_in (h x hx) i hi
  · have : ∀ n, i ∈ poL n → i.Ok ∧ i.Tidy ∧ Plain i := by
      intro n
      induction n with
      | zero => intro h; cases h
      | succ n ih =>
        intro h
        rcases List.mem_append.1 h with h | h
        · exact ih h
        · exact po_in i h
    exact this n hi
theorem puL_enc (xs : List Int) : (U.encs (puL xs)).length = 3 * xs.length := by
  induction xs with
  | nil => rfl
  | cons x xs ih =>
    show (U.encs (pu x ++ puL xs)).length = _
    unfold U.encs at *
    rw [List.flatMap_append, List.length_append, ih]
    have : (List.flatMap U.enc (pu x)).length = 3 := rfl
    rw [this]; simp; omega
theorem poL_enc : ∀ n, (U.encs (poL n)).length = 2 * n
  | 0 => rfl
  | n + 1 => by
    have ih := poL_enc n
    show (U.encs (poL n ++ po)).length = _
    unfold U.encs at *
    rw [List.flatMap_append, List.length_append, ih]
    have : (List.flatMap U.enc po).length = 2 := rfl
    rw [this]; omega
/-- A word pushed. -/
theorem run_pu (x : Int) (hx : Wd x) (s : St) : ∃ t, runL [] (pu x) s = t ∧ t.r 7 = (s.r 7 - 1) % 65536 ∧ t.out = s.out ∧ t.mem = upd s.mem ((s.r 7 - 1) % 65536).toNat x ∧ t.r 1 = s.r 1 := by
  unfold Wd at hx
  have hxx : x % 65536 = x := by omega
  refine ⟨_, rfl, ?_⟩
  have e : runL [] (pu x) s = doI [] ⟨28, 0, 0, 0⟩ (doI [] ⟨2, 0, 0, x⟩ s) := rfl
  have e1 : doI [] ⟨2, 0, 0, x⟩ s = { goOn { s with steps := s.steps + 1, r := upd s.r 0 x } (s.pc + 2) with how := 0 } := rfl
  have e2 : ∀ s : St, doI [] ⟨28, 0, 0, 0⟩ s = { goOn (pushed { s with steps := s.steps + 1 } (s.r 0)) (s.pc + 1) with how := 0 } := fun _ => rfl
  rw [e, e1, e2]
  refine ⟨rfl, rfl, ?_, rfl⟩
  show upd s.mem ((upd s.r 0 x 7 - 1) % 65536).toNat (upd s.r 0 x 0 % 65536) = _
  rw [show upd s.r 0 x 7 = s.r 7 from rfl, show upd s.r 0 x 0 = x from rfl, hxx]
/-- A word popped, and told. -/
theorem run_po (s : St) (ho : s.out.length < 65536) : ∃ t, runL [] po s = t ∧ t.r 7 = (s.r 7 + 1) % 65536 ∧ t.out = s.out ++ [s.mem (s.r 7).toNat % 256] ∧ t.mem = s.mem ∧ t.r 1 = s.mem (s.r 7).toNat := by
  have e : runL [] po s = doI [] ⟨30, 0, 1, 0⟩ (doI [] ⟨29, 1, 0, 0⟩ s) := rfl
  obtain ⟨a, ha⟩ : ∃ a, a = doI [] ⟨29, 1, 0, 0⟩ s := ⟨_, rfl⟩
  have a1 : a.r 1 = s.mem (s.r 7).toNat := by rw [ha]; rfl
  have a2 : a.r 7 = (s.r 7 + 1) % 65536 := by rw [ha]; rfl
  have a3 : a.out = s.out := by rw [ha]; rfl
  have a4 : a.mem = s.mem := by rw [ha]; rfl
  have e2 : ∀ s : St, s.out.length < 65536 → doI [] ⟨30, 0, 1, 0⟩ s = { goOn { s with steps := s.steps + 1, out := s.out ++ [s.r 1 % 256] } (s.pc + 1) with how := 0 } := fun s h => by
    unfold doI
    show ({ (exec [] 30 0 1 0 _ _).1 with how := (exec [] 30 0 1 0 _ _).2 } : St) = _
    rw [exec_out, if_neg (show ¬ s.out.length = 65536 by omega)]
    rfl
  refine ⟨_, rfl, ?_⟩
  rw [e, ← ha, e2 a (by rw [a3]; exact ho), ← a1, ← a2, ← a3, ← a4]
  exact ⟨rfl, rfl, rfl, rfl⟩
/-- What is pushed last is popped first. -/
theorem run_stk : ∀ (xs : List Int) (s : St), Wd (s.r 7) → (∀ x ∈ xs, Wd x) → xs.length ≤ 60000 → s.out.length + xs.length ≤ 60000 →
    ∃ t, runL [] (puL xs ++ poL xs.length) s = t ∧ t.r 7 = s.r 7 ∧ t.out = s.out ++ (xs.reverse.map (· % 256)) ∧ (∀ a, (∀ i, i < xs.length → a ≠ ((s.r 7 - 1 - (i : Int)) % 65536).toNat) → t.mem a = s.mem a) ∧ t.r 1 = xs.headD (s.r 1)
  | [], s, _, _, _, _ => ⟨s, rfl, rfl, by simp, fun _ _ => rfl, rfl⟩
  | x :: xs, s, h7, hx, hl, ho => by
    have hxw := hx x (List.mem_cons_self ..)
    simp only [List.length_cons] at hl ho
    obtain ⟨a, ha, a7, ao, am, a1⟩ := run_pu x hxw s
    have ha7 : Wd (a.r 7) := by rw [a7]; exact Wd.mod _
    obtain ⟨b, hb, b7, bo, bm, b1⟩ := run_stk xs a ha7 (fun y hy => hx y (List.mem_cons_of_mem _ hy)) (by omega) (by rw [ao]; omega)
    have hbo : b.out.length < 65536 := by rw [bo, ao, List.length_append, List.length_map, List.length_reverse]; omega
    obtain ⟨c, hc, c7, co, cm, c1⟩ := run_po b hbo
    have e : runL [] (puL (x :: xs) ++ poL (x :: xs).length) s = c := by
      have e0 : puL (x :: xs) ++ poL (x :: xs).length = pu x ++ ((puL xs ++ poL xs.length) ++ po) := by
        show (pu x ++ puL xs) ++ (poL xs.length ++ po) = _
        simp
      rw [e0, runL_append, ha, runL_append, hb, hc]
    have hmx : b.mem (b.r 7).toNat = x := by
      rw [b7, bm _ (fun i hi => by rw [a7]; unfold Wd at h7; omega), am, a7]
      unfold upd; rw [if_pos rfl]
    unfold Wd at h7
    refine ⟨c, e, ?_, ?_, ?_, ?_⟩
    · rw [c7, b7, a7]; omega
    · rw [co, bo, ao, hmx]; simp
    · intro q hq
      have h0 := hq 0 (by simp)
      rw [cm, bm q (fun i hi => by
        have := hq (i + 1) (by simpa using hi)
        rw [a7]
        have e : ((s.r 7 - 1) % 65536 - 1 - (i : Int)) % 65536 = (s.r 7 - 1 - ((i + 1 : Nat) : Int)) % 65536 := by omega
        rw [e]; exact this), am]
      unfold upd
      rw [if_neg (by intro e; exact h0 (by rw [e]; congr 2; simp))]
    · rw [c1, hmx]; rfl
/-- The run of the law. -/
theorem stk_run (xs : List Int) (r0 r1 r2 r3 r4 r5 r6 r7 : Int) (c z n v : Bool) (ms : List Int) (h7 : Wd r7) (hx : ∀ x ∈ xs, Wd x) (hl : xs.length ≤ 100) (F : St) (hF : Mc.ends (U.encs (puL xs ++ poL xs.length ++ [haltI])) [] 1000 r0 r1 r2 r3 r4 r5 r6 r7 c z n v 0 ms = F) :
    F.how = 1 ∧ F.r 7 = r7 ∧ F.out = xs.reverse.map (· % 256) ∧ F.r 1 = xs.headD r1 := by
  rw [ends_goA] at hF
  have hlen : (puL xs ++ poL xs.length).length = 4 * xs.length := by rw [List.length_append, puL_len, poL_len]; omega
  have h := goA_halts [] (999 - 4 * xs.length) (puL xs ++ poL xs.length) (Mc.begin (reg8 r0 r1 r2 r3 r4 r5 r6 r7) c z n v 0 ms) (stk_in xs xs.length hx) rfl
    (by unfold U.encs; rw [List.flatMap_append, List.length_append]; have h1 := puL_enc xs; have h2 := poL_enc xs.length; unfold U.encs at h1 h2; rw [h1, h2]; omega) (by rw [hlen]; show 0 + _ ≤ _; omega)
  rw [hlen, show 999 - 4 * xs.length + 1 + 4 * xs.length = 1000 by omega] at h
  rw [show (1000 : Int).toNat = 1000 from rfl, h] at hF
  obtain ⟨t, ht, t7, to, _, t1⟩ := run_stk xs (Mc.begin (reg8 r0 r1 r2 r3 r4 r5 r6 r7) c z n v 0 ms) h7 hx (by omega) (by show 0 + _ ≤ _; omega)
  rw [ht] at hF
  subst hF
  refine ⟨rfl, t7, ?_, t1⟩
  show t.out = _
  rw [to]; rfl
end Mc
end Go.Proofs.Ytfjgnhmmakeaeaa
