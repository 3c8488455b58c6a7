/- EmuMemory: plain law; the closure that reads a word of memory. -/
import Derived.Test.YtfjgnhmmakeaeaaE45
namespace Go.Proofs.Ytfjgnhmmakeaeaa
open Go.RowKit
set_option linter.unusedVariables false
set_option linter.unusedSimpArgs false
set_option maxRecDepth 100000
open Mc

def Mc.mmL (off : Int) : List U.In := [⟨4, 1, 2, off⟩, ⟨3, 3, 1, off⟩]
theorem mm_in (off : Int) (h : 0 ≤ off ∧ off ≤ 65535) : ∀ i ∈ Mc.mmL off, i.Ok ∧ i.Tidy ∧ Plain i := by
  intro i hi
  simp only [Mc.mmL, List.mem_cons, List.not_mem_nil, or_false] at hi
  rcases hi with rfl | rfl
  · exact U.in_full 4 1 2 off rfl ⟨fun _ => h, fun h => absurd h (by decide)⟩
  · exact U.in_full 3 3 1 off rfl ⟨fun _ => h, fun h => absurd h (by decide)⟩
theorem doI_st (off : Int) (s : St) : doI [] ⟨4, 1, 2, off⟩ s = { goOn { s with steps := s.steps + 1, mem := upd s.mem ((s.r 1 + off) % 65536).toNat (s.r 2 % 65536) } (s.pc + 2) with how := 0 } := rfl
theorem doI_ld (off : Int) (s : St) : doI [] ⟨3, 3, 1, off⟩ s = { goOn { s with steps := s.steps + 1, r := upd s.r 3 (s.mem ((s.r 1 + off) % 65536).toNat) } (s.pc + 2) with how := 0 } := rfl
/-- The machine's run, beginning in a state that is right. -/
theorem ends_goA (cd inp : List Int) (fuel : Int) (r0 r1 r2 r3 r4 r5 r6 r7 : Int) (c z n v : Bool) (pc : Int) (ms : List Int) : Mc.ends cd inp fuel r0 r1 r2 r3 r4 r5 r6 r7 c z n v pc ms = goA cd inp fuel.toNat (Mc.begin (reg8 r0 r1 r2 r3 r4 r5 r6 r7) c z n v pc ms) := go_alone _ (fun _ _ => rfl) _ _ _ _ _
theorem mm_run (off r0 at_ x r3 r4 r5 r6 r7 : Int) (c z n v : Bool) (ms : List Int) (ho : 0 ≤ off ∧ off ≤ 65535) (hx : 0 ≤ x ∧ x ≤ 65535) (F : St) (hF : Mc.ends (U.encs (Mc.mmL off ++ [haltI])) [] 1000 r0 at_ x r3 r4 r5 r6 r7 c z n v 0 ms = F) :
    F.how = 1 ∧ F.r 3 = x ∧ F.mem = upd (memOf ms) ((at_ + off) % 65536).toNat x ∧ F.out = [] := by
  rw [ends_goA] at hF
  have h := goA_halts [] 997 (Mc.mmL off) (Mc.begin (reg8 r0 at_ x r3 r4 r5 r6 r7) c z n v 0 ms) (mm_in off ho) rfl (by show (4 : Nat) ≤ _; decide) (by show (2 : Nat) ≤ _; decide)
  have h2 : goA (U.encs (Mc.mmL off ++ [haltI])) [] 1000 (Mc.begin (reg8 r0 at_ x r3 r4 r5 r6 r7) c z n v 0 ms) = _ := h
  have hxx : x % 65536 = x := by omega
  rw [show (1000 : Int).toNat = 1000 from rfl, h2] at hF
  have e : runL [] (Mc.mmL off) (Mc.begin (reg8 r0 at_ x r3 r4 r5 r6 r7) c z n v 0 ms) = doI [] ⟨3, 3, 1, off⟩ (doI [] ⟨4, 1, 2, off⟩ (Mc.begin (reg8 r0 at_ x r3 r4 r5 r6 r7) c z n v 0 ms)) := rfl
  rw [e, doI_st, doI_ld] at hF
  subst hF
  refine ⟨rfl, ?_, ?_, rfl⟩
  · show upd (memOf ms) ((at_ + off) % 65536).toNat (x % 65536) ((at_ + off) % 65536).toNat = x
    unfold upd; rw [if_pos rfl, hxx]
  · show upd (memOf ms) ((at_ + off) % 65536).toNat (x % 65536) = _
    rw [hxx]
set_option maxHeartbeats 2000000 in
theorem was_in (b off n cap k : Nat) (x : Int) (hk : k < n) (hn : n ≤ 9223372036854775807) (w : World) (hc : w.cell? ⟨b, off + k, none⟩ = some (.int .i64 x)) :
    Calls Try.prog 24 #[.slice (some ⟨b, off, none⟩) n cap, .int .i64 (k : Int)] w fun e w' => e = .returned (.int .i64 x) ∧ w = w' := by
  have h1 : (k : Int) < (n : Int) := by omega
  go_enter Try.func24, Try.ntmps24
  go_wp2
  go_ret
  exact ⟨rfl, rfl⟩
set_option maxHeartbeats 2000000 in
theorem was_out (a : Option Addr) (n cap k : Nat) (hk : n ≤ k) (w : World) :
    Calls Try.prog 24 #[.slice a n cap, .int .i64 (k : Int)] w fun e w' => e = .returned (.int .i64 0) ∧ w = w' := by
  have h1 : ¬ (k : Int) < (n : Int) := by omega
  go_enter Try.func24, Try.ntmps24
  go_wp2
  go_ret
  exact ⟨rfl, rfl⟩
theorem was_ok (mv : Value) (n : Nat) (ms : List Int) (k : Int) (hk : 0 ≤ k) (w : World) (hr : Rd w 1 mv n (ms.map (Value.int .i64))) :
    Calls Try.prog 24 #[mv, .int .i64 k] w fun e w' => e = .returned (.int .i64 (memOf ms k.toNat)) ∧ w = w' := by
  obtain ⟨hl, hm, a, cap, rfl, _, hc⟩ := hr.ints
  obtain ⟨j, rfl⟩ := Int.eq_ofNat_of_zero_le hk
  rw [Int.toNat_natCast]
  rcases Nat.lt_or_ge j n with h | h
  · obtain ⟨b, off, rfl, hcell⟩ := hc (by omega)
    exact was_in b off n cap j _ h (by unfold maxLen at hm; omega) w (hcell j h)
  · rw [show memOf ms j = 0 by unfold memOf; rw [List.getD_eq_getElem?_getD, List.getElem?_eq_none (by omega)]; rfl]
    exact was_out a n cap j h w
end Go.Proofs.Ytfjgnhmmakeaeaa
