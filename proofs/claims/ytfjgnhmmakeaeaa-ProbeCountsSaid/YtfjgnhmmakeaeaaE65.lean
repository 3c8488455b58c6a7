/- Walk of probe.Hits. -/
import Derived.Test.YtfjgnhmmakeaeaaE61
import Derived.Test.YtfjgnhmmakeaeaaE59
namespace Go.Proofs.Ytfjgnhmmakeaeaa
open Go.RowKit
set_option linter.unusedVariables false
set_option linter.unusedSimpArgs false
set_option maxRecDepth 100000
open Mc
theorem Try.infoInt : (Try.prog.info? 3).map (fun i => (i.zero, i.size, i.bytes)) = some (some (.int .i64 0), 1, 8) := by kernel_rfl
set_option maxHeartbeats 4000000 in
/-- One word more. -/
theorem hit_in (k n mb bo gb : Nat) (x : Int) (w : World) (ho : w.cell? ⟨bo, 0, none⟩ = some (.slice (some ⟨gb, 0, none⟩) n n)) (hk : k < n) (hn : n ≤ 70000) (hx : w.cell? ⟨gb, k, none⟩ = some (.int .i64 x)) (hf : w.frozen? ⟨gb, k, none⟩ = false) (x0 : 0 ≤ x) (x1 : x < 1000000) :
    Calls Try.prog 58 #[.int .i64 (k : Int), .pointer (some ⟨mb, 0, none⟩), .pointer (some ⟨bo, 0, none⟩)] w fun e w' => e = .returned (.tuple #[]) ∧ w' = w.setCell ⟨gb, k, none⟩ (.int .i64 (x + 1)) := by
  go_enter Try.func58, Try.ntmps58
  go_wp2
  go_end0
  exact ⟨rfl, rfl⟩
set_option maxHeartbeats 4000000 in
theorem hit_out (a : Int) (n mb bo gb : Nat) (w : World) (ho : w.cell? ⟨bo, 0, none⟩ = some (.slice (some ⟨gb, 0, none⟩) n n)) (hk : ¬ a < (n : Int)) (hn : n ≤ 70000) :
    Calls Try.prog 58 #[.int .i64 a, .pointer (some ⟨mb, 0, none⟩), .pointer (some ⟨bo, 0, none⟩)] w fun e w' => e = .returned (.tuple #[]) ∧ w' = w := by
  go_enter Try.func58, Try.ntmps58
  go_wp2
  go_end0
  exact ⟨rfl, rfl⟩
/-- What it holds: how often a run came to each word. -/
def eyH (n bo gb B0 : Nat) (h1 : bo < B0) (h2 : gb < B0) (h3 : bo ≠ gb) : Eyes (envH n) B0 (fun b => b = bo ∨ b = gb) where
  Look w l g := Blk w bo 22 #[.slice (some ⟨gb, 0, none⟩) n n] ∧ (∃ arr, Blk w gb 3 arr ∧ ∀ j, j < n → arr[j]? = some (.int .i64 (g j))) ∧ ∀ b, l b ↔ (b = bo ∨ b = gb)
  keep := by
    rintro w w' l g ⟨q1, ⟨arr, q2, q3⟩, q4⟩ hs hb
    exact ⟨(hb bo (.inl ((q4 bo).2 (.inl rfl)))).trans q1, ⟨arr, (hb gb (.inl ((q4 gb).2 (.inr rfl)))).trans q2, q3⟩, q4⟩
  nb := by
    rintro w l g b ⟨q1, ⟨arr, q2, q3⟩, q4⟩ hb
    rcases (q4 b).1 hb with rfl | rfl
    · exact ⟨_, _, q1, by decide, by decide, by decide⟩
    · exact ⟨_, _, q2, by decide, by decide, by decide⟩
/-- Counts are no more than steps. -/
def IvH (g : Nat → Int) (s : St) : Prop := 0 ≤ s.steps ∧ ∀ j, 0 ≤ g j ∧ g j ≤ s.steps
theorem ivH_step (n : Nat) (cd inp : List Int) (g : Nat → Int) (s : St) (h : IvH g s) : IvH ((envH n).dG ((envH n).sG g s.pc) s.pc (tick cd inp s)) (tick cd inp s) := by
  have h1 := tick_steps cd inp s
  obtain ⟨h0, h⟩ := h
  refine ⟨by omega, fun j => ?_⟩
  show 0 ≤ (if s.pc < (n : Int) then upd g s.pc.toNat (g s.pc.toNat + 1) else g) j ∧ (if s.pc < (n : Int) then upd g s.pc.toNat (g s.pc.toNat + 1) else g) j ≤ _
  have hj := h j
  split
  · unfold upd; split
    · rename_i e; have := h s.pc.toNat; omega
    · omega
  · omega
theorem doneH (cd inp : List Int) (n bo gb B0 : Nat) (hn : n ≤ 70000) (h1 : bo < B0) (h2 : gb < B0) (h3 : bo ≠ gb) :
    Dones (eyH n bo gb B0 h1 h2 h3) cd inp IvH 58 (fun a mb => #[.int .i64 a, .pointer (some ⟨mb, 0, none⟩)] ++ #[.pointer (some ⟨bo, 0, none⟩)]) := by
  intro L s s' ov l g wx hs hm hB hok hwd hs0 hs1 hI hlk hgm hl
  obtain ⟨q1, ⟨arr, q2, q3⟩, q4⟩ := hlk
  have c1 : wx.cell? ⟨bo, 0, none⟩ = some (.slice (some ⟨gb, 0, none⟩) n n) := by rw [q1.cell]; rfl
  by_cases hk : s'.pc < (n : Int)
  · obtain ⟨k, hk'⟩ : ∃ k : Nat, s'.pc = (k : Int) := ⟨s'.pc.toNat, by have := hwd.1; omega⟩
    have hkn : k < n := by omega
    have hcell : wx.cell? ⟨gb, k, none⟩ = some (.int .i64 (g k)) := by rw [q2.cell]; exact q3 k hkn
    have hi := hI.2 k
    have h0 := hit_in k n L.mb bo gb (g k) wx c1 hkn hn hcell (q2.frozen k) hi.1 (by omega)
    rw [hk']
    refine h0.mono ?_
    rintro e w' ⟨he, rfl⟩
    have hd : (envH n).dG g (k : Int) s = upd g k (g k + 1) := by
      show (if (k : Int) < (n : Int) then upd g (k : Int).toNat (g (k : Int).toNat + 1) else g) = _
      rw [if_pos (by omega)]; rfl
    rw [hd]
    refine ⟨he, l, ⟨q1.far h3 _, ⟨_, q2.set_ k _, fun j hj => ?_⟩, q4⟩, ?_, fun b hb => .inl hb⟩
    · have hs : j < arr.size := (by have := q3 j hj; rcases Nat.lt_or_ge j arr.size with h | h; exact h; rw [Array.getElem?_eq_none h] at this; cases this)
      unfold upd
      rw [Array.getElem?_setIfInBounds]
      by_cases e : k = j
      · subst e; simp [hs]
      · rw [if_neg e, if_neg (fun h => e h.symm)]; exact q3 j hj
    · exact ⟨rfl, rfl, rfl, by simp, fun b hb hn => Below.heap_setCell wx ⟨gb, k, none⟩ _ b (fun e => hn ((q4 b).2 (.inr e)))⟩
  · refine (hit_out s'.pc n L.mb bo gb wx c1 hk hn).mono ?_
    rintro e w' ⟨he, rfl⟩
    have hd : (envH n).dG g s'.pc s = g := if_neg hk
    rw [hd]
    exact ⟨he, l, ⟨q1, ⟨arr, q2, q3⟩, q4⟩, Bel.refl _ _ _, fun b hb => .inl hb⟩
end Go.Proofs.Ytfjgnhmmakeaeaa
