/- The closed facts that the laws of chapter 1 ask first; WordRing, WordNarrow: their walks. -/
import Derived.Test.YtgpjhbaehhjdhaaW4
import Derived.Test.YtgpjhbaehhjdhaaW6
import Derived.Test.YtgpjhbaehhjdhaaFr
namespace Go.Proofs.Ytgpjhbaehhjdhaa
open Go.ChangeShapes Go.WideShapes Go.ChangeAt Go.RowKit
set_option linter.unusedVariables false
set_option maxRecDepth 100000

theorem rd_two {w : World} {v : Value} {a b : Int} (h : Rd w 1 v 2 ([a, b].map (Value.int .i64))) :
    ∃ c o cap, v = .slice (some ⟨c, o, none⟩) 2 cap ∧ w.cell? ⟨c, o, none⟩ = some (.int .i64 a) ∧ w.cell? ⟨c, o + 1, none⟩ = some (.int .i64 b) := by
  obtain ⟨_, _, x, cap, rfl, hc, hr⟩ := h.ints
  obtain ⟨c, o, rfl, hj⟩ := hr (by decide)
  exact ⟨c, o, cap, rfl, by simpa using hj 0 (by decide), by simpa using hj 1 (by decide)⟩

set_option maxHeartbeats 1000000 in
theorem alive1 (w : World) : Calls Try.prog 33 #[] w fun e w' => e = .returned (.bool true) ∧ Below w.heap.size w w' := by
  have e1 : W.add 8 250 10 = 4 := by decide
  have e2 : W.split (W.nw 32) (W.cut 32 305419896) = [22136, 4660] := by decide
  have HE := Lib.hid e2; clear e2
  go_enter Try.func33, Try.ntmps33
  go_wp2_with (first | (go_at_call 35; refine (add_ok _ _ _ (by simp [W.ok]) ⟨by omega, by omega⟩ ⟨by omega, by omega⟩ _).mono ?_; rintro e w' ⟨rfl, rfl⟩) | (go_at_call 21; refine (split_ok _ _ (by simp [W.ok]) ⟨by omega, by omega⟩ _).mono ?_; rintro e w' ⟨u, rfl, hown, hb⟩; rw [HE.out] at hown; obtain ⟨c, o, cap, rfl, h0, h1⟩ := rd_two (Rd.of_owns hown (by decide)); have HB := Lib.hid hb; clear hown hb))
  go_ret
  exact ⟨rfl, HB.out⟩

end Go.Proofs.Ytgpjhbaehhjdhaa
