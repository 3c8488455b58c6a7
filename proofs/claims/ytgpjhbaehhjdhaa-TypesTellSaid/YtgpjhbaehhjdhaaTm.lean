/- The map of types.names: made, looked up, ranged over. Its walk. -/
import Derived.Test.YtgpjhbaehhjdhaaT1
import Derived.Maps.OwnSet
import Derived.Maps.RangeWalk
import Derived.Sort.KeysCollected
import Derived.WalkKit
import Derived.StringKeys
namespace Go.Proofs.Ytgpjhbaehhjdhaa
open Go.RowKit Go.Maps
set_option linter.unusedVariables false
set_option linter.unusedSimpArgs false
set_option maxRecDepth 100000

theorem law9 : Keyed Try.prog 9 := string_keyed Try.underlying9
def W.tyD (b : Int) (s : Bool) : DataW Unit := .agg [.lit (.int .i64 b), .lit (.bool s)]
/-- A type of numbers as an element of a map. -/
def W.tyElem : Value → Option (DataW Unit × List MemPlace)
  | .agg cs => match cs.toList with
    | [.int .i64 b, .bool s] => some (W.tyD b s, [])
    | _ => none
  | _ => none
theorem W.tyElem_mk (b : Int) (s : Bool) : W.tyElem (W.ty b s) = some (W.tyD b s, []) := rfl
theorem W.tyElem_inv {v : Value} {y : DataW Unit × List MemPlace} (h : W.tyElem v = some y) : ∃ c : Int × Bool, v = W.ty c.1 c.2 := by
  unfold W.tyElem at h
  split at h
  · rename_i cs
    split at h
    · rename_i b s he
      refine ⟨⟨b, s⟩, ?_⟩
      obtain ⟨l⟩ := cs
      simp at he
      rw [he]
    · cases h
  · cases h
theorem W.tyD_inj {b b' : Int} {s s' : Bool} (h : W.tyD b s = W.tyD b' s') : b = b' ∧ s = s' := by
  unfold W.tyD at h
  simp at h
  exact h
/-- What the map reads as. -/
def W.names : DataW Unit :=
  ((((((((DataW.map []).put (.string [105, 56]) (W.tyD 8 true)).put (.string [117, 56]) (W.tyD 8 false)).put (.string [105, 49, 54]) (W.tyD 16 true)).put (.string [117, 49, 54]) (W.tyD 16 false)).put
    (.string [105, 51, 50]) (W.tyD 32 true)).put (.string [117, 51, 50]) (W.tyD 32 false)).put (.string [105, 54, 52]) (W.tyD 64 true)).put (.string [117, 54, 52]) (W.tyD 64 false)

theorem names_put {w : World} {B n : Nat} {D : DataW Unit} (h : w.ownsMap Try.prog 9 W.tyElem B n D) (hn : n < maxLen) (l : List UInt8) (hl : l.length ≤ maxLen) (b : Int) (s : Bool) :
    ∃ w', (Instr.mapUpdate 111 (.map (some B)) (.string ⟨l.toArray⟩) (.agg #[.int .i64 b, .bool s])).run Try.prog w = .ok () w' ∧ w'.ownsMap Try.prog 9 W.tyElem B (n + 1) (D.put (.string l) (W.tyD b s)) ∧ w.grownBy w' (some B) := by
  have hkey : keyOf Try.prog 9 (.string ⟨l.toArray⟩) = some (.string l) := WideMaps.keyOf_string_mk Try.underlying9 (s := ⟨l.toArray⟩) (by simpa [ByteArray.size] using hl)
  exact h.update law9 Try.underlying111 hn hkey (W.tyElem_mk b s)
theorem names_grown {w a w' : World} {B : Nat} (h : Below w.heap.size w a) (hg : a.grownBy w' (some B)) (hB : w.heap.size ≤ B) : Below w.heap.size w w' :=
  Below.grown h hg h.size (fun k hk => by cases hk; exact hB)

set_option maxHeartbeats 4000000 in
theorem names_ok (w : World) : Calls Try.prog 108 #[] w fun e w' => e = .returned (.map (some w.heap.size)) ∧ w'.ownsMap Try.prog 9 W.tyElem w.heap.size 8 W.names ∧ Below w.heap.size w w' ∧ w.heap.size < w'.heap.size := by
  have o0 := World.ownsMap_made (H := Unit) w Try.prog 9 W.tyElem
  have b0 := Ext.alloc (Below.refl w.heap.size w) (.map #[] 0)
  obtain ⟨w1, r1, o1, g1⟩ := names_put o0 (by unfold maxLen; omega) [105, 56] (by unfold maxLen; decide) 8 true
  have b1 := names_grown b0 g1 (Nat.le_refl _)
  obtain ⟨w2, r2, o2, g2⟩ := names_put o1 (by unfold maxLen; omega) [117, 56] (by unfold maxLen; decide) 8 false
  have b2 := names_grown b1 g2 (Nat.le_refl _)
  obtain ⟨w3, r3, o3, g3⟩ := names_put o2 (by unfold maxLen; omega) [105, 49, 54] (by unfold maxLen; decide) 16 true
  have b3 := names_grown b2 g3 (Nat.le_refl _)
  obtain ⟨w4, r4, o4, g4⟩ := names_put o3 (by unfold maxLen; omega) [117, 49, 54] (by unfold maxLen; decide) 16 false
  have b4 := names_grown b3 g4 (Nat.le_refl _)
  obtain ⟨w5, r5, o5, g5⟩ := names_put o4 (by unfold maxLen; omega) [105, 51, 50] (by unfold maxLen; decide) 32 true
  have b5 := names_grown b4 g5 (Nat.le_refl _)
  obtain ⟨w6, r6, o6, g6⟩ := names_put o5 (by unfold maxLen; omega) [117, 51, 50] (by unfold maxLen; decide) 32 false
  have b6 := names_grown b5 g6 (Nat.le_refl _)
  obtain ⟨w7, r7, o7, g7⟩ := names_put o6 (by unfold maxLen; omega) [105, 54, 52] (by unfold maxLen; decide) 64 true
  have b7 := names_grown b6 g7 (Nat.le_refl _)
  obtain ⟨w8, r8, o8, g8⟩ := names_put o7 (by unfold maxLen; omega) [117, 54, 52] (by unfold maxLen; decide) 64 false
  have b8 := names_grown b7 g8 (Nat.le_refl _)
  have O8 := Lib.hid o8; have B8 := Lib.hid b8
  clear o0 b0 o1 g1 b1 o2 g2 b2 o3 g3 b3 o4 g4 b4 o5 g5 b5 o6 g6 b6 o7 g7 b7 o8 g8 b8
  have hmm := run_makeMap (P := Try.prog)
  go_enter Try.func108, Try.ntmps108
  go_wp2
  go_ret
  exact ⟨rfl, O8.out, B8.out, O8.out.lt⟩
end Go.Proofs.Ytgpjhbaehhjdhaa
