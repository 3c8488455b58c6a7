/- The walk of types.Named. -/
import Derived.Test.YtgpjhbaehhjdhaaTo
namespace Go.Proofs.Ytgpjhbaehhjdhaa
open Go.RowKit Go.Maps
set_option linter.unusedVariables false
set_option linter.unusedSimpArgs false
set_option maxRecDepth 100000

theorem zeroT (w : World) : (zeroValue 66).run Try.prog w = .ok (W.ty 0 false) w := by kernel_rfl
theorem look_names (w : World) (B : Nat) (h : w.ownsMap Try.prog 9 W.tyElem B 8 W.names) (l : ByteArray) (hl : l.size ≤ maxLen) :
    (Instr.lookup 111 (.map (some B)) (.string l) true).run Try.prog w = .ok (.tuple #[.agg #[.int .i64 (W.nt l.data.toList).1, .bool (W.nt l.data.toList).2.1], .bool (W.nt l.data.toList).2.2]) w := by
  obtain ⟨v, ps, hrun, hv⟩ := h.look_ok law9 Try.underlying111 (zeroT w) (W.tyElem_mk 0 false) (WideMaps.keyOf_string_mk Try.underlying9 hl)
  obtain ⟨⟨c, t⟩, rfl⟩ := W.tyElem_inv hv
  rw [W.tyElem_mk, W.names_at] at hv
  rw [hrun, W.names_has]
  have e : W.tyD c t = if (W.nt l.data.toList).2.2 then W.tyD (W.nt l.data.toList).1 (W.nt l.data.toList).2.1 else W.tyD 0 false := congrArg Prod.fst (Option.some.inj hv)
  by_cases hh : (W.nt l.data.toList).2.2 = true
  · rw [if_pos hh] at e
    obtain ⟨e1, e2⟩ := W.tyD_inj e
    simp only [e1, e2, W.ty]
  · rw [if_neg hh] at e
    obtain ⟨e1, e2⟩ := W.tyD_inj e
    have hz : W.nt l.data.toList = (0, false, false) := by
      generalize l.data.toList = m at hh ⊢
      unfold W.nt at *
      repeat' (split at hh; · simp at hh)
      simp [*]
    simp only [e1, e2, W.ty, hz]

set_option maxHeartbeats 2000000 in
theorem named_ok (l : ByteArray) (hl : l.size ≤ maxLen) (w : World) : Calls Try.prog 60 #[.string l] w fun e w' => e = .returned (.tuple #[W.ty (W.nt l.data.toList).1 (W.nt l.data.toList).2.1, .bool (W.nt l.data.toList).2.2]) ∧ Below w.heap.size w w' := by
  obtain ⟨B, hB⟩ : ∃ B, B = (W.nt l.data.toList).1 := ⟨_, rfl⟩
  obtain ⟨S, hS⟩ : ∃ S, S = (W.nt l.data.toList).2.1 := ⟨_, rfl⟩
  obtain ⟨O, hO⟩ : ∃ O, O = (W.nt l.data.toList).2.2 := ⟨_, rfl⟩
  have HL : Hid (∀ (w : World) (b : Nat), w.ownsMap Try.prog 9 W.tyElem b 8 W.names → (Instr.lookup 111 (.map (some b)) (.string l) true).run Try.prog w = .ok (.tuple #[.agg #[.int .i64 B, .bool S], .bool O]) w) := fun w b h => by rw [hB, hS, hO]; exact look_names w b h l hl
  rw [← hB, ← hS, ← hO]
  clear hB hS hO hl
  go_enter Try.func60, Try.ntmps60
  go_wp2_with (first | (go_at_call 108; refine (names_ok _).mono ?_; rintro e w1 ⟨rfl, hown, hb, hlt⟩; have HB := Lib.hid hb; obtain ⟨x0, x1, x2, x3⟩ := Ty.below (Ty.new w rfl 0 false 66) hb; have hlk := HL.out _ _ hown; have hsz : (w.alloc (.cells #[.int .i64 0, .bool false] 66)).heap.size = w.heap.size + 1 := World.size_alloc _ _; rw [hsz] at hlk hlt; have hlt3 : w.heap.size < w1.heap.size := (by omega); clear hsz hb hown))
  refine bodyPost_ret (v := .tuple #[W.ty B S, .bool O]) (by simp [results, Try.results60, go_sem, x0, x1, x2, x3, hlt3]) rfl ⟨rfl, Ext.alloc (Ext.setCell (Ext.setCell (Ext.trans (Ext.alloc (Below.refl w.heap.size w) _) HB.out) (Nat.le_refl _) _) (Nat.le_refl _) _) _⟩
end Go.Proofs.Ytgpjhbaehhjdhaa
