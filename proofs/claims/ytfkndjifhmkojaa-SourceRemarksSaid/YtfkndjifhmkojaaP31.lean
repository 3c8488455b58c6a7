/- source.Read's contract: any text, at most 65536 bytes or more. No condition. -/
import Derived.Test.YtfkndjifhmkojaaPD
import Derived.Test.YtfkndjifhmkojaaP30
import Derived.Test.YtfkndjifhmkojaaK12
namespace Go.Proofs.Ytfkndjifhmkojaa
open Go.RowKit
set_option linter.unusedVariables false
theorem read_ok (s : ByteArray) (w : World) : Calls Try.prog 7 #[.string s] w (RdR s.data.toList w) := by
  have hlen : s.data.toList.length = s.size := rfl
  by_cases hl : 65536 < s.size
  · refine read_err s w 4 0 (fun w1 => (tokens_ok s w1).mono ?_) (by decide) (by unfold Ps.read; rw [if_pos (by omega)])
    rintro e w' ⟨hb, ⟨_, rfl⟩ | ⟨h, _⟩⟩
    · exact ⟨rfl, hb⟩
    · omega
  · cases hf : Tk.frm s.data.toList 0 with
    | error z =>
      obtain ⟨er, a⟩ := z
      refine read_err s w er a (fun w1 => (tokens_ok s w1).mono ?_) (Tk.frm_err _ _ _ _ (Nat.le_refl _) hf) (by unfold Ps.read; rw [if_neg (by omega), hf])
      rintro e w' ⟨hb, ⟨h, _⟩ | ⟨_, h, _⟩⟩
      · omega
      · exact ⟨h er a hf, hb⟩
    | ok ts =>
      refine read_good s (by omega) w ts hf (fun w1 => (tokens_ok s w1).mono ?_)
      rintro e w' ⟨hb, ⟨h, _⟩ | ⟨_, _, h⟩⟩
      · omega
      · obtain ⟨av, cv, he, ho⟩ := h ts hf
        exact ⟨av, cv, he, hb, ho⟩
end Go.Proofs.Ytfkndjifhmkojaa
