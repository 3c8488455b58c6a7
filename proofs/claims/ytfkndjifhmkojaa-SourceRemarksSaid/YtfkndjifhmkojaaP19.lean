/- Walk of parser.stat: all ways. No condition. -/
import Derived.Test.YtfkndjifhmkojaaP18a
import Derived.Test.YtfkndjifhmkojaaP18b
import Derived.Test.YtfkndjifhmkojaaP18c
import Derived.Test.YtfkndjifhmkojaaP18d
import Derived.Defers
import Derived.LoopTactic
import Derived.Deep.Cut
namespace Go.Proofs.Ytfkndjifhmkojaa
open Go.RowKit
set_option linter.unusedVariables false
set_option linter.unusedSimpArgs false
set_option maxRecDepth 100000
namespace Ps
theorem seq_ite {α β : Type} (c : Prop) [Decidable c] (a b : Res α) (f : α → List Tok → Res β) : seq (if c then a else b) f = if c then seq a f else seq b f := by split <;> rfl
theorem flat_if (F : F) (fin d : Nat) (l : List Tok) : ifS F fin (d + 1) l.tail = Ps.seq (Ps.need fin [40] l.tail) fun _ m0 => Ps.seq (F.expr (d + 1) m0) fun q1 m1 => Ps.seq (Ps.need fin [41] m1) fun _ m2 => Ps.seq (Ps.bodyS F (d + 1) m2) fun q3 m3 => if Ps.sees [101, 108, 115, 101] m3 = true then Ps.seq (Ps.bodyS F (d + 1) m3.tail) fun q4 m4 => .ok ((.mk 5 0 false ⟨#[]⟩ false q1 Ps.xz [] [] q3 q4 : S), m4) else .ok ((.mk 5 0 false ⟨#[]⟩ false q1 Ps.xz [] [] q3 [] : S), m3) := by
  simp only [ifS, condS, seq_seq, seq_ite]
  rfl
theorem flat_while (F : F) (fin d : Nat) (l : List Tok) : whileS F fin (d + 1) l.tail = Ps.seq (Ps.need fin [40] l.tail) fun _ m0 => Ps.seq (F.expr (d + 1) m0) fun q1 m1 => Ps.seq (Ps.need fin [41] m1) fun _ m2 => Ps.seq (Ps.bodyS F (d + 1) m2) fun q3 m3 => .ok ((.mk 6 0 false ⟨#[]⟩ false q1 Ps.xz [] [] q3 [] : S), m3) := by
  simp only [whileS, condS, seq_seq, seq_ite]
  rfl
theorem flat_for (F : F) (fin d : Nat) (l : List Tok) : forS F fin (d + 1) l.tail = Ps.seq (Ps.need fin [40] l.tail) fun _ m0 => Ps.seq (Ps.setsS F fin [59] (d + 1) m0) fun q1 m1 => Ps.seq (Ps.need fin [59] m1) fun _ m2 => if Ps.sees [59] m2 = true then Ps.seq (Ps.need fin [59] m2) fun _ m3 => Ps.seq (Ps.setsS F fin [41] (d + 1) m3) fun q4 m4 => Ps.seq (Ps.need fin [41] m4) fun _ m5 => Ps.seq (Ps.bodyS F (d + 1) m5) fun q6 m6 => .ok ((.mk 7 0 false ⟨#[]⟩ false Ps.xz Ps.xz q1 q4 q6 [] : S), m6) else Ps.seq (F.expr (d + 1) m2) fun q3 m3 => Ps.seq (Ps.need fin [59] m3) fun _ m4 => Ps.seq (Ps.setsS F fin [41] (d + 1) m4) fun q5 m5 => Ps.seq (Ps.need fin [41] m5) fun _ m6 => Ps.seq (Ps.bodyS F (d + 1) m6) fun q7 m7 => .ok ((.mk 7 0 false ⟨#[]⟩ true q3 Ps.xz q1 q5 q7 [] : S), m7) := by
  simp only [forS, mayS, seq_seq, seq_ite]
  rfl
theorem flat_ret (F : F) (fin d : Nat) (l : List Tok) : retS F fin (d + 1) l.tail = if Ps.sees [59] l.tail = true then Ps.seq (Ps.need fin [59] l.tail) fun _ m0 => .ok ((.mk 8 0 false ⟨#[]⟩ false Ps.xz Ps.xz [] [] [] [] : S), m0) else Ps.seq (F.expr (d + 1) l.tail) fun q0 m0 => Ps.seq (Ps.need fin [59] m0) fun _ m1 => .ok ((.mk 8 0 false ⟨#[]⟩ true q0 Ps.xz [] [] [] [] : S), m1) := by
  simp only [retS, mayS, endS, seq_seq, seq_ite]
  rfl
end Ps
/-- The readers of statements do what is said, so deep. -/
structure PS (g fin n : Nat) : Prop where
  stat : ∀ (d : Nat) (w : World) (l : List Tk.Tok), d ≤ 400 → l.length ≤ 70000 → Pb w g fin d l → 32 * l.length + 24 ≤ n → Calls Try.prog 67 #[P g] w (PsR g fin d w ((Ps.at' fin n).stat d l))
  block : ∀ (d : Nat) (w : World) (l : List Tk.Tok), d ≤ 400 → l.length ≤ 70000 → Pb w g fin d l → 32 * l.length + 25 ≤ n → Calls Try.prog 45 #[P g] w (PlR g fin d w ((Ps.at' fin n).block d [] l))
theorem Pb.lt {w : World} {g fin d : Nat} {l : List Tk.Tok} (h : Pb w g fin d l) : g < w.heap.size := by obtain ⟨v, hb, _⟩ := h; exact hb.lt
theorem sth_at (g fin n d : Nat) (l : List Tk.Tok) (H : PS g fin n) (hd : d ≤ 400) (hN : l.length ≤ 70000) (hn : 32 * l.length + 23 ≤ n) : StH g fin d (Ps.at' fin n) l.length where
  less := Ps.less_at fin n
  ex := fun w1 l1 hl hp => (pe_all g fin n).expr d w1 l1 hd hp (by omega)
  one := fun w1 l1 hl hp => pone_ok w1 g fin d l1 _ hp.lt (H.stat d w1 l1 hd (by omega) hp (by omega))
  blk := fun w1 l1 hl hp => H.block d w1 l1 hd (by omega) hp (by omega)
  set := fun w1 l1 hl hp => pset_ok w1 g fin d l1 hp _ ((Ps.ka_at fin n).expr d l1) (fun x l' h => (Ps.less_at fin n).expr h) fun w2 l2 hl2 hp2 => (pe_all g fin n).expr d w2 l2 hd hp2 (by omega)
  sets := fun s w1 l1 hl hp => psets_ok w1 g fin d l1 s hp _ (pset_ok w1 g fin d l1 hp _ ((Ps.ka_at fin n).expr d l1) (fun x l' h => (Ps.less_at fin n).expr h) fun w2 l2 hl2 hp2 => (pe_all g fin n).expr d w2 l2 hd hp2 (by omega))
theorem pinner (w : World) (g fin n d : Nat) (l : List Tk.Tok) (h : Pb w g fin d l) (hd : d < 400) (H : StH g fin (d + 1) (Ps.at' fin n) l.length) :
    Calls Try.prog 67 #[P g] w (PsR g fin d w (Ps.innerS (Ps.at' fin n) fin (d + 1) l)) := by
  have nt : ∀ {b : Bool}, ¬ b = true → b = false := fun h => by simpa using h
  unfold Ps.innerS
  by_cases h0 : Ps.sees [59] l = true
  · rw [if_pos h0]; exact pstat_none w g fin d l _ h hd H h0
  rw [if_neg h0]
  by_cases h1 : Ps.sees [123] l = true
  · rw [if_pos h1]; exact pstat_block w g fin d l _ h hd H (nt h0) h1
  rw [if_neg h1]
  by_cases h2 : Ps.sees [105, 102] l = true
  · rw [if_pos h2, Ps.flat_if]; exact pstat_if w g fin d l _ h hd H (nt h0) (nt h1) h2
  rw [if_neg h2]
  by_cases h3 : Ps.sees [119, 104, 105, 108, 101] l = true
  · rw [if_pos h3, Ps.flat_while]; exact pstat_while w g fin d l _ h hd H (nt h0) (nt h1) (nt h2) h3
  rw [if_neg h3]
  by_cases h4 : Ps.sees [102, 111, 114] l = true
  · rw [if_pos h4, Ps.flat_for]; exact pstat_for w g fin d l _ h hd H (nt h0) (nt h1) (nt h2) (nt h3) h4
  rw [if_neg h4]
  by_cases h5 : Ps.sees [114, 101, 116, 117, 114, 110] l = true
  · rw [if_pos h5, Ps.flat_ret]; exact pstat_return w g fin d l _ h hd H (nt h0) (nt h1) (nt h2) (nt h3) (nt h4) h5
  rw [if_neg h5]
  by_cases h6 : Ps.sees [98, 114, 101, 97, 107] l = true
  · rw [if_pos h6]; exact pstat_break w g fin d l _ h hd H (nt h0) (nt h1) (nt h2) (nt h3) (nt h4) (nt h5) h6
  rw [if_neg h6]
  by_cases h7 : Ps.sees [99, 111, 110, 116, 105, 110, 117, 101] l = true
  · rw [if_pos h7]; exact pstat_continue w g fin d l _ h hd H (nt h0) (nt h1) (nt h2) (nt h3) (nt h4) (nt h5) (nt h6) h7
  rw [if_neg h7]
  cases ht : Ps.typed l with
  | some t => exact pstat_decl w g fin d l _ h hd H (nt h0) (nt h1) (nt h2) (nt h3) (nt h4) (nt h5) (nt h6) (nt h7) t.1 t.2 ht
  | none => exact pstat_set w g fin d l _ h hd H (nt h0) (nt h1) (nt h2) (nt h3) (nt h4) (nt h5) (nt h6) (nt h7) ht
theorem ps_all (g fin : Nat) : ∀ n, PS g fin n := by
  intro n
  induction n using Nat.strongRecOn with
  | _ n ih =>
    refine ⟨fun d w l hd hN h hn => ?_, fun d w l hd hN h hn => pblock_ok w g fin d n l h hn hN fun m w1 l1 hm hl hf hp => (ih m hm).stat d w1 l1 hd (by omega) hp hf⟩
    cases n with
    | zero => omega
    | succ n =>
      show Calls _ _ _ _ (PsR g fin d w (if 400 ≤ d then _ else _))
      by_cases hd4 : 400 ≤ d
      · rw [if_pos hd4]; exact pstat_no w g fin d l h hd4 (by omega)
      · rw [if_neg hd4]
        exact pinner w g fin n d l h (by omega) (sth_at g fin n (d + 1) l (ih n (by omega)) (by omega) hN (by omega))
end Go.Proofs.Ytfkndjifhmkojaa
