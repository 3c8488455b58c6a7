/- The map of types.names: made, looked up, ranged over. Its walk. -/
import Derived.Test.YthdckndjggljpaaTB
import Derived.Maps.OwnSet
import Derived.Maps.RangeWalk
import Derived.Sort.KeysCollected
import Derived.WalkKit
import Derived.StringKeys
import Derived.Deep.RegionWith
namespace Go.Proofs.Ythdckndjggljpaa
open Go.RowKit Go.Maps
set_option linter.unusedVariables false
set_option linter.unusedSimpArgs false
set_option maxRecDepth 100000

theorem law9 : Keyed Try.prog 9 := string_keyed Try.underlying9
def W.tyD (b : Int) (s : Bool) : DataW Unit := .agg [.lit (.int .i64 b), .lit (.bool s)]
/-- A type of numbers as an element of a map. -/
def W.tyElem : Value → Option (DataW Unit × List MemPlace)
  | .agg cs => match cs.toList with
    | [.int .i64 b, .bool s] => some (W.tyD b s, [])
    | _ => none
  | _ => none
theorem W.tyElem_mk (b : Int) (s : Bool) : W.tyElem (W.ty b s) = some (W.tyD b s, []) := rfl
theorem W.tyElem_inv {v : Value} {y : DataW Unit × List MemPlace} (h : W.tyElem v = some y) : ∃ c : Int × Bool, v = W.ty c.1 c.2 := by
  unfold W.tyElem at h
  split at h
  · rename_i cs
    split at h
    · rename_i b s he
      refine ⟨⟨b, s⟩, ?_⟩
      obtain ⟨l⟩ := cs
      simp at he
      rw [he]
    · cases h
  · cases h
theorem W.tyD_inj {b b' : Int} {s s' : Bool} (h : W.tyD b s = W.tyD b' s') : b = b' ∧ s = s' := by
  unfold W.tyD at h
  simp at h
  exact h
/-- What the map reads as. -/
def W.names : DataW Unit :=
  ((((((((DataW.map []).put (.string [105, 56]) (W.tyD 8 true)).put (.string [117, 56]) (W.tyD 8 false)).put (.string [105, 49, 54]) (W.tyD 16 true)).put (.string [117, 49, 54]) (W.tyD 16 false)).put
    (.string [105, 51, 50]) (W.tyD 32 true)).put (.string [117, 51, 50]) (W.tyD 32 false)).put (.string [105, 54, 52]) (W.tyD 64 true)).put (.string [117, 54, 52]) (W.tyD 64 false)

theorem names_put {w : World} {B n : Nat} {D : DataW Unit} (h : w.ownsMap Try.prog 9 W.tyElem B n D) (hn : n < maxLen) (l : List UInt8) (hl : l.length ≤ maxLen) (b : Int) (s : Bool) :
    ∃ w', (Instr.mapUpdate 116 (.map (some B)) (.string ⟨l.toArray⟩) (.agg #[.int .i64 b, .bool s])).run Try.prog w = .ok () w' ∧ w'.ownsMap Try.prog 9 W.tyElem B (n + 1) (D.put (.string l) (W.tyD b s)) ∧ w.grownBy w' (some B) := by
  have hkey : keyOf Try.prog 9 (.string ⟨l.toArray⟩) = some (.string l) := WideMaps.keyOf_string_mk Try.underlying9 (s := ⟨l.toArray⟩) (by simpa [ByteArray.size] using hl)
  exact h.update law9 Try.underlying116 hn hkey (W.tyElem_mk b s)
theorem names_grown {w a w' : World} {B : Nat} (h : Below w.heap.size w a) (hg : a.grownBy w' (some B)) (hB : w.heap.size ≤ B) : Below w.heap.size w w' :=
  Below.grown h hg h.size (fun k hk => by cases hk; exact hB)

set_option maxHeartbeats 4000000 in
theorem names_ok (w : World) : Calls Try.prog 52 #[] w fun e w' => e = .returned (.map (some w.heap.size)) ∧ w'.ownsMap Try.prog 9 W.tyElem w.heap.size 8 W.names ∧ Below w.heap.size w w' ∧ w.heap.size < w'.heap.size := by
  have o0 := World.ownsMap_made (H := Unit) w Try.prog 9 W.tyElem
  have b0 := Ext.alloc (Below.refl w.heap.size w) (.map #[] 0)
  obtain ⟨w1, r1, o1, g1⟩ := names_put o0 (by unfold maxLen; omega) [105, 56] (by unfold maxLen; decide) 8 true
  have b1 := names_grown b0 g1 (Nat.le_refl _)
  obtain ⟨w2, r2, o2, g2⟩ := names_put o1 (by unfold maxLen; omega) [117, 56] (by unfold maxLen; decide) 8 false
  have b2 := names_grown b1 g2 (Nat.le_refl _)
  obtain ⟨w3, r3, o3, g3⟩ := names_put o2 (by unfold maxLen; omega) [105, 49, 54] (by unfold maxLen; decide) 16 true
  have b3 := names_grown b2 g3 (Nat.le_refl _)
  obtain ⟨w4, r4, o4, g4⟩ := names_put o3 (by unfold maxLen; omega) [117, 49, 54] (by unfold maxLen; decide) 16 false
  have b4 := names_grown b3 g4 (Nat.le_refl _)
  obtain ⟨w5, r5, o5, g5⟩ := names_put o4 (by unfold maxLen; omega) [105, 51, 50] (by unfold maxLen; decide) 32 true
  have b5 := names_grown b4 g5 (Nat.le_refl _)
  obtain ⟨w6, r6, o6, g6⟩ := names_put o5 (by unfold maxLen; omega) [117, 51, 50] (by unfold maxLen; decide) 32 false
  have b6 := names_grown b5 g6 (Nat.le_refl _)
  obtain ⟨w7, r7, o7, g7⟩ := names_put o6 (by unfold maxLen; omega) [105, 54, 52] (by unfold maxLen; decide) 64 true
  have b7 := names_grown b6 g7 (Nat.le_refl _)
  obtain ⟨w8, r8, o8, g8⟩ := names_put o7 (by unfold maxLen; omega) [117, 54, 52] (by unfold maxLen; decide) 64 false
  have b8 := names_grown b7 g8 (Nat.le_refl _)
  have O8 := Lib.hid o8; have B8 := Lib.hid b8
  clear o0 b0 o1 g1 b1 o2 g2 b2 o3 g3 b3 o4 g4 b4 o5 g5 b5 o6 g6 b6 o7 g7 b7 o8 g8 b8
  have hmm := run_makeMap (P := Try.prog)
  go_enter Try.func52, Try.ntmps52
  go_wp2
  go_ret
  exact ⟨rfl, O8.out, B8.out, O8.out.lt⟩
end Go.Proofs.Ythdckndjggljpaa
/- Walks of types.Name, types.Named. -/
namespace Go.Proofs.Ythdckndjggljpaa
open Go.RowKit Go.Maps
set_option linter.unusedVariables false
set_option linter.unusedSimpArgs false
set_option maxRecDepth 100000

/-- The name of a type. -/
def W.tn (b : Int) (s : Bool) : List UInt8 :=
  if b = 8 then (if s then [105, 56] else [117, 56]) else if b = 16 then (if s then [105, 49, 54] else [117, 49, 54]) else if b = 32 then (if s then [105, 51, 50] else [117, 51, 50]) else (if s then [105, 54, 52] else [117, 54, 52])
/-- The type of a name. -/
def W.nt (l : List UInt8) : Int × Bool × Bool :=
  if l = [105, 56] then (8, true, true) else if l = [117, 56] then (8, false, true) else if l = [105, 49, 54] then (16, true, true) else if l = [117, 49, 54] then (16, false, true)
  else if l = [105, 51, 50] then (32, true, true) else if l = [117, 51, 50] then (32, false, true) else if l = [105, 54, 52] then (64, true, true) else if l = [117, 54, 52] then (64, false, true) else (0, false, false)
theorem W.names_list : W.names = .map [(.string [105, 49, 54], W.tyD 16 true), (.string [105, 51, 50], W.tyD 32 true), (.string [105, 54, 52], W.tyD 64 true), (.string [105, 56], W.tyD 8 true),
    (.string [117, 49, 54], W.tyD 16 false), (.string [117, 51, 50], W.tyD 32 false), (.string [117, 54, 52], W.tyD 64 false), (.string [117, 56], W.tyD 8 false)] := by
  rfl
theorem W.names_at (l : List UInt8) (z : DataW Unit) : W.names.atKey (.string l) z = if (W.nt l).2.2 then W.tyD (W.nt l).1 (W.nt l).2.1 else z := by
  rw [W.names_list]
  unfold W.nt
  by_cases h1 : l = [105, 56]
  · subst h1; rfl
  by_cases h2 : l = [117, 56]
  · subst h2; rfl
  by_cases h3 : l = [105, 49, 54]
  · subst h3; rfl
  by_cases h4 : l = [117, 49, 54]
  · subst h4; rfl
  by_cases h5 : l = [105, 51, 50]
  · subst h5; rfl
  by_cases h6 : l = [117, 51, 50]
  · subst h6; rfl
  by_cases h7 : l = [105, 54, 52]
  · subst h7; rfl
  by_cases h8 : l = [117, 54, 52]
  · subst h8; rfl
  have g : ∀ m : List UInt8, l ≠ m → (Lit.string m).sameKey (.string l) = false := fun m h => by simp [Lit.sameKey]; exact fun e => h e.symm
  simp [h1, h2, h3, h4, h5, h6, h7, h8, DataW.atKey, List.find?, g]
theorem W.names_has (l : List UInt8) : Maps.has W.names (.string l) = (W.nt l).2.2 := by
  rw [W.names_list]
  unfold W.nt
  by_cases h1 : l = [105, 56]
  · subst h1; rfl
  by_cases h2 : l = [117, 56]
  · subst h2; rfl
  by_cases h3 : l = [105, 49, 54]
  · subst h3; rfl
  by_cases h4 : l = [117, 49, 54]
  · subst h4; rfl
  by_cases h5 : l = [105, 51, 50]
  · subst h5; rfl
  by_cases h6 : l = [117, 51, 50]
  · subst h6; rfl
  by_cases h7 : l = [105, 54, 52]
  · subst h7; rfl
  by_cases h8 : l = [117, 54, 52]
  · subst h8; rfl
  have g : ∀ m : List UInt8, l ≠ m → (Lit.string m).sameKey (.string l) = false := fun m h => by simp [Lit.sameKey]; exact fun e => h e.symm
  simp [h1, h2, h3, h4, h5, h6, h7, h8, Maps.has, g]
theorem W.nt_tn (b : Int) (s : Bool) (h : W.ok b) : W.nt (W.tn b s) = (b, s, true) := by
  rcases h with rfl | rfl | rfl | rfl <;> cases s <;> rfl
theorem W.nt_ok (l : List UInt8) (h : (W.nt l).2.2 = true) : W.ok (W.nt l).1 ∧ W.tn (W.nt l).1 (W.nt l).2.1 = l := by
  unfold W.nt at *
  by_cases h1 : l = [105, 56]
  · subst h1; exact ⟨by simp [W.ok], rfl⟩
  by_cases h2 : l = [117, 56]
  · subst h2; exact ⟨by simp [W.ok], rfl⟩
  by_cases h3 : l = [105, 49, 54]
  · subst h3; exact ⟨by simp [W.ok], rfl⟩
  by_cases h4 : l = [117, 49, 54]
  · subst h4; exact ⟨by simp [W.ok], rfl⟩
  by_cases h5 : l = [105, 51, 50]
  · subst h5; exact ⟨by simp [W.ok], rfl⟩
  by_cases h6 : l = [117, 51, 50]
  · subst h6; exact ⟨by simp [W.ok], rfl⟩
  by_cases h7 : l = [105, 54, 52]
  · subst h7; exact ⟨by simp [W.ok], rfl⟩
  by_cases h8 : l = [117, 54, 52]
  · subst h8; exact ⟨by simp [W.ok], rfl⟩
  simp [h1, h2, h3, h4, h5, h6, h7, h8] at h
end Go.Proofs.Ythdckndjggljpaa

/- The walk of types.Name. -/
namespace Go.Proofs.Ythdckndjggljpaa
open Go.RowKit Go.Maps
set_option linter.unusedVariables false
set_option linter.unusedSimpArgs false
set_option maxRecDepth 100000

/-- What is known of the entries that have come: none of them is (b, s). -/
def W.Past (b : Int) (s : Bool) (left : Lit → Bool) : Prop := ∀ l : List UInt8, W.nt l = (b, s, true) → left (.string l) = true
theorem W.Past.start (b : Int) (s : Bool) : W.Past b s (Maps.has W.names) := fun l h => by rw [W.names_has, h]
theorem W.Past.step {b c : Int} {s t : Bool} {left : Lit → Bool} {x : List UInt8} (h : W.Past b s left) (hx : ∀ zd, W.names.atKey (.string x) zd = W.tyD c t) (hne : ¬ (b = c ∧ s = t)) : W.Past b s (fun z => left z && !z.sameKey (.string x)) := fun l hl => by
  have h1 := h l hl
  have : l ≠ x := fun e => by
    subst e
    have := hx .nil
    rw [W.names_at, hl] at this
    exact hne (W.tyD_inj this)
  simp [h1, Lit.sameKey, this]
theorem W.Past.done {b : Int} {s : Bool} {left : Lit → Bool} (h : W.Past b s left) (hl : ∀ kl, left kl = false) : ¬ W.ok b := fun hb => by
  have := h (W.tn b s) (W.nt_tn b s hb)
  rw [hl] at this; cases this
theorem W.Past.hit {x : List UInt8} {c : Int} {t : Bool} (hx : ∀ zd, W.names.atKey (.string x) zd = W.tyD c t) : W.ok c ∧ W.tn c t = x := by
  have h1 := hx .nil
  rw [W.names_at] at h1
  by_cases h : (W.nt x).2.2 = true
  · rw [if_pos h] at h1
    obtain ⟨e1, e2⟩ := W.tyD_inj h1
    have := W.nt_ok x h
    rw [e1, e2] at this; exact this
  · rw [if_neg h] at h1
    have h2 := hx (.ptr .nil)
    rw [W.names_at, if_neg h, ← h1] at h2
    cases h2
theorem Ty.grown {w w' : World} {B r : Nat} {b : Int} {s : Bool} (h : Ty w B b s) (hg : w.grownBy w' (some r)) (hne : B ≠ r) : Ty w' B b s := by
  obtain ⟨h0, h1, f0, f1⟩ := h
  have hlt : B < w.heap.size := World.block_lt_of_cell? w ⟨B, 0, none⟩ h0
  have e : w'.heap[B]? = w.heap[B]? := hg.block B hlt (fun e => hne (by simpa using e))
  exact ⟨by rw [World.cell?_of_block (w := w) e]; exact h0, by rw [World.cell?_of_block (w := w) e]; exact h1, by rw [World.frozen?_of_block (w := w) e]; exact f0, by rw [World.frozen?_of_block (w := w) e]; exact f1⟩
theorem Ty.grown0 {w w' : World} {B : Nat} {b : Int} {s : Bool} (h : Ty w B b s) (hg : w.grownBy w' none) : Ty w' B b s := by
  obtain ⟨h0, h1, f0, f1⟩ := h
  have hlt : B < w.heap.size := World.block_lt_of_cell? w ⟨B, 0, none⟩ h0
  have e : w'.heap[B]? = w.heap[B]? := hg.block B hlt (fun e => by cases e)
  exact ⟨by rw [World.cell?_of_block (w := w) e]; exact h0, by rw [World.cell?_of_block (w := w) e]; exact h1, by rw [World.frozen?_of_block (w := w) e]; exact f0, by rw [World.frozen?_of_block (w := w) e]; exact f1⟩
theorem enc_inj {x y : List UInt8} (h : encStr x = encStr y) : x = y := by
  simp [encStr] at h
  exact h
theorem wpList_next_names (w : World) {ops : Array Oper} {rest : List Oper} {o : Oper} {a : Act} {Q : Exit → Act → World → Prop} (hg : o.guard = none) (it : Operand) (hop : o.op = Op.next it false)
    (B r : Nat) (left : Lit → Bool) (cnt : Nat) (b : Int) (s : Bool) (C : Nat) (hit : a.eval it = .pointer (some ⟨r, 0, none⟩)) (h : w.ranges Try.prog 9 W.tyElem B r 8 W.names left cnt) (hty : Ty w C b s) (hC : C ≠ r)
    (hDone : Hid (∀ kl, left kl = false) → wpList Try.prog ops Q rest (a.put o.dst (.tuple #[.bool false])) w)
    (hMore : ∀ (x : List UInt8) (c : Int) (t : Bool) (w' : World) (cnt' : Nat), Hid (∀ zd, W.names.atKey (.string x) zd = W.tyD c t) → Hid (w'.ranges Try.prog 9 W.tyElem B r 8 W.names (fun z => left z && !z.sameKey (.string x)) cnt') → Hid (cnt' < cnt) →
      Hid (w.grownBy w' (some r)) → Hid (w'.heap.size = w.heap.size) → w'.cell? ⟨C, 0, none⟩ = some (.int .i64 b) → w'.cell? ⟨C, 1, none⟩ = some (.bool s) → w'.frozen? ⟨C, 0, none⟩ = false → w'.frozen? ⟨C, 1, none⟩ = false → C < w'.heap.size →
      (Instr.entry (.pointer (some ⟨r, 0, none⟩))).run Try.prog w' = .ok (.tuple #[encStr x, W.ty c t]) w' → wpList Try.prog ops Q rest (a.put o.dst (.tuple #[.bool true, encStr x, W.ty c t])) w') :
    wpList Try.prog ops Q (o :: rest) a w := by
  refine wpList_next_ranges w hg it hop 9 law9 W.tyElem encStr (fun c : Int × Bool => W.ty c.1 c.2) (fun key kl h => by obtain ⟨x, hx, _⟩ := Maps.keyOf_str Try.underlying9 h; exact ⟨x, hx⟩) (fun v y h => W.tyElem_inv h) B r 8 _ _ _ hit h (fun _ hl0 => hDone hl0) ?_
  intro x c kl y w2 cnt2 hkey hlk hv hat hrg2 hlt2 hg2 hs2 hen
  obtain ⟨x', ex, rfl, _⟩ := Maps.keyOf_str Try.underlying9 hkey
  obtain rfl := enc_inj ex
  obtain ⟨c, t⟩ := c
  rw [W.tyElem_mk] at hv
  obtain rfl : (W.tyD c t, []) = y := Option.some.inj hv
  obtain ⟨y0, y1, y2, y3⟩ := hty.grown hg2 hC
  exact hMore x c t w2 cnt2 hat hrg2 hlt2 hg2 hs2 y0 y1 y2 y3 (World.block_lt_of_cell? w2 ⟨C, 0, none⟩ y0) hen
def W.name (b : Int) (s : Bool) : List UInt8 := if b = 0 then [118, 111, 105, 100] else if b = 8 ∨ b = 16 ∨ b = 32 ∨ b = 64 then W.tn b s else []

end Go.Proofs.Ythdckndjggljpaa

/- The walk of types.Named. -/
namespace Go.Proofs.Ythdckndjggljpaa
open Go.RowKit Go.Maps
set_option linter.unusedVariables false
set_option linter.unusedSimpArgs false
set_option maxRecDepth 100000

theorem zeroT (w : World) : (zeroValue 33).run Try.prog w = .ok (W.ty 0 false) w := by kernel_rfl
theorem look_names (w : World) (B : Nat) (h : w.ownsMap Try.prog 9 W.tyElem B 8 W.names) (l : ByteArray) (hl : l.size ≤ maxLen) :
    (Instr.lookup 116 (.map (some B)) (.string l) true).run Try.prog w = .ok (.tuple #[.agg #[.int .i64 (W.nt l.data.toList).1, .bool (W.nt l.data.toList).2.1], .bool (W.nt l.data.toList).2.2]) w := by
  obtain ⟨v, ps, hrun, hv⟩ := h.look_ok law9 Try.underlying116 (zeroT w) (W.tyElem_mk 0 false) (WideMaps.keyOf_string_mk Try.underlying9 hl)
  obtain ⟨⟨c, t⟩, rfl⟩ := W.tyElem_inv hv
  rw [W.tyElem_mk, W.names_at] at hv
  rw [hrun, W.names_has]
  have e : W.tyD c t = if (W.nt l.data.toList).2.2 then W.tyD (W.nt l.data.toList).1 (W.nt l.data.toList).2.1 else W.tyD 0 false := congrArg Prod.fst (Option.some.inj hv)
  by_cases hh : (W.nt l.data.toList).2.2 = true
  · rw [if_pos hh] at e
    obtain ⟨e1, e2⟩ := W.tyD_inj e
    simp only [e1, e2, W.ty]
  · rw [if_neg hh] at e
    obtain ⟨e1, e2⟩ := W.tyD_inj e
    have hz : W.nt l.data.toList = (0, false, false) := by
      generalize l.data.toList = m at hh ⊢
      unfold W.nt at *
      repeat' (split at hh; · simp at hh)
      simp [*]
    simp only [e1, e2, W.ty, hz]

set_option maxHeartbeats 2000000 in
theorem named_ok (l : ByteArray) (hl : l.size ≤ maxLen) (w : World) : Calls Try.prog 33 #[.string l] w fun e w' => e = .returned (.tuple #[W.ty (W.nt l.data.toList).1 (W.nt l.data.toList).2.1, .bool (W.nt l.data.toList).2.2]) ∧ Below w.heap.size w w' := by
  obtain ⟨B, hB⟩ : ∃ B, B = (W.nt l.data.toList).1 := ⟨_, rfl⟩
  obtain ⟨S, hS⟩ : ∃ S, S = (W.nt l.data.toList).2.1 := ⟨_, rfl⟩
  obtain ⟨O, hO⟩ : ∃ O, O = (W.nt l.data.toList).2.2 := ⟨_, rfl⟩
  have HL : Hid (∀ (w : World) (b : Nat), w.ownsMap Try.prog 9 W.tyElem b 8 W.names → (Instr.lookup 116 (.map (some b)) (.string l) true).run Try.prog w = .ok (.tuple #[.agg #[.int .i64 B, .bool S], .bool O]) w) := fun w b h => by rw [hB, hS, hO]; exact look_names w b h l hl
  rw [← hB, ← hS, ← hO]
  clear hB hS hO hl
  go_enter Try.func33, Try.ntmps33
  go_wp2_with (first | (go_at_call 52; refine (names_ok _).mono ?_; rintro e w1 ⟨rfl, hown, hb, hlt⟩; have HB := Lib.hid hb; obtain ⟨x0, x1, x2, x3⟩ := Ty.below (Ty.new w rfl 0 false 33) hb; have hlk := HL.out _ _ hown; have hsz : (w.alloc (.cells #[.int .i64 0, .bool false] 33)).heap.size = w.heap.size + 1 := World.size_alloc _ _; rw [hsz] at hlk hlt; have hlt3 : w.heap.size < w1.heap.size := (by omega); clear hsz hb hown))
  refine bodyPost_ret (v := .tuple #[W.ty B S, .bool O]) (by simp [results, Try.results33, go_sem, x0, x1, x2, x3, hlt3]) rfl ⟨rfl, Ext.alloc (Ext.setCell (Ext.setCell (Ext.trans (Ext.alloc (Below.refl w.heap.size w) _) HB.out) (Nat.le_refl _) _) (Nat.le_refl _) _) _⟩
end Go.Proofs.Ythdckndjggljpaa
