/- The walk of types.Name. -/
import Derived.Test.YtgpjhbaehhjdhaaTn
import Derived.Deep.RegionWith
namespace Go.Proofs.Ytgpjhbaehhjdhaa
open Go.RowKit Go.Maps
set_option linter.unusedVariables false
set_option linter.unusedSimpArgs false
set_option maxRecDepth 100000

/-- What is known of the entries that have come: none of them is (b, s). -/
def W.Past (b : Int) (s : Bool) (left : Lit → Bool) : Prop := ∀ l : List UInt8, W.nt l = (b, s, true) → left (.string l) = true
theorem W.Past.start (b : Int) (s : Bool) : W.Past b s (Maps.has W.names) := fun l h => by rw [W.names_has, h]
theorem W.Past.step {b c : Int} {s t : Bool} {left : Lit → Bool} {x : List UInt8} (h : W.Past b s left) (hx : ∀ zd, W.names.atKey (.string x) zd = W.tyD c t) (hne : ¬ (b = c ∧ s = t)) : W.Past b s (fun z => left z && !z.sameKey (.string x)) := fun l hl => by
  have h1 := h l hl
  have : l ≠ x := fun e => by
    subst e
    have := hx .nil
    rw [W.names_at, hl] at this
    exact hne (W.tyD_inj this)
  simp [h1, Lit.sameKey, this]
theorem W.Past.done {b : Int} {s : Bool} {left : Lit → Bool} (h : W.Past b s left) (hl : ∀ kl, left kl = false) : ¬ W.ok b := fun hb => by
  have := h (W.tn b s) (W.nt_tn b s hb)
  rw [hl] at this; cases this
theorem W.Past.hit {x : List UInt8} {c : Int} {t : Bool} (hx : ∀ zd, W.names.atKey (.string x) zd = W.tyD c t) : W.ok c ∧ W.tn c t = x := by
  have h1 := hx .nil
  rw [W.names_at] at h1
  by_cases h : (W.nt x).2.2 = true
  · rw [if_pos h] at h1
    obtain ⟨e1, e2⟩ := W.tyD_inj h1
    have := W.nt_ok x h
    rw [e1, e2] at this; exact this
  · rw [if_neg h] at h1
    have h2 := hx (.ptr .nil)
    rw [W.names_at, if_neg h, ← h1] at h2
    cases h2
theorem Ty.grown {w w' : World} {B r : Nat} {b : Int} {s : Bool} (h : Ty w B b s) (hg : w.grownBy w' (some r)) (hne : B ≠ r) : Ty w' B b s := by
  obtain ⟨h0, h1, f0, f1⟩ := h
  have hlt : B < w.heap.size := World.block_lt_of_cell? w ⟨B, 0, none⟩ h0
  have e : w'.heap[B]? = w.heap[B]? := hg.block B hlt (fun e => hne (by simpa using e))
  exact ⟨by rw [World.cell?_of_block (w := w) e]; exact h0, by rw [World.cell?_of_block (w := w) e]; exact h1, by rw [World.frozen?_of_block (w := w) e]; exact f0, by rw [World.frozen?_of_block (w := w) e]; exact f1⟩
theorem Ty.grown0 {w w' : World} {B : Nat} {b : Int} {s : Bool} (h : Ty w B b s) (hg : w.grownBy w' none) : Ty w' B b s := by
  obtain ⟨h0, h1, f0, f1⟩ := h
  have hlt : B < w.heap.size := World.block_lt_of_cell? w ⟨B, 0, none⟩ h0
  have e : w'.heap[B]? = w.heap[B]? := hg.block B hlt (fun e => by cases e)
  exact ⟨by rw [World.cell?_of_block (w := w) e]; exact h0, by rw [World.cell?_of_block (w := w) e]; exact h1, by rw [World.frozen?_of_block (w := w) e]; exact f0, by rw [World.frozen?_of_block (w := w) e]; exact f1⟩
theorem enc_inj {x y : List UInt8} (h : encStr x = encStr y) : x = y := by
  simp [encStr] at h
  exact h
theorem wpList_next_names (w : World) {ops : Array Oper} {rest : List Oper} {o : Oper} {a : Act} {Q : Exit → Act → World → Prop} (hg : o.guard = none) (it : Operand) (hop : o.op = Op.next it false)
    (B r : Nat) (left : Lit → Bool) (cnt : Nat) (b : Int) (s : Bool) (C : Nat) (hit : a.eval it = .pointer (some ⟨r, 0, none⟩)) (h : w.ranges Try.prog 9 W.tyElem B r 8 W.names left cnt) (hty : Ty w C b s) (hC : C ≠ r)
    (hDone : Hid (∀ kl, left kl = false) → wpList Try.prog ops Q rest (a.put o.dst (.tuple #[.bool false])) w)
    (hMore : ∀ (x : List UInt8) (c : Int) (t : Bool) (w' : World) (cnt' : Nat), Hid (∀ zd, W.names.atKey (.string x) zd = W.tyD c t) → Hid (w'.ranges Try.prog 9 W.tyElem B r 8 W.names (fun z => left z && !z.sameKey (.string x)) cnt') → Hid (cnt' < cnt) →
      Hid (w.grownBy w' (some r)) → Hid (w'.heap.size = w.heap.size) → w'.cell? ⟨C, 0, none⟩ = some (.int .i64 b) → w'.cell? ⟨C, 1, none⟩ = some (.bool s) → w'.frozen? ⟨C, 0, none⟩ = false → w'.frozen? ⟨C, 1, none⟩ = false → C < w'.heap.size →
      (Instr.entry (.pointer (some ⟨r, 0, none⟩))).run Try.prog w' = .ok (.tuple #[encStr x, W.ty c t]) w' → wpList Try.prog ops Q rest (a.put o.dst (.tuple #[.bool true, encStr x, W.ty c t])) w') :
    wpList Try.prog ops Q (o :: rest) a w := by
  refine wpList_next_ranges w hg it hop 9 law9 W.tyElem encStr (fun c : Int × Bool => W.ty c.1 c.2) (fun key kl h => by obtain ⟨x, hx, _⟩ := Maps.keyOf_str Try.underlying9 h; exact ⟨x, hx⟩) (fun v y h => W.tyElem_inv h) B r 8 _ _ _ hit h (fun _ hl0 => hDone hl0) ?_
  intro x c kl y w2 cnt2 hkey hlk hv hat hrg2 hlt2 hg2 hs2 hen
  obtain ⟨x', ex, rfl, _⟩ := Maps.keyOf_str Try.underlying9 hkey
  obtain rfl := enc_inj ex
  obtain ⟨c, t⟩ := c
  rw [W.tyElem_mk] at hv
  obtain rfl : (W.tyD c t, []) = y := Option.some.inj hv
  obtain ⟨y0, y1, y2, y3⟩ := hty.grown hg2 hC
  exact hMore x c t w2 cnt2 hat hrg2 hlt2 hg2 hs2 y0 y1 y2 y3 (World.block_lt_of_cell? w2 ⟨C, 0, none⟩ y0) hen
def W.name (b : Int) (s : Bool) : List UInt8 := if b = 0 then [118, 111, 105, 100] else if b = 8 ∨ b = 16 ∨ b = 32 ∨ b = 64 then W.tn b s else []

set_option maxHeartbeats 4000000 in
theorem name_walk (b : Int) (s : Bool) (h0 : b ≠ 0) (w : World) : Calls Try.prog 58 #[W.ty b s] w fun e w' => e = .returned (encStr (W.name b s)) ∧ Below w.heap.size w w' := by
  go_enter Try.func58, Try.ntmps58
  go_wp2_with (first | (go_at_call 108; go_loud (refine (names_ok _).mono ?_; rintro e w1 ⟨rfl, hown, hb, hlt⟩; have HB := Lib.hid hb; have hsz : (w.alloc (.cells #[.int .i64 b, .bool s] 66)).heap.size = w.heap.size + 1 := World.size_alloc _ _; rw [hsz] at hown; clear hsz; obtain ⟨x0, x1, x2, x3⟩ := Ty.below (Ty.new w rfl b s 66) hb; clear hb)) | (at_range; go_loud (refine wpList_range_own _ rfl _ 111 rfl 9 66 law9 Try.underlying111 _ _ 8 _ rfl hown ?_; intro w0 hrg0 hg0 hs0)))
  go_frame
  go_loopw [3, 4] (fun _ _ wr => ∃ (left : Lit → Bool) (cnt : Nat), wr.ranges Try.prog 9 W.tyElem (w.heap.size + 1) w1.heap.size 8 W.names left cnt ∧ Hid (W.Past b s left) ∧ Hid (Below w.heap.size w wr) ∧ Ty wr w.heap.size b s ∧ Hid (w1.heap.size < wr.heap.size)) (fun _ _ wr => wr.rangeLeft (w.heap.size + 1) w1.heap.size)
  case atStart => exact ⟨_, _, hrg0, W.Past.start b s, Below.grown (Ext.trans (Ext.alloc (Below.refl w.heap.size w) _) HB.out) hg0 (by have := HB.out.size; simp at this; omega) (fun k hk => by cases hk), Ty.grown0 ⟨x0, x1, x2, x3⟩ hg0, by show w1.heap.size < w0.heap.size; omega⟩
  case round =>
    have HL := Lib.hid hlt
    clear x0 x1 x2 x3 hrg0 hg0 hs0 hown hlt
    obtain ⟨left, cnt, hrg, hp, hbw, ⟨x0, x1, x2, x3⟩, hlw⟩ := hrel
    go_wp2_with (first | (at_next; refine wpList_next_names wr rfl _ rfl (w.heap.size + 1) w1.heap.size _ _ b s w.heap.size rfl hrg ⟨x0, x1, x2, x3⟩ (by (have := HL.out; simp at this; omega)) ?_ ?_ <;> intros))
    · have hl0 := ‹Hid (∀ kl, left kl = false)›
      go_ret
      exact ⟨W.ret1 (by have := hp.out.done hl0.out; unfold W.name; rw [if_neg h0, if_neg (by unfold W.ok at this; exact this)]; rfl), hbw.out⟩
    · rename_i x c t w2 cnt2 hat hrg2 hlt2 hg2 hs2 y0 y1 y2 y3 hlt3 hen ebc est
      obtain ⟨hok, hx⟩ := W.Past.hit hat.out
      go_ret
      exact ⟨W.ret1 (by rw [ebc, est]; unfold W.name; rw [if_neg (by rw [← ebc]; exact h0), if_pos (by unfold W.ok at hok; exact hok), hx]; rfl), Ext.alloc (Below.grown hbw.out hg2.out hbw.out.size (fun k hk => by cases hk; have := HL.out; simp at this; omega)) _⟩
    · rename_i x c t w2 cnt2 hat hrg2 hlt2 hg2 hs2 y0 y1 y2 y3 hlt3 hen ebc est
      refine ⟨⟨_, _, _, _, _, _, _, _, _, _, _, _, ⟨_, cnt2, hrg2.out.alloc _, W.Past.step hp.out hat.out (fun h => est h.2), Ext.alloc (Below.grown hbw.out hg2.out hbw.out.size (fun k hk => by cases hk; have := HL.out; simp at this; omega)) _, Ty.alloc ⟨y0, y1, y2, y3⟩ _, by have h1 := hs2.out; have h2 := hlw.out; show w1.heap.size < (w2.alloc _).heap.size; rw [World.size_alloc]; omega⟩, by rw [ebc]⟩, by rw [(hrg2.out.alloc _).left_eq, hrg.left_eq]; exact hlt2.out⟩
    · rename_i x c t w2 cnt2 hat hrg2 hlt2 hg2 hs2 y0 y1 y2 y3 hlt3 hen ebc
      exact ⟨⟨_, cnt2, hrg2.out.alloc _, W.Past.step hp.out hat.out (fun h => ebc h.1), Ext.alloc (Below.grown hbw.out hg2.out hbw.out.size (fun k hk => by cases hk; have := HL.out; simp at this; omega)) _, Ty.alloc ⟨y0, y1, y2, y3⟩ _, by have h1 := hs2.out; have h2 := hlw.out; show w1.heap.size < (w2.alloc _).heap.size; rw [World.size_alloc]; omega⟩, by rw [(hrg2.out.alloc _).left_eq, hrg.left_eq]; exact hlt2.out⟩
theorem name_ok (b : Int) (s : Bool) (w : World) : Calls Try.prog 58 #[W.ty b s] w fun e w' => e = .returned (encStr (W.name b s)) ∧ Below w.heap.size w w' := by
  by_cases h0 : b = 0
  · subst h0
    go_enter Try.func58, Try.ntmps58
    go_wp2
    go_ret
    exact ⟨rfl, Ext.alloc (Below.refl _ _) _⟩
  · exact name_walk b s h0 w
end Go.Proofs.Ytgpjhbaehhjdhaa
