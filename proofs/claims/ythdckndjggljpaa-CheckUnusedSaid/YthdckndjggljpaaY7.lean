/- Walks of source's shaper: node, kids, and where an expression lies that is pointed to. No condition. -/
import Derived.Test.YthdckndjggljpaaYA
import Derived.LoopTactic
import Derived.Deep.Cut
namespace Go.Proofs.Ythdckndjggljpaa
open Go.RowKit
set_option linter.unusedVariables false
set_option linter.unusedSimpArgs false
set_option maxRecDepth 100000
abbrev ShpB (w : World) (g : Nat) (N : Nat) : Prop := Blk w g 55 #[.int .i64 (N : Int)]
/-- What comes of counting. -/
def ShpR (g : Nat) (w : World) (r : Int × Nat) (e : Ending) (w' : World) : Prop := e = .returned (.int .i64 r.1) ∧ Chg g w w' ∧ ShpB w' g r.2
set_option maxHeartbeats 2000000 in
theorem node_ok (w : World) (g N : Nat) (d : Int) (hN : N ≤ 20000) (hB : ShpB w g N) : Calls Try.prog 36 #[P g, .int .i64 d] w (ShpR g w (if 20000 ≤ N ∨ 100 < d then 4 else 0, N + 1)) := by
  have c0 : w.cell? ⟨g, 0, none⟩ = some (.int .i64 (N : Int)) := hB.cell 0
  have z0 : w.frozen? ⟨g, 0, none⟩ = false := hB.frozen 0
  have HC : Hid (Chg g w (w.setCell ⟨g, 0, none⟩ (.int .i64 ((N : Int) + 1)))) := (Chg.of_below (Below.refl _ _)).setCell 0 _
  have HB : Hid (ShpB (w.setCell ⟨g, 0, none⟩ (.int .i64 ((N : Int) + 1))) g (N + 1)) := by
    have := hB.set_ 0 (.int .i64 ((N : Int) + 1)); have e : ((N + 1 : Nat) : Int) = (N : Int) + 1 := (by omega); show Blk _ g _ #[.int .i64 ((N + 1 : Nat) : Int)]; rw [e]; simpa using this
  clear hB
  by_cases h1 : 20000 ≤ N
  · have d1 : decide ((N : Int) + 1 > 20000) = true := by simp; omega
    rw [if_pos (.inl h1)]
    go_enter Try.func36, Try.ntmps36
    go_wp2
    go_ret
    exact ⟨rfl, HC.out, HB.out⟩
  · have d1 : decide ((N : Int) + 1 > 20000) = false := by simp; omega
    by_cases h2 : 100 < d
    · have d2 : decide (d > 100) = true := by simpa using h2
      rw [if_pos (.inr h2)]
      go_enter Try.func36, Try.ntmps36
      go_wp2
      go_ret
      exact ⟨rfl, HC.out, HB.out⟩
    · have d2 : decide (d > 100) = false := by simpa using h2
      rw [if_neg (by omega)]
      go_enter Try.func36, Try.ntmps36
      go_wp2
      go_ret
      exact ⟨rfl, HC.out, HB.out⟩
theorem ret_two {k k' : IntKind} {a b c d : Int} (h : a = c) (h' : b = d) : Ending.returned (.tuple #[.int k a, .int k' b]) = .returned (.tuple #[.int k c, .int k' d]) := by rw [h, h']
theorem kids_ok (k : Int) (w : World) : Calls Try.prog 54 #[.int .i64 k] w fun e w' => e = .returned (.tuple #[.int .i64 (if k < 1 ∨ 26 < k then 0 else X.kidsOf k), .int .i64 (if k < 1 ∨ 26 < k then 1 else 0)]) ∧ w = w' := by
  obtain ⟨V, hV⟩ : ∃ V, V = if k < 1 ∨ 26 < k then 0 else X.kidsOf k := ⟨_, rfl⟩
  obtain ⟨U, hU⟩ : ∃ U : Int, U = if k < 1 ∨ 26 < k then 1 else 0 := ⟨_, rfl⟩
  rw [← hV, ← hU]
  unfold X.kidsOf at hV
  have HV := Lib.hid hV
  have HU := Lib.hid hU
  clear hV hU
  by_cases h1 : k = 1
  · subst h1
    go_enter Try.func54, Try.ntmps54
    go_wp2
    go_ret2
    exact ⟨ret_two (by rw [HV.out]; rfl) (by rw [HU.out]; rfl), rfl⟩
  have d1 : (k == 1) = false := by simpa using h1
  by_cases h2 : k = 2
  · subst h2
    go_enter Try.func54, Try.ntmps54
    go_wp2
    go_ret2
    exact ⟨ret_two (by rw [HV.out]; rfl) (by rw [HU.out]; rfl), rfl⟩
  have d2 : (k == 2) = false := by simpa using h2
  by_cases h4 : k = 4
  · subst h4
    go_enter Try.func54, Try.ntmps54
    go_wp2
    go_ret2
    exact ⟨ret_two (by rw [HV.out]; rfl) (by rw [HU.out]; rfl), rfl⟩
  have d4 : (k == 4) = false := by simpa using h4
  by_cases h3 : k = 3
  · subst h3
    go_enter Try.func54, Try.ntmps54
    go_wp2
    go_ret2
    exact ⟨ret_two (by rw [HV.out]; rfl) (by rw [HU.out]; rfl), rfl⟩
  have d3 : (k == 3) = false := by simpa using h3
  by_cases h5 : 5 ≤ k
  · have d5 : decide (k ≥ 5) = true := by simpa using h5
    by_cases h8 : k ≤ 8
    · have d8 : decide (k ≤ 8) = true := by simpa using h8
      have HA : Hid (V = 1 ∧ U = 0) := ⟨by rw [HV.out, if_neg (by omega), if_neg (by omega), if_neg (by omega), if_neg (by omega), if_pos h8], by rw [HU.out, if_neg (by omega)]⟩
      clear h1 h2 h3 h4 h5 h8
      go_enter Try.func54, Try.ntmps54
      go_wp2
      go_ret2
      exact ⟨ret_two HA.out.1.symm HA.out.2.symm, rfl⟩
    · have d8 : decide (k ≤ 8) = false := by simpa using h8
      have d9 : decide (k ≥ 9) = true := by simp; omega
      by_cases h26 : k ≤ 26
      · have d26 : decide (k ≤ 26) = true := by simpa using h26
        have HA : Hid (V = 2 ∧ U = 0) := ⟨by rw [HV.out, if_neg (by omega), if_neg (by omega), if_neg (by omega), if_neg (by omega), if_neg h8], by rw [HU.out, if_neg (by omega)]⟩
        clear h1 h2 h3 h4 h5 h8 h26
        go_enter Try.func54, Try.ntmps54
        go_wp2
        go_ret2
        exact ⟨ret_two HA.out.1.symm HA.out.2.symm, rfl⟩
      · have d26 : decide (k ≤ 26) = false := by simpa using h26
        have HA : Hid (V = 0 ∧ U = 1) := ⟨by rw [HV.out, if_pos (by omega)], by rw [HU.out, if_pos (by omega)]⟩
        clear h1 h2 h3 h4 h5 h8 h26
        go_enter Try.func54, Try.ntmps54
        go_wp2
        go_ret2
        exact ⟨ret_two HA.out.1.symm HA.out.2.symm, rfl⟩
  · have d5 : decide (k ≥ 5) = false := by simpa using h5
    have d9 : decide (k ≥ 9) = false := by simp; omega
    have HA : Hid (V = 0 ∧ U = 1) := ⟨by rw [HV.out, if_pos (by omega)], by rw [HU.out, if_pos (by omega)]⟩
    clear h1 h2 h3 h4 h5
    go_enter Try.func54, Try.ntmps54
    go_wp2
    go_ret2
    exact ⟨ret_two HA.out.1.symm HA.out.2.symm, rfl⟩
/-- An expression that is pointed to, its parts apart from a block. -/
structure XQ (w : World) (g : Nat) (k n b : Int) (s : Bool) (nm : ByteArray) (ks : List X) (a : Option Addr) (L c q off : Nat) : Prop where
  ne : q ≠ g
  x : XIn w (fun t => t ≠ g) (.mk k n b s nm ks) (X.cells k n b s nm (.slice a L c))
  len : ks.length = L
  le : L ≤ c
  lm : c ≤ maxLen
  c0 : w.cell? ⟨q, off, none⟩ = some (.int .i64 k)
  c1 : w.cell? ⟨q, off + 1, none⟩ = some (.int .u64 n)
  c2 : w.cell? ⟨q, off + 2, none⟩ = some (.int .i64 b)
  c3 : w.cell? ⟨q, off + 3, none⟩ = some (.bool s)
  c4 : w.cell? ⟨q, off + 4, none⟩ = some (.string nm)
  c5 : w.cell? ⟨q, off + 5, none⟩ = some (.slice a L c)
def XP (w : World) (g : Nat) (x : X) (q off : Nat) : Prop := q ≠ g ∧ ∃ cs, XIn w (fun t => t ≠ g) x cs ∧ ∀ j u, cs[j]? = some u → w.cell? ⟨q, off + j, none⟩ = some u
section
variable {w w' : World} {g q off : Nat}
theorem XP.open {k n b : Int} {s : Bool} {nm : ByteArray} {ks : List X} (h : XP w g (.mk k n b s nm ks) q off) : ∃ a c, XQ w g k n b s nm ks a ks.length c q off := by
  obtain ⟨hne, cs, hx, hc⟩ := h
  obtain ⟨a, c, e, h1, h2, _⟩ := hx.at.open
  subst e
  exact ⟨a, c, hne, hx, rfl, h1, h2, hc 0 _ rfl, hc 1 _ rfl, hc 2 _ rfl, hc 3 _ rfl, hc 4 _ rfl, hc 5 _ rfl⟩
theorem XQ.chg {k n b : Int} {s : Bool} {nm : ByteArray} {ks : List X} {a : Option Addr} {L c : Nat} (h : XQ w g k n b s nm ks a L c q off) (hc : Chg g w w') : XQ w' g k n b s nm ks a L c q off := by
  obtain ⟨hne, hx, h1, h2, h3, c0, c1, c2, c3, c4, c5⟩ := h
  exact ⟨hne, hx.move (fun t ht hlt => ⟨ht, hc.block t hlt (fun e => by injection e with e; exact ht e)⟩), h1, h2, h3, hc.cell hne c0, hc.cell hne c1, hc.cell hne c2, hc.cell hne c3, hc.cell hne c4, hc.cell hne c5⟩
theorem XQ.kid {k n b : Int} {s : Bool} {nm : ByteArray} {ks : List X} {a : Option Addr} {L c : Nat} (h : XQ w g k n b s nm ks a L c q off) {i : Nat} {y : X} (hy : ks[i]? = some y) : ∃ gk ok, a = some ⟨gk, ok, none⟩ ∧ XP w g y gk (ok + i * 6) := by
  have hx := h.x
  obtain ⟨a2, c2, cs, e, hk, ha⟩ : ∃ (a2 : Option Addr) (c2 : Nat) (cs : Nat → List Value), X.cells k n b s nm (.slice a L c) = X.cells k n b s nm (.slice a2 ks.length c2) ∧ (∀ i x, ks[i]? = some x → XIn w (fun t => t ≠ g) x (cs i)) ∧
      (0 < ks.length → ∃ b off, b ≠ g ∧ a2 = some ⟨b, off, none⟩ ∧ ∀ i j u, i < ks.length → (cs i)[j]? = some u → w.cell? ⟨b, off + i * 6 + j, none⟩ = some u) := by
    generalize hcs : X.cells k n b s nm (.slice a L c) = cc at hx
    cases hx with | mk k n b s nm ks a2 c2 cs hc hm hk ha => exact ⟨a2, c2, cs, rfl, hk, ha⟩
  have e2 : a = a2 := by
    have := congrArg (fun l => l[5]?) e
    simp at this; exact this.1
  have hi : i < ks.length := (List.getElem?_eq_some_iff.1 hy).1
  obtain ⟨gk, ok, hne, ea, hc⟩ := ha (by omega)
  exact ⟨gk, ok, e2.trans ea, hne, cs i, hk i y hy, fun j u hu => hc i j u hi hu⟩
theorem XP.chg {x : X} (h : XP w g x q off) (hc : Chg g w w') : XP w' g x q off := by
  obtain ⟨hne, cs, hx, h⟩ := h
  exact ⟨hne, cs, hx.move (fun t ht hlt => ⟨ht, hc.block t hlt (fun e => by injection e with e; exact ht e)⟩), fun j u hu => hc.cell hne (h j u hu)⟩
end
theorem Chg.setNew {g : Nat} {w wi : World} (h : Chg g w wi) {p : Addr} (hp : w.heap.size ≤ p.block) (u : Value) : Chg g w (wi.setCell p u) :=
  ⟨h.os, h.tape, h.output, by simpa using h.size, fun k hk hr => (Below.heap_setCell wi p u k (by omega)).trans (h.block k hk hr)⟩
theorem ptrS {Q : Nat → Prop} {v : Value} {t : Nat} (e : v = .pointer (some ⟨t, 0, none⟩)) (h : Q t) : ∀ g, v = Value.pointer (some ⟨g, 0, none⟩) → Q g := fun g e2 => by
  rw [e] at e2; injection e2 with e2; injection e2 with e2; injection e2 with e2; subst e2; exact h
/-- A type is stored in a new variable. -/
theorem ty_store {wi : World} {t : Nat} {a0 : Int} {a1 : Bool} (h : Blk wi t 33 #[.int .i64 a0, .bool a1]) (b : Int) (s : Bool) : Blk ((wi.setCell ⟨t, 0, none⟩ (.int .i64 b)).setCell ⟨t, 1, none⟩ (.bool s)) t 33 #[.int .i64 b, .bool s] := by
  have := (h.set_ 0 (.int .i64 b)).set_ 1 (.bool s)
  simpa using this
theorem ty_keep {wi : World} {t m : Nat} {a0 : Int} {a1 : Bool} (h : Blk wi t 33 #[.int .i64 a0, .bool a1]) (b : Int) (s : Bool) {v : Value} (k : ∃ q, v = Value.pointer (some ⟨q, 0, none⟩) ∧ m ≤ q ∧ ∃ (b0 : Int) (b1 : Bool), Blk wi q 33 #[.int .i64 b0, .bool b1]) :
    ∃ q, v = Value.pointer (some ⟨q, 0, none⟩) ∧ m ≤ q ∧ ∃ (b0 : Int) (b1 : Bool), Blk ((wi.setCell ⟨t, 0, none⟩ (.int .i64 b)).setCell ⟨t, 1, none⟩ (.bool s)) q 33 #[.int .i64 b0, .bool b1] := by
  obtain ⟨q, e, hq, b0, b1, hb⟩ := k
  by_cases hqt : q = t
  · subst hqt; exact ⟨q, e, hq, b, s, ty_store h b s⟩
  · exact ⟨q, e, hq, b0, b1, (hb.far (by exact hqt) _).far (by exact hqt) _⟩
theorem valid_b (b : Int) (s : Bool) (w : World) : Calls Try.prog 38 #[W.ty b s] w fun e w' => e = .returned (.bool (W.okB b)) ∧ Below w.heap.size w w' := by
  by_cases h : W.ok b
  · rw [W.okB_t h]; exact valid_ok b s h w
  · rw [W.okB_f h]; exact valid_no b s h w
end Go.Proofs.Ythdckndjggljpaa
