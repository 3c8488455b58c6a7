/- Walk of the law SourceCuts. No condition. -/
import Derived.Test.YtkmcniaaecijdaaK12
import Derived.Test.YtkmcniaaecijdaaK13
import Derived.LoopTactic
import Derived.Deep.Cut
namespace Go.Proofs.Ytkmcniaaecijdaa
open Go.RowKit
set_option linter.unusedVariables false
set_option linter.unusedSimpArgs false
set_option maxRecDepth 100000
namespace Tk
theorem tkR_len : ∀ ts : List Tok, (tkR ts).length = ts.length * 6
  | [] => rfl
  | t :: ts => by unfold tkR; rw [List.flatMap_cons, List.length_append]; have := tkR_len ts; unfold tkR at this; rw [this]; simp [tc, cells]; omega
theorem tkR_at : ∀ (ts : List Tok) (i : Nat) (t : Tok) (q : Nat), ts[i]? = some t → q < 6 → (tkR ts)[i * 6 + q]? = (tc t)[q]?
  | [], i, t, q, h, _ => by simp at h
  | x :: ts, 0, t, q, h, hq => by
    simp at h; subst h
    unfold tkR; rw [List.flatMap_cons, Nat.zero_mul, Nat.zero_add, List.getElem?_append_left (by simp [tc, cells]; omega)]
  | x :: ts, i + 1, t, q, h, hq => by
    have := tkR_at ts i t q (by simpa using h) hq
    unfold tkR at this ⊢
    rw [List.flatMap_cons, List.getElem?_append_right (by simp [tc, cells]; omega)]
    have e : (i + 1) * 6 + q - (tc x).length = i * 6 + q := by simp [tc, cells]; omega
    rw [e]; exact this
/-- A token of a row, where it lies. -/
theorem row_at {w : World} {B n : Nat} {ts : List Tok} {av : Option Addr} {cv : Nat} (h : w.ownsRow B 33 6 (.slice av ts.length cv) n (tkR ts)) {i : Nat} {t : Tok} (hi : ts[i]? = some t) :
    ∃ g, av = some ⟨g, 0, none⟩ ∧ w.cell? ⟨g, i * 6, none⟩ = some (.int .i64 t.kind) ∧ w.cell? ⟨g, i * 6 + 1, none⟩ = some (.string ⟨t.text.toArray⟩) ∧ w.cell? ⟨g, i * 6 + 2, none⟩ = some (.int .u64 t.n) ∧ w.cell? ⟨g, i * 6 + 3, none⟩ = some (.int .i64 t.bits) ∧ w.cell? ⟨g, i * 6 + 4, none⟩ = some (.bool t.sg) ∧ w.cell? ⟨g, i * 6 + 5, none⟩ = some (.int .i64 (t.pos : Int)) := by
  have hl : i < ts.length := (List.getElem?_eq_some_iff.1 hi).1
  rcases h.2 with ⟨e, _⟩ | ⟨g, cap, cur, ev, _⟩
  · injection e with e1 e2 e3; omega
  · injection ev with ea _ _
    subst ea
    have c : ∀ q v, q < 6 → (tc t)[q]? = some v → w.cell? ⟨g, i * 6 + q, none⟩ = some v := fun q v hq hv => by
      have := h.cells (g := g) rfl (i * 6 + q) v (by rw [tkR_at ts i t q hi hq]; exact hv)
      rw [addr0] at this
      rw [Nat.zero_add] at this
      exact this
    exact ⟨g, rfl, c 0 _ (by decide) rfl, c 1 _ (by decide) rfl, c 2 _ (by decide) rfl, c 3 _ (by decide) rfl, c 4 _ (by decide) rfl, c 5 _ (by decide) rfl⟩
theorem own_max {w : World} {B e s n c : Nat} {a : Option Addr} {xs : List Value} (h : w.ownsRow B e s (.slice a n c) n xs) : n ≤ 9223372036854775807 := by
  rcases h.2 with ⟨_, hz⟩ | ⟨g, cap, cur, hv, hbg, hg, hnc, hcm, _⟩
  · omega
  · unfold maxLen at hcm; omega
end Tk
set_option maxHeartbeats 8000000 in
theorem cuts_walk (s : ByteArray) (hs : s.size ≤ maxLen) (w : World) : Calls Try.prog 3 #[.string s] w fun e w' => e = .returned (.bool true) ∧ Below w.heap.size w w' := by
  obtain ⟨rv, hrv⟩ : ∃ b, b = Tk.rsv s.data.toList := ⟨_, rfl⟩
  obtain ⟨nv, hnv⟩ : ∃ b, b = Tk.nmd s.data.toList := ⟨_, rfl⟩
  have HRS : Hid (∀ w1 : World, Calls Try.prog 6 #[.string s] w1 fun e w' => e = .returned (.bool rv) ∧ Below w1.heap.size w1 w') := fun w1 => by rw [hrv]; exact reserved_ok s hs w1
  have HRR : Hid (∀ w1 : World, Calls Try.prog 7 #[.string s] w1 fun e w' => e = .returned (.bool rv) ∧ Below w1.heap.size w1 w') := fun w1 => by rw [hrv]; exact reserved8_ok s w1
  have HNS : Hid (∀ w1 : World, Calls Try.prog 8 #[.string s] w1 fun e w' => e = .returned (.bool nv) ∧ Below w1.heap.size w1 w') := fun w1 => by rw [hnv]; exact sNamed_ok s hs w1
  have HNR : Hid (∀ w1 : World, Calls Try.prog 9 #[.string s] w1 fun e w' => e = .returned (.bool nv) ∧ Below w1.heap.size w1 w') := fun w1 => by rw [hnv]; exact sNamed8_ok s hs w1
  have hll : s.data.toList.length = s.size := (Tk.size_is s).symm
  -- what comes of the text
  obtain ⟨ts, fe, fa, HTA, HTB⟩ : ∃ (ts : List Tk.Tok) (fe fa : Int), Hid (∀ w1 : World, Calls Try.prog 10 #[.string s] w1 fun e w' => ∃ av cv, e = .returned (.tuple #[.slice av ts.length cv, .agg #[.int .i64 fe, .int .i64 fa]]) ∧ Below w1.heap.size w1 w' ∧ w'.ownsRow w1.heap.size 33 6 (.slice av ts.length cv) ts.length (Tk.tkR ts)) ∧
      Hid (∀ w1 : World, Calls Try.prog 11 #[.string s] w1 fun e w' => ∃ av cv, e = .returned (.tuple #[.slice av ts.length cv, .agg #[.int .i64 fe, .int .i64 fa]]) ∧ Below w1.heap.size w1 w' ∧ w'.ownsRow w1.heap.size 33 6 (.slice av ts.length cv) ts.length (Tk.tkR ts)) := by
    rcases Nat.lt_or_ge 65536 s.data.toList.length with h | h
    · have go : ∀ (e : Ending) (w1 w' : World), Tk.R s.data.toList w1 e w' → ∃ av cv, e = .returned (.tuple #[.slice av ([] : List Tk.Tok).length cv, .agg #[.int .i64 4, .int .i64 0]]) ∧ Below w1.heap.size w1 w' ∧ w'.ownsRow w1.heap.size 33 6 (.slice av ([] : List Tk.Tok).length cv) ([] : List Tk.Tok).length (Tk.tkR []) := fun e w1 w' hr => by
        rcases hr.2 with h2 | h2
        · exact ⟨none, 0, h2.2, hr.1, World.ownsRow_nil _ _ _ _⟩
        · exact absurd h2.1 (by omega)
      exact ⟨[], 4, 0, fun w1 => (tokens_ok s w1).mono fun e w' hr => go e w1 w' hr, fun w1 => (tokens8_ok s w1).mono fun e w' hr => go e w1 w' hr⟩
    · rcases hf : Tk.frm s.data.toList 0 with ⟨er, p⟩ | ts
      · have go : ∀ (e : Ending) (w1 w' : World), Tk.R s.data.toList w1 e w' → ∃ av cv, e = .returned (.tuple #[.slice av ([] : List Tk.Tok).length cv, .agg #[.int .i64 er, .int .i64 (p : Int)]]) ∧ Below w1.heap.size w1 w' ∧ w'.ownsRow w1.heap.size 33 6 (.slice av ([] : List Tk.Tok).length cv) ([] : List Tk.Tok).length (Tk.tkR []) := fun e w1 w' hr => by
          rcases hr.2 with h2 | h2
          · exact absurd h2.1 (by omega)
          · exact ⟨none, 0, h2.2.1 er p hf, hr.1, World.ownsRow_nil _ _ _ _⟩
        exact ⟨[], er, p, fun w1 => (tokens_ok s w1).mono fun e w' hr => go e w1 w' hr, fun w1 => (tokens8_ok s w1).mono fun e w' hr => go e w1 w' hr⟩
      · have go : ∀ (e : Ending) (w1 w' : World), Tk.R s.data.toList w1 e w' → ∃ av cv, e = .returned (.tuple #[.slice av ts.length cv, .agg #[.int .i64 0, .int .i64 0]]) ∧ Below w1.heap.size w1 w' ∧ w'.ownsRow w1.heap.size 33 6 (.slice av ts.length cv) ts.length (Tk.tkR ts) := fun e w1 w' hr => by
          rcases hr.2 with h2 | h2
          · exact absurd h2.1 (by omega)
          · obtain ⟨av, cv, he, ho⟩ := h2.2.2 ts hf
            exact ⟨av, cv, he, hr.1, ho⟩
        exact ⟨ts, 0, 0, fun w1 => (tokens_ok s w1).mono fun e w' hr => go e w1 w' hr, fun w1 => (tokens8_ok s w1).mono fun e w' hr => go e w1 w' hr⟩
  clear hll hrv hnv hs
  rcases rv with _ | _ <;> rcases nv with _ | _
  all_goals
    go_enter Try.func3, Try.ntmps3
    go_upto_region 8 with (first | (go_at_call 6; refine (HRS.out _).mono ?_; rintro e w1 ⟨rfl, hb1⟩; have HB1 := Lib.hid hb1; clear hb1) | (go_at_call 7; refine (HRR.out _).mono ?_; rintro e w2 ⟨rfl, hb2⟩; have HB2 := Lib.hid (Ext.trans HB1.out hb2); clear hb2) | (go_at_call 8; refine (HNS.out _).mono ?_; rintro e w3 ⟨rfl, hb3⟩; have HB3 := Lib.hid (Ext.trans HB2.out hb3); clear hb3) | (go_at_call 9; refine (HNR.out _).mono ?_; rintro e w4 ⟨rfl, hb4⟩; have HB4 := Lib.hid (Ext.trans HB3.out hb4); clear hb4) | (go_at_call 10; refine (HTA.out _).mono ?_; rintro e w5 ⟨av, cv, rfl, hb5, ho5⟩; have HB5 := Lib.hid (Ext.alloc (Ext.trans HB4.out hb5) (.cells #[.int .i64 fe, .int .i64 fa] 26)); have HO5 := Lib.hid (Tk.own_keepT ho5 (Ext.alloc (Below.refl _ _) (.cells #[.int .i64 fe, .int .i64 fa] 26))); have HF5 := Lib.hid (show Blk (w5.alloc (.cells #[.int .i64 fe, .int .i64 fa] 26)) w5.heap.size 26 #[.int .i64 fe, .int .i64 fa] from Blk.new _ _ _); clear hb5 ho5) | (go_at_call 11; refine (HTB.out _).mono ?_; rintro e w6 ⟨bv, dv, rfl, hb6, ho6⟩; have HB6 := Lib.hid (Ext.alloc (Ext.trans HB5.out hb6) (.cells #[.int .i64 fe, .int .i64 fa] 26)); have HO6 := Lib.hid (Tk.own_keepT ho6 (Ext.alloc (Below.refl _ _) (.cells #[.int .i64 fe, .int .i64 fa] 26))); have HP6 := Lib.hid (Tk.own_keepT (Tk.own_keepT HO5.out hb6) (Ext.alloc (Below.refl _ _) (.cells #[.int .i64 fe, .int .i64 fa] 26))); have a0 := ((HF5.out.keep hb6).alloc (.cells #[.int .i64 fe, .int .i64 fa] 26)).cell 0; have a1 := ((HF5.out.keep hb6).alloc (.cells #[.int .i64 fe, .int .i64 fa] 26)).cell 1; have b0 := (Blk.new w6 26 #[.int .i64 fe, .int .i64 fa]).cell 0; have b1 := (Blk.new w6 26 #[.int .i64 fe, .int .i64 fa]).cell 1; clear hb6 ho6))
    have hbd : ts.length ≤ 9223372036854775807 := Tk.own_max HO6.out
    go_loopw [42] (fun i wr => ∃ k : Nat, k ≤ ts.length ∧ i = .int .i64 (k : Int) ∧ Hid (Below w.heap.size w wr ∧ (∃ B, wr.ownsRow B 33 6 (.slice av ts.length cv) ts.length (Tk.tkR ts)) ∧ ∃ B, wr.ownsRow B 33 6 (.slice bv ts.length dv) ts.length (Tk.tkR ts))) (fun i wr => ts.length - (intOf i).toNat)
    case atStart => exact ⟨0, Nat.zero_le _, rfl, HB6.out, ⟨_, HP6.out⟩, ⟨_, HO6.out⟩⟩
    case round =>
      obtain ⟨k, hk, rfl, hst⟩ := hrel
      by_cases hlt : k < ts.length
      · obtain ⟨t, ht⟩ : ∃ t, ts[k]? = some t := ⟨_, List.getElem?_eq_getElem hlt⟩
        obtain ⟨_, ⟨B1, hr1⟩, ⟨B2, hr2⟩⟩ := hst.out
        have HN : Hid (Below w.heap.size w wr.drew ∧ (∃ B, wr.drew.ownsRow B 33 6 (.slice av ts.length cv) ts.length (Tk.tkR ts)) ∧ ∃ B, wr.drew.ownsRow B 33 6 (.slice bv ts.length dv) ts.length (Tk.tkR ts)) :=
          ⟨Ext.drew hst.out.1, ⟨B1, Tk.own_keepT hr1 (Ext.drew (Below.refl _ _))⟩, ⟨B2, Tk.own_keepT hr2 (Ext.drew (Below.refl _ _))⟩⟩
        obtain ⟨g1, hg1, p0, p1, p2, p3, p4, p5⟩ := Tk.row_at hr1 ht
        obtain ⟨g2, hg2, q0, q1, q2, q3, q4, q5⟩ := Tk.row_at hr2 ht
        subst hg1 hg2
        have HK := Lib.hid hlt
        clear ht hr1 hr2 hst
        go_wp2
        go_region
        go_wp2
        go_round
        case rel => exact ⟨k + 1, HK.out, by go_num, HN⟩
        case measure => have := HK.out; simp [intOf]; omega
      · obtain rfl : k = ts.length := by omega
        go_wp2
        go_ret
        exact ⟨rfl, hst.out.1⟩
end Go.Proofs.Ytkmcniaaecijdaa
