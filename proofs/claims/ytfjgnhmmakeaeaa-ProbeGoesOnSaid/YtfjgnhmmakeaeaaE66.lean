/- Walk of probe.Until. -/
import Derived.Test.YtfjgnhmmakeaeaaE62
import Derived.Test.YtfjgnhmmakeaeaaE59
namespace Go.Proofs.Ytfjgnhmmakeaeaa
open Go.RowKit
set_option linter.unusedVariables false
set_option linter.unusedSimpArgs false
set_option maxRecDepth 100000
open Mc
theorem rdB_heap {w w' : World} {B : Nat} {v : Value} {n : Nat} {cs : List Value} (h : RdB w B v n cs) (hb : ∀ b, b < B → w'.heap[b]? = w.heap[b]?) : RdB w' B v n cs := by
  obtain ⟨⟨h1, h2, a, cap, hv, hc, hr⟩, hB⟩ := h
  refine ⟨⟨h1, h2, a, cap, hv, hc, fun hne => ?_⟩, hB⟩
  obtain ⟨b, off, ha, hj⟩ := hr hne
  have hn : 0 < n := (by rcases Nat.eq_zero_or_pos n with h | h; exact absurd (List.eq_nil_of_length_eq_zero (by omega)) hne; exact h)
  have hlt : b < B := hB hn ⟨b, off, none⟩ n cap (by rw [hv, ha])
  exact ⟨b, off, ha, fun j u hu => by rw [← hj j u hu]; simp only [World.cell?]; rw [hb b hlt]⟩
set_option maxHeartbeats 4000000 in
/-- slices.Index over numbers: whether it is there. -/
theorem index_ok (v : Value) (n : Nat) (xs : List Int) (a : Int) (w : World) (h : Rd w 1 v n (xs.map (Value.int .i64))) :
    Calls Try.prog 73 #[v, .int .i64 a] w fun e w' => ∃ i : Int, e = .returned (.int .i64 i) ∧ (-1 ≤ i ∧ i < 9223372036854775807) ∧ (0 ≤ i ↔ a ∈ xs) ∧ Below w.heap.size w w' := by
  obtain ⟨hl, hm, sa, sc, rfl, hcap, hcell⟩ := h.ints
  have hmx : n ≤ 9223372036854775807 := by unfold maxLen at hm; omega
  have HC := Lib.hid hcell; have HLN := Lib.hid hl
  clear h hcell hl hm
  go_enter Try.func73, Try.ntmps73
  go_wp2
  go_loop [5, 8] (fun _ i => ∃ k : Nat, k ≤ n ∧ i = .int .i64 (k : Int) ∧ Hid (∀ j, j < k → xs.getD j 0 ≠ a)) (fun _ i => n - (intOf i).toNat)
  case atStart => exact ⟨0, Nat.zero_le _, rfl, fun j hj => absurd hj (Nat.not_lt_zero _)⟩
  case round =>
    obtain ⟨k, hk, rfl, hno⟩ := hrel
    by_cases hlt : k < n
    · obtain ⟨b, off, rfl, hd⟩ := HC.out (by omega)
      have ck := hd k hlt
      obtain ⟨X, hX⟩ : ∃ X, X = xs.getD k 0 := ⟨_, rfl⟩
      rw [← hX] at ck
      have HX := Lib.hid hX
      clear hd hX HC
      by_cases hx : a = X
      · have hx2 : (a == X) = true := by simpa using hx
        have HA := Lib.hid hx
        clear hx
        go_wp2
        go_ret
        exact ⟨_, rfl, ⟨by omega, by omega⟩, ⟨fun _ => by rw [HA.out, HX.out, List.getD_eq_getElem?_getD, List.getElem?_eq_getElem (by rw [HLN.out]; exact hlt)]; exact List.getElem_mem _, fun _ => by omega⟩, Below.refl _ _⟩
      · have hx2 : (a == X) = false := by simpa using hx
        have HA := Lib.hid hx
        clear hx
        go_wp2
        go_round
        case rel => exact ⟨k + 1, by omega, by go_num, fun j hj => by
          rcases Nat.lt_or_ge j k with h | h
          · exact hno.out j h
          · have : j = k := by omega
            rw [this, ← HX.out]; exact fun e => HA.out e.symm⟩
        case measure => (simp [intOf]; try omega)
    · go_wp2
      go_ret
      refine ⟨_, rfl, ⟨by omega, by omega⟩, ⟨fun h => absurd h (by decide), fun h => ?_⟩, Below.refl _ _⟩
      exfalso
      obtain ⟨j, hj, he⟩ := List.getElem_of_mem h
      have := hno.out j (by have := HLN.out; omega)
      rw [List.getD_eq_getElem?_getD, List.getElem?_eq_getElem hj] at this
      exact this he
set_option maxHeartbeats 4000000 in
theorem contains_ok (v : Value) (n : Nat) (xs : List Int) (a : Int) (w : World) (h : Rd w 1 v n (xs.map (Value.int .i64))) :
    Calls Try.prog 57 #[v, .int .i64 a] w fun e w' => e = .returned (.bool (xs.contains a)) ∧ Below w.heap.size w w' := by
  have CI := index_ok v n xs a w h
  obtain ⟨_, _, sa, sc, rfl, _, _⟩ := h.ints
  have HCI := Lib.hid CI
  clear CI h
  go_enter Try.func57, Try.ntmps57
  go_wp2_with (first | (go_at_call 73; refine HCI.out.mono ?_; rintro e w1 ⟨i, rfl, ⟨hi0, hi1⟩, hiff, hb1⟩; have HIF := Lib.hid hiff; have HB1 := Lib.hid hb1; clear hiff hb1))
  go_ret
  refine ⟨?_, HB1.out⟩
  congr 2
  by_cases hx : 0 ≤ i
  · simp [hx, HIF.out.1 hx]
  · simp [hx]; exact fun k => hx (HIF.out.2 k)
set_option maxHeartbeats 4000000 in
/-- The first time it only says that it was asked. -/
theorem until_first (a : Int) (bb bp : Nat) (w : World) (hb : w.cell? ⟨bb, 0, none⟩ = some (.bool false)) (hf : w.frozen? ⟨bb, 0, none⟩ = false) :
    Calls Try.prog 56 #[.int .i64 a, .pointer (some ⟨bb, 0, none⟩), .pointer (some ⟨bp, 0, none⟩)] w fun e w' => e = .returned (.bool false) ∧ w' = w.setCell ⟨bb, 0, none⟩ (.bool true) := by
  go_enter Try.func56, Try.ntmps56
  go_wp2
  go_ret
  exact ⟨rfl, rfl⟩
set_option maxHeartbeats 4000000 in
theorem until_next (a : Int) (bb bp : Nat) (pv : Value) (n : Nat) (ps : List Int) (w : World) (hb : w.cell? ⟨bb, 0, none⟩ = some (.bool true)) (hf : w.frozen? ⟨bb, 0, none⟩ = false) (hne : bp ≠ bb) (hp : w.cell? ⟨bp, 0, none⟩ = some pv)
    (CC : ∀ w1 : World, w1 = w.setCell ⟨bb, 0, none⟩ (.bool true) → Calls Try.prog 57 #[pv, .int .i64 a] w1 fun e w' => e = .returned (.bool (ps.contains a)) ∧ Below w1.heap.size w1 w') :
    Calls Try.prog 56 #[.int .i64 a, .pointer (some ⟨bb, 0, none⟩), .pointer (some ⟨bp, 0, none⟩)] w fun e w' => e = .returned (.bool (ps.contains a)) ∧ Below w.heap.size (w.setCell ⟨bb, 0, none⟩ (.bool true)) w' := by
  have HCC := Lib.hid CC
  clear CC
  have hp2 : (w.setCell ⟨bb, 0, none⟩ (.bool true)).cell? ⟨bp, 0, none⟩ = some pv := by rw [cell?_setCell_far _ hne]; exact hp
  go_enter Try.func56, Try.ntmps56
  go_wp2_with (first | (go_at_call 57; refine (HCC.out _ rfl).mono ?_; rintro e w1 ⟨rfl, hb1⟩; have HB1 := Lib.hid hb1; clear hb1))
  go_ret
  exact ⟨by simp, by simpa using HB1.out⟩
/-- What it holds: whether it was asked. -/
def eyU (ps : List Int) (np : Nat) (pv : Value) (bb bp B0 N : Nat) (h1 : bb < B0) (h2 : bp < B0) (h3 : N ≤ bp) (h4 : bp < bb) : Eyes (envU ps) B0 (fun b => b = bb) where
  Look w l g := Blk w bb 4 #[.bool g] ∧ Blk w bp 22 #[pv] ∧ RdB w N pv np (ps.map (Value.int .i64)) ∧ ∀ b, l b ↔ b = bb
  keep := by
    rintro w w' l g ⟨q1, q2, q3, q4⟩ hs hb
    refine ⟨(hb bb (.inl ((q4 bb).2 rfl))).trans q1, (hb bp (.inr ⟨h2, by omega⟩)).trans q2, rdB_heap q3 (fun b hbN => hb b (.inr ⟨by omega, by omega⟩)), q4⟩
  nb := by
    rintro w l g b ⟨q1, q2, q3, q4⟩ hb
    obtain rfl := (q4 b).1 hb
    exact ⟨_, _, q1, by decide, by decide, by decide⟩
theorem stopU (ps : List Int) (np : Nat) (pv : Value) (bb bp B0 N : Nat) (h1 : bb < B0) (h2 : bp < B0) (h3 : N ≤ bp) (h4 : bp < bb) :
    Stops (eyU ps np pv bb bp B0 N h1 h2 h3 h4) 56 (fun a => #[.int .i64 a] ++ #[.pointer (some ⟨bb, 0, none⟩), .pointer (some ⟨bp, 0, none⟩)]) := by
  intro a l g wx hwd hlk hl
  obtain ⟨q1, q2, q3, q4⟩ := hlk
  have c1 : wx.cell? ⟨bb, 0, none⟩ = some (.bool g) := by rw [q1.cell]; rfl
  have c2 : wx.cell? ⟨bp, 0, none⟩ = some pv := by rw [q2.cell]; rfl
  have hbel : Bel wx.heap.size l wx (wx.setCell ⟨bb, 0, none⟩ (.bool true)) := ⟨rfl, rfl, rfl, by simp, fun b hb hn => Below.heap_setCell wx ⟨bb, 0, none⟩ _ b (fun e => hn ((q4 b).2 e))⟩
  have hlk2 : (eyU ps np pv bb bp B0 N h1 h2 h3 h4).Look (wx.setCell ⟨bb, 0, none⟩ (.bool true)) l true :=
    ⟨q1.set_ 0 _, q2.far (by show bp ≠ bb; omega) _, rdB_heap q3 (fun b hb => Below.heap_setCell wx ⟨bb, 0, none⟩ _ b (by show b ≠ bb; omega)), q4⟩
  cases g
  · refine (until_first a bb bp wx c1 (q1.frozen 0)).mono ?_
    rintro e w' ⟨he, rfl⟩
    exact ⟨he, l, hlk2, hbel, fun b hb => .inl hb⟩
  · refine (until_next a bb bp pv np ps wx c1 (q1.frozen 0) (by omega) c2 (fun w1 e => contains_ok pv np ps a w1 (e ▸ hlk2.2.2.1.1))).mono ?_
    rintro e w' ⟨he, hb⟩
    have hb2 : Below (wx.setCell ⟨bb, 0, none⟩ (.bool true)).heap.size (wx.setCell ⟨bb, 0, none⟩ (.bool true)) w' := by simpa using hb
    have hB : B0 ≤ N ∨ N ≤ B0 := by omega
    refine ⟨he, l, ⟨hlk2.1.keep hb2, hlk2.2.1.keep hb2, rdB_heap hlk2.2.2.1 (fun b hbN => hb.block b (by have := q2.lt; omega)), q4⟩, hbel.trans (Bel.of hb), fun b hb => .inl hb⟩
end Go.Proofs.Ytfjgnhmmakeaeaa
