/- EmuCarries: its ways, joined. -/
import Derived.Test.YtfjgnhmmakeaeaaE57b
namespace Go.Proofs.Ytfjgnhmmakeaeaa
open Go.RowKit
set_option linter.unusedVariables false
set_option linter.unusedSimpArgs false
set_option maxRecDepth 100000
open Mc
theorem ca_contract (l : List U.In) (n : Nat) (x0 x1 y0 y1 : Int) (bx : B2 x0 x1) (hy : B2 y0 y1) (hlen : l.length = n) (hn4 : n ≤ 4) (hl : ∀ i ∈ l, i.Ok ∧ i.Tidy ∧ Plain i) (hsz : (U.encs (l ++ [haltI])).length ≤ 65536) (F : St) (hF : Mc.ends (U.encs (l ++ [haltI])) [] 1000 x0 x1 y0 y1 0 0 0 0 false false false false 0 [] = F) (h1 : F.how = 1) (hout : F.out = []) :
    ∀ (B : Nat) (o : Value) (wr : World), wr.ownsRow B 43 4 o n (insR l) → B ≤ wr.heap.size → Calls Try.prog 23 #[stV x0 x1 y0 y1 0 0 0 0 false false false false 0 (.slice none 0 0), o] wr fun e w' => ∃ oa oc xa xn xc, e = .returned (.tuple #[ranV F (.slice oa 0 oc) (.slice xa xn xc), .bool true]) ∧ wr.grownBy w' o.ownBlock := by
  intro B o wr own hB
  obtain ⟨h0, h2⟩ := bx
  obtain ⟨h3, h4⟩ := hy
  have hwr : Mc.wr [x0, x1, y0, y1, 0, 0, 0, 0] 0 [] = 0 := by
    unfold Mc.wr
    rw [if_neg (by simp), if_pos]
    rw [List.all_eq_true]
    intro y hy
    have : Wd y := by
      simp only [List.append_nil, List.mem_append, List.mem_cons, List.not_mem_nil, or_false] at hy
      unfold Wd
      rcases hy with (rfl | rfl | rfl | rfl | rfl | rfl | rfl | rfl) | rfl <;> omega
    unfold Mc.inr
    exact decide_eq_true this
  refine (runs_ok o n l B x0 x1 y0 y1 0 0 0 0 0 false false false false (.slice none 0 0) 0 [] F wr hlen (by omega) (fun i hi => (hl i hi).1) own hB (fun _ _ => Rd.nil _ _) hwr hF h1 hsz).mono ?_
  rintro e w' ⟨oa, oc, xa, xn, xc, rfl, _, _, hg⟩
  rw [hout]
  exact ⟨oa, oc, xa, _, xc, rfl, hg⟩
set_option maxHeartbeats 4000000 in
theorem carries_none (a b v : Int) (w : World) (h1 : (v != 16) = true) (h2 : (v != 32) = true) :
    Calls Try.prog 10 #[.int .u64 a, .int .u64 b, .int .i64 v] w fun e w' => e = .returned (.bool true) ∧ Below w.heap.size w w' := by
  go_enter Try.func10, Try.ntmps10
  go_wp2_with (first | (go_at_call 20; refine (alive3 _).mono ?_; rintro e w1 ⟨rfl, hb1⟩; have HB1 := Lib.hid hb1; clear hb1))
  go_ret
  exact ⟨rfl, HB1.out⟩
theorem cs2_ok (v : Int) (n : Nat) (a x0 x1 : Int) (hv : W.ok v) (hU : W.U a) (hn : W.nw v = n) (hn4 : n ≤ 4) (hs : W.split n (W.cut v a) = [x0, x1].take n) :
    ∀ w1 : World, Calls Try.prog 27 #[.int .u64 a, .int .i64 v] w1 fun e w' => ∃ xa xc, e = .returned (.tuple #[.slice xa n xc, .int .i64 0]) ∧ Rd w' 1 (.slice xa n xc) n (([x0, x1].take n).map (Value.int .i64)) ∧ Below w1.heap.size w1 w' := by
  intro w1
  refine (split_ok a v hv hU w1).mono ?_
  rintro e w' ⟨u, rfl, hown, hb⟩
  rw [hn, hs] at hown
  obtain ⟨xa, xc, hu, hown⟩ := own_slice2 hown
  subst hu
  exact ⟨xa, xc, rfl, Rd.of_owns hown (by unfold maxLen; omega), hb⟩
theorem jn_ok (F : St) (n : Nat) (x : Int) (h1 : W.joinE ([F.r 0, F.r 1].take n) = 0) (h2 : W.joinV ([F.r 0, F.r 1].take n) = x) : ∀ (v : Value) (w1 : World), Rd w1 1 v n (([F.r 0, F.r 1].take n).map (Value.int .i64)) → Calls Try.prog 28 #[v] w1 fun e w' => e = .returned (.tuple #[.int .u64 x, .int .i64 0]) ∧ w1 = w' := fun v w1 hr => by
  have := join_any v n _ w1 hr
  rw [h1, h2] at this; exact this
theorem carries_ok (a b v : Int) (w : World) (hU : W.U a) (hV : W.U b) :
    Calls Try.prog 10 #[.int .u64 a, .int .u64 b, .int .i64 v] w fun e w' => e = .returned (.bool true) ∧ Below w.heap.size w w' := by
  have p5 : ((5, 6) : Int × Int) ∈ prs := by decide
  have p7 : ((7, 8) : Int × Int) ∈ prs := by decide
  have p12 : ((12, 13) : Int × Int) ∈ prs := by decide
  obtain ⟨X, hX⟩ : ∃ X, X = W.cut v a := ⟨_, rfl⟩
  obtain ⟨Y, hY⟩ : ∃ Y, Y = W.cut v b := ⟨_, rfl⟩
  have hXb : 0 ≤ X ∧ X < W.md v := by
    rw [hX]; unfold W.cut
    have := W.md_pos v
    exact ⟨Int.emod_nonneg _ (by omega), Int.emod_lt_of_pos _ this⟩
  have hYb : 0 ≤ Y ∧ Y < W.md v := by
    rw [hY]; unfold W.cut
    have := W.md_pos v
    exact ⟨Int.emod_nonneg _ (by omega), Int.emod_lt_of_pos _ this⟩
  by_cases hv : v = 16
  · subst hv
    have hvo : W.ok 16 := by simp [W.ok]
    rw [W.md16] at hXb hYb
    have bx : B2 (W.dn 0 X % 65536) 0 := ⟨⟨by omega, by omega⟩, by omega⟩
    have hy : B2 (W.dn 0 Y % 65536) 0 := ⟨⟨by omega, by omega⟩, by omega⟩
    have cx : Cw 16 1 (W.cut 16 a) (W.dn 0 X % 65536) 0 := .inl ⟨rfl, rfl, by rw [← hX, W.dn_zero]; omega⟩
    have cy : Cw 16 1 (W.cut 16 b) (W.dn 0 Y % 65536) 0 := .inl ⟨rfl, rfl, by rw [← hY, W.dn_zero]; omega⟩
    obtain ⟨a1, a2, a3, a4, _⟩ := ca_law p5 cx cy bx hy _ rfl
    obtain ⟨b1, b2, b3, b4, _⟩ := ca_law p7 cx cy bx hy _ rfl
    obtain ⟨c1, c2, c3, c4, c5⟩ := ca_law p12 cx cy bx hy _ rfl
    obtain ⟨c6, c7, c8⟩ := c5 rfl
    exact carries_at16 a b _ 0 _ 0 _ _ _ _ _ _ w (cs2_ok 16 1 a _ 0 hvo hU rfl (by omega) (by rw [← hX]; rfl)) (cs2_ok 16 1 b _ 0 hvo hV rfl (by omega) (by rw [← hY]; rfl))
      (ca_contract _ 1 _ 0 _ 0 bx hy rfl (by omega) (ca_in p5 (.inl rfl)) (by decide) _ rfl a1 a2) (ca_contract _ 1 _ 0 _ 0 bx hy rfl (by omega) (ca_in p7 (.inl rfl)) (by decide) _ rfl b1 b2) (ca_contract _ 1 _ 0 _ 0 bx hy rfl (by omega) (ca_in p12 (.inl rfl)) (by decide) _ rfl c1 c2)
      (jn_ok _ 1 _ a3 a4) (jn_ok _ 1 _ b3 b4) (jn_ok _ 1 _ c3 c4) (fun w1 => add_ok a b 16 hvo hU hV w1) (fun w1 => sub_ok a b 16 hvo hU hV w1) (fun w1 => cut_ok a 16 hvo hU w1)
      (fun w1 => by have := less_any a b 16 false hvo hU hV w1; rw [← c6] at this; exact this) (fun w1 => by have := less_any a b 16 true hvo hU hV w1; rw [← c7] at this; exact this) (by rw [c8]; rfl)
  by_cases hv2 : v = 32
  · subst hv2
    have hvo : W.ok 32 := by simp [W.ok]
    rw [W.md32] at hXb hYb
    have bx : B2 (W.dn 0 X % 65536) (W.dn 1 X % 65536) := ⟨⟨by omega, by omega⟩, by omega, by omega⟩
    have hy : B2 (W.dn 0 Y % 65536) (W.dn 1 Y % 65536) := ⟨⟨by omega, by omega⟩, by omega, by omega⟩
    have cx : Cw 32 2 (W.cut 32 a) (W.dn 0 X % 65536) (W.dn 1 X % 65536) := .inr ⟨rfl, rfl, by rw [← hX, W.dn_zero]; unfold W.dn; rw [Int.pow_succ, Int.pow_zero, Int.one_mul]; omega⟩
    have cy : Cw 32 2 (W.cut 32 b) (W.dn 0 Y % 65536) (W.dn 1 Y % 65536) := .inr ⟨rfl, rfl, by rw [← hY, W.dn_zero]; unfold W.dn; rw [Int.pow_succ, Int.pow_zero, Int.one_mul]; omega⟩
    obtain ⟨a1, a2, a3, a4, _⟩ := ca_law p5 cx cy bx hy _ rfl
    obtain ⟨b1, b2, b3, b4, _⟩ := ca_law p7 cx cy bx hy _ rfl
    obtain ⟨c1, c2, c3, c4, c5⟩ := ca_law p12 cx cy bx hy _ rfl
    obtain ⟨c6, c7, c8⟩ := c5 rfl
    exact carries_at32 a b _ _ _ _ _ _ _ _ _ _ w (cs2_ok 32 2 a _ _ hvo hU rfl (by omega) (by rw [← hX]; rfl)) (cs2_ok 32 2 b _ _ hvo hV rfl (by omega) (by rw [← hY]; rfl))
      (ca_contract _ 2 _ _ _ _ bx hy rfl (by omega) (ca_in p5 (.inr rfl)) (by decide) _ rfl a1 a2) (ca_contract _ 2 _ _ _ _ bx hy rfl (by omega) (ca_in p7 (.inr rfl)) (by decide) _ rfl b1 b2) (ca_contract _ 2 _ _ _ _ bx hy rfl (by omega) (ca_in p12 (.inr rfl)) (by decide) _ rfl c1 c2)
      (jn_ok _ 2 _ a3 a4) (jn_ok _ 2 _ b3 b4) (jn_ok _ 2 _ c3 c4) (fun w1 => add_ok a b 32 hvo hU hV w1) (fun w1 => sub_ok a b 32 hvo hU hV w1) (fun w1 => cut_ok a 32 hvo hU w1)
      (fun w1 => by have := less_any a b 32 false hvo hU hV w1; rw [← c6] at this; exact this) (fun w1 => by have := less_any a b 32 true hvo hU hV w1; rw [← c7] at this; exact this) (by rw [c8]; rfl)
  · exact carries_none a b v w (by simp; omega) (by simp; omega)
end Go.Proofs.Ytfjgnhmmakeaeaa
