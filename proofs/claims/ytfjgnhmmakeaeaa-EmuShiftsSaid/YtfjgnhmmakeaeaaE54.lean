/- EmuShifts: its ways, joined. -/
import Derived.Test.YtfjgnhmmakeaeaaE53a
import Derived.Test.YtfjgnhmmakeaeaaE53b
import Derived.Test.YtfjgnhmmakeaeaaE53c
import Derived.Test.YtfjgnhmmakeaeaaE53d
import Derived.Test.YtfjgnhmmakeaeaaE53e
import Derived.Test.YtfjgnhmmakeaeaaE53f
namespace Go.Proofs.Ytfjgnhmmakeaeaa
open Go.RowKit
set_option linter.unusedVariables false
set_option linter.unusedSimpArgs false
set_option maxRecDepth 100000
open Mc
theorem doI_out (op d : Int) (s : St) (h : 14 ≤ op ∧ op ≤ 18) : (doI [] ⟨op, d, 0, 0⟩ s).out = s.out := by
  unfold doI
  show (exec [] op d.toNat 0 0 _ _).1.out = _
  rw [exec_sh _ _ _ _ _ _ _ h]; rfl
theorem runL_out : ∀ (l : List U.In) (s : St), (∀ i ∈ l, (14 ≤ i.op ∧ i.op ≤ 18) ∧ i.s = 0 ∧ i.imm = 0) → (runL [] l s).out = s.out
  | [], s, _ => rfl
  | ⟨op, d, e, m⟩ :: l, s, h => by
    obtain ⟨h1, h2, h3⟩ := h _ (List.mem_cons_self ..)
    simp only at h1 h2 h3
    subst h2; subst h3
    show (runL [] l (doI [] ⟨op, d, 0, 0⟩ s)).out = _
    rw [runL_out l _ (fun i hi => h i (List.mem_cons_of_mem _ hi)), doI_out op d s h1]
theorem up_ops {n : Nat} (hn : n = 1 ∨ n = 2 ∨ n = 4) : ∀ i ∈ upS n, (14 ≤ i.op ∧ i.op ≤ 18) ∧ i.s = 0 ∧ i.imm = 0 := by
  rcases hn with rfl | rfl | rfl <;> decide
theorem dn_ops {f : Int} (hf : f = 16 ∨ f = 17) {n : Nat} (hn : n = 1 ∨ n = 2 ∨ n = 4) : ∀ i ∈ dnS f n, (14 ≤ i.op ∧ i.op ≤ 18) ∧ i.s = 0 ∧ i.imm = 0 := by
  rcases hf with rfl | rfl <;> rcases hn with rfl | rfl | rfl <;> decide
theorem sh_out (l : List U.In) (x0 x1 x2 x3 : Int) (hl : ∀ i ∈ l, i.Ok ∧ i.Tidy ∧ Plain i) (hn : l.length ≤ 900) (hsz : (U.encs l).length ≤ 65534) (ho : ∀ i ∈ l, (14 ≤ i.op ∧ i.op ≤ 18) ∧ i.s = 0 ∧ i.imm = 0) (F : St) (hF : Mc.ends (U.encs (l ++ [haltI])) [] 1000 x0 x1 x2 x3 0 0 0 0 false false false false 0 [] = F) : F.out = [] := by
  have := ends_run l x0 x1 x2 x3 hl hn hsz F _ rfl hF
  subst this
  show (runL [] l (rg x0 x1 x2 x3)).out = []
  rw [runL_out l _ ho]; rfl
theorem sh_contract (l : List U.In) (n : Nat) (x0 x1 x2 x3 : Int) (hw : W4 x0 x1 x2 x3) (hlen : l.length = n) (hn4 : n ≤ 4) (hl : ∀ i ∈ l, i.Ok ∧ i.Tidy ∧ Plain i) (hsz : (U.encs (l ++ [haltI])).length ≤ 65536) (F : St) (hF : Mc.ends (U.encs (l ++ [haltI])) [] 1000 x0 x1 x2 x3 0 0 0 0 false false false false 0 [] = F) (h1 : F.how = 1) (hout : F.out = []) :
    ∀ (B : Nat) (o : Value) (wr : World), wr.ownsRow B 43 4 o n (insR l) → B ≤ wr.heap.size → Calls Try.prog 23 #[stV x0 x1 x2 x3 0 0 0 0 false false false false 0 (.slice none 0 0), o] wr fun e w' => ∃ oa oc xa xn xc, e = .returned (.tuple #[ranV F (.slice oa 0 oc) (.slice xa xn xc), .bool true]) ∧ wr.grownBy w' o.ownBlock := by
  intro B o wr own hB
  obtain ⟨h0, h2, h3, h4⟩ := hw
  have hwr : Mc.wr [x0, x1, x2, x3, 0, 0, 0, 0] 0 [] = 0 := by
    unfold Mc.wr
    rw [if_neg (by simp), if_pos]
    rw [List.all_eq_true]
    intro y hy
    have : Wd y := by
      simp only [List.append_nil, List.mem_append, List.mem_cons, List.not_mem_nil, or_false] at hy
      unfold Wd
      rcases hy with (rfl | rfl | rfl | rfl | rfl | rfl | rfl | rfl) | rfl <;> omega
    unfold Mc.inr
    exact decide_eq_true this
  refine (runs_ok o n l B x0 x1 x2 x3 0 0 0 0 0 false false false false (.slice none 0 0) 0 [] F wr hlen (by omega) (fun i hi => (hl i hi).1) own hB (fun _ _ => Rd.nil _ _) hwr hF h1 hsz).mono ?_
  rintro e w' ⟨oa, oc, xa, xn, xc, rfl, _, _, hg⟩
  rw [hout]
  exact ⟨oa, oc, xa, _, xc, rfl, hg⟩
set_option maxHeartbeats 4000000 in
theorem shifts_none (a v : Int) (s : Bool) (w : World) (h1 : (v != 16) = true) (h2 : (v != 32) = true) (h3 : (v != 64) = true) :
    Calls Try.prog 9 #[.int .u64 a, .int .i64 v, .bool s] w fun e w' => e = .returned (.bool true) ∧ Below w.heap.size w w' := by
  go_enter Try.func9, Try.ntmps9
  go_wp2_with (first | (go_at_call 20; refine (alive3 _).mono ?_; rintro e w1 ⟨rfl, hb1⟩; have HB1 := Lib.hid hb1; clear hb1))
  go_ret
  exact ⟨rfl, HB1.out⟩
theorem cs_ok (v : Int) (n : Nat) (a x0 x1 x2 x3 : Int) (hv : W.ok v) (hU : W.U a) (hn : W.nw v = n) (hn4 : n ≤ 4) (hs : W.split n (W.cut v a) = [x0, x1, x2, x3].take n) :
    ∀ w1 : World, Calls Try.prog 27 #[.int .u64 a, .int .i64 v] w1 fun e w' => ∃ xa xc, e = .returned (.tuple #[.slice xa n xc, .int .i64 0]) ∧ Rd w' 1 (.slice xa n xc) n (([x0, x1, x2, x3].take n).map (Value.int .i64)) ∧ Below w1.heap.size w1 w' := by
  intro w1
  refine (split_ok a v hv hU w1).mono ?_
  rintro e w' ⟨u, rfl, hown, hb⟩
  rw [hn, hs] at hown
  obtain ⟨xa, xc, hu, hown⟩ := own_slice2 hown
  subst hu
  exact ⟨xa, xc, rfl, Rd.of_owns hown (by unfold maxLen; omega), hb⟩
theorem shifts_ok (a v : Int) (s : Bool) (w : World) (hU : W.U a) :
    Calls Try.prog 9 #[.int .u64 a, .int .i64 v, .bool s] w fun e w' => e = .returned (.bool true) ∧ Below w.heap.size w w' := by
  by_cases hv : v = 16 ∨ v = 32 ∨ v = 64
  · have hvo : W.ok v := by rcases hv with rfl | rfl | rfl <;> simp [W.ok]
    obtain ⟨X, hX⟩ : ∃ X, X = W.cut v a := ⟨_, rfl⟩
    have hXb : 0 ≤ X ∧ X < W.md v := by
      rw [hX]; unfold W.cut
      have := W.md_pos v
      exact ⟨Int.emod_nonneg _ (by omega), Int.emod_lt_of_pos _ this⟩
    have p2 : (65536 : Int) ^ 2 = 4294967296 := by decide
    have p3 : (65536 : Int) ^ 3 = 281474976710656 := by decide
    have hCL := fun w1 : World => (shl_ok a 1 v hvo hU (by decide) w1).mono (R' := fun e w' => e = .returned (.tuple #[.int .u64 (W.shl v a 1), .int .i64 0]) ∧ Below w1.heap.size w1 w') (fun e w' h => ⟨h.1, by rw [h.2]; exact Ext.alloc (Below.refl _ _) _⟩)
    have hCM := fun (s : Bool) (w1 : World) => (shr_any a 1 v s hvo hU (by decide) w1).mono (R' := fun e w' => e = .returned (.tuple #[.int .u64 (W.shr v s a 1), .int .i64 0]) ∧ Below w1.heap.size w1 w') (fun e w' h => ⟨h.1, by rw [← h.2]; exact Below.refl _ _⟩)
    rcases hv with rfl | rfl | rfl
    · rw [W.md16] at hXb
      have hw : W4 (W.dn 0 X % 65536) 0 0 0 := ⟨⟨by omega, by omega⟩, by omega, by omega, by omega⟩
      have hc : Cs 16 1 (W.cut 16 a) (W.dn 0 X % 65536) 0 0 0 := .inl ⟨rfl, rfl, by rw [← hX, W.dn_zero]; omega⟩
      have hn : (1 : Nat) = 1 ∨ (1 : Nat) = 2 ∨ (1 : Nat) = 4 := .inl rfl
      have hcs := cs_ok 16 1 a (W.dn 0 X % 65536) 0 0 0 hvo hU rfl (by omega) (by rw [← hX]; rfl)
      obtain ⟨f1, f2, f3, f4⟩ := up_law hc hw _ rfl
      cases s
      · obtain ⟨g1, g2, g3, g4⟩ := dn_law false 16 rfl hc hw _ rfl
        exact shifts_ata 1 a _ 0 0 0 _ _ _ _ w hn rfl hcs (sh_contract _ 1 _ 0 0 0 hw rfl (by omega) (up_in hn) (by decide) _ rfl f1 (sh_out _ _ 0 0 0 (up_in hn) (by decide) (by decide) (up_ops hn) _ rfl)) (sh_contract _ 1 _ 0 0 0 hw rfl (by omega) (dn_in (.inl rfl) hn) (by decide) _ rfl g1 (sh_out _ _ 0 0 0 (dn_in (.inl rfl) hn) (by decide) (by decide) (dn_ops (.inl rfl) hn) _ rfl)) ⟨f2, f3⟩ ⟨g2, g3⟩ hCL (hCM false) f4 g4 hw.1.1
      · obtain ⟨g1, g2, g3, g4⟩ := dn_law true 17 rfl hc hw _ rfl
        exact shifts_atd 1 a _ 0 0 0 _ _ _ _ w hn rfl hcs (sh_contract _ 1 _ 0 0 0 hw rfl (by omega) (up_in hn) (by decide) _ rfl f1 (sh_out _ _ 0 0 0 (up_in hn) (by decide) (by decide) (up_ops hn) _ rfl)) (sh_contract _ 1 _ 0 0 0 hw rfl (by omega) (dn_in (.inr rfl) hn) (by decide) _ rfl g1 (sh_out _ _ 0 0 0 (dn_in (.inr rfl) hn) (by decide) (by decide) (dn_ops (.inr rfl) hn) _ rfl)) ⟨f2, f3⟩ ⟨g2, g3⟩ hCL (hCM true) f4 g4 hw.1.1
    · rw [W.md32] at hXb
      have hw : W4 (W.dn 0 X % 65536) (W.dn 1 X % 65536) 0 0 := ⟨⟨by omega, by omega⟩, ⟨by omega, by omega⟩, by omega, by omega⟩
      have hc : Cs 32 2 (W.cut 32 a) (W.dn 0 X % 65536) (W.dn 1 X % 65536) 0 0 := .inr (.inl ⟨rfl, rfl, by rw [← hX, W.dn_zero]; unfold W.dn; rw [Int.pow_succ, Int.pow_zero, Int.one_mul]; omega⟩)
      have hn : (2 : Nat) = 1 ∨ (2 : Nat) = 2 ∨ (2 : Nat) = 4 := .inr (.inl rfl)
      have hcs := cs_ok 32 2 a (W.dn 0 X % 65536) (W.dn 1 X % 65536) 0 0 hvo hU rfl (by omega) (by rw [← hX]; rfl)
      obtain ⟨f1, f2, f3, f4⟩ := up_law hc hw _ rfl
      cases s
      · obtain ⟨g1, g2, g3, g4⟩ := dn_law false 16 rfl hc hw _ rfl
        exact shifts_atb 2 a _ _ 0 0 _ _ _ _ w hn rfl hcs (sh_contract _ 2 _ _ 0 0 hw rfl (by omega) (up_in hn) (by decide) _ rfl f1 (sh_out _ _ _ 0 0 (up_in hn) (by decide) (by decide) (up_ops hn) _ rfl)) (sh_contract _ 2 _ _ 0 0 hw rfl (by omega) (dn_in (.inl rfl) hn) (by decide) _ rfl g1 (sh_out _ _ _ 0 0 (dn_in (.inl rfl) hn) (by decide) (by decide) (dn_ops (.inl rfl) hn) _ rfl)) ⟨f2, f3⟩ ⟨g2, g3⟩ hCL (hCM false) f4 g4 hw.1.1
      · obtain ⟨g1, g2, g3, g4⟩ := dn_law true 17 rfl hc hw _ rfl
        exact shifts_ate 2 a _ _ 0 0 _ _ _ _ w hn rfl hcs (sh_contract _ 2 _ _ 0 0 hw rfl (by omega) (up_in hn) (by decide) _ rfl f1 (sh_out _ _ _ 0 0 (up_in hn) (by decide) (by decide) (up_ops hn) _ rfl)) (sh_contract _ 2 _ _ 0 0 hw rfl (by omega) (dn_in (.inr rfl) hn) (by decide) _ rfl g1 (sh_out _ _ _ 0 0 (dn_in (.inr rfl) hn) (by decide) (by decide) (dn_ops (.inr rfl) hn) _ rfl)) ⟨f2, f3⟩ ⟨g2, g3⟩ hCL (hCM true) f4 g4 hw.1.1
    · rw [W.md64] at hXb
      have hw : W4 (W.dn 0 X % 65536) (W.dn 1 X % 65536) (W.dn 2 X % 65536) (W.dn 3 X % 65536) := ⟨⟨by omega, by omega⟩, ⟨by omega, by omega⟩, ⟨by omega, by omega⟩, ⟨by omega, by omega⟩⟩
      have hc : Cs 64 4 (W.cut 64 a) (W.dn 0 X % 65536) (W.dn 1 X % 65536) (W.dn 2 X % 65536) (W.dn 3 X % 65536) := .inr (.inr ⟨rfl, rfl, by rw [← hX, W.dn_zero]; unfold W.dn; rw [p2, p3, Int.pow_succ, Int.pow_zero, Int.one_mul]; omega⟩)
      have hn : (4 : Nat) = 1 ∨ (4 : Nat) = 2 ∨ (4 : Nat) = 4 := .inr (.inr rfl)
      have hcs := cs_ok 64 4 a (W.dn 0 X % 65536) (W.dn 1 X % 65536) (W.dn 2 X % 65536) (W.dn 3 X % 65536) hvo hU rfl (by omega) (by rw [← hX]; rfl)
      obtain ⟨f1, f2, f3, f4⟩ := up_law hc hw _ rfl
      cases s
      · obtain ⟨g1, g2, g3, g4⟩ := dn_law false 16 rfl hc hw _ rfl
        exact shifts_atc 4 a _ _ _ _ _ _ _ _ w hn rfl hcs (sh_contract _ 4 _ _ _ _ hw rfl (by omega) (up_in hn) (by decide) _ rfl f1 (sh_out _ _ _ _ _ (up_in hn) (by decide) (by decide) (up_ops hn) _ rfl)) (sh_contract _ 4 _ _ _ _ hw rfl (by omega) (dn_in (.inl rfl) hn) (by decide) _ rfl g1 (sh_out _ _ _ _ _ (dn_in (.inl rfl) hn) (by decide) (by decide) (dn_ops (.inl rfl) hn) _ rfl)) ⟨f2, f3⟩ ⟨g2, g3⟩ hCL (hCM false) f4 g4 hw.1.1
      · obtain ⟨g1, g2, g3, g4⟩ := dn_law true 17 rfl hc hw _ rfl
        exact shifts_atf 4 a _ _ _ _ _ _ _ _ w hn rfl hcs (sh_contract _ 4 _ _ _ _ hw rfl (by omega) (up_in hn) (by decide) _ rfl f1 (sh_out _ _ _ _ _ (up_in hn) (by decide) (by decide) (up_ops hn) _ rfl)) (sh_contract _ 4 _ _ _ _ hw rfl (by omega) (dn_in (.inr rfl) hn) (by decide) _ rfl g1 (sh_out _ _ _ _ _ (dn_in (.inr rfl) hn) (by decide) (by decide) (dn_ops (.inr rfl) hn) _ rfl)) ⟨f2, f3⟩ ⟨g2, g3⟩ hCL (hCM true) f4 g4 hw.1.1
  · exact shifts_none a v s w (by simp; omega) (by simp; omega) (by simp; omega)
end Go.Proofs.Ytfjgnhmmakeaeaa
