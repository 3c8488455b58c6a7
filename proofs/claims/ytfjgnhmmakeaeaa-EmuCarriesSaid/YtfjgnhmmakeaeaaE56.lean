/- EmuCarries: what the runs come to. -/
import Derived.Test.YtfjgnhmmakeaeaaE55
import Derived.Test.YtfjgnhmmakeaeaaE51
namespace Go.Proofs.Ytfjgnhmmakeaeaa
open Go.RowKit
set_option linter.unusedVariables false
set_option linter.unusedSimpArgs false
set_option maxRecDepth 100000
open Mc
namespace Mc
/-- Width, words, number. -/
def Cw (v : Int) (n : Nat) (X x0 x1 : Int) : Prop := (v = 16 ∧ n = 1 ∧ X = x0) ∨ (v = 32 ∧ n = 2 ∧ X = x0 + 65536 * x1)
def B2 (x0 x1 : Int) : Prop := (0 ≤ x0 ∧ x0 < 65536) ∧ (0 ≤ x1 ∧ x1 < 65536)
def wantOf (p v a b : Int) : Int := if p = 5 then W.add v a b else if p = 7 then W.sub v a b else W.cut v a
/-- A run of one or two of them, register by register. -/
theorem two_runs {p q : Int} (h : (p, q) ∈ prs) {n : Nat} (hn : n = 1 ∨ n = 2) (x0 x1 y0 y1 : Int) :
    ∃ t, runL [] (caL p q n) (rg x0 x1 y0 y1) = t ∧ t.out = [] ∧
      (p = 5 → t.r 0 = W.sR x0 y0 false ∧ (n = 2 → t.r 1 = W.sR x1 y1 (W.sC x0 y0 false))) ∧
      (p = 7 → t.r 0 = W.dR x0 y0 false ∧ (n = 2 → t.r 1 = W.dR x1 y1 (W.dC x0 y0 false))) ∧
      (p = 12 → t.r 0 = x0 ∧ t.r 1 = x1 ∧ (n = 1 → t.c = W.dC x0 y0 false ∧ t.z = W.fZ (W.dR x0 y0 false) ∧ t.n = W.fN (W.dR x0 y0 false) ∧ t.v = W.dV x0 y0 false) ∧
        (n = 2 → t.c = W.dC x1 y1 (W.dC x0 y0 false) ∧ t.z = (W.fZ (W.dR x1 y1 (W.dC x0 y0 false)) && W.fZ (W.dR x0 y0 false)) ∧ t.n = W.fN (W.dR x1 y1 (W.dC x0 y0 false)) ∧ t.v = W.dV x1 y1 (W.dC x0 y0 false))) := by
  rcases prs_in h with ⟨rfl, rfl⟩ | ⟨rfl, rfl⟩ | ⟨rfl, rfl⟩
  · obtain ⟨a, ha, ar, ac, ao⟩ := doI_two 5 0 2 (rg x0 x1 y0 y1) (by omega)
    have ar : a.r = upd (rg x0 x1 y0 y1).r 0 (W.sR x0 y0 false) := ar
    have ac : a.c = W.sC x0 y0 false := ac
    obtain ⟨b, hb, br, _, bo⟩ := doI_two 6 1 3 a (by omega)
    have e1 : a.r (1 : Int).toNat = x1 := by rw [ar]; rfl
    have e3 : a.r (3 : Int).toNat = y1 := by rw [ar]; rfl
    rw [e1, e3, ac] at br
    have br : b.r = upd a.r 1 (W.sR x1 y1 (W.sC x0 y0 false)) := br
    rcases hn with rfl | rfl
    · exact ⟨a, ha, ao, fun _ => ⟨by rw [ar]; rfl, fun h => absurd h (by decide)⟩, fun h => absurd h (by decide), fun h => absurd h (by decide)⟩
    · refine ⟨b, ?_, by rw [bo, ao]; rfl, fun _ => ⟨by rw [br, ar]; rfl, fun _ => by rw [br]; rfl⟩, fun h => absurd h (by decide), fun h => absurd h (by decide)⟩
      show doI [] ⟨6, 1, 3, 0⟩ (doI [] ⟨5, 0, 2, 0⟩ _) = _
      rw [ha]; exact hb
  · obtain ⟨a, ha, ar, ac, ao⟩ := doI_two 7 0 2 (rg x0 x1 y0 y1) (by omega)
    have ar : a.r = upd (rg x0 x1 y0 y1).r 0 (W.dR x0 y0 false) := ar
    have ac : a.c = W.dC x0 y0 false := ac
    obtain ⟨b, hb, br, _, bo⟩ := doI_two 8 1 3 a (by omega)
    have e1 : a.r (1 : Int).toNat = x1 := by rw [ar]; rfl
    have e3 : a.r (3 : Int).toNat = y1 := by rw [ar]; rfl
    rw [e1, e3, ac] at br
    have br : b.r = upd a.r 1 (W.dR x1 y1 (W.dC x0 y0 false)) := br
    rcases hn with rfl | rfl
    · exact ⟨a, ha, ao, fun h => absurd h (by decide), fun _ => ⟨by rw [ar]; rfl, fun h => absurd h (by decide)⟩, fun h => absurd h (by decide)⟩
    · refine ⟨b, ?_, by rw [bo, ao]; rfl, fun h => absurd h (by decide), fun _ => ⟨by rw [br, ar]; rfl, fun _ => by rw [br]; rfl⟩, fun h => absurd h (by decide)⟩
      show doI [] ⟨8, 1, 3, 0⟩ (doI [] ⟨7, 0, 2, 0⟩ _) = _
      rw [ha]; exact hb
  · obtain ⟨a, ha, ar, ac, az, an, av, ao⟩ := doI_cmp 12 0 2 (rg x0 x1 y0 y1) (.inl rfl)
    have ac : a.c = W.dC x0 y0 false := ac
    have az : a.z = W.fZ (W.dR x0 y0 false) := az
    have an : a.n = W.fN (W.dR x0 y0 false) := an
    have av : a.v = W.dV x0 y0 false := av
    obtain ⟨b, hb, br, bc, bz, bn, bv, bo⟩ := doI_cmp 13 1 3 a (.inr rfl)
    have e1 : a.r (1 : Int).toNat = x1 := by rw [ar]; rfl
    have e3 : a.r (3 : Int).toNat = y1 := by rw [ar]; rfl
    rw [e1, e3] at bc bz bn bv
    have bc : b.c = W.dC x1 y1 a.c := bc
    have bz : b.z = (W.fZ (W.dR x1 y1 a.c) && a.z) := bz
    have bn : b.n = W.fN (W.dR x1 y1 a.c) := bn
    have bv : b.v = W.dV x1 y1 a.c := bv
    rw [ac] at bc bz bn bv
    rw [az] at bz
    rcases hn with rfl | rfl
    · exact ⟨a, ha, ao, fun h => absurd h (by decide), fun h => absurd h (by decide), fun _ => ⟨by rw [ar]; rfl, by rw [ar]; rfl, fun _ => ⟨ac, az, an, av⟩, fun h => absurd h (by decide)⟩⟩
    · refine ⟨b, ?_, by rw [bo, ao]; rfl, fun h => absurd h (by decide), fun h => absurd h (by decide), fun _ => ⟨by rw [br, ar]; rfl, by rw [br, ar]; rfl, fun h => absurd h (by decide), fun _ => ⟨bc, bz, bn, bv⟩⟩⟩
      show doI [] ⟨13, 1, 3, 0⟩ (doI [] ⟨12, 0, 2, 0⟩ _) = _
      rw [ha]; exact hb
theorem ca_law {p q v : Int} {n : Nat} {a b x0 x1 y0 y1 : Int} (h : (p, q) ∈ prs) (hx : Cw v n (W.cut v a) x0 x1) (hy : Cw v n (W.cut v b) y0 y1) (bx : B2 x0 x1) (by_ : B2 y0 y1) (F : St) (hF : Mc.ends (U.encs (caL p q n ++ [haltI])) [] 1000 x0 x1 y0 y1 0 0 0 0 false false false false 0 [] = F) :
    F.how = 1 ∧ F.out = [] ∧ W.joinE ([F.r 0, F.r 1].take n) = 0 ∧ W.joinV ([F.r 0, F.r 1].take n) = wantOf p v a b ∧
      (p = 12 → F.c = W.less v false a b ∧ (F.n != F.v) = W.less v true a b ∧ F.z = decide (W.sub v a b = 0)) := by
  obtain ⟨b0, b1⟩ := bx
  obtain ⟨c0, c1⟩ := by_
  have hn : n = 1 ∨ n = 2 := by rcases hx with h | h <;> simp [h.2.1]
  obtain ⟨t, ht, to, t5, t7, t12⟩ := two_runs h hn x0 x1 y0 y1
  have hFt := ends_run (caL p q n) x0 x1 y0 y1 (ca_in h hn) (by rcases hn with rfl | rfl <;> (show (caL p q _).length ≤ 900; simp [caL])) (by rcases prs_in h with ⟨rfl, rfl⟩ | ⟨rfl, rfl⟩ | ⟨rfl, rfl⟩ <;> rcases hn with rfl | rfl <;> decide) F t ht hF
  subst hFt
  refine ⟨rfl, to, ?_⟩
  show W.joinE ([t.r 0, t.r 1].take n) = 0 ∧ W.joinV ([t.r 0, t.r 1].take n) = wantOf p v a b ∧ (p = 12 → t.c = W.less v false a b ∧ (t.n != t.v) = W.less v true a b ∧ t.z = decide (W.sub v a b = 0))
  have sb := fun a b c => W.sR_bd a b c
  have db := fun a b c => W.dR_bd a b c
  unfold W.cut at hx hy
  have hadd : ∀ M : Int, (a + b) % M = (a % M + b % M) % M := fun M => Int.add_emod ..
  have hsub : ∀ M : Int, (a - b) % M = (a % M - b % M) % M := fun M => Int.sub_emod ..
  rcases hx with ⟨rfl, rfl, hX⟩ | ⟨rfl, rfl, hX⟩
  · rcases hy with ⟨_, _, hY⟩ | ⟨hh, _⟩
    · rw [W.md16] at hX hY
      have l1 := less_1 x0 y0 b0 c0
      rcases prs_in h with ⟨rfl, rfl⟩ | ⟨rfl, rfl⟩ | ⟨rfl, rfl⟩
      · obtain ⟨t0, _⟩ := t5 rfl
        have hj := joinE_of (l := [t.r 0]) (by simp) (by simp) (fun x hx => by simp at hx; subst hx; rw [t0]; have := sb x0 y0 false; omega)
        refine ⟨hj.1, ?_, fun h => absurd h (by decide)⟩
        show W.joinV [t.r 0] = W.add 16 a b
        rw [hj.2, sum1, t0, add_1 x0 y0 b0 c0]; unfold W.add; rw [W.md16, hadd, hX, hY]
      · obtain ⟨t0, _⟩ := t7 rfl
        have hj := joinE_of (l := [t.r 0]) (by simp) (by simp) (fun x hx => by simp at hx; subst hx; rw [t0]; have := db x0 y0 false; omega)
        refine ⟨hj.1, ?_, fun h => absurd h (by decide)⟩
        show W.joinV [t.r 0] = W.sub 16 a b
        rw [hj.2, sum1, t0, sub_1 x0 y0 b0 c0]; unfold W.sub; rw [W.md16, hsub, hX, hY]
      · obtain ⟨t0, _, t1, _⟩ := t12 rfl
        obtain ⟨f1, f2, f3, f4⟩ := t1 rfl
        have hj := joinE_of (l := [t.r 0]) (by simp) (by simp) (fun x hx => by simp at hx; subst hx; rw [t0]; omega)
        refine ⟨hj.1, ?_, fun _ => ⟨?_, ?_, ?_⟩⟩
        · show W.joinV [t.r 0] = W.cut 16 a
          rw [hj.2, sum1, t0]; unfold W.cut; rw [W.md16, hX]
        · rw [f1, l1.1]; unfold W.less; rw [W.md16, hX, hY]; rfl
        · rw [f3, f4, l1.2.1]; unfold W.less W.sg W.view; rw [W.md16, hX, hY, if_pos rfl]
          rw [decide_eq_decide]
          by_cases hx : 32768 ≤ x0 <;> by_cases hy : 32768 ≤ y0
          · rw [if_pos hx, if_pos hy, if_neg (by omega), if_neg (by omega)]
          · rw [if_pos hx, if_neg hy, if_neg (by omega), if_pos (by omega)]
          · rw [if_neg hx, if_pos hy, if_pos (by omega), if_neg (by omega)]
          · rw [if_neg hx, if_neg hy, if_pos (by omega), if_pos (by omega)]
        · rw [f2, l1.2.2]; unfold W.sub; rw [W.md16, hsub, hX, hY]
    · exact absurd hh (by decide)
  · rcases hy with ⟨hh, _⟩ | ⟨_, _, hY⟩
    · exact absurd hh (by decide)
    · rw [W.md32] at hX hY
      have l2 := less_2 x0 x1 y0 y1 b0 b1 c0 c1
      rcases prs_in h with ⟨rfl, rfl⟩ | ⟨rfl, rfl⟩ | ⟨rfl, rfl⟩
      · obtain ⟨t0, t1⟩ := t5 rfl
        have t1 := t1 rfl
        have hj := joinE_of (l := [t.r 0, t.r 1]) (by simp) (by simp) (fun x hx => by simp at hx; rcases hx with rfl | rfl; (· rw [t0]; have := sb x0 y0 false; omega); (· rw [t1]; have := sb x1 y1 (W.sC x0 y0 false); omega))
        refine ⟨hj.1, ?_, fun h => absurd h (by decide)⟩
        show W.joinV [t.r 0, t.r 1] = W.add 32 a b
        rw [hj.2, sum2, t0, t1, add_2 x0 x1 y0 y1 b0 b1 c0 c1]; unfold W.add; rw [W.md32, hadd, hX, hY]
      · obtain ⟨t0, t1⟩ := t7 rfl
        have t1 := t1 rfl
        have hj := joinE_of (l := [t.r 0, t.r 1]) (by simp) (by simp) (fun x hx => by simp at hx; rcases hx with rfl | rfl; (· rw [t0]; have := db x0 y0 false; omega); (· rw [t1]; have := db x1 y1 (W.dC x0 y0 false); omega))
        refine ⟨hj.1, ?_, fun h => absurd h (by decide)⟩
        show W.joinV [t.r 0, t.r 1] = W.sub 32 a b
        rw [hj.2, sum2, t0, t1, sub_2 x0 x1 y0 y1 b0 b1 c0 c1]; unfold W.sub; rw [W.md32, hsub, hX, hY]
      · obtain ⟨t0, t1, _, t2⟩ := t12 rfl
        obtain ⟨f1, f2, f3, f4⟩ := t2 rfl
        have hj := joinE_of (l := [t.r 0, t.r 1]) (by simp) (by simp) (fun x hx => by simp at hx; rcases hx with rfl | rfl; (· rw [t0]; omega); (· rw [t1]; omega))
        refine ⟨hj.1, ?_, fun _ => ⟨?_, ?_, ?_⟩⟩
        · show W.joinV [t.r 0, t.r 1] = W.cut 32 a
          rw [hj.2, sum2, t0, t1]; unfold W.cut; rw [W.md32, hX]
        · rw [f1, l2.1]; unfold W.less; rw [W.md32, hX, hY]; rfl
        · rw [f3, f4, l2.2.1]; unfold W.less W.sg W.view; rw [W.md32, hX, hY, if_pos rfl]
          rw [decide_eq_decide]
          by_cases hx : 32768 ≤ x1 <;> by_cases hy : 32768 ≤ y1
          · rw [if_pos hx, if_pos hy, if_neg (by omega), if_neg (by omega)]; omega
          · rw [if_pos hx, if_neg hy, if_neg (by omega), if_pos (by omega)]; omega
          · rw [if_neg hx, if_pos hy, if_pos (by omega), if_neg (by omega)]; omega
          · rw [if_neg hx, if_neg hy, if_pos (by omega), if_pos (by omega)]
        · rw [f2, l2.2.2]; unfold W.sub; rw [W.md32, hsub, hX, hY]
end Mc
end Go.Proofs.Ytfjgnhmmakeaeaa
