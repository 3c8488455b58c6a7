/- WordDoes: at every input. No condition. -/
import Derived.Test.YtgpjhbaehhjdhaaL19
namespace Go.Proofs.Ytgpjhbaehhjdhaa
open Go.RowKit
set_option linter.unusedVariables false
set_option linter.unusedSimpArgs false
set_option maxRecDepth 100000

theorem same_below {w w' : World} {e r : Ending} (h : e = r ∧ w = w') : e = r ∧ Below w.heap.size w w' := ⟨h.1, h.2 ▸ Below.refl _ _⟩
theorem Drawn.below {w w' : World} (h : Drawn w w') : Below w.heap.size w w' := by
  obtain ⟨n, rfl⟩ := h
  exact Ext.drewN (Below.refl _ _) n
theorem drawn_below {w w' : World} {e r : Ending} (h : e = r ∧ Drawn w w') : e = r ∧ Below w.heap.size w w' := ⟨h.1, h.2.below⟩
theorem W.mn_cut (v x : Int) (s : Bool) : W.mn v x s % W.md v = x % W.md v := by
  unfold W.mn
  cases s
  · exact Int.emod_emod_of_dvd x (Int.dvd_refl _)
  · exact W.sg_mod v x
theorem W.mn_add (v a b : Int) (s : Bool) : (W.mn v a s + W.mn v b s) % W.md v = W.add v a b := by
  rw [Int.add_emod, W.mn_cut, W.mn_cut, W.add_mods]; rfl
theorem W.mn_sub (v a b : Int) (s : Bool) : (W.mn v a s - W.mn v b s) % W.md v = W.sub v a b := by
  rw [Int.sub_emod, W.mn_cut, W.mn_cut, W.sub_mods]; rfl
theorem W.mn_mul (v a b : Int) (s : Bool) : (W.mn v a s * W.mn v b s) % W.md v = W.mul v a b := by
  rw [Int.mul_emod, W.mn_cut, W.mn_cut, W.mul_mods]; rfl
theorem W.mn_quo (v a b : Int) (s : Bool) : (W.mn v a s).tdiv (W.mn v b s) % W.md v = W.quo v s a b := by
  unfold W.mn W.quo
  cases s
  · simp only [Bool.false_eq_true, if_false]
    have h1 := W.mod_lo a v; have h2 := W.mod_lo b v; have h3 := W.mod_hi a v
    rw [Int.tdiv_eq_ediv_of_nonneg h1]
    have := W.div_le h1 h2
    exact Int.emod_eq_of_lt (Int.ediv_nonneg h1 h2) (by omega)
  · rfl
theorem W.mn_rem (v a b : Int) (s : Bool) : (W.mn v a s).tmod (W.mn v b s) % W.md v = W.rem v s a b := by
  unfold W.mn W.rem
  cases s
  · simp only [Bool.false_eq_true, if_false]
    have h1 := W.mod_lo a v; have h2 := W.mod_lo b v; have h3 := W.mod_hi a v; have h4 := W.mod_hi b v
    rw [Int.tmod_eq_emod_of_nonneg h1]
    by_cases hz : b % W.md v = 0
    · rw [hz, Int.emod_zero]; exact Int.emod_eq_of_lt h1 h3
    · have := Int.emod_lt_of_pos (a % W.md v) (show 0 < b % W.md v by omega)
      exact Int.emod_eq_of_lt (Int.emod_nonneg _ hz) (by omega)
  · rfl
theorem W.mn_zero (v b : Int) (s : Bool) : W.mn v b s = 0 ↔ b % W.md v = 0 := by
  unfold W.mn
  cases s
  · simp
  · simp only [if_true]; unfold W.sg
    have h1 := W.mod_lo b v; have h2 := W.mod_hi b v
    split <;> omega
theorem W.mn_less (v a b : Int) (s : Bool) : ((if W.mn v a s < W.mn v b s then (1 : Int) else 0) == 1) = W.less v s a b := by
  unfold W.mn W.less
  cases s
  · simp only [Bool.false_eq_true, if_false]; split <;> simp [*]
  · simp only [if_true]; split <;> simp [*]
set_option maxHeartbeats 4000000 in
theorem does_all (a : Int) (wa : (Lit.int .u64 a).wf = true) (b : Int) (wb : (Lit.int .u64 b).wf = true) (v : Int) (_ : (Lit.int .i64 v).wf = true) (s : Bool) (w : World) :
    Calls Try.prog 13 #[.int .u64 a, .int .u64 b, .int .i64 v, .bool s] w fun e w' => e = .returned (.bool true) ∧ Below w.heap.size w w' := by
  have ha := W.U_wf wa; have hb := W.U_wf wb
  by_cases h : W.ok v
  · have key : ∀ X4 E4 X5 E5 : Int, (∀ w : World, Calls Try.prog 47 #[.int .u64 a, .int .u64 b, .int .i64 v, .bool s] w fun e w' => e = .returned (.tuple #[.int .u64 X4, .int .i64 E4]) ∧ Below w.heap.size w w') →
        (∀ w : World, Calls Try.prog 55 #[.int .u8 47, .int .u64 a, .int .u64 b, .int .i64 v, .bool s] w fun e w' => e = .returned (.tuple #[.int .u64 X4, .int .i64 E4]) ∧ Below w.heap.size w w') →
        (∀ w : World, Calls Try.prog 48 #[.int .u64 a, .int .u64 b, .int .i64 v, .bool s] w fun e w' => e = .returned (.tuple #[.int .u64 X5, .int .i64 E5]) ∧ Below w.heap.size w w') →
        (∀ w : World, Calls Try.prog 55 #[.int .u8 37, .int .u64 a, .int .u64 b, .int .i64 v, .bool s] w fun e w' => e = .returned (.tuple #[.int .u64 X5, .int .i64 E5]) ∧ Below w.heap.size w w') →
        Calls Try.prog 13 #[.int .u64 a, .int .u64 b, .int .i64 v, .bool s] w fun e w' => e = .returned (.bool true) ∧ Below w.heap.size w w' := fun X4 E4 X5 E5 d1 d2 d3 d4 =>
      does_raw a b v (W.cut v a) (W.sg v a) (W.add v a b) (W.sub v a b) (W.mul v a b) X4 E4 X5 E5 s (W.less v s a b) _ (W.mn_less v a b s)
        (fun w => (width_ok v h w).mono fun _ _ => same_below) (fun w => by rw [← W.okB_t h]; exact refWidth_ok v w)
        (fun w => (cut_ok a v h ha w).mono fun _ _ => same_below) (fun w => (signed_ok a v h w).mono fun _ _ => same_below)
        (fun w => whole_ok a ha.1 ha.2 w) (fun w g hi => fit_ok g a v h (N.ln_64 ha.1 ha.2) w hi) (fun w => meant_ok a v true h ha w)
        (fun w g hi => (int64_ok g _ (W.sg_I v a).1 (W.sg_I v a).2 w hi).mono fun _ _ => same_below)
        (fun w => (add_ok a b v h ha hb w).mono fun _ _ => same_below) (fun w => by rw [← W.mn_add v a b s]; exact do_add a b v s h ha hb w)
        (fun w => (sub_ok a b v h ha hb w).mono fun _ _ => same_below) (fun w => by rw [← W.mn_sub v a b s]; exact do_sub a b v s h ha hb w)
        (fun w => (mul_ok a b v h ha hb w).mono fun _ _ => same_below) (fun w => by rw [← W.mn_mul v a b s]; exact do_mul a b v s h ha hb w)
        d1 d2 d3 d4
        (fun w => (less_any a b v s h ha hb w).mono fun _ _ => same_below) (fun w => do_less a b v s h ha hb w) w
    by_cases hz : b % W.md v = 0
    · exact key 0 10 0 10 (fun w => (div_zero a b v s h hb hz w).mono fun _ _ => same_below) (fun w => do_quo_zero a b v s h ha hb ((W.mn_zero v b s).2 hz) w)
        (fun w => (rem_zero a b v s h hb hz w).mono fun _ _ => same_below) (fun w => do_rem_zero a b v s h ha hb ((W.mn_zero v b s).2 hz) w)
    · have hm : W.mn v b s ≠ 0 := fun e => hz ((W.mn_zero v b s).1 e)
      exact key _ 0 _ 0 (fun w => (div_ok a b v s h ha hb hz w).mono fun _ _ => drawn_below) (fun w => by rw [← W.mn_quo v a b s]; exact do_quo a b v s h ha hb hm w)
        (fun w => (rem_ok a b v s h ha hb hz w).mono fun _ _ => drawn_below) (fun w => by rw [← W.mn_rem v a b s]; exact do_rem a b v s h ha hb hm w)
  · exact does_none a b v s (fun w => (width_no v h w).mono fun _ _ => same_below) (fun w => by rw [← W.okB_f h]; exact refWidth_ok v w)
      (fun w => (cut_no a v h w).mono fun _ _ => same_below) (fun w => (signed_no a v h w).mono fun _ _ => same_below)
      (fun w => (add_no a b v h w).mono fun _ _ => same_below) (fun w => do_no 43 a b v s h w)
      (fun w => (sub_no a b v h w).mono fun _ _ => same_below) (fun w => do_no 45 a b v s h w)
      (fun w => (mul_no a b v h w).mono fun _ _ => same_below) (fun w => do_no 42 a b v s h w)
      (fun w => (div_no a b v s h w).mono fun _ _ => same_below) (fun w => do_no 47 a b v s h w)
      (fun w => (rem_no a b v s h w).mono fun _ _ => same_below) (fun w => do_no 37 a b v s h w)
      (fun w => (less_no a b v s h w).mono fun _ _ => same_below) (fun w => do_no 60 a b v s h w) w
end Go.Proofs.Ytgpjhbaehhjdhaa
