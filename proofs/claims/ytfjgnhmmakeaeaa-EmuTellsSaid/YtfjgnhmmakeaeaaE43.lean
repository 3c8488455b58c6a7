/- EmuTells: plain law and walk. -/
import Derived.Test.YtfjgnhmmakeaeaaE38
namespace Go.Proofs.Ytfjgnhmmakeaeaa
open Go.RowKit
set_option linter.unusedVariables false
set_option linter.unusedSimpArgs false
set_option maxRecDepth 100000
open Mc

namespace Mc
def tl : List U.In := [⟨31, 2, 0, 0⟩, ⟨22, 0, 0, 6⟩, ⟨30, 0, 2, 0⟩, ⟨19, 0, 0, 0⟩, ⟨0, 0, 0, 0⟩]
def tc : List Int := [32000, 22528, 6, 30752, 19456, 0, 0]
theorem tl_encs : U.encs tl = tc := by decide
theorem tl_ok : ∀ i ∈ tl, i.Ok := by
  intro i hi
  simp only [tl, List.mem_cons, List.not_mem_nil, or_false] at hi
  rcases hi with rfl | rfl | rfl | rfl | rfl <;> exact ⟨by decide, by decide, by decide, by decide, by simp [W.I]⟩
theorem tick_of {cd inp : List Int} {s : St} {pc : Int} (hpc : s.pc = pc) {I : U.Ins} (h : U.one cd pc = I) (hn : I.n ≠ 0) :
    tick cd inp s = { (exec inp I.op I.d.toNat I.s.toNat I.imm (pc + I.n) { s with steps := s.steps + 1 }).1 with how := (exec inp I.op I.d.toNat I.s.toNat I.imm (pc + I.n) { s with steps := s.steps + 1 }).2 } := by
  subst hpc; subst h
  unfold tick step
  rw [if_neg (show ¬ (U.one cd s.pc).n = 0 from hn)]
theorem goA_on {cd inp : List Int} {n : Nat} {s s' : St} (h : tick cd inp s = s') (h0 : s'.how = 0) : goA cd inp (n + 1) s = goA cd inp n s' := by
  show (if (tick cd inp s).how = 0 then _ else _) = _
  rw [h, if_pos h0]
theorem goA_end {cd inp : List Int} {n : Nat} {s s' : St} (h : tick cd inp s = s') (h0 : s'.how ≠ 0) : goA cd inp (n + 1) s = s' := by
  show (if (tick cd inp s).how = 0 then _ else _) = _
  rw [h, if_neg h0]
/-- The head of the loop, k bytes told. -/
def Tl (inp : List Int) (k : Nat) (s : St) : Prop := s.pc = 0 ∧ s.read = k ∧ s.out = inp.take k ∧ s.steps = 4 * k ∧ s.how = 0 ∧ (∀ j, s.mem j = 0) ∧ s.trap = 0
theorem tl_round (inp : List Int) (hby : ∀ x ∈ inp, 0 ≤ x ∧ x < 256) (hl : inp.length ≤ 2000) (k : Nat) (hk : k < inp.length) (n : Nat) (s : St) (h : Tl inp k s) : ∃ s', Tl inp (k + 1) s' ∧ goA tc inp (n + 4) s = goA tc inp n s' := by
  obtain ⟨hpc, hr, ho, hst, hh, hm, ht⟩ := h
  have hne : ¬ inp.length = s.read := by omega
  obtain ⟨x, hx⟩ : ∃ x, x = inp.getD s.read 0 := ⟨_, rfl⟩
  have hxb : 0 ≤ x ∧ x < 256 := by
    rw [hx, List.getD_eq_getElem?_getD, List.getElem?_eq_getElem (by omega)]
    exact hby _ (List.getElem_mem _)
  have t1 : tick tc inp s = { s with steps := s.steps + 1, c := false, r := upd (upd s.r 2 0) 2 x, read := s.read + 1, pc := 1, how := 0 } := by
    rw [tick_of hpc (I := ⟨31, 2, 0, 0, 1⟩) (by kernel_rfl) (by decide)]
    show ({ (goOn (came inp 2 { s with steps := s.steps + 1 }) (0 + 1)) with how := 0 } : St) = _
    unfold came
    rw [if_neg (show ¬ inp.length = s.read from hne), ← hx]
    rfl
  have t2 : tick tc inp (tick tc inp s) = { s with steps := s.steps + 2, c := false, r := upd (upd s.r 2 0) 2 x, read := s.read + 1, pc := 3, how := 0 } := by
    rw [t1, tick_of (pc := 1) rfl (I := ⟨22, 0, 0, 6, 2⟩) (by kernel_rfl) (by decide)]
    show ({ s with steps := s.steps + 1 + 1, c := false, r := upd (upd s.r 2 0) 2 x, read := s.read + 1, pc := 3, how := 0 } : St) = _
    rw [Int.add_assoc]; rfl
  have t3 : tick tc inp (tick tc inp (tick tc inp s)) = { s with steps := s.steps + 3, c := false, r := upd (upd s.r 2 0) 2 x, read := s.read + 1, pc := 4, how := 0, out := s.out ++ [x] } := by
    rw [t2, tick_of (pc := 3) rfl (I := ⟨30, 0, 2, 0, 1⟩) (by kernel_rfl) (by decide)]
    have hlen : ¬ s.out.length = 65536 := by rw [ho, List.length_take]; omega
    have hxx : x % 256 = x := by omega
    show ({ (exec inp 30 0 2 0 (3 + 1) { s with steps := s.steps + 2 + 1, c := false, r := upd (upd s.r 2 0) 2 x, read := s.read + 1, pc := 3, how := 0 }).1 with how := (exec inp 30 0 2 0 (3 + 1) { s with steps := s.steps + 2 + 1, c := false, r := upd (upd s.r 2 0) 2 x, read := s.read + 1, pc := 3, how := 0 }).2 } : St) = _
    rw [exec_out, if_neg hlen]
    show ({ s with steps := s.steps + 2 + 1, c := false, r := upd (upd s.r 2 0) 2 x, read := s.read + 1, pc := 4, how := 0, out := s.out ++ [x % 256] } : St) = _
    rw [hxx, Int.add_assoc]; rfl
  have t4 : tick tc inp (tick tc inp (tick tc inp (tick tc inp s))) = { s with steps := s.steps + 4, c := false, r := upd (upd s.r 2 0) 2 x, read := s.read + 1, pc := 0, how := 0, out := s.out ++ [x] } := by
    rw [t3, tick_of (pc := 4) rfl (I := ⟨19, 0, 0, 0, 2⟩) (by kernel_rfl) (by decide)]
    show ({ s with steps := s.steps + 3 + 1, c := false, r := upd (upd s.r 2 0) 2 x, read := s.read + 1, pc := 0, how := 0, out := s.out ++ [x] } : St) = _
    rw [Int.add_assoc]; rfl
  refine ⟨_, ?_, (goA_on rfl (by rw [t1])).trans ((goA_on rfl (by rw [t2])).trans ((goA_on rfl (by rw [t3])).trans (goA_on t4 rfl)))⟩
  refine ⟨rfl, by show s.read + 1 = k + 1; omega, ?_, by show s.steps + 4 = 4 * ((k + 1 : Nat) : Int); omega, rfl, hm, ht⟩
  show s.out ++ [x] = inp.take (k + 1)
  rw [ho, hx, hr, List.take_add_one, List.getD_eq_getElem?_getD, List.getElem?_eq_getElem hk]; rfl
theorem tl_last (inp : List Int) (n : Nat) (s : St) (h : Tl inp inp.length s) : ∃ s', goA tc inp (n + 3) s = s' ∧ s'.how = 1 ∧ s'.read = inp.length ∧ s'.steps = 4 * (inp.length : Int) + 3 ∧ s'.out = inp ∧ ∀ j, s'.mem j = 0 := by
  obtain ⟨hpc, hr, ho, hst, hh, hm, ht⟩ := h
  have t1 : tick tc inp s = { s with steps := s.steps + 1, c := true, r := upd s.r 2 0, pc := 1, how := 0 } := by
    rw [tick_of hpc (I := ⟨31, 2, 0, 0, 1⟩) (by kernel_rfl) (by decide)]
    show ({ (goOn (came inp 2 { s with steps := s.steps + 1 }) (0 + 1)) with how := 0 } : St) = _
    unfold came
    rw [if_pos (show inp.length = s.read from hr.symm)]
    rfl
  have t2 : tick tc inp (tick tc inp s) = { s with steps := s.steps + 2, c := true, r := upd s.r 2 0, pc := 6, how := 0 } := by
    rw [t1, tick_of (pc := 1) rfl (I := ⟨22, 0, 0, 6, 2⟩) (by kernel_rfl) (by decide)]
    show ({ s with steps := s.steps + 1 + 1, c := true, r := upd s.r 2 0, pc := 6, how := 0 } : St) = _
    rw [Int.add_assoc]; rfl
  have t3 : tick tc inp (tick tc inp (tick tc inp s)) = { s with steps := s.steps + 3, c := true, r := upd s.r 2 0, pc := 6, how := 1 } := by
    rw [t2, tick_of (pc := 6) rfl (I := ⟨0, 0, 0, 0, 1⟩) (by kernel_rfl) (by decide)]
    show ({ s with steps := s.steps + 2 + 1, c := true, r := upd s.r 2 0, pc := 6, how := 1 } : St) = _
    rw [Int.add_assoc]; rfl
  refine ⟨_, (goA_on rfl (by rw [t1])).trans ((goA_on rfl (by rw [t2])).trans (goA_end t3 (show (1 : Int) ≠ 0 by decide))), rfl, hr, ?_, ?_, hm⟩
  · show s.steps + 3 = _; omega
  · show s.out = _; rw [ho, List.take_length]
theorem tl_run (inp : List Int) (hby : ∀ x ∈ inp, 0 ≤ x ∧ x < 256) (hl : inp.length ≤ 2000) : ∀ (m k n : Nat) (s : St), k + m = inp.length → Tl inp k s → ∃ s', goA tc inp (n + 3 + 4 * m) s = s' ∧ s'.how = 1 ∧ s'.read = inp.length ∧ s'.steps = 4 * (inp.length : Int) + 3 ∧ s'.out = inp ∧ ∀ j, s'.mem j = 0
  | 0, k, n, s, hk, h => by
    obtain rfl : k = inp.length := by omega
    exact tl_last inp n s h
  | m + 1, k, n, s, hk, h => by
    obtain ⟨s', h1, h2⟩ := tl_round inp hby hl k (by omega) (n + 3 + 4 * m) s h
    obtain ⟨t, h3⟩ := tl_run inp hby hl m (k + 1) n s' (by omega) h1
    refine ⟨t, ?_, h3.2⟩
    rw [show n + 3 + 4 * (m + 1) = n + 3 + 4 * m + 4 by omega, h2]; exact h3.1
theorem left_nil {mem : Nat → Int} (h : ∀ j, mem j = 0) : left mem = [] := by
  have : ∀ n, top mem n = 0 := fun n => by
    induction n with
    | zero => rfl
    | succ n ih => rw [top_zero (h n), ih]
  unfold left; rw [this]; rfl
theorem tl_ends (inp : List Int) (hby : ∀ x ∈ inp, 0 ≤ x ∧ x < 256) (hl : inp.length ≤ 2000) : ∃ F, Mc.ends tc inp 10000 0 0 0 0 0 0 0 0 false false false false 0 [] = F ∧ F.how = 1 ∧ F.read = inp.length ∧ F.steps = 4 * (inp.length : Int) + 3 ∧ F.out = inp ∧ left F.mem = [] := by
  have h : Mc.ends tc inp 10000 0 0 0 0 0 0 0 0 false false false false 0 [] = goA tc inp 10000 (Mc.begin (reg8 0 0 0 0 0 0 0 0) false false false false 0 []) := go_alone _ (fun _ _ => rfl) _ _ _ _ _
  obtain ⟨s', h1, h2, h3, h4, h5, h6⟩ := tl_run inp hby hl inp.length 0 (9997 - 4 * inp.length) (Mc.begin (reg8 0 0 0 0 0 0 0 0) false false false false 0 []) (by omega) ⟨rfl, rfl, rfl, rfl, rfl, fun j => by show ([] : List Int).getD j 0 = 0; simp, rfl⟩
  rw [show 9997 - 4 * inp.length + 3 + 4 * inp.length = 10000 by omega] at h1
  exact ⟨s', h.trans h1, h2, h3, h4, h5, left_nil h6⟩
end Mc
theorem left_len0 (mem : Nat → Int) : (left mem).length = top mem MS := by unfold left; simp
theorem tl_wary (n : Nat) (h : n ≤ 2000) : Mc.wary 7 n (Mc.wr [0, 0, 0, 0, 0, 0, 0, 0] 0 []) 10000 = 0 := by
  have : Mc.wr [0, 0, 0, 0, 0, 0, 0, 0] 0 [] = 0 := by decide
  rw [this]
  unfold Mc.wary
  rw [if_neg (by omega), if_neg (by decide), if_neg (by omega)]
theorem tl_cells {w : World} {g : Nat} (hk : Blk w g 43 #[.int .i64 31, .int .i64 2, .int .i64 0, .int .i64 0, .int .i64 22, .int .i64 0, .int .i64 0, .int .i64 6, .int .i64 30, .int .i64 0, .int .i64 2, .int .i64 0, .int .i64 19, .int .i64 0, .int .i64 0, .int .i64 0, .int .i64 0, .int .i64 0, .int .i64 0, .int .i64 0]) :
    ∀ j u, ((Mc.tl.flatMap U.inL).map (Value.int .i64))[j]? = some u → w.cell? ⟨g, 0 + j, none⟩ = some u := fun j u hj => by
  have e : (Mc.tl.flatMap U.inL).map (Value.int .i64) = [.int .i64 31, .int .i64 2, .int .i64 0, .int .i64 0, .int .i64 22, .int .i64 0, .int .i64 0, .int .i64 6, .int .i64 30, .int .i64 0, .int .i64 2, .int .i64 0, .int .i64 19, .int .i64 0, .int .i64 0, .int .i64 0, .int .i64 0, .int .i64 0, .int .i64 0, .int .i64 0] := rfl
  rw [e] at hj
  rw [Nat.zero_add]; exact HasL.of_blk hk _ ⟨[], rfl⟩ j u hj
theorem tl_encode (g : Nat) (w1 : World) (hk : Blk w1 g 43 #[.int .i64 31, .int .i64 2, .int .i64 0, .int .i64 0, .int .i64 22, .int .i64 0, .int .i64 0, .int .i64 6, .int .i64 30, .int .i64 0, .int .i64 2, .int .i64 0, .int .i64 19, .int .i64 0, .int .i64 0, .int .i64 0, .int .i64 0, .int .i64 0, .int .i64 0, .int .i64 0]) :
    Calls Try.prog 25 #[.slice (some ⟨g, 0, none⟩) 5 5] w1 fun e w' => ∃ v', e = .returned (.tuple #[v', .agg #[.int .i64 0, .int .i64 0]]) ∧ Rd w' 1 v' 7 (Mc.tc.map (Value.int .i64)) ∧ (∃ a c, v' = .slice a 7 c) ∧ Below w1.heap.size w1 w' := by
  refine (encode_some g 0 5 5 Mc.tl rfl tl_ok (by rw [tl_encs]; show 7 ≤ 65536; omega) (by omega) w1 (tl_cells hk) hk.lt).mono ?_
  rintro e w' ⟨v', he, ho, hb2⟩
  rw [tl_encs] at ho
  obtain ⟨a, c, hv, _⟩ := own_slice ho
  exact ⟨v', he, Rd.of_owns ho (by unfold maxLen; show 7 ≤ _; omega), ⟨a, c, hv⟩, hb2⟩
set_option maxHeartbeats 4000000 in
theorem tells_long (ia : Option Addr) (n ic : Nat) (h : decide ((n : Int) > 2000) = true) (w : World) : Calls Try.prog 8 #[.slice ia n ic] w fun e w' => e = .returned (.bool true) ∧ Below w.heap.size w w' := by
  go_enter Try.func8, Try.ntmps8
  go_wp2_with (first | (go_at_call 20; refine (alive3 _).mono ?_; rintro e w1 ⟨rfl, hb1⟩; have HB1 := Lib.hid hb1; clear hb1))
  go_ret
  exact ⟨rfl, HB1.out⟩
set_option maxHeartbeats 16000000 in
theorem tells_at (ia : Option Addr) (n ic : Nat) (F : St) (w : World) (h : decide ((n : Int) > 2000) = false) (f1 : F.how = 1) (f2 : F.read = n) (f3 : F.steps = 4 * (n : Int) + 3)
    (e1 : IntKind.i64.wrap (4 * (n : Int)) = 4 * (n : Int)) (e2 : IntKind.i64.wrap (4 * (n : Int) + 3) = 4 * (n : Int) + 3)
    (CR : ∀ (w1 : World) (v : Value), Below w.heap.size w w1 → Rd w1 1 v 7 (Mc.tc.map (Value.int .i64)) → Calls Try.prog 15 #[v, stV 0 0 0 0 0 0 0 0 false false false false 0 (.slice none 0 0), .slice ia n ic, .int .i64 10000] w1 fun e w' => ∃ oa oc xa xn xc, e = .returned (.tuple #[ranV F (.slice oa n oc) (.slice xa xn xc), .int .i64 0]) ∧ Rd w' 1 (.slice oa n oc) n (F.out.map (Value.int .u8)) ∧ Rd w' 1 (.slice xa xn xc) 0 [] ∧ Below w1.heap.size w1 w')
    (CSB : ∀ (w1 : World) (o : Value), Below w.heap.size w w1 → Rd w1 1 o n (F.out.map (Value.int .u8)) → Calls Try.prog 21 #[o, .slice ia n ic] w1 fun e w' => e = .returned (.bool true) ∧ Below w1.heap.size w1 w')
    (CSM : ∀ (w1 : World) (m : Value), Rd w1 1 m 0 [] → Calls Try.prog 26 #[m, .slice none 0 0] w1 fun e w' => e = .returned (.bool true) ∧ Below w1.heap.size w1 w') :
    Calls Try.prog 8 #[.slice ia n ic] w fun e w' => e = .returned (.bool true) ∧ Below w.heap.size w w' := by
  have HCR := Lib.hid CR; have HSB := Lib.hid CSB; have HSM := Lib.hid CSM
  clear CR CSB CSM
  go_enter Try.func8, Try.ntmps8
  go_wp2_with (first | (go_at_call 20; refine (alive3 _).mono ?_; rintro e w1 ⟨rfl, hb1⟩; have HB1 := Lib.hid hb1; clear hb1) | (go_at_call 25; refine (tl_encode _ _ (Blk.new _ _ _)).mono ?_; rintro e w2 ⟨v2, rfl, hr2, ⟨a2, c2, rfl⟩, hb2⟩; have HR2 := Lib.hid hr2; have HB2 := Lib.hid (Ext.trans (Ext.alloc HB1.out _) hb2); clear hr2 hb2) | (go_at_call 15; refine (HCR.out _ _ (Ext.alloc HB2.out _) (HR2.out.below (Ext.alloc (Below.refl _ _) _))).mono ?_; rintro e w3 ⟨oa, oc, xa, xn, xc, rfl, ho3, hm3, hb3⟩; have HB3 := Lib.hid (Ext.trans (Ext.alloc HB2.out _) hb3); have HO3 := Lib.hid ho3; have HM3 := Lib.hid hm3; have hl1 : w2.heap.size < w3.heap.size := own_lt hb3; obtain ⟨z0, z1⟩ := fault_keep hb3; clear hb3 ho3 hm3) | (refine wpList_store_row rfl 30 _ _ rfl w3.heap.size (ranL F (.slice oa n oc) (.slice xa xn xc)).toArray rfl rfl 30 ranZc (Blk.new _ _ _) (by kernel_rfl) rfl (ranL_one _ _ _ _ _ _ _) ?_; generalize hw4 : (w3.alloc (Obj.cells ranZc 30)).setRow w3.heap.size (ranL F (.slice oa n oc) (.slice xa xn xc)).toArray = w4; have HB34 := Lib.hid ((by rw [← hw4]; exact Below.row (Ext.alloc (Below.refl _ _) _) (Nat.le_refl _) _ : Below w3.heap.size w3 w4)); have HA4 := Lib.hid ((by rw [← hw4]; exact (Blk.new w3 _ _).row _ : Blk w4 w3.heap.size 30 (ranL F (.slice oa n oc) (.slice xa xn xc)).toArray)); have z2 : w4.cell? ⟨w2.heap.size, 0, none⟩ = some (.int .i64 0) := (by rw [(bcell HB34.out).1 _ _ hl1]; exact z0); have k0 : w4.cell? ⟨w3.heap.size, 0, none⟩ = some (.int .i64 1) := ran_cell HA4.out 0 (by rw [← f1]; rfl); have k2 : w4.cell? ⟨w3.heap.size, 2, none⟩ = some (.slice oa n oc) := ran_cell HA4.out 2 rfl; have k3 : w4.cell? ⟨w3.heap.size, 3, none⟩ = some (.int .i64 (n : Int)) := ran_cell HA4.out 3 (by rw [← f2]; rfl); have k4 : w4.cell? ⟨w3.heap.size, 4, none⟩ = some (.int .i64 (4 * (n : Int) + 3)) := ran_cell HA4.out 4 (by rw [← f3]; rfl); clear hw4 z0 z1) | (go_at_call 21; refine (HSB.out _ _ (Ext.trans HB3.out HB34.out) (HO3.out.below HB34.out)).mono ?_; rintro e w5 ⟨rfl, hb5⟩; have HB45 := Lib.hid hb5; have k18 : w5.cell? ⟨w3.heap.size, 18, none⟩ = some (.slice xa xn xc) := ran_cell (HA4.out.keep hb5) 18 rfl; clear hb5) | (go_at_call 26; refine (HSM.out _ _ (HM3.out.below (Ext.trans HB34.out HB45.out))).mono ?_; rintro e w6 ⟨rfl, hb6⟩; have HB6 := Lib.hid (Ext.trans (Ext.trans HB3.out (Ext.trans HB34.out HB45.out)) hb6); clear hb6))
  go_ret
  exact ⟨rfl, HB6.out⟩
theorem tells_ok (iv : Value) (n : Nat) (inp : List Int) (w : World) (hi : Rd w 1 iv n (inp.map (Value.int .u8))) (hby : ∀ x ∈ inp, 0 ≤ x ∧ x < 256) : Calls Try.prog 8 #[iv] w fun e w' => e = .returned (.bool true) ∧ Below w.heap.size w w' := by
  obtain ⟨hil, _, ia, ic, hiv, _, _⟩ := hi.ints
  by_cases h : (n : Int) > 2000
  · subst hiv; exact tells_long ia n ic (decide_eq_true h) w
  · obtain ⟨F, hF, f1, f2, f3, f4, f5⟩ := tl_ends inp hby (by omega)
    have hFl : F.out.length = n := by rw [f4]; exact hil
    have CR := fun (w1 : World) (v : Value) (hb : Below w.heap.size w w1) (hv : Rd w1 1 v 7 (Mc.tc.map (Value.int .i64))) => run_ok v iv (.slice none 0 0) 7 n 0 0 0 0 0 0 0 0 0 0 10000 false false false false Mc.tc inp [] w1 hv (hi.below hb) (Rd.nil _ _) hby
    rw [hF, tl_wary n (by omega)] at CR
    have hi' := hi
    subst hiv
    refine tells_at ia n ic F w (decide_eq_false h) f1 (by rw [f2, hil]) (by rw [f3, hil]) (by rw [IntKind.wrap_i64]; omega) (by rw [IntKind.wrap_i64]; omega) (fun w1 v hb hv => (CR w1 v hb hv).mono ?_) (fun w1 o hb ho => ?_) (fun w1 m hm => ?_)
    · intro e w' h
      obtain ⟨oa, oc, xa, xn, xc, he, h1, h2, h3⟩ := runR_ok h
      have e0 : top F.mem MS = 0 := by have := left_len0 F.mem; rw [f5] at this; exact this.symm
      rw [f5, e0] at h2
      rw [hFl] at he h1
      exact ⟨oa, oc, xa, xn, xc, he, h1, h2, h3⟩
    · have := sameb_ok o _ _ _ F.out inp w1 ho (hi.below hb)
      rw [show decide (F.out = inp) = true from decide_eq_true f4] at this
      exact this
    · have := same_ok m (.slice none 0 0) 0 0 [] [] w1 hm (Rd.nil _ _)
      exact this
end Go.Proofs.Ytfjgnhmmakeaeaa
