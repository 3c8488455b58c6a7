/- The closed fact of chapter 16's laws: the probe answers. -/
import Derived.Test.YtfjgnhmmakeaeaaE67
import Derived.Test.YtfjgnhmmakeaeaaE33
namespace Go.Proofs.Ytfjgnhmmakeaeaa
open Go.RowKit
set_option linter.unusedVariables false
set_option linter.unusedSimpArgs false
set_option maxRecDepth 100000
open Mc
def Mc.am : List U.In := [⟨2, 1, 0, 5⟩, ⟨0, 0, 0, 0⟩]
theorem am_ok : ∀ i ∈ Mc.am, i.Ok := by
  intro i hi
  simp only [Mc.am, List.mem_cons, List.not_mem_nil, or_false] at hi
  rcases hi with rfl | rfl <;> exact ⟨by decide, by decide, by decide, by decide, by simp [W.I]⟩
theorem am_encs : U.encs Mc.am = [2176, 5, 0] := by decide
abbrev amB : St := Mc.begin (reg8 0 0 0 0 0 0 0 0) false false false false 0 []
theorem am_ends : (Mc.ends [2176, 5, 0] [] 10 0 0 0 0 0 0 0 0 false false false false 0 []).how = 1 := by decide +kernel
theorem am_len : ((trL [2176, 5, 0] [] 10 amB).take 10).length = 2 := by decide +kernel
theorem am_shots : ∃ x y, (trL [2176, 5, 0] [] 10 amB).take 10 = [x, y] ∧ x.2.r 1 = 5 ∧ y.1 = 2 := by
  have h := am_len
  have h1 : ((((trL [2176, 5, 0] [] 10 amB).take 10)[0]?).map (fun x => x.2.r 1)) = some 5 := by decide +kernel
  have h2 : ((((trL [2176, 5, 0] [] 10 amB).take 10)[1]?).map (fun x => x.1)) = some 2 := by decide +kernel
  generalize (trL [2176, 5, 0] [] 10 amB).take 10 = l at h h1 h2 ⊢
  match l, h with
  | [x, y], _ => exact ⟨x, y, rfl, by simpa using h1, by simpa using h2⟩
theorem am_wary : Mc.wary 3 0 (Mc.wr [0, 0, 0, 0, 0, 0, 0, 0] 0 []) 10 = 0 := by decide
theorem am_cells {w : World} {g : Nat} (hk : Blk w g 43 #[.int .i64 2, .int .i64 1, .int .i64 0, .int .i64 5, .int .i64 0, .int .i64 0, .int .i64 0, .int .i64 0]) :
    ∀ j u, ((Mc.am.flatMap U.inL).map (Value.int .i64))[j]? = some u → w.cell? ⟨g, 0 + j, none⟩ = some u := fun j u hj => by
  have e : (Mc.am.flatMap U.inL).map (Value.int .i64) = [.int .i64 2, .int .i64 1, .int .i64 0, .int .i64 5, .int .i64 0, .int .i64 0, .int .i64 0, .int .i64 0] := rfl
  rw [e] at hj
  rw [Nat.zero_add]; exact HasL.of_blk hk _ ⟨[], rfl⟩ j u hj
theorem am_encode (g : Nat) (w1 : World) (hk : Blk w1 g 43 #[.int .i64 2, .int .i64 1, .int .i64 0, .int .i64 5, .int .i64 0, .int .i64 0, .int .i64 0, .int .i64 0]) :
    Calls Try.prog 25 #[.slice (some ⟨g, 0, none⟩) 2 2] w1 fun e w' => ∃ v', e = .returned (.tuple #[v', .agg #[.int .i64 0, .int .i64 0]]) ∧ Rd w' 1 v' 3 ([2176, 5, 0].map (Value.int .i64)) ∧ (∃ a c, v' = .slice a 3 c) ∧ Below w1.heap.size w1 w' := by
  refine (encode_some g 0 2 2 Mc.am rfl am_ok (by rw [am_encs]; show 3 ≤ 65536; omega) (by omega) w1 (am_cells hk) hk.lt).mono ?_
  rintro e w' ⟨v', he, ho, hb2⟩
  rw [am_encs] at ho
  obtain ⟨a, c, hv, _⟩ := own_slice ho
  exact ⟨v', he, Rd.of_owns ho (by unfold maxLen; show 3 ≤ _; omega), ⟨a, c, hv⟩, hb2⟩
theorem own_shot {w : World} {B n : Nat} {v : Value} {xs : List Value} (h : w.ownsRow B 80 17 v n xs) (hn : 0 < n) : ∃ g c, v = .slice (some ⟨g, 0, none⟩) n c ∧ n ≤ c ∧ B ≤ g ∧ ∀ j u, xs[j]? = some u → w.cell? ⟨g, j, none⟩ = some u := by
  rcases h.2 with ⟨rfl, hz⟩ | ⟨g, cap, cur, rfl, hbg, hg, hnc, hcm, hcs, htake⟩
  · omega
  · refine ⟨g, cap, rfl, hnc, hbg, fun j u hj => ?_⟩
    rw [cell_of_row w g j cur _ (0, 0) hg, ← Array.getElem?_toList]
    rw [← htake, List.getElem?_take] at hj
    split at hj
    · exact hj
    · cases hj
theorem am_trace (F : St) (hF : Mc.ends [2176, 5, 0] [] 10 0 0 0 0 0 0 0 0 false false false false 0 [] = F) (w1 : World) (v : Value) (hv : Rd w1 1 v 3 ([2176, 5, 0].map (Value.int .i64))) :
    Calls Try.prog 36 #[v, stV 0 0 0 0 0 0 0 0 false false false false 0 (.slice none 0 0), .slice none 0 0, .int .i64 10, .int .i64 10] w1 fun e w' => ∃ g c oa on oc xa xn xc, e = .returned (.tuple #[.slice (some ⟨g, 0, none⟩) 2 c, ranV F (.slice oa on oc) (.slice xa xn xc), .int .i64 0]) ∧ 2 ≤ c ∧ w'.cell? ⟨g, 6, none⟩ = some (.int .i64 5) ∧ w'.cell? ⟨g, 17, none⟩ = some (.int .i64 2) ∧ Below w1.heap.size w1 w' := by
  have h0 := trace_ok v (.slice none 0 0) (.slice none 0 0) 3 0 0 0 0 0 0 0 0 0 0 0 10 10 false false false false [2176, 5, 0] [] [] w1 hv (Rd.nil _ _) (Rd.nil _ _) (fun x hx => by cases hx)
  rw [hF, am_wary, if_neg (by decide)] at h0
  refine h0.mono ?_
  rintro e w' (⟨h, _⟩ | ⟨_, lv, ov, mv, he, ho, hm, hs, _, _, hb⟩)
  · exact absurd rfl h
  · obtain ⟨x, y, hxy, h1, h2⟩ := am_shots
    have hxy' : List.take (10 : Int).toNat (trL [2176, 5, 0] [] (10 : Int).toNat amB) = [x, y] := hxy
    rw [hxy'] at hs
    obtain ⟨g, lc, rfl, hlc, _, hcell⟩ := own_shot hs (Nat.succ_pos _)
    obtain ⟨oa, oc, rfl, _⟩ := own_slice ho
    obtain ⟨xa, xc, rfl, _⟩ := own_slice hm
    exact ⟨g, lc, oa, _, oc, xa, _, xc, he, hlc, by rw [← h1]; exact hcell 6 _ rfl, by rw [← h2]; exact hcell 17 _ rfl, hb⟩
theorem am_facts {w2 w3 : World} {F : St} {g fb : Nat} {ov mv : Value} (hw : (w2.alloc (.cells ranZc 30)).setRow w2.heap.size (ranL F ov mv).toArray = w3) (h1 : fb < w2.heap.size) (h2 : g < w2.heap.size) (z0 : w2.cell? ⟨fb, 0, none⟩ = some (.int .i64 0)) (c6 : w2.cell? ⟨g, 6, none⟩ = some (.int .i64 5)) (c17 : w2.cell? ⟨g, 17, none⟩ = some (.int .i64 2)) (f1 : F.how = 1) :
    w3.cell? ⟨w2.heap.size, 0, none⟩ = some (.int .i64 1) ∧ w3.cell? ⟨fb, 0, none⟩ = some (.int .i64 0) ∧ w3.cell? ⟨g, 6, none⟩ = some (.int .i64 5) ∧ w3.cell? ⟨g, 17, none⟩ = some (.int .i64 2) ∧ Below w2.heap.size w2 w3 := by
  subst hw
  have hb := (Blk.new w2 30 ranZc).row (ranL F ov mv).toArray
  have hB : Below w2.heap.size w2 ((w2.alloc (.cells ranZc 30)).setRow w2.heap.size (ranL F ov mv).toArray) := Below.row (Ext.alloc (Below.refl _ _) _) (Nat.le_refl _) _
  refine ⟨by rw [hb.cell, ← f1]; rfl, ?_, ?_, ?_, hB⟩
  · rw [(bcell hB).1 _ _ h1]; exact z0
  · rw [(bcell hB).1 _ _ h2]; exact c6
  · rw [(bcell hB).1 _ _ h2]; exact c17
set_option maxHeartbeats 8000000 in
theorem alive16_at (F : St) (f1 : F.how = 1) (CR : ∀ (w1 : World) (v : Value), Rd w1 1 v 3 ([2176, 5, 0].map (Value.int .i64)) → Calls Try.prog 36 #[v, stV 0 0 0 0 0 0 0 0 false false false false 0 (.slice none 0 0), .slice none 0 0, .int .i64 10, .int .i64 10] w1 fun e w' => ∃ g c oa on oc xa xn xc, e = .returned (.tuple #[.slice (some ⟨g, 0, none⟩) 2 c, ranV F (.slice oa on oc) (.slice xa xn xc), .int .i64 0]) ∧ 2 ≤ c ∧ w'.cell? ⟨g, 6, none⟩ = some (.int .i64 5) ∧ w'.cell? ⟨g, 17, none⟩ = some (.int .i64 2) ∧ Below w1.heap.size w1 w') (w : World) :
    Calls Try.prog 41 #[] w fun e w' => e = .returned (.bool true) ∧ Below w.heap.size w w' := by
  have HCR := Lib.hid CR
  have HF1 := Lib.hid f1
  clear CR f1
  go_enter Try.func41, Try.ntmps41
  go_wp2_with (first | (go_at_call 25; refine (am_encode _ _ (Blk.new _ _ _)).mono ?_; rintro e w1 ⟨v1, rfl, hr1, ⟨a1, c1, rfl⟩, hb1⟩; have HR1 := Lib.hid hr1; have HB1 := Lib.hid (Ext.trans (Ext.alloc (Below.refl w.heap.size w) _) hb1); clear hr1 hb1) | (go_at_call 36; refine (HCR.out _ _ (HR1.out.below (Ext.alloc (Below.refl _ _) _))).mono ?_; rintro e w2 ⟨g, c, oa, on, oc, xa, xn, xc, rfl, hc2, c6, c17, hb2⟩; have HB2 := Lib.hid (Ext.trans (Ext.alloc HB1.out _) hb2); have hl1 : w1.heap.size < w2.heap.size := own_lt hb2; have hl2 : g < w2.heap.size := World.block_lt_of_cell? w2 ⟨g, 6, none⟩ c6; obtain ⟨z0, z1⟩ := fault_keep hb2; clear hb2) | (refine wpList_store_row rfl 30 _ _ rfl w2.heap.size (ranL F (.slice oa on oc) (.slice xa xn xc)).toArray rfl rfl 30 ranZc (Blk.new _ _ _) (by kernel_rfl) rfl (ranL_one _ _ _ _ _ _ _) ?_; generalize hw3 : (w2.alloc (Obj.cells ranZc 30)).setRow w2.heap.size (ranL F (.slice oa on oc) (.slice xa xn xc)).toArray = w3; obtain ⟨k0, k4, k5, k6, hb3⟩ := am_facts hw3 hl1 hl2 z0 c6 c17 HF1.out; have HB3 := Lib.hid (Ext.trans HB2.out hb3); clear hw3 hb3 z0 z1 c6 c17))
  go_ret
  exact ⟨rfl, HB3.out⟩
theorem alive16 (w : World) : Calls Try.prog 41 #[] w fun e w' => e = .returned (.bool true) ∧ Below w.heap.size w w' :=
  alive16_at _ am_ends (fun w1 v hv => am_trace _ rfl w1 v hv) w
end Go.Proofs.Ytfjgnhmmakeaeaa
