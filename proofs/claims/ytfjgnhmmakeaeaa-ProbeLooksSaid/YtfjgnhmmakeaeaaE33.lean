/- The closed fact of chapter 3's laws: the machine answers. -/
import Derived.Test.YtfjgnhmmakeaeaaE32
import Derived.Test.YtfjgnhmmakeaeaaE28
import Derived.Test.YtfjgnhmmakeaeaaB0
namespace Go.Proofs.Ytfjgnhmmakeaeaa
open Go.RowKit
set_option linter.unusedVariables false
set_option linter.unusedSimpArgs false
set_option maxRecDepth 100000
open Mc

def Mc.al : List U.In := [⟨2, 1, 0, 65⟩, ⟨30, 0, 1, 0⟩, ⟨0, 0, 0, 0⟩]
theorem al_ok : ∀ i ∈ Mc.al, i.Ok := by
  intro i hi
  simp only [Mc.al, List.mem_cons, List.not_mem_nil, or_false] at hi
  rcases hi with rfl | rfl | rfl <;> exact ⟨by decide, by decide, by decide, by decide, by simp [W.I]⟩
theorem al_encs : U.encs Mc.al = [2176, 65, 30736, 0] := by decide
theorem al_ends : (Mc.ends [2176, 65, 30736, 0] [] 10 0 0 0 0 0 0 0 0 false false false false 0 []).how = 1 ∧ (Mc.ends [2176, 65, 30736, 0] [] 10 0 0 0 0 0 0 0 0 false false false false 0 []).steps = 3 ∧ (Mc.ends [2176, 65, 30736, 0] [] 10 0 0 0 0 0 0 0 0 false false false false 0 []).out = [65] := by
  refine ⟨by decide +kernel, by decide +kernel, by decide +kernel⟩
theorem own_u8 {w : World} {base : Nat} {v : Value} {x : Int} (h : w.ownsRow base 5 1 v 1 [.int .u8 x]) : ∃ g c, v = .slice (some ⟨g, 0, none⟩) 1 c ∧ w.cell? ⟨g, 0, none⟩ = some (.int .u8 x) := by
  obtain ⟨hl, h2⟩ := h
  rcases h2 with ⟨rfl, h0⟩ | ⟨g, cap, cur, rfl, hb, hg, hc, hm, hsz, htake⟩
  · exact absurd h0 (by decide)
  · refine ⟨g, cap, rfl, ?_⟩
    rw [cell_of_row w g 0 cur _ (0, 0) hg, ← Array.getElem?_toList]
    have := congrArg (fun l => l[0]?) htake
    simpa [List.getElem?_take] using this
theorem fault_keep {w1 w2 : World} (hb : Below (w1.alloc (.cells #[.int .i64 0, .int .i64 0] 50)).heap.size (w1.alloc (.cells #[.int .i64 0, .int .i64 0] 50)) w2) :
    w2.cell? ⟨w1.heap.size, 0, none⟩ = some (.int .i64 0) ∧ w2.cell? ⟨w1.heap.size, 1, none⟩ = some (.int .i64 0) := ⟨own_cell hb 0, own_cell hb 1⟩
theorem al_wary : Mc.wary 4 0 (Mc.wr [0, 0, 0, 0, 0, 0, 0, 0] 0 []) 10 = 0 := by decide
theorem al_cells {w : World} {g : Nat} (hk : Blk w g 43 #[.int .i64 2, .int .i64 1, .int .i64 0, .int .i64 65, .int .i64 30, .int .i64 0, .int .i64 1, .int .i64 0, .int .i64 0, .int .i64 0, .int .i64 0, .int .i64 0]) :
    ∀ j u, ((Mc.al.flatMap U.inL).map (Value.int .i64))[j]? = some u → w.cell? ⟨g, 0 + j, none⟩ = some u := fun j u hj => by
  have e : (Mc.al.flatMap U.inL).map (Value.int .i64) = [.int .i64 2, .int .i64 1, .int .i64 0, .int .i64 65, .int .i64 30, .int .i64 0, .int .i64 1, .int .i64 0, .int .i64 0, .int .i64 0, .int .i64 0, .int .i64 0] := rfl
  rw [e] at hj
  rw [Nat.zero_add]; exact HasL.of_blk hk _ ⟨[], rfl⟩ j u hj
theorem al_encode (g : Nat) (w1 : World) (hk : Blk w1 g 43 #[.int .i64 2, .int .i64 1, .int .i64 0, .int .i64 65, .int .i64 30, .int .i64 0, .int .i64 1, .int .i64 0, .int .i64 0, .int .i64 0, .int .i64 0, .int .i64 0]) :
    Calls Try.prog 25 #[.slice (some ⟨g, 0, none⟩) 3 3] w1 fun e w' => ∃ v', e = .returned (.tuple #[v', .agg #[.int .i64 0, .int .i64 0]]) ∧ Rd w' 1 v' 4 ([2176, 65, 30736, 0].map (Value.int .i64)) ∧ (∃ a c, v' = .slice a 4 c) ∧ Below w1.heap.size w1 w' := by
  refine (encode_some g 0 3 3 Mc.al rfl al_ok (by rw [al_encs]; show 4 ≤ 65536; omega) (by omega) w1 (al_cells hk) hk.lt).mono ?_
  rintro e w' ⟨v', he, ho, hb2⟩
  rw [al_encs] at ho
  obtain ⟨a, c, hv, _⟩ := own_slice ho
  exact ⟨v', he, Rd.of_owns ho (by unfold maxLen; show 4 ≤ _; omega), ⟨a, c, hv⟩, hb2⟩
theorem al_run (F : St) (hF : Mc.ends [2176, 65, 30736, 0] [] 10 0 0 0 0 0 0 0 0 false false false false 0 [] = F) (f3 : F.out = [65]) (w1 : World) (v : Value) (hv : Rd w1 1 v 4 ([2176, 65, 30736, 0].map (Value.int .i64))) :
    Calls Try.prog 15 #[v, stV 0 0 0 0 0 0 0 0 false false false false 0 (.slice none 0 0), .slice none 0 0, .int .i64 10] w1 fun e w' => ∃ g c ma ml mc, e = .returned (.tuple #[ranV F (.slice (some ⟨g, 0, none⟩) 1 c) (.slice ma ml mc), .int .i64 0]) ∧ w'.cell? ⟨g, 0, none⟩ = some (.int .u8 65) ∧ Below w1.heap.size w1 w' := by
  have h0 := run_ok v (.slice none 0 0) (.slice none 0 0) 4 0 0 0 0 0 0 0 0 0 0 0 10 false false false false [2176, 65, 30736, 0] [] [] w1 hv (Rd.nil _ _) (Rd.nil _ _) (fun x hx => by cases hx)
  rw [hF, al_wary] at h0
  refine h0.mono ?_
  rintro e w' (⟨h, _⟩ | ⟨_, ov, mv, he, ho, hm, _, hb⟩)
  · exact absurd rfl h
  · rw [f3] at ho
    obtain ⟨g, c, rfl, hc⟩ := own_u8 ho
    obtain ⟨a, c2, hmv, _⟩ := own_slice hm
    subst hmv
    exact ⟨g, c, a, _, c2, he, hc, hb⟩
theorem al_facts {w2 w3 : World} {F : St} {g c fb : Nat} {mv : Value} (hw : (w2.alloc (.cells ranZc 30)).setRow w2.heap.size (ranL F (.slice (some ⟨g, 0, none⟩) 1 c) mv).toArray = w3) (h1 : fb < w2.heap.size) (h2 : g < w2.heap.size) (z0 : w2.cell? ⟨fb, 0, none⟩ = some (.int .i64 0)) (hc : w2.cell? ⟨g, 0, none⟩ = some (.int .u8 65)) (f1 : F.how = 1) (f2 : F.steps = 3) :
    w3.cell? ⟨w2.heap.size, 0, none⟩ = some (.int .i64 1) ∧ w3.cell? ⟨w2.heap.size, 2, none⟩ = some (.slice (some ⟨g, 0, none⟩) 1 c) ∧ w3.cell? ⟨w2.heap.size, 4, none⟩ = some (.int .i64 3) ∧ w3.cell? ⟨fb, 0, none⟩ = some (.int .i64 0) ∧ w3.cell? ⟨g, 0, none⟩ = some (.int .u8 65) ∧ Below w2.heap.size w2 w3 := by
  subst hw
  have hb := (Blk.new w2 30 ranZc).row (ranL F (.slice (some ⟨g, 0, none⟩) 1 c) mv).toArray
  have hB : Below w2.heap.size w2 ((w2.alloc (.cells ranZc 30)).setRow w2.heap.size (ranL F (.slice (some ⟨g, 0, none⟩) 1 c) mv).toArray) := Below.row (Ext.alloc (Below.refl _ _) _) (Nat.le_refl _) _
  refine ⟨by rw [hb.cell, ← f1]; rfl, by rw [hb.cell]; rfl, by rw [hb.cell, ← f2]; rfl, ?_, ?_, hB⟩
  · rw [(bcell hB).1 _ _ h1]; exact z0
  · rw [(bcell hB).1 _ _ h2]; exact hc
set_option maxHeartbeats 8000000 in
theorem alive3_at (F : St) (f1 : F.how = 1) (f2 : F.steps = 3) (CR : ∀ (w1 : World) (v : Value), Rd w1 1 v 4 ([2176, 65, 30736, 0].map (Value.int .i64)) → Calls Try.prog 15 #[v, stV 0 0 0 0 0 0 0 0 false false false false 0 (.slice none 0 0), .slice none 0 0, .int .i64 10] w1 fun e w' => ∃ g c ma ml mc, e = .returned (.tuple #[ranV F (.slice (some ⟨g, 0, none⟩) 1 c) (.slice ma ml mc), .int .i64 0]) ∧ w'.cell? ⟨g, 0, none⟩ = some (.int .u8 65) ∧ Below w1.heap.size w1 w') (w : World) :
    Calls Try.prog 20 #[] w fun e w' => e = .returned (.bool true) ∧ Below w.heap.size w w' := by
  have HCR := Lib.hid CR
  have HF1 := Lib.hid f1; have HF2 := Lib.hid f2
  clear CR f1 f2
  go_enter Try.func20, Try.ntmps20
  go_wp2_with (first | (go_at_call 25; refine (al_encode _ _ (Blk.new _ _ _)).mono ?_; rintro e w1 ⟨v1, rfl, hr1, ⟨a1, c1, rfl⟩, hb1⟩; have HR1 := Lib.hid hr1; have HB1 := Lib.hid (Ext.trans (Ext.alloc (Below.refl w.heap.size w) _) hb1); clear hr1 hb1) | (go_at_call 15; refine (HCR.out _ _ (HR1.out.below (Ext.alloc (Below.refl _ _) _))).mono ?_; rintro e w2 ⟨g, c, ma, ml, mc, rfl, hcell, hb2⟩; have HB2 := Lib.hid (Ext.trans (Ext.alloc HB1.out _) hb2); have hl1 : w1.heap.size < w2.heap.size := own_lt hb2; have hl2 : g < w2.heap.size := World.block_lt_of_cell? w2 ⟨g, 0, none⟩ hcell; obtain ⟨z0, z1⟩ := fault_keep hb2; clear hb2) | (refine wpList_store_row rfl 30 _ _ rfl w2.heap.size (ranL F (.slice (some ⟨g, 0, none⟩) 1 c) (.slice ma ml mc)).toArray rfl rfl 30 ranZc (Blk.new _ _ _) (by kernel_rfl) rfl (ranL_one _ _ _ _ _ _ _) ?_; generalize hw3 : (w2.alloc (Obj.cells ranZc 30)).setRow w2.heap.size (ranL F (.slice (some ⟨g, 0, none⟩) 1 c) (.slice ma ml mc)).toArray = w3; obtain ⟨k0, k2, k4, k5, k6, hb3⟩ := al_facts hw3 hl1 hl2 z0 hcell HF1.out HF2.out; have HB3 := Lib.hid (Ext.trans HB2.out hb3); clear hw3 hb3 z0 z1 hcell hl1 hl2))
  go_ret
  exact ⟨rfl, HB3.out⟩
theorem alive3 (w : World) : Calls Try.prog 20 #[] w fun e w' => e = .returned (.bool true) ∧ Below w.heap.size w w' :=
  alive3_at _ al_ends.1 al_ends.2.1 (fun w1 v hv => al_run _ rfl al_ends.2.2 w1 v hv) w
end Go.Proofs.Ytfjgnhmmakeaeaa
