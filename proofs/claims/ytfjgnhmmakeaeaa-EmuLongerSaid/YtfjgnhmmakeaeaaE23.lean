/- Walks of slices.Clone and emu.wary. -/
import Derived.Test.YtfjgnhmmakeaeaaE22
import Derived.Test.YtfjgnhmmakeaeaaE11
import Derived.Lib.SliceRun
namespace Go.Proofs.Ytfjgnhmmakeaeaa
open Go.RowKit
set_option linter.unusedVariables false
set_option linter.unusedSimpArgs false
set_option maxRecDepth 100000
open Mc

theorem addr_add (b off j : Nat) : (⟨b, off, none⟩ : Addr).add j = ⟨b, off + j, none⟩ := by rcases j with _ | j <;> simp [Addr.add]
set_option maxHeartbeats 4000000 in
/-- A copy of a slice of numbers, of its own. -/
theorem clone_ok (v : Value) (n : Nat) (cs : List Value) (hn : n ≤ 65536) (h1 : ∀ u ∈ cs, u.oneCell' = true) (w : World) (hr : Rd w 1 v n cs) :
    Calls Try.prog 62 #[v] w fun e w' => ∃ v', e = .returned v' ∧ w'.ownsRow w.heap.size 3 1 v' n cs ∧ Below w.heap.size w w' := by
  obtain ⟨hl, hm, a, cap, rfl, hcap, hcell⟩ := hr
  obtain ⟨iI, hi, hz0, hz1, hz2⟩ := info_parts Try.infoI64
  cases a with
  | none =>
    have hnil : cs = [] := by
      rcases cs with _ | ⟨x, r⟩
      · rfl
      · obtain ⟨b, off, ha, _⟩ := hcell (by simp); cases ha
    subst hnil
    obtain rfl : n = 0 := by simpa using hl.symm
    have hq : ∀ w, (binOp .eql 22 (.slice none 0 cap) (.slice none 0 0)).run Try.prog w = .ok (.bool true) w := fun w => Lib.run_eql_slice_nil w _ _ none 0 cap 0 0 Try.underlying22
    go_enter Try.func62, Try.ntmps62
    go_wp2
    go_ret
    exact ⟨_, rfl, World.ownsRow_nil _ _ _ _, Below.refl _ _⟩
  | some ad =>
    have hq : ∀ w, (binOp .eql 22 (.slice (some ad) n cap) (.slice none 0 0)).run Try.prog w = .ok (.bool false) w := fun w => Lib.run_eql_slice_nil w _ _ (some ad) n cap 0 0 Try.underlying22
    have HC : Hid (∀ j u, cs[j]? = some u → w.cell? (ad.add j) = some u ∧ ad.block < w.heap.size) := fun j u hu => by
      have hne : cs ≠ [] := by intro e; subst e; simp at hu
      obtain ⟨b, off, ha, hj⟩ := hcell hne
      injection ha with ha
      subst ha
      have := hj j u hu
      exact ⟨by rw [addr_add]; exact this, World.block_lt_of_cell? w ⟨b, off + j, none⟩ this⟩
    have HL := Lib.hid hl
    clear hcell hl
    go_enter Try.func62, Try.ntmps62
    go_wp2_with (first | (at_builtin; refine wpList_append_own _ rfl _ _ 22 rfl w.heap.size 3 iI (.int .i64 0) 1 8 Try.underlying22 hi hz0 hz1 hz2 rfl (by decide) _ _ _ rfl (World.ownsRow_lit w #[] 0 (Nat.le_refl _) (by decide) rfl) ad n cap cs rfl ?c1 ?c2 h1 ?c3 ?c4 ?c5 ?_))
    case c1 => rw [HL.out]
    case c2 =>
      intro j u hj
      obtain ⟨hc, hlt⟩ := HC.out j u hj
      have hblk : (ad.add j).block = ad.block := by rcases j with _ | j <;> simp [Addr.add]
      exact (Below.cell (Ext.alloc (Below.refl w.heap.size w) (.cells #[] 3)) (p := ad.add j) (by rw [hblk]; exact hlt)).trans hc
    case c3 => unfold maxLen; omega
    case c4 => omega
    case c5 => simp
    intro v' w1 hown hgrow _
    have hb1 : Hid (Below w.heap.size w w1) := Below.trans (Ext.alloc (Below.refl _ _) (.cells #[] 3)) (grown_below hgrow (by simp) (fun k hk => by
      have := own_low (World.ownsRow_lit (base := w.heap.size) (e := 3) (size := 1) w #[] 0 (Nat.le_refl _) (by decide) rfl) k hk; exact this))
    have HO : Hid (w1.ownsRow w.heap.size 3 1 v' n cs) := by show w1.ownsRow w.heap.size 3 1 v' n cs; simpa using hown
    clear hgrow hown
    go_wp2
    go_ret
    exact ⟨_, rfl, HO.out, hb1.out⟩
/-- What is wrong with what a run is given. -/
def Mc.wary (nC nI : Nat) (wr fuel : Int) : Int := if 65536 < nC ∨ 65536 < nI then 4 else if wr ≠ 0 then wr else if fuel < 0 ∨ 1000000 < fuel then 3 else 0
set_option maxHeartbeats 4000000 in
theorem wary_ok (cv iv : Value) (nC nI : Nat) (ca ia : Option Addr) (cc ic : Nat) (hcv : cv = .slice ca nC cc) (hiv : iv = .slice ia nI ic) (hnC : nC ≤ 9223372036854775807) (hnI : nI ≤ 9223372036854775807) (r0 r1 r2 r3 r4 r5 r6 r7 pc fuel : Int) (c z n v : Bool) (mv : Value) (mn : Nat) (ms : List Int) (w : World) (hr : Rd w 1 mv mn (ms.map (Value.int .i64))) :
    Calls Try.prog 61 #[cv, stV r0 r1 r2 r3 r4 r5 r6 r7 c z n v pc mv, iv, .int .i64 fuel] w fun e w' => e = .returned (.int .i64 (Mc.wary nC nI (Mc.wr [r0, r1, r2, r3, r4, r5, r6, r7] pc ms) fuel)) ∧ Below w.heap.size w w' := by
  subst hcv; subst hiv
  obtain ⟨hml, hmm, ma, mc, rfl, _, _⟩ := hr.ints
  obtain ⟨W0, hW0⟩ : ∃ W0, W0 = Mc.wr [r0, r1, r2, r3, r4, r5, r6, r7] pc ms := ⟨_, rfl⟩
  rw [← hW0]
  have CW : Hid (∀ w1 : World, Below w.heap.size w w1 → Calls Try.prog 17 #[stV r0 r1 r2 r3 r4 r5 r6 r7 c z n v pc (.slice ma mn mc)] w1 fun e w' => e = .returned (.int .i64 W0) ∧ Below w1.heap.size w1 w') := fun w1 hb => by
    rw [hW0]; exact wrong_ok r0 r1 r2 r3 r4 r5 r6 r7 pc c z n v _ mn ms w1 (hr.below hb)
  obtain ⟨V, hV⟩ : ∃ V, V = Mc.wary nC nI W0 fuel := ⟨_, rfl⟩
  rw [← hV]
  have HV := Lib.hid hV
  clear hV hW0 hr hml
  by_cases h1 : 65536 < nC
  · have e1 : decide ((nC : Int) > 65536) = true := by simp; omega
    have HE : Hid (V = 4) := by show V = 4; rw [HV.out]; unfold Mc.wary; rw [if_pos (.inl h1)]
    clear h1
    go_enter Try.func61, Try.ntmps61
    go_wp2
    go_ret
    exact ⟨by rw [HE.out]; rfl, Ext.alloc (Below.refl _ _) _⟩
  have e1 : decide ((nC : Int) > 65536) = false := by simp; omega
  by_cases h2 : 65536 < nI
  · have e2 : decide ((nI : Int) > 65536) = true := by simp; omega
    have HE : Hid (V = 4) := by show V = 4; rw [HV.out]; unfold Mc.wary; rw [if_pos (.inr h2)]
    clear h1 h2
    go_enter Try.func61, Try.ntmps61
    go_wp2
    go_ret
    exact ⟨by rw [HE.out]; rfl, Ext.alloc (Below.refl _ _) _⟩
  have e2 : decide ((nI : Int) > 65536) = false := by simp; omega
  have HV2 : Hid (V = if W0 ≠ 0 then W0 else if fuel < 0 ∨ 1000000 < fuel then 3 else 0) := by show V = _; rw [HV.out]; unfold Mc.wary; rw [if_neg (by omega)]
  clear h1 h2 HV
  by_cases h3 : W0 = 0
  · have e3 : (W0 != 0) = false := by simp [h3]
    have HV3 : Hid (V = if fuel < 0 ∨ 1000000 < fuel then 3 else 0) := by show V = _; rw [HV2.out, if_neg (by simp [h3])]
    clear h3 HV2
    by_cases h4 : fuel < 0
    · have e4 : decide (fuel < 0) = true := by simpa using h4
      have HE : Hid (V = 3) := by show V = 3; rw [HV3.out, if_pos (.inl h4)]
      clear h4
      go_enter Try.func61, Try.ntmps61
      go_wp2_with (first | (go_at_call 17; refine (CW.out _ (Ext.alloc (Below.refl _ _) _)).mono ?_; rintro e w1 ⟨rfl, hb1⟩; have HB1 := Lib.hid (Ext.trans (Ext.alloc (Below.refl _ _) _) hb1); clear hb1))
      go_ret
      exact ⟨by rw [HE.out]; rfl, HB1.out⟩
    have e4 : decide (fuel < 0) = false := by simpa using h4
    by_cases h5 : fuel > 1000000
    · have e5 : decide (fuel > 1000000) = true := by simpa using h5
      have HE : Hid (V = 3) := by show V = 3; rw [HV3.out, if_pos (.inr h5)]
      clear h4 h5
      go_enter Try.func61, Try.ntmps61
      go_wp2_with (first | (go_at_call 17; refine (CW.out _ (Ext.alloc (Below.refl _ _) _)).mono ?_; rintro e w1 ⟨rfl, hb1⟩; have HB1 := Lib.hid (Ext.trans (Ext.alloc (Below.refl _ _) _) hb1); clear hb1))
      go_ret
      exact ⟨by rw [HE.out]; rfl, HB1.out⟩
    have e5 : decide (fuel > 1000000) = false := by simpa using h5
    have HE : Hid (V = 0) := by show V = 0; rw [HV3.out, if_neg (by omega)]
    clear h4 h5
    go_enter Try.func61, Try.ntmps61
    go_wp2_with (first | (go_at_call 17; refine (CW.out _ (Ext.alloc (Below.refl _ _) _)).mono ?_; rintro e w1 ⟨rfl, hb1⟩; have HB1 := Lib.hid (Ext.trans (Ext.alloc (Below.refl _ _) _) hb1); clear hb1))
    go_ret
    exact ⟨by rw [HE.out]; rfl, HB1.out⟩
  · have e3 : (W0 != 0) = true := by simpa using h3
    have HE : Hid (V = W0) := by show V = _; rw [HV2.out, if_pos h3]
    clear h3 HV2
    go_enter Try.func61, Try.ntmps61
    go_wp2_with (first | (go_at_call 17; refine (CW.out _ (Ext.alloc (Below.refl _ _) _)).mono ?_; rintro e w1 ⟨rfl, hb1⟩; have HB1 := Lib.hid (Ext.trans (Ext.alloc (Below.refl _ _) _) hb1); clear hb1))
    go_ret
    exact ⟨by rw [HE.out]; rfl, HB1.out⟩
end Go.Proofs.Ytfjgnhmmakeaeaa
