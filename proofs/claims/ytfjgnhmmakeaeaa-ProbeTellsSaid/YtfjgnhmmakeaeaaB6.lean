/- Walks of ref2.Fields and ref2.Has. -/
import Derived.Test.YtfjgnhmmakeaeaaE6
import Derived.Test.YtfjgnhmmakeaeaaB0
import Derived.LoopTactic
import Derived.Deep.Cut
import Derived.Lib.ConvBytes
import Derived.Test.YtfjgnhmmakeaeaaEa
import Derived.Test.YtfjgnhmmakeaeaaB2
namespace Go.Proofs.Ytfjgnhmmakeaeaa
open Go.RowKit
set_option linter.unusedVariables false
set_option linter.unusedSimpArgs false
set_option maxRecDepth 100000
namespace U
/-- The table of fields. -/
def fldA : List ByteArray := [⟨#[46]⟩, ⟨#[100, 115]⟩, ⟨#[100, 105]⟩, ⟨#[100, 115, 105]⟩, ⟨#[100, 115, 105]⟩, ⟨#[100, 115]⟩, ⟨#[100, 115]⟩, ⟨#[100, 115]⟩, ⟨#[100, 115]⟩, ⟨#[100, 115]⟩, ⟨#[100, 115]⟩, ⟨#[100, 115]⟩, ⟨#[100, 115]⟩, ⟨#[100, 115]⟩, ⟨#[100]⟩, ⟨#[100]⟩, ⟨#[100]⟩, ⟨#[100]⟩, ⟨#[100]⟩, ⟨#[105]⟩, ⟨#[105]⟩, ⟨#[105]⟩, ⟨#[105]⟩, ⟨#[105]⟩, ⟨#[105]⟩, ⟨#[105]⟩, ⟨#[105]⟩, ⟨#[46]⟩, ⟨#[115]⟩, ⟨#[100]⟩, ⟨#[115]⟩, ⟨#[100]⟩, ⟨#[105]⟩]
def fld (op : Int) : ByteArray := if hk op then fldA.getD op.toNat ⟨#[]⟩ else ⟨#[]⟩
end U
set_option maxHeartbeats 4000000 in
theorem fields_ok (op : Int) (w : World) : Calls Try.prog 88 #[.int .i64 op] w fun e w' => e = .returned (.string (U.fld op)) ∧ Below w.heap.size w w' := by
  obtain ⟨S, hS⟩ : ∃ S, S = U.fld op := ⟨_, rfl⟩
  rw [← hS]
  have HS := Lib.hid hS
  clear hS
  by_cases h0 : op < 0
  · go_enter Try.func88, Try.ntmps88
    go_wp2
    go_ret
    refine ⟨?_, Ext.alloc (Below.refl _ _) _⟩
    rw [HS.out]; unfold U.fld U.hk; rw [if_neg (by simp; omega)]; rfl
  obtain ⟨k, rfl⟩ := Int.eq_ofNat_of_zero_le (show 0 ≤ op by omega)
  by_cases h1 : k < 33
  · have hc : ((U.fldA.map Value.string).toArray)[k]? = some (.string S) := by
      rw [HS.out]; unfold U.fld U.hk
      rw [if_pos (by simp; omega)]
      rw [List.getElem?_toArray, List.getElem?_map, List.getD_eq_getElem?_getD, Int.toNat_natCast, List.getElem?_eq_getElem (show k < U.fldA.length from h1)]; rfl
    have HC := Lib.hid hc
    clear hc
    go_enter Try.func88, Try.ntmps88
    go_upto_region 2 with (fail)
    generalize hw1 : w.alloc _ = w1
    have ck : w1.cell? ⟨w.heap.size, k, none⟩ = some (.string S) := by rw [← hw1]; exact (Blk.cell (Blk.new w _ (U.fldA.map Value.string).toArray) k).trans HC.out
    have HB := Lib.hid ((by rw [← hw1]; exact Ext.alloc (Below.refl _ _) _ : Below w.heap.size w w1))
    clear hw1
    go_wp2
    go_ret
    exact ⟨rfl, HB.out⟩
  · go_enter Try.func88, Try.ntmps88
    go_wp2
    go_ret
    refine ⟨?_, Ext.alloc (Below.refl _ _) _⟩
    rw [HS.out]; unfold U.fld U.hk; rw [if_neg (by simp; omega)]; rfl
theorem bytesWorld_below (w : World) (e : TypeId) (s : ByteArray) : Below w.heap.size w (Lib.bytesWorld w e s) :=
  ⟨rfl, rfl, rfl, by rw [Lib.bytesWorld_size]; omega, fun b hb => Lib.bytesWorld_at_old w e s b hb⟩
/-- '[]byte(s)': a new row, its bytes. -/
theorem wpList_bytes {P : Program} {ops : Array Oper} {rest : List Oper} {o : Oper} {a : Act} {w : World} {Q : Exit → Act → World → Prop} (hgd : o.guard = none) (src dst e : TypeId) (x : Operand) (ho : o.op = .convert src dst x) (s : ByteArray) (hx : a.eval x = .string s) (u : TypeDesc)
    (hs : P.underlying src = some u) (hd : P.underlying dst = some (.slice e)) (he : P.underlying e = some (.int .u8))
    (h : ∀ (w1 : World) (cap : Nat), Below w.heap.size w w1 → (∀ j, j < s.size → w1.cell? ⟨w.heap.size, j, none⟩ = some (.int .u8 (s.data.toList.getD j 0).toNat)) → wpList P ops Q rest (a.put o.dst (.slice (some ⟨w.heap.size, 0, none⟩) s.size cap)) w1) : wpList P ops Q (o :: rest) a w :=
  wpList_plain hgd fun _ hK => by
    unfold Oper.wp execOp
    simp only [ho, hx, Sem.run_bind, Sem.run_pure, Result.andThen_ok, Lib.run_convert_string_bytes w src dst e s hs hd he]
    exact hK _ _ (h _ _ (bytesWorld_below w e s) (fun j hj => Lib.bytesWorld_cell w e s j hj))
theorem fld_size (op : Int) : (U.fld op).size ≤ 3 := by
  unfold U.fld
  split
  · rename_i h
    have hb : 0 ≤ op ∧ op ≤ 32 := by simpa [U.hk] using h
    obtain ⟨k, rfl⟩ := Int.eq_ofNat_of_zero_le hb.1
    have hk : k < 33 := by omega
    clear h hb
    rw [Int.toNat_natCast]
    revert k
    decide
  · decide
set_option maxHeartbeats 4000000 in
theorem has_any (op : Int) (f : Int) (w : World) : Calls Try.prog 74 #[.int .i64 op, .int .u8 f] w fun e w' => e = .returned (.bool ((U.fld op).data.toList.any (fun x => (x.toNat : Int) == f))) ∧ Below w.heap.size w w' := by
  have hsz := fld_size op
  have CF := fun w1 : World => fields_ok op w1
  obtain ⟨S, hS⟩ : ∃ S, S = U.fld op := ⟨_, rfl⟩
  rw [← hS] at hsz CF ⊢
  have HCF := Lib.hid CF
  clear CF hS
  obtain ⟨RR, hRR⟩ : ∃ RR, RR = S.data.toList.any (fun x => (x.toNat : Int) == f) := ⟨_, rfl⟩
  rw [← hRR]
  have HRR := Lib.hid hRR
  clear hRR
  obtain ⟨n, hn⟩ : ∃ n, n = S.size := ⟨_, rfl⟩
  have hn3 : n ≤ 3 := by omega
  have hnl : S.data.toList.length = n := by rw [hn, Array.length_toList]; rfl
  have HNL := Lib.hid hnl; have HN := Lib.hid hn
  clear hsz hnl hn
  go_enter Try.func74, Try.ntmps74
  go_wp2_with (first | (go_at_call 88; refine (HCF.out _).mono ?_; rintro e w1 ⟨rfl, hb1⟩; have HB1 := Lib.hid hb1; clear hb1) | (refine wpList_bytes rfl 9 28 5 _ rfl S rfl _ Try.underlying9 Try.underlying28 Try.underlying5 ?_; intro w2 cap hb2 hc2; have HB2 := Lib.hid (Ext.trans HB1.out hb2); rw [← HN.out] at hc2 ⊢; have HC2 := Lib.hid hc2; clear hb2 hc2))
  go_loop [6, 11] (fun _ i => ∃ k : Nat, k ≤ n ∧ i = .int .i64 (k : Int) ∧ Hid ((S.data.toList.take k).any (fun x => (x.toNat : Int) == f) = false)) (fun _ i => n - (intOf i).toNat)
  case atStart => exact ⟨0, Nat.zero_le _, rfl, rfl⟩
  case round =>
    obtain ⟨k, hk, rfl, hno⟩ := hrel
    by_cases hlt : k < n
    · have ck := HC2.out k hlt
      obtain ⟨X, hX⟩ : ∃ X : Int, X = ((S.data.toList.getD k 0).toNat : Int) := ⟨_, rfl⟩
      rw [← hX] at ck
      have hnx : (S.data.toList.take (k + 1)).any (fun x => (x.toNat : Int) == f) = (X == f) := by
        have hk2 : k < S.data.toList.length := by rw [HNL.out]; exact hlt
        rw [List.take_succ_eq_append_getElem hk2, List.any_append, hno.out, hX, List.getD_eq_getElem?_getD, List.getElem?_eq_getElem hk2]
        simp
      have HNX := Lib.hid hnx
      clear hX hnx
      by_cases hx : X = f
      · have hx2 : (X == f) = true := by simpa using hx
        have HXX := Lib.hid hx2
        clear hx
        go_wp2
        go_ret
        refine ⟨?_, HB2.out⟩
        have : S.data.toList.any (fun x => (x.toNat : Int) == f) = true := by
          have h1 := HNX.out.trans HXX.out
          rw [List.any_eq_true] at h1 ⊢
          obtain ⟨x, hx1, hx2⟩ := h1
          exact ⟨x, List.mem_of_mem_take hx1, hx2⟩
        rw [HRR.out, this]; rfl
      · have hx2 : (X == f) = false := by simpa using hx
        have HXX := Lib.hid hx2
        clear hx
        go_wp2
        go_round
        case rel => exact ⟨k + 1, by omega, by go_num, HNX.out.trans HXX.out⟩
        case measure => (simp [intOf]; try omega)
    · have hkn : k = n := by omega
      have hall : S.data.toList.any (fun x => (x.toNat : Int) == f) = false := by
        have := hno.out
        rw [hkn, List.take_of_length_le (by rw [HNL.out]; exact Nat.le_refl _)] at this; exact this
      have HALL := Lib.hid hall
      clear hall
      go_wp2
      go_ret
      exact ⟨by rw [HRR.out, HALL.out]; rfl, HB2.out⟩
theorem fld_tab : ∀ k, k < 33 → ((U.fldA.getD k ⟨#[]⟩).data.toList.any (fun x => (x.toNat : Int) == 100) = U.hd k ∧ (U.fldA.getD k ⟨#[]⟩).data.toList.any (fun x => (x.toNat : Int) == 115) = U.hs k ∧ (U.fldA.getD k ⟨#[]⟩).data.toList.any (fun x => (x.toNat : Int) == 105) = U.hi k ∧ (U.fldA.getD k ⟨#[]⟩).size ≠ 0) := by decide
theorem fld_has (op : Int) : (U.fld op).data.toList.any (fun x => (x.toNat : Int) == 100) = U.hd op ∧ (U.fld op).data.toList.any (fun x => (x.toNat : Int) == 115) = U.hs op ∧ (U.fld op).data.toList.any (fun x => (x.toNat : Int) == 105) = U.hi op ∧ ((U.fld op).size = 0 ↔ U.hk op = false) := by
  by_cases h : U.hk op = true
  · have hb : 0 ≤ op ∧ op ≤ 32 := by simpa [U.hk] using h
    obtain ⟨k, rfl⟩ := Int.eq_ofNat_of_zero_le hb.1
    have := fld_tab k (by omega)
    unfold U.fld
    rw [if_pos h, Int.toNat_natCast]
    exact ⟨this.1, this.2.1, this.2.2.1, ⟨fun e => absurd e this.2.2.2, fun e => by rw [h] at e; cases e⟩⟩
  · have hb : ¬ (0 ≤ op ∧ op ≤ 32) := by simpa [U.hk] using h
    unfold U.fld
    rw [if_neg h]
    refine ⟨?_, ?_, ?_, ⟨fun _ => by simpa using h, fun _ => rfl⟩⟩
    · show false = _; unfold U.hd; exact (decide_eq_false (by omega)).symm
    · show false = _; unfold U.hs; exact (decide_eq_false (by omega)).symm
    · show false = _; unfold U.hi; exact (decide_eq_false (by omega)).symm
theorem has_d (op : Int) (w : World) : Calls Try.prog 74 #[.int .i64 op, .int .u8 100] w fun e w' => e = .returned (.bool (U.hd op)) ∧ Below w.heap.size w w' := by rw [← (fld_has op).1]; exact has_any op 100 w
theorem has_s (op : Int) (w : World) : Calls Try.prog 74 #[.int .i64 op, .int .u8 115] w fun e w' => e = .returned (.bool (U.hs op)) ∧ Below w.heap.size w w' := by rw [← (fld_has op).2.1]; exact has_any op 115 w
theorem has_i (op : Int) (w : World) : Calls Try.prog 74 #[.int .i64 op, .int .u8 105] w fun e w' => e = .returned (.bool (U.hi op)) ∧ Below w.heap.size w w' := by rw [← (fld_has op).2.2.1]; exact has_any op 105 w
end Go.Proofs.Ytfjgnhmmakeaeaa
/- Walks of ref2.Wrong and ref2.Bare. -/
namespace Go.Proofs.Ytfjgnhmmakeaeaa
open Go.RowKit
set_option linter.unusedVariables false
set_option linter.unusedSimpArgs false
set_option maxRecDepth 100000
namespace U
/-- What ref2.Wrong tells of an instruction whose registers are registers. -/
def rW (op imm : Int) : Int := if hk op = false then 1 else if hi op = true ∧ wd imm = false then 3 else 0
end U
theorem blk_ins {w w1 : World} {g : Nat} {a b c d : Int} (h : Blk w g 43 #[.int .i64 a, .int .i64 b, .int .i64 c, .int .i64 d]) (hb : Below w.heap.size w w1) :
    w1.cell? ⟨g, 0, none⟩ = some (.int .i64 a) ∧ w1.cell? ⟨g, 1, none⟩ = some (.int .i64 b) ∧ w1.cell? ⟨g, 2, none⟩ = some (.int .i64 c) ∧ w1.cell? ⟨g, 3, none⟩ = some (.int .i64 d) ∧ Blk w1 g 43 #[.int .i64 a, .int .i64 b, .int .i64 c, .int .i64 d] := by
  have k := h.keep hb
  exact ⟨by rw [k.cell]; rfl, by rw [k.cell]; rfl, by rw [k.cell]; rfl, by rw [k.cell]; rfl, k⟩
abbrev insC (op d s imm : Int) : Array Value := #[.int .i64 op, .int .i64 d, .int .i64 s, .int .i64 imm]
set_option maxHeartbeats 8000000 in
theorem wrong2_at (op d s imm : Int) (S : ByteArray) (bd bs bi ov : Bool) (hd0 : 0 ≤ d ∧ d < 8) (hs0 : 0 ≤ s ∧ s < 8) (hov : ov = true ↔ ¬ (0 ≤ imm ∧ imm ≤ 65535)) (hS : S.toList.isEmpty = false) (w : World)
    (CF : ∀ w1 : World, Calls Try.prog 88 #[.int .i64 op] w1 fun e w' => e = .returned (.string S) ∧ Below w1.heap.size w1 w')
    (CD : ∀ w1 : World, Calls Try.prog 74 #[.int .i64 op, .int .u8 100] w1 fun e w' => e = .returned (.bool bd) ∧ Below w1.heap.size w1 w')
    (CS : ∀ w1 : World, Calls Try.prog 74 #[.int .i64 op, .int .u8 115] w1 fun e w' => e = .returned (.bool bs) ∧ Below w1.heap.size w1 w')
    (CI : ∀ w1 : World, Calls Try.prog 74 #[.int .i64 op, .int .u8 105] w1 fun e w' => e = .returned (.bool bi) ∧ Below w1.heap.size w1 w') :
    Calls Try.prog 89 #[insV op d s imm] w fun e w' => e = .returned (.int .i64 (if bi && ov then 3 else 0)) ∧ Below w.heap.size w w' := by
  have HCF := Lib.hid CF; have HCD := Lib.hid CD; have HCS := Lib.hid CS; have HCI := Lib.hid CI
  have HI := Lib.hid (Blk.new w 43 (insC op d s imm))
  have HW0 := Lib.hid (Ext.alloc (Below.refl w.heap.size w) (.cells (insC op d s imm) 43))
  obtain ⟨d0, d1⟩ := hd0; obtain ⟨s0, s1⟩ := hs0
  have e1 : decide (d < 0) = false := decide_eq_false (by omega)
  have e2 : decide (7 < d) = false := decide_eq_false (by omega)
  have e3 : decide (s < 0) = false := decide_eq_false (by omega)
  have e4 : decide (7 < s) = false := decide_eq_false (by omega)
  clear CF CD CS CI d0 d1 s0 s1
  have key : ∀ (b5 b6 : Bool), decide (imm < 0) = b5 → decide (65535 < imm) = b6 → ov = (b5 || b6) → Calls Try.prog 89 #[insV op d s imm] w fun e w' => e = .returned (.int .i64 (if bi && ov then 3 else 0)) ∧ Below w.heap.size w w' := by
    intro b5 b6 e5 e6 eo
    subst eo
    clear hov
    cases bd <;> cases bs <;> cases bi <;> cases b5 <;> cases b6
    all_goals
      go_enter Try.func89, Try.ntmps89
      go_wp2_with (first | (go_at_call 88; refine (HCF.out _).mono ?_; rintro e wf ⟨rfl, hbf⟩; obtain ⟨k0, k1, k2, k3, hkk⟩ := blk_ins HI.out hbf; have HIF := Lib.hid hkk; have HWF := Lib.hid (Ext.trans HW0.out hbf); clear hbf hkk) | (go_at_call_of 74 (Value.int IntKind.u8 100); refine (HCD.out _).mono ?_; rintro e wd ⟨rfl, hbd⟩; obtain ⟨k0, k1, k2, k3, hkk⟩ := blk_ins HIF.out hbd; have HID := Lib.hid hkk; have HWD := Lib.hid (Ext.trans HWF.out hbd); clear hbd hkk) | (go_at_call_of 74 (Value.int IntKind.u8 115); refine (HCS.out _).mono ?_; rintro e ws ⟨rfl, hbs⟩; obtain ⟨k0, k1, k2, k3, hkk⟩ := blk_ins HID.out hbs; have HIS := Lib.hid hkk; have HWS := Lib.hid (Ext.trans HWD.out hbs); clear hbs hkk) | (go_at_call_of 74 (Value.int IntKind.u8 105); refine (HCI.out _).mono ?_; rintro e wi ⟨rfl, hbi⟩; obtain ⟨k0, k1, k2, k3, hkk⟩ := blk_ins HIS.out hbi; have HWI := Lib.hid (Ext.trans HWS.out hbi); clear hbi hkk))
      go_ret
      exact ⟨rfl, HWI.out⟩
  refine key _ _ rfl rfl ?_
  cases ov
  · have : 0 ≤ imm ∧ imm ≤ 65535 := by
      rcases Classical.em (0 ≤ imm ∧ imm ≤ 65535) with h | h
      · exact h
      · exact absurd (hov.2 h) (by decide)
    rw [decide_eq_false (by omega), decide_eq_false (by omega)]; rfl
  · have := hov.1 rfl
    by_cases h : imm < 0
    · rw [decide_eq_true h]; rfl
    · rw [decide_eq_false h, decide_eq_true (by omega)]; rfl
set_option maxHeartbeats 4000000 in
theorem wrong2_none (op d s imm : Int) (w : World) (CF : ∀ w1 : World, Calls Try.prog 88 #[.int .i64 op] w1 fun e w' => e = .returned (.string ⟨#[]⟩) ∧ Below w1.heap.size w1 w') :
    Calls Try.prog 89 #[insV op d s imm] w fun e w' => e = .returned (.int .i64 1) ∧ Below w.heap.size w w' := by
  have HCF := Lib.hid CF
  have HI := Lib.hid (Blk.new w 43 (insC op d s imm))
  have HW0 := Lib.hid (Ext.alloc (Below.refl w.heap.size w) (.cells (insC op d s imm) 43))
  clear CF
  go_enter Try.func89, Try.ntmps89
  go_wp2_with (first | (go_at_call 88; refine (HCF.out _).mono ?_; rintro e wf ⟨rfl, hbf⟩; have HWF := Lib.hid (Ext.trans HW0.out hbf); clear hbf))
  go_ret
  exact ⟨rfl, HWF.out⟩
theorem fld_some (op : Int) (h : U.hk op = true) : (U.fld op).toList.isEmpty = false := by
  have hb : 0 ≤ op ∧ op ≤ 32 := by simpa [U.hk] using h
  obtain ⟨k, rfl⟩ := Int.eq_ofNat_of_zero_le hb.1
  have hk : k < 33 := by omega
  unfold U.fld
  rw [if_pos h, Int.toNat_natCast]
  clear h hb
  revert k
  decide +kernel
theorem fld_no (op : Int) (h : U.hk op = false) : U.fld op = ⟨#[]⟩ := by unfold U.fld; rw [if_neg (by rw [h]; decide)]
/-- ref2.Wrong. -/
theorem wrong2_ok (op d s imm : Int) (hd0 : 0 ≤ d ∧ d < 8) (hs0 : 0 ≤ s ∧ s < 8) (w : World) : Calls Try.prog 89 #[insV op d s imm] w fun e w' => e = .returned (.int .i64 (U.rW op imm)) ∧ Below w.heap.size w w' := by
  unfold U.rW
  cases hk : U.hk op
  · rw [if_pos rfl]
    exact wrong2_none op d s imm w (fun w1 => by rw [← fld_no op hk]; exact fields_ok op w1)
  · rw [if_neg (by decide)]
    have := wrong2_at op d s imm (U.fld op) (U.hd op) (U.hs op) (U.hi op) (!U.wd imm) hd0 hs0 (by unfold U.wd; simp; omega) (fld_some op hk) w (fun w1 => fields_ok op w1) (fun w1 => has_d op w1) (fun w1 => has_s op w1) (fun w1 => has_i op w1)
    refine this.mono ?_
    rintro e w' ⟨he, hb⟩
    refine ⟨?_, hb⟩
    rw [he]
    cases U.hi op <;> cases U.wd imm <;> rfl
theorem ne_a (n k : Nat) : n ≠ (⟨n + 2, k, none⟩ : Addr).block := by show n ≠ n + 2; omega
theorem ne_b (n k : Nat) : n + 1 ≠ (⟨n + 2, k, none⟩ : Addr).block := by show n + 1 ≠ n + 2; omega
theorem le_a (n k : Nat) : n ≤ (⟨n + 2, k, none⟩ : Addr).block := by show n ≤ n + 2; omega
theorem bare_start (w : World) (op d s imm : Int) : let W := ((w.alloc (Obj.cells (insC op d s imm) 43)).alloc (Obj.cells (insC 0 0 0 0) 43)).alloc (Obj.cells (insC op 0 0 0) 43)
    Below w.heap.size w W ∧ Blk W w.heap.size 43 (insC op d s imm) ∧ Blk W (w.heap.size + 1) 43 (insC 0 0 0 0) ∧ Blk W (w.heap.size + 2) 43 (insC op 0 0 0) := by
  intro W
  refine ⟨Ext.alloc (Ext.alloc (Ext.alloc (Below.refl _ _) _) _) _, ((Blk.new w _ _).alloc _).alloc _, ?_, ?_⟩
  · have := (Blk.new (w.alloc (Obj.cells (insC op d s imm) 43)) 43 (insC 0 0 0 0)).alloc (Obj.cells (insC op 0 0 0) 43)
    simpa using this
  · have := Blk.new ((w.alloc (Obj.cells (insC op d s imm) 43)).alloc (Obj.cells (insC 0 0 0 0) 43)) 43 (insC op 0 0 0)
    simpa using this
set_option maxHeartbeats 8000000 in
theorem bare_at (op d s imm : Int) (bd bs bi : Bool) (w : World)
    (CD : ∀ w1 : World, Calls Try.prog 74 #[.int .i64 op, .int .u8 100] w1 fun e w' => e = .returned (.bool bd) ∧ Below w1.heap.size w1 w')
    (CS : ∀ w1 : World, Calls Try.prog 74 #[.int .i64 op, .int .u8 115] w1 fun e w' => e = .returned (.bool bs) ∧ Below w1.heap.size w1 w')
    (CI : ∀ w1 : World, Calls Try.prog 74 #[.int .i64 op, .int .u8 105] w1 fun e w' => e = .returned (.bool bi) ∧ Below w1.heap.size w1 w') :
    Calls Try.prog 90 #[insV op d s imm] w fun e w' => e = .returned (insV op (if bd then d else 0) (if bs then s else 0) (if bi then imm else 0)) ∧ Below w.heap.size w w' := by
  have HCD := Lib.hid CD; have HCS := Lib.hid CS; have HCI := Lib.hid CI
  clear CD CS CI
  go_enter Try.func90, Try.ntmps90
  go_upto_region 2 with (fail) --
  generalize hw0 : ((w.alloc (Obj.cells (insC op d s imm) 43)).alloc (Obj.cells (insC 0 0 0 0) 43)).alloc (Obj.cells (insC op 0 0 0) 43) = w0
  obtain ⟨hb0, hi0, hr0, ho0⟩ := bare_start w op d s imm
  rw [hw0] at hb0 hi0 hr0 ho0
  obtain ⟨k0, k1, k2, k3, _⟩ := blk_ins hi0 (Below.refl _ _)
  have HB0 := Lib.hid hb0; have HI0 := Lib.hid hi0; have HR0 := Lib.hid hr0; have HO0 := Lib.hid ho0
  clear hw0 hb0 hi0 hr0 ho0
  obtain ⟨gi, hgi⟩ : ∃ g, g = w.heap.size := ⟨_, rfl⟩
  have n1 : gi ≠ gi + 2 := by omega
  have n2 : gi + 1 ≠ gi + 2 := by omega
  have N1 := Lib.hid n1; have N2 := Lib.hid n2
  clear n1 n2
  cases bd <;> cases bs <;> cases bi
  · go_wp2_with (first | (go_at_call_of 74 (Value.int IntKind.u8 100); refine (HCD.out _).mono ?_; rintro e wa ⟨rfl, hba⟩; have HBa := Lib.hid (Ext.trans (HB0.out) hba); have HRa := Lib.hid ((HR0.out).keep hba); obtain ⟨k0, k1, k2, k3, hka⟩ := blk_ins (HI0.out) hba; obtain ⟨m0, m1, m2, m3, hoa⟩ := blk_ins (HO0.out) hba; have HIa := Lib.hid hka; have f1 := hoa.frozen 1; have f2 := hoa.frozen 2; have f3 := hoa.frozen 3; have HOa := Lib.hid hoa; clear hba hka hoa) | (go_at_call_of 74 (Value.int IntKind.u8 115); refine (HCS.out _).mono ?_; rintro e wb ⟨rfl, hbb⟩; have HBb := Lib.hid (Ext.trans (HBa.out) hbb); have HRb := Lib.hid ((HRa.out).keep hbb); obtain ⟨k0, k1, k2, k3, hkb⟩ := blk_ins (HIa.out) hbb; obtain ⟨m0, m1, m2, m3, hob⟩ := blk_ins (HOa.out) hbb; have HIb := Lib.hid hkb; have f1 := hob.frozen 1; have f2 := hob.frozen 2; have f3 := hob.frozen 3; have HOb := Lib.hid hob; clear hbb hkb hob) | (go_at_call_of 74 (Value.int IntKind.u8 105); refine (HCI.out _).mono ?_; rintro e wc ⟨rfl, hbc⟩; have HBc := Lib.hid (Ext.trans (HBb.out) hbc); have HRc := Lib.hid ((HRb.out).keep hbc); obtain ⟨k0, k1, k2, k3, hkc⟩ := blk_ins (HIb.out) hbc; obtain ⟨m0, m1, m2, m3, hoc⟩ := blk_ins (HOb.out) hbc; have HIc := Lib.hid hkc; have f1 := hoc.frozen 1; have f2 := hoc.frozen 2; have f3 := hoc.frozen 3; have HOc := Lib.hid hoc; clear hbc hkc hoc) | (refine wpList_load_row rfl 43 _ rfl (w.heap.size + 2) rfl 43 (insC op 0 0 0) (0, 0) _ (HOc.out) Try.underlying43 rfl (by kernel_rfl) ?_) | (refine wpList_store_row rfl 43 _ _ rfl (w.heap.size + 1) (insC op 0 0 0) rfl rfl 43 (insC 0 0 0 0) (HRc.out) (by kernel_rfl) rfl (by simp [Value.oneCell']) ?_))
    exact bodyPost_ret (results_cell_row rfl _ _ (w.heap.size + 1) 43 (insC op 0 0 0) (0, 0) _ rfl (Blk.row (HRc.out) _) Try.underlying43 rfl (by kernel_rfl)) rfl ⟨rfl, Below.row (HBc.out) (by omega) _⟩
  · go_wp2_with (first | (go_at_call_of 74 (Value.int IntKind.u8 100); refine (HCD.out _).mono ?_; rintro e wa ⟨rfl, hba⟩; have HBa := Lib.hid (Ext.trans (HB0.out) hba); have HRa := Lib.hid ((HR0.out).keep hba); obtain ⟨k0, k1, k2, k3, hka⟩ := blk_ins (HI0.out) hba; obtain ⟨m0, m1, m2, m3, hoa⟩ := blk_ins (HO0.out) hba; have HIa := Lib.hid hka; have f1 := hoa.frozen 1; have f2 := hoa.frozen 2; have f3 := hoa.frozen 3; have HOa := Lib.hid hoa; clear hba hka hoa) | (go_at_call_of 74 (Value.int IntKind.u8 115); refine (HCS.out _).mono ?_; rintro e wb ⟨rfl, hbb⟩; have HBb := Lib.hid (Ext.trans (HBa.out) hbb); have HRb := Lib.hid ((HRa.out).keep hbb); obtain ⟨k0, k1, k2, k3, hkb⟩ := blk_ins (HIa.out) hbb; obtain ⟨m0, m1, m2, m3, hob⟩ := blk_ins (HOa.out) hbb; have HIb := Lib.hid hkb; have f1 := hob.frozen 1; have f2 := hob.frozen 2; have f3 := hob.frozen 3; have HOb := Lib.hid hob; clear hbb hkb hob) | (go_at_call_of 74 (Value.int IntKind.u8 105); refine (HCI.out _).mono ?_; rintro e wc ⟨rfl, hbc⟩; have HBc := Lib.hid (Ext.trans (HBb.out) hbc); have HRc := Lib.hid ((HRb.out).keep hbc); obtain ⟨k0, k1, k2, k3, hkc⟩ := blk_ins (HIb.out) hbc; obtain ⟨m0, m1, m2, m3, hoc⟩ := blk_ins (HOb.out) hbc; have HIc := Lib.hid hkc; have f1 := hoc.frozen 1; have f2 := hoc.frozen 2; have f3 := hoc.frozen 3; have HOc := Lib.hid hoc; clear hbc hkc hoc) | (refine wpList_load_row rfl 43 _ rfl (w.heap.size + 2) rfl 43 (insC op 0 0 imm) (0, 0) _ (((HOc.out).set_ 3 (.int .i64 imm) : Blk _ (w.heap.size + 2) 43 (insC op 0 0 imm))) Try.underlying43 rfl (by kernel_rfl) ?_) | (refine wpList_store_row rfl 43 _ _ rfl (w.heap.size + 1) (insC op 0 0 imm) rfl rfl 43 (insC 0 0 0 0) ((HRc.out).far (p := ⟨w.heap.size + 2, 3, none⟩) (ne_b _ _) (.int .i64 imm)) (by kernel_rfl) rfl (by simp [Value.oneCell']) ?_))
    exact bodyPost_ret (results_cell_row rfl _ _ (w.heap.size + 1) 43 (insC op 0 0 imm) (0, 0) _ rfl (Blk.row ((HRc.out).far (p := ⟨w.heap.size + 2, 3, none⟩) (ne_b _ _) (.int .i64 imm)) _) Try.underlying43 rfl (by kernel_rfl)) rfl ⟨rfl, Below.row (Ext.setCell (HBc.out) (p := ⟨w.heap.size + 2, 3, none⟩) (le_a _ _) (.int .i64 imm)) (by omega) _⟩
  · go_wp2_with (first | (go_at_call_of 74 (Value.int IntKind.u8 100); refine (HCD.out _).mono ?_; rintro e wa ⟨rfl, hba⟩; have HBa := Lib.hid (Ext.trans (HB0.out) hba); have HRa := Lib.hid ((HR0.out).keep hba); obtain ⟨k0, k1, k2, k3, hka⟩ := blk_ins (HI0.out) hba; obtain ⟨m0, m1, m2, m3, hoa⟩ := blk_ins (HO0.out) hba; have HIa := Lib.hid hka; have f1 := hoa.frozen 1; have f2 := hoa.frozen 2; have f3 := hoa.frozen 3; have HOa := Lib.hid hoa; clear hba hka hoa) | (go_at_call_of 74 (Value.int IntKind.u8 115); refine (HCS.out _).mono ?_; rintro e wb ⟨rfl, hbb⟩; have HBb := Lib.hid (Ext.trans (HBa.out) hbb); have HRb := Lib.hid ((HRa.out).keep hbb); obtain ⟨k0, k1, k2, k3, hkb⟩ := blk_ins (HIa.out) hbb; obtain ⟨m0, m1, m2, m3, hob⟩ := blk_ins (HOa.out) hbb; have HIb := Lib.hid hkb; have f1 := hob.frozen 1; have f2 := hob.frozen 2; have f3 := hob.frozen 3; have HOb := Lib.hid hob; clear hbb hkb hob) | (go_at_call_of 74 (Value.int IntKind.u8 105); refine (HCI.out _).mono ?_; rintro e wc ⟨rfl, hbc⟩; have HBc := Lib.hid (Ext.trans (Ext.setCell (HBb.out) (p := ⟨w.heap.size + 2, 2, none⟩) (le_a _ _) (.int .i64 s)) hbc); have HRc := Lib.hid (((HRb.out).far (p := ⟨w.heap.size + 2, 2, none⟩) (ne_b _ _) (.int .i64 s)).keep hbc); obtain ⟨k0, k1, k2, k3, hkc⟩ := blk_ins ((HIb.out).far (p := ⟨w.heap.size + 2, 2, none⟩) (ne_a _ _) (.int .i64 s)) hbc; obtain ⟨m0, m1, m2, m3, hoc⟩ := blk_ins (((HOb.out).set_ 2 (.int .i64 s) : Blk _ (w.heap.size + 2) 43 (insC op 0 s 0))) hbc; have HIc := Lib.hid hkc; have f1 := hoc.frozen 1; have f2 := hoc.frozen 2; have f3 := hoc.frozen 3; have HOc := Lib.hid hoc; clear hbc hkc hoc) | (refine wpList_load_row rfl 43 _ rfl (w.heap.size + 2) rfl 43 (insC op 0 s 0) (0, 0) _ (HOc.out) Try.underlying43 rfl (by kernel_rfl) ?_) | (refine wpList_store_row rfl 43 _ _ rfl (w.heap.size + 1) (insC op 0 s 0) rfl rfl 43 (insC 0 0 0 0) (HRc.out) (by kernel_rfl) rfl (by simp [Value.oneCell']) ?_))
    exact bodyPost_ret (results_cell_row rfl _ _ (w.heap.size + 1) 43 (insC op 0 s 0) (0, 0) _ rfl (Blk.row (HRc.out) _) Try.underlying43 rfl (by kernel_rfl)) rfl ⟨rfl, Below.row (HBc.out) (by omega) _⟩
  · go_wp2_with (first | (go_at_call_of 74 (Value.int IntKind.u8 100); refine (HCD.out _).mono ?_; rintro e wa ⟨rfl, hba⟩; have HBa := Lib.hid (Ext.trans (HB0.out) hba); have HRa := Lib.hid ((HR0.out).keep hba); obtain ⟨k0, k1, k2, k3, hka⟩ := blk_ins (HI0.out) hba; obtain ⟨m0, m1, m2, m3, hoa⟩ := blk_ins (HO0.out) hba; have HIa := Lib.hid hka; have f1 := hoa.frozen 1; have f2 := hoa.frozen 2; have f3 := hoa.frozen 3; have HOa := Lib.hid hoa; clear hba hka hoa) | (go_at_call_of 74 (Value.int IntKind.u8 115); refine (HCS.out _).mono ?_; rintro e wb ⟨rfl, hbb⟩; have HBb := Lib.hid (Ext.trans (HBa.out) hbb); have HRb := Lib.hid ((HRa.out).keep hbb); obtain ⟨k0, k1, k2, k3, hkb⟩ := blk_ins (HIa.out) hbb; obtain ⟨m0, m1, m2, m3, hob⟩ := blk_ins (HOa.out) hbb; have HIb := Lib.hid hkb; have f1 := hob.frozen 1; have f2 := hob.frozen 2; have f3 := hob.frozen 3; have HOb := Lib.hid hob; clear hbb hkb hob) | (go_at_call_of 74 (Value.int IntKind.u8 105); refine (HCI.out _).mono ?_; rintro e wc ⟨rfl, hbc⟩; have HBc := Lib.hid (Ext.trans (Ext.setCell (HBb.out) (p := ⟨w.heap.size + 2, 2, none⟩) (le_a _ _) (.int .i64 s)) hbc); have HRc := Lib.hid (((HRb.out).far (p := ⟨w.heap.size + 2, 2, none⟩) (ne_b _ _) (.int .i64 s)).keep hbc); obtain ⟨k0, k1, k2, k3, hkc⟩ := blk_ins ((HIb.out).far (p := ⟨w.heap.size + 2, 2, none⟩) (ne_a _ _) (.int .i64 s)) hbc; obtain ⟨m0, m1, m2, m3, hoc⟩ := blk_ins (((HOb.out).set_ 2 (.int .i64 s) : Blk _ (w.heap.size + 2) 43 (insC op 0 s 0))) hbc; have HIc := Lib.hid hkc; have f1 := hoc.frozen 1; have f2 := hoc.frozen 2; have f3 := hoc.frozen 3; have HOc := Lib.hid hoc; clear hbc hkc hoc) | (refine wpList_load_row rfl 43 _ rfl (w.heap.size + 2) rfl 43 (insC op 0 s imm) (0, 0) _ (((HOc.out).set_ 3 (.int .i64 imm) : Blk _ (w.heap.size + 2) 43 (insC op 0 s imm))) Try.underlying43 rfl (by kernel_rfl) ?_) | (refine wpList_store_row rfl 43 _ _ rfl (w.heap.size + 1) (insC op 0 s imm) rfl rfl 43 (insC 0 0 0 0) ((HRc.out).far (p := ⟨w.heap.size + 2, 3, none⟩) (ne_b _ _) (.int .i64 imm)) (by kernel_rfl) rfl (by simp [Value.oneCell']) ?_))
    exact bodyPost_ret (results_cell_row rfl _ _ (w.heap.size + 1) 43 (insC op 0 s imm) (0, 0) _ rfl (Blk.row ((HRc.out).far (p := ⟨w.heap.size + 2, 3, none⟩) (ne_b _ _) (.int .i64 imm)) _) Try.underlying43 rfl (by kernel_rfl)) rfl ⟨rfl, Below.row (Ext.setCell (HBc.out) (p := ⟨w.heap.size + 2, 3, none⟩) (le_a _ _) (.int .i64 imm)) (by omega) _⟩
  · go_wp2_with (first | (go_at_call_of 74 (Value.int IntKind.u8 100); refine (HCD.out _).mono ?_; rintro e wa ⟨rfl, hba⟩; have HBa := Lib.hid (Ext.trans (HB0.out) hba); have HRa := Lib.hid ((HR0.out).keep hba); obtain ⟨k0, k1, k2, k3, hka⟩ := blk_ins (HI0.out) hba; obtain ⟨m0, m1, m2, m3, hoa⟩ := blk_ins (HO0.out) hba; have HIa := Lib.hid hka; have f1 := hoa.frozen 1; have f2 := hoa.frozen 2; have f3 := hoa.frozen 3; have HOa := Lib.hid hoa; clear hba hka hoa) | (go_at_call_of 74 (Value.int IntKind.u8 115); refine (HCS.out _).mono ?_; rintro e wb ⟨rfl, hbb⟩; have HBb := Lib.hid (Ext.trans (Ext.setCell (HBa.out) (p := ⟨w.heap.size + 2, 1, none⟩) (le_a _ _) (.int .i64 d)) hbb); have HRb := Lib.hid (((HRa.out).far (p := ⟨w.heap.size + 2, 1, none⟩) (ne_b _ _) (.int .i64 d)).keep hbb); obtain ⟨k0, k1, k2, k3, hkb⟩ := blk_ins ((HIa.out).far (p := ⟨w.heap.size + 2, 1, none⟩) (ne_a _ _) (.int .i64 d)) hbb; obtain ⟨m0, m1, m2, m3, hob⟩ := blk_ins (((HOa.out).set_ 1 (.int .i64 d) : Blk _ (w.heap.size + 2) 43 (insC op d 0 0))) hbb; have HIb := Lib.hid hkb; have f1 := hob.frozen 1; have f2 := hob.frozen 2; have f3 := hob.frozen 3; have HOb := Lib.hid hob; clear hbb hkb hob) | (go_at_call_of 74 (Value.int IntKind.u8 105); refine (HCI.out _).mono ?_; rintro e wc ⟨rfl, hbc⟩; have HBc := Lib.hid (Ext.trans (HBb.out) hbc); have HRc := Lib.hid ((HRb.out).keep hbc); obtain ⟨k0, k1, k2, k3, hkc⟩ := blk_ins (HIb.out) hbc; obtain ⟨m0, m1, m2, m3, hoc⟩ := blk_ins (HOb.out) hbc; have HIc := Lib.hid hkc; have f1 := hoc.frozen 1; have f2 := hoc.frozen 2; have f3 := hoc.frozen 3; have HOc := Lib.hid hoc; clear hbc hkc hoc) | (refine wpList_load_row rfl 43 _ rfl (w.heap.size + 2) rfl 43 (insC op d 0 0) (0, 0) _ (HOc.out) Try.underlying43 rfl (by kernel_rfl) ?_) | (refine wpList_store_row rfl 43 _ _ rfl (w.heap.size + 1) (insC op d 0 0) rfl rfl 43 (insC 0 0 0 0) (HRc.out) (by kernel_rfl) rfl (by simp [Value.oneCell']) ?_))
    exact bodyPost_ret (results_cell_row rfl _ _ (w.heap.size + 1) 43 (insC op d 0 0) (0, 0) _ rfl (Blk.row (HRc.out) _) Try.underlying43 rfl (by kernel_rfl)) rfl ⟨rfl, Below.row (HBc.out) (by omega) _⟩
  · go_wp2_with (first | (go_at_call_of 74 (Value.int IntKind.u8 100); refine (HCD.out _).mono ?_; rintro e wa ⟨rfl, hba⟩; have HBa := Lib.hid (Ext.trans (HB0.out) hba); have HRa := Lib.hid ((HR0.out).keep hba); obtain ⟨k0, k1, k2, k3, hka⟩ := blk_ins (HI0.out) hba; obtain ⟨m0, m1, m2, m3, hoa⟩ := blk_ins (HO0.out) hba; have HIa := Lib.hid hka; have f1 := hoa.frozen 1; have f2 := hoa.frozen 2; have f3 := hoa.frozen 3; have HOa := Lib.hid hoa; clear hba hka hoa) | (go_at_call_of 74 (Value.int IntKind.u8 115); refine (HCS.out _).mono ?_; rintro e wb ⟨rfl, hbb⟩; have HBb := Lib.hid (Ext.trans (Ext.setCell (HBa.out) (p := ⟨w.heap.size + 2, 1, none⟩) (le_a _ _) (.int .i64 d)) hbb); have HRb := Lib.hid (((HRa.out).far (p := ⟨w.heap.size + 2, 1, none⟩) (ne_b _ _) (.int .i64 d)).keep hbb); obtain ⟨k0, k1, k2, k3, hkb⟩ := blk_ins ((HIa.out).far (p := ⟨w.heap.size + 2, 1, none⟩) (ne_a _ _) (.int .i64 d)) hbb; obtain ⟨m0, m1, m2, m3, hob⟩ := blk_ins (((HOa.out).set_ 1 (.int .i64 d) : Blk _ (w.heap.size + 2) 43 (insC op d 0 0))) hbb; have HIb := Lib.hid hkb; have f1 := hob.frozen 1; have f2 := hob.frozen 2; have f3 := hob.frozen 3; have HOb := Lib.hid hob; clear hbb hkb hob) | (go_at_call_of 74 (Value.int IntKind.u8 105); refine (HCI.out _).mono ?_; rintro e wc ⟨rfl, hbc⟩; have HBc := Lib.hid (Ext.trans (HBb.out) hbc); have HRc := Lib.hid ((HRb.out).keep hbc); obtain ⟨k0, k1, k2, k3, hkc⟩ := blk_ins (HIb.out) hbc; obtain ⟨m0, m1, m2, m3, hoc⟩ := blk_ins (HOb.out) hbc; have HIc := Lib.hid hkc; have f1 := hoc.frozen 1; have f2 := hoc.frozen 2; have f3 := hoc.frozen 3; have HOc := Lib.hid hoc; clear hbc hkc hoc) | (refine wpList_load_row rfl 43 _ rfl (w.heap.size + 2) rfl 43 (insC op d 0 imm) (0, 0) _ (((HOc.out).set_ 3 (.int .i64 imm) : Blk _ (w.heap.size + 2) 43 (insC op d 0 imm))) Try.underlying43 rfl (by kernel_rfl) ?_) | (refine wpList_store_row rfl 43 _ _ rfl (w.heap.size + 1) (insC op d 0 imm) rfl rfl 43 (insC 0 0 0 0) ((HRc.out).far (p := ⟨w.heap.size + 2, 3, none⟩) (ne_b _ _) (.int .i64 imm)) (by kernel_rfl) rfl (by simp [Value.oneCell']) ?_))
    exact bodyPost_ret (results_cell_row rfl _ _ (w.heap.size + 1) 43 (insC op d 0 imm) (0, 0) _ rfl (Blk.row ((HRc.out).far (p := ⟨w.heap.size + 2, 3, none⟩) (ne_b _ _) (.int .i64 imm)) _) Try.underlying43 rfl (by kernel_rfl)) rfl ⟨rfl, Below.row (Ext.setCell (HBc.out) (p := ⟨w.heap.size + 2, 3, none⟩) (le_a _ _) (.int .i64 imm)) (by omega) _⟩
  · go_wp2_with (first | (go_at_call_of 74 (Value.int IntKind.u8 100); refine (HCD.out _).mono ?_; rintro e wa ⟨rfl, hba⟩; have HBa := Lib.hid (Ext.trans (HB0.out) hba); have HRa := Lib.hid ((HR0.out).keep hba); obtain ⟨k0, k1, k2, k3, hka⟩ := blk_ins (HI0.out) hba; obtain ⟨m0, m1, m2, m3, hoa⟩ := blk_ins (HO0.out) hba; have HIa := Lib.hid hka; have f1 := hoa.frozen 1; have f2 := hoa.frozen 2; have f3 := hoa.frozen 3; have HOa := Lib.hid hoa; clear hba hka hoa) | (go_at_call_of 74 (Value.int IntKind.u8 115); refine (HCS.out _).mono ?_; rintro e wb ⟨rfl, hbb⟩; have HBb := Lib.hid (Ext.trans (Ext.setCell (HBa.out) (p := ⟨w.heap.size + 2, 1, none⟩) (le_a _ _) (.int .i64 d)) hbb); have HRb := Lib.hid (((HRa.out).far (p := ⟨w.heap.size + 2, 1, none⟩) (ne_b _ _) (.int .i64 d)).keep hbb); obtain ⟨k0, k1, k2, k3, hkb⟩ := blk_ins ((HIa.out).far (p := ⟨w.heap.size + 2, 1, none⟩) (ne_a _ _) (.int .i64 d)) hbb; obtain ⟨m0, m1, m2, m3, hob⟩ := blk_ins (((HOa.out).set_ 1 (.int .i64 d) : Blk _ (w.heap.size + 2) 43 (insC op d 0 0))) hbb; have HIb := Lib.hid hkb; have f1 := hob.frozen 1; have f2 := hob.frozen 2; have f3 := hob.frozen 3; have HOb := Lib.hid hob; clear hbb hkb hob) | (go_at_call_of 74 (Value.int IntKind.u8 105); refine (HCI.out _).mono ?_; rintro e wc ⟨rfl, hbc⟩; have HBc := Lib.hid (Ext.trans (Ext.setCell (HBb.out) (p := ⟨w.heap.size + 2, 2, none⟩) (le_a _ _) (.int .i64 s)) hbc); have HRc := Lib.hid (((HRb.out).far (p := ⟨w.heap.size + 2, 2, none⟩) (ne_b _ _) (.int .i64 s)).keep hbc); obtain ⟨k0, k1, k2, k3, hkc⟩ := blk_ins ((HIb.out).far (p := ⟨w.heap.size + 2, 2, none⟩) (ne_a _ _) (.int .i64 s)) hbc; obtain ⟨m0, m1, m2, m3, hoc⟩ := blk_ins (((HOb.out).set_ 2 (.int .i64 s) : Blk _ (w.heap.size + 2) 43 (insC op d s 0))) hbc; have HIc := Lib.hid hkc; have f1 := hoc.frozen 1; have f2 := hoc.frozen 2; have f3 := hoc.frozen 3; have HOc := Lib.hid hoc; clear hbc hkc hoc) | (refine wpList_load_row rfl 43 _ rfl (w.heap.size + 2) rfl 43 (insC op d s 0) (0, 0) _ (HOc.out) Try.underlying43 rfl (by kernel_rfl) ?_) | (refine wpList_store_row rfl 43 _ _ rfl (w.heap.size + 1) (insC op d s 0) rfl rfl 43 (insC 0 0 0 0) (HRc.out) (by kernel_rfl) rfl (by simp [Value.oneCell']) ?_))
    exact bodyPost_ret (results_cell_row rfl _ _ (w.heap.size + 1) 43 (insC op d s 0) (0, 0) _ rfl (Blk.row (HRc.out) _) Try.underlying43 rfl (by kernel_rfl)) rfl ⟨rfl, Below.row (HBc.out) (by omega) _⟩
  · go_wp2_with (first | (go_at_call_of 74 (Value.int IntKind.u8 100); refine (HCD.out _).mono ?_; rintro e wa ⟨rfl, hba⟩; have HBa := Lib.hid (Ext.trans (HB0.out) hba); have HRa := Lib.hid ((HR0.out).keep hba); obtain ⟨k0, k1, k2, k3, hka⟩ := blk_ins (HI0.out) hba; obtain ⟨m0, m1, m2, m3, hoa⟩ := blk_ins (HO0.out) hba; have HIa := Lib.hid hka; have f1 := hoa.frozen 1; have f2 := hoa.frozen 2; have f3 := hoa.frozen 3; have HOa := Lib.hid hoa; clear hba hka hoa) | (go_at_call_of 74 (Value.int IntKind.u8 115); refine (HCS.out _).mono ?_; rintro e wb ⟨rfl, hbb⟩; have HBb := Lib.hid (Ext.trans (Ext.setCell (HBa.out) (p := ⟨w.heap.size + 2, 1, none⟩) (le_a _ _) (.int .i64 d)) hbb); have HRb := Lib.hid (((HRa.out).far (p := ⟨w.heap.size + 2, 1, none⟩) (ne_b _ _) (.int .i64 d)).keep hbb); obtain ⟨k0, k1, k2, k3, hkb⟩ := blk_ins ((HIa.out).far (p := ⟨w.heap.size + 2, 1, none⟩) (ne_a _ _) (.int .i64 d)) hbb; obtain ⟨m0, m1, m2, m3, hob⟩ := blk_ins (((HOa.out).set_ 1 (.int .i64 d) : Blk _ (w.heap.size + 2) 43 (insC op d 0 0))) hbb; have HIb := Lib.hid hkb; have f1 := hob.frozen 1; have f2 := hob.frozen 2; have f3 := hob.frozen 3; have HOb := Lib.hid hob; clear hbb hkb hob) | (go_at_call_of 74 (Value.int IntKind.u8 105); refine (HCI.out _).mono ?_; rintro e wc ⟨rfl, hbc⟩; have HBc := Lib.hid (Ext.trans (Ext.setCell (HBb.out) (p := ⟨w.heap.size + 2, 2, none⟩) (le_a _ _) (.int .i64 s)) hbc); have HRc := Lib.hid (((HRb.out).far (p := ⟨w.heap.size + 2, 2, none⟩) (ne_b _ _) (.int .i64 s)).keep hbc); obtain ⟨k0, k1, k2, k3, hkc⟩ := blk_ins ((HIb.out).far (p := ⟨w.heap.size + 2, 2, none⟩) (ne_a _ _) (.int .i64 s)) hbc; obtain ⟨m0, m1, m2, m3, hoc⟩ := blk_ins (((HOb.out).set_ 2 (.int .i64 s) : Blk _ (w.heap.size + 2) 43 (insC op d s 0))) hbc; have HIc := Lib.hid hkc; have f1 := hoc.frozen 1; have f2 := hoc.frozen 2; have f3 := hoc.frozen 3; have HOc := Lib.hid hoc; clear hbc hkc hoc) | (refine wpList_load_row rfl 43 _ rfl (w.heap.size + 2) rfl 43 (insC op d s imm) (0, 0) _ (((HOc.out).set_ 3 (.int .i64 imm) : Blk _ (w.heap.size + 2) 43 (insC op d s imm))) Try.underlying43 rfl (by kernel_rfl) ?_) | (refine wpList_store_row rfl 43 _ _ rfl (w.heap.size + 1) (insC op d s imm) rfl rfl 43 (insC 0 0 0 0) ((HRc.out).far (p := ⟨w.heap.size + 2, 3, none⟩) (ne_b _ _) (.int .i64 imm)) (by kernel_rfl) rfl (by simp [Value.oneCell']) ?_))
    exact bodyPost_ret (results_cell_row rfl _ _ (w.heap.size + 1) 43 (insC op d s imm) (0, 0) _ rfl (Blk.row ((HRc.out).far (p := ⟨w.heap.size + 2, 3, none⟩) (ne_b _ _) (.int .i64 imm)) _) Try.underlying43 rfl (by kernel_rfl)) rfl ⟨rfl, Below.row (Ext.setCell (HBc.out) (p := ⟨w.heap.size + 2, 3, none⟩) (le_a _ _) (.int .i64 imm)) (by omega) _⟩
end Go.Proofs.Ytfjgnhmmakeaeaa

/- Walk of ref2.Encode with one instruction. -/
namespace Go.Proofs.Ytfjgnhmmakeaeaa
open Go.RowKit
set_option linter.unusedVariables false
set_option linter.unusedSimpArgs false
set_option maxRecDepth 100000
theorem results_tc {P : Program} {fn : Func} {p r : Tmp} {ty : TypeId} (h : fn.results = #[.tmp r, .cell p ty]) (tmps : Array Value) (w : World) (g : Nat) (t : TypeId) (cs : Array Value) (fr : Nat × Nat) (d : TypeDesc)
    (hp : tmps.getD p undef = .pointer (some ⟨g, 0, none⟩)) (hg : w.heap[g]? = some (.cells cs t fr))
    (hu : P.underlying ty = some d) (hd : (match d with | .struct _ | .array _ _ => true | _ => false) = true) (hi : (P.info? ty).map (·.size) = some cs.size) :
    (results fn tmps).run P w = .ok (.tuple #[tmps.getD r undef, .agg cs]) w := by
  have hp' : tmps[p]?.getD undef = .pointer (some ⟨g, 0, none⟩) := by simpa using hp
  simp [results, h, hp', asAddr, run_loadVar_row w g t ty cs fr d hg hu hd hi]
theorem low_none {w3 w4 : World} {o : Obj} (h : (w3.alloc o).grownBy w4 (Value.slice none 0 0).ownBlock) : Below w3.heap.size w3 w4 := (Ext.alloc (Below.refl _ _) o).trans (grown_below h (Nat.le_of_lt (lt_alloc _ _)) (fun k e => by cases e))
theorem low_own {w w5 w6 : World} {B m : Nat} {v : Value} {xs : List Value} (hb : Below w.heap.size w w5) (h : w5.grownBy w6 v.ownBlock) (ho : w5.ownsRow B 3 1 v m xs) (hB : w.heap.size ≤ B) : Below w.heap.size w w6 := hb.trans (grown_below h hb.size (fun k e => ⟨Nat.le_trans hB (own_low ho k e).1, (own_low ho k e).2⟩))
theorem ne_flt : (3 : Nat) ≠ 50 := by decide
theorem own_row3 {w : World} {B e s n : Nat} {v : Value} {xs : List Value} (h : w.ownsRow B e s v (n + 1) xs) : ∃ g cap cur, v = .slice (some ⟨g, 0, none⟩) (n + 1) cap ∧ Blk w g e cur ∧ n + 1 ≤ cap ∧ cur.toList.take ((n + 1) * s) = xs := by
  rcases h.2 with ⟨rfl, hz⟩ | ⟨g, cap, cur, rfl, hbg, hg, hnc, hcm, hcs, htake⟩
  · omega
  · exact ⟨g, cap, cur, rfl, hg, hnc, htake⟩
theorem row_at3 {w : World} {g m : Nat} {t : TypeId} {cur : Array Value} {xs : List Value} {u : Value} (hb : Blk w g t cur) (h : cur.toList.take m = u :: xs) : w.cell? ⟨g, 0, none⟩ = some u := by
  rw [hb.cell, ← Array.getElem?_toList]
  have := congrArg (fun l => l[0]?) h
  simp only [List.getElem?_take] at this
  split at this
  · exact this
  · cases this
theorem cell_far_row {w : World} {g f k : Nat} {t t' : TypeId} {cs cs' cs2 : Array Value} (h : Blk w g t cs) (h' : Blk w f t' cs') (hne : t ≠ t') : (w.setRow f cs2).cell? ⟨g, k, none⟩ = w.cell? ⟨g, k, none⟩ := by
  simp only [World.cell?]
  rw [setRow_other w f g cs2 (h.ne_ h' hne)]
theorem ne_if : (3 : Nat) ≠ 50 := by decide
abbrev faZ : Array Value := #[.int .i64 0, .int .i64 0]
set_option maxHeartbeats 8000000 in
theorem enc1_wrong (g : Nat) (op d s imm E : Int) (w : World) (hg : Blk w g 43 (insC op d s imm)) (hE : E ≠ 0)
    (CW : ∀ w1 : World, Calls Try.prog 89 #[insV op d s imm] w1 fun e w' => e = .returned (.int .i64 E) ∧ Below w1.heap.size w1 w') :
    Calls Try.prog 75 #[.slice (some ⟨g, 0, none⟩) 1 1] w fun e w' => e = .returned (.tuple #[.slice none 0 0, .agg #[.int .i64 E, .int .i64 0]]) ∧ Below w.heap.size w w' := by
  have HCW := Lib.hid CW
  have e0 : (E != 0) = true := by simpa using hE
  have HG0 := Lib.hid (hg.alloc (.cells faZ 50))
  have HF0 := Lib.hid (Blk.new w 50 faZ)
  have HB0 := Lib.hid (Ext.alloc (Below.refl w.heap.size w) (.cells faZ 50))
  have HM0 := Lib.hid ((by have := Blk.new (w.alloc (.cells faZ 50)) 43 (insC op d s imm); simpa using this : Blk ((w.alloc (.cells faZ 50)).alloc (.cells (insC op d s imm) 43)) (w.heap.size + 1) 43 (insC op d s imm)))
  clear CW hE hg
  go_enter Try.func75, Try.ntmps75
  go_wp2
  refine wp_loop_rounds 2 ?_
  rw [rounds_succ]
  go_wp2_with (first | (refine wpList_load_row rfl 43 _ rfl g rfl 43 (insC op d s imm) (0, 0) _ (HG0.out) Try.underlying43 rfl (by kernel_rfl) ?_) | (go_at_call 89; refine (HCW.out _).mono ?_; rintro e w2 ⟨rfl, hb2⟩; have HB2 := Lib.hid (Ext.trans (Ext.alloc HB0.out _) hb2); have HF2 := Lib.hid ((HF0.out.alloc _).keep hb2); have HM2 := Lib.hid (HM0.out.keep hb2); obtain ⟨k0, k1, k2, k3, _⟩ := blk_ins HM0.out hb2; clear hb2) | (refine wpList_store_row rfl 50 _ _ rfl w.heap.size #[.int .i64 E, .int .i64 0] rfl rfl 50 faZ HF2.out (by kernel_rfl) rfl (by simp [Value.oneCell']) ?_))
  exact bodyPost_ret (results_tc rfl _ _ w.heap.size 50 #[.int .i64 E, .int .i64 0] (0, 0) _ rfl (HF2.out.row _) Try.underlying50 rfl (by kernel_rfl)) rfl ⟨rfl, Below.row HB2.out (Nat.le_refl _) _⟩
set_option maxHeartbeats 8000000 in
theorem enc1_some (g : Nat) (op d s imm D S I : Int) (bi : Bool) (w : World) (hg : Blk w g 43 (insC op d s imm)) (h0 : 0 ≤ op ∧ op ≤ 63) (hD : 0 ≤ D ∧ D < 8) (hS : 0 ≤ S ∧ S < 8)
    (CW : ∀ w1 : World, Calls Try.prog 89 #[insV op d s imm] w1 fun e w' => e = .returned (.int .i64 0) ∧ Below w1.heap.size w1 w')
    (CB : ∀ w1 : World, Calls Try.prog 90 #[insV op d s imm] w1 fun e w' => e = .returned (insV op D S I) ∧ Below w1.heap.size w1 w')
    (CI : ∀ w1 : World, Calls Try.prog 74 #[.int .i64 op, .int .u8 105] w1 fun e w' => e = .returned (.bool bi) ∧ Below w1.heap.size w1 w') :
    Calls Try.prog 75 #[.slice (some ⟨g, 0, none⟩) 1 1] w fun e w' => ∃ g' n c, e = .returned (.tuple #[.slice (some ⟨g', 0, none⟩) n c, .agg faZ]) ∧ 1 ≤ n ∧ n ≤ c ∧ w'.cell? ⟨g', 0, none⟩ = some (.int .i64 (op * 1024 + D * 128 + S * 16)) ∧ Below w.heap.size w w' := by
  have HCW := Lib.hid CW; have HCB := Lib.hid CB; have HCI := Lib.hid CI
  have HG0 := Lib.hid (hg.alloc (.cells faZ 50))
  have HF0 := Lib.hid (Blk.new w 50 faZ)
  have HB0 := Lib.hid (Ext.alloc (Below.refl w.heap.size w) (.cells faZ 50))
  have HM0 := Lib.hid ((by have := Blk.new (w.alloc (.cells faZ 50)) 43 (insC op d s imm); simpa using this : Blk ((w.alloc (.cells faZ 50)).alloc (.cells (insC op d s imm) 43)) (w.heap.size + 1) 43 (insC op d s imm)))
  obtain ⟨h00, h01⟩ := h0; obtain ⟨hD0, hD1⟩ := hD; obtain ⟨hS0, hS1⟩ := hS
  clear CW CB CI hg
  go_enter Try.func75, Try.ntmps75
  go_wp2
  have H1M : Hid (1 ≤ 100000000) := by show 1 ≤ 100000000; omega
  refine wp_loop_rounds 2 ?_
  rw [rounds_succ]
  cases bi
  · go_wp2_with (first | (refine wpList_load_row rfl 43 _ rfl g rfl 43 (insC op d s imm) (0, 0) _ (HG0.out) Try.underlying43 rfl (by kernel_rfl) ?_) | (go_at_call 89; refine (HCW.out _).mono ?_; rintro e w2 ⟨rfl, hb2⟩; have HB2 := Lib.hid (Ext.trans (Ext.alloc HB0.out _) hb2); have HF2 := Lib.hid ((HF0.out.alloc _).keep hb2); have HM2 := Lib.hid (HM0.out.keep hb2); obtain ⟨k0, k1, k2, k3, _⟩ := blk_ins HM0.out hb2; clear hb2) | (go_at_call 90; refine (HCB.out _).mono ?_; rintro e w3 ⟨rfl, hb3⟩; have HB3 := Lib.hid (Ext.trans HB2.out hb3); have HF3 := Lib.hid (HF2.out.keep hb3); have HM3 := Lib.hid (HM2.out.keep hb3); have hsz3 : w.heap.size + 1 ≤ w3.heap.size := HF3.out.lt; clear hb3) | (at_builtin; refine wpList_app_int rfl _ _ rfl w3.heap.size none 0 0 [] _ (op * 1024 + D * 128 + S * 16) rfl rfl (World.ownsRow_nil _ _ _ _) (size_one _ _) (Nat.zero_le _) (Nat.le_of_lt (lt_alloc _ _)) ?_; intro a4 c4 w4 ho4 hg4; have HO4 : Hid (w4.ownsRow w3.heap.size 3 1 (.slice a4 1 c4) 1 [.int .i64 (op * 1024 + D * 128 + S * 16)]) := ho4; have HB34 := Lib.hid (low_none hg4); have HX4 := Lib.hid (app_keep (World.ownsRow_nil _ w3.heap.size 3 1) hg4 (Blk.new w3 43 (insC op D S I)) ne_ins); obtain ⟨k0, k1, k2, k3, hm4⟩ := blk_ins HM3.out HB34.out; obtain ⟨m0, m1, m2, m3, _⟩ := blk_ins HX4.out (Below.refl _ _); have HM4 := Lib.hid hm4; have HF4 := Lib.hid (HF3.out.keep HB34.out); have HB4 := Lib.hid (Ext.trans HB3.out HB34.out); clear ho4 hg4 hm4) | (go_at_call_of 74 (Value.int IntKind.u8 105); refine (HCI.out _).mono ?_; rintro e w5 ⟨rfl, hb5⟩; have HB5 := Lib.hid (Ext.trans HB4.out hb5); have HF5 := Lib.hid (HF4.out.keep hb5); have HS35 := Lib.hid (Nat.le_trans HB34.out.size hb5.size); have hs03 : w.heap.size ≤ w3.heap.size := HB3.out.size; have HO5 := Lib.hid (ownsRow_below HO4.out hb5); have HW5 := Lib.hid hb5; obtain ⟨n0, n1, n2, n3, hx5⟩ := blk_ins HX4.out hb5; have HX5 := Lib.hid hx5; clear hb5 hx5))
    rw [rounds_succ]
    go_wp2_with (first | (refine wpList_store_row rfl 50 _ _ rfl w.heap.size faZ rfl rfl 50 faZ HF5.out (by kernel_rfl) rfl (by simp [Value.oneCell']) ?_))
    obtain ⟨g', cap, cur, hv, hbl, hcc, htk⟩ := own_row3 HO5.out
    injection hv with hv1 hv2 hv3
    subst hv1; subst hv3
    have hcell := row_at3 hbl htk
    exact bodyPost_ret (results_tc rfl _ _ w.heap.size 50 faZ (0, 0) _ rfl (HF5.out.row _) Try.underlying50 rfl (by kernel_rfl)) rfl ⟨g', _, _, rfl, Nat.le_refl _, hcc, (by rw [cell_far_row hbl HF5.out ne_if]; exact hcell), Below.row HB5.out (Nat.le_refl _) _⟩
  · go_wp2_with (first | (refine wpList_load_row rfl 43 _ rfl g rfl 43 (insC op d s imm) (0, 0) _ (HG0.out) Try.underlying43 rfl (by kernel_rfl) ?_) | (go_at_call 89; refine (HCW.out _).mono ?_; rintro e w2 ⟨rfl, hb2⟩; have HB2 := Lib.hid (Ext.trans (Ext.alloc HB0.out _) hb2); have HF2 := Lib.hid ((HF0.out.alloc _).keep hb2); have HM2 := Lib.hid (HM0.out.keep hb2); obtain ⟨k0, k1, k2, k3, _⟩ := blk_ins HM0.out hb2; clear hb2) | (go_at_call 90; refine (HCB.out _).mono ?_; rintro e w3 ⟨rfl, hb3⟩; have HB3 := Lib.hid (Ext.trans HB2.out hb3); have HF3 := Lib.hid (HF2.out.keep hb3); have HM3 := Lib.hid (HM2.out.keep hb3); have hsz3 : w.heap.size + 1 ≤ w3.heap.size := HF3.out.lt; clear hb3) | (go_at_call_of 74 (Value.int IntKind.u8 105); refine (HCI.out _).mono ?_; rintro e w5 ⟨rfl, hb5⟩; have HB5 := Lib.hid (Ext.trans HB4.out hb5); have HF5 := Lib.hid (HF4.out.keep hb5); have HS35 := Lib.hid (Nat.le_trans HB34.out.size hb5.size); have hs03 : w.heap.size ≤ w3.heap.size := HB3.out.size; have HO5 := Lib.hid (ownsRow_below HO4.out hb5); have HW5 := Lib.hid hb5; obtain ⟨n0, n1, n2, n3, hx5⟩ := blk_ins HX4.out hb5; have HX5 := Lib.hid hx5; clear hb5 hx5) | (at_builtin; refine wpList_app_int rfl _ _ rfl w3.heap.size a4 1 c4 [.int .i64 (op * 1024 + D * 128 + S * 16)] w5.heap.size I rfl rfl HO5.out rfl H1M.out HS35.out ?_; intro a6 c6 w6 ho6 hg6; have HO6 : Hid (w6.ownsRow w3.heap.size 3 1 (.slice a6 2 c6) 2 [.int .i64 (op * 1024 + D * 128 + S * 16), .int .i64 I]) := ho6; have HG6 : Hid (w5.grownBy w6 (Value.slice a4 1 c4).ownBlock) := hg6; clear ho6 hg6) | (at_builtin; refine wpList_app_int rfl _ _ rfl w3.heap.size none 0 0 [] _ (op * 1024 + D * 128 + S * 16) rfl rfl (World.ownsRow_nil _ _ _ _) (size_one _ _) (Nat.zero_le _) (Nat.le_of_lt (lt_alloc _ _)) ?_; intro a4 c4 w4 ho4 hg4; have HO4 : Hid (w4.ownsRow w3.heap.size 3 1 (.slice a4 1 c4) 1 [.int .i64 (op * 1024 + D * 128 + S * 16)]) := ho4; have HB34 := Lib.hid (low_none hg4); have HX4 := Lib.hid (app_keep (World.ownsRow_nil _ w3.heap.size 3 1) hg4 (Blk.new w3 43 (insC op D S I)) ne_ins); obtain ⟨k0, k1, k2, k3, hm4⟩ := blk_ins HM3.out HB34.out; obtain ⟨m0, m1, m2, m3, _⟩ := blk_ins HX4.out (Below.refl _ _); have HM4 := Lib.hid hm4; have HF4 := Lib.hid (HF3.out.keep HB34.out); have HB4 := Lib.hid (Ext.trans HB3.out HB34.out); clear ho4 hg4 hm4))
    have HF6 : Hid (Blk w6 w.heap.size 50 faZ) := app_keep HO5.out HG6.out HF5.out ne_flt
    have HB6 : Hid (Below w.heap.size w w6) := low_own HB5.out HG6.out HO5.out hs03
    rw [rounds_succ]
    go_wp2_with (first | (refine wpList_store_row rfl 50 _ _ rfl w.heap.size faZ rfl rfl 50 faZ HF6.out (by kernel_rfl) rfl (by simp [Value.oneCell']) ?_))
    obtain ⟨g', cap, cur, hv, hbl, hcc, htk⟩ := own_row3 HO6.out
    injection hv with hv1 hv2 hv3
    subst hv1; subst hv3
    have hcell := row_at3 hbl htk
    exact bodyPost_ret (results_tc rfl _ _ w.heap.size 50 faZ (0, 0) _ rfl (HF6.out.row _) Try.underlying50 rfl (by kernel_rfl)) rfl ⟨g', _, _, rfl, by omega, hcc, (by rw [cell_far_row hbl HF6.out ne_if]; exact hcell), Below.row HB6.out (Nat.le_refl _) _⟩
end Go.Proofs.Ytfjgnhmmakeaeaa

/- ref2.One. -/
namespace Go.Proofs.Ytfjgnhmmakeaeaa
open Go.RowKit
set_option linter.unusedVariables false
set_option linter.unusedSimpArgs false
set_option maxRecDepth 100000
abbrev insZ : Array Value := insC 0 0 0 0
/-- Encode with one instruction: an error, or its first word. -/
def Enc1 (E y : Int) (w : World) (e : Ending) (w' : World) : Prop :=
  (E ≠ 0 ∧ e = .returned (.tuple #[.slice none 0 0, .agg #[.int .i64 E, .int .i64 0]]) ∧ Below w.heap.size w w') ∨
  (E = 0 ∧ ∃ g' n c, e = .returned (.tuple #[.slice (some ⟨g', 0, none⟩) n c, .agg faZ]) ∧ 1 ≤ n ∧ n ≤ c ∧ w'.cell? ⟨g', 0, none⟩ = some (.int .i64 y) ∧ Below w.heap.size w w')
theorem enc1_ok (g : Nat) (op d s imm : Int) (h0 : 0 ≤ op ∧ op ≤ 63) (hd : 0 ≤ d ∧ d < 8) (hs : 0 ≤ s ∧ s < 8) (w : World) (hg : Blk w g 43 (insC op d s imm)) :
    Calls Try.prog 75 #[.slice (some ⟨g, 0, none⟩) 1 1] w (Enc1 (U.rW op imm) (op * 1024 + (if U.hd op then d else 0) * 128 + (if U.hs op then s else 0) * 16) w) := by
  have CW := fun w1 : World => wrong2_ok op d s imm hd hs w1
  by_cases hE : U.rW op imm = 0
  · rw [hE] at CW ⊢
    have hD : 0 ≤ (if U.hd op then d else 0) ∧ (if U.hd op then d else 0) < 8 := by split <;> omega
    have hS : 0 ≤ (if U.hs op then s else 0) ∧ (if U.hs op then s else 0) < 8 := by split <;> omega
    refine (enc1_some g op d s imm _ _ _ _ w hg h0 hD hS CW (fun w1 => bare_at op d s imm _ _ _ w1 (fun w2 => has_d op w2) (fun w2 => has_s op w2) (fun w2 => has_i op w2)) (fun w1 => has_i op w1)).mono ?_
    rintro e w' ⟨g', n, c, he, h1, h2, h3, h4⟩
    exact .inr ⟨rfl, g', n, c, he, h1, h2, h3, h4⟩
  · refine (enc1_wrong g op d s imm _ w hg hE CW).mono ?_
    rintro e w' ⟨he, hb⟩
    exact .inl ⟨hE, he, hb⟩
set_option maxHeartbeats 4000000 in
theorem one2_low (a : Option Addr) (n c : Nat) (pc : Int) (h : pc < 0) (w : World) : Calls Try.prog 59 #[.slice a n c, .int .i64 pc] w (OneR 0 0 0 0 0 w) := by
  have HZ := Lib.hid (Blk.new w 43 insZ)
  go_enter Try.func59, Try.ntmps59
  go_wp2_with (first | (refine wpList_store_row rfl 43 _ _ rfl w.heap.size insZ rfl rfl 43 insZ (HZ.out) (by kernel_rfl) rfl (by simp [Value.oneCell']) ?_))
  exact bodyPost_ret (results_cell2 rfl _ _ w.heap.size 43 insZ (0, 0) _ rfl (HZ.out.row _) Try.underlying43 rfl (by kernel_rfl)) rfl ⟨rfl, Below.row (Ext.alloc (Below.refl _ _) _) (Nat.le_refl _) _⟩
set_option maxHeartbeats 4000000 in
theorem one2_high (a : Option Addr) (n c k : Nat) (h : n ≤ k) (w : World) : Calls Try.prog 59 #[.slice a n c, .int .i64 (k : Int)] w (OneR 0 0 0 0 0 w) := by
  have HZ := Lib.hid (Blk.new w 43 insZ)
  have h1 : decide ((k : Int) ≥ (n : Int)) = true := decide_eq_true (by omega)
  go_enter Try.func59, Try.ntmps59
  go_wp2_with (first | (refine wpList_store_row rfl 43 _ _ rfl w.heap.size insZ rfl rfl 43 insZ (HZ.out) (by kernel_rfl) rfl (by simp [Value.oneCell']) ?_))
  exact bodyPost_ret (results_cell2 rfl _ _ w.heap.size 43 insZ (0, 0) _ rfl (HZ.out.row _) Try.underlying43 rfl (by kernel_rfl)) rfl ⟨rfl, Below.row (Ext.alloc (Below.refl _ _) _) (Nat.le_refl _) _⟩
set_option maxHeartbeats 4000000 in
theorem one2_word (b off n c k : Nat) (h : k < n) (hn : n ≤ 70000) (x : Int) (w : World) (hx : w.cell? ⟨b, off + k, none⟩ = some (.int .i64 x)) (hw : U.wd x = false) : Calls Try.prog 59 #[.slice (some ⟨b, off, none⟩) n c, .int .i64 (k : Int)] w (OneR 0 0 0 0 0 w) := by
  have HZ := Lib.hid (Blk.new w 43 insZ)
  have h1 : ¬ n ≤ k := by omega
  have hb : b < w.heap.size := World.block_lt_of_cell? w ⟨b, off + k, none⟩ hx
  by_cases h0 : x < 0
  · go_enter Try.func59, Try.ntmps59
    go_wp2_with (first | (refine wpList_store_row rfl 43 _ _ rfl w.heap.size insZ rfl rfl 43 insZ (HZ.out) (by kernel_rfl) rfl (by simp [Value.oneCell']) ?_))
    exact bodyPost_ret (results_cell2 rfl _ _ w.heap.size 43 insZ (0, 0) _ rfl (HZ.out.row _) Try.underlying43 rfl (by kernel_rfl)) rfl ⟨rfl, Below.row (Ext.alloc (Below.refl _ _) _) (Nat.le_refl _) _⟩
  · have h2 : 65535 < x := by unfold U.wd at hw; simp at hw; omega
    clear hw
    go_enter Try.func59, Try.ntmps59
    go_wp2_with (first | (refine wpList_store_row rfl 43 _ _ rfl w.heap.size insZ rfl rfl 43 insZ (HZ.out) (by kernel_rfl) rfl (by simp [Value.oneCell']) ?_))
    exact bodyPost_ret (results_cell2 rfl _ _ w.heap.size 43 insZ (0, 0) _ rfl (HZ.out.row _) Try.underlying43 rfl (by kernel_rfl)) rfl ⟨rfl, Below.row (Ext.alloc (Below.refl _ _) _) (Nat.le_refl _) _⟩
--MAIN
theorem one2_start (w : World) (op d s : Int) : let W := (w.alloc (.cells insZ 43)).alloc (.cells (insC op d s 0) 43)
    Below w.heap.size w W ∧ Blk W w.heap.size 43 insZ ∧ Blk W (w.heap.size + 1) 43 (insC op d s 0) := by
  intro W
  refine ⟨Ext.alloc (Ext.alloc (Below.refl _ _) _) _, (Blk.new w _ _).alloc _, ?_⟩
  have := Blk.new (w.alloc (.cells insZ 43)) 43 (insC op d s 0)
  simpa using this
theorem ne_c (n k : Nat) : n ≠ (⟨n + 1, k, none⟩ : Addr).block := by show n ≠ n + 1; omega
theorem le_c (n k : Nat) : n ≤ (⟨n + 1, k, none⟩ : Addr).block := by show n ≤ n + 1; omega
theorem fault_at {w1 w2 : World} {a b : Int} (hb : Below (w1.alloc (.cells #[.int .i64 a, .int .i64 b] 50)).heap.size (w1.alloc (.cells #[.int .i64 a, .int .i64 b] 50)) w2) : w2.cell? ⟨w1.heap.size, 0, none⟩ = some (.int .i64 a) := own_cell hb 0
set_option maxHeartbeats 8000000 in
theorem one2_i_short (b off n c k : Nat) (h : k < n) (hn : n ≤ 70000) (x op d s y E z : Int) (w : World) (hx : w.cell? ⟨b, off + k, none⟩ = some (.int .i64 x)) (x0 : 0 ≤ x) (x1 : x ≤ 65535) (q1 : x / 1024 = op) (q2 : x / 128 % 8 = d) (q3 : x / 16 % 8 = s) (hk1 : ¬ k + 1 < n)
    (CI : ∀ w1 : World, Calls Try.prog 74 #[.int .i64 op, .int .u8 105] w1 fun e w' => e = .returned (.bool true) ∧ Below w1.heap.size w1 w')
    : Calls Try.prog 59 #[.slice (some ⟨b, off, none⟩) n c, .int .i64 (k : Int)] w (OneR 0 0 0 0 0 w) := by
  have HCI := Lib.hid CI
  obtain ⟨HB0a, HZ0a, HX0a⟩ := one2_start w op d s
  have HB0 := Lib.hid HB0a; have HZ0 := Lib.hid HZ0a; have HX0 := Lib.hid HX0a
  have h1 : ¬ n ≤ k := by omega
  have h2 : ¬ x < 0 := by omega
  have h3 : ¬ 65535 < x := by omega
  have hb : b < w.heap.size := World.block_lt_of_cell? w ⟨b, off + k, none⟩ hx
  have e1 : decide (n ≤ k + 1) = true := decide_eq_true (by omega)
  have e1' : decide ((k : Int) + 1 ≥ (n : Int)) = true := decide_eq_true (by omega)
  clear CI HB0a HZ0a HX0a
  go_enter Try.func59, Try.ntmps59
  go_wp2_with (first | (go_at_call_of 74 (Value.int IntKind.u8 105); refine (HCI.out _).mono ?_; rintro e w2 ⟨rfl, hb2⟩; have HB2 := Lib.hid (Ext.trans HB0.out hb2); have HZ2 := Lib.hid (HZ0.out.keep hb2); obtain ⟨k0, k1, k2, k3, hx2⟩ := blk_ins HX0.out hb2; have f3 := hx2.frozen 3; have HX2 := Lib.hid hx2; clear hb2 hx2) | (refine wpList_store_row rfl 43 _ _ rfl w.heap.size insZ rfl rfl 43 insZ (HZ2.out) (by kernel_rfl) rfl (by simp [Value.oneCell']) ?_))
  exact bodyPost_ret (results_cell2 rfl _ _ w.heap.size 43 insZ (0, 0) _ rfl (Blk.row (HZ2.out) _) Try.underlying43 rfl (by kernel_rfl)) rfl ⟨rfl, Below.row (HB2.out) (Nat.le_refl _) _⟩
set_option maxHeartbeats 8000000 in
theorem one2_n_wrong (b off n c k : Nat) (h : k < n) (hn : n ≤ 70000) (x op d s y E z : Int) (w : World) (hx : w.cell? ⟨b, off + k, none⟩ = some (.int .i64 x)) (x0 : 0 ≤ x) (x1 : x ≤ 65535) (q1 : x / 1024 = op) (q2 : x / 128 % 8 = d) (q3 : x / 16 % 8 = s)
    (CI : ∀ w1 : World, Calls Try.prog 74 #[.int .i64 op, .int .u8 105] w1 fun e w' => e = .returned (.bool false) ∧ Below w1.heap.size w1 w')
    (hE : E ≠ 0) (CE : ∀ (g : Nat) (w1 : World), Blk w1 g 43 (insC op d s 0) → Calls Try.prog 75 #[.slice (some ⟨g, 0, none⟩) 1 1] w1 fun e w' => e = .returned (.tuple #[.slice none 0 0, .agg #[.int .i64 E, .int .i64 0]]) ∧ Below w1.heap.size w1 w')
    : Calls Try.prog 59 #[.slice (some ⟨b, off, none⟩) n c, .int .i64 (k : Int)] w (OneR 0 0 0 0 0 w) := by
  have HCI := Lib.hid CI
  have HCE := Lib.hid CE
  obtain ⟨HB0a, HZ0a, HX0a⟩ := one2_start w op d s
  have HB0 := Lib.hid HB0a; have HZ0 := Lib.hid HZ0a; have HX0 := Lib.hid HX0a
  have h1 : ¬ n ≤ k := by omega
  have h2 : ¬ x < 0 := by omega
  have h3 : ¬ 65535 < x := by omega
  have hb : b < w.heap.size := World.block_lt_of_cell? w ⟨b, off + k, none⟩ hx
  have e0 : (E != 0) = true := by simpa using hE
  clear CI HB0a HZ0a HX0a CE hE
  go_enter Try.func59, Try.ntmps59
  go_wp2_with (first | (go_at_call_of 74 (Value.int IntKind.u8 105); refine (HCI.out _).mono ?_; rintro e w2 ⟨rfl, hb2⟩; have HB2 := Lib.hid (Ext.trans HB0.out hb2); have HZ2 := Lib.hid (HZ0.out.keep hb2); obtain ⟨k0, k1, k2, k3, hx2⟩ := blk_ins HX0.out hb2; have f3 := hx2.frozen 3; have HX2 := Lib.hid hx2; clear hb2 hx2) | (refine wpList_load_row rfl 43 _ rfl (w.heap.size + 1) rfl 43 (insC op d s 0) (0, 0) _ HX2.out Try.underlying43 rfl (by kernel_rfl) ?_) | (go_at_call 75; refine (HCE.out _ _ (Blk.new _ _ _)).mono ?_; rintro e w4 ⟨rfl, hb4⟩; have HB4 := Lib.hid (Ext.trans (Ext.alloc HB2.out _) hb4); have HZ4 := Lib.hid ((HZ2.out.alloc _).keep hb4); have HZ5 := Lib.hid (HZ4.out.alloc (.cells #[.int .i64 E, .int .i64 0] 50)); have HB5 := Lib.hid (Ext.alloc HB4.out (.cells #[.int .i64 E, .int .i64 0] 50)); clear hb4) | (refine wpList_store_row rfl 43 _ _ rfl w.heap.size insZ rfl rfl 43 insZ (HZ5.out) (by kernel_rfl) rfl (by simp [Value.oneCell']) ?_))
  exact bodyPost_ret (results_cell2 rfl _ _ w.heap.size 43 insZ (0, 0) _ rfl (Blk.row (HZ5.out) _) Try.underlying43 rfl (by kernel_rfl)) rfl ⟨rfl, Below.row (HB5.out) (Nat.le_refl _) _⟩
set_option maxHeartbeats 8000000 in
theorem one2_i_wrong (b off n c k : Nat) (h : k < n) (hn : n ≤ 70000) (x op d s y E z : Int) (w : World) (hx : w.cell? ⟨b, off + k, none⟩ = some (.int .i64 x)) (x0 : 0 ≤ x) (x1 : x ≤ 65535) (q1 : x / 1024 = op) (q2 : x / 128 % 8 = d) (q3 : x / 16 % 8 = s) (hk1 : k + 1 < n) (hy : w.cell? ⟨b, off + (k + 1), none⟩ = some (.int .i64 y))
    (CI : ∀ w1 : World, Calls Try.prog 74 #[.int .i64 op, .int .u8 105] w1 fun e w' => e = .returned (.bool true) ∧ Below w1.heap.size w1 w')
    (hE : E ≠ 0) (CE : ∀ (g : Nat) (w1 : World), Blk w1 g 43 (insC op d s y) → Calls Try.prog 75 #[.slice (some ⟨g, 0, none⟩) 1 1] w1 fun e w' => e = .returned (.tuple #[.slice none 0 0, .agg #[.int .i64 E, .int .i64 0]]) ∧ Below w1.heap.size w1 w')
    : Calls Try.prog 59 #[.slice (some ⟨b, off, none⟩) n c, .int .i64 (k : Int)] w (OneR 0 0 0 0 0 w) := by
  have HCI := Lib.hid CI
  have HCE := Lib.hid CE
  obtain ⟨HB0a, HZ0a, HX0a⟩ := one2_start w op d s
  have HB0 := Lib.hid HB0a; have HZ0 := Lib.hid HZ0a; have HX0 := Lib.hid HX0a
  have h1 : ¬ n ≤ k := by omega
  have h2 : ¬ x < 0 := by omega
  have h3 : ¬ 65535 < x := by omega
  have hb : b < w.heap.size := World.block_lt_of_cell? w ⟨b, off + k, none⟩ hx
  have e0 : (E != 0) = true := by simpa using hE
  have e1 : ¬ n ≤ k + 1 := by omega
  have HY := Lib.hid hy
  clear CI HB0a HZ0a HX0a CE hE hy
  go_enter Try.func59, Try.ntmps59
  go_upto_region 11 with (first | (go_at_call_of 74 (Value.int IntKind.u8 105); refine (HCI.out _).mono ?_; rintro e w2 ⟨rfl, hb2⟩; have HB2 := Lib.hid (Ext.trans HB0.out hb2); have HZ2 := Lib.hid (HZ0.out.keep hb2); obtain ⟨k0, k1, k2, k3, hx2⟩ := blk_ins HX0.out hb2; have f3 := hx2.frozen 3; have HX2 := Lib.hid hx2; have cy : w2.cell? ⟨b, off + (k + 1), none⟩ = some (.int .i64 y) := (bcell HB2.out).1 _ _ hb |>.trans HY.out; clear hb2 hx2))
  have HX3 : Hid (Blk (w2.setCell ⟨w.heap.size + 1, 3, none⟩ (.int .i64 y)) (w.heap.size + 1) 43 (insC op d s y)) := HX2.out.set_ 3 (.int .i64 y)
  have HZ3 : Hid (Blk (w2.setCell ⟨w.heap.size + 1, 3, none⟩ (.int .i64 y)) w.heap.size 43 insZ) := HZ2.out.far (p := ⟨w.heap.size + 1, 3, none⟩) (ne_c _ _) _
  have HB3 : Hid (Below w.heap.size w (w2.setCell ⟨w.heap.size + 1, 3, none⟩ (.int .i64 y))) := Ext.setCell HB2.out (p := ⟨w.heap.size + 1, 3, none⟩) (le_c _ _) _
  clear cy k0 k1 k2 k3 f3 HX2 HZ2 HB2 HY HX0 HZ0 HB0 q1 q2 q3 hx
  generalize w2.setCell ⟨w.heap.size + 1, 3, none⟩ (.int .i64 y) = w3 at *
  go_wp2_with (first | (refine wpList_load_row rfl 43 _ rfl (w.heap.size + 1) rfl 43 (insC op d s y) (0, 0) _ HX3.out Try.underlying43 rfl (by kernel_rfl) ?_) | (go_at_call 75; refine (HCE.out _ _ (Blk.new _ _ _)).mono ?_; rintro e w4 ⟨rfl, hb4⟩; have HB4 := Lib.hid (Ext.trans (Ext.alloc HB3.out _) hb4); have HZ4 := Lib.hid ((HZ3.out.alloc _).keep hb4); have HZ5 := Lib.hid (HZ4.out.alloc (.cells #[.int .i64 E, .int .i64 0] 50)); have HB5 := Lib.hid (Ext.alloc HB4.out (.cells #[.int .i64 E, .int .i64 0] 50)); clear hb4) | (refine wpList_store_row rfl 43 _ _ rfl w.heap.size insZ rfl rfl 43 insZ (HZ5.out) (by kernel_rfl) rfl (by simp [Value.oneCell']) ?_))
  exact bodyPost_ret (results_cell2 rfl _ _ w.heap.size 43 insZ (0, 0) _ rfl (Blk.row (HZ5.out) _) Try.underlying43 rfl (by kernel_rfl)) rfl ⟨rfl, Below.row (HB5.out) (Nat.le_refl _) _⟩
set_option maxHeartbeats 8000000 in
theorem one2_n_other (b off n c k : Nat) (h : k < n) (hn : n ≤ 70000) (x op d s y E z : Int) (w : World) (hx : w.cell? ⟨b, off + k, none⟩ = some (.int .i64 x)) (x0 : 0 ≤ x) (x1 : x ≤ 65535) (q1 : x / 1024 = op) (q2 : x / 128 % 8 = d) (q3 : x / 16 % 8 = s)
    (CI : ∀ w1 : World, Calls Try.prog 74 #[.int .i64 op, .int .u8 105] w1 fun e w' => e = .returned (.bool false) ∧ Below w1.heap.size w1 w')
    (hz : (z != x) = true) (CE : ∀ (g : Nat) (w1 : World), Blk w1 g 43 (insC op d s 0) → Calls Try.prog 75 #[.slice (some ⟨g, 0, none⟩) 1 1] w1 fun e w' => ∃ g' m c, e = .returned (.tuple #[.slice (some ⟨g', 0, none⟩) m c, .agg faZ]) ∧ 1 ≤ m ∧ m ≤ c ∧ w'.cell? ⟨g', 0, none⟩ = some (.int .i64 z) ∧ Below w1.heap.size w1 w')
    : Calls Try.prog 59 #[.slice (some ⟨b, off, none⟩) n c, .int .i64 (k : Int)] w (OneR 0 0 0 0 0 w) := by
  have HCI := Lib.hid CI
  have HCE := Lib.hid CE
  obtain ⟨HB0a, HZ0a, HX0a⟩ := one2_start w op d s
  have HB0 := Lib.hid HB0a; have HZ0 := Lib.hid HZ0a; have HX0 := Lib.hid HX0a
  have h1 : ¬ n ≤ k := by omega
  have h2 : ¬ x < 0 := by omega
  have h3 : ¬ 65535 < x := by omega
  have hb : b < w.heap.size := World.block_lt_of_cell? w ⟨b, off + k, none⟩ hx
  clear CI HB0a HZ0a HX0a CE
  go_enter Try.func59, Try.ntmps59
  go_wp2_with (first | (go_at_call_of 74 (Value.int IntKind.u8 105); refine (HCI.out _).mono ?_; rintro e w2 ⟨rfl, hb2⟩; have HB2 := Lib.hid (Ext.trans HB0.out hb2); have HZ2 := Lib.hid (HZ0.out.keep hb2); obtain ⟨k0, k1, k2, k3, hx2⟩ := blk_ins HX0.out hb2; have f3 := hx2.frozen 3; have HX2 := Lib.hid hx2; clear hb2 hx2) | (refine wpList_load_row rfl 43 _ rfl (w.heap.size + 1) rfl 43 (insC op d s 0) (0, 0) _ HX2.out Try.underlying43 rfl (by kernel_rfl) ?_) | (go_at_call 75; refine (HCE.out _ _ (Blk.new _ _ _)).mono ?_; rintro e w4 ⟨g', m, cc, rfl, hm1, hm2, hcz, hb4⟩; have HB4 := Lib.hid (Ext.trans (Ext.alloc HB2.out _) hb4); have HZ4 := Lib.hid ((HZ2.out.alloc _).keep hb4); have HX4 := Lib.hid ((HX2.out.alloc _).keep hb4); have HZ5 := Lib.hid (HZ4.out.alloc (.cells faZ 50)); have HB5 := Lib.hid (Ext.alloc HB4.out (.cells faZ 50)); have HX5 := Lib.hid (HX4.out.alloc (.cells faZ 50)); have hg4 : g' < w4.heap.size := World.block_lt_of_cell? w4 ⟨g', 0, none⟩ hcz; clear hb4) | (refine wpList_store_row rfl 43 _ _ rfl w.heap.size insZ rfl rfl 43 insZ (HZ5.out) (by kernel_rfl) rfl (by simp [Value.oneCell']) ?_))
  exact bodyPost_ret (results_cell2 rfl _ _ w.heap.size 43 insZ (0, 0) _ rfl (Blk.row (HZ5.out) _) Try.underlying43 rfl (by kernel_rfl)) rfl ⟨rfl, Below.row (HB5.out) (Nat.le_refl _) _⟩
set_option maxHeartbeats 8000000 in
theorem one2_i_other (b off n c k : Nat) (h : k < n) (hn : n ≤ 70000) (x op d s y E z : Int) (w : World) (hx : w.cell? ⟨b, off + k, none⟩ = some (.int .i64 x)) (x0 : 0 ≤ x) (x1 : x ≤ 65535) (q1 : x / 1024 = op) (q2 : x / 128 % 8 = d) (q3 : x / 16 % 8 = s) (hk1 : k + 1 < n) (hy : w.cell? ⟨b, off + (k + 1), none⟩ = some (.int .i64 y))
    (CI : ∀ w1 : World, Calls Try.prog 74 #[.int .i64 op, .int .u8 105] w1 fun e w' => e = .returned (.bool true) ∧ Below w1.heap.size w1 w')
    (hz : (z != x) = true) (CE : ∀ (g : Nat) (w1 : World), Blk w1 g 43 (insC op d s y) → Calls Try.prog 75 #[.slice (some ⟨g, 0, none⟩) 1 1] w1 fun e w' => ∃ g' m c, e = .returned (.tuple #[.slice (some ⟨g', 0, none⟩) m c, .agg faZ]) ∧ 1 ≤ m ∧ m ≤ c ∧ w'.cell? ⟨g', 0, none⟩ = some (.int .i64 z) ∧ Below w1.heap.size w1 w')
    : Calls Try.prog 59 #[.slice (some ⟨b, off, none⟩) n c, .int .i64 (k : Int)] w (OneR 0 0 0 0 0 w) := by
  have HCI := Lib.hid CI
  have HCE := Lib.hid CE
  obtain ⟨HB0a, HZ0a, HX0a⟩ := one2_start w op d s
  have HB0 := Lib.hid HB0a; have HZ0 := Lib.hid HZ0a; have HX0 := Lib.hid HX0a
  have h1 : ¬ n ≤ k := by omega
  have h2 : ¬ x < 0 := by omega
  have h3 : ¬ 65535 < x := by omega
  have hb : b < w.heap.size := World.block_lt_of_cell? w ⟨b, off + k, none⟩ hx
  have e1 : ¬ n ≤ k + 1 := by omega
  have HY := Lib.hid hy
  clear CI HB0a HZ0a HX0a CE hy
  go_enter Try.func59, Try.ntmps59
  go_upto_region 11 with (first | (go_at_call_of 74 (Value.int IntKind.u8 105); refine (HCI.out _).mono ?_; rintro e w2 ⟨rfl, hb2⟩; have HB2 := Lib.hid (Ext.trans HB0.out hb2); have HZ2 := Lib.hid (HZ0.out.keep hb2); obtain ⟨k0, k1, k2, k3, hx2⟩ := blk_ins HX0.out hb2; have f3 := hx2.frozen 3; have HX2 := Lib.hid hx2; have cy : w2.cell? ⟨b, off + (k + 1), none⟩ = some (.int .i64 y) := (bcell HB2.out).1 _ _ hb |>.trans HY.out; clear hb2 hx2))
  have HX3 : Hid (Blk (w2.setCell ⟨w.heap.size + 1, 3, none⟩ (.int .i64 y)) (w.heap.size + 1) 43 (insC op d s y)) := HX2.out.set_ 3 (.int .i64 y)
  have HZ3 : Hid (Blk (w2.setCell ⟨w.heap.size + 1, 3, none⟩ (.int .i64 y)) w.heap.size 43 insZ) := HZ2.out.far (p := ⟨w.heap.size + 1, 3, none⟩) (ne_c _ _) _
  have HB3 : Hid (Below w.heap.size w (w2.setCell ⟨w.heap.size + 1, 3, none⟩ (.int .i64 y))) := Ext.setCell HB2.out (p := ⟨w.heap.size + 1, 3, none⟩) (le_c _ _) _
  clear cy k0 k1 k2 k3 f3 HX2 HZ2 HB2 HY HX0 HZ0 HB0 q1 q2 q3 hx
  generalize w2.setCell ⟨w.heap.size + 1, 3, none⟩ (.int .i64 y) = w3 at *
  go_wp2_with (first | (refine wpList_load_row rfl 43 _ rfl (w.heap.size + 1) rfl 43 (insC op d s y) (0, 0) _ HX3.out Try.underlying43 rfl (by kernel_rfl) ?_) | (go_at_call 75; refine (HCE.out _ _ (Blk.new _ _ _)).mono ?_; rintro e w4 ⟨g', m, cc, rfl, hm1, hm2, hcz, hb4⟩; have HB4 := Lib.hid (Ext.trans (Ext.alloc HB3.out _) hb4); have HZ4 := Lib.hid ((HZ3.out.alloc _).keep hb4); have HX4 := Lib.hid ((HX3.out.alloc _).keep hb4); have HZ5 := Lib.hid (HZ4.out.alloc (.cells faZ 50)); have HB5 := Lib.hid (Ext.alloc HB4.out (.cells faZ 50)); have HX5 := Lib.hid (HX4.out.alloc (.cells faZ 50)); have hg4 : g' < w4.heap.size := World.block_lt_of_cell? w4 ⟨g', 0, none⟩ hcz; clear hb4) | (refine wpList_store_row rfl 43 _ _ rfl w.heap.size insZ rfl rfl 43 insZ (HZ5.out) (by kernel_rfl) rfl (by simp [Value.oneCell']) ?_))
  exact bodyPost_ret (results_cell2 rfl _ _ w.heap.size 43 insZ (0, 0) _ rfl (Blk.row (HZ5.out) _) Try.underlying43 rfl (by kernel_rfl)) rfl ⟨rfl, Below.row (HB5.out) (Nat.le_refl _) _⟩
set_option maxHeartbeats 8000000 in
theorem one2_n_same (b off n c k : Nat) (h : k < n) (hn : n ≤ 70000) (x op d s y E z : Int) (w : World) (hx : w.cell? ⟨b, off + k, none⟩ = some (.int .i64 x)) (x0 : 0 ≤ x) (x1 : x ≤ 65535) (q1 : x / 1024 = op) (q2 : x / 128 % 8 = d) (q3 : x / 16 % 8 = s)
    (CI : ∀ w1 : World, Calls Try.prog 74 #[.int .i64 op, .int .u8 105] w1 fun e w' => e = .returned (.bool false) ∧ Below w1.heap.size w1 w')
    (hz : (z != x) = false) (CE : ∀ (g : Nat) (w1 : World), Blk w1 g 43 (insC op d s 0) → Calls Try.prog 75 #[.slice (some ⟨g, 0, none⟩) 1 1] w1 fun e w' => ∃ g' m c, e = .returned (.tuple #[.slice (some ⟨g', 0, none⟩) m c, .agg faZ]) ∧ 1 ≤ m ∧ m ≤ c ∧ w'.cell? ⟨g', 0, none⟩ = some (.int .i64 z) ∧ Below w1.heap.size w1 w')
    : Calls Try.prog 59 #[.slice (some ⟨b, off, none⟩) n c, .int .i64 (k : Int)] w (OneR op d s 0 1 w) := by
  have HCI := Lib.hid CI
  have HCE := Lib.hid CE
  obtain ⟨HB0a, HZ0a, HX0a⟩ := one2_start w op d s
  have HB0 := Lib.hid HB0a; have HZ0 := Lib.hid HZ0a; have HX0 := Lib.hid HX0a
  have h1 : ¬ n ≤ k := by omega
  have h2 : ¬ x < 0 := by omega
  have h3 : ¬ 65535 < x := by omega
  have hb : b < w.heap.size := World.block_lt_of_cell? w ⟨b, off + k, none⟩ hx
  clear CI HB0a HZ0a HX0a CE
  go_enter Try.func59, Try.ntmps59
  go_wp2_with (first | (go_at_call_of 74 (Value.int IntKind.u8 105); refine (HCI.out _).mono ?_; rintro e w2 ⟨rfl, hb2⟩; have HB2 := Lib.hid (Ext.trans HB0.out hb2); have HZ2 := Lib.hid (HZ0.out.keep hb2); obtain ⟨k0, k1, k2, k3, hx2⟩ := blk_ins HX0.out hb2; have f3 := hx2.frozen 3; have HX2 := Lib.hid hx2; clear hb2 hx2) | (refine wpList_load_row rfl 43 _ rfl (w.heap.size + 1) rfl 43 (insC op d s 0) (0, 0) _ HX2.out Try.underlying43 rfl (by kernel_rfl) ?_) | (go_at_call 75; refine (HCE.out _ _ (Blk.new _ _ _)).mono ?_; rintro e w4 ⟨g', m, cc, rfl, hm1, hm2, hcz, hb4⟩; have HB4 := Lib.hid (Ext.trans (Ext.alloc HB2.out _) hb4); have HZ4 := Lib.hid ((HZ2.out.alloc _).keep hb4); have HX4 := Lib.hid ((HX2.out.alloc _).keep hb4); have HZ5 := Lib.hid (HZ4.out.alloc (.cells faZ 50)); have HB5 := Lib.hid (Ext.alloc HB4.out (.cells faZ 50)); have HX5 := Lib.hid (HX4.out.alloc (.cells faZ 50)); have hg4 : g' < w4.heap.size := World.block_lt_of_cell? w4 ⟨g', 0, none⟩ hcz; clear hb4) | (refine wpList_load_row rfl 43 _ rfl (w.heap.size + 1) rfl 43 (insC op d s 0) (0, 0) _ HX5.out Try.underlying43 rfl (by kernel_rfl) ?_) | (refine wpList_store_row rfl 43 _ _ rfl w.heap.size (insC op d s 0) rfl rfl 43 insZ (HZ5.out) (by kernel_rfl) rfl (by simp [Value.oneCell']) ?_))
  exact bodyPost_ret (results_cell2 rfl _ _ w.heap.size 43 (insC op d s 0) (0, 0) _ rfl (Blk.row (HZ5.out) _) Try.underlying43 rfl (by kernel_rfl)) rfl ⟨rfl, Below.row (HB5.out) (Nat.le_refl _) _⟩
set_option maxHeartbeats 8000000 in
theorem one2_i_same (b off n c k : Nat) (h : k < n) (hn : n ≤ 70000) (x op d s y E z : Int) (w : World) (hx : w.cell? ⟨b, off + k, none⟩ = some (.int .i64 x)) (x0 : 0 ≤ x) (x1 : x ≤ 65535) (q1 : x / 1024 = op) (q2 : x / 128 % 8 = d) (q3 : x / 16 % 8 = s) (hk1 : k + 1 < n) (hy : w.cell? ⟨b, off + (k + 1), none⟩ = some (.int .i64 y))
    (CI : ∀ w1 : World, Calls Try.prog 74 #[.int .i64 op, .int .u8 105] w1 fun e w' => e = .returned (.bool true) ∧ Below w1.heap.size w1 w')
    (hz : (z != x) = false) (CE : ∀ (g : Nat) (w1 : World), Blk w1 g 43 (insC op d s y) → Calls Try.prog 75 #[.slice (some ⟨g, 0, none⟩) 1 1] w1 fun e w' => ∃ g' m c, e = .returned (.tuple #[.slice (some ⟨g', 0, none⟩) m c, .agg faZ]) ∧ 1 ≤ m ∧ m ≤ c ∧ w'.cell? ⟨g', 0, none⟩ = some (.int .i64 z) ∧ Below w1.heap.size w1 w')
    : Calls Try.prog 59 #[.slice (some ⟨b, off, none⟩) n c, .int .i64 (k : Int)] w (OneR op d s y 2 w) := by
  have HCI := Lib.hid CI
  have HCE := Lib.hid CE
  obtain ⟨HB0a, HZ0a, HX0a⟩ := one2_start w op d s
  have HB0 := Lib.hid HB0a; have HZ0 := Lib.hid HZ0a; have HX0 := Lib.hid HX0a
  have h1 : ¬ n ≤ k := by omega
  have h2 : ¬ x < 0 := by omega
  have h3 : ¬ 65535 < x := by omega
  have hb : b < w.heap.size := World.block_lt_of_cell? w ⟨b, off + k, none⟩ hx
  have e1 : ¬ n ≤ k + 1 := by omega
  have HY := Lib.hid hy
  clear CI HB0a HZ0a HX0a CE hy
  go_enter Try.func59, Try.ntmps59
  go_upto_region 11 with (first | (go_at_call_of 74 (Value.int IntKind.u8 105); refine (HCI.out _).mono ?_; rintro e w2 ⟨rfl, hb2⟩; have HB2 := Lib.hid (Ext.trans HB0.out hb2); have HZ2 := Lib.hid (HZ0.out.keep hb2); obtain ⟨k0, k1, k2, k3, hx2⟩ := blk_ins HX0.out hb2; have f3 := hx2.frozen 3; have HX2 := Lib.hid hx2; have cy : w2.cell? ⟨b, off + (k + 1), none⟩ = some (.int .i64 y) := (bcell HB2.out).1 _ _ hb |>.trans HY.out; clear hb2 hx2))
  have HX3 : Hid (Blk (w2.setCell ⟨w.heap.size + 1, 3, none⟩ (.int .i64 y)) (w.heap.size + 1) 43 (insC op d s y)) := HX2.out.set_ 3 (.int .i64 y)
  have HZ3 : Hid (Blk (w2.setCell ⟨w.heap.size + 1, 3, none⟩ (.int .i64 y)) w.heap.size 43 insZ) := HZ2.out.far (p := ⟨w.heap.size + 1, 3, none⟩) (ne_c _ _) _
  have HB3 : Hid (Below w.heap.size w (w2.setCell ⟨w.heap.size + 1, 3, none⟩ (.int .i64 y))) := Ext.setCell HB2.out (p := ⟨w.heap.size + 1, 3, none⟩) (le_c _ _) _
  clear cy k0 k1 k2 k3 f3 HX2 HZ2 HB2 HY HX0 HZ0 HB0 q1 q2 q3 hx
  generalize w2.setCell ⟨w.heap.size + 1, 3, none⟩ (.int .i64 y) = w3 at *
  go_wp2_with (first | (refine wpList_load_row rfl 43 _ rfl (w.heap.size + 1) rfl 43 (insC op d s y) (0, 0) _ HX3.out Try.underlying43 rfl (by kernel_rfl) ?_) | (go_at_call 75; refine (HCE.out _ _ (Blk.new _ _ _)).mono ?_; rintro e w4 ⟨g', m, cc, rfl, hm1, hm2, hcz, hb4⟩; have HB4 := Lib.hid (Ext.trans (Ext.alloc HB3.out _) hb4); have HZ4 := Lib.hid ((HZ3.out.alloc _).keep hb4); have HX4 := Lib.hid ((HX3.out.alloc _).keep hb4); have HZ5 := Lib.hid (HZ4.out.alloc (.cells faZ 50)); have HB5 := Lib.hid (Ext.alloc HB4.out (.cells faZ 50)); have HX5 := Lib.hid (HX4.out.alloc (.cells faZ 50)); have hg4 : g' < w4.heap.size := World.block_lt_of_cell? w4 ⟨g', 0, none⟩ hcz; clear hb4) | (refine wpList_load_row rfl 43 _ rfl (w.heap.size + 1) rfl 43 (insC op d s y) (0, 0) _ HX5.out Try.underlying43 rfl (by kernel_rfl) ?_) | (refine wpList_store_row rfl 43 _ _ rfl w.heap.size (insC op d s y) rfl rfl 43 insZ (HZ5.out) (by kernel_rfl) rfl (by simp [Value.oneCell']) ?_))
  exact bodyPost_ret (results_cell2 rfl _ _ w.heap.size 43 (insC op d s y) (0, 0) _ rfl (Blk.row (HZ5.out) _) Try.underlying43 rfl (by kernel_rfl)) rfl ⟨rfl, Below.row (HB5.out) (Nat.le_refl _) _⟩
end Go.Proofs.Ytfjgnhmmakeaeaa

/- ref2.One, whole: it tells what instr.One tells. -/
namespace Go.Proofs.Ytfjgnhmmakeaeaa
open Go.RowKit
set_option linter.unusedVariables false
set_option linter.unusedSimpArgs false
set_option maxRecDepth 100000
theorem one2_ok (v : Value) (n : Nat) (ws : List Int) (hn : n ≤ 70000) (pc : Int) (w : World) (hr : Rd w 1 v n (ws.map (Value.int .i64))) :
    Calls Try.prog 59 #[v, .int .i64 pc] w (OneR (U.one ws pc).op (U.one ws pc).d (U.one ws pc).s (U.one ws pc).imm (U.one ws pc).n w) := by
  obtain ⟨hl, hm, a, cap, rfl, hcap, hcell⟩ := hr.ints
  have hln : ws.length = n := hl
  by_cases h0 : pc < 0
  · unfold U.one; rw [if_pos (.inl h0)]; exact one2_low a n cap pc h0 w
  obtain ⟨k, rfl⟩ := Int.eq_ofNat_of_zero_le (show 0 ≤ pc by omega)
  by_cases hk : n ≤ k
  · unfold U.one; rw [if_pos (.inr (by omega))]; exact one2_high a n cap k hk w
  have hk : k < n := by omega
  obtain ⟨b, off, rfl, hd⟩ := hcell (by omega)
  have hx := hd k hk
  have hu1 : ¬ ((k : Int) < 0 ∨ (ws.length : Int) ≤ (k : Int)) := by omega
  generalize hX : ws.getD k 0 = x at hx
  by_cases hw : U.wd x = false
  · unfold U.one; rw [if_neg hu1, Int.toNat_natCast, hX, if_pos hw]; exact one2_word b off n cap k hk hn x w hx hw
  have hwb : 0 ≤ x ∧ x ≤ 65535 := by unfold U.wd at hw; simpa using hw
  have hD : 0 ≤ x / 128 % 8 ∧ x / 128 % 8 < 8 := by omega
  have hS : 0 ≤ x / 16 % 8 ∧ x / 16 % 8 < 8 := by omega
  have hO : 0 ≤ x / 1024 ∧ x / 1024 ≤ 63 := by omega
  have CI := fun w1 : World => has_i (x / 1024) w1
  -- the first word, put together again
  have hfirst : U.hk (x / 1024) = true → ((x / 1024 * 1024 + (if U.hd (x / 1024) then x / 128 % 8 else 0) * 128 + (if U.hs (x / 1024) then x / 16 % 8 else 0) * 16 = x) ↔ U.first x = true) := by
    intro hkk
    unfold U.first U.opOf U.dOf U.sOf
    rw [hkk]
    cases U.hd (x / 1024) <;> cases U.hs (x / 1024) <;> simp <;> omega
  have hkf : U.first x = true → U.hk (x / 1024) = true := by
    unfold U.first U.opOf; intro h; simp only [Bool.and_eq_true] at h; exact h.1.1.1
  have key : ∀ (bi : Bool) (imm : Int), U.hi (x / 1024) = bi → ∀ (g : Nat) (w1 : World), Blk w1 g 43 (insC (x / 1024) (x / 128 % 8) (x / 16 % 8) imm) → Calls Try.prog 75 #[.slice (some ⟨g, 0, none⟩) 1 1] w1 (Enc1 (U.rW (x / 1024) imm) (x / 1024 * 1024 + (if U.hd (x / 1024) then x / 128 % 8 else 0) * 128 + (if U.hs (x / 1024) then x / 16 % 8 else 0) * 16) w1) := fun bi imm _ g w1 hg => enc1_ok g _ _ _ imm hO hD hS w1 hg
  cases hbi : U.hi (x / 1024)
  · rw [hbi] at CI
    by_cases hE : U.rW (x / 1024) 0 = 0
    · have hkk : U.hk (x / 1024) = true := by
        cases h : U.hk (x / 1024)
        · unfold U.rW at hE; rw [h, if_pos rfl] at hE; exact absurd hE (by decide)
        · rfl
      have CE := fun g w1 hg => (key false 0 hbi g w1 hg).mono (R' := fun e w' => ∃ g' m c, e = .returned (.tuple #[.slice (some ⟨g', 0, none⟩) m c, .agg faZ]) ∧ 1 ≤ m ∧ m ≤ c ∧ w'.cell? ⟨g', 0, none⟩ = some (.int .i64 (x / 1024 * 1024 + (if U.hd (x / 1024) then x / 128 % 8 else 0) * 128 + (if U.hs (x / 1024) then x / 16 % 8 else 0) * 16)) ∧ Below w1.heap.size w1 w') (fun e w' h => by
        rcases h with ⟨h, _⟩ | ⟨_, h⟩
        · exact absurd hE h
        · exact h)
      by_cases hf : U.first x = true
      · have hz := (hfirst hkk).2 hf
        have := one2_n_same b off n cap k hk hn x _ _ _ 0 0 _ w hx hwb.1 hwb.2 rfl rfl rfl CI (by rw [hz]; simp) CE
        unfold U.one
        rw [if_neg hu1, Int.toNat_natCast, hX, if_neg hw, if_neg (by rw [hf]; decide), if_pos (show U.hi (U.opOf x) = false from hbi)]
        exact this
      · have hz : ¬ _ := fun h => hf ((hfirst hkk).1 h)
        have := one2_n_other b off n cap k hk hn x _ _ _ 0 0 _ w hx hwb.1 hwb.2 rfl rfl rfl CI (by simpa using hz) CE
        unfold U.one
        rw [if_neg hu1, Int.toNat_natCast, hX, if_neg hw, if_pos (by simpa using hf)]
        exact this
    · have hf : U.first x = false := by
        cases h : U.first x
        · rfl
        · have := hkf h
          unfold U.rW at hE
          rw [this, if_neg (by decide), hbi, if_neg (by simp)] at hE
          exact absurd rfl hE
      have := one2_n_wrong b off n cap k hk hn x _ _ _ 0 _ 0 w hx hwb.1 hwb.2 rfl rfl rfl CI hE (fun g w1 hg => (key false 0 hbi g w1 hg).mono (fun e w' h => by
        rcases h with ⟨_, h⟩ | ⟨h, _⟩
        · exact h
        · exact absurd h hE))
      unfold U.one
      rw [if_neg hu1, Int.toNat_natCast, hX, if_neg hw, if_pos hf]
      exact this
  · rw [hbi] at CI
    by_cases hk1 : k + 1 < n
    · have hy := hd (k + 1) hk1
      have hu2 : ¬ ((ws.length : Int) ≤ (k : Int) + 1) := by omega
      generalize hY : ws.getD (k + 1) 0 = y at hy
      by_cases hE : U.rW (x / 1024) y = 0
      · have hkk : U.hk (x / 1024) = true := by
          cases h : U.hk (x / 1024)
          · unfold U.rW at hE; rw [h, if_pos rfl] at hE; exact absurd hE (by decide)
          · rfl
        have hwy : ¬ U.wd y = false := fun h => by
          unfold U.rW at hE; rw [hkk, if_neg (by decide), hbi, if_pos ⟨rfl, h⟩] at hE; exact absurd hE (by decide)
        have CE := fun g w1 hg => (key true y hbi g w1 hg).mono (R' := fun e w' => ∃ g' m c, e = .returned (.tuple #[.slice (some ⟨g', 0, none⟩) m c, .agg faZ]) ∧ 1 ≤ m ∧ m ≤ c ∧ w'.cell? ⟨g', 0, none⟩ = some (.int .i64 (x / 1024 * 1024 + (if U.hd (x / 1024) then x / 128 % 8 else 0) * 128 + (if U.hs (x / 1024) then x / 16 % 8 else 0) * 16)) ∧ Below w1.heap.size w1 w') (fun e w' h => by
          rcases h with ⟨h, _⟩ | ⟨_, h⟩
          · exact absurd hE h
          · exact h)
        by_cases hf : U.first x = true
        · have hz := (hfirst hkk).2 hf
          have := one2_i_same b off n cap k hk hn x _ _ _ y 0 _ w hx hwb.1 hwb.2 rfl rfl rfl hk1 hy CI (by rw [hz]; simp) CE
          unfold U.one
          rw [if_neg hu1, Int.toNat_natCast, hX, if_neg hw, if_neg (by rw [hf]; decide), if_neg (by show ¬ U.hi (x / 1024) = false; rw [hbi]; decide), if_neg hu2, hY, if_neg hwy]
          exact this
        · have hz : ¬ _ := fun h => hf ((hfirst hkk).1 h)
          have := one2_i_other b off n cap k hk hn x _ _ _ y 0 _ w hx hwb.1 hwb.2 rfl rfl rfl hk1 hy CI (by simpa using hz) CE
          unfold U.one
          rw [if_neg hu1, Int.toNat_natCast, hX, if_neg hw, if_pos (by simpa using hf)]
          exact this
      · have := one2_i_wrong b off n cap k hk hn x _ _ _ y _ 0 w hx hwb.1 hwb.2 rfl rfl rfl hk1 hy CI hE (fun g w1 hg => (key true y hbi g w1 hg).mono (fun e w' h => by
          rcases h with ⟨_, h⟩ | ⟨h, _⟩
          · exact h
          · exact absurd h hE))
        unfold U.one
        rw [if_neg hu1, Int.toNat_natCast, hX, if_neg hw]
        by_cases hf : U.first x = false
        · rw [if_pos hf]; exact this
        · have hf' : U.first x = true := by simpa using hf
          have hkk := hkf hf'
          have hwy : U.wd y = false := by
            cases h : U.wd y
            · rfl
            · exfalso; apply hE; unfold U.rW; rw [hkk, if_neg (by decide), if_neg (by rw [h]; simp)]
          rw [if_neg hf, if_neg (by show ¬ U.hi (x / 1024) = false; rw [hbi]; decide), if_neg hu2, hY, if_pos hwy]
          exact this
    · have := one2_i_short b off n cap k hk hn x _ _ _ 0 0 0 w hx hwb.1 hwb.2 rfl rfl rfl hk1 CI
      unfold U.one
      rw [if_neg hu1, Int.toNat_natCast, hX, if_neg hw]
      by_cases hf : U.first x = false
      · rw [if_pos hf]; exact this
      · rw [if_neg hf, if_neg (by show ¬ U.hi (x / 1024) = false; rw [hbi]; decide), if_pos (by omega)]
        exact this
end Go.Proofs.Ytfjgnhmmakeaeaa
