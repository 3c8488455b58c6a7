/- Walk of source.number: digits, and perhaps u. No condition. -/
import Derived.Test.YtkmcniaaecijdaaK8
import Derived.Laws.Tables
import Derived.LoopTactic
import Derived.Deep.Cut
namespace Go.Proofs.Ytkmcniaaecijdaa
open Go.RowKit
set_option linter.unusedVariables false
set_option linter.unusedSimpArgs false
set_option maxRecDepth 100000
theorem Tk.extract_is (s : ByteArray) (a b : Nat) : s.extract a b = ⟨((s.data.toList.drop a).take (b - a)).toArray⟩ := by
  have h : (s.extract a b).toList = (s.data.toList.drop a).take (b - a) := Lib.extract_toList s a b
  rw [Lib.toList_data] at h
  rcases hx : s.extract a b with ⟨d⟩
  rw [hx] at h
  rw [← h]
/-- A token's cells. -/
abbrev Tk.cells (k : Int) (t : ByteArray) (n b : Int) (s : Bool) (a : Int) : List Value := [.int .i64 k, .string t, .int .u64 n, .int .i64 b, .bool s, .int .i64 a]
theorem Tk.one (k : Int) (t : ByteArray) (n b : Int) (s : Bool) (a : Int) : (#[.int .i64 k, .string t, .int .u64 n, .int .i64 b, .bool s, .int .i64 a] : Array Value).all (·.oneCell') = true := by simp [Value.oneCell']
abbrev TkB (w : World) (g : Nat) (k : Int) (t : ByteArray) (n b : Int) (s : Bool) (a : Int) : Prop := Blk w g 33 #[.int .i64 k, .string t, .int .u64 n, .int .i64 b, .bool s, .int .i64 a]
theorem TkB.six {w : World} {g : Nat} {k n b a : Int} {t : ByteArray} {s : Bool} (h : TkB w g k t n b s a) :
    w.cell? ⟨g, 0, none⟩ = some (.int .i64 k) ∧ w.cell? ⟨g, 1, none⟩ = some (.string t) ∧ w.cell? ⟨g, 2, none⟩ = some (.int .u64 n) ∧ w.cell? ⟨g, 3, none⟩ = some (.int .i64 b) ∧ w.cell? ⟨g, 4, none⟩ = some (.bool s) ∧ w.cell? ⟨g, 5, none⟩ = some (.int .i64 a) :=
  ⟨h.cell 0, h.cell 1, h.cell 2, h.cell 3, h.cell 4, h.cell 5⟩
theorem TkB.free {w : World} {g : Nat} {k n b a : Int} {t : ByteArray} {s : Bool} (h : TkB w g k t n b s a) :
    w.frozen? ⟨g, 0, none⟩ = false ∧ w.frozen? ⟨g, 1, none⟩ = false ∧ w.frozen? ⟨g, 2, none⟩ = false ∧ w.frozen? ⟨g, 3, none⟩ = false ∧ w.frozen? ⟨g, 4, none⟩ = false ∧ w.frozen? ⟨g, 5, none⟩ = false :=
  ⟨h.frozen 0, h.frozen 1, h.frozen 2, h.frozen 3, h.frozen 4, h.frozen 5⟩
theorem Tk.results_cell3 {P : Program} {fn : Func} {p q r : Tmp} {ty : TypeId} (h : fn.results = #[.cell p ty, .tmp q, .tmp r]) (tmps : Array Value) (w : World) (g : Nat) (t : TypeId) (cs : Array Value) (fr : Nat × Nat) (d : TypeDesc)
    (hp : tmps.getD p undef = .pointer (some ⟨g, 0, none⟩)) (hg : w.heap[g]? = some (.cells cs t fr))
    (hu : P.underlying ty = some d) (hd : (match d with | .struct _ | .array _ _ => true | _ => false) = true) (hi : (P.info? ty).map (·.size) = some cs.size) :
    (results fn tmps).run P w = .ok (.tuple #[.agg cs, tmps.getD q undef, tmps.getD r undef]) w := by
  have hp' : tmps[p]?.getD undef = .pointer (some ⟨g, 0, none⟩) := by simpa using hp
  simp [results, h, hp', asAddr, run_loadVar_row w g t ty cs fr d hg hu hd hi]
theorem Tk.rowB {w : World} {g : Nat} {t : TypeId} {old : Array Value} (h : Blk w g t old) (cs : Array Value) : Blk (w.setRow g cs) g t cs := setRow_heap w g old cs t _ h
theorem Tk.rowE {B : Nat} {w w' : World} (h : Below B w w') {g : Nat} (hg : B ≤ g) (cs : Array Value) : Below B w (w'.setRow g cs) :=
  h.trans ⟨rfl, rfl, rfl, by simp [World.setRow], fun k hk => setRow_other w' g k cs (by omega)⟩
/-- What a number's digits come to. -/
def NumR (l : List UInt8) (w : World) (e : Ending) (w' : World) : Prop :=
  Below w.heap.size w w' ∧ ((18446744073709551616 ≤ Tk.val 0 (l.take (Tk.run Tk.isD l)) ∧ ∃ (v z : Int), e = .returned (.tuple #[.agg #[.int .i64 0, .string ⟨#[]⟩, .int .u64 v, .int .i64 0, .bool false, .int .i64 0], .int .i64 z, .int .i64 3])) ∨
    (Tk.val 0 (l.take (Tk.run Tk.isD l)) < 18446744073709551616 ∧ ∀ u b s z, (l[Tk.run Tk.isD l]? == some 117) = u → W.lit (Tk.val 0 (l.take (Tk.run Tk.isD l)) : Nat) u = (b, s, z) →
      e = .returned (.tuple #[.agg #[.int .i64 2, .string ⟨(l.take (Tk.run Tk.isD l)).toArray⟩, .int .u64 (Tk.val 0 (l.take (Tk.run Tk.isD l)) : Nat), .int .i64 b, .bool s, .int .i64 0], .int .i64 (Tk.run Tk.isD l + (if u then 1 else 0) : Nat), .int .i64 z])))
theorem tk_type {w : World} {g : Nat} {k n b0 a : Int} {t : ByteArray} {s0 : Bool} (h : TkB w g k t n b0 s0 a) (b : Int) (s : Bool) : TkB ((w.setCell ⟨g, 3, none⟩ (.int .i64 b)).setCell ⟨g, 4, none⟩ (.bool s)) g k t n b s a := by
  have := (h.set_ 3 (.int .i64 b)).set_ 4 (.bool s)
  simpa using this
theorem tk_head {w : World} {g : Nat} {k0 n b a : Int} {t0 : ByteArray} {s : Bool} (h : TkB w g k0 t0 n b s a) (k : Int) (t : ByteArray) : TkB ((w.setCell ⟨g, 0, none⟩ (.int .i64 k)).setCell ⟨g, 1, none⟩ (.string t)).drew g k t n b s a := by
  have := ((h.set_ 0 (.int .i64 k)).set_ 1 (.string t)).drew
  simpa using this
set_option maxHeartbeats 8000000 in
theorem number_ok (s : ByteArray) (hs : s.size ≤ 65536) (w : World) : Calls Try.prog 27 #[.string s] w (NumR s.data.toList w) := by
  obtain ⟨l, hl⟩ : ∃ l, l = s.data.toList := ⟨_, rfl⟩
  obtain ⟨d, hd⟩ : ∃ d, d = Tk.run Tk.isD l := ⟨_, rfl⟩
  have hdl : d ≤ l.length := by rw [hd]; exact Tk.run_le _ _
  have hll : l.length = s.size := by rw [hl]; exact (Tk.size_is s).symm
  have HL := Lib.hid hl
  have HD := Lib.hid hd
  have HLL := Lib.hid hll
  have hds : d ≤ s.size := by omega
  have HAT : Hid (∀ (j : Nat) (h : j < s.size), ∃ c, l[j]? = some c ∧ c = s[j]) := fun j h => ⟨s[j], by rw [hl, Tk.byte_at s j h, List.getElem?_eq_getElem], rfl⟩
  rw [← hl]
  clear hl hd hll hdl
  have HB0 : Hid (TkB (w.alloc (.cells #[.int .i64 0, .string ⟨#[]⟩, .int .u64 0, .int .i64 0, .bool false, .int .i64 0] 33)) w.heap.size 0 ⟨#[]⟩ 0 0 false 0) := Blk.new _ _ _
  go_enter Try.func27, Try.ntmps27
  go_upto_region 1 with (fail)
  go_loopw [3] (fun i wr => ∃ k : Nat, k ≤ d ∧ i = .int .i64 (k : Int) ∧ Hid (Tk.val 0 (l.take k) < 18446744073709551616 ∧ Below w.heap.size w wr ∧ TkB wr w.heap.size 0 ⟨#[]⟩ (Tk.val 0 (l.take k) : Nat) 0 false 0)) (fun i wr => d + 1 - (intOf i).toNat)
  case atStart => exact ⟨0, Nat.zero_le _, rfl, by show Tk.val 0 [] < _; decide, Ext.alloc (Below.refl _ _) _, HB0.out⟩
  case round =>
    obtain ⟨k, hk, rfl, hst⟩ := hrel
    obtain ⟨v, hv⟩ : ∃ v, v = Tk.val 0 (l.take k) := ⟨_, rfl⟩
    have HV := Lib.hid hv
    obtain ⟨hv1, hbel, htb⟩ := hst.out
    rw [← hv] at hv1 htb
    have HBEL := Lib.hid hbel
    have HTB := Lib.hid htb
    obtain ⟨t0, t1, t2, t3, t4, t5⟩ := htb.six
    obtain ⟨f0, f1, f2, f3, f4, f5⟩ := htb.free
    clear hv hbel htb hst
    by_cases hlt : k < d
    · have hks : k < s.size := by omega
      obtain ⟨c, hc⟩ : ∃ c, c = (s[k]).toNat := ⟨_, rfl⟩
      have hcd : Tk.isD c = true ∧ l[k]? = some s[k] := by
        obtain ⟨c2, h1, h2⟩ := HAT.out k hks
        rw [HD.out] at hlt
        obtain ⟨c3, h3, h4⟩ := Tk.runs_at Tk.isD l k hlt
        rw [h1] at h3; injection h3 with h3
        rw [hc, ← h2, h3]; exact ⟨h4, by rw [h1, h3]⟩
      have HDK : Hid (∀ w1 : World, Calls Try.prog 21 #[.int .u8 (c : Int)] w1 fun e w' => e = .returned (.bool true) ∧ w1 = w') := fun w1 => by
        have := digit_ok c w1; rw [hcd.1] at this; exact this
      have hc48 : 48 ≤ c ∧ c ≤ 57 := by have := hcd.1; unfold Tk.isD at this; simpa using this
      obtain ⟨hc1, hc2⟩ := hc48
      have HVN : Hid (Tk.val 0 (l.take (k + 1)) = 10 * v + (c - 48)) := by
        show _ = _; rw [Tk.val_take l k _ hcd.2, HV.out, hc]
      have HLT := Lib.hid hlt
      clear hcd
      have hcc : (s[k]).toNat = c := hc.symm
      clear hc
      by_cases ho : 18446744073709551616 ≤ 10 * v + (c - 48)
      · have HO := Lib.hid ho
        have q1 : decide ((v : Int) > (18446744073709551615 - ((c : Int) - 48)) / 10) = true := by simp; omega
        clear ho
        go_wp2_with (first | (go_at_call 21; refine (HDK.out _).mono ?_; rintro e w' ⟨rfl, rfl⟩) | (refine wpList_store_row rfl 33 _ _ rfl w.heap.size #[.int .i64 0, .string ⟨#[]⟩, .int .u64 v, .int .i64 0, .bool false, .int .i64 0] rfl rfl 33 _ HTB.out (by kernel_rfl) rfl (Tk.one _ _ _ _ _ _) ?_))
        refine bodyPost_ret (Tk.results_cell3 rfl _ _ w.heap.size 33 #[.int .i64 0, .string ⟨#[]⟩, .int .u64 v, .int .i64 0, .bool false, .int .i64 0] (0, 0) _ rfl (Tk.rowB HTB.out _) Try.underlying33 rfl (by kernel_rfl)) rfl ⟨Tk.rowE HBEL.out (Nat.le_refl _) _, .inl ⟨?_, _, _, rfl⟩⟩
        rw [← HD.out]
        exact Nat.le_trans (by rw [HVN.out]; exact HO.out) (Tk.val_le_all l (k + 1) d HLT.out)
      · have q1 : decide ((v : Int) > (18446744073709551615 - ((c : Int) - 48)) / 10) = false := by simp; omega
        have HN : Hid (((10 * v + (c - 48) : Nat) : Int) = 10 * (v : Int) + ((c : Int) - 48)) := by show _ = _; omega
        have HO := Lib.hid ho
        go_wp2_with (first | (go_at_call 21; refine (HDK.out _).mono ?_; rintro e w' ⟨rfl, rfl⟩))
        go_round
        case rel =>
          refine ⟨k + 1, HLT.out, by go_num, by rw [HVN.out]; have := HO.out; omega, Ext.setCell HBEL.out (Nat.le_refl _) _, ?_⟩
          rw [HVN.out, HN.out]
          have := HTB.out.set_ 2 (.int .u64 (10 * (v : Int) + ((c : Int) - 48)))
          simpa using this
        case measure => have := HLT.out; simp [intOf]; omega
    · obtain rfl : k = d := by omega
      have HVL : Hid (v < 18446744073709551616) := hv1
      have hvU : W.U (v : Int) := ⟨by omega, by omega⟩
      have tail : ∀ (u : Bool), (l[k]? == some 117) = u → ∃ b sg z, W.lit (v : Int) u = (b, sg, z) ∧ Hid (∀ w1 : World, Calls Try.prog 50 #[.int .u64 v, .bool u] w1 (LitR b sg z w1)) := fun u hu =>
        ⟨_, _, _, rfl, fun w1 => literal_ok v u hvU w1⟩
      by_cases he : k < s.size
      · obtain ⟨c, hc⟩ : ∃ c, c = (s[k]).toNat := ⟨_, rfl⟩
        have hcd : Tk.isD c = false ∧ l[k]? = some s[k] := by
          obtain ⟨c2, h1, h2⟩ := HAT.out k he
          refine ⟨?_, by rw [h1, h2]⟩
          have := Tk.run_out Tk.isD l c2 (by rw [← HD.out]; exact h1)
          rw [hc, ← h2]; exact this
        have HDK : Hid (∀ w1 : World, Calls Try.prog 21 #[.int .u8 (c : Int)] w1 fun e w' => e = .returned (.bool false) ∧ w1 = w') := fun w1 => by
          have := digit_ok c w1; rw [hcd.1] at this; exact this
        have hcu : (l[k]? == some 117) = (c == 117) := by
          rw [hcd.2, hc, Bool.eq_iff_iff]
          simp only [beq_iff_eq, Option.some.injEq]
          constructor
          · intro h; rw [h]; rfl
          · intro h; exact UInt8.toNat_inj.1 h
        have hcc : (s[k]).toNat = c := hc.symm
        clear hc
        by_cases hu : c = 117
        · obtain ⟨b, sg, z, hlt2, HLI⟩ := tail true (by rw [hcu, hu]; rfl)
          have HLT2 := Lib.hid hlt2
          have HCU : Hid ((l[k]? == some 117) = true) := by show _ = _; rw [hcu, hu]; rfl
          clear tail hcu hcd hlt2
          subst hu
          go_upto_region 7 with (first | (go_at_call 21; refine (HDK.out _).mono ?_; rintro e w' ⟨rfl, rfl⟩))
          go_region
          obtain ⟨tx, htx⟩ : ∃ tx, tx = s.extract 0 k := ⟨_, rfl⟩
          rw [← htx]
          have HTX : Hid (tx = ⟨(l.take k).toArray⟩) := by show _ = _; rw [htx, Tk.extract_is, ← HL.out, List.drop_zero, Nat.sub_zero]
          clear htx
          have HT2 := Lib.hid (tk_head HTB.out 2 tx)
          have HB2 := Lib.hid (Ext.drew (Ext.setCell (Ext.setCell HBEL.out (p := ⟨w.heap.size, 0, none⟩) (Nat.le_refl _) (.int .i64 2)) (p := ⟨w.heap.size, 1, none⟩) (Nat.le_refl _) (.string tx)))
          generalize hw2 : ((wr.setCell ⟨w.heap.size, 0, none⟩ (.int .i64 2)).setCell ⟨w.heap.size, 1, none⟩ (.string tx)).drew = w2
          rw [hw2] at HT2 HB2
          clear hw2 t0 t1 t2 t3 t4 t5 f0 f1 f2 f3 f4 f5
          obtain ⟨t0, t1, t2, t3, t4, t5⟩ := HT2.out.six
          obtain ⟨f0, f1, f2, f3, f4, f5⟩ := HT2.out.free
          go_wp2_with (first | (go_at_call 50; refine (HLI.out _).mono ?_; rintro e w3 ⟨rfl, hb3⟩; have HT3 := Lib.hid (show TkB _ _ _ _ _ _ _ _ from HT2.out.keep hb3); have HB3 := Lib.hid (Ext.trans HB2.out hb3); clear hb3 t0 t1 t2 t3 t4 t5 f0 f1 f2 f3 f4 f5; obtain ⟨t0, t1, t2, t3, t4, t5⟩ := HT3.out.six; obtain ⟨f0, f1, f2, f3, f4, f5⟩ := HT3.out.free; have HT4 := Lib.hid (tk_type HT3.out b sg); have HB4 := Lib.hid (Ext.setCell (Ext.setCell HB3.out (p := ⟨w.heap.size, 3, none⟩) (Nat.le_refl _) (.int .i64 b)) (p := ⟨w.heap.size, 4, none⟩) (Nat.le_refl _) (.bool sg))) | (refine wpList_store_row rfl 33 _ _ rfl w.heap.size #[.int .i64 2, .string tx, .int .u64 v, .int .i64 b, .bool sg, .int .i64 0] rfl rfl 33 _ HT4.out (by kernel_rfl) rfl (Tk.one _ _ _ _ _ _) ?_))
          refine bodyPost_ret (Tk.results_cell3 rfl _ _ w.heap.size 33 #[.int .i64 2, .string tx, .int .u64 v, .int .i64 b, .bool sg, .int .i64 0] (0, 0) _ rfl (Tk.rowB HT4.out _) Try.underlying33 rfl (by kernel_rfl)) rfl ⟨Tk.rowE HB4.out (Nat.le_refl _) _, .inr ⟨by rw [← HD.out, ← HV.out]; exact HVL.out, fun u' b' s' z' hu' hl' => ?_⟩⟩
          rw [← HD.out] at hu' hl' ⊢
          rw [← HV.out] at hl' ⊢
          rw [HCU.out] at hu'; subst hu'
          rw [HLT2.out] at hl'; injection hl' with h1 hl'; injection hl' with h2 h3; subst h1; subst h2; subst h3
          rw [HTX.out]; rfl
        · obtain ⟨b, sg, z, hlt2, HLI⟩ := tail false (by rw [hcu]; simpa using hu)
          have HLT2 := Lib.hid hlt2
          have HCU : Hid ((l[k]? == some 117) = false) := by show _ = _; rw [hcu]; simpa using hu
          have q2 : (c == 117) = false := by simpa using hu
          clear tail hcu hcd hlt2 hu
          go_upto_region 7 with (first | (go_at_call 21; refine (HDK.out _).mono ?_; rintro e w' ⟨rfl, rfl⟩))
          go_region
          obtain ⟨tx, htx⟩ : ∃ tx, tx = s.extract 0 k := ⟨_, rfl⟩
          rw [← htx]
          have HTX : Hid (tx = ⟨(l.take k).toArray⟩) := by show _ = _; rw [htx, Tk.extract_is, ← HL.out, List.drop_zero, Nat.sub_zero]
          clear htx
          have HT2 := Lib.hid (tk_head HTB.out 2 tx)
          have HB2 := Lib.hid (Ext.drew (Ext.setCell (Ext.setCell HBEL.out (p := ⟨w.heap.size, 0, none⟩) (Nat.le_refl _) (.int .i64 2)) (p := ⟨w.heap.size, 1, none⟩) (Nat.le_refl _) (.string tx)))
          generalize hw2 : ((wr.setCell ⟨w.heap.size, 0, none⟩ (.int .i64 2)).setCell ⟨w.heap.size, 1, none⟩ (.string tx)).drew = w2
          rw [hw2] at HT2 HB2
          clear hw2 t0 t1 t2 t3 t4 t5 f0 f1 f2 f3 f4 f5
          obtain ⟨t0, t1, t2, t3, t4, t5⟩ := HT2.out.six
          obtain ⟨f0, f1, f2, f3, f4, f5⟩ := HT2.out.free
          go_wp2_with (first | (go_at_call 50; refine (HLI.out _).mono ?_; rintro e w3 ⟨rfl, hb3⟩; have HT3 := Lib.hid (show TkB _ _ _ _ _ _ _ _ from HT2.out.keep hb3); have HB3 := Lib.hid (Ext.trans HB2.out hb3); clear hb3 t0 t1 t2 t3 t4 t5 f0 f1 f2 f3 f4 f5; obtain ⟨t0, t1, t2, t3, t4, t5⟩ := HT3.out.six; obtain ⟨f0, f1, f2, f3, f4, f5⟩ := HT3.out.free; have HT4 := Lib.hid (tk_type HT3.out b sg); have HB4 := Lib.hid (Ext.setCell (Ext.setCell HB3.out (p := ⟨w.heap.size, 3, none⟩) (Nat.le_refl _) (.int .i64 b)) (p := ⟨w.heap.size, 4, none⟩) (Nat.le_refl _) (.bool sg))) | (refine wpList_store_row rfl 33 _ _ rfl w.heap.size #[.int .i64 2, .string tx, .int .u64 v, .int .i64 b, .bool sg, .int .i64 0] rfl rfl 33 _ HT4.out (by kernel_rfl) rfl (Tk.one _ _ _ _ _ _) ?_))
          refine bodyPost_ret (Tk.results_cell3 rfl _ _ w.heap.size 33 #[.int .i64 2, .string tx, .int .u64 v, .int .i64 b, .bool sg, .int .i64 0] (0, 0) _ rfl (Tk.rowB HT4.out _) Try.underlying33 rfl (by kernel_rfl)) rfl ⟨Tk.rowE HB4.out (Nat.le_refl _) _, .inr ⟨by rw [← HD.out, ← HV.out]; exact HVL.out, fun u' b' s' z' hu' hl' => ?_⟩⟩
          rw [← HD.out] at hu' hl' ⊢
          rw [← HV.out] at hl' ⊢
          rw [HCU.out] at hu'; subst hu'
          rw [HLT2.out] at hl'; injection hl' with h1 hl'; injection hl' with h2 h3; subst h1; subst h2; subst h3
          rw [HTX.out]; rfl
      · have HCU : Hid ((l[k]? == some 117) = false) := by show _ = _; rw [List.getElem?_eq_none (by rw [HLL.out]; omega)]; rfl
        obtain ⟨b, sg, z, hlt2, HLI⟩ := tail false HCU.out
        have HLT2 := Lib.hid hlt2
        have hks : k = s.size := by omega
        have hsk : ¬ ((k : Int) < (s.size : Int)) := by omega
        clear tail hlt2 hks
        go_upto_region 7 with (first | fail)
        go_region
        obtain ⟨tx, htx⟩ : ∃ tx, tx = s.extract 0 k := ⟨_, rfl⟩
        rw [← htx]
        have HTX : Hid (tx = ⟨(l.take k).toArray⟩) := by show _ = _; rw [htx, Tk.extract_is, ← HL.out, List.drop_zero, Nat.sub_zero]
        clear htx
        have HT2 := Lib.hid (tk_head HTB.out 2 tx)
        have HB2 := Lib.hid (Ext.drew (Ext.setCell (Ext.setCell HBEL.out (p := ⟨w.heap.size, 0, none⟩) (Nat.le_refl _) (.int .i64 2)) (p := ⟨w.heap.size, 1, none⟩) (Nat.le_refl _) (.string tx)))
        generalize hw2 : ((wr.setCell ⟨w.heap.size, 0, none⟩ (.int .i64 2)).setCell ⟨w.heap.size, 1, none⟩ (.string tx)).drew = w2
        rw [hw2] at HT2 HB2
        clear hw2 t0 t1 t2 t3 t4 t5 f0 f1 f2 f3 f4 f5
        obtain ⟨t0, t1, t2, t3, t4, t5⟩ := HT2.out.six
        obtain ⟨f0, f1, f2, f3, f4, f5⟩ := HT2.out.free
        go_wp2_with (first | (go_at_call 50; refine (HLI.out _).mono ?_; rintro e w3 ⟨rfl, hb3⟩; have HT3 := Lib.hid (show TkB _ _ _ _ _ _ _ _ from HT2.out.keep hb3); have HB3 := Lib.hid (Ext.trans HB2.out hb3); clear hb3 t0 t1 t2 t3 t4 t5 f0 f1 f2 f3 f4 f5; obtain ⟨t0, t1, t2, t3, t4, t5⟩ := HT3.out.six; obtain ⟨f0, f1, f2, f3, f4, f5⟩ := HT3.out.free; have HT4 := Lib.hid (tk_type HT3.out b sg); have HB4 := Lib.hid (Ext.setCell (Ext.setCell HB3.out (p := ⟨w.heap.size, 3, none⟩) (Nat.le_refl _) (.int .i64 b)) (p := ⟨w.heap.size, 4, none⟩) (Nat.le_refl _) (.bool sg))) | (refine wpList_store_row rfl 33 _ _ rfl w.heap.size #[.int .i64 2, .string tx, .int .u64 v, .int .i64 b, .bool sg, .int .i64 0] rfl rfl 33 _ HT4.out (by kernel_rfl) rfl (Tk.one _ _ _ _ _ _) ?_))
        refine bodyPost_ret (Tk.results_cell3 rfl _ _ w.heap.size 33 #[.int .i64 2, .string tx, .int .u64 v, .int .i64 b, .bool sg, .int .i64 0] (0, 0) _ rfl (Tk.rowB HT4.out _) Try.underlying33 rfl (by kernel_rfl)) rfl ⟨Tk.rowE HB4.out (Nat.le_refl _) _, .inr ⟨by rw [← HD.out, ← HV.out]; exact HVL.out, fun u' b' s' z' hu' hl' => ?_⟩⟩
        rw [← HD.out] at hu' hl' ⊢
        rw [← HV.out] at hl' ⊢
        rw [HCU.out] at hu'; subst hu'
        rw [HLT2.out] at hl'; injection hl' with h1 hl'; injection hl' with h2 h3; subst h1; subst h2; subst h3
        rw [HTX.out]; rfl
end Go.Proofs.Ytkmcniaaecijdaa
