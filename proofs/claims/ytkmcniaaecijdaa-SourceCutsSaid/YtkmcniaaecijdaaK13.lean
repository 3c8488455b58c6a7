/- Walk of ref8.Tokens. No condition. -/
import Derived.Test.YtkmcniaaecijdaaK13b
import Derived.Test.YtkmcniaaecijdaaK13d
import Derived.Test.YtkmcniaaecijdaaK12h
import Derived.LoopTactic
import Derived.Deep.Cut
import Derived.Deep.CutBlock
import Derived.Deep.DeepCutAuto
namespace Go.Proofs.Ytkmcniaaecijdaa
open Go.RowKit
set_option linter.unusedVariables false
set_option linter.unusedSimpArgs false
set_option maxRecDepth 100000
set_option maxHeartbeats 32000000 in
theorem tokens8_ok (s : ByteArray) (w : World) : Calls Try.prog 11 #[.string s] w (Tk.R s.data.toList w) := by
  obtain ⟨l, hl⟩ : ∃ l, l = s.data.toList := ⟨_, rfl⟩
  have hll : l.length = s.size := by rw [hl]; exact (Tk.size_is s).symm
  rw [← hl]
  have HL := Lib.hid hl
  have HLL := Lib.hid hll
  have HF0 : Hid (Blk (w.alloc (.cells #[.int .i64 0, .int .i64 0] 26)) w.heap.size 26 #[.int .i64 0, .int .i64 0]) := Blk.new _ _ _
  by_cases hbig : 65536 < s.size
  · have q1 : decide ((s.size : Int) > 65536) = true := by simp; omega
    have HBIG := Lib.hid hbig
    clear hl hll hbig
    go_enter Try.func11, Try.ntmps11
    go_wp2_with (first | (refine wpList_store_row rfl 26 _ _ rfl w.heap.size #[.int .i64 4, .int .i64 0] rfl rfl 26 _ HF0.out (by kernel_rfl) rfl (Tk.fone _ _) ?_))
    exact bodyPost_ret (Tk.results_two rfl _ _ w.heap.size 26 #[.int .i64 4, .int .i64 0] (0, 0) _ rfl (Tk.rowB HF0.out _) Try.underlying26 rfl (by kernel_rfl)) rfl ⟨Tk.rowE (Ext.alloc (Below.refl _ _) _) (Nat.le_refl _) _, .inl ⟨by rw [HLL.out]; exact HBIG.out, rfl⟩⟩
  have q1 : decide ((s.size : Int) > 65536) = false := by simp; omega
  have hs64 : s.size ≤ 65536 := by omega
  have HAT : Hid (∀ (j : Nat) (h : j < s.size), l.drop j = s[j] :: l.drop (j + 1)) := fun j h => by
    have hj : j < l.length := by omega
    rw [Tk.drop_cons l j hj]
    congr 1
    rw [Tk.byte_at s j h]; simp only [hl]
  clear hl hll hbig
  go_enter Try.func11, Try.ntmps11
  go_upto_region 5 with (fail)
  generalize hw2 : World.alloc w _ = w2
  have HF2 : Hid (Blk w2 w.heap.size 26 #[.int .i64 0, .int .i64 0]) := by rw [← hw2]; exact HF0.out
  obtain ⟨B, hB⟩ : ∃ B, B = w2.heap.size := ⟨_, rfl⟩
  have HB0 : Hid (Below w.heap.size w w2) := by rw [← hw2]; exact Ext.alloc (Below.refl _ _) _
  have HST : Hid (Tk.L8 w B l 0 [] none 0 w2) := by
    rw [hB]
    exact ⟨HB0.out, HF2.out, World.ownsRow_nil _ _ _ _, Tk.ahead_nil _, HF2.out.lt, Nat.le_refl _, Nat.le_refl _⟩
  clear hB hw2
  go_loopw [4, 5] (fun out i wr => ∃ (a : Nat) (ts : List Tk.Tok) (av : Option Addr) (cv : Nat), a ≤ s.size ∧ i = .int .i64 (a : Int) ∧ out = .slice av ts.length cv ∧ Hid (Tk.L8 w B l a ts av cv wr)) (fun out i wr => s.size - (intOf i).toNat)
  case atStart => exact ⟨0, [], none, 0, Nat.zero_le _, rfl, rfl, HST.out⟩
  case round =>
    obtain ⟨a, ts, av, cv, ha, rfl, rfl, hL0⟩ := hrel
    by_cases hlt : a < s.size
    rotate_left
    · have HA := Lib.hid hlt
      go_wp2_with (first | (refine wpList_store_row rfl 26 _ _ rfl w.heap.size #[.int .i64 0, .int .i64 0] rfl rfl 26 _ hL0.out.ft (by kernel_rfl) rfl (Tk.fone _ _) ?_))
      exact bodyPost_ret (Tk.results_two rfl _ _ w.heap.size 26 #[.int .i64 0, .int .i64 0] (0, 0) _ rfl (Tk.rowB hL0.out.ft _) Try.underlying26 rfl (by kernel_rfl)) rfl
        (Tk.R.done (by rw [HLL.out]; exact hs64) hL0.out.eq (by rw [HLL.out]; have := HA.out; omega) rfl (Tk.rowE hL0.out.ext (Nat.le_refl _) _) (Tk.own_row hL0.out.own hL0.out.lt _) (Nat.le_of_lt hL0.out.lt))
    have HDR := Lib.hid (HAT.out a hlt)
    obtain ⟨c8, hc8⟩ : ∃ c8, c8 = s[a] := ⟨_, rfl⟩
    rw [← hc8] at HDR
    obtain ⟨c, hc⟩ : ∃ c, c = c8.toNat := ⟨_, rfl⟩
    have HC := Lib.hid hc
    have hcc : (s[a]).toNat = c := by rw [hc, hc8]
    have HLT := Lib.hid hlt
    clear hc hc8
    by_cases h1 : c = 32 ∨ c = 9 ∨ c = 10
    · have HSK := Lib.hid (hL0.out.skip HDR.out (Tk.step_blank a c8 _ (by rw [← HC.out]; exact h1)))
      rcases h1 with rfl | rfl | rfl <;>
      · go_wp2
        go_round
        case rel => exact ⟨a + 1, ts, av, cv, HLT.out, by go_num, rfl, HSK.out⟩
        case measure => have := HLT.out; simp [intOf]; omega
    have hn1 : ((c : Int) == 32) = false ∧ ((c : Int) == 9) = false ∧ ((c : Int) == 10) = false := by simp; omega
    obtain ⟨nb1, nb2, nb3⟩ := hn1
    have H1 := Lib.hid h1
    clear h1
    obtain ⟨r, hr⟩ : ∃ r, r = l.drop (a + 1) := ⟨_, rfl⟩
    rw [← hr] at HDR
    have hlen : (c8 :: r).length = s.size - a := by rw [← HDR.out, List.length_drop, HLL.out]
    have HLEN := Lib.hid hlen
    have HBYTE : Hid (∀ k, (hk : a + k < s.size) → (c8 :: r)[k]? = some (s[a + k]'hk)) := fun k hk => by
      rw [← HDR.out, List.getElem?_drop, ← List.head?_drop, HAT.out (a + k) hk]; rfl
    have hnext : ∀ (h : a + 1 < s.size), r.head? = some (s[a + 1]'h) := fun h => by
      have := HBYTE.out 1 h
      rw [List.head?_eq_getElem?]; simpa using this
    have hend : ¬ a + 1 < s.size → r.head? = none := fun h => by
      have : r.length = 0 := by have := HLEN.out; simp only [List.length_cons] at this; omega
      rw [List.eq_nil_of_length_eq_zero this]; rfl
    clear hr hlen
    by_cases h2 : c8.toNat = 47 ∧ r.head? = some 47
    · obtain ⟨m, hm⟩ : ∃ m, m = Tk.run Tk.nl (c8 :: r) := ⟨_, rfl⟩
      have hmle : m ≤ s.size - a := by rw [hm, ← HLEN.out]; exact Tk.run_le _ _
      have hm1 : 1 ≤ m := by rw [hm]; exact Tk.run_pos _ _ _ (by rw [h2.1]; rfl)
      have hskip := hL0.out.skip HDR.out (Tk.step_remark a c8 r (by rw [← HC.out]; exact H1.out) h2)
      rw [← hm] at hskip
      have HSK := Lib.hid hskip
      have HM := Lib.hid hm
      have HM1 := Lib.hid hm1
      have hmsz : a + m ≤ s.size := by omega
      have hc47 : c = 47 := by rw [HC.out]; exact h2.1
      have ha1 : a + 1 < s.size := Classical.byContradiction fun h => by rw [hend h] at h2; cases h2.2
      have hnx : (s[a + 1]).toNat = 47 := by
        have := hnext ha1; rw [h2.2] at this; injection this with this; rw [← this]; rfl
      subst hc47
      clear hm hmle hm1 hskip h2 hnext hend
      go_upto_region 10 with (fail)
      go_loop [5] (fun i => ∃ k : Nat, k ≤ m ∧ i = .int .i64 ((a + k : Nat) : Int)) (fun i => a + m + 1 - (intOf i).toNat)
      case atStart => exact ⟨0, Nat.zero_le _, rfl⟩
      case round =>
        obtain ⟨k, hk, rfl⟩ := hrel
        by_cases hkm : k < m
        · have hak : a + k < s.size := by omega
          obtain ⟨c2, hc2⟩ : ∃ c2, c2 = (s[a + k]).toNat := ⟨_, rfl⟩
          have hW : ((c2 : Int) == 10) = false := by
            rw [HM.out] at hkm
            obtain ⟨c3, e1, e2⟩ := Tk.runs_at Tk.nl _ k hkm
            rw [HBYTE.out k hak] at e1; injection e1 with e1
            rw [← e1, ← hc2] at e2
            unfold Tk.nl at e2
            simp at e2 ⊢; omega
          have hcc2 : (s[a + k]).toNat = c2 := hc2.symm
          have HKM := Lib.hid hkm
          clear hc2
          go_wp2
          go_round
          case rel => exact ⟨k + 1, HKM.out, by go_num⟩
          case measure => have := HKM.out; simp [intOf]; omega
        · obtain rfl : k = m := by omega
          by_cases hak : a + k < s.size
          · obtain ⟨c2, hc2⟩ : ∃ c2, c2 = (s[a + k]).toNat := ⟨_, rfl⟩
            have hW : ((c2 : Int) == 10) = true := by
              have := Tk.run_out Tk.nl (c8 :: r) (s[a + k]) (by rw [← HM.out]; exact HBYTE.out k hak)
              rw [← hc2] at this
              unfold Tk.nl at this
              simp at this ⊢; omega
            have hcc2 : (s[a + k]).toNat = c2 := hc2.symm
            clear hc2
            go_wp2
            go_round
            case rel => exact ⟨a + k, ts, av, cv, hmsz, by go_num, rfl, HSK.out⟩
            case measure => have := HM1.out; simp [intOf]; omega
          · have hsk : ¬ ((a : Int) + (k : Int) < (s.size : Int)) := by omega
            go_wp2
            go_round
            case rel => exact ⟨a + k, ts, av, cv, hmsz, by go_num, rfl, HSK.out⟩
            case measure => have := HM1.out; simp [intOf]; omega
    rcases h3 : Tk.isL c with _ | _
    rotate_left
    · exact tokens8_a s w wr B l a ts av cv c8 c r HL HLL hs64 hL0 ha hlt HC hcc HLT nb1 nb2 nb3 H1 HDR HLEN HBYTE hnext hend h2 q1 h3 _ _ _ _ _ _ _ _ _ _ _ _ _ _ _ _ _ _ _ _ _ _ _ _ _ _ _ _ _ _ _ _ _ _ _ _ _ _ _ _ _ _ _ _ _ _ _ _ _ _ _ _ _ _ _ _ _ _ _ _ _ _ _ _ _ _ _ _ _ _ _ _ _ _ _ _ _ _ _ _ _ _ _ _ _ _ _ _ _ _ _ _ _ _ _ _ _ _ _ _ _ _ _ _ _ _ _ _ _ _ _ _ _ _ _ _ _ _ _ _ _ _ _ _ _ _ _ _ _ _ _ _ _ _ _ _ _ _ _ _ _ _ _ _ _ _ _ _ _ _ _ _ _ _ _ _ _ _ _ _ _ _ _ _ _ _ _ _ _ _ _ _ _ _ _ _ _ _
    rcases h4 : Tk.isD c with _ | _
    rotate_left
    · exact tokens8_b s w wr B l a ts av cv c8 c r HL HLL hs64 hL0 ha hlt HC hcc HLT nb1 nb2 nb3 H1 HDR HLEN HBYTE hnext hend h2 q1 h3 h4 _ _ _ _ _ _ _ _ _ _ _ _ _ _ _ _ _ _ _ _ _ _ _ _ _ _ _ _ _ _ _ _ _ _ _ _ _ _ _ _ _ _ _ _ _ _ _ _ _ _ _ _ _ _ _ _ _ _ _ _ _ _ _ _ _ _ _ _ _ _ _ _ _ _ _ _ _ _ _ _ _ _ _ _ _ _ _ _ _ _ _ _ _ _ _ _ _ _ _ _ _ _ _ _ _ _ _ _ _ _ _ _ _ _ _ _ _ _ _ _ _ _ _ _ _ _ _ _ _ _ _ _ _ _ _ _ _ _ _ _ _ _ _ _ _ _ _ _ _ _ _ _ _ _ _ _ _ _ _ _ _ _ _ _ _ _ _ _ _ _ _ _ _ _ _ _ _ _
    exact tokens8_d s w wr B l a ts av cv c8 c r HL HLL hs64 hL0 ha hlt HC hcc HLT nb1 nb2 nb3 H1 HDR HLEN HBYTE hnext hend h2 q1 h3 h4 _ _ _ _ _ _ _ _ _ _ _ _ _ _ _ _ _ _ _ _ _ _ _ _ _ _ _ _ _ _ _ _ _ _ _ _ _ _ _ _ _ _ _ _ _ _ _ _ _ _ _ _ _ _ _ _ _ _ _ _ _ _ _ _ _ _ _ _ _ _ _ _ _ _ _ _ _ _ _ _ _ _ _ _ _ _ _ _ _ _ _ _ _ _ _ _ _ _ _ _ _ _ _ _ _ _ _ _ _ _ _ _ _ _ _ _ _ _ _ _ _ _ _ _ _ _ _ _ _ _ _ _ _ _ _ _ _ _ _ _ _ _ _ _ _ _ _ _ _ _ _ _ _ _ _ _ _ _ _ _ _ _ _ _ _ _ _ _ _ _ _ _ _ _ _ _ _ _

end Go.Proofs.Ytkmcniaaecijdaa
