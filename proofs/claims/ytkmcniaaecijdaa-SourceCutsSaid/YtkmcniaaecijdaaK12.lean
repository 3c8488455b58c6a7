/- Walk of source.Tokens. No condition. -/
import Derived.Test.YtkmcniaaecijdaaK11
import Derived.Test.YtkmcniaaecijdaaK12h
import Derived.LoopTactic
import Derived.Deep.Cut
namespace Go.Proofs.Ytkmcniaaecijdaa
open Go.RowKit
set_option linter.unusedVariables false
set_option linter.unusedSimpArgs false
set_option maxRecDepth 100000
theorem Tk.rest_is (s : ByteArray) (a : Nat) : (s.extract a s.size).data.toList = s.data.toList.drop a := by
  rw [Tk.extract_is]
  show (s.data.toList.drop a).take (s.size - a) = _
  rw [List.take_of_length_le]
  rw [List.length_drop, Tk.size_is]; exact Nat.le_refl _
theorem Tk.rest_size (s : ByteArray) (a : Nat) : (s.extract a s.size).size ≤ s.size := by
  rw [Tk.size_is, Tk.rest_is, List.length_drop, Tk.size_is]; omega
theorem tk_head0 {w : World} {g : Nat} {k0 n b a : Int} {t0 : ByteArray} {s : Bool} (h : TkB w g k0 t0 n b s a) (k : Int) (t : ByteArray) : TkB ((w.setCell ⟨g, 0, none⟩ (.int .i64 k)).setCell ⟨g, 1, none⟩ (.string t)) g k t n b s a := by
  have := (h.set_ 0 (.int .i64 k)).set_ 1 (.string t)
  simpa using this
theorem tk_at {w : World} {g : Nat} {k n b a0 : Int} {t : ByteArray} {s : Bool} (h : TkB w g k t n b s a0) (a : Int) : TkB (w.setCell ⟨g, 5, none⟩ (.int .i64 a)) g k t n b s a := by
  have := h.set_ 5 (.int .i64 a)
  simpa using this
set_option maxHeartbeats 32000000 in
theorem tokens_ok (s : ByteArray) (w : World) : Calls Try.prog 10 #[.string s] w (Tk.R s.data.toList w) := by
  obtain ⟨l, hl⟩ : ∃ l, l = s.data.toList := ⟨_, rfl⟩
  have hll : l.length = s.size := by rw [hl]; exact (Tk.size_is s).symm
  rw [← hl]
  have HL := Lib.hid hl
  have HLL := Lib.hid hll
  have HF0 : Hid (Blk (w.alloc (.cells #[.int .i64 0, .int .i64 0] 26)) w.heap.size 26 #[.int .i64 0, .int .i64 0]) := Blk.new _ _ _
  by_cases hbig : 65536 < s.size
  · have q1 : decide ((s.size : Int) > 65536) = true := by simp; omega
    have HBIG := Lib.hid hbig
    clear hl hll hbig
    go_enter Try.func10, Try.ntmps10
    go_wp2_with (first | (refine wpList_store_row rfl 26 _ _ rfl w.heap.size #[.int .i64 4, .int .i64 0] rfl rfl 26 _ HF0.out (by kernel_rfl) rfl (by simp [Value.oneCell']) ?_))
    exact bodyPost_ret (Tk.results_two rfl _ _ w.heap.size 26 #[.int .i64 4, .int .i64 0] (0, 0) _ rfl (Tk.rowB HF0.out _) Try.underlying26 rfl (by kernel_rfl)) rfl ⟨Tk.rowE (Ext.alloc (Below.refl _ _) _) (Nat.le_refl _) _, .inl ⟨by rw [HLL.out]; exact HBIG.out, rfl⟩⟩
  have q1 : decide ((s.size : Int) > 65536) = false := by simp; omega
  have hs64 : s.size ≤ 65536 := by omega
  have HAT : Hid (∀ (j : Nat) (h : j < s.size), l.drop j = s[j] :: l.drop (j + 1)) := fun j h => by
    have hj : j < l.length := by omega
    rw [Tk.drop_cons l j hj]
    congr 1
    rw [Tk.byte_at s j h]; simp only [hl]
  clear hl hll hbig
  go_enter Try.func10, Try.ntmps10
  go_upto_region 6 with (first | (go_at_call 24; refine (signs_ok _).mono ?_; rintro e w2 ⟨g, rfl, hbk, hb2⟩; have HBK := Lib.hid hbk; have HB2 := Lib.hid hb2; clear hbk hb2))
  obtain ⟨B, hB⟩ : ∃ B, B = w2.heap.size := ⟨_, rfl⟩
  have HST : Hid (Tk.L w B g l 0 [] none 0 w2) := by
    rw [hB]
    exact ⟨Ext.trans (Ext.alloc (Below.refl _ _) _) HB2.out, HF0.out.keep HB2.out, HBK.out, World.ownsRow_nil _ _ _ _, Tk.ahead_nil _, (HF0.out.keep HB2.out).lt, HBK.out.lt, Nat.le_refl _, Nat.le_refl _⟩
  clear hB
  go_loopw [4, 6] (fun out i wr => ∃ (a : Nat) (ts : List Tk.Tok) (av : Option Addr) (cv : Nat), a ≤ s.size ∧ i = .int .i64 (a : Int) ∧ out = .slice av ts.length cv ∧ Hid (Tk.L w B g l a ts av cv wr)) (fun out i wr => s.size - (intOf i).toNat)
  case atStart => exact ⟨0, [], none, 0, Nat.zero_le _, rfl, rfl, HST.out⟩
  case round =>
    obtain ⟨a, ts, av, cv, ha, rfl, rfl, hL0⟩ := hrel
    by_cases hlt : a < s.size
    rotate_left
    · -- the end
      have HA := Lib.hid hlt
      go_wp2_with (first | (refine wpList_store_row rfl 26 _ _ rfl w.heap.size #[.int .i64 0, .int .i64 0] rfl rfl 26 _ hL0.out.ft (by kernel_rfl) rfl (by simp [Value.oneCell']) ?_))
      exact bodyPost_ret (Tk.results_two rfl _ _ w.heap.size 26 #[.int .i64 0, .int .i64 0] (0, 0) _ rfl (Tk.rowB hL0.out.ft _) Try.underlying26 rfl (by kernel_rfl)) rfl
        (Tk.R.done (by rw [HLL.out]; exact hs64) hL0.out.eq (by rw [HLL.out]; have := HA.out; omega) rfl (Tk.rowE hL0.out.ext (Nat.le_refl _) _) (Tk.own_row hL0.out.own hL0.out.lt _) (Nat.le_of_lt hL0.out.lt))
    have HDR := Lib.hid (HAT.out a hlt)
    obtain ⟨c8, hc8⟩ : ∃ c8, c8 = s[a] := ⟨_, rfl⟩
    rw [← hc8] at HDR
    obtain ⟨c, hc⟩ : ∃ c, c = c8.toNat := ⟨_, rfl⟩
    have HC := Lib.hid hc
    have hcc : (s[a]).toNat = c := by rw [hc, hc8]
    have HLT := Lib.hid hlt
    clear hc hc8
    by_cases h1 : c = 32 ∨ c = 9 ∨ c = 10
    · have HSK := Lib.hid (hL0.out.skip HDR.out (Tk.step_blank a c8 _ (by rw [← HC.out]; exact h1)))
      have HSK2 := Lib.hid (HSK.out.keep (Ext.alloc (Below.refl _ _) (.cells #[.int .i64 0, .string ⟨#[]⟩, .int .u64 0, .int .i64 0, .bool false, .int .i64 (a : Int)] 33)))
      rcases h1 with rfl | rfl | rfl <;>
      · go_wp2
        go_round
        case rel => exact ⟨a + 1, ts, av, cv, HLT.out, by go_num, rfl, HSK2.out⟩
        case measure => have := HLT.out; simp [intOf]; omega
    have hn1 : ((c : Int) == 32) = false ∧ ((c : Int) == 9) = false ∧ ((c : Int) == 10) = false := by simp; omega
    obtain ⟨n1, n2, n3⟩ := hn1
    have H1 := Lib.hid h1
    clear h1
    obtain ⟨r, hr⟩ : ∃ r, r = l.drop (a + 1) := ⟨_, rfl⟩
    rw [← hr] at HDR
    have hrest : (s.extract a s.size).data.toList = c8 :: r := by rw [Tk.rest_is, ← HL.out, HDR.out]
    have hlen : (c8 :: r).length = s.size - a := by rw [← HDR.out, List.length_drop, HLL.out]
    have HREST := Lib.hid hrest
    have HLEN := Lib.hid hlen
    obtain ⟨rs, hrs⟩ : ∃ rs, rs = s.extract a s.size := ⟨_, rfl⟩
    have HRS := Lib.hid hrs
    clear hr hrest hlen hrs
    have hHPX : ∀ (pv : Bool), Lib.hasPrefix (c8 :: r) [47, 47] = pv → Hid (∀ w1 : World, Calls Try.prog 25 #[.string (s.extract a s.size), .string ⟨#[47, 47]⟩] w1 fun e w' => e = .returned (.bool pv) ∧ w1 = w') := fun pv hp w1 => by
      have := prefix_ok (s.extract a s.size) ⟨#[47, 47]⟩ w1
      rw [HREST.out, hp] at this
      exact this.mono fun e w' h => ⟨h.1, h.2.symm⟩
    by_cases h2 : c8.toNat = 47 ∧ r.head? = some 47
    · have HPX := hHPX true (by rw [Tk.hit_remark]; simpa using h2)
      clear hHPX
      obtain ⟨m, hm⟩ : ∃ m, m = Tk.run Tk.nl (c8 :: r) := ⟨_, rfl⟩
      have hmle : m ≤ s.size - a := by rw [hm, ← HLEN.out]; exact Tk.run_le _ _
      have hm1 : 1 ≤ m := by rw [hm]; exact Tk.run_pos _ _ _ (by rw [h2.1]; rfl)
      have HSK := Lib.hid (hL0.out.skip HDR.out (Tk.step_remark a c8 r (by rw [← HC.out]; exact H1.out) h2))
      have HSK2 := Lib.hid (HSK.out.keep (Ext.alloc (Below.refl _ _) (.cells #[.int .i64 0, .string ⟨#[]⟩, .int .u64 0, .int .i64 0, .bool false, .int .i64 (a : Int)] 33)))
      rw [← hm] at HSK2
      have hib := Tk.ib_run (c8 :: r)
      rw [← hm, HLEN.out] at hib
      have hIB : ∀ z, z = Lib.indexByte (c8 :: r) 10 → Hid (∀ w1 : World, Calls Try.prog 26 #[.string (s.extract a s.size), .int .u8 10] w1 fun e w' => e = .returned (.int .i64 z) ∧ w1 = w') := fun z hz w1 => by
        have := strings_IndexByteL (s.extract a s.size) 10 w1
        rw [HREST.out] at this
        rw [hz]; exact this.mono fun e w' h => ⟨h.1, h.2.symm⟩
      have HM1 := Lib.hid hm1
      have HMLE := Lib.hid hmle
      clear hm h2 HSK
      by_cases he : m = s.size - a
      · rw [if_pos he] at hib
        have HIB := hIB _ hib.symm
        have HE := Lib.hid he
        clear hib hIB he hm1 hmle
        go_wp2_with (first | (go_at_call 25; refine (HPX.out _).mono ?_; rintro e w' ⟨rfl, rfl⟩) | (go_at_call 26; refine (HIB.out _).mono ?_; rintro e w' ⟨rfl, rfl⟩))
        go_round
        case rel => exact ⟨a + m, ts, av, cv, by have := HMLE.out; have := HLT.out; omega, by have := HE.out; have := HLT.out; go_num, rfl, HSK2.out⟩
        case measure => have := HE.out; have := HLT.out; have := HM1.out; simp [intOf]; omega
      · rw [if_neg he] at hib
        have HIB := hIB _ hib.symm
        clear hib hIB he hm1
        go_wp2_with (first | (go_at_call 25; refine (HPX.out _).mono ?_; rintro e w' ⟨rfl, rfl⟩) | (go_at_call 26; refine (HIB.out _).mono ?_; rintro e w' ⟨rfl, rfl⟩))
        go_round
        case rel => exact ⟨a + m, ts, av, cv, by have := HMLE.out; have := HLT.out; omega, by have := HMLE.out; have := HLT.out; go_num, rfl, HSK2.out⟩
        case measure => have := HMLE.out; have := HLT.out; have := HM1.out; simp [intOf]; omega
    have HPX := hHPX false (by rw [Tk.hit_remark]; simpa using h2)
    have H2 := Lib.hid h2
    clear hHPX h2
    have hLC : ∀ bv, Tk.isL c = bv → Hid (∀ w1 : World, Calls Try.prog 20 #[.int .u8 (c : Int)] w1 fun e w' => e = .returned (.bool bv) ∧ w1 = w') := fun bv hb w1 => by rw [← hb]; exact letter_ok c w1
    have hDC : ∀ bv, Tk.isD c = bv → Hid (∀ w1 : World, Calls Try.prog 21 #[.int .u8 (c : Int)] w1 fun e w' => e = .returned (.bool bv) ∧ w1 = w') := fun bv hb w1 => by rw [← hb]; exact digit_ok c w1
    have HTZ := Lib.hid (show TkB (wr.alloc (.cells #[.int .i64 0, .string ⟨#[]⟩, .int .u64 0, .int .i64 0, .bool false, .int .i64 (a : Int)] 33)) wr.heap.size 0 ⟨#[]⟩ 0 0 false (a : Int) from Blk.new _ _ _)
    have HFEW : Hid (ts.length + 1 ≤ 1000000000) := by show ts.length + 1 ≤ _; have := hL0.out.few; omega
    rcases h3 : Tk.isL c with _ | _
    rotate_left
    · -- a name
      have HLC := hLC true h3
      obtain ⟨m, hm⟩ : ∃ m, m = Tk.run Tk.isW (c8 :: r) := ⟨_, rfl⟩
      have hmle : m ≤ s.size - a := by rw [hm, ← HLEN.out]; exact Tk.run_le _ _
      have hm1 : 1 ≤ m := by rw [hm]; exact Tk.run_pos _ _ _ (by rw [← HC.out]; exact Tk.isL_W h3)
      have hstep := Tk.step_name a c8 r (by rw [← HC.out]; exact h3)
      rw [← hm] at hstep
      have HSTEP := Lib.hid hstep
      have HBYTE : Hid (∀ k, (hk : a + k < s.size) → (c8 :: r)[k]? = some (s[a + k]'hk)) := fun k hk => by
        rw [← HDR.out, List.getElem?_drop, ← List.head?_drop, HAT.out (a + k) hk]; rfl
      have HM := Lib.hid hm
      have HM1 := Lib.hid hm1
      have HMLE := Lib.hid hmle
      have hmsz : a + m ≤ s.size := by omega
      clear hLC hDC hm hstep hm1 hmle h3
      go_upto_region 24 with (first | (go_at_call 25; refine (HPX.out _).mono ?_; rintro e w' ⟨rfl, rfl⟩) | (go_at_call 20; refine (HLC.out _).mono ?_; rintro e w' ⟨rfl, rfl⟩))
      go_loop [8] (fun lg => ∃ k : Nat, k ≤ m ∧ lg = .int .i64 (k : Int)) (fun lg => m + 1 - (intOf lg).toNat)
      case atStart => exact ⟨0, Nat.zero_le _, rfl⟩
      case round =>
        obtain ⟨k, hk, rfl⟩ := hrel
        by_cases hkm : k < m
        · have hak : a + k < s.size := by omega
          obtain ⟨c2, hc2⟩ : ∃ c2, c2 = (s[a + k]).toNat := ⟨_, rfl⟩
          have hW : Tk.isW c2 = true := by
            rw [HM.out] at hkm
            obtain ⟨c3, e1, e2⟩ := Tk.runs_at Tk.isW _ k hkm
            rw [HBYTE.out k hak] at e1; injection e1 with e1
            rw [hc2, e1]; exact e2
          have hcc2 : (s[a + k]).toNat = c2 := hc2.symm
          have HKM := Lib.hid hkm
          clear hc2
          rcases hu : Tk.isL c2 with _ | _
          · have hv : Tk.isD c2 = true := by unfold Tk.isW at hW; rw [hu] at hW; exact hW
            have HLK : Hid (∀ w1 : World, Calls Try.prog 20 #[.int .u8 (c2 : Int)] w1 fun e w' => e = .returned (.bool false) ∧ w1 = w') := fun w1 => by rw [← hu]; exact letter_ok c2 w1
            have HDK : Hid (∀ w1 : World, Calls Try.prog 21 #[.int .u8 (c2 : Int)] w1 fun e w' => e = .returned (.bool true) ∧ w1 = w') := fun w1 => by rw [← hv]; exact digit_ok c2 w1
            clear hu hv hW
            go_wp2_with (first | (go_at_call 20; refine (HLK.out _).mono ?_; rintro e w' ⟨rfl, rfl⟩) | (go_at_call 21; refine (HDK.out _).mono ?_; rintro e w' ⟨rfl, rfl⟩))
            go_round
            case rel => exact ⟨k + 1, HKM.out, by go_num⟩
            case measure => have := HKM.out; simp [intOf]; omega
          · have HLK : Hid (∀ w1 : World, Calls Try.prog 20 #[.int .u8 (c2 : Int)] w1 fun e w' => e = .returned (.bool true) ∧ w1 = w') := fun w1 => by rw [← hu]; exact letter_ok c2 w1
            clear hu hW
            go_wp2_with (first | (go_at_call 20; refine (HLK.out _).mono ?_; rintro e w' ⟨rfl, rfl⟩) | (go_at_call 21; refine (HDK.out _).mono ?_; rintro e w' ⟨rfl, rfl⟩))
            go_round
            case rel => exact ⟨k + 1, HKM.out, by go_num⟩
            case measure => have := HKM.out; simp [intOf]; omega
        · obtain rfl : k = m := by omega
          have hk0 : ((k : Int) == 0) = false := by have := HM1.out; simp; omega
          by_cases hak : a + k < s.size
          · obtain ⟨c2, hc2⟩ : ∃ c2, c2 = (s[a + k]).toNat := ⟨_, rfl⟩
            have hW : Tk.isW c2 = false := by
              have := Tk.run_out Tk.isW (c8 :: r) (s[a + k]) (by rw [← HM.out]; exact HBYTE.out k hak)
              rw [hc2]; exact this
            have hcc2 : (s[a + k]).toNat = c2 := hc2.symm
            have huv : Tk.isL c2 = false ∧ Tk.isD c2 = false := by unfold Tk.isW at hW; simpa using hW
            have HLK : Hid (∀ w1 : World, Calls Try.prog 20 #[.int .u8 (c2 : Int)] w1 fun e w' => e = .returned (.bool false) ∧ w1 = w') := fun w1 => by rw [← huv.1]; exact letter_ok c2 w1
            have HDK : Hid (∀ w1 : World, Calls Try.prog 21 #[.int .u8 (c2 : Int)] w1 fun e w' => e = .returned (.bool false) ∧ w1 = w') := fun w1 => by rw [← huv.2]; exact digit_ok c2 w1
            clear hc2 hW huv
            obtain ⟨t0, t1, t2, t3, t4, t5⟩ := HTZ.out.six
            obtain ⟨f0, f1, f2, f3, f4, f5⟩ := HTZ.out.free
            go_upto_region 26 with (first | (go_at_call 20; refine (HLK.out _).mono ?_; rintro e w' ⟨rfl, rfl⟩) | (go_at_call 21; refine (HDK.out _).mono ?_; rintro e w' ⟨rfl, rfl⟩))
            go_region
            obtain ⟨tx, htx⟩ : ∃ tx, tx = s.extract a (a + k) := ⟨_, rfl⟩
            rw [← htx]
            have HTX : Hid (tx = ⟨((c8 :: r).take k).toArray⟩) := by show _ = _; rw [htx, Tk.extract_is, ← HL.out, HDR.out, Nat.add_sub_cancel_left]
            clear htx
            generalize hw5 : World.drew (World.alloc wr _) = w5
            have HT5 : Hid (TkB w5 wr.heap.size 1 tx 0 0 false (a : Int)) := by rw [← hw5]; exact (Blk.new wr _ _).drew
            have HL5 : Hid (Tk.L w B g l a ts av cv w5) := by rw [← hw5]; exact hL0.out.keep (Ext.drew (Ext.alloc (Below.refl _ _) _))
            clear hw5 t0 t1 t2 t3 t4 t5 f0 f1 f2 f3 f4 f5
            obtain ⟨t0, t1, t2, t3, t4, t5⟩ := HT5.out.six
            go_wp2_with (first | (refine Tk.wpList_app_tok rfl _ _ rfl B (.slice av ts.length cv) ts.length (Tk.tkR ts) w5.heap.size 1 0 0 false tx (a : Int) rfl rfl (HL5.out.keep (Ext.alloc (Below.refl _ _) _)).own (Blk.new w5 _ _) HFEW.out (HL5.out.keep (Ext.alloc (Below.refl _ _) _)).low ?_; intro a3 c3 w6 ho6 hg6; rw [HTX.out] at ho6; have HT6 := Lib.hid ((HL5.out.keep (Ext.alloc (Below.refl _ _) _)).tok HDR.out HSTEP.out ho6 hg6); clear ho6 hg6))
            go_round
            case rel => exact ⟨a + k, ts ++ [_], a3, c3, hmsz, by go_num, by rw [List.length_append]; rfl, HT6.out⟩
            case measure => have := HM1.out; simp [intOf]; omega
          · have hsk : ¬ ((a : Int) + (k : Int) < (s.size : Int)) := by omega
            obtain ⟨t0, t1, t2, t3, t4, t5⟩ := HTZ.out.six
            obtain ⟨f0, f1, f2, f3, f4, f5⟩ := HTZ.out.free
            go_upto_region 26 with (first | fail)
            go_region
            obtain ⟨tx, htx⟩ : ∃ tx, tx = s.extract a (a + k) := ⟨_, rfl⟩
            rw [← htx]
            have HTX : Hid (tx = ⟨((c8 :: r).take k).toArray⟩) := by show _ = _; rw [htx, Tk.extract_is, ← HL.out, HDR.out, Nat.add_sub_cancel_left]
            clear htx
            generalize hw5 : World.drew (World.alloc wr _) = w5
            have HT5 : Hid (TkB w5 wr.heap.size 1 tx 0 0 false (a : Int)) := by rw [← hw5]; exact (Blk.new wr _ _).drew
            have HL5 : Hid (Tk.L w B g l a ts av cv w5) := by rw [← hw5]; exact hL0.out.keep (Ext.drew (Ext.alloc (Below.refl _ _) _))
            clear hw5 t0 t1 t2 t3 t4 t5 f0 f1 f2 f3 f4 f5
            obtain ⟨t0, t1, t2, t3, t4, t5⟩ := HT5.out.six
            go_wp2_with (first | (refine Tk.wpList_app_tok rfl _ _ rfl B (.slice av ts.length cv) ts.length (Tk.tkR ts) w5.heap.size 1 0 0 false tx (a : Int) rfl rfl (HL5.out.keep (Ext.alloc (Below.refl _ _) _)).own (Blk.new w5 _ _) HFEW.out (HL5.out.keep (Ext.alloc (Below.refl _ _) _)).low ?_; intro a3 c3 w6 ho6 hg6; rw [HTX.out] at ho6; have HT6 := Lib.hid ((HL5.out.keep (Ext.alloc (Below.refl _ _) _)).tok HDR.out HSTEP.out ho6 hg6); clear ho6 hg6))
            go_round
            case rel => exact ⟨a + k, ts ++ [_], a3, c3, hmsz, by go_num, by rw [List.length_append]; rfl, HT6.out⟩
            case measure => have := HM1.out; simp [intOf]; omega
    have HLC := hLC false h3
    rcases h4 : Tk.isD c with _ | _
    rotate_left
    · -- a number
      have HDC := hDC true h4
      obtain ⟨m, hm⟩ : ∃ m, m = Tk.run Tk.isD (c8 :: r) := ⟨_, rfl⟩
      obtain ⟨v, hv⟩ : ∃ v, v = Tk.val 0 ((c8 :: r).take m) := ⟨_, rfl⟩
      obtain ⟨u, hu⟩ : ∃ u, ((c8 :: r)[m]? == some 117) = u := ⟨_, rfl⟩
      obtain ⟨b, sg, z, hlit⟩ : ∃ b sg z, W.lit (v : Int) u = (b, sg, z) := ⟨_, _, _, rfl⟩
      have hlit2 : Tk.lit (v : Int) u = (b, sg, z) := hlit
      have hstep := Tk.step_num a c8 r (by rw [← HC.out]; exact h4) v (by rw [hv, hm]) u (by rw [← hm]; exact hu) b sg z hlit2
      have hnum : ∀ w1 : World, Calls Try.prog 27 #[.string (s.extract a s.size)] w1 (NumR (c8 :: r) w1) := fun w1 => by
        have := number_ok (s.extract a s.size) (Nat.le_trans (Tk.rest_size s a) hs64) w1
        rw [HREST.out] at this; exact this
      have hmle : m + (if u then 1 else 0) ≤ s.size - a := by
        have := Tk.digits_len c8 r
        rw [← hm, hu, HLEN.out] at this; exact this
      have hm1 : 1 ≤ m := by rw [hm]; exact Tk.run_pos _ _ _ (by rw [← HC.out]; exact h4)
      clear hLC hDC h3 h4
      by_cases hbig : 18446744073709551616 ≤ v
      · rw [if_pos hbig] at hstep
        have HSTEP := Lib.hid hstep
        have HNU : Hid (∀ w1 : World, Calls Try.prog 27 #[.string (s.extract a s.size)] w1 (fun e w' => ∃ nv nz : Int, e = .returned (.tuple #[.agg #[.int .i64 0, .string ⟨#[]⟩, .int .u64 nv, .int .i64 0, .bool false, .int .i64 0], .int .i64 nz, .int .i64 3]) ∧ Below w1.heap.size w1 w')) := fun w1 => by
          refine (hnum w1).mono ?_
          rintro e w' ⟨hb, h | h⟩
          · obtain ⟨_, nv, nz, he⟩ := h; exact ⟨nv, nz, he, hb⟩
          · rw [← hm, ← hv] at h; exact absurd h.1 (by omega)
        clear hstep hnum hm hv hu hlit hlit2 hbig hmle hm1
        go_wp2_with (first | (go_at_call 25; refine (HPX.out _).mono ?_; rintro e w' ⟨rfl, rfl⟩) | (go_at_call 20; refine (HLC.out _).mono ?_; rintro e w' ⟨rfl, rfl⟩) | (go_at_call 21; refine (HDC.out _).mono ?_; rintro e w' ⟨rfl, rfl⟩) | (go_at_call 27; refine (HNU.out _).mono ?_; rintro e w3 ⟨nv, nz, rfl, hb3⟩; have HL3 := Lib.hid (hL0.out.keep (Ext.trans (Ext.alloc (Below.refl _ _) (.cells #[.int .i64 0, .string ⟨#[]⟩, .int .u64 0, .int .i64 0, .bool false, .int .i64 (a : Int)] 33)) (Ext.trans hb3 (Ext.alloc (Below.refl _ _) (.cells #[.int .i64 0, .string ⟨#[]⟩, .int .u64 nv, .int .i64 0, .bool false, .int .i64 0] 33))))); clear hb3) | (refine wpList_store_row rfl 26 _ _ rfl w.heap.size #[.int .i64 3, .int .i64 (a : Int)] rfl rfl 26 _ HL3.out.ft (by kernel_rfl) rfl (Tk.fone _ _) ?_))
        exact bodyPost_ret (Tk.results_two rfl _ _ w.heap.size 26 #[.int .i64 3, .int .i64 (a : Int)] (0, 0) _ rfl (Tk.rowB HL3.out.ft _) Try.underlying26 rfl (by kernel_rfl)) rfl
          (Tk.R.err (by rw [HLL.out]; exact hs64) HL3.out.eq HDR.out HSTEP.out rfl (Tk.rowE HL3.out.ext (Nat.le_refl _) _))
      rw [if_neg hbig] at hstep
      obtain ⟨tx, htx⟩ : ∃ tx : ByteArray, tx = ⟨((c8 :: r).take m).toArray⟩ := ⟨_, rfl⟩
      have HTX := Lib.hid htx
      obtain ⟨q, hq⟩ : ∃ q, q = m + (if u then 1 else 0) := ⟨_, rfl⟩
      rw [← hm] at hstep
      rw [← hq] at hmle hstep
      have hq1 : 1 ≤ q := by rw [hq]; omega
      have HNU : Hid (∀ w1 : World, Calls Try.prog 27 #[.string (s.extract a s.size)] w1 (fun e w' => e = .returned (.tuple #[.agg #[.int .i64 2, .string tx, .int .u64 v, .int .i64 b, .bool sg, .int .i64 0], .int .i64 (q : Int), .int .i64 z]) ∧ Below w1.heap.size w1 w')) := fun w1 => by
        refine (hnum w1).mono ?_
        rintro e w' ⟨hb, h | h⟩
        · rw [← hm, ← hv] at h; exact absurd h.1 hbig
        · rw [← hm, ← hv, ← htx] at h
          have := h.2 u b sg z hu hlit
          rw [← hq] at this
          exact ⟨this, hb⟩
      have hzc := Tk.lit_code (v : Int) u
      rw [hlit] at hzc
      have hqs : a + q ≤ s.size := by omega
      have HQ1 := Lib.hid hq1
      clear hnum hm hv hu hlit hlit2 hbig hm1 htx hq hmle hq1
      rcases hzc with hz | hz
      · have hz : z = 0 := hz
        subst hz
        rw [if_neg (by simp)] at hstep
        have HSTEP := Lib.hid hstep
        have hq0 : ((q : Int) == 0) = false := by have := HQ1.out; simp; omega
        clear hstep
        go_upto_region 31 with (first | (go_at_call 25; refine (HPX.out _).mono ?_; rintro e w' ⟨rfl, rfl⟩) | (go_at_call 20; refine (HLC.out _).mono ?_; rintro e w' ⟨rfl, rfl⟩) | (go_at_call 21; refine (HDC.out _).mono ?_; rintro e w' ⟨rfl, rfl⟩) | (go_at_call 27; refine (HNU.out _).mono ?_; rintro e w3 ⟨rfl, hb3⟩; have HW3 := Lib.hid (Ext.alloc (Ext.trans (Ext.alloc (Below.refl wr.heap.size wr) (.cells #[.int .i64 0, .string ⟨#[]⟩, .int .u64 0, .int .i64 0, .bool false, .int .i64 (a : Int)] 33)) hb3) (.cells #[.int .i64 2, .string tx, .int .u64 v, .int .i64 b, .bool sg, .int .i64 0] 33)); have HL3 := Lib.hid (hL0.out.keep HW3.out); have HT3 := Lib.hid (show TkB _ _ _ _ _ _ _ _ from (HTZ.out.keep hb3).alloc (.cells #[.int .i64 2, .string tx, .int .u64 v, .int .i64 b, .bool sg, .int .i64 0] 33)); clear hb3))
        obtain ⟨y0, y1, y2, y3, y4, y5⟩ := (show TkB (w3.alloc (.cells #[.int .i64 2, .string tx, .int .u64 v, .int .i64 b, .bool sg, .int .i64 0] 33)) w3.heap.size 2 tx v b sg 0 from Blk.new _ _ _).six
        go_upto_region 33 with (first | (refine wpList_store_row rfl 33 _ _ rfl wr.heap.size #[.int .i64 2, .string tx, .int .u64 v, .int .i64 b, .bool sg, .int .i64 0] rfl rfl 33 _ HT3.out (by kernel_rfl) rfl (Tk.one _ _ _ _ _ _) ?_; have HW4 := Lib.hid (Tk.rowE HW3.out (Nat.le_refl _) #[.int .i64 2, .string tx, .int .u64 v, .int .i64 b, .bool sg, .int .i64 0]); have HT4 := Lib.hid (show TkB _ _ _ _ _ _ _ _ from Tk.rowB HT3.out #[.int .i64 2, .string tx, .int .u64 v, .int .i64 b, .bool sg, .int .i64 0]); obtain ⟨t0, t1, t2, t3, t4, t5⟩ := HT4.out.six; obtain ⟨f0, f1, f2, f3, f4, f5⟩ := HT4.out.free))
        have HT5 := Lib.hid (tk_at HT4.out (a : Int))
        have HL5 := Lib.hid (hL0.out.keep (Ext.setCell HW4.out (p := ⟨wr.heap.size, 5, none⟩) (Nat.le_refl _) (.int .i64 (a : Int))))
        generalize hw5 : (((w3.alloc (.cells #[.int .i64 2, .string tx, .int .u64 v, .int .i64 b, .bool sg, .int .i64 0] 33)).setRow wr.heap.size #[.int .i64 2, .string tx, .int .u64 v, .int .i64 b, .bool sg, .int .i64 0]).setCell ⟨wr.heap.size, 5, none⟩ (.int .i64 (a : Int))) = w5
        rw [hw5] at HT5 HL5
        clear hw5 t0 t1 t2 t3 t4 t5 f0 f1 f2 f3 f4 f5 y0 y1 y2 y3 y4 y5
        obtain ⟨t0, t1, t2, t3, t4, t5⟩ := HT5.out.six
        go_wp2_with (first | (refine Tk.wpList_app_tok rfl _ _ rfl B (.slice av ts.length cv) ts.length (Tk.tkR ts) w5.heap.size 2 v b sg tx (a : Int) rfl rfl (HL5.out.keep (Ext.alloc (Below.refl _ _) _)).own (Blk.new w5 _ _) HFEW.out (HL5.out.keep (Ext.alloc (Below.refl _ _) _)).low ?_; intro a3 c3 w6 ho6 hg6; rw [HTX.out] at ho6; have HT6 := Lib.hid ((HL5.out.keep (Ext.alloc (Below.refl _ _) _)).tok HDR.out HSTEP.out ho6 hg6); clear ho6 hg6))
        go_round
        case rel => exact ⟨a + q, ts ++ [_], a3, c3, hqs, by go_num, by rw [List.length_append]; rfl, HT6.out⟩
        case measure => have := HQ1.out; simp [intOf]; omega
      · have hz : z = 3 := hz
        subst hz
        rw [if_pos (by decide)] at hstep
        have HSTEP := Lib.hid hstep
        clear hstep
        go_wp2_with (first | (go_at_call 25; refine (HPX.out _).mono ?_; rintro e w' ⟨rfl, rfl⟩) | (go_at_call 20; refine (HLC.out _).mono ?_; rintro e w' ⟨rfl, rfl⟩) | (go_at_call 21; refine (HDC.out _).mono ?_; rintro e w' ⟨rfl, rfl⟩) | (go_at_call 27; refine (HNU.out _).mono ?_; rintro e w3 ⟨rfl, hb3⟩; have HW3 := Lib.hid (Ext.alloc (Ext.trans (Ext.alloc (Below.refl wr.heap.size wr) (.cells #[.int .i64 0, .string ⟨#[]⟩, .int .u64 0, .int .i64 0, .bool false, .int .i64 (a : Int)] 33)) hb3) (.cells #[.int .i64 2, .string tx, .int .u64 v, .int .i64 b, .bool sg, .int .i64 0] 33)); have HL3 := Lib.hid (hL0.out.keep HW3.out); have HT3 := Lib.hid (show TkB _ _ _ _ _ _ _ _ from (HTZ.out.keep hb3).alloc (.cells #[.int .i64 2, .string tx, .int .u64 v, .int .i64 b, .bool sg, .int .i64 0] 33)); clear hb3) | (refine wpList_store_row rfl 26 _ _ rfl w.heap.size #[.int .i64 3, .int .i64 (a : Int)] rfl rfl 26 _ HL3.out.ft (by kernel_rfl) rfl (Tk.fone _ _) ?_))
        exact bodyPost_ret (Tk.results_two rfl _ _ w.heap.size 26 #[.int .i64 3, .int .i64 (a : Int)] (0, 0) _ rfl (Tk.rowB HL3.out.ft _) Try.underlying26 rfl (by kernel_rfl)) rfl
          (Tk.R.err (by rw [HLL.out]; exact hs64) HL3.out.eq HDR.out HSTEP.out rfl (Tk.rowE HL3.out.ext (Nat.le_refl _) _))
    have HDC := hDC false h4
    have hstep := Tk.step_sign a c8 r (by rw [← HC.out]; exact H1.out) H2.out (by rw [← HC.out]; exact h3) (by rw [← HC.out]; exact h4)
    have HSTEP0 := Lib.hid hstep
    have HSG := Lib.hid (hL0.out.sg.alloc (.cells #[.int .i64 0, .string ⟨#[]⟩, .int .u64 0, .int .i64 0, .bool false, .int .i64 (a : Int)] 33))
    clear hstep hLC hDC h3 h4
    go_upto_region 11 with (first | (go_at_call 25; refine (HPX.out _).mono ?_; rintro e w' ⟨rfl, rfl⟩) | (go_at_call 20; refine (HLC.out _).mono ?_; rintro e w' ⟨rfl, rfl⟩) | (go_at_call 21; refine (HDC.out _).mono ?_; rintro e w' ⟨rfl, rfl⟩))
    go_loop [8, 32] (fun lg i => ∃ k : Nat, k ≤ 29 ∧ i = .int .i64 (k : Int) ∧ lg = .int .i64 0 ∧ Hid (∀ j, j < k → Tk.hit (Tk.sgL.getD j []) (c8 :: r) = false)) (fun lg i => 29 - (intOf i).toNat)
    case atStart => exact ⟨0, Nat.zero_le _, rfl, rfl, fun j hj => absurd hj (Nat.not_lt_zero _)⟩
    case round =>
      obtain ⟨k, hk, rfl, rfl, hno⟩ := hrel
      by_cases hlt2 : k < 29
      · obtain ⟨n1, hn1⟩ : ∃ n, n = (Tk.sgL.getD k []).length := ⟨_, rfl⟩
        obtain ⟨tx, hXB⟩ : ∃ B : ByteArray, B = ⟨(Tk.sgL.getD k []).toArray⟩ := ⟨_, rfl⟩
        have hXs : tx.size = n1 := by rw [Tk.size_is, hXB, hn1]
        have hcell : (wr.alloc (.cells #[.int .i64 0, .string ⟨#[]⟩, .int .u64 0, .int .i64 0, .bool false, .int .i64 (a : Int)] 33)).cell? ⟨g, k, none⟩ = some (.string tx) := by
          rw [HSG.out.cell, List.getElem?_toArray, List.getElem?_map, hXB, List.getD_eq_getElem?_getD, List.getElem?_eq_getElem (show k < Tk.sgL.length from hlt2)]; rfl
        obtain ⟨pv, hpv⟩ : ∃ b, b = Tk.hit (Tk.sgL.getD k []) (c8 :: r) := ⟨_, rfl⟩
        have HPX : Hid (∀ w1 : World, Calls Try.prog 25 #[.string (s.extract a s.size), .string tx] w1 fun e w' => e = .returned (.bool pv) ∧ w1 = w') := fun w1 => by
          have := prefix_ok (s.extract a s.size) tx w1
          rw [HREST.out, show Lib.hasPrefix (c8 :: r) tx.data.toList = pv by rw [hpv, hXB]; rfl] at this
          exact this.mono fun e w' h => ⟨h.1, h.2.symm⟩
        have hn12 : 1 ≤ n1 ∧ n1 ≤ 2 := by rw [hn1, Tk.sg_len k hlt2]; split <;> omega
        have HK := Lib.hid hlt2
        rcases pv with _ | _
        · have HNO : Hid (∀ j, j < k + 1 → Tk.hit (Tk.sgL.getD j []) (c8 :: r) = false) := fun j hj => by
            rcases Nat.lt_or_ge j k with h | h
            · exact hno.out j h
            · obtain rfl : j = k := by omega
              exact hpv.symm
          clear hn1 hXB hXs hpv hn12
          go_wp2_with (first | (go_at_call 25; refine (HPX.out _).mono ?_; rintro e w' ⟨rfl, rfl⟩))
          go_round
          case rel => exact ⟨k + 1, HK.out, by go_num, rfl, HNO⟩
          case measure => have := HK.out; simp [intOf]; omega
        · have hsg : Tk.sgn (c8 :: r) = n1 := by rw [hn1]; exact Tk.first_hit _ k hlt2 hno.out hpv.symm
          have HTX : Hid (tx = ⟨((c8 :: r).take n1).toArray⟩) := by show _ = _; rw [hXB, hn1, Tk.hit_take hpv.symm]
          have hfit : n1 ≤ s.size - a := by rw [← hsg, ← HLEN.out]; exact (Tk.sgn_le _).2
          have HSTEP : Hid (Tk.step a c8 r = .tok ⟨3, (c8 :: r).take n1, 0, 0, false, a⟩ n1) := by
            show _ = _; rw [HSTEP0.out, if_neg (by rw [hsg]; omega), hsg]
          have hsz : a + n1 ≤ s.size := by omega
          have HN1 := Lib.hid hn12.1
          have hn0 : ((n1 : Int) == 0) = false := by have := hn12.1; simp; omega
          have hn2 : n1 ≤ 2 := hn12.2
          clear hn1 hXB hpv hn12 hsg hfit
          obtain ⟨t0, t1, t2, t3, t4, t5⟩ := HTZ.out.six
          obtain ⟨f0, f1, f2, f3, f4, f5⟩ := HTZ.out.free
          go_upto_region 33 with (first | (go_at_call 25; refine (HPX.out _).mono ?_; rintro e w' ⟨rfl, rfl⟩))
          generalize hw5 : World.alloc wr _ = w5
          have HT5 : Hid (TkB w5 wr.heap.size 3 tx 0 0 false (a : Int)) := by rw [← hw5]; exact Blk.new wr _ _
          have HL5 : Hid (Tk.L w B g l a ts av cv w5) := by rw [← hw5]; exact hL0.out.keep (Ext.alloc (Below.refl _ _) _)
          clear hw5 t0 t1 t2 t3 t4 t5 f0 f1 f2 f3 f4 f5
          obtain ⟨t0, t1, t2, t3, t4, t5⟩ := HT5.out.six
          go_wp2_with (first | (refine Tk.wpList_app_tok rfl _ _ rfl B (.slice av ts.length cv) ts.length (Tk.tkR ts) w5.heap.size 3 0 0 false tx (a : Int) rfl rfl (HL5.out.keep (Ext.alloc (Below.refl _ _) _)).own (Blk.new w5 _ _) HFEW.out (HL5.out.keep (Ext.alloc (Below.refl _ _) _)).low ?_; intro a3 c3 w6 ho6 hg6; rw [HTX.out] at ho6; have HT6 := Lib.hid ((HL5.out.keep (Ext.alloc (Below.refl _ _) _)).tok HDR.out HSTEP.out ho6 hg6); clear ho6 hg6))
          go_round
          case rel => exact ⟨a + n1, ts ++ [_], a3, c3, hsz, by go_num, by rw [List.length_append]; rfl, HT6.out⟩
          case measure => have := HN1.out; simp [intOf]; omega
      · obtain rfl : k = 29 := by omega
        have HL3 := Lib.hid (hL0.out.keep (Ext.alloc (Below.refl _ _) (.cells #[.int .i64 0, .string ⟨#[]⟩, .int .u64 0, .int .i64 0, .bool false, .int .i64 (a : Int)] 33)))
        have HSTEP : Hid (Tk.step a c8 r = .err 2) := by
          show _ = _; rw [HSTEP0.out, if_pos (Tk.no_hit _ hno.out)]
        go_wp2_with (first | (refine wpList_store_row rfl 26 _ _ rfl w.heap.size #[.int .i64 2, .int .i64 (a : Int)] rfl rfl 26 _ HL3.out.ft (by kernel_rfl) rfl (Tk.fone _ _) ?_))
        exact bodyPost_ret (Tk.results_two rfl _ _ w.heap.size 26 #[.int .i64 2, .int .i64 (a : Int)] (0, 0) _ rfl (Tk.rowB HL3.out.ft _) Try.underlying26 rfl (by kernel_rfl)) rfl
          (Tk.R.err (by rw [HLL.out]; exact hs64) HL3.out.eq HDR.out HSTEP.out rfl (Tk.rowE HL3.out.ext (Nat.le_refl _) _))
end Go.Proofs.Ytkmcniaaecijdaa
