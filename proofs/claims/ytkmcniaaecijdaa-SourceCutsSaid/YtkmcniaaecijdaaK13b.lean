/- Walk of ref8.Tokens: the round that comes to a number. No condition. -/
import Derived.Test.YtkmcniaaecijdaaK13a
import Derived.Test.YtkmcniaaecijdaaK12h
import Derived.LoopTactic
import Derived.Deep.Cut
import Derived.Deep.CutBlock
import Derived.Deep.DeepCutAuto
namespace Go.Proofs.Ytkmcniaaecijdaa
open Go.RowKit
set_option linter.unusedVariables false
set_option linter.unusedSimpArgs false
set_option maxRecDepth 100000
set_option maxHeartbeats 32000000 in
theorem tokens8_b (s : ByteArray) (w wr : World) (B : Nat) (l : List UInt8) (a : Nat) (ts : List Tk.Tok) (av : Option Addr) (cv : Nat) (c8 : UInt8) (c : Nat) (r : List UInt8) (HL : Hid (l = s.data.toList)) (HLL : Hid (l.length = s.size)) (hs64 : s.size ≤ 65536) (hL0 : Hid (Tk.L8 w B l a ts av cv wr)) (ha : a ≤ s.size) (hlt : a < s.size) (HC : Hid (c = c8.toNat)) (hcc : (s[a]).toNat = c) (HLT : Hid (a < s.size)) (nb1 : ((c : Int) == 32) = false) (nb2 : ((c : Int) == 9) = false) (nb3 : ((c : Int) == 10) = false) (H1 : Hid (¬ (c = 32 ∨ c = 9 ∨ c = 10))) (HDR : Hid (l.drop a = c8 :: r)) (HLEN : Hid ((c8 :: r).length = s.size - a)) (HBYTE : Hid (∀ k, (hk : a + k < s.size) → (c8 :: r)[k]? = some (s[a + k]'hk))) (hnext : ∀ (h : a + 1 < s.size), r.head? = some (s[a + 1]'h)) (hend : ¬ a + 1 < s.size → r.head? = none) (h2 : ¬ (c8.toNat = 47 ∧ r.head? = some 47)) (q1 : decide ((s.size : Int) > 65536) = false) (h3 : Tk.isL c = false) (h4 : Tk.isD c = true) (u2 u6 u7 u8 u9 u10 u11 u12 u13 u14 u19 u20 u21 u22 u23 u24 u25 u26 u27 u28 u29 u30 u31 u32 u33 u34 u35 u36 u37 u38 u39 u40 u41 u42 u43 u44 u45 u46 u47 u48 u49 u50 u51 u52 u53 u54 u55 u56 u57 u58 u59 u60 u61 u62 u63 u64 u65 u66 u67 u68 u69 u70 u71 u72 u73 u74 u75 u76 u77 u78 u79 u80 u81 u82 u83 u84 u85 u86 u87 u88 u89 u90 u91 u92 u93 u94 u95 u96 u97 u98 u99 u100 u101 u102 u103 u104 u105 u106 u107 u108 u109 u110 u111 u112 u113 u114 u115 u116 u117 u118 u119 u120 u121 u122 u123 u124 u125 u126 u127 u128 u129 u130 u131 u132 u133 u134 u135 u136 u137 u138 u139 u140 u141 u142 u143 u144 u145 u146 u147 u148 u149 u150 u151 u152 u153 u154 u155 u156 u157 u158 u159 u160 u161 u162 u163 u164 u165 u166 u167 u168 u169 u170 u171 u172 u173 u174 u175 u176 u177 u178 u179 u180 u181 u182 u183 u184 u185 : Value) (K : Act → World → Prop) :
    Code.wp Try.prog Tk.body8 (Exit.then (fun a' w' => (∃ u2 u4 u5 u6 u7 u8 u9 u10 u11 u12 u13 u14 u19 u20 u21 u22 u23 u24 u25 u26 u27 u28 u29 u30 u31 u32 u33 u34 u35 u36 u37 u38 u39 u40 u41 u42 u43 u44 u45 u46 u47 u48 u49 u50 u51 u52 u53 u54 u55 u56 u57 u58 u59 u60 u61 u62 u63 u64 u65 u66 u67 u68 u69 u70 u71 u72 u73 u74 u75 u76 u77 u78 u79 u80 u81 u82 u83 u84 u85 u86 u87 u88 u89 u90 u91 u92 u93 u94 u95 u96 u97 u98 u99 u100 u101 u102 u103 u104 u105 u106 u107 u108 u109 u110 u111 u112 u113 u114 u115 u116 u117 u118 u119 u120 u121 u122 u123 u124 u125 u126 u127 u128 u129 u130 u131 u132 u133 u134 u135 u136 u137 u138 u139 u140 u141 u142 u143 u144 u145 u146 u147 u148 u149 u150 u151 u152 u153 u154 u155 u156 u157 u158 u159 u160 u161 u162 u163 u164 u165 u166 u167 u168 u169 u170 u171 u172 u173 u174 u175 u176 u177 u178 u179 u180 u181 u182 u183 u184 u185 : Value, (∃ (a : Nat) (ts : List Tk.Tok) (av : Option Addr) (cv : Nat), a ≤ s.size ∧ u5 = .int .i64 (a : Int) ∧ u4 = .slice av ts.length cv ∧ Hid (Tk.L8 w B l a ts av cv w')) ∧ a' = ⟨#[.string s, undef, u2, .pointer (some ⟨w.heap.size, 0, none⟩), u4, u5, u6, u7, u8, u9, u10, u11, u12, u13, u14, .string s, .int .i64 s.size, .bool false, undef, u19, u20, u21, u22, u23, u24, u25, u26, u27, u28, u29, u30, u31, u32, u33, u34, u35, u36, u37, u38, u39, u40, u41, u42, u43, u44, u45, u46, u47, u48, u49, u50, u51, u52, u53, u54, u55, u56, u57, u58, u59, u60, u61, u62, u63, u64, u65, u66, u67, u68, u69, u70, u71, u72, u73, u74, u75, u76, u77, u78, u79, u80, u81, u82, u83, u84, u85, u86, u87, u88, u89, u90, u91, u92, u93, u94, u95, u96, u97, u98, u99, u100, u101, u102, u103, u104, u105, u106, u107, u108, u109, u110, u111, u112, u113, u114, u115, u116, u117, u118, u119, u120, u121, u122, u123, u124, u125, u126, u127, u128, u129, u130, u131, u132, u133, u134, u135, u136, u137, u138, u139, u140, u141, u142, u143, u144, u145, u146, u147, u148, u149, u150, u151, u152, u153, u154, u155, u156, u157, u158, u159, u160, u161, u162, u163, u164, u165, u166, u167, u168, u169, u170, u171, u172, u173, u174, u175, u176, u177, u178, u179, u180, u181, u182, u183, u184, u185, undef, undef], []⟩) ∧ s.size - (intOf (a'.tmps.getD 5 undef)).toNat < s.size - (intOf ((#[.string s, undef, u2, .pointer (some ⟨w.heap.size, 0, none⟩), .slice av ts.length cv, .int .i64 (a : Int), u6, u7, u8, u9, u10, u11, u12, u13, u14, .string s, .int .i64 s.size, .bool false, undef, u19, u20, u21, u22, u23, u24, u25, u26, u27, u28, u29, u30, u31, u32, u33, u34, u35, u36, u37, u38, u39, u40, u41, u42, u43, u44, u45, u46, u47, u48, u49, u50, u51, u52, u53, u54, u55, u56, u57, u58, u59, u60, u61, u62, u63, u64, u65, u66, u67, u68, u69, u70, u71, u72, u73, u74, u75, u76, u77, u78, u79, u80, u81, u82, u83, u84, u85, u86, u87, u88, u89, u90, u91, u92, u93, u94, u95, u96, u97, u98, u99, u100, u101, u102, u103, u104, u105, u106, u107, u108, u109, u110, u111, u112, u113, u114, u115, u116, u117, u118, u119, u120, u121, u122, u123, u124, u125, u126, u127, u128, u129, u130, u131, u132, u133, u134, u135, u136, u137, u138, u139, u140, u141, u142, u143, u144, u145, u146, u147, u148, u149, u150, u151, u152, u153, u154, u155, u156, u157, u158, u159, u160, u161, u162, u163, u164, u165, u166, u167, u168, u169, u170, u171, u172, u173, u174, u175, u176, u177, u178, u179, u180, u181, u182, u183, u184, u185, undef, undef] : Array Value).getD 5 undef)).toNat) (Exit.inBlock 0 (Exit.then K (bodyPost Try.prog Try.f11 (Tk.R l w))))) ⟨#[.string s, undef, u2, .pointer (some ⟨w.heap.size, 0, none⟩), .slice av ts.length cv, .int .i64 (a : Int), u6, u7, u8, u9, u10, u11, u12, u13, u14, .string s, .int .i64 s.size, .bool false, undef, u19, u20, u21, u22, u23, u24, u25, u26, u27, u28, u29, u30, u31, u32, u33, u34, u35, u36, u37, u38, u39, u40, u41, u42, u43, u44, u45, u46, u47, u48, u49, u50, u51, u52, u53, u54, u55, u56, u57, u58, u59, u60, u61, u62, u63, u64, u65, u66, u67, u68, u69, u70, u71, u72, u73, u74, u75, u76, u77, u78, u79, u80, u81, u82, u83, u84, u85, u86, u87, u88, u89, u90, u91, u92, u93, u94, u95, u96, u97, u98, u99, u100, u101, u102, u103, u104, u105, u106, u107, u108, u109, u110, u111, u112, u113, u114, u115, u116, u117, u118, u119, u120, u121, u122, u123, u124, u125, u126, u127, u128, u129, u130, u131, u132, u133, u134, u135, u136, u137, u138, u139, u140, u141, u142, u143, u144, u145, u146, u147, u148, u149, u150, u151, u152, u153, u154, u155, u156, u157, u158, u159, u160, u161, u162, u163, u164, u165, u166, u167, u168, u169, u170, u171, u172, u173, u174, u175, u176, u177, u178, u179, u180, u181, u182, u183, u184, u185, undef, undef], []⟩ wr := by
  conv => arg 2; whnf
  have hLC : ∀ bv, Tk.isL c = bv → Hid (∀ w1 : World, Calls Try.prog 22 #[.int .u8 (c : Int)] w1 fun e w' => e = .returned (.bool bv) ∧ w1 = w') := fun bv hb w1 => by rw [← hb]; exact letter8_ok c w1
  have hDC : ∀ bv, Tk.isD c = bv → Hid (∀ w1 : World, Calls Try.prog 23 #[.int .u8 (c : Int)] w1 fun e w' => e = .returned (.bool bv) ∧ w1 = w') := fun bv hb w1 => by rw [← hb]; exact digit8_ok c w1
  have HFEW : Hid (ts.length + 1 ≤ 1000000000) := by show ts.length + 1 ≤ _; have := hL0.out.few; omega
  have HLC := hLC false h3
  have HDC := hDC true h4
  have n47 : ((c : Int) == 47) = false := by
    unfold Tk.isD at h4; simp only [decide_eq_true_eq] at h4
    simp; omega
  obtain ⟨m, hm⟩ : ∃ m, m = Tk.run Tk.isD (c8 :: r) := ⟨_, rfl⟩
  obtain ⟨vv, hvv⟩ : ∃ v, v = Tk.val 0 ((c8 :: r).take m) := ⟨_, rfl⟩
  obtain ⟨u, hu⟩ : ∃ u, ((c8 :: r)[m]? == some 117) = u := ⟨_, rfl⟩
  obtain ⟨b, sg, z, hlit⟩ : ∃ b sg z, W.lit (vv : Int) u = (b, sg, z) := ⟨_, _, _, rfl⟩
  have hlit2 : Tk.lit (vv : Int) u = (b, sg, z) := hlit
  have hstep := Tk.step_num a c8 r (by rw [← HC.out]; exact h4) vv (by rw [hvv, hm]) u (by rw [← hm]; exact hu) b sg z hlit2
  have hmle : m + (if u then 1 else 0) ≤ s.size - a := by
    have := Tk.digits_len c8 r
    rw [← hm, hu, HLEN.out] at this; exact this
  have hm1 : 1 ≤ m := by rw [hm]; exact Tk.run_pos _ _ _ (by rw [← HC.out]; exact h4)
  have hzc := Tk.lit_code (vv : Int) u
  rw [hlit] at hzc
  have HSTEP0 := Lib.hid hstep
  have HM := Lib.hid hm
  have HVV := Lib.hid hvv
  have HM1 := Lib.hid hm1
  have HU := Lib.hid hu
  have HLIT := Lib.hid hlit
  have hmsz : a + m ≤ s.size := by omega
  have HMQ : Hid (a + (m + (if u then 1 else 0)) ≤ s.size) := by show _ ≤ _; omega
  have HZC : Hid (z = 0 ∨ z = 3) := hzc
  clear hLC hDC hm hstep hm1 hmle h3 h4 h2 hnext hend hvv hu hlit hlit2 hzc
  go_upto_block 6 with (first | (go_at_call 22; refine (HLC.out _).mono ?_; rintro e w' ⟨rfl, rfl⟩) | (go_at_call 23; refine (HDC.out _).mono ?_; rintro e w' ⟨rfl, rfl⟩))
  go_cut [7, 8] (fun en nn wx => en = .int .i64 ((a + m : Nat) : Int) ∧ nn = .int .u64 (vv : Int) ∧ wr = wx ∧ Hid (vv < 18446744073709551616))
  case first =>
    go_upto_region 20 with (fail)
    go_loop [7, 8] (fun en nn => ∃ k : Nat, k ≤ m ∧ en = .int .i64 ((a + k : Nat) : Int) ∧ ∃ v : Nat, nn = .int .u64 (v : Int) ∧ Hid (v = Tk.val 0 ((c8 :: r).take k) ∧ v < 18446744073709551616)) (fun en nn => a + m + 1 - (intOf en).toNat)
    case atStart => exact ⟨0, Nat.zero_le _, rfl, 0, rfl, rfl, by decide⟩
    case round =>
      obtain ⟨k, hk, rfl, v, rfl, hvk⟩ := hrel
      by_cases hkm : k < m
      · have hak : a + k < s.size := by omega
        obtain ⟨c2, hc2⟩ : ∃ c2, c2 = (s[a + k]).toNat := ⟨_, rfl⟩
        have hcd : Tk.isD c2 = true ∧ (c8 :: r)[k]? = some s[a + k] := by
          rw [HM.out] at hkm
          obtain ⟨c3, e1, e2⟩ := Tk.runs_at Tk.isD _ k hkm
          have e0 := HBYTE.out k hak
          rw [e0] at e1; injection e1 with e1
          rw [hc2, e1]; exact ⟨e2, by rw [e0, e1]⟩
        have HDK : Hid (∀ w1 : World, Calls Try.prog 23 #[.int .u8 (c2 : Int)] w1 fun e w' => e = .returned (.bool true) ∧ w1 = w') := fun w1 => by
          have := digit8_ok c2 w1; rw [hcd.1] at this; exact this
        have hc48 : 48 ≤ c2 ∧ c2 ≤ 57 := by have := hcd.1; unfold Tk.isD at this; simpa using this
        obtain ⟨hca, hcb⟩ := hc48
        have HVN : Hid (Tk.val 0 ((c8 :: r).take (k + 1)) = 10 * v + (c2 - 48)) := by
          show _ = _; rw [Tk.val_take _ k _ hcd.2, hvk.out.1, hc2]
        have hvlt := hvk.out.2
        have HVK := Lib.hid hvk.out.1
        have HKM := Lib.hid hkm
        clear hcd hvk
        have hcc2 : (s[a + k]).toNat = c2 := hc2.symm
        clear hc2
        have over : 18446744073709551616 ≤ 10 * v + (c2 - 48) → Hid (Tk.step a c8 r = .err 3) := fun ho => by
          show _ = _
          rw [HSTEP0.out, if_pos]
          rw [HVV.out]
          exact Nat.le_trans (by rw [HVN.out]; exact ho) (Tk.val_le_all _ (k + 1) m HKM.out)
        by_cases hA : 1844674407370955161 < v
        · have HSTEP := over (by omega)
          have q1 : decide ((v : Int) > 1844674407370955161) = true := by simp; omega
          clear over hA
          go_wp2_with (first | (go_at_call 23; refine (HDK.out _).mono ?_; rintro e w' ⟨rfl, rfl⟩) | (refine wpList_store_row rfl 26 _ _ rfl w.heap.size #[.int .i64 3, .int .i64 (a : Int)] rfl rfl 26 _ hL0.out.ft (by kernel_rfl) rfl (Tk.fone _ _) ?_))
          exact bodyPost_ret (Tk.results_two rfl _ _ w.heap.size 26 #[.int .i64 3, .int .i64 (a : Int)] (0, 0) _ rfl (Tk.rowB hL0.out.ft _) Try.underlying26 rfl (by kernel_rfl)) rfl
            (Tk.R.err (by rw [HLL.out]; exact hs64) hL0.out.eq HDR.out HSTEP.out rfl (Tk.rowE hL0.out.ext (Nat.le_refl _) _))
        have q1 : decide ((v : Int) > 1844674407370955161) = false := by simp; omega
        have good : 10 * v + (c2 - 48) < 18446744073709551616 → Hid ((10 * v + (c2 - 48) : Nat) = Tk.val 0 ((c8 :: r).take (k + 1)) ∧ 10 * v + (c2 - 48) < 18446744073709551616) := fun ho => ⟨HVN.out.symm, ho⟩
        have HN : Hid (((10 * v + (c2 - 48) : Nat) : Int) = 10 * (v : Int) + ((c2 : Int) - 48)) := by show _ = _; omega
        by_cases hB : v = 1844674407370955161
        · have q2 : ((v : Int) == 1844674407370955161) = true := by simp; omega
          by_cases hD : 53 < c2
          · have q3 : decide ((c2 : Int) - 48 > 5) = true := by simp; omega
            have HSTEP := over (by omega)
            clear over hA hB hD good
            go_wp2_with (first | (go_at_call 23; refine (HDK.out _).mono ?_; rintro e w' ⟨rfl, rfl⟩) | (refine wpList_store_row rfl 26 _ _ rfl w.heap.size #[.int .i64 3, .int .i64 (a : Int)] rfl rfl 26 _ hL0.out.ft (by kernel_rfl) rfl (Tk.fone _ _) ?_))
            exact bodyPost_ret (Tk.results_two rfl _ _ w.heap.size 26 #[.int .i64 3, .int .i64 (a : Int)] (0, 0) _ rfl (Tk.rowB hL0.out.ft _) Try.underlying26 rfl (by kernel_rfl)) rfl
              (Tk.R.err (by rw [HLL.out]; exact hs64) hL0.out.eq HDR.out HSTEP.out rfl (Tk.rowE hL0.out.ext (Nat.le_refl _) _))
          · have q3 : decide ((c2 : Int) - 48 > 5) = false := by simp; omega
            have HG := good (by omega)
            have hbd : 10 * v + (c2 - 48) < 18446744073709551616 := by omega
            clear over hA hB hD good
            go_wp2_with (first | (go_at_call 23; refine (HDK.out _).mono ?_; rintro e w' ⟨rfl, rfl⟩))
            go_round
            case rel => exact ⟨k + 1, HKM.out, by go_num, 10 * v + (c2 - 48), by rw [HN.out], HG.out⟩
            case measure => have := HKM.out; simp [intOf]; omega
        · have q2 : ((v : Int) == 1844674407370955161) = false := by simp; omega
          have HG := good (by omega)
          have hbd : 10 * v + (c2 - 48) < 18446744073709551616 := by omega
          clear over hA hB good
          go_wp2_with (first | (go_at_call 23; refine (HDK.out _).mono ?_; rintro e w' ⟨rfl, rfl⟩))
          go_round
          case rel => exact ⟨k + 1, HKM.out, by go_num, 10 * v + (c2 - 48), by rw [HN.out], HG.out⟩
          case measure => have := HKM.out; simp [intOf]; omega
      · obtain rfl : k = m := by omega
        have hve : v = vv := by rw [hvk.out.1, HVV.out]
        subst hve
        have hvlt := Lib.hid hvk.out.2
        clear hvk
        by_cases hak : a + k < s.size
        · obtain ⟨c2, hc2⟩ : ∃ c2, c2 = (s[a + k]).toNat := ⟨_, rfl⟩
          have hcd : Tk.isD c2 = false := by
            have := Tk.run_out Tk.isD (c8 :: r) (s[a + k]) (by rw [← HM.out]; exact HBYTE.out k hak)
            rw [hc2]; exact this
          have HDK : Hid (∀ w1 : World, Calls Try.prog 23 #[.int .u8 (c2 : Int)] w1 fun e w' => e = .returned (.bool false) ∧ w1 = w') := fun w1 => by rw [← hcd]; exact digit8_ok c2 w1
          have hcc2 : (s[a + k]).toNat = c2 := hc2.symm
          clear hc2 hcd
          go_wp2_with (first | (go_at_call 23; refine (HDK.out _).mono ?_; rintro e w' ⟨rfl, rfl⟩))
          go_meet
          case rel => exact ⟨by go_num, rfl, rfl, hvlt⟩
        · have hsk : ¬ ((a : Int) + (k : Int) < (s.size : Int)) := by omega
          go_wp2
          go_meet
          case rel => exact ⟨by go_num, rfl, rfl, hvlt⟩
  case rest =>
    obtain ⟨rfl, rfl, rfl, hvl⟩ := hcut
    obtain ⟨k, hk⟩ : ∃ k, k = m := ⟨m, rfl⟩
    subst hk
    obtain ⟨v, hv⟩ : ∃ v, v = vv := ⟨vv, rfl⟩
    subst hv
    have hvlt := hvl.out
    have HTX : Hid (s.extract a (a + k) = ⟨((c8 :: r).take k).toArray⟩) := by show _ = _; rw [Tk.extract_is, ← HL.out, HDR.out, Nat.add_sub_cancel_left]
    have hvU : W.U (v : Int) := ⟨by omega, by omega⟩
    have HLI : Hid (∀ w1 : World, Calls Try.prog 28 #[.int .u64 v, .bool u] w1 (LitR b sg z w1)) := fun w1 => by
      have := r7literal_ok v u hvU w1; rw [HLIT.out] at this; exact this
    have hst2 : Hid (Tk.step a c8 r = if z ≠ 0 then .err z else .tok ⟨2, (c8 :: r).take k, v, b, sg, a⟩ (k + if u then 1 else 0)) := by
      show _ = _; rw [HSTEP0.out, if_neg (by omega), ← HM.out]
    clear hvl hvU
    go_upto_region 27 with (fail)
    go_cut [11] (fun un wx => un = .bool u ∧ wr = wx)
    case first =>
      by_cases hak : a + k < s.size
      · obtain ⟨c2, hc2⟩ : ∃ c2, c2 = (s[a + k]).toNat := ⟨_, rfl⟩
        have hcu : u = (c2 == 117) := by
          rw [← HU.out, HBYTE.out k hak, hc2, Bool.eq_iff_iff]
          simp only [beq_iff_eq, Option.some.injEq]
          constructor
          · intro h; rw [h]; rfl
          · intro h; exact UInt8.toNat_inj.1 h
        have hcc2 : (s[a + k]).toNat = c2 := hc2.symm
        clear hc2
        by_cases h117 : c2 = 117
        · have q2 : ((c2 : Int) == 117) = true := by rw [h117]; rfl
          obtain rfl : u = true := by rw [hcu, h117]; rfl
          clear hcu h117
          go_wp2
          go_meet
          case rel => exact ⟨rfl, rfl⟩
        · have q2 : ((c2 : Int) == 117) = false := by simp; omega
          obtain rfl : u = false := by rw [hcu]; simpa using h117
          clear hcu h117
          go_wp2
          go_meet
          case rel => exact ⟨rfl, rfl⟩
      · have hsk : ¬ ((a : Int) + (k : Int) < (s.size : Int)) := by omega
        obtain rfl : u = false := by rw [← HU.out, List.getElem?_eq_none (by rw [HLEN.out]; omega)]; rfl
        go_wp2
        go_meet
        case rel => exact ⟨rfl, rfl⟩
    case rest =>
      obtain ⟨rfl, rfl⟩ := hcut
      obtain ⟨q, hq⟩ : ∃ q, q = k + if u then 1 else 0 := ⟨_, rfl⟩
      have hst3 : Hid (Tk.step a c8 r = if z ≠ 0 then .err z else .tok ⟨2, (c8 :: r).take k, v, b, sg, a⟩ q) := by
        show _ = _; rw [hst2.out, hq]
      have HQS : Hid (a + q ≤ s.size) := by show _ ≤ _; rw [hq]; exact HMQ.out
      have HQ1 : Hid (1 ≤ q) := by show _ ≤ _; rw [hq]; have := HM1.out; omega
      have HQ := Lib.hid hq
      clear hq hst2
      go_upto_if 146 with (fail)
      go_cut [7] (fun en wx => en = .int .i64 ((a + q : Nat) : Int) ∧ wr = wx)
      case first =>
        rcases u with _ | _
        · obtain rfl : q = k := by have := HQ.out; simpa using this
          go_wp2
          go_meet
          case rel => exact ⟨by go_num, rfl⟩
        · obtain rfl : q = k + 1 := by have := HQ.out; simpa using this
          go_wp2
          go_meet
          case rel => exact ⟨by go_num, rfl⟩
      case rest =>
        obtain ⟨rfl, rfl⟩ := hcut
        go_upto_region 31 with (first | (go_at_call 28; refine (HLI.out _).mono ?_; rintro e w3 ⟨rfl, hb3⟩; have HW3 := Lib.hid (Ext.alloc hb3 (.cells #[.int .i64 b, .bool sg] 31)); have HL3 := Lib.hid (hL0.out.keep HW3.out); obtain ⟨y0, y1, y2, y3⟩ := Ty.new w3 rfl b sg 31; clear hb3))
        generalize hw4 : World.alloc w3 _ = w4
        rw [hw4] at HL3 HW3 y0 y1 y2 y3
        clear hw4
        rcases HZC.out with hz | hz
        · subst hz
          have HSTEP : Hid (Tk.step a c8 r = .tok ⟨2, (c8 :: r).take k, v, b, sg, a⟩ (q)) := by
            show _ = _; rw [hst3.out, if_neg (by simp)]
          have hqs : a + (q) ≤ s.size := HQS.out
          go_wp2_with (first | (refine Tk.wpList_app_tok rfl _ _ rfl B (.slice av ts.length cv) ts.length (Tk.tkR ts) w4.heap.size 2 v b sg (s.extract a (a + k)) (a : Int) rfl rfl (HL3.out.keep (Ext.alloc (Below.refl _ _) _)).own (Blk.new w4 _ _) HFEW.out (HL3.out.keep (Ext.alloc (Below.refl _ _) _)).low ?_; intro a3 c3 w6 ho6 hg6; rw [HTX.out] at ho6; have HT6 := Lib.hid ((HL3.out.keep (Ext.alloc (Below.refl _ _) _)).tok HDR.out HSTEP.out ho6 hg6); clear ho6 hg6))
          go_round
          case rel => exact ⟨a + (q), ts ++ [_], a3, c3, hqs, by go_num, by rw [List.length_append]; rfl, HT6.out⟩
          case measure => have := HQ1.out; simp [intOf]; omega
        · subst hz
          have HSTEP : Hid (Tk.step a c8 r = .err 3) := by
            show _ = _; rw [hst3.out, if_pos (by decide)]
          go_wp2_with (first | (refine wpList_store_row rfl 26 _ _ rfl w.heap.size #[.int .i64 3, .int .i64 (a : Int)] rfl rfl 26 _ HL3.out.ft (by kernel_rfl) rfl (Tk.fone _ _) ?_))
          exact bodyPost_ret (Tk.results_two rfl _ _ w.heap.size 26 #[.int .i64 3, .int .i64 (a : Int)] (0, 0) _ rfl (Tk.rowB HL3.out.ft _) Try.underlying26 rfl (by kernel_rfl)) rfl
            (Tk.R.err (by rw [HLL.out]; exact hs64) HL3.out.eq HDR.out HSTEP.out rfl (Tk.rowE HL3.out.ext (Nat.le_refl _) _))

end Go.Proofs.Ytkmcniaaecijdaa
