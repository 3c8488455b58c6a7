/- Walk of ref8.Tokens: the round that comes to a sign. No condition. -/
import Derived.Test.YtkmcniaaecijdaaK13a
import Derived.Test.YtkmcniaaecijdaaK12h
import Derived.LoopTactic
import Derived.Deep.Cut
import Derived.Deep.CutBlock
import Derived.Deep.DeepCutAuto
namespace Go.Proofs.Ytkmcniaaecijdaa
open Go.RowKit
set_option linter.unusedVariables false
set_option linter.unusedSimpArgs false
set_option maxRecDepth 100000
set_option maxHeartbeats 32000000 in
theorem tokens8_d (s : ByteArray) (w wr : World) (B : Nat) (l : List UInt8) (a : Nat) (ts : List Tk.Tok) (av : Option Addr) (cv : Nat) (c8 : UInt8) (c : Nat) (r : List UInt8) (HL : Hid (l = s.data.toList)) (HLL : Hid (l.length = s.size)) (hs64 : s.size ≤ 65536) (hL0 : Hid (Tk.L8 w B l a ts av cv wr)) (ha : a ≤ s.size) (hlt : a < s.size) (HC : Hid (c = c8.toNat)) (hcc : (s[a]).toNat = c) (HLT : Hid (a < s.size)) (nb1 : ((c : Int) == 32) = false) (nb2 : ((c : Int) == 9) = false) (nb3 : ((c : Int) == 10) = false) (H1 : Hid (¬ (c = 32 ∨ c = 9 ∨ c = 10))) (HDR : Hid (l.drop a = c8 :: r)) (HLEN : Hid ((c8 :: r).length = s.size - a)) (HBYTE : Hid (∀ k, (hk : a + k < s.size) → (c8 :: r)[k]? = some (s[a + k]'hk))) (hnext : ∀ (h : a + 1 < s.size), r.head? = some (s[a + 1]'h)) (hend : ¬ a + 1 < s.size → r.head? = none) (h2 : ¬ (c8.toNat = 47 ∧ r.head? = some 47)) (q1 : decide ((s.size : Int) > 65536) = false) (h3 : Tk.isL c = false) (h4 : Tk.isD c = false) (u2 u6 u7 u8 u9 u10 u11 u12 u13 u14 u19 u20 u21 u22 u23 u24 u25 u26 u27 u28 u29 u30 u31 u32 u33 u34 u35 u36 u37 u38 u39 u40 u41 u42 u43 u44 u45 u46 u47 u48 u49 u50 u51 u52 u53 u54 u55 u56 u57 u58 u59 u60 u61 u62 u63 u64 u65 u66 u67 u68 u69 u70 u71 u72 u73 u74 u75 u76 u77 u78 u79 u80 u81 u82 u83 u84 u85 u86 u87 u88 u89 u90 u91 u92 u93 u94 u95 u96 u97 u98 u99 u100 u101 u102 u103 u104 u105 u106 u107 u108 u109 u110 u111 u112 u113 u114 u115 u116 u117 u118 u119 u120 u121 u122 u123 u124 u125 u126 u127 u128 u129 u130 u131 u132 u133 u134 u135 u136 u137 u138 u139 u140 u141 u142 u143 u144 u145 u146 u147 u148 u149 u150 u151 u152 u153 u154 u155 u156 u157 u158 u159 u160 u161 u162 u163 u164 u165 u166 u167 u168 u169 u170 u171 u172 u173 u174 u175 u176 u177 u178 u179 u180 u181 u182 u183 u184 u185 : Value) (K : Act → World → Prop) :
    Code.wp Try.prog Tk.body8 (Exit.then (fun a' w' => (∃ u2 u4 u5 u6 u7 u8 u9 u10 u11 u12 u13 u14 u19 u20 u21 u22 u23 u24 u25 u26 u27 u28 u29 u30 u31 u32 u33 u34 u35 u36 u37 u38 u39 u40 u41 u42 u43 u44 u45 u46 u47 u48 u49 u50 u51 u52 u53 u54 u55 u56 u57 u58 u59 u60 u61 u62 u63 u64 u65 u66 u67 u68 u69 u70 u71 u72 u73 u74 u75 u76 u77 u78 u79 u80 u81 u82 u83 u84 u85 u86 u87 u88 u89 u90 u91 u92 u93 u94 u95 u96 u97 u98 u99 u100 u101 u102 u103 u104 u105 u106 u107 u108 u109 u110 u111 u112 u113 u114 u115 u116 u117 u118 u119 u120 u121 u122 u123 u124 u125 u126 u127 u128 u129 u130 u131 u132 u133 u134 u135 u136 u137 u138 u139 u140 u141 u142 u143 u144 u145 u146 u147 u148 u149 u150 u151 u152 u153 u154 u155 u156 u157 u158 u159 u160 u161 u162 u163 u164 u165 u166 u167 u168 u169 u170 u171 u172 u173 u174 u175 u176 u177 u178 u179 u180 u181 u182 u183 u184 u185 : Value, (∃ (a : Nat) (ts : List Tk.Tok) (av : Option Addr) (cv : Nat), a ≤ s.size ∧ u5 = .int .i64 (a : Int) ∧ u4 = .slice av ts.length cv ∧ Hid (Tk.L8 w B l a ts av cv w')) ∧ a' = ⟨#[.string s, undef, u2, .pointer (some ⟨w.heap.size, 0, none⟩), u4, u5, u6, u7, u8, u9, u10, u11, u12, u13, u14, .string s, .int .i64 s.size, .bool false, undef, u19, u20, u21, u22, u23, u24, u25, u26, u27, u28, u29, u30, u31, u32, u33, u34, u35, u36, u37, u38, u39, u40, u41, u42, u43, u44, u45, u46, u47, u48, u49, u50, u51, u52, u53, u54, u55, u56, u57, u58, u59, u60, u61, u62, u63, u64, u65, u66, u67, u68, u69, u70, u71, u72, u73, u74, u75, u76, u77, u78, u79, u80, u81, u82, u83, u84, u85, u86, u87, u88, u89, u90, u91, u92, u93, u94, u95, u96, u97, u98, u99, u100, u101, u102, u103, u104, u105, u106, u107, u108, u109, u110, u111, u112, u113, u114, u115, u116, u117, u118, u119, u120, u121, u122, u123, u124, u125, u126, u127, u128, u129, u130, u131, u132, u133, u134, u135, u136, u137, u138, u139, u140, u141, u142, u143, u144, u145, u146, u147, u148, u149, u150, u151, u152, u153, u154, u155, u156, u157, u158, u159, u160, u161, u162, u163, u164, u165, u166, u167, u168, u169, u170, u171, u172, u173, u174, u175, u176, u177, u178, u179, u180, u181, u182, u183, u184, u185, undef, undef], []⟩) ∧ s.size - (intOf (a'.tmps.getD 5 undef)).toNat < s.size - (intOf ((#[.string s, undef, u2, .pointer (some ⟨w.heap.size, 0, none⟩), .slice av ts.length cv, .int .i64 (a : Int), u6, u7, u8, u9, u10, u11, u12, u13, u14, .string s, .int .i64 s.size, .bool false, undef, u19, u20, u21, u22, u23, u24, u25, u26, u27, u28, u29, u30, u31, u32, u33, u34, u35, u36, u37, u38, u39, u40, u41, u42, u43, u44, u45, u46, u47, u48, u49, u50, u51, u52, u53, u54, u55, u56, u57, u58, u59, u60, u61, u62, u63, u64, u65, u66, u67, u68, u69, u70, u71, u72, u73, u74, u75, u76, u77, u78, u79, u80, u81, u82, u83, u84, u85, u86, u87, u88, u89, u90, u91, u92, u93, u94, u95, u96, u97, u98, u99, u100, u101, u102, u103, u104, u105, u106, u107, u108, u109, u110, u111, u112, u113, u114, u115, u116, u117, u118, u119, u120, u121, u122, u123, u124, u125, u126, u127, u128, u129, u130, u131, u132, u133, u134, u135, u136, u137, u138, u139, u140, u141, u142, u143, u144, u145, u146, u147, u148, u149, u150, u151, u152, u153, u154, u155, u156, u157, u158, u159, u160, u161, u162, u163, u164, u165, u166, u167, u168, u169, u170, u171, u172, u173, u174, u175, u176, u177, u178, u179, u180, u181, u182, u183, u184, u185, undef, undef] : Array Value).getD 5 undef)).toNat) (Exit.inBlock 0 (Exit.then K (bodyPost Try.prog Try.f11 (Tk.R l w))))) ⟨#[.string s, undef, u2, .pointer (some ⟨w.heap.size, 0, none⟩), .slice av ts.length cv, .int .i64 (a : Int), u6, u7, u8, u9, u10, u11, u12, u13, u14, .string s, .int .i64 s.size, .bool false, undef, u19, u20, u21, u22, u23, u24, u25, u26, u27, u28, u29, u30, u31, u32, u33, u34, u35, u36, u37, u38, u39, u40, u41, u42, u43, u44, u45, u46, u47, u48, u49, u50, u51, u52, u53, u54, u55, u56, u57, u58, u59, u60, u61, u62, u63, u64, u65, u66, u67, u68, u69, u70, u71, u72, u73, u74, u75, u76, u77, u78, u79, u80, u81, u82, u83, u84, u85, u86, u87, u88, u89, u90, u91, u92, u93, u94, u95, u96, u97, u98, u99, u100, u101, u102, u103, u104, u105, u106, u107, u108, u109, u110, u111, u112, u113, u114, u115, u116, u117, u118, u119, u120, u121, u122, u123, u124, u125, u126, u127, u128, u129, u130, u131, u132, u133, u134, u135, u136, u137, u138, u139, u140, u141, u142, u143, u144, u145, u146, u147, u148, u149, u150, u151, u152, u153, u154, u155, u156, u157, u158, u159, u160, u161, u162, u163, u164, u165, u166, u167, u168, u169, u170, u171, u172, u173, u174, u175, u176, u177, u178, u179, u180, u181, u182, u183, u184, u185, undef, undef], []⟩ wr := by
  conv => arg 2; whnf
  have hLC : ∀ bv, Tk.isL c = bv → Hid (∀ w1 : World, Calls Try.prog 22 #[.int .u8 (c : Int)] w1 fun e w' => e = .returned (.bool bv) ∧ w1 = w') := fun bv hb w1 => by rw [← hb]; exact letter8_ok c w1
  have hDC : ∀ bv, Tk.isD c = bv → Hid (∀ w1 : World, Calls Try.prog 23 #[.int .u8 (c : Int)] w1 fun e w' => e = .returned (.bool bv) ∧ w1 = w') := fun bv hb w1 => by rw [← hb]; exact digit8_ok c w1
  have HFEW : Hid (ts.length + 1 ≤ 1000000000) := by show ts.length + 1 ≤ _; have := hL0.out.few; omega
  have HLC := hLC false h3
  have HDC := hDC false h4
  have hstep := Tk.step_sign a c8 r (by rw [← HC.out]; exact H1.out) h2 (by rw [← HC.out]; exact h3) (by rw [← HC.out]; exact h4)
  have HSTEP0 := Lib.hid hstep
  obtain ⟨n1, hn1⟩ : ∃ n, n = Tk.sgn (c8 :: r) := ⟨_, rfl⟩
  obtain ⟨tx, htx⟩ : ∃ tx : ByteArray, tx = ⟨((c8 :: r).take n1).toArray⟩ := ⟨_, rfl⟩
  have HTX := Lib.hid htx
  have HSI : Hid (∀ w1 : World, Calls Try.prog 29 #[.string s, .int .i64 (a : Int)] w1 fun e w' => e = .returned (.string tx) ∧ Below w1.heap.size w1 w') := fun w1 => by
    have := sign8_ok s a (Nat.le_of_lt HLT.out) hs64 w1
    rw [← HL.out, HDR.out, ← hn1] at this
    rw [htx]; exact this
  have hnle := Tk.sgn_le (c8 :: r)
  rw [← hn1, HLEN.out] at hnle
  have hxs : tx.size = n1 := by
    rw [Tk.size_is, htx]
    show ((c8 :: r).take n1).length = n1
    rw [List.length_take, HLEN.out]; omega
  have HXS := Lib.hid hxs
  have HN1 := Lib.hid hn1
  have hsz : a + n1 ≤ s.size := by omega
  have hn2 : n1 ≤ 2 := hnle.1
  have HTWO : Hid (c = 47 → ∀ h5 : a + 1 < s.size, (s[a + 1]'h5).toNat = 47 → False) := fun h h5 h6 => h2 ⟨by rw [← HC.out]; exact h, by rw [hnext h5]; congr 1; exact UInt8.toNat_inj.1 (by rw [h6]; rfl)⟩
  clear hLC hDC hstep h3 h4 h2 hnext hend hn1 htx hxs hnle
  by_cases h47 : c = 47
  · subst h47
    by_cases ha1 : a + 1 < s.size
    · obtain ⟨c2, hc2⟩ : ∃ c2, c2 = (s[a + 1]).toNat := ⟨_, rfl⟩
      have q47 : ((c2 : Int) == 47) = false := by
        have h9 : ¬ c2 = 47 := by have := HTWO.out rfl ha1; rw [← hc2] at this; exact this
        simp; omega
      have hcc2 : (s[a + 1]).toNat = c2 := hc2.symm
      clear hc2
      go_upto_region 36 with (first | (go_at_call 22; refine (HLC.out _).mono ?_; rintro e w' ⟨rfl, rfl⟩) | (go_at_call 23; refine (HDC.out _).mono ?_; rintro e w' ⟨rfl, rfl⟩) | (go_at_call 29; refine (HSI.out _).mono ?_; rintro e w3 ⟨rfl, hb3⟩; have HL3 := Lib.hid (hL0.out.keep hb3); have HW3 := Lib.hid hb3; clear hb3))
      by_cases hn0 : n1 = 0
      · have htx0 : tx = ⟨#[]⟩ := by rw [HTX.out, hn0]; rfl
        subst htx0
        have HSTEP : Hid (Tk.step a c8 r = .err 2) := by
          show _ = _; rw [HSTEP0.out, if_pos (by rw [← HN1.out]; exact hn0)]
        clear hn0
        go_wp2_with (first | (refine wpList_store_row rfl 26 _ _ rfl w.heap.size #[.int .i64 2, .int .i64 (a : Int)] rfl rfl 26 _ HL3.out.ft (by kernel_rfl) rfl (Tk.fone _ _) ?_))
        exact bodyPost_ret (Tk.results_two rfl _ _ w.heap.size 26 #[.int .i64 2, .int .i64 (a : Int)] (0, 0) _ rfl (Tk.rowB HL3.out.ft _) Try.underlying26 rfl (by kernel_rfl)) rfl
          (Tk.R.err (by rw [HLL.out]; exact hs64) HL3.out.eq HDR.out HSTEP.out rfl (Tk.rowE HL3.out.ext (Nat.le_refl _) _))
      · have HSTEP : Hid (Tk.step a c8 r = .tok ⟨3, (c8 :: r).take n1, 0, 0, false, a⟩ n1) := by
          show _ = _; rw [HSTEP0.out, if_neg (by rw [← HN1.out]; exact hn0), ← HN1.out]
        have hne : tx.data.toList ≠ [] := fun h => hn0 (by rw [← HXS.out, Tk.size_is, h]; rfl)
        have hqa : tx.toList.isEmpty = false := by
          rw [Lib.toList_data, Bool.eq_false_iff]; intro h; exact hne (by simpa using h)
        have hxs := HXS.out
        have HNZ := Lib.hid hn0
        clear hn0 hne
        go_wp2_with (first | (refine Tk.wpList_app_tok rfl _ _ rfl B (.slice av ts.length cv) ts.length (Tk.tkR ts) w3.heap.size 3 0 0 false (tx) (a : Int) rfl rfl (HL3.out.keep (Ext.alloc (Below.refl _ _) _)).own (Blk.new w3 _ _) HFEW.out (HL3.out.keep (Ext.alloc (Below.refl _ _) _)).low ?_; intro a3 c3 w6 ho6 hg6; rw [HTX.out] at ho6; have HT6 := Lib.hid ((HL3.out.keep (Ext.alloc (Below.refl _ _) _)).tok HDR.out HSTEP.out ho6 hg6); clear ho6 hg6))
        go_round
        case rel => exact ⟨a + n1, ts ++ [_], a3, c3, hsz, by go_num, by rw [List.length_append]; rfl, HT6.out⟩
        case measure => have := HNZ.out; simp [intOf]; omega
    · have hsk : ¬ ((a : Int) + 1 < (s.size : Int)) := by omega
      go_upto_region 36 with (first | (go_at_call 22; refine (HLC.out _).mono ?_; rintro e w' ⟨rfl, rfl⟩) | (go_at_call 23; refine (HDC.out _).mono ?_; rintro e w' ⟨rfl, rfl⟩) | (go_at_call 29; refine (HSI.out _).mono ?_; rintro e w3 ⟨rfl, hb3⟩; have HL3 := Lib.hid (hL0.out.keep hb3); have HW3 := Lib.hid hb3; clear hb3))
      by_cases hn0 : n1 = 0
      · have htx0 : tx = ⟨#[]⟩ := by rw [HTX.out, hn0]; rfl
        subst htx0
        have HSTEP : Hid (Tk.step a c8 r = .err 2) := by
          show _ = _; rw [HSTEP0.out, if_pos (by rw [← HN1.out]; exact hn0)]
        clear hn0
        go_wp2_with (first | (refine wpList_store_row rfl 26 _ _ rfl w.heap.size #[.int .i64 2, .int .i64 (a : Int)] rfl rfl 26 _ HL3.out.ft (by kernel_rfl) rfl (Tk.fone _ _) ?_))
        exact bodyPost_ret (Tk.results_two rfl _ _ w.heap.size 26 #[.int .i64 2, .int .i64 (a : Int)] (0, 0) _ rfl (Tk.rowB HL3.out.ft _) Try.underlying26 rfl (by kernel_rfl)) rfl
          (Tk.R.err (by rw [HLL.out]; exact hs64) HL3.out.eq HDR.out HSTEP.out rfl (Tk.rowE HL3.out.ext (Nat.le_refl _) _))
      · have HSTEP : Hid (Tk.step a c8 r = .tok ⟨3, (c8 :: r).take n1, 0, 0, false, a⟩ n1) := by
          show _ = _; rw [HSTEP0.out, if_neg (by rw [← HN1.out]; exact hn0), ← HN1.out]
        have hne : tx.data.toList ≠ [] := fun h => hn0 (by rw [← HXS.out, Tk.size_is, h]; rfl)
        have hqa : tx.toList.isEmpty = false := by
          rw [Lib.toList_data, Bool.eq_false_iff]; intro h; exact hne (by simpa using h)
        have hxs := HXS.out
        have HNZ := Lib.hid hn0
        clear hn0 hne
        go_wp2_with (first | (refine Tk.wpList_app_tok rfl _ _ rfl B (.slice av ts.length cv) ts.length (Tk.tkR ts) w3.heap.size 3 0 0 false (tx) (a : Int) rfl rfl (HL3.out.keep (Ext.alloc (Below.refl _ _) _)).own (Blk.new w3 _ _) HFEW.out (HL3.out.keep (Ext.alloc (Below.refl _ _) _)).low ?_; intro a3 c3 w6 ho6 hg6; rw [HTX.out] at ho6; have HT6 := Lib.hid ((HL3.out.keep (Ext.alloc (Below.refl _ _) _)).tok HDR.out HSTEP.out ho6 hg6); clear ho6 hg6))
        go_round
        case rel => exact ⟨a + n1, ts ++ [_], a3, c3, hsz, by go_num, by rw [List.length_append]; rfl, HT6.out⟩
        case measure => have := HNZ.out; simp [intOf]; omega
  · have n47 : ((c : Int) == 47) = false := by simp; omega
    go_upto_region 36 with (first | (go_at_call 22; refine (HLC.out _).mono ?_; rintro e w' ⟨rfl, rfl⟩) | (go_at_call 23; refine (HDC.out _).mono ?_; rintro e w' ⟨rfl, rfl⟩) | (go_at_call 29; refine (HSI.out _).mono ?_; rintro e w3 ⟨rfl, hb3⟩; have HL3 := Lib.hid (hL0.out.keep hb3); have HW3 := Lib.hid hb3; clear hb3))
    by_cases hn0 : n1 = 0
    · have htx0 : tx = ⟨#[]⟩ := by rw [HTX.out, hn0]; rfl
      subst htx0
      have HSTEP : Hid (Tk.step a c8 r = .err 2) := by
        show _ = _; rw [HSTEP0.out, if_pos (by rw [← HN1.out]; exact hn0)]
      clear hn0
      go_wp2_with (first | (refine wpList_store_row rfl 26 _ _ rfl w.heap.size #[.int .i64 2, .int .i64 (a : Int)] rfl rfl 26 _ HL3.out.ft (by kernel_rfl) rfl (Tk.fone _ _) ?_))
      exact bodyPost_ret (Tk.results_two rfl _ _ w.heap.size 26 #[.int .i64 2, .int .i64 (a : Int)] (0, 0) _ rfl (Tk.rowB HL3.out.ft _) Try.underlying26 rfl (by kernel_rfl)) rfl
        (Tk.R.err (by rw [HLL.out]; exact hs64) HL3.out.eq HDR.out HSTEP.out rfl (Tk.rowE HL3.out.ext (Nat.le_refl _) _))
    · have HSTEP : Hid (Tk.step a c8 r = .tok ⟨3, (c8 :: r).take n1, 0, 0, false, a⟩ n1) := by
        show _ = _; rw [HSTEP0.out, if_neg (by rw [← HN1.out]; exact hn0), ← HN1.out]
      have hne : tx.data.toList ≠ [] := fun h => hn0 (by rw [← HXS.out, Tk.size_is, h]; rfl)
      have hqa : tx.toList.isEmpty = false := by
        rw [Lib.toList_data, Bool.eq_false_iff]; intro h; exact hne (by simpa using h)
      have hxs := HXS.out
      have HNZ := Lib.hid hn0
      clear hn0 hne
      go_wp2_with (first | (refine Tk.wpList_app_tok rfl _ _ rfl B (.slice av ts.length cv) ts.length (Tk.tkR ts) w3.heap.size 3 0 0 false (tx) (a : Int) rfl rfl (HL3.out.keep (Ext.alloc (Below.refl _ _) _)).own (Blk.new w3 _ _) HFEW.out (HL3.out.keep (Ext.alloc (Below.refl _ _) _)).low ?_; intro a3 c3 w6 ho6 hg6; rw [HTX.out] at ho6; have HT6 := Lib.hid ((HL3.out.keep (Ext.alloc (Below.refl _ _) _)).tok HDR.out HSTEP.out ho6 hg6); clear ho6 hg6))
      go_round
      case rel => exact ⟨a + n1, ts ++ [_], a3, c3, hsz, by go_num, by rw [List.length_append]; rfl, HT6.out⟩
      case measure => have := HNZ.out; simp [intOf]; omega

end Go.Proofs.Ytkmcniaaecijdaa
