/- Walk of ref8.Tokens: the round that comes to a name. No condition. -/
import Derived.Test.YtkmcniaaecijdaaK11
import Derived.Test.YtkmcniaaecijdaaK12h
import Derived.LoopTactic
import Derived.Deep.Cut
import Derived.Deep.CutBlock
import Derived.Deep.DeepCutAuto
namespace Go.Proofs.Ytkmcniaaecijdaa
open Go.RowKit
set_option linter.unusedVariables false
set_option linter.unusedSimpArgs false
set_option maxRecDepth 100000
/-- The first loop of a code. -/
def Tk.firstLoop : Code → Option Code
  | .loop c => some c
  | .seq a b => match Tk.firstLoop a with
    | some c => some c
    | none => Tk.firstLoop b
  | .block _ c => Tk.firstLoop c
  | .scope c => Tk.firstLoop c
  | .cond _ a b => match Tk.firstLoop a with
    | some c => some c
    | none => Tk.firstLoop b
  | _ => none
noncomputable def Tk.body8 : Code := ((Try.f11.body.bind Tk.firstLoop).getD .skip)
set_option maxHeartbeats 32000000 in
theorem tokens8_a (s : ByteArray) (w wr : World) (B : Nat) (l : List UInt8) (a : Nat) (ts : List Tk.Tok) (av : Option Addr) (cv : Nat) (c8 : UInt8) (c : Nat) (r : List UInt8) (HL : Hid (l = s.data.toList)) (HLL : Hid (l.length = s.size)) (hs64 : s.size ≤ 65536) (hL0 : Hid (Tk.L8 w B l a ts av cv wr)) (ha : a ≤ s.size) (hlt : a < s.size) (HC : Hid (c = c8.toNat)) (hcc : (s[a]).toNat = c) (HLT : Hid (a < s.size)) (nb1 : ((c : Int) == 32) = false) (nb2 : ((c : Int) == 9) = false) (nb3 : ((c : Int) == 10) = false) (H1 : Hid (¬ (c = 32 ∨ c = 9 ∨ c = 10))) (HDR : Hid (l.drop a = c8 :: r)) (HLEN : Hid ((c8 :: r).length = s.size - a)) (HBYTE : Hid (∀ k, (hk : a + k < s.size) → (c8 :: r)[k]? = some (s[a + k]'hk))) (hnext : ∀ (h : a + 1 < s.size), r.head? = some (s[a + 1]'h)) (hend : ¬ a + 1 < s.size → r.head? = none) (h2 : ¬ (c8.toNat = 47 ∧ r.head? = some 47)) (q1 : decide ((s.size : Int) > 65536) = false) (h3 : Tk.isL c = true) (u2 u6 u7 u8 u9 u10 u11 u12 u13 u14 u19 u20 u21 u22 u23 u24 u25 u26 u27 u28 u29 u30 u31 u32 u33 u34 u35 u36 u37 u38 u39 u40 u41 u42 u43 u44 u45 u46 u47 u48 u49 u50 u51 u52 u53 u54 u55 u56 u57 u58 u59 u60 u61 u62 u63 u64 u65 u66 u67 u68 u69 u70 u71 u72 u73 u74 u75 u76 u77 u78 u79 u80 u81 u82 u83 u84 u85 u86 u87 u88 u89 u90 u91 u92 u93 u94 u95 u96 u97 u98 u99 u100 u101 u102 u103 u104 u105 u106 u107 u108 u109 u110 u111 u112 u113 u114 u115 u116 u117 u118 u119 u120 u121 u122 u123 u124 u125 u126 u127 u128 u129 u130 u131 u132 u133 u134 u135 u136 u137 u138 u139 u140 u141 u142 u143 u144 u145 u146 u147 u148 u149 u150 u151 u152 u153 u154 u155 u156 u157 u158 u159 u160 u161 u162 u163 u164 u165 u166 u167 u168 u169 u170 u171 u172 u173 u174 u175 u176 u177 u178 u179 u180 u181 u182 u183 u184 u185 : Value) (K : Act → World → Prop) :
    Code.wp Try.prog Tk.body8 (Exit.then (fun a' w' => (∃ u2 u4 u5 u6 u7 u8 u9 u10 u11 u12 u13 u14 u19 u20 u21 u22 u23 u24 u25 u26 u27 u28 u29 u30 u31 u32 u33 u34 u35 u36 u37 u38 u39 u40 u41 u42 u43 u44 u45 u46 u47 u48 u49 u50 u51 u52 u53 u54 u55 u56 u57 u58 u59 u60 u61 u62 u63 u64 u65 u66 u67 u68 u69 u70 u71 u72 u73 u74 u75 u76 u77 u78 u79 u80 u81 u82 u83 u84 u85 u86 u87 u88 u89 u90 u91 u92 u93 u94 u95 u96 u97 u98 u99 u100 u101 u102 u103 u104 u105 u106 u107 u108 u109 u110 u111 u112 u113 u114 u115 u116 u117 u118 u119 u120 u121 u122 u123 u124 u125 u126 u127 u128 u129 u130 u131 u132 u133 u134 u135 u136 u137 u138 u139 u140 u141 u142 u143 u144 u145 u146 u147 u148 u149 u150 u151 u152 u153 u154 u155 u156 u157 u158 u159 u160 u161 u162 u163 u164 u165 u166 u167 u168 u169 u170 u171 u172 u173 u174 u175 u176 u177 u178 u179 u180 u181 u182 u183 u184 u185 : Value, (∃ (a : Nat) (ts : List Tk.Tok) (av : Option Addr) (cv : Nat), a ≤ s.size ∧ u5 = .int .i64 (a : Int) ∧ u4 = .slice av ts.length cv ∧ Hid (Tk.L8 w B l a ts av cv w')) ∧ a' = ⟨#[.string s, undef, u2, .pointer (some ⟨w.heap.size, 0, none⟩), u4, u5, u6, u7, u8, u9, u10, u11, u12, u13, u14, .string s, .int .i64 s.size, .bool false, undef, u19, u20, u21, u22, u23, u24, u25, u26, u27, u28, u29, u30, u31, u32, u33, u34, u35, u36, u37, u38, u39, u40, u41, u42, u43, u44, u45, u46, u47, u48, u49, u50, u51, u52, u53, u54, u55, u56, u57, u58, u59, u60, u61, u62, u63, u64, u65, u66, u67, u68, u69, u70, u71, u72, u73, u74, u75, u76, u77, u78, u79, u80, u81, u82, u83, u84, u85, u86, u87, u88, u89, u90, u91, u92, u93, u94, u95, u96, u97, u98, u99, u100, u101, u102, u103, u104, u105, u106, u107, u108, u109, u110, u111, u112, u113, u114, u115, u116, u117, u118, u119, u120, u121, u122, u123, u124, u125, u126, u127, u128, u129, u130, u131, u132, u133, u134, u135, u136, u137, u138, u139, u140, u141, u142, u143, u144, u145, u146, u147, u148, u149, u150, u151, u152, u153, u154, u155, u156, u157, u158, u159, u160, u161, u162, u163, u164, u165, u166, u167, u168, u169, u170, u171, u172, u173, u174, u175, u176, u177, u178, u179, u180, u181, u182, u183, u184, u185, undef, undef], []⟩) ∧ s.size - (intOf (a'.tmps.getD 5 undef)).toNat < s.size - (intOf ((#[.string s, undef, u2, .pointer (some ⟨w.heap.size, 0, none⟩), .slice av ts.length cv, .int .i64 (a : Int), u6, u7, u8, u9, u10, u11, u12, u13, u14, .string s, .int .i64 s.size, .bool false, undef, u19, u20, u21, u22, u23, u24, u25, u26, u27, u28, u29, u30, u31, u32, u33, u34, u35, u36, u37, u38, u39, u40, u41, u42, u43, u44, u45, u46, u47, u48, u49, u50, u51, u52, u53, u54, u55, u56, u57, u58, u59, u60, u61, u62, u63, u64, u65, u66, u67, u68, u69, u70, u71, u72, u73, u74, u75, u76, u77, u78, u79, u80, u81, u82, u83, u84, u85, u86, u87, u88, u89, u90, u91, u92, u93, u94, u95, u96, u97, u98, u99, u100, u101, u102, u103, u104, u105, u106, u107, u108, u109, u110, u111, u112, u113, u114, u115, u116, u117, u118, u119, u120, u121, u122, u123, u124, u125, u126, u127, u128, u129, u130, u131, u132, u133, u134, u135, u136, u137, u138, u139, u140, u141, u142, u143, u144, u145, u146, u147, u148, u149, u150, u151, u152, u153, u154, u155, u156, u157, u158, u159, u160, u161, u162, u163, u164, u165, u166, u167, u168, u169, u170, u171, u172, u173, u174, u175, u176, u177, u178, u179, u180, u181, u182, u183, u184, u185, undef, undef] : Array Value).getD 5 undef)).toNat) (Exit.inBlock 0 (Exit.then K (bodyPost Try.prog Try.f11 (Tk.R l w))))) ⟨#[.string s, undef, u2, .pointer (some ⟨w.heap.size, 0, none⟩), .slice av ts.length cv, .int .i64 (a : Int), u6, u7, u8, u9, u10, u11, u12, u13, u14, .string s, .int .i64 s.size, .bool false, undef, u19, u20, u21, u22, u23, u24, u25, u26, u27, u28, u29, u30, u31, u32, u33, u34, u35, u36, u37, u38, u39, u40, u41, u42, u43, u44, u45, u46, u47, u48, u49, u50, u51, u52, u53, u54, u55, u56, u57, u58, u59, u60, u61, u62, u63, u64, u65, u66, u67, u68, u69, u70, u71, u72, u73, u74, u75, u76, u77, u78, u79, u80, u81, u82, u83, u84, u85, u86, u87, u88, u89, u90, u91, u92, u93, u94, u95, u96, u97, u98, u99, u100, u101, u102, u103, u104, u105, u106, u107, u108, u109, u110, u111, u112, u113, u114, u115, u116, u117, u118, u119, u120, u121, u122, u123, u124, u125, u126, u127, u128, u129, u130, u131, u132, u133, u134, u135, u136, u137, u138, u139, u140, u141, u142, u143, u144, u145, u146, u147, u148, u149, u150, u151, u152, u153, u154, u155, u156, u157, u158, u159, u160, u161, u162, u163, u164, u165, u166, u167, u168, u169, u170, u171, u172, u173, u174, u175, u176, u177, u178, u179, u180, u181, u182, u183, u184, u185, undef, undef], []⟩ wr := by
  conv => arg 2; whnf
  have hLC : ∀ bv, Tk.isL c = bv → Hid (∀ w1 : World, Calls Try.prog 22 #[.int .u8 (c : Int)] w1 fun e w' => e = .returned (.bool bv) ∧ w1 = w') := fun bv hb w1 => by rw [← hb]; exact letter8_ok c w1
  have hDC : ∀ bv, Tk.isD c = bv → Hid (∀ w1 : World, Calls Try.prog 23 #[.int .u8 (c : Int)] w1 fun e w' => e = .returned (.bool bv) ∧ w1 = w') := fun bv hb w1 => by rw [← hb]; exact digit8_ok c w1
  have HFEW : Hid (ts.length + 1 ≤ 1000000000) := by show ts.length + 1 ≤ _; have := hL0.out.few; omega
  have HLC := hLC true h3
  have n47 : ((c : Int) == 47) = false := by
    unfold Tk.isL at h3; simp only [Bool.or_eq_true, decide_eq_true_eq] at h3
    simp; omega
  obtain ⟨m, hm⟩ : ∃ m, m = Tk.run Tk.isW (c8 :: r) := ⟨_, rfl⟩
  have hmle : m ≤ s.size - a := by rw [hm, ← HLEN.out]; exact Tk.run_le _ _
  have hm1 : 1 ≤ m := by rw [hm]; exact Tk.run_pos _ _ _ (by rw [← HC.out]; exact Tk.isL_W h3)
  have hstep := Tk.step_name a c8 r (by rw [← HC.out]; exact h3)
  rw [← hm] at hstep
  have HSTEP := Lib.hid hstep
  have HM := Lib.hid hm
  have HM1 := Lib.hid hm1
  have hmsz : a + m ≤ s.size := by omega
  clear hLC hDC hm hstep hm1 hmle h3 h2 hnext hend
  go_upto_region 14 with (first | (go_at_call 22; refine (HLC.out _).mono ?_; rintro e w' ⟨rfl, rfl⟩))
  go_loop [7] (fun en => ∃ k : Nat, k ≤ m ∧ en = .int .i64 ((a + k : Nat) : Int)) (fun en => a + m + 1 - (intOf en).toNat)
  case atStart => exact ⟨0, Nat.zero_le _, rfl⟩
  case round =>
    obtain ⟨k, hk, rfl⟩ := hrel
    by_cases hkm : k < m
    · have hak : a + k < s.size := by omega
      obtain ⟨c2, hc2⟩ : ∃ c2, c2 = (s[a + k]).toNat := ⟨_, rfl⟩
      have hW : Tk.isW c2 = true := by
        rw [HM.out] at hkm
        obtain ⟨c3, e1, e2⟩ := Tk.runs_at Tk.isW _ k hkm
        rw [HBYTE.out k hak] at e1; injection e1 with e1
        rw [hc2, e1]; exact e2
      have hcc2 : (s[a + k]).toNat = c2 := hc2.symm
      have HKM := Lib.hid hkm
      clear hc2
      rcases hu : Tk.isL c2 with _ | _
      · have hv : Tk.isD c2 = true := by unfold Tk.isW at hW; rw [hu] at hW; exact hW
        have HLK : Hid (∀ w1 : World, Calls Try.prog 22 #[.int .u8 (c2 : Int)] w1 fun e w' => e = .returned (.bool false) ∧ w1 = w') := fun w1 => by rw [← hu]; exact letter8_ok c2 w1
        have HDK : Hid (∀ w1 : World, Calls Try.prog 23 #[.int .u8 (c2 : Int)] w1 fun e w' => e = .returned (.bool true) ∧ w1 = w') := fun w1 => by rw [← hv]; exact digit8_ok c2 w1
        clear hu hv hW
        go_wp2_with (first | (go_at_call 22; refine (HLK.out _).mono ?_; rintro e w' ⟨rfl, rfl⟩) | (go_at_call 23; refine (HDK.out _).mono ?_; rintro e w' ⟨rfl, rfl⟩))
        go_round
        case rel => exact ⟨k + 1, HKM.out, by go_num⟩
        case measure => have := HKM.out; simp [intOf]; omega
      · have HLK : Hid (∀ w1 : World, Calls Try.prog 22 #[.int .u8 (c2 : Int)] w1 fun e w' => e = .returned (.bool true) ∧ w1 = w') := fun w1 => by rw [← hu]; exact letter8_ok c2 w1
        clear hu hW
        go_wp2_with (first | (go_at_call 22; refine (HLK.out _).mono ?_; rintro e w' ⟨rfl, rfl⟩) | (go_at_call 23; refine (HDK.out _).mono ?_; rintro e w' ⟨rfl, rfl⟩))
        go_round
        case rel => exact ⟨k + 1, HKM.out, by go_num⟩
        case measure => have := HKM.out; simp [intOf]; omega
    · obtain rfl : k = m := by omega
      have HTX : Hid (s.extract a (a + k) = ⟨((c8 :: r).take k).toArray⟩) := by show _ = _; rw [Tk.extract_is, ← HL.out, HDR.out, Nat.add_sub_cancel_left]
      by_cases hak : a + k < s.size
      · obtain ⟨c2, hc2⟩ : ∃ c2, c2 = (s[a + k]).toNat := ⟨_, rfl⟩
        have hW : Tk.isW c2 = false := by
          have := Tk.run_out Tk.isW (c8 :: r) (s[a + k]) (by rw [← HM.out]; exact HBYTE.out k hak)
          rw [hc2]; exact this
        have hcc2 : (s[a + k]).toNat = c2 := hc2.symm
        have huv : Tk.isL c2 = false ∧ Tk.isD c2 = false := by unfold Tk.isW at hW; simpa using hW
        have HLK : Hid (∀ w1 : World, Calls Try.prog 22 #[.int .u8 (c2 : Int)] w1 fun e w' => e = .returned (.bool false) ∧ w1 = w') := fun w1 => by rw [← huv.1]; exact letter8_ok c2 w1
        have HDK : Hid (∀ w1 : World, Calls Try.prog 23 #[.int .u8 (c2 : Int)] w1 fun e w' => e = .returned (.bool false) ∧ w1 = w') := fun w1 => by rw [← huv.2]; exact digit8_ok c2 w1
        clear hc2 hW huv
        go_wp2_with (first | (go_at_call 22; refine (HLK.out _).mono ?_; rintro e w' ⟨rfl, rfl⟩) | (go_at_call 23; refine (HDK.out _).mono ?_; rintro e w' ⟨rfl, rfl⟩) | (refine Tk.wpList_app_tok rfl _ _ rfl B (.slice av ts.length cv) ts.length (Tk.tkR ts) wr.heap.size 1 0 0 false (s.extract a (a + k)) (a : Int) rfl rfl (hL0.out.keep (Ext.alloc (Below.refl _ _) _)).own (Blk.new wr _ _) HFEW.out (hL0.out.keep (Ext.alloc (Below.refl _ _) _)).low ?_; intro a3 c3 w6 ho6 hg6; rw [HTX.out] at ho6; have HT6 := Lib.hid ((hL0.out.keep (Ext.alloc (Below.refl _ _) _)).tok HDR.out HSTEP.out ho6 hg6); clear ho6 hg6))
        go_round
        case rel => exact ⟨a + k, ts ++ [_], a3, c3, hmsz, by go_num, by rw [List.length_append]; rfl, HT6.out⟩
        case measure => have := HM1.out; simp [intOf]; omega
      · have hsk : ¬ ((a : Int) + (k : Int) < (s.size : Int)) := by omega
        go_wp2_with (first | (refine Tk.wpList_app_tok rfl _ _ rfl B (.slice av ts.length cv) ts.length (Tk.tkR ts) wr.heap.size 1 0 0 false (s.extract a (a + k)) (a : Int) rfl rfl (hL0.out.keep (Ext.alloc (Below.refl _ _) _)).own (Blk.new wr _ _) HFEW.out (hL0.out.keep (Ext.alloc (Below.refl _ _) _)).low ?_; intro a3 c3 w6 ho6 hg6; rw [HTX.out] at ho6; have HT6 := Lib.hid ((hL0.out.keep (Ext.alloc (Below.refl _ _) _)).tok HDR.out HSTEP.out ho6 hg6); clear ho6 hg6))
        go_round
        case rel => exact ⟨a + k, ts ++ [_], a3, c3, hmsz, by go_num, by rw [List.length_append]; rfl, HT6.out⟩
        case measure => have := HM1.out; simp [intOf]; omega

end Go.Proofs.Ytkmcniaaecijdaa
