/- Walk of law3.run: instructions and an end, encoded and run. -/
import Derived.Test.YtfjgnhmmakeaeaaE38
import Derived.Test.YtfjgnhmmakeaeaaE44
import Derived.Test.YtfjgnhmmakeaeaaE39
import Derived.Deep.AppendLies
namespace Go.Proofs.Ytfjgnhmmakeaeaa
open Go.RowKit
set_option linter.unusedVariables false
set_option linter.unusedSimpArgs false
set_option maxRecDepth 100000
open Mc

theorem Try.infoIns : (Try.prog.info? 43).map (fun i => (i.zero, i.size, i.bytes)) = some (some (.agg #[.int .i64 0, .int .i64 0, .int .i64 0, .int .i64 0]), 4, 32) := by kernel_rfl
abbrev insR (l : List U.In) : List Value := (l.flatMap U.inL).map (Value.int .i64)
theorem insR_len (l : List U.In) : (insR l).length = l.length * 4 := by
  induction l with
  | nil => rfl
  | cons i l ih => unfold insR at *; rw [List.flatMap_cons, List.map_append, List.length_append, ih]; simp [U.inL]; omega
theorem insR_append (a b : List U.In) : insR (a ++ b) = insR a ++ insR b := by unfold insR; rw [List.flatMap_append, List.map_append]
theorem insR_one (l : List U.In) : ∀ u ∈ insR l, u.oneCell' = true := by
  intro u hu; obtain ⟨x, _, rfl⟩ := List.mem_map.1 hu; rfl
theorem Blk.nth {w : World} {g : Nat} {t : TypeId} {cs : Array Value} (h : Blk w g t cs) (xs : List Value) (hx : cs = xs.toArray) (j : Nat) (u : Value) (hj : xs[j]? = some u) : w.cell? ((⟨g, 0, none⟩ : Addr).add j) = some u := by
  rw [addr_add, h.cell, hx, Nat.zero_add]; simpa using hj
/-- 'append(s, x..)' to an own slice of instructions, x.. in the block just laid. -/
theorem wpList_app_ins {wv : World} {ops : Array Oper} {rest : List Oper} {o : Oper} {a : Act} {Q : Exit → Act → World → Prop} (hgd : o.guard = none) (s x : Operand) (ho : o.op = .call { callee := .builtin .append, args := #[s, x], argTypes := #[41, 41] })
    (B : Nat) (lv : Value) (m k : Nat) (l : List U.In) (b : Nat) (news : List U.In) (cs : Array Value) (hs : a.eval s = lv) (hx : a.eval x = .slice (some ⟨b, 0, none⟩) k k) (hown : wv.ownsRow B 43 4 lv m (insR l)) (hb : Blk wv b 43 cs) (hcs : cs = (insR news).toArray) (hk : news.length = k) (hm : m + k ≤ 100000) (hB : B ≤ wv.heap.size)
    (h : ∀ a' c' w', w'.ownsRow B 43 4 (.slice a' (m + k) c') (m + k) (insR (l ++ news)) → wv.grownBy w' lv.ownBlock → ((Value.slice a' (m + k) c').ownBlock = lv.ownBlock ∨ (Value.slice a' (m + k) c').ownBlock = some wv.heap.size) → wpList Try.prog ops Q rest (a.put o.dst (.slice a' (m + k) c')) w') :
    wpList Try.prog ops Q (o :: rest) a wv := by
  obtain ⟨iI, hi, hz0, hz1, hz2⟩ := info_parts Try.infoIns
  refine wpList_append_own_at _ hgd s x 41 ho B 43 iI (.agg #[.int .i64 0, .int .i64 0, .int .i64 0, .int .i64 0]) 4 32 Try.underlying41 hi hz0 hz1 hz2 rfl (by decide) lv m (insR l) hs hown ⟨b, 0, none⟩ k k (insR news) hx (by rw [insR_len, hk]) (fun j u hj => hb.nth _ hcs j u hj) (insR_one _) (by unfold maxLen; omega) (by omega) hB ?_
  intro v' w' ho' hg' _ hat
  obtain ⟨a', c', hv, _⟩ := own_slice ho'
  subst hv
  rw [← insR_append] at ho'
  exact h a' c' w' ho' hg' hat
theorem enc_own {B : Nat} (v1 : Value) (m : Nat) (l : List U.In) (hl : l.length = m) (hpos : 0 < m) (hall : ∀ i ∈ l, i.Ok) (hsz : (U.encs l).length ≤ 65536) (hn : m ≤ 70000) (w : World) (ho : w.ownsRow B 43 4 v1 m (insR l)) :
    Calls Try.prog 25 #[v1] w fun e w' => ∃ a c, e = .returned (.tuple #[.slice a (U.encs l).length c, .agg #[.int .i64 0, .int .i64 0]]) ∧ Rd w' 1 (.slice a (U.encs l).length c) (U.encs l).length ((U.encs l).map (Value.int .i64)) ∧ Below w.heap.size w w' := by
  rcases ho.2 with ⟨rfl, hx⟩ | ⟨g, cap, cur, rfl, hbg, hg, hnc, hcm, hcs, htake⟩
  · omega
  · refine (encode_some g 0 m cap l hl hall hsz hn w (fun j u hj => ?_) ?_).mono ?_
    · have := ho.cells (g := g) rfl j u hj
      rw [addr_add] at this; exact this
    · exact (own_low ho g rfl).2
    · rintro e w' ⟨v', he, ho', hb⟩
      obtain ⟨a, c, hv, _⟩ := own_slice ho'
      subst hv
      exact ⟨a, c, he, Rd.of_owns ho' (by unfold maxLen; omega), hb⟩
theorem grown_keep {w w' : World} {B m g : Nat} {lv : Value} {t : TypeId} {cs : Array Value} {xs : List Value} (h : Blk w g t cs) (own : w.ownsRow B 43 4 lv m xs) (hne : (43 : Nat) ≠ t) (hg : w.grownBy w' lv.ownBlock) : Blk w' g t cs := h.grown hg (own_ne own h hne)
theorem ne_state : (43 : Nat) ≠ 27 := by decide
theorem ne_ran : (43 : Nat) ≠ 30 := by decide
theorem grownBy_of_below {w w' : World} {row : Option Nat} (h : Below w.heap.size w w') : w.grownBy w' row := ⟨h.os, h.tape, h.output, h.size, fun i hi _ => h.block i hi⟩
set_option maxHeartbeats 16000000 in
theorem runs_at (lv : Value) (m N NC : Nat) (l : List U.In) (B : Nat) (r0 r1 r2 r3 r4 r5 r6 r7 pc : Int) (c z n v : Bool) (ma : Option Addr) (mn mc : Nat) (F : St) (w : World) (hl : l.length = m) (hm : m ≤ 1000) (own : w.ownsRow B 43 4 lv m (insR l)) (hB : B ≤ w.heap.size) (h1 : F.how = 1)
    (CE : ∀ (v1 : Option Addr) (c1 : Nat) (w1 : World), w1.ownsRow B 43 4 (.slice v1 (m + 1) c1) (m + 1) (insR (l ++ [haltI])) → Calls Try.prog 25 #[.slice v1 (m + 1) c1] w1 fun e w' => ∃ a c, e = .returned (.tuple #[.slice a NC c, .agg #[.int .i64 0, .int .i64 0]]) ∧ Rd w' 1 (.slice a NC c) NC ((U.encs (l ++ [haltI])).map (Value.int .i64)) ∧ Below w1.heap.size w1 w')
    (CR : ∀ (ca : Option Addr) (cc : Nat) (w1 : World), Rd w1 1 (.slice ca NC cc) NC ((U.encs (l ++ [haltI])).map (Value.int .i64)) → w.grownBy w1 lv.ownBlock → Calls Try.prog 15 #[.slice ca NC cc, stV r0 r1 r2 r3 r4 r5 r6 r7 c z n v pc (.slice ma mn mc), .slice none 0 0, .int .i64 1000] w1 fun e w' => ∃ oa oc xa xn xc, e = .returned (.tuple #[ranV F (.slice oa N oc) (.slice xa xn xc), .int .i64 0]) ∧ w'.ownsRow w1.heap.size 5 1 (.slice oa N oc) N (F.out.map (Value.int .u8)) ∧ w'.ownsRow w1.heap.size 3 1 (.slice xa xn xc) (top F.mem MS) ((left F.mem).map (Value.int .i64)) ∧ Below w1.heap.size w1 w') :
    Calls Try.prog 23 #[stV r0 r1 r2 r3 r4 r5 r6 r7 c z n v pc (.slice ma mn mc), lv] w fun e w' => ∃ oa oc xa xn xc, e = .returned (.tuple #[ranV F (.slice oa N oc) (.slice xa xn xc), .bool true]) ∧ w'.ownsRow w.heap.size 5 1 (.slice oa N oc) N (F.out.map (Value.int .u8)) ∧ w'.ownsRow w.heap.size 3 1 (.slice xa xn xc) (top F.mem MS) ((left F.mem).map (Value.int .i64)) ∧ w.grownBy w' lv.ownBlock := by
  have HCE := Lib.hid CE; have HCR := Lib.hid CR; have HM := Lib.hid hm; have HB := Lib.hid hB
  have HOW : Hid ((((w.alloc (.cells (stC r0 r1 r2 r3 r4 r5 r6 r7 c z n v pc (.slice ma mn mc)) 27)).alloc (.cells ranZc 30)).alloc (.cells #[.int .i64 0, .int .i64 0, .int .i64 0, .int .i64 0] 43)).ownsRow B 43 4 lv m (insR l)) := ((own.alloc _).alloc _).alloc _
  have HZ0 : Hid (Blk ((w.alloc (.cells (stC r0 r1 r2 r3 r4 r5 r6 r7 c z n v pc (.slice ma mn mc)) 27)).alloc (.cells ranZc 30)) (w.heap.size + 1) 30 ranZc) := by
    have := Blk.new (w.alloc (.cells (stC r0 r1 r2 r3 r4 r5 r6 r7 c z n v pc (.slice ma mn mc)) 27)) 30 ranZc
    show Blk _ _ _ _
    simpa using this
  have HS0 : Hid (Blk ((w.alloc (.cells (stC r0 r1 r2 r3 r4 r5 r6 r7 c z n v pc (.slice ma mn mc)) 27)).alloc (.cells ranZc 30)) w.heap.size 27 (stC r0 r1 r2 r3 r4 r5 r6 r7 c z n v pc (.slice ma mn mc))) := (Blk.new w _ _).keep (Ext.alloc (Below.refl _ _) _)
  have HNB : Hid (Blk (((w.alloc (.cells (stC r0 r1 r2 r3 r4 r5 r6 r7 c z n v pc (.slice ma mn mc)) 27)).alloc (.cells ranZc 30)).alloc (.cells #[.int .i64 0, .int .i64 0, .int .i64 0, .int .i64 0] 43)) (w.heap.size + 1 + 1) 43 #[.int .i64 0, .int .i64 0, .int .i64 0, .int .i64 0]) := by
    have := Blk.new ((w.alloc (.cells (stC r0 r1 r2 r3 r4 r5 r6 r7 c z n v pc (.slice ma mn mc)) 27)).alloc (.cells ranZc 30)) 43 #[.int .i64 0, .int .i64 0, .int .i64 0, .int .i64 0]
    show Blk _ _ _ _
    simpa using this
  have HMK : Hid (m + 1 ≤ 100000) := by show m + 1 ≤ 100000; omega
  have HBW : Hid (B ≤ (((w.alloc (.cells (stC r0 r1 r2 r3 r4 r5 r6 r7 c z n v pc (.slice ma mn mc)) 27)).alloc (.cells ranZc 30)).alloc (.cells #[.int .i64 0, .int .i64 0, .int .i64 0, .int .i64 0] 43)).heap.size) := by show B ≤ _; simp; omega
  clear CE CR hm hB own hl
  go_enter Try.func23, Try.ntmps23
  go_wp2_with (first | (at_builtin; refine wpList_app_ins rfl _ _ rfl B lv m 1 l _ [haltI] #[.int .i64 0, .int .i64 0, .int .i64 0, .int .i64 0] rfl rfl HOW.out HNB.out rfl rfl HMK.out HBW.out ?_; intro v1 c1 w1 ho1 hg1 _; have G1 := Lib.hid (((World.grownBy_alloc _ _ _).trans ((World.grownBy_alloc _ _ _).trans ((World.grownBy_alloc _ _ _).trans hg1)) : w.grownBy w1 lv.ownBlock)); have HS1 := Lib.hid (grown_keep ((HS0.out).keep (Ext.alloc (Below.refl _ _) _)) HOW.out ne_state hg1); have HZ1 := Lib.hid (grown_keep ((HZ0.out).keep (Ext.alloc (Below.refl _ _) _)) HOW.out ne_ran hg1); have HO1 := Lib.hid ho1; clear ho1 hg1) | (go_at_call 25; refine (HCE.out _ _ _ HO1.out).mono ?_; rintro e w2 ⟨ca, cc, rfl, hrc, hb2⟩; have HC2 := Lib.hid hrc; have HS2 := Lib.hid (HS1.out.keep hb2); have HZ2 := Lib.hid (HZ1.out.keep hb2); have G2 := Lib.hid (G1.out.trans (grownBy_of_below hb2)); clear hrc hb2) | (refine wpList_load_row rfl 27 _ rfl w.heap.size rfl 27 (stC r0 r1 r2 r3 r4 r5 r6 r7 c z n v pc (.slice ma mn mc)) (0, 0) _ ((HS2.out).keep (Ext.alloc (Below.refl _ _) _)) Try.underlying27 rfl (by kernel_rfl) ?_) | (go_at_call 15; refine (HCR.out _ _ _ ((HC2.out).below (Ext.alloc (Below.refl _ _) _)) (G2.out.trans (World.grownBy_alloc _ _ _))).mono ?_; rintro e w3 ⟨oa, oc, xa, xn, xc, rfl, ho3, hm3, hb3⟩; have HB3 := Lib.hid (Ext.trans (Ext.alloc (Below.refl _ _) _) hb3); have HO3 := Lib.hid ho3; have HM3 := Lib.hid hm3; have hz2 := (HZ2.out).lt; have HZ3 := Lib.hid (((HZ2.out).keep (Ext.alloc (Below.refl _ _) _)).keep hb3); obtain ⟨f0, f1⟩ := fault_keep hb3; have hf3 := own_lt hb3; clear ho3 hm3 hb3) | (refine wpList_store_row rfl 30 _ _ rfl w3.heap.size (ranL F (.slice oa N oc) (.slice xa xn xc)).toArray rfl rfl 30 ranZc (Blk.new _ _ _) (by kernel_rfl) rfl (ranL_one _ _ _ _ _ _ _) ?_; generalize hw4 : (w3.alloc (Obj.cells ranZc 30)).setRow w3.heap.size (ranL F (.slice oa N oc) (.slice xa xn xc)).toArray = w4; have HB34 := Lib.hid ((by rw [← hw4]; exact Below.row (Ext.alloc (Below.refl _ _) _) (Nat.le_refl _) _ : Below w3.heap.size w3 w4)); have HA4 := Lib.hid ((by rw [← hw4]; exact (Blk.new w3 _ _).row _ : Blk w4 w3.heap.size 30 (ranL F (.slice oa N oc) (.slice xa xn xc)).toArray)); clear hw4))
  have hq3 : w2.heap.size < w3.heap.size := hf3
  have HT4 := Lib.hid (HZ3.out.keep HB34.out)
  have f4 : w4.cell? ⟨w2.heap.size, 0, none⟩ = some (.int .i64 0) := by rw [(bcell HB34.out).1 _ _ hq3]; exact f0
  have hne : w3.heap.size ≠ w.heap.size + 1 := by have := HZ3.out.lt; omega
  clear f0 f1 HZ3 HZ2 HZ1 HS1 HS2 HO1 HC2 HOW HZ0 HS0 HCE HCR
  have HZ4 : Hid (w.heap.size + 1 ≠ w3.heap.size) := fun e => hne e.symm
  have HZ5 : Hid (w.heap.size + 1 ≠ w2.heap.size) := by show w.heap.size + 1 ≠ w2.heap.size; omega
  apply Iy.wp_region 15 [13] (fun _ => []) (Ix.Rb) (fun nn vs wi => Hid (w4.grownBy wi (some (w.heap.size + 1)) ∧ Blk wi (w.heap.size + 1) 30 (if nn = 0 then ranZc else (ranL F (.slice oa N oc) (.slice xa xn xc)).toArray))) (Iy.vp [(Iy.is (ranV F (.slice oa N oc) (.slice xa xn xc))), (Iy.is _), (Iy.is (.int .i64 0)), (Iy.is (.bool true)), (Iy.is (.bool true)), (Iy.is (.int .i64 0)), (Iy.is (.bool true)), (Iy.is (.bool true)), (Iy.is (.bool true)), (Iy.is _), (Iy.is (.int .i64 1)), (Iy.is (.bool true)), (Iy.is (.bool true)), (fun _ => True), (Iy.is (.bool true))]) (fun _ => false) (by kernel_rfl) (by kernel_rfl) (by kernel_rfl) (by kernel_rfl) (by kernel_rfl) (fun _ _ _ _ _ h => h) (fun _ => Below.refl _ _) (fun nn vs _ _ h hb => ⟨h.out.1.trans (grownBy_of_below hb), h.out.2.keep hb⟩) (fun _ _ => Iy.vp_keeps _ _ _ _) (Ix.not_al _) (fun vs => ⟨grownBy_of_below (Below.drew (Below.refl _ _)), HT4.out.drew⟩)
  case step =>
    refine Iy.steps_cons (n := 14) (i := 0) (j := 1) rfl rfl (Iy.stepI_ofN [] (by kernel_rfl) (by kernel_rfl) (fun nph vsp wi HB => ?_)) ?_
    (· (refine Iv.askN_nil ?_; (try simp only [Act.put, List.setIfInBounds_toArray, List.set_cons_zero, List.set_cons_succ]); refine Iy.goI_yes rfl rfl ?_; intro K hK; (try simp only [Act.put, List.setIfInBounds_toArray, List.set_cons_zero, List.set_cons_succ] at hK); refine wp_load_sub 30 _ rfl w3.heap.size 0 rfl 30 (ranL F (.slice oa N oc) (.slice xa xn xc)).toArray (ranL F (.slice oa N oc) (.slice xa xn xc)) _ (HA4.out.grown HB.out.1 (fun e => HZ4.out (by injection e with e; exact e.symm))) rfl Try.underlying30 rfl (by kernel_rfl) ?_; exact hK _ _ (Below.refl _ _) rfl))
    refine Iy.steps_cons (n := 13) (i := 1) (j := 2) rfl rfl (Iy.stepI_ofN [] (by kernel_rfl) (by kernel_rfl) (fun nph vsp wi HB => ?_)) ?_
    (· (refine Iv.askN_nil ?_; (try simp only [Act.put, List.setIfInBounds_toArray, List.set_cons_zero, List.set_cons_succ]); refine Iy.goI_yes rfl rfl ?_; intro K hK; (try simp only [Act.put, List.setIfInBounds_toArray, List.set_cons_zero, List.set_cons_succ] at hK); go_wp2_with (first | fail); exact hK _ _ (Below.refl _ _) rfl))
    refine Iy.steps_cons (n := 12) (i := 2) (j := 3) rfl rfl (Iy.stepI_ofN [(1, some 25)] (by kernel_rfl) (by kernel_rfl) (fun nph vsp wi HB => ?_)) ?_
    (· (refine Iv.askN_cons ?_; rintro _ rfl; refine Iv.askN_nil ?_; have k2 : wi.cell? ⟨w2.heap.size, 0, none⟩ = some (.int .i64 0) := ((HB.out.1.cell_far ⟨w2.heap.size, 0, none⟩ (Nat.lt_of_lt_of_le hq3 HB34.out.size) (fun e => HZ5.out (by injection e with e; exact e.symm))).trans f4); (try simp only [Act.put, List.setIfInBounds_toArray, List.set_cons_zero, List.set_cons_succ]); refine Iy.goI_yes rfl rfl ?_; intro K hK; (try simp only [Act.put, List.setIfInBounds_toArray, List.set_cons_zero, List.set_cons_succ] at hK); go_wp2_with (first | fail); exact hK _ _ (Below.refl _ _) rfl))
    refine Iy.steps_cons (n := 11) (i := 3) (j := 4) rfl rfl (Iy.stepI_ofN [(2, some 26)] (by kernel_rfl) (by kernel_rfl) (fun nph vsp wi HB => ?_)) ?_
    (· (refine Iv.askN_cons ?_; rintro _ rfl; refine Iv.askN_nil ?_; (try simp only [Act.put, List.setIfInBounds_toArray, List.set_cons_zero, List.set_cons_succ]); refine Iy.goI_yes rfl rfl ?_; intro K hK; (try simp only [Act.put, List.setIfInBounds_toArray, List.set_cons_zero, List.set_cons_succ] at hK); go_wp2_with (first | fail); exact hK _ _ (Below.refl _ _) rfl))
    refine Iy.steps_cons (n := 10) (i := 4) (j := 5) rfl rfl (Iy.stepI_ofN [(3, some 27)] (by kernel_rfl) (by kernel_rfl) (fun nph vsp wi HB => ?_)) ?_
    (· (refine Iv.askN_cons ?_; rintro _ rfl; refine Iv.askN_nil ?_; (try simp only [Act.put, List.setIfInBounds_toArray, List.set_cons_zero, List.set_cons_succ]); refine Iy.goI_yes rfl rfl ?_; intro K hK; (try simp only [Act.put, List.setIfInBounds_toArray, List.set_cons_zero, List.set_cons_succ] at hK); go_wp2_with (first | fail); exact hK _ _ (Below.refl _ _) rfl))
    refine Iy.steps_cons (n := 9) (i := 5) (j := 6) rfl rfl (Iy.stepI_ofN [(4, some 28)] (by kernel_rfl) (by kernel_rfl) (fun nph vsp wi HB => ?_)) ?_
    (· (refine Iv.askN_cons ?_; rintro _ rfl; refine Iv.askN_nil ?_; (try simp only [Act.put, List.setIfInBounds_toArray, List.set_cons_zero, List.set_cons_succ]); refine Iy.goI_yes rfl rfl ?_; intro K hK; (try simp only [Act.put, List.setIfInBounds_toArray, List.set_cons_zero, List.set_cons_succ] at hK); go_wp2_with (first | fail); exact hK _ _ (Below.refl _ _) rfl))
    refine Iy.steps_cons (n := 8) (i := 6) (j := 7) rfl rfl (Iy.stepI_ofN [(4, some 28), (5, some 29)] (by kernel_rfl) (by kernel_rfl) (fun nph vsp wi HB => ?_)) ?_
    (· (refine Iv.askN_cons ?_; rintro _ rfl; refine Iv.askN_cons ?_; rintro _ rfl; refine Iv.askN_nil ?_; (try simp only [Act.put, List.setIfInBounds_toArray, List.set_cons_zero, List.set_cons_succ]); refine Iy.goI_yes rfl rfl ?_; intro K hK; (try simp only [Act.put, List.setIfInBounds_toArray, List.set_cons_zero, List.set_cons_succ] at hK); go_wp2_with (first | fail); exact hK _ _ (Below.refl _ _) rfl))
    refine Iy.steps_cons (n := 7) (i := 7) (j := 8) rfl rfl (Iy.stepI_ofN [(4, some 28), (6, some 30)] (by kernel_rfl) (by kernel_rfl) (fun nph vsp wi HB => ?_)) ?_
    (· (refine Iv.askN_cons ?_; rintro _ rfl; refine Iv.askN_cons ?_; rintro _ rfl; refine Iv.askN_nil ?_; (try simp only [Act.put, List.setIfInBounds_toArray, List.set_cons_zero, List.set_cons_succ]); refine Iy.goI_yes rfl rfl ?_; intro K hK; (try simp only [Act.put, List.setIfInBounds_toArray, List.set_cons_zero, List.set_cons_succ] at hK); go_wp2_with (first | fail); exact hK _ _ (Below.refl _ _) rfl))
    refine Iy.steps_cons (n := 6) (i := 8) (j := 9) rfl rfl (Iy.stepI_ofN [(7, some 31)] (by kernel_rfl) (by kernel_rfl) (fun nph vsp wi HB => ?_)) ?_
    (· (refine Iv.askN_cons ?_; rintro _ rfl; refine Iv.askN_nil ?_; (try simp only [Act.put, List.setIfInBounds_toArray, List.set_cons_zero, List.set_cons_succ]); refine Iy.goI_yes rfl rfl ?_; intro K hK; (try simp only [Act.put, List.setIfInBounds_toArray, List.set_cons_zero, List.set_cons_succ] at hK); go_wp2_with (first | fail); exact hK _ _ (Below.refl _ _) rfl))
    refine Iy.steps_cons (n := 5) (i := 9) (j := 10) rfl rfl (Iy.stepI_ofN [(8, some 32)] (by kernel_rfl) (by kernel_rfl) (fun nph vsp wi HB => ?_)) ?_
    (· (refine Iv.askN_cons ?_; rintro _ rfl; refine Iv.askN_nil ?_; (try simp only [Act.put, List.setIfInBounds_toArray, List.set_cons_zero, List.set_cons_succ]); refine Iy.goI_yes rfl rfl ?_; intro K hK; (try simp only [Act.put, List.setIfInBounds_toArray, List.set_cons_zero, List.set_cons_succ] at hK); go_wp2_with (first | fail); exact hK _ _ (Below.refl _ _) rfl))
    refine Iy.steps_cons (n := 4) (i := 10) (j := 11) rfl rfl (Iy.stepI_ofN [(8, some 32), (9, some 33)] (by kernel_rfl) (by kernel_rfl) (fun nph vsp wi HB => ?_)) ?_
    (· (refine Iv.askN_cons ?_; rintro _ rfl; refine Iv.askN_cons ?_; rintro _ rfl; refine Iv.askN_nil ?_; have k10 : wi.cell? ⟨w3.heap.size, 0, none⟩ = some (.int .i64 1) := (by rw [← h1]; exact ran_cell (HA4.out.grown HB.out.1 (fun e => HZ4.out (by injection e with e; exact e.symm))) 0 rfl); (try simp only [Act.put, List.setIfInBounds_toArray, List.set_cons_zero, List.set_cons_succ]); refine Iy.goI_yes rfl rfl ?_; intro K hK; (try simp only [Act.put, List.setIfInBounds_toArray, List.set_cons_zero, List.set_cons_succ] at hK); go_wp2_with (first | fail); exact hK _ _ (Below.refl _ _) rfl))
    refine Iy.steps_cons (n := 3) (i := 11) (j := 12) rfl rfl (Iy.stepI_ofN [(8, some 32), (10, some 34)] (by kernel_rfl) (by kernel_rfl) (fun nph vsp wi HB => ?_)) ?_
    (· (refine Iv.askN_cons ?_; rintro _ rfl; refine Iv.askN_cons ?_; rintro _ rfl; refine Iv.askN_nil ?_; (try simp only [Act.put, List.setIfInBounds_toArray, List.set_cons_zero, List.set_cons_succ]); refine Iy.goI_yes rfl rfl ?_; intro K hK; (try simp only [Act.put, List.setIfInBounds_toArray, List.set_cons_zero, List.set_cons_succ] at hK); go_wp2_with (first | fail); exact hK _ _ (Below.refl _ _) rfl))
    refine Iy.steps_cons (n := 2) (i := 12) (j := 13) rfl rfl (Iy.stepI_ofN [(8, some 32), (11, some 35)] (by kernel_rfl) (by kernel_rfl) (fun nph vsp wi HB => ?_)) ?_
    (· (refine Iv.askN_cons ?_; rintro _ rfl; refine Iv.askN_cons ?_; rintro _ rfl; refine Iv.askN_nil ?_; (try simp only [Act.put, List.setIfInBounds_toArray, List.set_cons_zero, List.set_cons_succ]); refine Iy.goI_yes rfl rfl ?_; intro K hK; (try simp only [Act.put, List.setIfInBounds_toArray, List.set_cons_zero, List.set_cons_succ] at hK); go_wp2_with (first | fail); exact hK _ _ (Below.refl _ _) rfl))
    refine Iy.steps_cons (n := 1) (i := 13) (j := 14) rfl rfl (Iy.stepI_ofC 0 [(0, some 24)] (by kernel_rfl) (by kernel_rfl) (fun vsp wi HB => ?_)) ?_
    (· (refine Iv.askN_cons ?_; rintro _ ⟨rfl, ev0⟩; refine Iv.askN_nil ?_; (try simp only [Act.put, List.setIfInBounds_toArray, List.set_cons_zero, List.set_cons_succ]); refine Iy.goI_yes rfl rfl ?_; intro K hK; (try simp only [Act.put, List.setIfInBounds_toArray, List.set_cons_zero, List.set_cons_succ] at hK); refine wp_store_row 30 _ _ rfl (w.heap.size + 1) (ranL F (.slice oa N oc) (.slice xa xn xc)).toArray rfl rfl 30 _ HB.out.2 (by kernel_rfl) rfl (ranL_one _ _ _ _ _ _ _) ?_; exact hK undef _ ⟨⟨World.grownBy.trans HB.out.1 ⟨rfl, rfl, rfl, by simp [World.setRow], fun k _ hk => setRow_other wi _ k _ (fun e => hk (by rw [e]))⟩, HB.out.2.row _⟩, fun _ _ h => h⟩ trivial))
    refine Iy.steps_cons (n := 0) (i := 14) (j := 15) rfl rfl (Iy.stepI_ofN [(12, some 36)] (by kernel_rfl) (by kernel_rfl) (fun nph vsp wi HB => ?_)) ?_
    (· (refine Iv.askN_cons ?_; rintro _ rfl; refine Iv.askN_nil ?_; (try simp only [Act.put, List.setIfInBounds_toArray, List.set_cons_zero, List.set_cons_succ]); refine Iy.goI_yes rfl rfl ?_; intro K hK; (try simp only [Act.put, List.setIfInBounds_toArray, List.set_cons_zero, List.set_cons_succ] at hK); go_wp2_with (first | fail); exact hK _ _ (Below.refl _ _) rfl))
    exact Iy.steps_nil
  intro vsf wf HF hdf
  refine Ix.allV_cons (n := 14) (j := 0) (k := 1) rfl rfl ?_; rintro _ _ rfl; refine Ix.allV_cons (n := 13) (j := 1) (k := 2) rfl rfl ?_; rintro _ _ rfl; refine Ix.allV_cons (n := 12) (j := 2) (k := 3) rfl rfl ?_; rintro _ _ rfl; refine Ix.allV_cons (n := 11) (j := 3) (k := 4) rfl rfl ?_; rintro _ _ rfl; refine Ix.allV_cons (n := 10) (j := 4) (k := 5) rfl rfl ?_; rintro _ _ rfl; refine Ix.allV_cons (n := 9) (j := 5) (k := 6) rfl rfl ?_; rintro _ _ rfl; refine Ix.allV_cons (n := 8) (j := 6) (k := 7) rfl rfl ?_; rintro _ _ rfl; refine Ix.allV_cons (n := 7) (j := 7) (k := 8) rfl rfl ?_; rintro _ _ rfl; refine Ix.allV_cons (n := 6) (j := 8) (k := 9) rfl rfl ?_; rintro _ _ rfl; refine Ix.allV_cons (n := 5) (j := 9) (k := 10) rfl rfl ?_; rintro _ _ rfl; refine Ix.allV_cons (n := 4) (j := 10) (k := 11) rfl rfl ?_; rintro _ _ rfl; refine Ix.allV_cons (n := 3) (j := 11) (k := 12) rfl rfl ?_; rintro _ _ rfl; refine Ix.allV_cons (n := 2) (j := 12) (k := 13) rfl rfl ?_; rintro _ _ rfl; refine Ix.allV_cons (n := 1) (j := 13) (k := 14) rfl rfl ?_; rintro _ _ _; refine Ix.allV_cons (n := 0) (j := 14) (k := 15) rfl rfl ?_; rintro _ _ rfl
  refine Ix.allV_nil ?_
  (try simp only [Act.put, List.setIfInBounds_toArray, List.set_cons_zero, List.set_cons_succ, List.drop_succ_cons, List.drop_zero])
  refine Ix.nil ?_
  have hlo2 : w.heap.size + 1 < (w2.alloc (.cells #[.int .i64 0, .int .i64 0] 50)).heap.size := by simp; omega
  have hlo : w.heap.size ≤ (w2.alloc (.cells #[.int .i64 0, .int .i64 0] 50)).heap.size := by omega
  have HF2 : Blk wf (w.heap.size + 1) 30 (ranL F (.slice oa N oc) (.slice xa xn xc)).toArray := HF.out.2
  have G5 : w.grownBy wf lv.ownBlock := by
    have ga := G2.out.trans (grownBy_of_below (Ext.trans HB3.out HB34.out))
    exact ⟨HF.out.1.os.trans ga.os, HF.out.1.tape.trans ga.tape, HF.out.1.output.trans ga.output, Nat.le_trans ga.size HF.out.1.size, fun i hi hn => (HF.out.1.block i (Nat.lt_of_lt_of_le hi ga.size) (fun e => by injection e with e; omega)).trans (ga.block i hi hn)⟩
  have own5 : ∀ (e : TypeId) (v : Value) (n : Nat) (xs : List Value), w3.ownsRow (w2.alloc (.cells #[.int .i64 0, .int .i64 0] 50)).heap.size e 1 v n xs → wf.ownsRow w.heap.size e 1 v n xs := fun e v n xs h => by
    refine own_mono hlo ((ownsRow_below h HB34.out).kept HF.out.1 ?_)
    rcases h.2 with ⟨rfl, _⟩ | ⟨g, cap, cur, rfl, hg, _⟩
    · exact .inl rfl
    · refine .inr (fun e => ?_)
      have e : g = w.heap.size + 1 := by simpa [Value.ownBlock] using e
      omega
  go_wp2
  exact bodyPost_ret (results_cell2 rfl _ _ (w.heap.size + 1) 30 (ranL F (.slice oa N oc) (.slice xa xn xc)).toArray (0, 0) _ rfl HF2 Try.underlying30 rfl (by kernel_rfl)) rfl ⟨oa, oc, xa, xn, xc, rfl, own5 _ _ _ _ HO3.out, own5 _ _ _ _ HM3.out, G5⟩
/-- Instructions, and an end, run. -/
theorem runs_ok (lv : Value) (m : Nat) (l : List U.In) (B : Nat) (r0 r1 r2 r3 r4 r5 r6 r7 pc : Int) (c z n v : Bool) (mv : Value) (mn : Nat) (ms : List Int) (F : St) (w : World) (hl : l.length = m) (hm : m ≤ 1000) (hok : ∀ i ∈ l, i.Ok) (own : w.ownsRow B 43 4 lv m (insR l)) (hB : B ≤ w.heap.size)
    (hmem : ∀ w1, w.grownBy w1 lv.ownBlock → Rd w1 1 mv mn (ms.map (Value.int .i64))) (hwr : Mc.wr [r0, r1, r2, r3, r4, r5, r6, r7] pc ms = 0) (hF : Mc.ends (U.encs (l ++ [haltI])) [] 1000 r0 r1 r2 r3 r4 r5 r6 r7 c z n v pc ms = F) (h1 : F.how = 1) (hsz : (U.encs (l ++ [haltI])).length ≤ 65536) :
    Calls Try.prog 23 #[stV r0 r1 r2 r3 r4 r5 r6 r7 c z n v pc mv, lv] w fun e w' => ∃ oa oc xa xn xc, e = .returned (.tuple #[ranV F (.slice oa F.out.length oc) (.slice xa xn xc), .bool true]) ∧ w'.ownsRow w.heap.size 5 1 (.slice oa F.out.length oc) F.out.length (F.out.map (Value.int .u8)) ∧ w'.ownsRow w.heap.size 3 1 (.slice xa xn xc) (top F.mem MS) ((left F.mem).map (Value.int .i64)) ∧ w.grownBy w' lv.ownBlock := by
  obtain ⟨_, _, ma, mc, hmv, _, _⟩ := (hmem w ⟨rfl, rfl, rfl, Nat.le_refl _, fun _ _ _ => rfl⟩).ints
  subst hmv
  have hok2 : ∀ i ∈ l ++ [haltI], i.Ok := fun i hi => by
    simp only [List.mem_append, List.mem_singleton] at hi
    rcases hi with hi | rfl
    · exact hok i hi
    · exact halt_ok
  refine runs_at lv m F.out.length (U.encs (l ++ [haltI])).length l B r0 r1 r2 r3 r4 r5 r6 r7 pc c z n v ma mn mc F w hl hm own hB h1 (fun v1 c1 w1 ho => ?_) (fun ca cc w1 hc hg => ?_)
  · exact enc_own (.slice v1 (m + 1) c1) (m + 1) (l ++ [haltI]) (by rw [List.length_append, hl]; rfl) (Nat.succ_pos _) hok2 hsz (by omega) w1 ho
  · have h0 := run_ok (.slice ca (U.encs (l ++ [haltI])).length cc) (.slice none 0 0) (.slice ma mn mc) (U.encs (l ++ [haltI])).length 0 mn r0 r1 r2 r3 r4 r5 r6 r7 pc 1000 c z n v (U.encs (l ++ [haltI])) [] ms w1 hc (Rd.nil _ _) (hmem w1 hg) (fun x hx => by cases hx)
    have hwa : Mc.wary (U.encs (l ++ [haltI])).length 0 (Mc.wr [r0, r1, r2, r3, r4, r5, r6, r7] pc ms) 1000 = 0 := by
      rw [hwr]; unfold Mc.wary; rw [if_neg (by omega), if_neg (by decide), if_neg (by decide)]
    rw [hF, hwa] at h0
    refine h0.mono ?_
    rintro e w' (⟨h, _⟩ | ⟨_, ov, mv', he, q1, q2, _, q4⟩)
    · exact absurd rfl h
    · obtain ⟨oa, oc, hv1, q1'⟩ := own_slice2 q1
      obtain ⟨xa, xc, hv2, q2'⟩ := own_slice2 q2
      subst hv1; subst hv2
      exact ⟨oa, oc, xa, _, xc, he, q1', q2', q4⟩
end Go.Proofs.Ytfjgnhmmakeaeaa
