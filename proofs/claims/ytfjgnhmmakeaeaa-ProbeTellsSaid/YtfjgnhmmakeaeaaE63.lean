/- Walk of probe.Trace's closure: a step is told. No condition but the lemma's own. -/
import Derived.Test.YtfjgnhmmakeaeaaPt2
import Derived.Test.YtfjgnhmmakeaeaaBB
import Derived.Test.YtfjgnhmmakeaeaaB9
import Derived.Test.YtfjgnhmmakeaeaaB0
import Derived.Deep.AppendLies
namespace Go.Proofs.Ytfjgnhmmakeaeaa
open Go.RowKit
set_option linter.unusedVariables false
set_option linter.unusedSimpArgs false
set_option maxRecDepth 100000
open Mc

theorem Try.infoShot : (Try.prog.info? 80).map (fun i => (i.zero, i.size, i.bytes)) = some (some (.agg #[.int .i64 0, .int .i64 0, .int .i64 0, .int .i64 0, .int .i64 0, .int .i64 0, .int .i64 0, .int .i64 0, .int .i64 0, .int .i64 0, .int .i64 0, .int .i64 0, .int .i64 0, .bool false, .bool false, .bool false, .bool false]), 17, 112) := by kernel_rfl
theorem own_elsewhere2 {w : World} {B e s n : Nat} {v : Value} {xs : List Value} (h : w.ownsRow B e s v n xs) {p : Addr} (hp : v.ownBlock ≠ some p.block) (u : Value) : (w.setCell p u).ownsRow B e s v n xs := by
  refine ⟨h.1, ?_⟩
  rcases h.2 with ⟨rfl, hz⟩ | ⟨g, cap, cur, rfl, hbg, hg, hnc, hcm, hcs, htake⟩
  · exact .inl ⟨rfl, hz⟩
  · refine .inr ⟨g, cap, cur, rfl, hbg, (Below.heap_setCell w p u g (fun e => hp (by rw [← e]; rfl))).trans hg, hnc, hcm, hcs, htake⟩
/-- A step that is told, its cells. -/
abbrev shL (cd : List Int) (x : Int × St) : List Value := [.int .i64 x.1, .int .i64 (U.one cd x.1).op, .int .i64 (U.one cd x.1).d, .int .i64 (U.one cd x.1).s, .int .i64 (U.one cd x.1).imm, .int .i64 (x.2.r 0), .int .i64 (x.2.r 1), .int .i64 (x.2.r 2), .int .i64 (x.2.r 3), .int .i64 (x.2.r 4), .int .i64 (x.2.r 5), .int .i64 (x.2.r 6), .int .i64 (x.2.r 7), .bool x.2.c, .bool x.2.z, .bool x.2.n, .bool x.2.v]
def shR (cd : List Int) (l : List (Int × St)) : List Value := l.flatMap (shL cd)
theorem shR_len (cd : List Int) (l : List (Int × St)) : (shR cd l).length = l.length * 17 := by
  induction l with
  | nil => rfl
  | cons i l ih => unfold shR at *; rw [List.flatMap_cons, List.length_append, ih]; simp; omega
theorem shR_append (cd : List Int) (a b : List (Int × St)) : shR cd (a ++ b) = shR cd a ++ shR cd b := by unfold shR; rw [List.flatMap_append]
theorem shR_one (cd : List Int) (l : List (Int × St)) : ∀ u ∈ shR cd l, u.oneCell' = true := by
  intro u hu
  unfold shR at hu
  obtain ⟨x, _, hx⟩ := List.mem_flatMap.1 hu
  simp only [List.mem_cons, List.not_mem_nil, or_false] at hx
  rcases hx with rfl | rfl | rfl | rfl | rfl | rfl | rfl | rfl | rfl | rfl | rfl | rfl | rfl | rfl | rfl | rfl | rfl <;> rfl
theorem blk_nth {w : World} {g : Nat} {t : TypeId} {cs : Array Value} (h : Blk w g t cs) (xs : List Value) (hx : cs = xs.toArray) (j : Nat) (u : Value) (hj : xs[j]? = some u) : w.cell? ((⟨g, 0, none⟩ : Addr).add j) = some u := by
  rw [addr_add, h.cell, hx, Nat.zero_add]; simpa using hj
/-- 'append(s, x)' to an own slice of steps. -/
theorem wpList_app_shot {wv : World} {ops : Array Oper} {rest : List Oper} {o : Oper} {a : Act} {Q : Exit → Act → World → Prop} (hgd : o.guard = none) (s x : Operand) (ho : o.op = .call { callee := .builtin .append, args := #[s, x], argTypes := #[70, 70] })
    (B : Nat) (lv : Value) (m : Nat) (cd : List Int) (l : List (Int × St)) (b : Nat) (y : Int × St) (cs : Array Value) (hs : a.eval s = lv) (hx : a.eval x = .slice (some ⟨b, 0, none⟩) 1 1) (hown : wv.ownsRow B 80 17 lv m (shR cd l)) (hb : Blk wv b 80 cs) (hcs : cs = (shR cd [y]).toArray) (hm : m + 1 ≤ 100000) (hB : B ≤ wv.heap.size)
    (h : ∀ a' c' w', w'.ownsRow B 80 17 (.slice a' (m + 1) c') (m + 1) (shR cd (l ++ [y])) → wv.grownBy w' lv.ownBlock → ((Value.slice a' (m + 1) c').ownBlock = lv.ownBlock ∨ (Value.slice a' (m + 1) c').ownBlock = some wv.heap.size) → wpList Try.prog ops Q rest (a.put o.dst (.slice a' (m + 1) c')) w') :
    wpList Try.prog ops Q (o :: rest) a wv := by
  obtain ⟨iI, hi, hz0, hz1, hz2⟩ := info_parts Try.infoShot
  refine wpList_append_own_at _ hgd s x 70 ho B 80 iI (.agg #[.int .i64 0, .int .i64 0, .int .i64 0, .int .i64 0, .int .i64 0, .int .i64 0, .int .i64 0, .int .i64 0, .int .i64 0, .int .i64 0, .int .i64 0, .int .i64 0, .int .i64 0, .bool false, .bool false, .bool false, .bool false]) 17 112 Try.underlying70 hi hz0 hz1 hz2 rfl (by decide) lv m (shR cd l) hs hown ⟨b, 0, none⟩ 1 1 (shR cd [y]) hx (by rw [shR_len]; rfl) (fun j u hj => blk_nth hb _ hcs j u hj) (shR_one _ _) (by unfold maxLen; omega) (by omega) hB ?_
  intro v' w' ho' hg' _ hat
  obtain ⟨a', c', hv, _⟩ := own_slice ho'
  subst hv
  rw [← shR_append] at ho'
  exact h a' c' w' ho' hg' hat
theorem bcell_at {w w1 : World} {p : Addr} {v : Value} (hb : Below w.heap.size w w1) (h : w.cell? p = some v) : w1.cell? p = some v := (hb.cell (p := p) (World.block_lt_of_cell? w p h)).trans h
abbrev pz (b : Nat) : Value := .pointer (some ⟨b, 0, none⟩)
set_option maxHeartbeats 4000000 in
theorem shot_none (a most op d s imm n : Int) (k : Nat) (la : Option Addr) (lc : Nat) (cv : Value) (mb bc bo bm : Nat) (w : World) (hc : w.cell? ⟨bc, 0, none⟩ = some cv)
    (C1 : Calls Try.prog 42 #[cv, .int .i64 a] w (OneR op d s imm n w)) (hn : ¬ 0 < n) :
    Calls Try.prog 55 #[.int .i64 a, pz mb, pz bc, pz bo, pz bm] w fun e w' => e = .returned (.tuple #[]) ∧ Below w.heap.size w w' := by
  have HC1 := Lib.hid C1
  clear C1
  go_enter Try.func55, Try.ntmps55
  go_wp2_with (first | (go_at_call 42; refine HC1.out.mono ?_; rintro e w1 ⟨rfl, hb1⟩; have HB1 := Lib.hid hb1; clear hb1))
  go_end0
  exact ⟨rfl, Ext.trans HB1.out (Ext.alloc (Below.refl _ _) _)⟩
set_option maxHeartbeats 4000000 in
theorem shot_full (a most op d s imm n : Int) (k : Nat) (la : Option Addr) (lc : Nat) (cv : Value) (mb bc bo bm : Nat) (w : World) (hc : w.cell? ⟨bc, 0, none⟩ = some cv) (hm : w.cell? ⟨bm, 0, none⟩ = some (.int .i64 most)) (ho : w.cell? ⟨bo, 0, none⟩ = some (.slice la k lc))
    (C1 : Calls Try.prog 42 #[cv, .int .i64 a] w (OneR op d s imm n w)) (hn : 0 < n) (hk : ¬ (k : Int) < most) (hk2 : k ≤ 10000) :
    Calls Try.prog 55 #[.int .i64 a, pz mb, pz bc, pz bo, pz bm] w fun e w' => e = .returned (.tuple #[]) ∧ Below w.heap.size w w' := by
  have HC1 := Lib.hid C1; have HM := Lib.hid hm; have HO := Lib.hid ho
  clear C1 hm ho
  go_enter Try.func55, Try.ntmps55
  go_wp2_with (first | (go_at_call 42; refine HC1.out.mono ?_; rintro e w1 ⟨rfl, hb1⟩; have HB1 := Lib.hid hb1; have km : w1.cell? ⟨bm, 0, none⟩ = some (.int .i64 most) := (bcell_at hb1 HM.out); have lm : bm < w1.heap.size := World.block_lt_of_cell? w1 ⟨bm, 0, none⟩ km; have ko : w1.cell? ⟨bo, 0, none⟩ = some (.slice la k lc) := (bcell_at hb1 HO.out); have lo : bo < w1.heap.size := World.block_lt_of_cell? w1 ⟨bo, 0, none⟩ ko; clear hb1))
  go_end0
  exact ⟨rfl, Ext.trans HB1.out (Ext.alloc (Below.refl _ _) _)⟩
set_option maxHeartbeats 16000000 in
theorem shot_more (a most : Int) (k B0 : Nat) (la : Option Addr) (lc : Nat) (cv : Value) (mb bc bo bm : Nat) (cd : List Int) (L : Lay) (st : St) (ov : Value) (l : List (Int × St)) (w : World) (hc : w.cell? ⟨bc, 0, none⟩ = some cv) (hm : w.cell? ⟨bm, 0, none⟩ = some (.int .i64 most))
    (ho : Blk w bo 70 #[.slice la k lc]) (hmb : Blk w mb 107 (cells L st ov)) (own : w.ownsRow B0 80 17 (.slice la k lc) k (shR cd l)) (hB : B0 ≤ w.heap.size)
    (C1 : Calls Try.prog 42 #[cv, .int .i64 a] w (OneR (U.one cd a).op (U.one cd a).d (U.one cd a).s (U.one cd a).imm (U.one cd a).n w)) (hn : 0 < (U.one cd a).n) (hk : (k : Int) < most) (hk2 : k < 10000) :
    Calls Try.prog 55 #[.int .i64 a, pz mb, pz bc, pz bo, pz bm] w fun e w' => e = .returned (.tuple #[]) ∧ ∃ a' c', Blk w' bo 70 #[.slice a' (k + 1) c'] ∧ w'.ownsRow B0 80 17 (.slice a' (k + 1) c') (k + 1) (shR cd (l ++ [(a, st)])) ∧
      ((Value.slice a' (k + 1) c').ownBlock = (Value.slice la k lc).ownBlock ∨ ∃ g, (Value.slice a' (k + 1) c').ownBlock = some g ∧ w.heap.size ≤ g) ∧ Bel w.heap.size (fun b => b = bo ∨ (Value.slice la k lc).ownBlock = some b) w w' := by
  have HC1 := Lib.hid C1; have HM := Lib.hid hm; have HO := Lib.hid ho; have HMB := Lib.hid hmb; have HOWN := Lib.hid own; have HB0 := Lib.hid hB; have HK2 := Lib.hid hk2
  have hkm : k ≤ 9223372036854775807 := (by omega)
  clear C1 hm ho hmb own hB hk2
  obtain ⟨X, hX⟩ : ∃ X, X = U.one cd a := ⟨_, rfl⟩
  rw [← hX] at HC1 hn
  have HX := Lib.hid hX
  clear hX
  go_enter Try.func55, Try.ntmps55
  go_wp2_with (first | (go_at_call 42; refine HC1.out.mono ?_; rintro e w1 ⟨rfl, hb1⟩; have HB1 := Lib.hid hb1; have km : w1.cell? ⟨bm, 0, none⟩ = some (.int .i64 most) := (bcell_at hb1 HM.out); have lm : bm < w1.heap.size := World.block_lt_of_cell? w1 ⟨bm, 0, none⟩ km; have ko : w1.cell? ⟨bo, 0, none⟩ = some (.slice la k lc) := (by rw [(HO.out.keep hb1).cell]; rfl); have lo : bo < w1.heap.size := World.block_lt_of_cell? w1 ⟨bo, 0, none⟩ ko; clear hb1))
  generalize hw4 : w1.alloc (Obj.cells #[.int .i64 X.op, .int .i64 X.d, .int .i64 X.s, .int .i64 X.imm] 43) = w4
  have HI4 := Lib.hid ((by rw [← hw4]; exact Blk.new w1 _ _ : Blk w4 w1.heap.size 43 #[.int .i64 X.op, .int .i64 X.d, .int .i64 X.s, .int .i64 X.imm]))
  have HB4 := Lib.hid ((by rw [← hw4]; exact Ext.trans HB1.out (Ext.alloc (Below.refl _ _) _) : Below w.heap.size w w4))
  clear hw4 km ko
  have HO4 := Lib.hid (HO.out.keep HB4.out); have HM4 := Lib.hid (HMB.out.keep HB4.out); have HW4 := Lib.hid (ownsRow_below HOWN.out HB4.out)
  apply Ix.wp_region 13 (fun wi => Hid (Below w4.heap.size w4 wi)) (Ix.vk [(Ix.kis (.slice la k lc)), (Ix.kis (.int .i64 a)), (Ix.kis (.agg #[.int .i64 X.op, .int .i64 X.d, .int .i64 X.s, .int .i64 X.imm])), (Ix.kis (pz mb)), (Ix.kis (pz mb)), (Ix.kis (pz mb)), (Ix.kis (.agg #[.int .i64 (st.r 0), .int .i64 (st.r 1), .int .i64 (st.r 2), .int .i64 (st.r 3), .int .i64 (st.r 4), .int .i64 (st.r 5), .int .i64 (st.r 6), .int .i64 (st.r 7)])), (Ix.kis (pz mb)), (Ix.kis (pz mb)), (Ix.kis (.pointer (some ⟨mb, 8, none⟩))), (Ix.kis (.agg #[.bool st.c, .bool st.z, .bool st.n, .bool st.v])), (Ix.kis (.agg #[.int .i64 a, .int .i64 X.op, .int .i64 X.d, .int .i64 X.s, .int .i64 X.imm, .int .i64 (st.r 0), .int .i64 (st.r 1), .int .i64 (st.r 2), .int .i64 (st.r 3), .int .i64 (st.r 4), .int .i64 (st.r 5), .int .i64 (st.r 6), .int .i64 (st.r 7), .bool st.c, .bool st.z, .bool st.n, .bool st.v])), (Ix.kwld (fun v w' => ∃ g, v = Value.slice (some ⟨g, 0, none⟩) 1 1 ∧ w4.heap.size ≤ g ∧ Blk w' g 80 #[.int .i64 a, .int .i64 X.op, .int .i64 X.d, .int .i64 X.s, .int .i64 X.imm, .int .i64 (st.r 0), .int .i64 (st.r 1), .int .i64 (st.r 2), .int .i64 (st.r 3), .int .i64 (st.r 4), .int .i64 (st.r 5), .int .i64 (st.r 6), .int .i64 (st.r 7), .bool st.c, .bool st.z, .bool st.n, .bool st.v]) (fun v w1 w2 h hb => by obtain ⟨g, e, hl, hi⟩ := h; exact ⟨g, e, hl, hi.keep hb⟩))]) (fun _ => false) (by kernel_rfl) (by kernel_rfl) (by kernel_rfl) (fun _ _ h hb => Ext.trans h.out hb) (Ix.vk_keeps _) (Ix.not_al _) (Below.refl _ _)
  case step =>
    refine zyx 12 0 1 [] (fun wi HB => ?_) <| zyx 11 1 2 [] (fun wi HB => ?_) <| zyx 10 2 3 [] (fun wi HB => ?_) <| zyx 9 3 4 [] (fun wi HB => ?_) <| zyx 8 4 5 [(3, some 26)] (fun wi HB => ?_) <| zyx 7 5 6 [(4, some 27)] (fun wi HB => ?_) <| zyx 6 6 7 [(5, some 28)] (fun wi HB => ?_) <| zyx 5 7 8 [] (fun wi HB => ?_) <| zyx 4 8 9 [(7, some 30)] (fun wi HB => ?_) <| zyx 3 9 10 [(8, some 31)] (fun wi HB => ?_) <| zyx 2 10 11 [(9, some 32)] (fun wi HB => ?_) <| zyx 1 11 12 [(1, some 24), (2, some 25), (6, some 29), (10, some 33)] (fun wi HB => ?_) <| zyx 0 12 13 [(11, some 34)] (fun wi HB => ?_) <| Ix.steps_nil
    (· (have k4 : wi.cell? ⟨bo, 0, none⟩ = some (.slice la k lc) := (by rw [(HO4.out.keep HB.out).cell]; rfl); (repeat (refine zya ?_; rintro _ rfl)); refine zye ?_; (try simp only [zyp]); refine Ix.goI_yes rfl rfl fun K hK => ?_; (try simp only [zyp] at hK); go_wp2_with (first | fail); exact hK _ _ (Below.refl _ _) rfl))
    (· ((repeat (refine zya ?_; rintro _ rfl)); refine zye ?_; (try simp only [zyp]); refine Ix.goI_yes rfl rfl fun K hK => ?_; (try simp only [zyp] at hK); go_wp2_with (first | fail); exact hK _ _ (Below.refl _ _) rfl))
    (· (have k4 : wi.cell? ⟨bo, 0, none⟩ = some (.slice la k lc) := (by rw [(HO4.out.keep HB.out).cell]; rfl); (repeat (refine zya ?_; rintro _ rfl)); refine zye ?_; (try simp only [zyp]); refine Ix.goI_yes rfl rfl fun K hK => ?_; (try simp only [zyp] at hK); refine wp_load_row 43 _ rfl w1.heap.size rfl 43 #[.int .i64 X.op, .int .i64 X.d, .int .i64 X.s, .int .i64 X.imm] (0, 0) _ (HI4.out.keep HB.out) Try.underlying43 rfl (by kernel_rfl) ?_; exact hK _ _ (Below.refl _ _) rfl))
    iterate 3 (· ((repeat (refine zya ?_; rintro _ rfl)); refine zye ?_; (try simp only [zyp]); refine Ix.goI_yes rfl rfl fun K hK => ?_; (try simp only [zyp] at hK); go_wp2_with (first | fail); exact hK _ _ (Below.refl _ _) rfl))
    (· (have k4 : wi.cell? ⟨bo, 0, none⟩ = some (.slice la k lc) := (by rw [(HO4.out.keep HB.out).cell]; rfl); (repeat (refine zya ?_; rintro _ rfl)); refine zye ?_; (try simp only [zyp]); refine Ix.goI_yes rfl rfl fun K hK => ?_; (try simp only [zyp] at hK); refine wp_load_sub 23 _ rfl mb 0 rfl 107 (cells L st ov) [.int .i64 (st.r 0), .int .i64 (st.r 1), .int .i64 (st.r 2), .int .i64 (st.r 3), .int .i64 (st.r 4), .int .i64 (st.r 5), .int .i64 (st.r 6), .int .i64 (st.r 7)] _ (HM4.out.keep HB.out) rfl Try.underlying23 rfl (by kernel_rfl) ?_; exact hK _ _ (Below.refl _ _) rfl))
    iterate 3 (· ((repeat (refine zya ?_; rintro _ rfl)); refine zye ?_; (try simp only [zyp]); refine Ix.goI_yes rfl rfl fun K hK => ?_; (try simp only [zyp] at hK); go_wp2_with (first | fail); exact hK _ _ (Below.refl _ _) rfl))
    (· (have k4 : wi.cell? ⟨bo, 0, none⟩ = some (.slice la k lc) := (by rw [(HO4.out.keep HB.out).cell]; rfl); (repeat (refine zya ?_; rintro _ rfl)); refine zye ?_; (try simp only [zyp]); refine Ix.goI_yes rfl rfl fun K hK => ?_; (try simp only [zyp] at hK); refine wp_load_sub 25 _ rfl mb 8 rfl 107 (cells L st ov) [.bool st.c, .bool st.z, .bool st.n, .bool st.v] _ (HM4.out.keep HB.out) rfl Try.underlying25 rfl (by kernel_rfl) ?_; exact hK _ _ (Below.refl _ _) rfl))
    (· ((repeat (refine zya ?_; rintro _ rfl)); refine zye ?_; (try simp only [zyp]); refine Ix.goI_yes rfl rfl fun K hK => ?_; (try simp only [zyp] at hK); go_wp2_with (first | fail); exact hK _ _ (Below.refl _ _) rfl))
    (· (have k4 : wi.cell? ⟨bo, 0, none⟩ = some (.slice la k lc) := (by rw [(HO4.out.keep HB.out).cell]; rfl); (repeat (refine zya ?_; rintro _ rfl)); refine zye ?_; (try simp only [zyp]); refine Ix.goI_yes rfl rfl fun K hK => ?_; (try simp only [zyp] at hK); go_wp2_with (first | fail); exact hK _ _ (Ext.alloc (Below.refl _ _) _) ⟨_, rfl, HB.out.size, Blk.new _ _ _⟩))
  intro vsf wf HF hdf
  refine zyv 12 0 1 ?_; rintro _ _ rfl; refine zyv 11 1 2 ?_; rintro _ _ rfl; refine zyv 10 2 3 ?_; rintro _ _ rfl; refine zyv 9 3 4 ?_; rintro _ _ rfl; refine zyv 8 4 5 ?_; rintro _ _ rfl; refine zyv 7 5 6 ?_; rintro _ _ rfl; refine zyv 6 6 7 ?_; rintro _ _ rfl; refine zyv 5 7 8 ?_; rintro _ _ rfl; refine zyv 4 8 9 ?_; rintro _ _ rfl; refine zyv 3 9 10 ?_; rintro _ _ rfl; refine zyv 2 10 11 ?_; rintro _ _ rfl; refine zyv 1 11 12 ?_; rintro _ _ rfl; refine zyv 0 12 13 ?_; rintro _ _ ⟨gN, rfl, hgl, hgb⟩
  refine Ix.allV_nil ?_
  have HNB := Lib.hid hgb; have HWF := Lib.hid (ownsRow_below HW4.out HF.out); have HOF := Lib.hid (HO4.out.keep HF.out); have HBF := Lib.hid (Ext.trans HB4.out HF.out); have HBS := Lib.hid (Nat.le_trans HB0.out HBF.out.size); have HK3 := Lib.hid ((by have := HK2.out; omega : k + 1 ≤ 100000)); have HCS := Lib.hid ((by unfold shR; rw [HX.out]; rfl : #[.int .i64 a, .int .i64 X.op, .int .i64 X.d, .int .i64 X.s, .int .i64 X.imm, .int .i64 (st.r 0), .int .i64 (st.r 1), .int .i64 (st.r 2), .int .i64 (st.r 3), .int .i64 (st.r 4), .int .i64 (st.r 5), .int .i64 (st.r 6), .int .i64 (st.r 7), .bool st.c, .bool st.z, .bool st.n, .bool st.v] = (shR cd [(a, st)]).toArray)); clear hgb
  (try simp only [Act.put, List.setIfInBounds_toArray, List.set_cons_zero, List.set_cons_succ, List.drop_succ_cons, List.drop_zero])
  go_wp2_with (first | (at_builtin; refine wpList_app_shot rfl _ _ rfl B0 (.slice la k lc) k cd l gN (a, st) #[.int .i64 a, .int .i64 X.op, .int .i64 X.d, .int .i64 X.s, .int .i64 X.imm, .int .i64 (st.r 0), .int .i64 (st.r 1), .int .i64 (st.r 2), .int .i64 (st.r 3), .int .i64 (st.r 4), .int .i64 (st.r 5), .int .i64 (st.r 6), .int .i64 (st.r 7), .bool st.c, .bool st.z, .bool st.n, .bool st.v] rfl rfl HWF.out HNB.out HCS.out HK3.out HBS.out ?_; intro a5 c5 w5 ho5 hg5 hat5; have HO5 := Lib.hid ho5; have HG5 := Lib.hid hg5; have HAT := Lib.hid hat5; have HC5 := Lib.hid (HOF.out.grown hg5 (own_ne HWF.out HOF.out (by decide))); have kk5 : w5.cell? ⟨bo, 0, none⟩ = some (.slice la k lc) := (by rw [HC5.out.cell]; rfl); have kf5 : w5.frozen? ⟨bo, 0, none⟩ = false := HC5.out.frozen 0; clear ho5 hg5 hat5))
  refine Ix.only ?_
  have hbl : ∀ b, b < w.heap.size → ¬ (b = bo ∨ (Value.slice la k lc).ownBlock = some b) → (w5.setCell ⟨bo, 0, none⟩ (.slice a5 (k + 1) c5)).heap[b]? = w.heap[b]? := fun b hb hn => (Below.heap_setCell w5 ⟨bo, 0, none⟩ _ b (fun e => hn (.inl e))).trans ((HG5.out.block b (Nat.lt_of_lt_of_le hb HBF.out.size) (fun e => hn (.inr e.symm))).trans (HBF.out.block b hb))
  have HN5 : Hid ((Value.slice a5 (k + 1) c5).ownBlock ≠ some bo) := fun e => by
    rcases HAT.out with h | h
    · rw [h] at e; exact own_ne HWF.out HOF.out (by decide) e.symm
    · rw [h] at e; injection e with e; have := HOF.out.lt; omega
  go_end0
  refine ⟨rfl, a5, c5, HC5.out.set_ 0 _, own_elsewhere2 HO5.out HN5.out _, ?_, ⟨HG5.out.os.trans HBF.out.os, HG5.out.tape.trans HBF.out.tape, HG5.out.output.trans HBF.out.output, by have := HG5.out.size; have := HBF.out.size; simp; omega, hbl⟩⟩
  rcases HAT.out with h | h
  · exact .inl h
  · exact .inr ⟨_, h, HBF.out.size⟩
end Go.Proofs.Ytfjgnhmmakeaeaa
