/- Walk of law ProbeLooks. -/
import Derived.Test.YtfjgnhmmakeaeaaE68
import Derived.Test.YtfjgnhmmakeaeaaE38
import Derived.BigQuiet
namespace Go.Proofs.Ytfjgnhmmakeaeaa
open Go.RowKit
set_option linter.unusedVariables false
set_option linter.unusedSimpArgs false
set_option maxRecDepth 100000
open Mc
namespace Mc
theorem trL_wd (cd inp : List Int) (nI : Nat) (hn : inp.length = nI) (hby : ∀ x ∈ inp, 0 ≤ x ∧ x < 256) : ∀ (n : Nat) (s : St), Fine nI s → ∀ x ∈ trL cd inp n s, Wd x.1
  | 0, s, h, x, hx => by cases hx
  | n + 1, s, h, x, hx => by
    unfold trL at hx
    split at hx
    · rcases List.mem_cons.1 hx with rfl | hx
      · exact h.1.2.1
      · split at hx
        · exact trL_wd cd inp nI hn hby n _ (tick_fine hn hby s h) x hx
        · cases hx
    · cases hx
end Mc
theorem shR_at (cd : List Int) : ∀ (l : List (Int × St)) (k : Nat) (x : Int × St), l[k]? = some x → ((shR cd l).drop (k * 17)).take 17 = shL cd x
  | [], k, x, h => by cases h
  | y :: l, 0, x, h => by
    simp at h; subst h
    show ((shL cd y ++ shR cd l).drop (0 * 17)).take 17 = _
    rw [Nat.zero_mul, List.drop_zero, List.take_append_of_le_length (by simp)]; rfl
  | y :: l, k + 1, x, h => by
    rw [List.getElem?_cons_succ] at h
    show ((shL cd y ++ shR cd l).drop ((k + 1) * 17)).take 17 = _
    rw [show (k + 1) * 17 = 17 + k * 17 by omega, ← List.drop_drop, List.drop_append_of_le_length (by simp)]
    have : (shL cd y).drop 17 = [] := rfl
    rw [this, List.nil_append]
    exact shR_at cd l k x h
theorem wpList_load_rowG {P : Program} {ops : Array Oper} {rest : List Oper} {o : Oper} {a : Act} {w : World} {Q : Exit → Act → World → Prop} (hw : Region.wanted o (yielded ops a.tmps) = true) (ty : TypeId) (x : Operand) (ho : o.op = .load ty x)
    (g : Nat) (hx : a.eval x = .pointer (some ⟨g, 0, none⟩)) (t : TypeId) (cs : Array Value) (fr : Nat × Nat) (d : TypeDesc) (hg : w.heap[g]? = some (.cells cs t fr))
    (hu : P.underlying ty = some d) (hd : (match d with | .struct _ | .array _ _ => true | _ => false) = true) (hi : (P.info? ty).map (·.size) = some cs.size)
    (h : wpList P ops Q rest (a.put o.dst (.agg cs)) w) : wpList P ops Q (o :: rest) a w :=
  wpList_step fun K hK => by rw [if_pos hw]; exact wp_load_row ty x ho g hx t cs fr d hg hu hd hi (hK _ _ h)
theorem wpList_load_subG {P : Program} {ops : Array Oper} {rest : List Oper} {o : Oper} {a : Act} {w : World} {Q : Exit → Act → World → Prop} (hw : Region.wanted o (yielded ops a.tmps) = true) (ty : TypeId) (x : Operand) (ho : o.op = .load ty x)
    (g k : Nat) (hx : a.eval x = .pointer (some ⟨g, k, none⟩)) (t : TypeId) (cs : Array Value) (vs : List Value) (d : TypeDesc) (hg : Blk w g t cs) (hvs : (cs.toList.drop k).take vs.length = vs)
    (hu : P.underlying ty = some d) (hd : (match d with | .struct _ | .array _ _ => true | _ => false) = true) (hi : (P.info? ty).map (·.size) = some vs.length)
    (h : wpList P ops Q rest (a.put o.dst (.agg vs.toArray)) w) : wpList P ops Q (o :: rest) a w :=
  wpList_step fun K hK => by rw [if_pos hw]; exact wp_load_sub ty x ho g k hx t cs vs d hg hvs hu hd hi (hK _ _ h)
theorem shR_cell (cd : List Int) (l : List (Int × St)) (k : Nat) (x : Int × St) (h : l[k]? = some x) : (shR cd l)[k * 17]? = some (.int .i64 x.1) := by
  have h1 := congrArg (fun l => l[0]?) (shR_at cd l k x h)
  simp only [List.getElem?_take, List.getElem?_drop] at h1
  rw [if_pos (by omega)] at h1
  exact h1
theorem eq_ins (a0 a1 a2 a3 : Int) (w : World) : (Op.equalIn 10000 43 (.agg #[.int .i64 a0, .int .i64 a1, .int .i64 a2, .int .i64 a3]) (.agg #[.int .i64 a0, .int .i64 a1, .int .i64 a2, .int .i64 a3])).run Try.prog w = .ok true w := by
  obtain ⟨i, hi, hz0, hz1, hz2⟩ := info_parts Try.infoI64
  have u3 := Try.underlying3
  have hag : ∀ w, (isAgg 3).run Try.prog w = .ok false w := fun w => by unfold isAgg; rw [Sem.run_bind, run_underlying u3 w]; rfl
  have hsz : ∀ w, (sizeOf 3).run Try.prog w = .ok 1 w := fun w => by simp [sizeOf, typeInfo, hi, hz1]
  have hS : Try.prog.underlying 43 = some (.struct (Try.prog.fieldsOf 43)) := by kernel_rfl
  have hp : Try.prog.stoodInHeld 43 = false := by kernel_rfl
  rw [show (10000 : Nat) = 9999 + 1 from rfl, run_equalIn_agg w 9999 43 _ _ hS hp]
  simp only [Program.fieldsOf, Try.underlying43]
  go_simp
theorem own_rowB {w : World} {B e s n : Nat} {v : Value} {xs : List Value} (h : w.ownsRow B e s v n xs) (hn : 0 < n) : ∃ g cap cur, v = .slice (some ⟨g, 0, none⟩) n cap ∧ Blk w g e cur ∧ n ≤ cap ∧ cur.toList.take (n * s) = xs := by
  rcases h.2 with ⟨rfl, hz⟩ | ⟨g, cap, cur, rfl, hbg, hg, hnc, hcm, hcs, htake⟩
  · omega
  · exact ⟨g, cap, cur, rfl, hg, hnc, htake⟩
theorem row_sub {cur xs : List Value} {m k : Nat} (h : cur.take m = xs) (hk : k + 17 ≤ m) : (cur.drop k).take 17 = (xs.drop k).take 17 := by
  rw [← h, List.drop_take, List.take_take, Nat.min_eq_left (by omega)]
theorem row_cell {w : World} {g m j : Nat} {t : TypeId} {cur : Array Value} {xs : List Value} {u : Value} (hb : Blk w g t cur) (h : cur.toList.take m = xs) (hu : xs[j]? = some u) : w.cell? ⟨g, j, none⟩ = some u := by
  rw [hb.cell, ← Array.getElem?_toList]
  rw [← h, List.getElem?_take] at hu
  split at hu
  · exact hu
  · cases hu
theorem shL_one (cd : List Int) (x : Int × St) : (shL cd x).toArray.all (·.oneCell') = true := by simp [Value.oneCell']
abbrev shZ : Array Value := #[.int .i64 0, .int .i64 0, .int .i64 0, .int .i64 0, .int .i64 0, .int .i64 0, .int .i64 0, .int .i64 0, .int .i64 0, .int .i64 0, .int .i64 0, .int .i64 0, .int .i64 0, .bool false, .bool false, .bool false, .bool false]
set_option maxHeartbeats 16000000 in
theorem looks_at (ca ia ma : Option Addr) (nC cc nI ic mn mc NO NX NG : Nat) (r0 r1 r2 r3 r4 r5 r6 r7 pc fuel most : Int) (c z n v : Bool) (cd : List Int) (F : St) (G : List (Int × St)) (w : World) (hmo : most ≤ 10000) (hNG : G.length = NG) (hg1 : (NG : Int) ≤ most) (hg2 : (NG : Int) ≤ F.steps) (hst : F.steps ≤ 1000000) (hnC : nC ≤ 70000)
    (hrun : ∀ k x, G[k]? = some x → 0 < (U.one cd x.1).n ∧ ∀ y, G[k + 1]? = some y → ((U.one cd x.1).op < 19 ∨ 27 < (U.one cd x.1).op) → y.1 = (x.1 + (U.one cd x.1).n) % 65536) (hwd : ∀ x ∈ G, Wd x.1) (hfst : ∀ x, G[0]? = some x → x.1 = pc) (hcv : Rd w 1 (.slice ca nC cc) nC (cd.map (Value.int .i64)))
    (CT : ∀ w1 : World, Below w.heap.size w w1 → Calls Try.prog 36 #[.slice ca nC cc, stV r0 r1 r2 r3 r4 r5 r6 r7 c z n v pc (.slice ma mn mc), .slice ia nI ic, .int .i64 fuel, .int .i64 most] w1 fun e w' => ∃ ls lc oa oc xa xc, e = .returned (.tuple #[.slice ls NG lc, ranV F (.slice oa NO oc) (.slice xa NX xc), .int .i64 0]) ∧ Rd w' 1 (.slice oa NO oc) NO (F.out.map (Value.int .u8)) ∧ Rd w' 1 (.slice xa NX xc) NX ((left F.mem).map (Value.int .i64)) ∧ w'.ownsRow w1.heap.size 80 17 (.slice ls NG lc) NG (shR cd G) ∧ Below w1.heap.size w1 w')
    (CR : ∀ w1 : World, Below w.heap.size w w1 → Calls Try.prog 15 #[.slice ca nC cc, stV r0 r1 r2 r3 r4 r5 r6 r7 c z n v pc (.slice ma mn mc), .slice ia nI ic, .int .i64 fuel] w1 fun e w' => ∃ oa oc xa xc, e = .returned (.tuple #[ranV F (.slice oa NO oc) (.slice xa NX xc), .int .i64 0]) ∧ Rd w' 1 (.slice oa NO oc) NO (F.out.map (Value.int .u8)) ∧ Rd w' 1 (.slice xa NX xc) NX ((left F.mem).map (Value.int .i64)) ∧ Below w1.heap.size w1 w')
    (CS : ∀ (w1 : World) (o1 o2 m1 m2 : Value), Rd w1 1 o1 NO (F.out.map (Value.int .u8)) → Rd w1 1 o2 NO (F.out.map (Value.int .u8)) → Rd w1 1 m1 NX ((left F.mem).map (Value.int .i64)) → Rd w1 1 m2 NX ((left F.mem).map (Value.int .i64)) → Calls Try.prog 19 #[ranV F o1 m1, ranV F o2 m2] w1 fun e w' => e = .returned (.bool true) ∧ Below w1.heap.size w1 w') :
    Calls Try.prog 12 #[.slice ca nC cc, stV r0 r1 r2 r3 r4 r5 r6 r7 c z n v pc (.slice ma mn mc), .slice ia nI ic, .int .i64 fuel, .int .i64 most] w fun e w' => e = .returned (.bool true) ∧ Below w.heap.size w w' := by
  have HCT := Lib.hid CT; have HCR := Lib.hid CR; have HCS := Lib.hid CS; have HRUN := Lib.hid hrun; have HWD := Lib.hid hwd; have HFST := Lib.hid hfst; have HCV := Lib.hid hcv; have HNG := Lib.hid hNG; have HNC := Lib.hid hnC
  have hg1' : ¬ most < (NG : Int) := (by omega)
  have hg2' : ¬ F.steps < (NG : Int) := (by omega)
  have hng : NG ≤ 10000 := (by omega)
  clear CT CR CS hrun hwd hfst hcv hNG hnC
  go_enter Try.func12, Try.ntmps12
  go_wp2_with (first | (go_at_call 41; refine (alive16 _).mono ?_; rintro e w1 ⟨rfl, hb1⟩; have HB1 := Lib.hid (Ext.trans (Ext.alloc (Below.refl w.heap.size w) _) hb1); have HS1 := Lib.hid ((Blk.new w 27 (stC r0 r1 r2 r3 r4 r5 r6 r7 c z n v pc (.slice ma mn mc))).keep hb1); clear hb1) | (refine wpList_load_row rfl 27 _ rfl w.heap.size rfl 27 (stC r0 r1 r2 r3 r4 r5 r6 r7 c z n v pc (.slice ma mn mc)) (0, 0) _ HS1.out Try.underlying27 rfl (by kernel_rfl) ?_) | (go_at_call 36; refine (HCT.out _ HB1.out).mono ?_; rintro e w2 ⟨ls, lc, oa, oc, xa, xc, rfl, ho2, hm2, hl2, hb2⟩; have HB2 := Lib.hid (Ext.trans HB1.out hb2); have HO2 := Lib.hid ho2; have HM2 := Lib.hid hm2; have HL2 := Lib.hid hl2; have HS2 := Lib.hid (HS1.out.keep hb2); clear hb2 ho2 hm2 hl2) | (refine wpList_store_row rfl 30 _ _ rfl w2.heap.size (ranL F (.slice oa NO oc) (.slice xa NX xc)).toArray rfl rfl 30 ranZc (Blk.new _ _ _) (by kernel_rfl) rfl (ranL_one _ _ _ _ _ _ _) ?_; generalize hw3 : (w2.alloc (Obj.cells ranZc 30)).setRow w2.heap.size (ranL F (.slice oa NO oc) (.slice xa NX xc)).toArray = w3; have HB23 := Lib.hid ((by rw [← hw3]; exact Below.row (Ext.alloc (Below.refl _ _) _) (Nat.le_refl _) _ : Below w2.heap.size w2 w3)); have HA3 := Lib.hid ((by rw [← hw3]; exact (Blk.new w2 _ _).row _ : Blk w3 w2.heap.size 30 (ranL F (.slice oa NO oc) (.slice xa NX xc)).toArray)); have HS3 := Lib.hid (HS2.out.keep HB23.out); clear hw3) | (refine wpList_load_row rfl 27 _ rfl w.heap.size rfl 27 (stC r0 r1 r2 r3 r4 r5 r6 r7 c z n v pc (.slice ma mn mc)) (0, 0) _ HS3.out Try.underlying27 rfl (by kernel_rfl) ?_) | (go_at_call 15; refine (HCR.out _ (Ext.trans HB2.out HB23.out)).mono ?_; rintro e w4 ⟨ob, oc4, xb, xc4, rfl, ho4, hm4, hb4⟩; have HB34 := Lib.hid hb4; have HO4 := Lib.hid ho4; have HM4 := Lib.hid hm4; have HA4 := Lib.hid (HA3.out.keep hb4); have HS4 := Lib.hid (HS3.out.keep hb4); have hq4 : w2.heap.size < w4.heap.size := (Nat.lt_of_lt_of_le HA3.out.lt hb4.size); clear hb4 ho4 hm4) | (refine wpList_store_row rfl 30 _ _ rfl w4.heap.size (ranL F (.slice ob NO oc4) (.slice xb NX xc4)).toArray rfl rfl 30 ranZc (Blk.new _ _ _) (by kernel_rfl) rfl (ranL_one _ _ _ _ _ _ _) ?_; generalize hw5 : (w4.alloc (Obj.cells ranZc 30)).setRow w4.heap.size (ranL F (.slice ob NO oc4) (.slice xb NX xc4)).toArray = w5; have HB45 := Lib.hid ((by rw [← hw5]; exact Below.row (Ext.alloc (Below.refl _ _) _) (Nat.le_refl _) _ : Below w4.heap.size w4 w5)); have HA5 := Lib.hid (HA4.out.keep HB45.out); have HX5 := Lib.hid ((by rw [← hw5]; exact (Blk.new w4 _ _).row _ : Blk w5 w4.heap.size 30 (ranL F (.slice ob NO oc4) (.slice xb NX xc4)).toArray)); clear hw5; have p4 : w5.cell? ⟨w2.heap.size, 4, none⟩ = some (.int .i64 F.steps) := ran_cell HA5.out 4 rfl) | (refine wpList_load_rowG rfl 30 _ rfl w2.heap.size rfl 30 (ranL F (.slice oa NO oc) (.slice xa NX xc)).toArray (0, 0) _ HA5.out Try.underlying30 rfl (by kernel_rfl) ?_) | (refine wpList_load_rowG rfl 30 _ rfl w4.heap.size rfl 30 (ranL F (.slice ob NO oc4) (.slice xb NX xc4)).toArray (0, 0) _ HX5.out Try.underlying30 rfl (by kernel_rfl) ?_) | (go_at_call 19; refine (HCS.out _ _ _ _ _ (HO2.out.below (Ext.trans HB23.out (Ext.trans HB34.out HB45.out))) (HO4.out.below HB45.out) (HM2.out.below (Ext.trans HB23.out (Ext.trans HB34.out HB45.out))) (HM4.out.below HB45.out)).mono ?_; rintro e w6 ⟨rfl, hb6⟩; have HB56 := Lib.hid hb6; have p4' : w6.cell? ⟨w2.heap.size, 4, none⟩ = some (.int .i64 F.steps) := ran_cell (HA5.out.keep hb6) 4 rfl; clear hb6))
  have HB6 : Hid (Below w.heap.size w w6) := Ext.trans (Ext.trans (Ext.trans HB2.out HB23.out) (Ext.trans HB34.out HB45.out)) HB56.out
  have HB26 : Hid (Below w2.heap.size w2 w6) := Ext.trans (Ext.trans HB23.out (Ext.trans HB34.out HB45.out)) HB56.out
  have HL6 := Lib.hid (ownsRow_below HL2.out HB26.out)
  have HS6 := Lib.hid (HS2.out.keep HB26.out)
  have HC6 := Lib.hid (HCV.out.below HB6.out)
  clear HB1 HB2 HB23 HB34 HB45 HB56 HB26 HL2 HS1 HS2 HS3 HS4 HO2 HM2 HO4 HM4 HA3 HA4 HA5 HX5 p4 p4' hq4 HCT HCR HCS HCV hg1' hg2' hg1 hg2
  go_loopw [15, 16, 17, 18, 64] (fun _ _ _ _ i wr => ∃ k : Nat, k ≤ NG ∧ i = .int .i64 (k : Int) ∧ Hid (Below w6.heap.size w6 wr)) (fun _ _ _ _ i _ => NG - (intOf i).toNat)
  case atStart => exact ⟨0, Nat.zero_le _, rfl, Below.refl _ _⟩
  case round =>
    obtain ⟨k, hk, rfl, hbw⟩ := hrel
    by_cases hlt : k < NG
    · obtain ⟨gL, cL, cur, hlv, hbL, hcL, htk⟩ := own_rowB (ownsRow_below HL6.out hbw.out) (by omega : 0 < NG)
      injection hlv with hl1 hl2 hl3
      subst hl1; subst hl3
      have HBL := Lib.hid hbL; have HTK := Lib.hid htk
      have HSr := Lib.hid (HS6.out.keep hbw.out); have HCr := Lib.hid (HC6.out.below hbw.out)
      have hglt : gL < wr.heap.size := hbL.lt
      clear hbL htk hl2
      obtain ⟨x, hx⟩ : ∃ x, G[k]? = some x := ⟨_, List.getElem?_eq_getElem (by have := HNG.out; omega)⟩
      have HSUB : Hid ((cur.toList.drop (k * 17)).take 17 = shL cd x) := (row_sub HTK.out (by omega)).trans (shR_at cd G k x hx)
      obtain ⟨hn0, hnext⟩ := HRUN.out k x hx
      have HNEXT := Lib.hid hnext
      obtain ⟨wd0, wd1⟩ := HWD.out x (List.mem_of_getElem? hx)
      have hfst : k = 0 → x.1 = pc := fun e => HFST.out x (by rw [← e]; exact hx)
      have HFS := Lib.hid hfst
      have CO := fun (w1 : World) (hb : Below wr.heap.size wr w1) => one_ok (.slice ca nC cc) nC cd HNC.out x.1 w1 (HCr.out.below hb)
      have HCO := Lib.hid CO
      have HX := Lib.hid hx
      clear hx hnext hfst CO
      obtain ⟨X, hX⟩ : ∃ X, X = U.one cd x.1 := ⟨_, rfl⟩
      obtain ⟨AT, hAT⟩ : ∃ AT, AT = x.1 := ⟨_, rfl⟩
      have HXE := Lib.hid hX; have HAT := Lib.hid hAT
      have x0 : 0 < X.n := by rw [hX]; exact hn0
      have x1 : X.n ≤ 2 := by rw [hX]; rcases (U.one_in cd x.1 (by omega)).2.2.2.1 with h | h <;> omega
      rw [← hAT] at wd0 wd1
      have q43 : ∀ w, (Op.equalIn 10000 43 (.agg #[.int .i64 X.op, .int .i64 X.d, .int .i64 X.s, .int .i64 X.imm]) (.agg #[.int .i64 X.op, .int .i64 X.d, .int .i64 X.s, .int .i64 X.imm])).run Try.prog w = .ok true w := fun w => eq_ins _ _ _ _ w
      have HSH : Hid (shL cd x = [.int .i64 AT, .int .i64 X.op, .int .i64 X.d, .int .i64 X.s, .int .i64 X.imm, .int .i64 (x.2.r 0), .int .i64 (x.2.r 1), .int .i64 (x.2.r 2), .int .i64 (x.2.r 3), .int .i64 (x.2.r 4), .int .i64 (x.2.r 5), .int .i64 (x.2.r 6), .int .i64 (x.2.r 7), .bool x.2.c, .bool x.2.z, .bool x.2.n, .bool x.2.v]) := by show _ = _; rw [hX, hAT]
      obtain ⟨SH, hSH⟩ : ∃ SH : List Value, SH = [.int .i64 AT, .int .i64 X.op, .int .i64 X.d, .int .i64 X.s, .int .i64 X.imm, .int .i64 (x.2.r 0), .int .i64 (x.2.r 1), .int .i64 (x.2.r 2), .int .i64 (x.2.r 3), .int .i64 (x.2.r 4), .int .i64 (x.2.r 5), .int .i64 (x.2.r 6), .int .i64 (x.2.r 7), .bool x.2.c, .bool x.2.z, .bool x.2.n, .bool x.2.v] := ⟨_, rfl⟩
      have HSHL := Lib.hid hSH
      have HSUB2 : Hid ((cur.toList.drop (k * 17)).take SH.length = SH) := by show _ = _; rw [hSH]; exact HSUB.out.trans HSH.out
      have HSZ : Hid ((Try.prog.info? 80).map (·.size) = some SH.length) := by show _ = _; rw [hSH]; kernel_rfl
      have HSZ2 : Hid ((Try.prog.info? 80).map (·.size) = some SH.toArray.size) := by show _ = _; rw [hSH]; kernel_rfl
      have HS17 : Hid (shZ.size = SH.toArray.size) := by show _ = _; rw [hSH]; rfl
      have HS1 : Hid (SH.toArray.all (·.oneCell') = true) := by show _ = _; rw [hSH]; simp [Value.oneCell']
      have HCO2 : Hid (∀ w1, Below wr.heap.size wr w1 → Calls Try.prog 42 #[.slice ca nC cc, .int .i64 AT] w1 (OneR X.op X.d X.s X.imm X.n w1)) := by intro w1 hb; rw [hX, hAT]; exact HCO.out w1 hb
      clear hX hAT hSH HSUB HSH HCO
      by_cases hk0 : k = 0
      · have e1 : ((k : Int) == 0) = true := by rw [hk0]; rfl
        have e2 : (AT != pc) = false := by rw [HAT.out, HFS.out hk0]; simp
        clear hk0
        go_wp2_with (first | (refine wpList_load_sub rfl 80 _ rfl gL (k * 17) rfl 80 cur SH _ HBL.out HSUB2.out Try.underlying80 rfl HSZ.out ?_) | (refine wpList_store_row rfl 80 _ _ rfl wr.heap.size SH.toArray rfl rfl 80 shZ (Blk.new _ _ _) HSZ2.out HS17.out HS1.out ?_; generalize hwa : (wr.alloc (Obj.cells shZ 80)).setRow wr.heap.size SH.toArray = wa; have HXA := Lib.hid ((by rw [← hwa]; exact (Blk.new wr _ _).row _ : Blk wa wr.heap.size 80 SH.toArray)); have HBA := Lib.hid ((by rw [← hwa]; exact Below.row (Ext.alloc (Below.refl _ _) _) (Nat.le_refl _) _ : Below wr.heap.size wr wa)); clear hwa; have c0 : wa.cell? ⟨wr.heap.size, 0, none⟩ = some (.int .i64 AT) := (by rw [HXA.out.cell, HSHL.out]; rfl)) | (go_at_call 42; refine (HCO2.out _ HBA.out).mono ?_; rintro e wb ⟨rfl, hbb⟩; have HXB := Lib.hid (HXA.out.keep hbb); have HBB := Lib.hid (Ext.trans HBA.out hbb); have HSB := Lib.hid (HSr.out.keep (Ext.trans HBA.out hbb)); have lb : wr.heap.size < wb.heap.size := HXB.out.lt; have lw : w.heap.size < wb.heap.size := HSB.out.lt; have k12 : wb.cell? ⟨w.heap.size, 12, none⟩ = some (.int .i64 pc) := (by rw [HSB.out.cell]; rfl); have k0 : wb.cell? ⟨wr.heap.size, 0, none⟩ = some (.int .i64 AT) := (by rw [HXB.out.cell, HSHL.out]; rfl); have k1 : wb.cell? ⟨wr.heap.size, 1, none⟩ = some (.int .i64 X.op) := (by rw [HXB.out.cell, HSHL.out]; rfl); have k2 : wb.cell? ⟨wr.heap.size, 2, none⟩ = some (.int .i64 X.d) := (by rw [HXB.out.cell, HSHL.out]; rfl); have k3 : wb.cell? ⟨wr.heap.size, 3, none⟩ = some (.int .i64 X.s) := (by rw [HXB.out.cell, HSHL.out]; rfl); have k4 : wb.cell? ⟨wr.heap.size, 4, none⟩ = some (.int .i64 X.imm) := (by rw [HXB.out.cell, HSHL.out]; rfl); clear hbb) | (refine wpList_load_rowG rfl 43 _ rfl wb.heap.size rfl 43 #[.int .i64 X.op, .int .i64 X.d, .int .i64 X.s, .int .i64 X.imm] (0, 0) _ (Blk.new _ _ _) Try.underlying43 rfl (by kernel_rfl) ?_))
        generalize hwc : wb.alloc (Obj.cells #[.int .i64 X.op, .int .i64 X.d, .int .i64 X.s, .int .i64 X.imm] 43) = wc
        have HBC := Lib.hid ((by rw [← hwc]; exact Ext.alloc (Below.refl _ _) _ : Below wb.heap.size wb wc))
        have m0 := bcell_at HBC.out k0; have m1 := bcell_at HBC.out k1
        have HBW : Hid (Below w6.heap.size w6 wc) := Ext.trans hbw.out (Ext.trans HBB.out HBC.out)
        have HBLC := Lib.hid (HBL.out.keep (Ext.trans HBB.out HBC.out))
        clear hwc k0 k1 k2 k3 k4 k12 lb lw c0 q43 HSB HXB HXA HBA HBB
        by_cases hk1 : k + 1 < NG
        · have d1 : decide ((k : Int) + 1 < (NG : Int)) = true := decide_eq_true (by omega)
          obtain ⟨y, hy⟩ : ∃ y, G[k + 1]? = some y := ⟨_, List.getElem?_eq_getElem (by have := HNG.out; omega)⟩
          have my : wc.cell? ⟨gL, (k + 1) * 17, none⟩ = some (.int .i64 y.1) := row_cell HBLC.out HTK.out (shR_cell cd G (k + 1) y hy)
          have HYN : Hid ((X.op < 19 ∨ 27 < X.op) → y.1 = (AT + X.n) % 65536) := by intro h; rw [HXE.out, HAT.out]; exact HNEXT.out y hy (by rw [HXE.out] at h; exact h)
          clear hy
          obtain ⟨Y, hY⟩ : ∃ Y, Y = y.1 := ⟨_, rfl⟩
          rw [← hY] at my HYN
          clear hY
          by_cases h19 : X.op < 19
          · have d2 : decide (X.op < 19) = true := decide_eq_true h19
            have hyy := HYN.out (.inl h19)
            subst hyy
            clear h19 HYN
            go_quiet (fail)
            go_wp2
            go_roundw
            case rel => exact ⟨k + 1, by omega, by go_num, below_drewN HBW.out _⟩
            case measure => (simp [intOf]; try omega)
          · have d2 : decide (X.op < 19) = false := decide_eq_false h19
            by_cases h27 : 27 < X.op
            · have d3 : decide (27 < X.op) = true := decide_eq_true h27
              have hyy := HYN.out (.inr h27)
              subst hyy
              clear h19 h27 HYN
              go_quiet (fail)
              go_wp2
              go_roundw
              case rel => exact ⟨k + 1, by omega, by go_num, below_drewN HBW.out _⟩
              case measure => (simp [intOf]; try omega)
            · have d3 : decide (27 < X.op) = false := decide_eq_false h27
              clear h19 h27 HYN
              go_quiet (fail)
              go_wp2
              go_roundw
              case rel => exact ⟨k + 1, by omega, by go_num, below_drewN HBW.out _⟩
              case measure => (simp [intOf]; try omega)
        · have d1 : decide ((k : Int) + 1 < (NG : Int)) = false := decide_eq_false (by omega)
          go_quiet (fail)
          go_wp2
          go_roundw
          case rel => exact ⟨k + 1, by omega, by go_num, below_drewN HBW.out _⟩
          case measure => (simp [intOf]; try omega)
      · have e1 : ((k : Int) == 0) = false := by simpa using hk0
        clear hk0
        go_wp2_with (first | (refine wpList_load_sub rfl 80 _ rfl gL (k * 17) rfl 80 cur SH _ HBL.out HSUB2.out Try.underlying80 rfl HSZ.out ?_) | (refine wpList_store_row rfl 80 _ _ rfl wr.heap.size SH.toArray rfl rfl 80 shZ (Blk.new _ _ _) HSZ2.out HS17.out HS1.out ?_; generalize hwa : (wr.alloc (Obj.cells shZ 80)).setRow wr.heap.size SH.toArray = wa; have HXA := Lib.hid ((by rw [← hwa]; exact (Blk.new wr _ _).row _ : Blk wa wr.heap.size 80 SH.toArray)); have HBA := Lib.hid ((by rw [← hwa]; exact Below.row (Ext.alloc (Below.refl _ _) _) (Nat.le_refl _) _ : Below wr.heap.size wr wa)); clear hwa; have c0 : wa.cell? ⟨wr.heap.size, 0, none⟩ = some (.int .i64 AT) := (by rw [HXA.out.cell, HSHL.out]; rfl)) | (go_at_call 42; refine (HCO2.out _ HBA.out).mono ?_; rintro e wb ⟨rfl, hbb⟩; have HXB := Lib.hid (HXA.out.keep hbb); have HBB := Lib.hid (Ext.trans HBA.out hbb); have HSB := Lib.hid (HSr.out.keep (Ext.trans HBA.out hbb)); have lb : wr.heap.size < wb.heap.size := HXB.out.lt; have lw : w.heap.size < wb.heap.size := HSB.out.lt; have k12 : wb.cell? ⟨w.heap.size, 12, none⟩ = some (.int .i64 pc) := (by rw [HSB.out.cell]; rfl); have k0 : wb.cell? ⟨wr.heap.size, 0, none⟩ = some (.int .i64 AT) := (by rw [HXB.out.cell, HSHL.out]; rfl); have k1 : wb.cell? ⟨wr.heap.size, 1, none⟩ = some (.int .i64 X.op) := (by rw [HXB.out.cell, HSHL.out]; rfl); have k2 : wb.cell? ⟨wr.heap.size, 2, none⟩ = some (.int .i64 X.d) := (by rw [HXB.out.cell, HSHL.out]; rfl); have k3 : wb.cell? ⟨wr.heap.size, 3, none⟩ = some (.int .i64 X.s) := (by rw [HXB.out.cell, HSHL.out]; rfl); have k4 : wb.cell? ⟨wr.heap.size, 4, none⟩ = some (.int .i64 X.imm) := (by rw [HXB.out.cell, HSHL.out]; rfl); clear hbb) | (refine wpList_load_rowG rfl 43 _ rfl wb.heap.size rfl 43 #[.int .i64 X.op, .int .i64 X.d, .int .i64 X.s, .int .i64 X.imm] (0, 0) _ (Blk.new _ _ _) Try.underlying43 rfl (by kernel_rfl) ?_))
        generalize hwc : wb.alloc (Obj.cells #[.int .i64 X.op, .int .i64 X.d, .int .i64 X.s, .int .i64 X.imm] 43) = wc
        have HBC := Lib.hid ((by rw [← hwc]; exact Ext.alloc (Below.refl _ _) _ : Below wb.heap.size wb wc))
        have m0 := bcell_at HBC.out k0; have m1 := bcell_at HBC.out k1
        have HBW : Hid (Below w6.heap.size w6 wc) := Ext.trans hbw.out (Ext.trans HBB.out HBC.out)
        have HBLC := Lib.hid (HBL.out.keep (Ext.trans HBB.out HBC.out))
        clear hwc k0 k1 k2 k3 k4 k12 lb lw c0 q43 HSB HXB HXA HBA HBB
        by_cases hk1 : k + 1 < NG
        · have d1 : decide ((k : Int) + 1 < (NG : Int)) = true := decide_eq_true (by omega)
          obtain ⟨y, hy⟩ : ∃ y, G[k + 1]? = some y := ⟨_, List.getElem?_eq_getElem (by have := HNG.out; omega)⟩
          have my : wc.cell? ⟨gL, (k + 1) * 17, none⟩ = some (.int .i64 y.1) := row_cell HBLC.out HTK.out (shR_cell cd G (k + 1) y hy)
          have HYN : Hid ((X.op < 19 ∨ 27 < X.op) → y.1 = (AT + X.n) % 65536) := by intro h; rw [HXE.out, HAT.out]; exact HNEXT.out y hy (by rw [HXE.out] at h; exact h)
          clear hy
          obtain ⟨Y, hY⟩ : ∃ Y, Y = y.1 := ⟨_, rfl⟩
          rw [← hY] at my HYN
          clear hY
          by_cases h19 : X.op < 19
          · have d2 : decide (X.op < 19) = true := decide_eq_true h19
            have hyy := HYN.out (.inl h19)
            subst hyy
            clear h19 HYN
            go_quiet (fail)
            go_wp2
            go_roundw
            case rel => exact ⟨k + 1, by omega, by go_num, below_drewN HBW.out _⟩
            case measure => (simp [intOf]; try omega)
          · have d2 : decide (X.op < 19) = false := decide_eq_false h19
            by_cases h27 : 27 < X.op
            · have d3 : decide (27 < X.op) = true := decide_eq_true h27
              have hyy := HYN.out (.inr h27)
              subst hyy
              clear h19 h27 HYN
              go_quiet (fail)
              go_wp2
              go_roundw
              case rel => exact ⟨k + 1, by omega, by go_num, below_drewN HBW.out _⟩
              case measure => (simp [intOf]; try omega)
            · have d3 : decide (27 < X.op) = false := decide_eq_false h27
              clear h19 h27 HYN
              go_quiet (fail)
              go_wp2
              go_roundw
              case rel => exact ⟨k + 1, by omega, by go_num, below_drewN HBW.out _⟩
              case measure => (simp [intOf]; try omega)
        · have d1 : decide ((k : Int) + 1 < (NG : Int)) = false := decide_eq_false (by omega)
          go_quiet (fail)
          go_wp2
          go_roundw
          case rel => exact ⟨k + 1, by omega, by go_num, below_drewN HBW.out _⟩
          case measure => (simp [intOf]; try omega)
    · go_wp2
      go_ret
      exact ⟨rfl, Ext.trans HB6.out hbw.out⟩
end Go.Proofs.Ytfjgnhmmakeaeaa
