/- Walk of the law FoldKnown. No condition. -/
import Derived.Test.YtkmcniaaecijdaaX17
import Derived.Test.YtkmcniaaecijdaaX11
import Derived.LoopTactic
import Derived.Deep.Cut
namespace Go.Proofs.Ytkmcniaaecijdaa
open Go.RowKit
set_option linter.unusedVariables false
set_option linter.unusedSimpArgs false
set_option maxRecDepth 100000
namespace X
/-- '-1', as it stands in memory. -/
def one : X := .mk 1 1 16 true ⟨#[]⟩ []
def neg1 : X := .mk 6 0 0 false ⟨#[]⟩ [one]
theorem one_shp : Shp one := .mk _ _ _ _ _ _ (by decide) (fun x hx => by simp at hx)
theorem one_wf : Wf one := .mk _ _ _ _ _ _ ⟨by decide, by decide⟩ ⟨by decide, by decide⟩ ⟨by decide, by decide⟩ (Nat.zero_le _) (fun x hx => by simp at hx)
theorem neg1_shp : Shp neg1 := .mk _ _ _ _ _ _ (by decide) (fun x hx => by rw [List.mem_singleton] at hx; subst hx; exact one_shp)
theorem neg1_wf : Wf neg1 := .mk _ _ _ _ _ _ ⟨by decide, by decide⟩ ⟨by decide, by decide⟩ ⟨by decide, by decide⟩ (Nat.zero_le _) (fun x hx => by rw [List.mem_singleton] at hx; subst hx; exact one_wf)
theorem neg1_cst : cst neg1 = ⟨65535, 16, true, 0⟩ := by
  have h1 : cst one = ⟨1, 16, true, 0⟩ := cst_one _ _ _ _ _
  rw [cst_eq]
  show Cst.of 6 0 0 false (([one].map cst).getD 0 ⟨0, 0, false, 0⟩) _ = _
  rw [show ([one].map cst).getD 0 ⟨0, 0, false, 0⟩ = cst one from rfl, h1]
  unfold Cst.of
  rw [if_neg (by omega), if_neg (by omega), if_neg (by simp), if_neg (by omega), if_pos (by omega)]
  have := ((un_ex 6 1 16 true).choose_spec ⟨by decide, by decide⟩).2.2.2 rfl (by simp [W.ok])
  have e : W.un 6 1 16 true = (65535, 16, true, 0) := by
    show (un_ex 6 1 16 true).choose = _
    rw [this]; decide
  rw [e]
theorem neg1_fold : fold neg1 = .mk 5 0 16 true ⟨#[]⟩ [.mk 1 65535 16 false ⟨#[]⟩ []] := by
  have e1 : fold one = one := by
    rw [fold_eq]
    show foldOf 1 1 16 true ⟨#[]⟩ [] = _
    unfold foldOf
    rw [if_neg (fun h => absurd h.1 (by decide))]; rfl
  rw [fold_eq]
  show foldOf 6 0 0 false ⟨#[]⟩ [fold one] = _
  rw [e1]
  unfold foldOf
  have hc : cst (.mk 6 0 0 false ⟨#[]⟩ [one]) = ⟨65535, 16, true, 0⟩ := neg1_cst
  rw [if_pos ⟨by decide, by rw [hc]⟩, hc]
  unfold lit
  rw [if_neg (by decide)]
  have : (W.lit 65535 true).1 = 16 ∧ (W.lit 65535 true).2.1 = false := by decide
  show X.mk 5 0 16 true _ [.mk 1 65535 (W.lit 65535 true).1 (W.lit 65535 true).2.1 _ []] = _
  rw [this.1, this.2]
theorem known_cases {k n b : Int} {s : Bool} {nm : ByteArray} {ks : List X} (h : known (.mk k n b s nm ks) = true) : k = 1 ∨ (k = 5 ∧ ∃ z, ks[0]? = some z ∧ z.kind = 1) := by
  unfold known at h
  simp only [Bool.or_eq_true, Bool.and_eq_true, beq_iff_eq] at h
  rcases h with h | ⟨h1, h2⟩
  · exact .inl h
  · refine .inr ⟨h1, ?_⟩
    rcases ks with _ | ⟨z, r⟩
    · exact absurd (show (0 : Int) = 1 from h2) (by decide)
    · exact ⟨z, rfl, h2⟩
end X
set_option maxHeartbeats 4000000 in
theorem alive10_ok (w : World) : Calls Try.prog 15 #[] w fun e w' => e = .returned (.bool true) ∧ Below w.heap.size w w' := by
  have HX : Hid (XAt (w.alloc (.cells #[.int .i64 1, .int .u64 1, .int .i64 16, .bool true, .string ⟨#[]⟩, .slice none 0 0] 36)) X.neg1 (X.cells 6 0 0 false ⟨#[]⟩ (.slice (some ⟨w.heap.size, 0, none⟩) 1 1))) := by
    refine .mk 6 0 0 false ⟨#[]⟩ [X.one] (some ⟨w.heap.size, 0, none⟩) 1 (fun _ => X.cells 1 1 16 true ⟨#[]⟩ (.slice none 0 0)) (Nat.le_refl _) (by decide) (fun i x hx => ?_) (fun _ => ⟨w.heap.size, 0, rfl, fun i j u hi hu => ?_⟩)
    · have : i = 0 := by
        have := (List.getElem?_eq_some_iff.1 hx).1
        simpa using this
      subst this
      simp at hx; subst hx
      exact .mk 1 1 16 true ⟨#[]⟩ [] none 0 (fun _ => []) (Nat.le_refl _) (Nat.zero_le _) (fun i x hx => by simp at hx) (fun h0 => absurd h0 (Nat.lt_irrefl _))
    · have : i = 0 := by simpa using hi
      subst this
      have e : 0 + 0 * 6 + j = j := by omega
      rw [e, (Blk.new w 36 _).cell]
      rw [← hu]; simp [X.cells]
  have HF : Hid (Calls Try.prog 16 #[.agg #[.int .i64 6, .int .u64 0, .int .i64 0, .bool false, .string ⟨#[]⟩, .slice (some ⟨w.heap.size, 0, none⟩) 1 1]] (w.alloc (.cells #[.int .i64 1, .int .u64 1, .int .i64 16, .bool true, .string ⟨#[]⟩, .slice none 0 0] 36)) (fun e w' => ∃ g off c2, e = .returned (.agg #[.int .i64 5, .int .u64 0, .int .i64 16, .bool true, .string ⟨#[]⟩, .slice (some ⟨g, off, none⟩) 1 c2]) ∧ w'.cell? ⟨g, off + 1, none⟩ = some (.int .u64 65535) ∧ Below w.heap.size w w')) := by
    refine (fold_ok X.neg1 X.neg1_shp X.neg1_wf _ _ HX.out).mono ?_
    rintro e w' ⟨cs, rfl, hin, hb⟩
    rw [X.neg1_fold] at hin
    obtain ⟨a2, c2, rfl⟩ := hin.form
    obtain ⟨g, off, ay, cy, rfl, _, _, k1, _⟩ := hin.at.kid (i := 0) rfl
    rw [Nat.zero_mul, Nat.add_zero] at k1
    exact ⟨g, off, c2, rfl, k1, Ext.trans (Ext.alloc (Below.refl _ _) _) hb⟩
  clear HX
  go_enter Try.func15, Try.ntmps15
  go_wp2_with (first | (go_at_call 16; refine HF.out.mono ?_; rintro e w1 ⟨g, off, c2, rfl, hk, hb1⟩; have HB1 := Lib.hid hb1; have hk2 : (w1.alloc (.cells #[.int .i64 5, .int .u64 0, .int .i64 16, .bool true, .string ⟨#[]⟩, .slice (some ⟨g, off, none⟩) 1 c2] 36)).cell? ⟨g, off + 1, none⟩ = some (.int .u64 65535) := (by rw [Below.cell (p := ⟨g, off + 1, none⟩) (Ext.alloc (Below.refl _ _) _) (World.block_lt_of_cell? _ _ hk)]; exact hk); clear hb1 hk))
  go_ret
  exact ⟨rfl, Ext.alloc HB1.out _⟩
set_option maxHeartbeats 8000000 in
theorem foldKnown_walk (x : X) (cs : List Value) (w : World) (hX : XAt w x cs) (hw : X.Wf x) : Calls Try.prog 5 #[.agg cs.toArray] w fun e w' => e = .returned (.bool true) ∧ Below w.heap.size w w' := by
  obtain ⟨a, c, rfl, _⟩ := hX.open
  obtain ⟨xk, hxk⟩ : ∃ z, z = x.kind := ⟨_, rfl⟩
  obtain ⟨xn, hxn⟩ : ∃ z, z = x.num := ⟨_, rfl⟩
  obtain ⟨xb, hxb⟩ : ∃ z, z = x.bits := ⟨_, rfl⟩
  obtain ⟨xs, hxs⟩ : ∃ z, z = x.sg := ⟨_, rfl⟩
  obtain ⟨xm, hxm⟩ : ∃ z, z = x.name := ⟨_, rfl⟩
  obtain ⟨xl, hxl⟩ : ∃ z, z = x.kids.length := ⟨_, rfl⟩
  rw [← hxk, ← hxn, ← hxb, ← hxs, ← hxm, ← hxl] at hX ⊢
  have HX := Lib.hid hX
  have HCN : Hid (∀ w1 g, XAt w1 x (X.cells xk xn xb xs xm (.slice a xl c)) → CntB w1 g 0 → Calls Try.prog 12 #[P g, .agg #[.int .i64 xk, .int .u64 xn, .int .i64 xb, .bool xs, .string xm, .slice a xl c], .int .i64 1] w1 (CntR g w1 (X.cnt x 0 1))) := fun w1 g h1 h2 => cexpr_ok g x hw w1 _ 0 1 h1 h2 (by omega) (by omega) (by omega)
  obtain ⟨rc, rn, hr⟩ : ∃ rc rn, X.cnt x 0 1 = (rc, rn) := ⟨_, _, rfl⟩
  rw [hr] at HCN
  have K0 := Lib.hid (show Bx (w.alloc (.cells #[.int .i64 xk, .int .u64 xn, .int .i64 xb, .bool xs, .string xm, .slice a xl c] 36)) w.heap.size xk xn xb xs xm (.slice a xl c) from Blk.new _ _ _)
  obtain ⟨x0, x1, x2, x3, x4, x5⟩ := Bx.six K0.out
  have HB0 := Lib.hid (Ext.alloc (Below.refl w.heap.size w) (.cells #[.int .i64 xk, .int .u64 xn, .int .i64 xb, .bool xs, .string xm, .slice a xl c] 36))
  by_cases h0 : rc = 0
  rotate_left
  · have hq : (rc == 0) = false := by simpa using h0
    clear hr hw hX h0 hxk hxn hxb hxs hxm hxl
    go_enter Try.func5, Try.ntmps5
    go_wp2_with (first | (go_at_call 15; refine (alive10_ok _).mono ?_; rintro e w1 ⟨rfl, hb1⟩; have K1 := Lib.hid (K0.out.keep hb1); have HB1 := Lib.hid (Ext.trans HB0.out hb1); clear hb1 x0 x1 x2 x3 x4 x5; obtain ⟨x0, x1, x2, x3, x4, x5⟩ := Bx.six (K1.out.alloc (.cells #[.int .i64 0] 39))) | (go_at_call 12; refine (HCN.out _ _ (HX.out.keep (Ext.alloc HB1.out (.cells #[.int .i64 0] 39))) (Blk.new w1 _ _)).mono ?_; rintro e w2 ⟨rfl, hc2, _⟩; have HB2 := Lib.hid (Chg.below_new (Ext.alloc HB1.out (.cells #[.int .i64 0] 39)) HB1.out.size hc2); have K2 := Lib.hid (Blk.grown (K1.out.alloc (.cells #[.int .i64 0] 39)) hc2 (fun h => by injection h with h; have := K1.out.lt; omega)); clear hc2 x0 x1 x2 x3 x4 x5; obtain ⟨x0, x1, x2, x3, x4, x5⟩ := Bx.six K2.out))
    go_ret
    exact ⟨rfl, HB2.out⟩
  subst h0
  have hs : X.Shp x := X.cnt_shp x 0 1 (by rw [hr])
  have HC : Hid (∀ w1, XAt w1 x (X.cells xk xn xb xs xm (.slice a xl c)) → Calls Try.prog 13 #[.agg #[.int .i64 xk, .int .u64 xn, .int .i64 xb, .bool xs, .string xm, .slice a xl c]] w1 (UnR (X.cst x).n (X.cst x).b (X.cst x).s (X.cst x).e w1)) := fun w1 h => con_ok x hs hw w1 _ h
  have hgd := X.fold_good x hs hw
  obtain ⟨F, hF⟩ : ∃ F, F = X.fold x := ⟨_, rfl⟩
  rw [← hF] at hgd
  have HCF : ∀ w1 cs, XAt w1 F cs → Calls Try.prog 13 #[.agg cs.toArray] w1 (UnR (X.cst x).n (X.cst x).b (X.cst x).s (X.cst x).e w1) := fun w1 cs h => by
    rw [← hgd.2.2.1]; exact con_ok F hgd.1 hgd.2.1 w1 cs h
  have HFF : ∀ w1, XAt w1 x (X.cells xk xn xb xs xm (.slice a xl c)) → Calls Try.prog 16 #[.agg #[.int .i64 xk, .int .u64 xn, .int .i64 xb, .bool xs, .string xm, .slice a xl c]] w1 (XnR F w1) := fun w1 h => by
    rw [hF]; exact fold_ok x hs hw w1 _ h
  have hkn := hgd.2.2.2
  obtain ⟨n, hn⟩ : ∃ n, n = (X.cst x).n := ⟨_, rfl⟩
  obtain ⟨b, hb⟩ : ∃ n, n = (X.cst x).b := ⟨_, rfl⟩
  obtain ⟨s, hsg⟩ : ∃ n, n = (X.cst x).s := ⟨_, rfl⟩
  obtain ⟨e, he⟩ : ∃ n, n = (X.cst x).e := ⟨_, rfl⟩
  rw [← hn, ← hb, ← hsg, ← he] at HC HCF
  rw [← he] at hkn
  clear hr hs hw hX hn hb hsg he hxk hxn hxb hxs hxm hxl hF hgd
  by_cases h1 : e = 0
  rotate_left
  · have hq : (e == 0) = false := by simpa using h1
    clear h1 hkn HCF HFF
    go_enter Try.func5, Try.ntmps5
    go_wp2_with (first | (go_at_call 15; refine (alive10_ok _).mono ?_; rintro e w1 ⟨rfl, hb1⟩; have K1 := Lib.hid (K0.out.keep hb1); have HB1 := Lib.hid (Ext.trans HB0.out hb1); clear hb1 x0 x1 x2 x3 x4 x5; obtain ⟨x0, x1, x2, x3, x4, x5⟩ := Bx.six (K1.out.alloc (.cells #[.int .i64 0] 39))) | (go_at_call 12; refine (HCN.out _ _ (HX.out.keep (Ext.alloc HB1.out (.cells #[.int .i64 0] 39))) (Blk.new w1 _ _)).mono ?_; rintro e w2 ⟨rfl, hc2, _⟩; have HB2 := Lib.hid (Chg.below_new (Ext.alloc HB1.out (.cells #[.int .i64 0] 39)) HB1.out.size hc2); have K2 := Lib.hid (Blk.grown (K1.out.alloc (.cells #[.int .i64 0] 39)) hc2 (fun h => by injection h with h; have := K1.out.lt; omega)); clear hc2 x0 x1 x2 x3 x4 x5; obtain ⟨x0, x1, x2, x3, x4, x5⟩ := Bx.six K2.out) | (go_at_call_of 13 (Value.int IntKind.i64 xk); refine (HC.out _ (HX.out.keep HB2.out)).mono ?_; rintro e w3 ⟨rfl, hb3⟩; have HB3 := Lib.hid (Ext.alloc (Ext.trans HB2.out hb3) (.cells #[.int .i64 b, .bool s] 31)); have K3 := Lib.hid ((K2.out.keep hb3).alloc (.cells #[.int .i64 b, .bool s] 31)); have T3 := Lib.hid (Ty.new w3 rfl b s 31); clear hb3 x0 x1 x2 x3 x4 x5; obtain ⟨x0, x1, x2, x3, x4, x5⟩ := Bx.six K3.out))
    go_ret
    exact ⟨rfl, HB3.out⟩
  subst h1
  have hkn := hkn rfl
  obtain ⟨yk, yn, yb, ys, ym, yks⟩ := F
  obtain ⟨yl, hyl⟩ : ∃ z, z = yks.length := ⟨_, rfl⟩
  have HFO : Hid (∀ w1, XAt w1 x (X.cells xk xn xb xs xm (.slice a xl c)) → Calls Try.prog 16 #[.agg #[.int .i64 xk, .int .u64 xn, .int .i64 xb, .bool xs, .string xm, .slice a xl c]] w1 (fun e w' => ∃ a2 c2, e = .returned (.agg #[.int .i64 yk, .int .u64 yn, .int .i64 yb, .bool ys, .string ym, .slice a2 yl c2]) ∧ XIn w' (fun g => w1.heap.size ≤ g) (.mk yk yn yb ys ym yks) (X.cells yk yn yb ys ym (.slice a2 yl c2)) ∧ Below w1.heap.size w1 w')) := fun w1 h => by
    refine (HFF w1 h).mono ?_
    rintro e w' ⟨cs, rfl, hin, hb⟩
    obtain ⟨a2, c2, rfl⟩ := hin.form
    rw [hyl]
    exact ⟨a2, c2, rfl, hin, hb⟩
  have HCY : Hid (∀ w1 a2 c2, XAt w1 (.mk yk yn yb ys ym yks) (X.cells yk yn yb ys ym (.slice a2 yl c2)) → Calls Try.prog 13 #[.agg #[.int .i64 yk, .int .u64 yn, .int .i64 yb, .bool ys, .string ym, .slice a2 yl c2]] w1 (UnR n b s 0 w1)) := fun w1 a2 c2 h => HCF w1 _ h
  clear HCF HFF hyl
  rcases X.known_cases hkn with hk | ⟨hk, z, hz, hzk⟩
  · clear hkn
    have q1 : (yk == 1) = true := by rw [hk]; rfl
    clear hk
    go_enter Try.func5, Try.ntmps5
    go_wp2_with (first | (go_at_call 15; refine (alive10_ok _).mono ?_; rintro e w1 ⟨rfl, hb1⟩; have K1 := Lib.hid (K0.out.keep hb1); have HB1 := Lib.hid (Ext.trans HB0.out hb1); clear hb1 x0 x1 x2 x3 x4 x5; obtain ⟨x0, x1, x2, x3, x4, x5⟩ := Bx.six (K1.out.alloc (.cells #[.int .i64 0] 39))) | (go_at_call 12; refine (HCN.out _ _ (HX.out.keep (Ext.alloc HB1.out (.cells #[.int .i64 0] 39))) (Blk.new w1 _ _)).mono ?_; rintro e w2 ⟨rfl, hc2, _⟩; have HB2 := Lib.hid (Chg.below_new (Ext.alloc HB1.out (.cells #[.int .i64 0] 39)) HB1.out.size hc2); have K2 := Lib.hid (Blk.grown (K1.out.alloc (.cells #[.int .i64 0] 39)) hc2 (fun h => by injection h with h; have := K1.out.lt; omega)); clear hc2 x0 x1 x2 x3 x4 x5; obtain ⟨x0, x1, x2, x3, x4, x5⟩ := Bx.six K2.out) | (go_at_call_of 13 (Value.int IntKind.i64 xk); refine (HC.out _ (HX.out.keep HB2.out)).mono ?_; rintro e w3 ⟨rfl, hb3⟩; have HB3 := Lib.hid (Ext.alloc (Ext.trans HB2.out hb3) (.cells #[.int .i64 b, .bool s] 31)); have K3 := Lib.hid ((K2.out.keep hb3).alloc (.cells #[.int .i64 b, .bool s] 31)); have T3 := Lib.hid (Ty.new w3 rfl b s 31); clear hb3 x0 x1 x2 x3 x4 x5; obtain ⟨x0, x1, x2, x3, x4, x5⟩ := Bx.six K3.out) | (go_at_call 16; refine (HFO.out _ (HX.out.keep HB3.out)).mono ?_; rintro e w4 ⟨a2, c2, rfl, hin, hb4⟩; have HIN := Lib.hid hin; have HB4 := Lib.hid (Ext.trans HB3.out hb4); have T4 := Lib.hid (T3.out.below hb4); have Y4 := Lib.hid (Blk.new w4 36 #[.int .i64 yk, .int .u64 yn, .int .i64 yb, .bool ys, .string ym, .slice a2 yl c2]); clear hin hb4 x0 x1 x2 x3 x4 x5; obtain ⟨x0, x1, x2, x3, x4, x5⟩ := Bx.six Y4.out) | (go_at_call_of 13 (Value.int IntKind.i64 yk); refine (HCY.out _ a2 c2 (HIN.out.at.keep (Ext.alloc (Below.refl _ _) _))).mono ?_; rintro e w5 ⟨rfl, hb5⟩; have HB5 := Lib.hid (Ext.alloc (Ext.trans (Ext.alloc HB4.out _) hb5) (.cells #[.int .i64 b, .bool s] 31)); have Y5 := Lib.hid ((Y4.out.keep hb5).alloc (.cells #[.int .i64 b, .bool s] 31)); have T5 := Lib.hid (((T4.out.below (Ext.alloc (Below.refl _ _) _)).below hb5).below (Ext.alloc (Below.refl _ _) (.cells #[.int .i64 b, .bool s] 31))); have U5 := Lib.hid (Ty.new w5 rfl b s 31); have I5 := Lib.hid (HIN.out.at.keep (Ext.trans (Ext.alloc (Below.refl _ _) _) (Ext.trans hb5 (Ext.alloc (Below.refl _ _) (.cells #[.int .i64 b, .bool s] 31))))); clear hb5 x0 x1 x2 x3 x4 x5; obtain ⟨x0, x1, x2, x3, x4, x5⟩ := Bx.six Y5.out; obtain ⟨t0, t1, t2, t3⟩ := T5.out; obtain ⟨u0, u1, u2, u3⟩ := U5.out))
    all_goals go_ret
    all_goals exact ⟨rfl, HB5.out⟩
  · clear hkn
    have HZ := Lib.hid (⟨hz, hzk⟩ : yks[0]? = some z ∧ z.kind = 1)
    clear hz hzk
    have q1 : (yk == 1) = false := by rw [hk]; rfl
    have q5 : (yk == 5) = true := by rw [hk]; rfl
    clear hk
    go_enter Try.func5, Try.ntmps5
    go_upto_region 10 with (first | (go_at_call 15; refine (alive10_ok _).mono ?_; rintro e w1 ⟨rfl, hb1⟩; have K1 := Lib.hid (K0.out.keep hb1); have HB1 := Lib.hid (Ext.trans HB0.out hb1); clear hb1 x0 x1 x2 x3 x4 x5; obtain ⟨x0, x1, x2, x3, x4, x5⟩ := Bx.six (K1.out.alloc (.cells #[.int .i64 0] 39))) | (go_at_call 12; refine (HCN.out _ _ (HX.out.keep (Ext.alloc HB1.out (.cells #[.int .i64 0] 39))) (Blk.new w1 _ _)).mono ?_; rintro e w2 ⟨rfl, hc2, _⟩; have HB2 := Lib.hid (Chg.below_new (Ext.alloc HB1.out (.cells #[.int .i64 0] 39)) HB1.out.size hc2); have K2 := Lib.hid (Blk.grown (K1.out.alloc (.cells #[.int .i64 0] 39)) hc2 (fun h => by injection h with h; have := K1.out.lt; omega)); clear hc2 x0 x1 x2 x3 x4 x5; obtain ⟨x0, x1, x2, x3, x4, x5⟩ := Bx.six K2.out) | (go_at_call_of 13 (Value.int IntKind.i64 xk); refine (HC.out _ (HX.out.keep HB2.out)).mono ?_; rintro e w3 ⟨rfl, hb3⟩; have HB3 := Lib.hid (Ext.alloc (Ext.trans HB2.out hb3) (.cells #[.int .i64 b, .bool s] 31)); have K3 := Lib.hid ((K2.out.keep hb3).alloc (.cells #[.int .i64 b, .bool s] 31)); have T3 := Lib.hid (Ty.new w3 rfl b s 31); clear hb3 x0 x1 x2 x3 x4 x5; obtain ⟨x0, x1, x2, x3, x4, x5⟩ := Bx.six K3.out) | (go_at_call 16; refine (HFO.out _ (HX.out.keep HB3.out)).mono ?_; rintro e w4 ⟨a2, c2, rfl, hin, hb4⟩; have HIN := Lib.hid hin; have HB4 := Lib.hid (Ext.trans HB3.out hb4); have T4 := Lib.hid (T3.out.below hb4); have Y4 := Lib.hid (Blk.new w4 36 #[.int .i64 yk, .int .u64 yn, .int .i64 yb, .bool ys, .string ym, .slice a2 yl c2]); clear hin hb4 x0 x1 x2 x3 x4 x5; obtain ⟨x0, x1, x2, x3, x4, x5⟩ := Bx.six Y4.out) | (go_at_call_of 13 (Value.int IntKind.i64 yk); refine (HCY.out _ a2 c2 (HIN.out.at.keep (Ext.alloc (Below.refl _ _) _))).mono ?_; rintro e w5 ⟨rfl, hb5⟩; have HB5 := Lib.hid (Ext.alloc (Ext.trans (Ext.alloc HB4.out _) hb5) (.cells #[.int .i64 b, .bool s] 31)); have Y5 := Lib.hid ((Y4.out.keep hb5).alloc (.cells #[.int .i64 b, .bool s] 31)); have T5 := Lib.hid (((T4.out.below (Ext.alloc (Below.refl _ _) _)).below hb5).below (Ext.alloc (Below.refl _ _) (.cells #[.int .i64 b, .bool s] 31))); have U5 := Lib.hid (Ty.new w5 rfl b s 31); have I5 := Lib.hid (HIN.out.at.keep (Ext.trans (Ext.alloc (Below.refl _ _) _) (Ext.trans hb5 (Ext.alloc (Below.refl _ _) (.cells #[.int .i64 b, .bool s] 31))))); clear hb5 x0 x1 x2 x3 x4 x5; obtain ⟨x0, x1, x2, x3, x4, x5⟩ := Bx.six Y5.out; obtain ⟨t0, t1, t2, t3⟩ := T5.out; obtain ⟨u0, u1, u2, u3⟩ := U5.out))
    obtain ⟨gk, off, az, cz, ha, _, k0, _⟩ := I5.out.kid HZ.out.1
    rw [Nat.zero_mul, Nat.add_zero, HZ.out.2] at k0
    subst ha
    have hl1 : 0 < yl := by have := (List.getElem?_eq_some_iff.1 HZ.out.1).1; have := I5.out.lens.1; omega
    go_wp2
    all_goals go_ret
    all_goals exact ⟨rfl, HB5.out⟩
end Go.Proofs.Ytkmcniaaecijdaa
