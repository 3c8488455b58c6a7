/- Walks of check: types of expressions, all kinds; maybe, set. No condition. -/
import Derived.Test.YthdckndjggljpaaD11
import Derived.Test.YthdckndjggljpaaDB
namespace Go.Proofs.Ythdckndjggljpaa
open Go.RowKit Go.Maps
set_option linter.unusedVariables false
set_option linter.unusedSimpArgs false
set_option maxRecDepth 100000
set_option maxHeartbeats 8000000 in
theorem type_call (w : World) (B g tb fq fo gb fb q off : Nat) (e : Ck.Env) (P0 : Pg) (v0 v1 : Value) (n b : Int) (s : Bool) (nm : ByteArray) (hs : nm.size ≤ maxLen) (ks : List X) (hk8 : ks.length ≤ 8)
    (HK : ∀ y ∈ ks, TyI B g tb fq fo gb fb e P0 v0 v1 y) (hc : Cx w B g tb fq fo gb fb e P0 v0 v1) (hx : XPB w B (.mk 4 n b s nm ks) q off) :
    Calls Try.prog 75 #[P g, .pointer (some ⟨q, off, none⟩)] w (TyR w (Ck.tyOf P0 e 4 b s nm.data.toList (Ck.tys P0 e ks))) := by
  obtain ⟨V, hV⟩ : ∃ V, V = Ck.tyOf P0 e 4 b s nm.data.toList (Ck.tys P0 e ks) := ⟨_, rfl⟩
  rw [← hV]
  obtain ⟨a, c, hxc⟩ := hx.parts
  have HCL : Hid (∀ w1 : World, Below w.heap.size w w1 → Calls Try.prog 98 #[P g, .pointer (some ⟨q, off, none⟩)] w1 (TyR w1 V)) := fun w1 hb => by rw [hV]; exact call_ok w1 B g tb fq fo gb fb q off e P0 v0 v1 n b s nm hs ks hk8 HK (hc.keep hb) (hx.below (hb.mono hc.tb.le))
  have hlq : q < w.heap.size := Nat.lt_of_lt_of_le hxc.lt hc.tb.le
  have c0 := hxc.c0
  obtain ⟨vb, vs, ve⟩ := V
  have HB := Lib.hid (Blk.new w 33 #[.int .i64 0, .bool false])
  clear hV hx hxc hc HK hs hk8
  go_enter Try.func75, Try.ntmps75
  go_wp2_with (first | (go_at_call 98; refine (HCL.out _ (Ext.alloc (Below.refl _ _) _)).mono ?_; rintro e w5 ⟨b5, s5, rfl, hbs5, hb5⟩; have HBS5 := Lib.hid hbs5; have HB5 := Lib.hid hb5; have HQ5 := Lib.hid (HB.out.keep hb5); have y0 := HQ5.out.cell 0; have y1 := HQ5.out.cell 1; have y2 := HQ5.out.frozen 0; have y3 := HQ5.out.frozen 1; have y4 := HQ5.out.lt; clear hb5 hbs5))
  generalize hW : World.setCell _ _ _ = wz
  have HW : Hid (Blk wz w.heap.size 33 #[.int .i64 b5, .bool s5] ∧ Below w.heap.size w wz) := by
    subst hW
    exact ⟨two_set HQ5.out _ _, Ext.setCell (Ext.setCell (Ext.trans (Ext.alloc (Below.refl _ _) _) HB5.out) (Nat.le_refl _) _) (Nat.le_refl _) _⟩
  clear hW y0 y1 y2 y3
  have q0 := HW.out.1.cell 0; have q1 := HW.out.1.cell 1
  have ql := HW.out.1.lt
  exact bodyPost_ret (v := .tuple #[W.ty b5 s5, .int .i64 ve]) (by simp [results, Try.results75, go_sem, q0, q1, ql]) rfl ⟨b5, s5, rfl, HBS5.out, HW.out.2⟩
/-- THE TYPE OF AN EXPRESSION. -/
theorem type_ok (B g tb fq fo gb fb : Nat) (e : Ck.Env) (P0 : Pg) (v0 v1 : Value) (x : X) : X.Shp x → X.Wf x → TyI B g tb fq fo gb fb e P0 v0 v1 x := by
  induction x using X.up with
  | _ x ih =>
    intro hS hW w q off hc hx
    obtain ⟨k, n, b, s, nm, ks⟩ := x
    have HK : ∀ y ∈ ks, TyI B g tb fq fo gb fb e P0 v0 v1 y := fun y hy => ih y hy (hS.kid hy) (hW.kid hy)
    obtain ⟨h1, h26, _, _, hkk⟩ := X.own_kids hS.own
    have h1 : 1 ≤ k := h1
    have h26 : k ≤ 26 := h26
    have hkk : (X.kidsOf k = -1 ∧ ks.length ≤ 8) ∨ (0 ≤ X.kidsOf k ∧ X.kidsOf k = (ks.length : Int)) := hkk
    have hk8 : ks.length ≤ 8 := by
      rcases hkk with h | h
      · exact h.2
      · have : X.kidsOf k ≤ 2 := by unfold X.kidsOf; repeat' split <;> omega
        omega
    rw [Ck.ty]
    by_cases h4 : k = 4
    · subst h4; exact type_call w B g tb fq fo gb fb q off e P0 v0 v1 n b s nm hW.nms ks hk8 HK hc hx
    · refine type_main w B g tb fq fo gb fb q off e P0 v0 v1 k n b s nm hW.nms ks hk8 ⟨h1, h26⟩ h4 ?_ ?_ HK hc hx
      · intro h
        rcases hkk with h2 | h2
        · unfold X.kidsOf at h2; rw [if_neg (by omega)] at h2; rw [if_neg (by omega)] at h2; rw [if_neg (by omega)] at h2; rw [if_pos (by omega)] at h2; omega
        · unfold X.kidsOf at h2; rw [if_neg (by omega)] at h2; rw [if_neg (by omega)] at h2; rw [if_neg (by omega)] at h2; rw [if_pos (by omega)] at h2; omega
      · intro h
        rcases hkk with h2 | h2
        · unfold X.kidsOf at h2; rw [if_neg (by omega)] at h2; rw [if_neg (by omega)] at h2; rw [if_neg (by omega)] at h2; rw [if_neg (by omega)] at h2; omega
        · unfold X.kidsOf at h2; rw [if_neg (by omega)] at h2; rw [if_neg (by omega)] at h2; rw [if_neg (by omega)] at h2; rw [if_neg (by omega)] at h2; omega
theorem value_ok (w : World) (B g tb fq fo gb fb q off : Nat) (e : Ck.Env) (P0 : Pg) (v0 v1 : Value) (x : X) (hS : X.Shp x) (hW : X.Wf x) (hc : Cx w B g tb fq fo gb fb e P0 v0 v1) (hx : XPB w B x q off) :
    Calls Try.prog 76 #[P g, .pointer (some ⟨q, off, none⟩)] w (TyR w (Ck.ty P0 e x).val) :=
  value_of w B g tb fq fo gb fb q off e P0 v0 v1 x (type_ok B g tb fq fo gb fb e P0 v0 v1 x hS hW) hc hx
/-- What is wrong, and only new memory. -/
def ErR (w : World) (z : Int) (e : Ending) (w' : World) : Prop := e = .returned (.int .i64 z) ∧ Below w.heap.size w w'
set_option maxHeartbeats 8000000 in
theorem cmaybe_ok (w : World) (B g tb fq fo gb fb q off : Nat) (e : Ck.Env) (P0 : Pg) (v0 v1 : Value) (has : Bool) (x : X) (hV : has = true → X.Shp x ∧ X.Wf x) (hc : Cx w B g tb fq fo gb fb e P0 v0 v1) (hx : XPB w B x q off) :
    Calls Try.prog 73 #[P g, .bool has, .pointer (some ⟨q, off, none⟩)] w (ErR w (Ck.may P0 has x e).1) := by
  cases has with
  | false =>
    clear hV hc hx
    rw [show Ck.may P0 false x e = (0, e) from if_neg (by decide)]
    go_enter Try.func73, Try.ntmps73
    go_wp2
    go_ret
    exact ⟨rfl, Below.refl _ _⟩
  | true =>
    have hv := value_ok w B g tb fq fo gb fb q off e P0 v0 v1 x (hV rfl).1 (hV rfl).2 hc hx
    rw [show Ck.may P0 true x e = Ck.vals P0 x e from if_pos rfl]
    show Calls _ _ _ _ (ErR w (Ck.ty P0 e x).val.e)
    obtain ⟨T, hT⟩ : ∃ T, T = (Ck.ty P0 e x).val := ⟨_, rfl⟩
    rw [← hT] at hv ⊢
    have HV := Lib.hid hv
    obtain ⟨t0, t1, te⟩ := T
    clear hV hc hx hv hT
    go_enter Try.func73, Try.ntmps73
    go_wp2_with (first | (go_at_call 76; refine HV.out.mono ?_; rintro e w5 ⟨b5, s5, rfl, _, hb5⟩; have HB5 := Lib.hid hb5; clear hb5))
    go_ret
    exact ⟨rfl, Ext.alloc HB5.out _⟩
set_option maxHeartbeats 16000000 in
theorem set_ok (w : World) (B g tb fq fo gb fb q off : Nat) (e : Ck.Env) (P0 : Pg) (v0 v1 : Value) (b : Int) (s : Bool) (nm : ByteArray) (has : Bool) (x i : X) (l0 l1 l2 l3 : List S) (hs : nm.size ≤ maxLen) (hI : has = true → X.Shp i ∧ X.Wf i) (hSX : X.Shp x ∧ X.Wf x) (hc : Cx w B g tb fq fo gb fb e P0 v0 v1) (hx : SPB w B (.mk 3 b s nm has x i l0 l1 l2 l3) q off) (rb : Int) :
    Calls Try.prog 74 #[P g, .pointer (some ⟨q, off, none⟩)] w (ErR w (Ck.stat P0 rb (.mk 3 b s nm has x i l0 l1 l2 l3) e).1) := by
  obtain ⟨Z, hZ⟩ : ∃ Z, Z = (Ck.stat P0 rb (.mk 3 b s nm has x i l0 l1 l2 l3) e).1 := ⟨_, rfl⟩
  rw [← hZ]
  rw [Ck.stat, if_neg (by decide), if_pos rfl] at hZ
  obtain ⟨a0, z0, a1, z1, a2, z2, a3, z3, hxc⟩ := hx.parts
  obtain ⟨n0, hn0⟩ : ∃ n, n = l0.length := ⟨_, rfl⟩
  obtain ⟨n1, hn1⟩ : ∃ n, n = l1.length := ⟨_, rfl⟩
  obtain ⟨n2, hn2⟩ : ∃ n, n = l2.length := ⟨_, rfl⟩
  obtain ⟨n3, hn3⟩ : ∃ n, n = l3.length := ⟨_, rfl⟩
  rw [← hn0, ← hn1, ← hn2, ← hn3] at hxc
  have HC := Lib.hid hc
  have HSX := Lib.hid hSX
  have HXW : Hid (∀ w1, Below w.heap.size w w1 → SC w1 B 3 b s nm has x i l0 l1 l2 l3 a0 n0 z0 a1 n1 z1 a2 n2 z2 a3 n3 z3 q off) := fun w1 hb => hxc.below (hb.mono hc.tb.le)
  have HFD : Hid (∀ w1 : World, Below w.heap.size w w1 → Calls Try.prog 97 #[P g, .string nm] w1 (FdR w1 (Ck.find P0 e nm.data.toList))) := fun w1 hb => find_ok w1 B g tb fq fo gb fb e P0 v0 v1 nm hs (hc.keep hb).sc (hc.keep hb).tb hc.lv
  have c4 := hxc.c4
  have c3 := hxc.c3
  have hlq0 : q < w.heap.size := Nat.lt_of_lt_of_le hxc.lt hc.tb.le
  clear hn0 hn1 hn2 hn3 hx hSX hs
  cases has with
  | false =>
    have HZ : Hid (Z = (match Ck.find P0 e nm.data.toList with | none => ((7 : Int), e) | some p => if (decide (0 < p.size)) != false then (9, e) else Ck.vals P0 x e).1) := by rw [Ck.may, if_neg (by decide), Ck.on, if_pos rfl] at hZ; exact hZ
    have HWX : Hid (Below w.heap.size w w) := Below.refl _ _
    clear hZ hI hxc hc
    go_enter Try.func74, Try.ntmps74
    go_upto_region 5 with (fail)
    cases hf : Ck.find P0 e nm.data.toList with
    | none =>
      rw [hf] at HZ HFD
      have HZ2 : Hid (Z = 7) := HZ.out
      clear hf
      go_wp2_with (first | (go_at_call 97; refine (HFD.out _ HWX.out).mono ?_; rintro e w5 ⟨rfl, hb5⟩; have HW5 := Lib.hid (Ext.trans HWX.out hb5); have HWX5 := Ext.alloc HW5.out (.cells #[.int .i64 0, .bool false, .bool false, .int .i64 0, .int .i64 0] 112); unfold Ck.fdV; clear hb5))
      go_ret
      exact ⟨by rw [HZ2.out]; rfl, HWX5⟩
    | some p =>
      rw [hf] at HZ HFD
      clear hf
      go_upto_region 8 with (first | (go_at_call 97; refine (HFD.out _ HWX.out).mono ?_; rintro e w5 ⟨rfl, hb5⟩; have HW5 := Lib.hid (Ext.trans HWX.out hb5); have HWX5 := Ext.alloc HW5.out (.cells #[.int .i64 0, .bool false, .bool false, .int .i64 0, .int .i64 0] 112); unfold Ck.fdV; clear hb5))
      generalize hw6 : World.alloc _ _ = w6
      have H6 : Hid (Below w.heap.size w w6 ∧ Blk w6 w5.heap.size 112 #[.int .i64 p.b, .bool p.s, .bool p.loc, .int .i64 (p.slot : Int), .int .i64 p.size]) := by
        subst hw6; exact ⟨Ext.alloc HW5.out _, Blk.new _ _ _⟩
      have p4 := H6.out.2.cell 4
      have c4 := (HXW.out _ H6.out.1).c4
      have hp6 := H6.out.2.lt
      have hlq := Nat.lt_of_lt_of_le (HXW.out _ H6.out.1).lt (HC.out.keep H6.out.1).tb.le
      clear hw6
      by_cases hz : 0 < p.size
      · have dz : decide (p.size > 0) = true := by simpa using hz
        have HZ2 : Hid (Z = 9) := by show Z = _; rw [HZ.out]; rw [show decide (0 < p.size) = true by simpa using hz]; rfl
        clear hz
        refine Rg.wp_region [] (by kernel_rfl) (by kernel_rfl) ?_
        repeat (first | (refine Rg.wpL_nil ?_) | (refine Rg.wpL_skip rfl ?_; simp only [Act.put, List.setIfInBounds_toArray, List.set_cons_zero, List.set_cons_succ]) | (refine Rg.wpL_q rfl rfl (fun K hK => ?_); go_big_quiet_op; refine hK _ ?_; clear hK K) | (refine Rg.wpL_w rfl rfl (fun K hK => ?_); go_wp2_with (first | fail | fail)))
        go_wp2
        go_ret
        exact ⟨by rw [HZ2.out]; rfl, H6.out.1.drew⟩
      · have dz : decide (p.size > 0) = false := by simpa using hz
        have HZ2 : Hid (Z = (Ck.ty P0 e x).val.e) := by show Z = _; rw [HZ.out]; rw [show decide (0 < p.size) = false by simpa using hz]; rfl
        clear hz
        refine Rg.wp_region [] (by kernel_rfl) (by kernel_rfl) ?_
        repeat (first | (refine Rg.wpL_nil ?_) | (refine Rg.wpL_skip rfl ?_; simp only [Act.put, List.setIfInBounds_toArray, List.set_cons_zero, List.set_cons_succ]) | (refine Rg.wpL_q rfl rfl (fun K hK => ?_); go_big_quiet_op; refine hK _ ?_; clear hK K) | (refine Rg.wpL_w rfl rfl (fun K hK => ?_); go_wp2_with (first | fail | fail)))
        go_upto_region 10 with (fail)
        generalize hw7 : World.drew w6 = w7
        have HW7 : Hid (Below w.heap.size w w7) := by subst hw7; exact H6.out.1.drew
        have HVX := Lib.hid (value_ok w7 B g tb fq fo gb fb q (off + 5) e P0 v0 v1 x HSX.out.1 HSX.out.2 (HC.out.keep HW7.out) (HXW.out _ HW7.out).x)
        obtain ⟨T, hT⟩ : ∃ T, T = (Ck.ty P0 e x).val := ⟨_, rfl⟩
        rw [← hT] at HVX HZ2
        obtain ⟨t0, t1, te⟩ := T
        clear hw7 p4 hp6 c4 hT
        go_wp2_with (first | (go_at_call 76; refine HVX.out.mono ?_; rintro e w8 ⟨b8, s8, rfl, _, hb8⟩; have HB8 := Lib.hid hb8; clear hb8))
        go_ret
        exact ⟨by rw [HZ2.out]; rfl, Ext.alloc (Ext.trans HW7.out HB8.out) _⟩
  | true =>
    have HVI := Lib.hid (value_ok w B g tb fq fo gb fb q (off + 11) e P0 v0 v1 i (hI rfl).1 (hI rfl).2 hc hxc.i)
    obtain ⟨T, hT⟩ : ∃ T, T = (Ck.ty P0 e i).val := ⟨_, rfl⟩
    have hZ3 : Z = (Ck.on (T.e, e) fun e => match Ck.find P0 e nm.data.toList with | none => ((7 : Int), e) | some p => if (decide (0 < p.size)) != true then (9, e) else Ck.vals P0 x e).1 := by rw [Ck.may, if_pos rfl, Ck.vals, ← hT] at hZ; exact hZ
    rw [← hT] at HVI
    obtain ⟨t0, t1, te⟩ := T
    have HZ3 := Lib.hid hZ3
    clear hZ hZ3 hT hI hxc hc
    by_cases he : te = 0
    · subst he
      have HZ : Hid (Z = (match Ck.find P0 e nm.data.toList with | none => ((7 : Int), e) | some p => if (decide (0 < p.size)) != true then (9, e) else Ck.vals P0 x e).1) := HZ3.out
      go_enter Try.func74, Try.ntmps74
      go_upto_region 5 with (first | (go_at_call 76; refine HVI.out.mono ?_; rintro e w3 ⟨b3, s3, rfl, _, hb3⟩; have HB3 := Lib.hid hb3; clear hb3))
      generalize hwx : World.alloc _ _ = wx
      have HWX : Hid (Below w.heap.size w wx) := by subst hwx; exact Ext.alloc HB3.out _
      have c3 := (HXW.out _ HWX.out).c3
      have hlq1 : q < wx.heap.size := Nat.lt_of_lt_of_le hlq0 HWX.out.size
      clear hwx
      cases hf : Ck.find P0 e nm.data.toList with
      | none =>
        rw [hf] at HZ HFD
        have HZ2 : Hid (Z = 7) := HZ.out
        clear hf
        go_wp2_with (first | (go_at_call 97; refine (HFD.out _ HWX.out).mono ?_; rintro e w5 ⟨rfl, hb5⟩; have HW5 := Lib.hid (Ext.trans HWX.out hb5); have HWX5 := Ext.alloc HW5.out (.cells #[.int .i64 0, .bool false, .bool false, .int .i64 0, .int .i64 0] 112); unfold Ck.fdV; clear hb5))
        go_ret
        exact ⟨by rw [HZ2.out]; rfl, HWX5⟩
      | some p =>
        rw [hf] at HZ HFD
        clear hf
        go_upto_region 8 with (first | (go_at_call 97; refine (HFD.out _ HWX.out).mono ?_; rintro e w5 ⟨rfl, hb5⟩; have HW5 := Lib.hid (Ext.trans HWX.out hb5); have HWX5 := Ext.alloc HW5.out (.cells #[.int .i64 0, .bool false, .bool false, .int .i64 0, .int .i64 0] 112); unfold Ck.fdV; clear hb5))
        generalize hw6 : World.alloc _ _ = w6
        have H6 : Hid (Below w.heap.size w w6 ∧ Blk w6 w5.heap.size 112 #[.int .i64 p.b, .bool p.s, .bool p.loc, .int .i64 (p.slot : Int), .int .i64 p.size]) := by
          subst hw6; exact ⟨Ext.alloc HW5.out _, Blk.new _ _ _⟩
        have p4 := H6.out.2.cell 4
        have c4 := (HXW.out _ H6.out.1).c4
        have hp6 := H6.out.2.lt
        have hlq := Nat.lt_of_lt_of_le (HXW.out _ H6.out.1).lt (HC.out.keep H6.out.1).tb.le
        clear hw6
        by_cases hz : 0 < p.size
        · have dz : decide (p.size > 0) = true := by simpa using hz
          have HZ2 : Hid (Z = (Ck.ty P0 e x).val.e) := by show Z = _; rw [HZ.out]; rw [show decide (0 < p.size) = true by simpa using hz]; rfl
          clear hz
          refine Rg.wp_region [] (by kernel_rfl) (by kernel_rfl) ?_
          repeat (first | (refine Rg.wpL_nil ?_) | (refine Rg.wpL_skip rfl ?_; simp only [Act.put, List.setIfInBounds_toArray, List.set_cons_zero, List.set_cons_succ]) | (refine Rg.wpL_q rfl rfl (fun K hK => ?_); go_big_quiet_op; refine hK _ ?_; clear hK K) | (refine Rg.wpL_w rfl rfl (fun K hK => ?_); go_wp2_with (first | fail | fail)))
          go_upto_region 10 with (fail)
          generalize hw7 : World.drew w6 = w7
          have HW7 : Hid (Below w.heap.size w w7) := by subst hw7; exact H6.out.1.drew
          have HVX := Lib.hid (value_ok w7 B g tb fq fo gb fb q (off + 5) e P0 v0 v1 x HSX.out.1 HSX.out.2 (HC.out.keep HW7.out) (HXW.out _ HW7.out).x)
          obtain ⟨T, hT⟩ : ∃ T, T = (Ck.ty P0 e x).val := ⟨_, rfl⟩
          rw [← hT] at HVX HZ2
          obtain ⟨t0, t1, te⟩ := T
          clear hw7 p4 hp6 c4 hT
          go_wp2_with (first | (go_at_call 76; refine HVX.out.mono ?_; rintro e w8 ⟨b8, s8, rfl, _, hb8⟩; have HB8 := Lib.hid hb8; clear hb8))
          go_ret
          exact ⟨by rw [HZ2.out]; rfl, Ext.alloc (Ext.trans HW7.out HB8.out) _⟩
        · have dz : decide (p.size > 0) = false := by simpa using hz
          have HZ2 : Hid (Z = 9) := by show Z = _; rw [HZ.out]; rw [show decide (0 < p.size) = false by simpa using hz]; rfl
          clear hz
          refine Rg.wp_region [] (by kernel_rfl) (by kernel_rfl) ?_
          repeat (first | (refine Rg.wpL_nil ?_) | (refine Rg.wpL_skip rfl ?_; simp only [Act.put, List.setIfInBounds_toArray, List.set_cons_zero, List.set_cons_succ]) | (refine Rg.wpL_q rfl rfl (fun K hK => ?_); go_big_quiet_op; refine hK _ ?_; clear hK K) | (refine Rg.wpL_w rfl rfl (fun K hK => ?_); go_wp2_with (first | fail | fail)))
          go_wp2
          go_ret
          exact ⟨by rw [HZ2.out]; rfl, H6.out.1.drew⟩
    · have qe : (te != 0) = true := by simpa using he
      have HZ2 : Hid (Z = te) := by show Z = te; rw [HZ3.out, Ck.on_bad he]
      clear he
      go_enter Try.func74, Try.ntmps74
      go_wp2_with (first | (go_at_call 76; refine HVI.out.mono ?_; rintro e w3 ⟨b3, s3, rfl, _, hb3⟩; have HB3 := Lib.hid hb3; clear hb3))
      go_ret
      exact ⟨by rw [HZ2.out]; rfl, Ext.alloc HB3.out _⟩
end Go.Proofs.Ythdckndjggljpaa
