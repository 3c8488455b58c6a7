/- Walks of check: a statement, for. No condition. -/
import Derived.Test.YthdckndjggljpaaD15
namespace Go.Proofs.Ythdckndjggljpaa
open Go.RowKit Go.Maps
set_option linter.unusedVariables false
set_option linter.unusedSimpArgs false
set_option maxRecDepth 100000
set_option maxHeartbeats 16000000 in
theorem stat_7 (w : World) (B g tb fq fo gb fb q off : Nat) (P0 : Pg) (v0 v1 : Value) (rb : Int) (b : Int) (s : Bool) (nm : ByteArray) (has : Bool) (x i : X) (l0 l1 l2 l3 : List S) (hs : nm.size ≤ maxLen) (hWX : has = true → X.Wf x) (H0 : ∀ y ∈ l0, StI B g tb fq fo gb fb P0 v0 v1 rb y) (H1 : ∀ y ∈ l1, StI B g tb fq fo gb fb P0 v0 v1 rb y) (H2 : ∀ y ∈ l2, StI B g tb fq fo gb fb P0 v0 v1 rb y) (e : Ck.Env) (N : Nat) (d : Int) (hA : At w B g tb fq fo gb fb e P0 v0 v1 rb N d) (hx : SPB w B (.mk 7 b s nm has x i l0 l1 l2 l3) q off) (N1 N2 N3 N4 N5 : Nat) (hcn : S.Cnt 7 b nm has x i l0 l1 l2 l3 N d N1 N2 N3 N4 N5) :
    Calls Try.prog 51 #[P g, .pointer (some ⟨q, off, none⟩)] w (StR B g tb fq fo w (Ck.stat P0 rb (.mk 7 b s nm has x i l0 l1 l2 l3) e)) := by
  obtain ⟨a0, z0, a1, z1, a2, z2, a3, z3, hxc⟩ := hx.parts
  obtain ⟨n0, hn0⟩ : ∃ n, n = l0.length := ⟨_, rfl⟩
  obtain ⟨n1, hn1⟩ : ∃ n, n = l1.length := ⟨_, rfl⟩
  obtain ⟨n2, hn2⟩ : ∃ n, n = l2.length := ⟨_, rfl⟩
  obtain ⟨n3, hn3⟩ : ∃ n, n = l3.length := ⟨_, rfl⟩
  rw [← hn0, ← hn1, ← hn2, ← hn3] at hxc
  have HA := Lib.hid hA
  have HXW : Hid (∀ w1, Below B w w1 → SC w1 B 7 b s nm has x i l0 l1 l2 l3 a0 n0 z0 a1 n1 z1 a2 n2 z2 a3 n3 z3 q off) := fun w1 hb => hxc.below hb
  have HXB : Hid (∀ w1, Below B w w1 → SPB w1 B (.mk 7 b s nm has x i l0 l1 l2 l3) q off) := fun w1 hb => hx.below hb
  have HN := Lib.hid (And.intro hn0 (And.intro hn1 (And.intro hn2 hn3)))
  have HBL : Hid (∀ w1, Below w.heap.size w w1 → Below B w w1) := fun w1 hb => hb.mono hA.tb.le
  have c0 := hxc.c0
  have hlq : q < w.heap.size := Nat.lt_of_lt_of_le hxc.lt hA.tb.le
  obtain ⟨R, hR⟩ : ∃ R, R = Ck.stat P0 rb (.mk 7 b s nm has x i l0 l1 l2 l3) e := ⟨_, rfl⟩
  have hR2 : R = Ck.on (Ck.shut (Ck.stats P0 rb l0 e.open)) fun e => Ck.on (Ck.may P0 has x e) fun e => Ck.on (Ck.shut (Ck.stats P0 rb l1 e.open)) fun e => Ck.less (Ck.shut (Ck.stats P0 rb l2 (Ck.more e).open)) := by rw [hR, Ck.stat]; rfl
  rw [← hR]
  have HM : Hid (N ≤ N1) := by have := hcn.m1; show N ≤ N1; omega
  have HCN := Lib.hid hcn
  have HH1 := Lib.hid H1
  have HH2 := Lib.hid H2
  have HWX := Lib.hid hWX
  have hA1 := hA.keep (Below.refl _ _) HM.out hcn.b1
  have HRN0 := Lib.hid (run_ok hA1 hcn.dd (Nat.le_refl _) hcn.b1 (hcn.for0 rfl) hn0.symm H0 hxc.s0.2)
  obtain ⟨R0, hR0⟩ : ∃ R0, R0 = Ck.shut (Ck.stats P0 rb l0 e.open) := ⟨_, rfl⟩
  have HAN0 : Hid (∀ w', Below B w w' → Scp w' B g tb fq fo R0.2 → At w' B g tb fq fo gb fb R0.2 P0 v0 v1 rb N2 d) := fun w' h1 h2 => by rw [hR0] at h2 ⊢; exact hA1.shut hcn.dd (Nat.le_refl _) (hcn.for0 rfl) hcn.b2 h1 h2
  rw [← hR0] at HRN0 hR2
  have HR := Lib.hid hR2
  obtain ⟨r0c, r0e⟩ := R0
  have v0' := hxc.v0
  clear hx hxc hA hn0 hn1 hn2 hn3 hs hWX H0 H1 H2 hcn hR hR2 hA1 hR0
  by_cases h0 : r0c = 0
  · subst h0
    have HR1 : Hid (R = Ck.on (Ck.may P0 has x r0e) fun e => Ck.on (Ck.shut (Ck.stats P0 rb l1 e.open)) fun e => Ck.less (Ck.shut (Ck.stats P0 rb l2 (Ck.more e).open))) := HR.out
    go_enter Try.func51, Try.ntmps51
    go_upto_region 37 with (first | (go_at_call 31; refine HRN0.out.mono ?_; rintro e5 w5 ⟨rfl, hb5, hs5⟩; have HB5 := Lib.hid hb5; have HS5 := Lib.hid hs5; clear hb5 hs5))
    have hx5 := HXW.out w5 HB5.out.1
    have c4 := hx5.c4
    have hlq5 : q < w5.heap.size := Nat.lt_of_lt_of_le hlq HB5.out.1.size
    have hA5 := HAN0.out w5 HB5.out.1 HS5.out
    have HSH : Hid (has = true → X.Shp x ∧ X.Wf x) := fun hh => ⟨HCN.out.shx (by unfold S.looks; rw [hh]; rfl), HWX.out hh⟩
    have HLE := Lib.hid hA5.tb.le
    have HA5 := Lib.hid hA5
    obtain ⟨M, hM⟩ : ∃ M, M = (Ck.may P0 has x r0e).1 := ⟨_, rfl⟩
    have HMB : Hid (∀ w1 : World, Below w5.heap.size w5 w1 → Calls Try.prog 73 #[P g, .bool has, .pointer (some ⟨q, off + 5, none⟩)] w1 (ErR w1 M)) := fun w1 hb => by rw [hM]; exact cmaybe_ok w1 B g tb fq fo gb fb q (off + 5) r0e P0 v0 v1 has x HSH.out (hA5.cx.keep hb) (hx5.below (hb.mono hA5.tb.le)).x
    have hme := Ck.may_env P0 has x r0e
    have HR2 : Hid (R = Ck.on (M, r0e) fun e => Ck.on (Ck.shut (Ck.stats P0 rb l1 e.open)) fun e => Ck.less (Ck.shut (Ck.stats P0 rb l2 (Ck.more e).open))) := by
      show R = _
      rw [HR1.out, show Ck.may P0 has x r0e = (M, r0e) by rw [Prod.ext_iff]; exact ⟨hM.symm, hme⟩]
    clear hx5 hA5 hM hme v0' c0
    refine Rg.wp_region [] (by kernel_rfl) (by kernel_rfl) ?_
    repeat (first | (refine Rg.wpL_nil ?_) | (refine Rg.wpL_skip rfl ?_; simp only [Act.put, List.setIfInBounds_toArray, List.set_cons_zero, List.set_cons_succ]) | (refine Rg.wpL_q rfl rfl (fun K hK => ?_); go_big_quiet_op; refine hK _ ?_; clear hK K) | (refine Rg.wpL_w rfl rfl (fun K hK => ?_); go_wp2_with (first | fail | (go_at_call 73; (first | (refine (HMB.out _ (Below.refl _ _)).mono ?_) | (refine (HMB.out _ (Below.refl _ _).drew).mono ?_)); rintro e6 w6 ⟨rfl, hb6⟩; (first | have HB6 := Lib.hid (Ext.trans (Below.refl w5.heap.size w5) hb6) | have HB6 := Lib.hid (Ext.trans (Below.refl w5.heap.size w5).drew hb6)); clear hb6))))
    by_cases hm : M = 0
    · subst hm
      have HR3 : Hid (R = Ck.on (Ck.shut (Ck.stats P0 rb l1 (Ck.Env.open r0e))) fun e => Ck.less (Ck.shut (Ck.stats P0 rb l2 (Ck.more e).open))) := HR2.out
      go_upto_region 40 with (fail)
      have HBW6 : Hid (Below B w w6) := HB5.out.1.trans (HB6.out.mono HLE.out)
      have hx6 := HXW.out w6 HBW6.out
      have v1' := hx6.v1
      have hlq6 : q < w6.heap.size := Nat.lt_of_lt_of_le hlq5 HB6.out.size
      have HA6 := Lib.hid (HA5.out.keep HB6.out HCN.out.m3 HCN.out.b3)
      have HRN1 := Lib.hid (run_ok HA6.out HCN.out.dd (Nat.le_refl _) HCN.out.b3 (HCN.out.for1 rfl) HN.out.2.1.symm HH1.out hx6.s1.2)
      obtain ⟨R1, hR1⟩ : ∃ R1, R1 = Ck.shut (Ck.stats P0 rb l1 r0e.open) := ⟨_, rfl⟩
      have HAN1 : Hid (∀ w', Below B w6 w' → Scp w' B g tb fq fo R1.2 → At w' B g tb fq fo gb fb R1.2 P0 v0 v1 rb N4 d) := fun w' h1 h2 => by rw [hR1] at h2 ⊢; exact HA6.out.shut HCN.out.dd (Nat.le_refl _) (HCN.out.for1 rfl) HCN.out.b4 h1 h2
      rw [← hR1] at HRN1 HR3
      obtain ⟨r1c, r1e⟩ := R1
      clear hx6 hR1 c4
      by_cases h1 : r1c = 0
      · subst h1
        have HR4 : Hid (R = Ck.less (Ck.shut (Ck.stats P0 rb l2 (Ck.more r1e).open))) := HR3.out
        go_upto_region 43 with (first | (go_at_call 31; refine HRN1.out.mono ?_; rintro e7 w7 ⟨rfl, hb7, hs7⟩; have HB7 := Lib.hid hb7; have HS7 := Lib.hid hs7; clear hb7 hs7))
        have HBW7 : Hid (Below B w w7) := HBW6.out.trans HB7.out.1
        have hx7 := HXW.out w7 HBW7.out
        have v2' := hx7.v2
        have hlq7 : q < w7.heap.size := Nat.lt_of_lt_of_le hlq6 HB7.out.1.size
        have HRN2 := Lib.hid (rep_ok (HAN1.out w7 HB7.out.1 HS7.out) HCN.out.dd (Nat.le_refl _) HCN.out.b4 (HCN.out.for2 (.inr (.inr (.inl rfl)))) HN.out.2.2.1.symm HH2.out hx7.s2.2)
        rw [← HR4.out] at HRN2
        obtain ⟨rc, re⟩ := R
        clear hx7 v1'
        go_wp2_with (first | (go_at_call 77; refine HRN2.out.mono ?_; rintro e8 w8 ⟨rfl, hb8, hs8⟩; have HB8 := Lib.hid hb8; have HS8 := Lib.hid hs8; clear hb8 hs8))
        go_ret
        exact ⟨rfl, ⟨HBW7.out.trans HB8.out.1, ((HB5.out.2.trans (Kx.below HB6.out)).trans HB7.out.2).trans HB8.out.2⟩, HS8.out⟩
      · have HR4 : Hid (R = (r1c, r1e)) := by show R = _; rw [HR3.out]; exact Ck.on_bad h1
        have q1 : (r1c != 0) = true := by simpa using h1
        clear h1
        go_wp2_with (first | (go_at_call 31; refine HRN1.out.mono ?_; rintro e7 w7 ⟨rfl, hb7, hs7⟩; have HB7 := Lib.hid hb7; have HS7 := Lib.hid hs7; clear hb7 hs7))
        go_ret
        exact ⟨by rw [HR4.out]; rfl, ⟨HBW6.out.trans HB7.out.1, (HB5.out.2.trans (Kx.below HB6.out)).trans HB7.out.2⟩, by rw [HR4.out]; exact HS7.out⟩
    · have HR3 : Hid (R = (M, r0e)) := by show R = _; rw [HR2.out]; exact Ck.on_bad hm
      have q1 : (M != 0) = true := by simpa using hm
      clear hm
      go_wp2
      go_ret
      exact ⟨by rw [HR3.out]; rfl, ⟨HB5.out.1.trans (HB6.out.mono HLE.out), HB5.out.2.trans (Kx.below HB6.out)⟩, by rw [HR3.out]; exact HS5.out.keep HB6.out⟩
  · have HR1 : Hid (R = (r0c, r0e)) := by show R = _; rw [HR.out]; exact Ck.on_bad h0
    have q1 : (r0c != 0) = true := by simpa using h0
    clear h0
    go_enter Try.func51, Try.ntmps51
    go_wp2_with (first | (go_at_call 31; refine HRN0.out.mono ?_; rintro e5 w5 ⟨rfl, hb5, hs5⟩; have HB5 := Lib.hid hb5; have HS5 := Lib.hid hs5; clear hb5 hs5))
    go_ret
    exact ⟨by rw [HR1.out]; rfl, HB5.out, by rw [HR1.out]; exact HS5.out⟩
end Go.Proofs.Ythdckndjggljpaa
