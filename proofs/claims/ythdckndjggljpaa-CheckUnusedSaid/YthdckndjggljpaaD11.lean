/- Walks of check: the type of an expression. No condition. -/
import Derived.Test.YthdckndjggljpaaD10
namespace Go.Proofs.Ythdckndjggljpaa
open Go.RowKit Go.Maps
set_option linter.unusedVariables false
set_option linter.unusedSimpArgs false
set_option maxRecDepth 100000
namespace Ck
/-- The types of the kids so far, as pairs. -/
def prs (ts : List Ty) : List (Int × Bool) := ts.map fun t => (t.b, t.s)
theorem prs_snoc {ts : List Ty} {j : Nat} {t : Ty} (h : ts[j]? = some t) : prs (ts.take (j + 1)) = prs (ts.take j) ++ [(t.b, t.s)] := by
  obtain ⟨hl, h⟩ := List.getElem?_eq_some_iff.1 h
  unfold prs
  rw [List.take_succ_eq_append_getElem hl, List.map_append, h]; rfl
end Ck
theorem okU {w w1 w2 : World} {r : Nat} (h : Below w.heap.size w w1) (hr : w.heap.size ≤ r) (a b : Value) : Below w.heap.size w ((w1.setCell ⟨r, 0, none⟩ a).setCell ⟨r, 1, none⟩ b) := Ext.setCell (Ext.setCell h hr _) hr _
theorem row_ty {w : World} {B gv n c : Nat} {l : List (Int × Bool)} (h : w.ownsRow B 33 2 (.slice (some ⟨gv, 0, none⟩) n c) n (Ck.slc l)) {i : Nat} {t : Int × Bool} (hi : l[i]? = some t) :
    w.cell? ⟨gv, i * 2, none⟩ = some (.int .i64 t.1) ∧ w.cell? ⟨gv, i * 2 + 1, none⟩ = some (.bool t.2) := by
  obtain ⟨h1, h2⟩ := Ck.slc_at hi
  have a1 := h.cells (g := gv) rfl _ _ h1
  have a2 := h.cells (g := gv) rfl _ _ h2
  rw [X.add_addr, Nat.zero_add] at a1 a2
  exact ⟨a1, a2⟩
set_option maxHeartbeats 16000000 in
theorem type_main (w : World) (B g tb fq fo gb fb q off : Nat) (e : Ck.Env) (P0 : Pg) (v0 v1 : Value) (k n b : Int) (s : Bool) (nm : ByteArray) (hs : nm.size ≤ maxLen) (ks : List X) (hk8 : ks.length ≤ 8) (hk : 1 ≤ k ∧ k ≤ 26) (h4 : k ≠ 4) (h67 : k = 6 ∨ k = 7 → 1 ≤ ks.length) (h9 : 9 ≤ k → 2 ≤ ks.length)
    (HK : ∀ y ∈ ks, TyI B g tb fq fo gb fb e P0 v0 v1 y) (hc : Cx w B g tb fq fo gb fb e P0 v0 v1) (hx : XPB w B (.mk k n b s nm ks) q off) :
    Calls Try.prog 75 #[P g, .pointer (some ⟨q, off, none⟩)] w (TyR w (Ck.tyOf P0 e k b s nm.data.toList (Ck.tys P0 e ks))) := by
  obtain ⟨V, hV⟩ : ∃ V, V = Ck.tyOf P0 e k b s nm.data.toList (Ck.tys P0 e ks) := ⟨_, rfl⟩
  rw [← hV]
  unfold Ck.tyOf at hV
  rw [if_neg h4] at hV
  obtain ⟨a, c, hxc⟩ := hx.parts
  obtain ⟨NP, hL⟩ : ∃ L, L = ks.length := ⟨_, rfl⟩
  rw [← hL] at hxc hk8 h67 h9
  obtain ⟨ts, hts⟩ : ∃ ts, ts = Ck.tys P0 e ks := ⟨_, rfl⟩
  rw [← hts] at hV
  have HX := Lib.hid hxc
  have HC := Lib.hid hc
  have HV2 := Lib.hid hV
  have HL := Lib.hid hL
  have HTS := Lib.hid hts
  have HKK := Lib.hid HK
  have HK1 := Lib.hid hk
  have H67 := Lib.hid h67
  have H9 := Lib.hid h9
  have HN4 := Lib.hid h4
  have HTL : Hid (ts.length = NP) := by rw [hts, Ck.tys_len]; exact hL.symm
  have HFD : Hid (∀ w1 : World, Below w.heap.size w w1 → Calls Try.prog 97 #[P g, .string nm] w1 (FdR w1 (Ck.find P0 e nm.data.toList))) := fun w1 hb => find_ok w1 B g tb fq fo gb fb e P0 v0 v1 nm hs (hc.keep hb).sc (hc.keep hb).tb hc.lv
  have HXW : Hid (∀ w1, Below w.heap.size w w1 → XC w1 B k n b s nm ks a NP c q off) := fun w1 hb => hxc.below (hb.mono hc.tb.le)
  have q4 : (k != 4) = true := by simpa using h4
  have hlq : q < w.heap.size := Nat.lt_of_lt_of_le hxc.lt hc.tb.le
  clear hV hx hL hxc hc HK hs hts hk h67 h9 h4
  have c0 := (HXW.out w (Below.refl _ _)).c0
  have c5 := (HXW.out w (Below.refl _ _)).c5
  go_enter Try.func75, Try.ntmps75
  go_wp2
  generalize hw1 : World.alloc _ _ = w1
  have H1 : Hid (Below w.heap.size w w1 ∧ Blk w1 w.heap.size 33 #[.int .i64 0, .bool false]) := by
    subst hw1; exact ⟨Ext.alloc (Below.refl _ _) _, Blk.new _ _ _⟩
  clear hw1 c0 c5
  go_loopw [6, 22] (fun v i wr => ∃ (j : Nat) (va : Option Addr) (vc : Nat), j ≤ NP ∧ i = .int .i64 (j : Int) ∧ v = .slice va j vc ∧ Hid (Below w1.heap.size w1 wr) ∧ Hid (Ck.first (ts.take j) = 0) ∧ Hid (wr.ownsRow w1.heap.size 33 2 (.slice va j vc) j (Ck.slc (Ck.prs (ts.take j))))) (fun v i wr => NP - (intOf i).toNat)
  case atStart => exact ⟨0, none, 0, Nat.zero_le _, rfl, rfl, Below.refl _ _, rfl, ⟨rfl, .inl ⟨rfl, rfl⟩⟩⟩
  case round =>
    obtain ⟨j, va, vc, hj, rfl, rfl, HBR, HF0, HO⟩ := hrel
    have HWR : Hid (Below w.heap.size w wr) := Ext.trans H1.out.1 HBR.out
    have hqr := H1.out.2.keep HBR.out
    have x0 := hqr.cell 0; have x1 := hqr.cell 1; have u0 := hqr.frozen 0; have u1 := hqr.frozen 1
    have HQR := Lib.hid hqr
    have hqrl := hqr.lt
    have hlqr : q < wr.heap.size := Nat.lt_of_lt_of_le hlq HWR.out.size
    clear hqr
    by_cases hlt : j < NP
    · have hjl : j < ks.length := by rw [← HL.out]; exact hlt
      obtain ⟨gk, ok, ea, hxy⟩ := (HXW.out wr HWR.out).kid j ks[j] (List.getElem?_eq_getElem hjl)
      subst ea
      have hcr := HC.out.keep HWR.out
      obtain ⟨T, hT⟩ : ∃ T, T = (Ck.ty P0 e ks[j]).val := ⟨_, rfl⟩
      have HVA : Hid (Calls Try.prog 76 #[P g, .pointer (some ⟨gk, ok + j * 6, none⟩)] wr (TyR wr T)) := by
        rw [hT]; exact value_of wr B g tb fq fo gb fb gk (ok + j * 6) e P0 v0 v1 ks[j] (HKK.out _ (List.getElem_mem hjl)) hcr hxy
      have HTJ : Hid (ts[j]? = some T) := by show _ = _; rw [HTS.out, Ck.tys_get, List.getElem?_eq_getElem hjl, hT]; rfl
      have c5 := (HXW.out wr HWR.out).c5
      have hgk8 : NP ≤ 8 := hk8
      obtain ⟨tb0, ts0, te⟩ := T
      clear hT hcr hxy
      by_cases he : te = 0
      · subst he
        go_upto_region 7 with (first | (go_at_call 76; refine HVA.out.mono ?_; rintro e w5 ⟨b5, s5, rfl, hbs5, hb5⟩; have HBS5 := Lib.hid hbs5; have HB5 := Lib.hid hb5; clear hb5 hbs5))
        obtain ⟨rfl, rfl⟩ := HBS5.out trivial
        generalize hw6 : World.alloc _ _ = w6
        have H6 : Hid (Below wr.heap.size wr w6 ∧ Blk w6 w5.heap.size 33 #[.int .i64 b5, .bool s5]) := by
          subst hw6; exact ⟨Ext.alloc HB5.out _, Blk.new _ _ _⟩
        have y0 := H6.out.2.cell 0; have y1 := H6.out.2.cell 1
        have HO6 : Hid (∀ w7, Below w6.heap.size w6 w7 → w7.ownsRow w1.heap.size 33 2 (.slice va j vc) j (Ck.slc (Ck.prs (ts.take j)))) := fun w7 hb => own_heapR HO.out fun k hk => (Ext.trans H6.out.1 hb).block k (own_lowR HO.out k hk).2
        have HS6 : Hid (w1.heap.size ≤ w6.heap.size) := Nat.le_trans HBR.out.size H6.out.1.size
        clear hw6 x0 x1 u0 u1 c5
        go_wp2_with (first | (at_builtin; go_loud (refine wpList_app_ty rfl _ _ rfl w1.heap.size va j vc (Ck.prs (ts.take j)) _ b5 s5 rfl rfl (HO6.out _ (Ext.alloc (Below.refl _ _) _)) (Blk.newAt _ _ rfl) (by omega) (by have := HS6.out; simp; omega) ?_); intro a' c' w7 ho hg7; have HO7 := Lib.hid ho; have HG7 := Lib.hid hg7; clear ho hg7))
        go_roundw
        case rel => exact ⟨j + 1, a', c', by omega, by go_num, rfl, Below.grown (Ext.alloc (Ext.trans HBR.out H6.out.1) _) HG7.out (by have := HS6.out; simp; omega) (fun k hk => (own_lowR HO.out k hk).1), Ck.first_snoc HF0.out HTJ.out rfl, by rw [Ck.prs_snoc HTJ.out]; exact HO7.out⟩
        case measure => simp [intOf]; omega
      · have qe : (te != 0) = true := by simpa using he
        have HV : Hid (V = ⟨0, false, te⟩) := by
          show V = _
          have h0 := Ck.first_take HF0.out HTJ.out he
          rw [HV2.out, h0, if_pos he]
        have HNE := Lib.hid he
        clear he
        go_wp2_with (first | (go_at_call 76; refine HVA.out.mono ?_; rintro e w5 ⟨b5, s5, rfl, _, hb5⟩; have HB5 := Lib.hid hb5; have HQ5 := Lib.hid (HQR.out.keep hb5); have y0 := HQ5.out.cell 0; have y1 := HQ5.out.cell 1; have y2 := HQ5.out.frozen 0; have y3 := HQ5.out.frozen 1; have y4 := HQ5.out.lt; clear hb5))
        generalize hW : World.alloc _ _ = wz
        have HW : Hid (Blk wz w.heap.size 33 #[.int .i64 b5, .bool s5] ∧ Below w.heap.size w wz) := by
          subst hW
          exact ⟨(two_set HQ5.out _ _).alloc _, Ext.alloc (Ext.setCell (Ext.setCell (Ext.trans HWR.out HB5.out) (Nat.le_refl _) _) (Nat.le_refl _) _) _⟩
        clear hW x0 x1 u0 u1 y0 y1 y2 y3
        have q0 := HW.out.1.cell 0; have q1 := HW.out.1.cell 1
        have ql := HW.out.1.lt
        exact bodyPost_ret (v := .tuple #[W.ty b5 s5, .int .i64 te]) (by simp [results, Try.results75, go_sem, q0, q1, ql]) rfl ⟨b5, s5, by rw [HV.out], fun h => by rw [HV.out] at h; exact absurd h HNE.out, HW.out.2⟩
    · obtain rfl : j = NP := by omega
      have hf1 : Ck.first ts = 0 := by
        have h0 := HF0.out
        rwa [List.take_of_length_le (by rw [HTL.out]; exact Nat.le_refl _)] at h0
      have hvd := HV2.out
      rw [if_neg (fun h => h hf1)] at hvd
      have HTK : Hid (ts.take j = ts) := List.take_of_length_le (by rw [HTL.out]; exact Nat.le_refl _)
      have hxr := HXW.out wr HWR.out
      have c0 := hxr.c0; have c2 := hxr.c2; have c3 := hxr.c3; have c4 := hxr.c4
      have HV2 := Lib.hid hvd
      clear hf1 hvd hxr
      by_cases h1 : k = 1 ∨ k = 5
      · have HV : Hid (V = ⟨b, s, 0⟩) := by show V = _; rw [HV2.out, if_pos h1]
        rcases h1 with rfl | rfl
        · go_wp2
          generalize hW : World.setCell _ _ _ = wz
          have HW : Hid (Blk wz w.heap.size 33 #[.int .i64 b, .bool s] ∧ Below w.heap.size w wz) := by
            subst hW
            exact ⟨two_set HQR.out _ _, Ext.setCell (Ext.setCell HWR.out (Nat.le_refl _) _) (Nat.le_refl _) _⟩
          clear hW x0 x1 u0 u1 c0 c2 c3 c4
          have q0 := HW.out.1.cell 0; have q1 := HW.out.1.cell 1
          have ql := HW.out.1.lt
          exact bodyPost_ret (v := .tuple #[W.ty b s, .int .i64 0]) (by simp [results, Try.results75, go_sem, q0, q1, ql]) rfl ⟨b, s, by rw [HV.out], fun _ => by rw [HV.out]; exact ⟨rfl, rfl⟩, HW.out.2⟩
        · go_wp2
          generalize hW : World.setCell _ _ _ = wz
          have HW : Hid (Blk wz w.heap.size 33 #[.int .i64 b, .bool s] ∧ Below w.heap.size w wz) := by
            subst hW
            exact ⟨two_set HQR.out _ _, Ext.setCell (Ext.setCell HWR.out (Nat.le_refl _) _) (Nat.le_refl _) _⟩
          clear hW x0 x1 u0 u1 c0 c2 c3 c4
          have q0 := HW.out.1.cell 0; have q1 := HW.out.1.cell 1
          have ql := HW.out.1.lt
          exact bodyPost_ret (v := .tuple #[W.ty b s, .int .i64 0]) (by simp [results, Try.results75, go_sem, q0, q1, ql]) rfl ⟨b, s, by rw [HV.out], fun _ => by rw [HV.out]; exact ⟨rfl, rfl⟩, HW.out.2⟩
      have hvd := HV2.out
      rw [if_neg h1] at hvd
      have HV2 := Lib.hid hvd
      clear hvd
      have d1 : (k == 1) = false := by simp; omega
      have d5 : (k == 5) = false := by simp; omega
      by_cases h2 : k = 2 ∨ k = 3
      · have hvd := HV2.out
        rw [if_pos h2] at hvd
        cases hf : Ck.find P0 e nm.data.toList with
        | none =>
          rw [hf] at hvd
          have HV : Hid (V = ⟨0, false, 7⟩) := hvd
          have HFD2 : Hid (Calls Try.prog 97 #[P g, .string nm] wr (FdR wr none)) := by have h0 := HFD.out wr HWR.out; rw [hf] at h0; exact h0
          clear hvd hf
          rcases h2 with rfl | rfl <;>
          · go_wp2_with (first | (go_at_call 97; refine HFD2.out.mono ?_; rintro e w5 ⟨rfl, hb5⟩; have HB5 := Lib.hid hb5; have HQ5 := Lib.hid (HQR.out.keep hb5); have y0 := HQ5.out.cell 0; have y1 := HQ5.out.cell 1; have y2 := HQ5.out.frozen 0; have y3 := HQ5.out.frozen 1; have y4 := HQ5.out.lt; unfold Ck.fdV; clear hb5))
            generalize hW : World.alloc _ _ = wz
            have HW : Hid (Blk wz w.heap.size 33 #[.int .i64 0, .bool false] ∧ Below w.heap.size w wz) := by
              subst hW
              exact ⟨(two_set HQ5.out _ _).alloc _, Ext.alloc (Ext.setCell (Ext.setCell (Ext.trans HWR.out HB5.out) (Nat.le_refl _) _) (Nat.le_refl _) _) _⟩
            clear hW x0 x1 u0 u1 y0 y1 y2 y3
            have q0 := HW.out.1.cell 0; have q1 := HW.out.1.cell 1
            have ql := HW.out.1.lt
            exact bodyPost_ret (v := .tuple #[W.ty 0 false, .int .i64 7]) (by simp [results, Try.results75, go_sem, q0, q1, ql]) rfl ⟨0, false, by rw [HV.out], fun h => by rw [HV.out] at h; exact absurd (show (7 : Int) = 0 from h) (by decide), HW.out.2⟩
        | some p =>
          rw [hf] at hvd
          have HV3 : Hid (V = if (decide (0 < p.size)) != (k == 3) then ⟨0, false, 9⟩ else ⟨p.b, p.s, 0⟩) := hvd
          have HFD2 : Hid (Calls Try.prog 97 #[P g, .string nm] wr (FdR wr (some p))) := by have h0 := HFD.out wr HWR.out; rw [hf] at h0; exact h0
          clear hvd hf x0 x1 u0 u1
          rcases h2 with rfl | rfl
          · by_cases hz : 0 < p.size
            · have HV : Hid (V = ⟨0, false, 9⟩) := by
                show V = _
                rw [HV3.out, show decide (0 < p.size) = true by simpa using hz]; rfl
              have dz : decide (p.size > 0) = true := by simpa using hz
              clear hz
              go_upto_region 20 with (first | (go_at_call 97; refine HFD2.out.mono ?_; rintro e w5 ⟨rfl, hb5⟩; have HB5 := Lib.hid hb5; unfold Ck.fdV; clear hb5))
              generalize hw6 : World.alloc _ _ = w6
              have H6 : Hid (Below w.heap.size w w6 ∧ Blk w6 w5.heap.size 112 #[.int .i64 p.b, .bool p.s, .bool p.loc, .int .i64 (p.slot : Int), .int .i64 p.size] ∧ Blk w6 w.heap.size 33 #[.int .i64 0, .bool false]) := by
                subst hw6; exact ⟨Ext.alloc (Ext.trans HWR.out HB5.out) _, Blk.new _ _ _, (HQR.out.keep HB5.out).alloc _⟩
              have p4 := H6.out.2.1.cell 4
              have c0 := (HXW.out _ H6.out.1).c0
              have hp6 := H6.out.2.1.lt
              clear hw6
              refine Rg.wp_region [] (by kernel_rfl) (by kernel_rfl) ?_
              repeat (first | (refine Rg.wpL_nil ?_) | (refine Rg.wpL_skip rfl ?_; simp only [Act.put, List.setIfInBounds_toArray, List.set_cons_zero, List.set_cons_succ]) | (refine Rg.wpL_q rfl rfl (fun K hK => ?_); go_big_quiet_op; refine hK _ ?_; clear hK K) | (refine Rg.wpL_w rfl rfl (fun K hK => ?_); go_wp2_with (first | fail | fail)))
              go_upto_region 21 with (fail)
              generalize hw7 : World.drew w6 = w7
              have H7 : Hid (Below w.heap.size w w7 ∧ Blk w7 w5.heap.size 112 #[.int .i64 p.b, .bool p.s, .bool p.loc, .int .i64 (p.slot : Int), .int .i64 p.size] ∧ Blk w7 w.heap.size 33 #[.int .i64 0, .bool false]) := by
                subst hw7; exact ⟨H6.out.1.drew, H6.out.2.1.drew, H6.out.2.2.drew⟩
              clear hw7 p4 hp6 c0
              have z0 := H7.out.2.2.cell 0; have z1 := H7.out.2.2.cell 1; have z2 := H7.out.2.2.frozen 0; have z3 := H7.out.2.2.frozen 1; have z4 := H7.out.2.2.lt
              have p0 := H7.out.2.1.cell 0; have p1 := H7.out.2.1.cell 1
              go_wp2
              generalize hW : World.setCell _ _ _ = wz
              have HW : Hid (Blk wz w.heap.size 33 #[.int .i64 0, .bool false] ∧ Below w.heap.size w wz) := by
                subst hW
                exact ⟨two_set H7.out.2.2 _ _, Ext.setCell (Ext.setCell H7.out.1 (Nat.le_refl _) _) (Nat.le_refl _) _⟩
              clear hW z0 z1 z2 z3 p0 p1
              have q0 := HW.out.1.cell 0; have q1 := HW.out.1.cell 1
              have ql := HW.out.1.lt
              exact bodyPost_ret (v := .tuple #[W.ty 0 false, .int .i64 9]) (by simp [results, Try.results75, go_sem, q0, q1, ql]) rfl ⟨0, false, by rw [HV.out], fun h => by rw [HV.out] at h; exact absurd (show (9 : Int) = 0 from h) (by decide), HW.out.2⟩
            · have HV : Hid (V = ⟨p.b, p.s, 0⟩) := by
                show V = _
                rw [HV3.out, show decide (0 < p.size) = false by simpa using hz]; rfl
              have dz : decide (p.size > 0) = false := by simpa using hz
              clear hz
              go_upto_region 20 with (first | (go_at_call 97; refine HFD2.out.mono ?_; rintro e w5 ⟨rfl, hb5⟩; have HB5 := Lib.hid hb5; unfold Ck.fdV; clear hb5))
              generalize hw6 : World.alloc _ _ = w6
              have H6 : Hid (Below w.heap.size w w6 ∧ Blk w6 w5.heap.size 112 #[.int .i64 p.b, .bool p.s, .bool p.loc, .int .i64 (p.slot : Int), .int .i64 p.size] ∧ Blk w6 w.heap.size 33 #[.int .i64 0, .bool false]) := by
                subst hw6; exact ⟨Ext.alloc (Ext.trans HWR.out HB5.out) _, Blk.new _ _ _, (HQR.out.keep HB5.out).alloc _⟩
              have p4 := H6.out.2.1.cell 4
              have c0 := (HXW.out _ H6.out.1).c0
              have hp6 := H6.out.2.1.lt
              clear hw6
              refine Rg.wp_region [] (by kernel_rfl) (by kernel_rfl) ?_
              repeat (first | (refine Rg.wpL_nil ?_) | (refine Rg.wpL_skip rfl ?_; simp only [Act.put, List.setIfInBounds_toArray, List.set_cons_zero, List.set_cons_succ]) | (refine Rg.wpL_q rfl rfl (fun K hK => ?_); go_big_quiet_op; refine hK _ ?_; clear hK K) | (refine Rg.wpL_w rfl rfl (fun K hK => ?_); go_wp2_with (first | fail | fail)))
              go_upto_region 22 with (fail)
              generalize hw7 : World.drew w6 = w7
              have H7 : Hid (Below w.heap.size w w7 ∧ Blk w7 w5.heap.size 112 #[.int .i64 p.b, .bool p.s, .bool p.loc, .int .i64 (p.slot : Int), .int .i64 p.size] ∧ Blk w7 w.heap.size 33 #[.int .i64 0, .bool false]) := by
                subst hw7; exact ⟨H6.out.1.drew, H6.out.2.1.drew, H6.out.2.2.drew⟩
              clear hw7 p4 hp6 c0
              have z0 := H7.out.2.2.cell 0; have z1 := H7.out.2.2.cell 1; have z2 := H7.out.2.2.frozen 0; have z3 := H7.out.2.2.frozen 1; have z4 := H7.out.2.2.lt
              have p0 := H7.out.2.1.cell 0; have p1 := H7.out.2.1.cell 1
              go_wp2
              generalize hW : World.setCell _ _ _ = wz
              have HW : Hid (Blk wz w.heap.size 33 #[.int .i64 p.b, .bool p.s] ∧ Below w.heap.size w wz) := by
                subst hW
                exact ⟨two_set H7.out.2.2 _ _, Ext.setCell (Ext.setCell H7.out.1 (Nat.le_refl _) _) (Nat.le_refl _) _⟩
              clear hW z0 z1 z2 z3 p0 p1
              have q0 := HW.out.1.cell 0; have q1 := HW.out.1.cell 1
              have ql := HW.out.1.lt
              exact bodyPost_ret (v := .tuple #[W.ty p.b p.s, .int .i64 0]) (by simp [results, Try.results75, go_sem, q0, q1, ql]) rfl ⟨p.b, p.s, by rw [HV.out], fun _ => by rw [HV.out]; exact ⟨rfl, rfl⟩, HW.out.2⟩
          · by_cases hz : 0 < p.size
            · have HV : Hid (V = ⟨p.b, p.s, 0⟩) := by
                show V = _
                rw [HV3.out, show decide (0 < p.size) = true by simpa using hz]; rfl
              have dz : decide (p.size > 0) = true := by simpa using hz
              clear hz
              go_upto_region 20 with (first | (go_at_call 97; refine HFD2.out.mono ?_; rintro e w5 ⟨rfl, hb5⟩; have HB5 := Lib.hid hb5; unfold Ck.fdV; clear hb5))
              generalize hw6 : World.alloc _ _ = w6
              have H6 : Hid (Below w.heap.size w w6 ∧ Blk w6 w5.heap.size 112 #[.int .i64 p.b, .bool p.s, .bool p.loc, .int .i64 (p.slot : Int), .int .i64 p.size] ∧ Blk w6 w.heap.size 33 #[.int .i64 0, .bool false]) := by
                subst hw6; exact ⟨Ext.alloc (Ext.trans HWR.out HB5.out) _, Blk.new _ _ _, (HQR.out.keep HB5.out).alloc _⟩
              have p4 := H6.out.2.1.cell 4
              have c0 := (HXW.out _ H6.out.1).c0
              have hp6 := H6.out.2.1.lt
              clear hw6
              refine Rg.wp_region [] (by kernel_rfl) (by kernel_rfl) ?_
              repeat (first | (refine Rg.wpL_nil ?_) | (refine Rg.wpL_skip rfl ?_; simp only [Act.put, List.setIfInBounds_toArray, List.set_cons_zero, List.set_cons_succ]) | (refine Rg.wpL_q rfl rfl (fun K hK => ?_); go_big_quiet_op; refine hK _ ?_; clear hK K) | (refine Rg.wpL_w rfl rfl (fun K hK => ?_); go_wp2_with (first | fail | fail)))
              go_upto_region 22 with (fail)
              generalize hw7 : World.drew w6 = w7
              have H7 : Hid (Below w.heap.size w w7 ∧ Blk w7 w5.heap.size 112 #[.int .i64 p.b, .bool p.s, .bool p.loc, .int .i64 (p.slot : Int), .int .i64 p.size] ∧ Blk w7 w.heap.size 33 #[.int .i64 0, .bool false]) := by
                subst hw7; exact ⟨H6.out.1.drew, H6.out.2.1.drew, H6.out.2.2.drew⟩
              clear hw7 p4 hp6 c0
              have z0 := H7.out.2.2.cell 0; have z1 := H7.out.2.2.cell 1; have z2 := H7.out.2.2.frozen 0; have z3 := H7.out.2.2.frozen 1; have z4 := H7.out.2.2.lt
              have p0 := H7.out.2.1.cell 0; have p1 := H7.out.2.1.cell 1
              go_wp2
              generalize hW : World.setCell _ _ _ = wz
              have HW : Hid (Blk wz w.heap.size 33 #[.int .i64 p.b, .bool p.s] ∧ Below w.heap.size w wz) := by
                subst hW
                exact ⟨two_set H7.out.2.2 _ _, Ext.setCell (Ext.setCell H7.out.1 (Nat.le_refl _) _) (Nat.le_refl _) _⟩
              clear hW z0 z1 z2 z3 p0 p1
              have q0 := HW.out.1.cell 0; have q1 := HW.out.1.cell 1
              have ql := HW.out.1.lt
              exact bodyPost_ret (v := .tuple #[W.ty p.b p.s, .int .i64 0]) (by simp [results, Try.results75, go_sem, q0, q1, ql]) rfl ⟨p.b, p.s, by rw [HV.out], fun _ => by rw [HV.out]; exact ⟨rfl, rfl⟩, HW.out.2⟩
            · have HV : Hid (V = ⟨0, false, 9⟩) := by
                show V = _
                rw [HV3.out, show decide (0 < p.size) = false by simpa using hz]; rfl
              have dz : decide (p.size > 0) = false := by simpa using hz
              clear hz
              go_upto_region 20 with (first | (go_at_call 97; refine HFD2.out.mono ?_; rintro e w5 ⟨rfl, hb5⟩; have HB5 := Lib.hid hb5; unfold Ck.fdV; clear hb5))
              generalize hw6 : World.alloc _ _ = w6
              have H6 : Hid (Below w.heap.size w w6 ∧ Blk w6 w5.heap.size 112 #[.int .i64 p.b, .bool p.s, .bool p.loc, .int .i64 (p.slot : Int), .int .i64 p.size] ∧ Blk w6 w.heap.size 33 #[.int .i64 0, .bool false]) := by
                subst hw6; exact ⟨Ext.alloc (Ext.trans HWR.out HB5.out) _, Blk.new _ _ _, (HQR.out.keep HB5.out).alloc _⟩
              have p4 := H6.out.2.1.cell 4
              have c0 := (HXW.out _ H6.out.1).c0
              have hp6 := H6.out.2.1.lt
              clear hw6
              refine Rg.wp_region [] (by kernel_rfl) (by kernel_rfl) ?_
              repeat (first | (refine Rg.wpL_nil ?_) | (refine Rg.wpL_skip rfl ?_; simp only [Act.put, List.setIfInBounds_toArray, List.set_cons_zero, List.set_cons_succ]) | (refine Rg.wpL_q rfl rfl (fun K hK => ?_); go_big_quiet_op; refine hK _ ?_; clear hK K) | (refine Rg.wpL_w rfl rfl (fun K hK => ?_); go_wp2_with (first | fail | fail)))
              go_upto_region 21 with (fail)
              generalize hw7 : World.drew w6 = w7
              have H7 : Hid (Below w.heap.size w w7 ∧ Blk w7 w5.heap.size 112 #[.int .i64 p.b, .bool p.s, .bool p.loc, .int .i64 (p.slot : Int), .int .i64 p.size] ∧ Blk w7 w.heap.size 33 #[.int .i64 0, .bool false]) := by
                subst hw7; exact ⟨H6.out.1.drew, H6.out.2.1.drew, H6.out.2.2.drew⟩
              clear hw7 p4 hp6 c0
              have z0 := H7.out.2.2.cell 0; have z1 := H7.out.2.2.cell 1; have z2 := H7.out.2.2.frozen 0; have z3 := H7.out.2.2.frozen 1; have z4 := H7.out.2.2.lt
              have p0 := H7.out.2.1.cell 0; have p1 := H7.out.2.1.cell 1
              go_wp2
              generalize hW : World.setCell _ _ _ = wz
              have HW : Hid (Blk wz w.heap.size 33 #[.int .i64 0, .bool false] ∧ Below w.heap.size w wz) := by
                subst hW
                exact ⟨two_set H7.out.2.2 _ _, Ext.setCell (Ext.setCell H7.out.1 (Nat.le_refl _) _) (Nat.le_refl _) _⟩
              clear hW z0 z1 z2 z3 p0 p1
              have q0 := HW.out.1.cell 0; have q1 := HW.out.1.cell 1
              have ql := HW.out.1.lt
              exact bodyPost_ret (v := .tuple #[W.ty 0 false, .int .i64 9]) (by simp [results, Try.results75, go_sem, q0, q1, ql]) rfl ⟨0, false, by rw [HV.out], fun h => by rw [HV.out] at h; exact absurd (show (9 : Int) = 0 from h) (by decide), HW.out.2⟩
      have hvd := HV2.out
      rw [if_neg h2] at hvd
      have HV2 := Lib.hid hvd
      clear hvd
      have d2 : (k == 2) = false := by simp; omega
      have d3 : (k == 3) = false := by simp; omega
      have d4 : (k == 4) = false := by have := HN4.out; simpa using this
      by_cases h3 : k = 6 ∨ k = 7
      · have hj1 : 1 ≤ j := H67.out h3
        obtain ⟨gv, rfl⟩ : ∃ gv, va = some ⟨gv, 0, none⟩ := by
          rcases HO.out.2 with ⟨_, h0⟩ | ⟨g', cap, cur, ev, _⟩
          · omega
          · injection ev with ev; exact ⟨_, ev⟩
        obtain ⟨t0, ht0⟩ : ∃ t0, ts[0]? = some t0 := ⟨_, List.getElem?_eq_getElem (by rw [HTL.out]; exact hj1)⟩
        have hrow := row_ty HO.out (i := 0) (t := (t0.b, t0.s)) (by rw [HTK.out]; unfold Ck.prs; rw [List.getElem?_map, ht0]; rfl)
        simp only [Nat.zero_mul, Nat.zero_add] at hrow
        obtain ⟨r0, r1⟩ := hrow
        have HV : Hid (V = ⟨W.pb t0.b, W.ps t0.b t0.s, 0⟩) := by
          have hvd := HV2.out
          rw [if_pos h3] at hvd
          show V = _
          rw [hvd, List.headD_eq_head?_getD, List.head?_eq_getElem?, ht0]; rfl
        obtain ⟨tb0, ts0, te0⟩ := t0
        have hvc : (j : Int) ≤ (vc : Int) := by obtain ⟨_, _, e2, h2', h3'⟩ := own_sliceX HO.out; injection e2 with _ _ e2; omega
        clear ht0
        rcases h3 with rfl | rfl <;>
        · go_wp2_with (first | (go_at_call 61; refine (promote_ok _ _ _).mono ?_; rintro e w5 ⟨rfl, hb5⟩; have HB5 := Lib.hid hb5; have HQ5 := Lib.hid (HQR.out.keep hb5); have y0 := HQ5.out.cell 0; have y1 := HQ5.out.cell 1; have y2 := HQ5.out.frozen 0; have y3 := HQ5.out.frozen 1; have y4 := HQ5.out.lt; clear hb5))
          generalize hW : World.setCell _ _ _ = wz
          have HW : Hid (Blk wz w.heap.size 33 #[.int .i64 (W.pb tb0), .bool (W.ps tb0 ts0)] ∧ Below w.heap.size w wz) := by
            subst hW
            exact ⟨two_set HQ5.out _ _, Ext.setCell (Ext.setCell (Ext.trans HWR.out HB5.out) (Nat.le_refl _) _) (Nat.le_refl _) _⟩
          clear hW x0 x1 u0 u1 y0 y1 y2 y3
          have q0 := HW.out.1.cell 0; have q1 := HW.out.1.cell 1
          have ql := HW.out.1.lt
          exact bodyPost_ret (v := .tuple #[W.ty (W.pb tb0) (W.ps tb0 ts0), .int .i64 0]) (by simp [results, Try.results75, go_sem, q0, q1, ql]) rfl ⟨W.pb tb0, W.ps tb0 ts0, by rw [HV.out], fun _ => by rw [HV.out]; exact ⟨rfl, rfl⟩, HW.out.2⟩
      have d6 : (k == 6) = false := by simp; omega
      have d7 : (k == 7) = false := by simp; omega
      by_cases h5 : k = 8 ∨ k = 25 ∨ k = 26
      · have HV : Hid (V = ⟨16, true, 0⟩) := by show V = _; rw [HV2.out, if_neg h3, if_pos h5]
        rcases h5 with rfl | rfl | rfl <;>
        · go_wp2
          generalize hW : World.alloc _ _ = wz
          have HW : Hid (Blk wz w.heap.size 33 #[.int .i64 16, .bool true] ∧ Below w.heap.size w wz) := by
            subst hW
            exact ⟨(two_set HQR.out _ _).alloc _, Ext.alloc (Ext.setCell (Ext.setCell HWR.out (Nat.le_refl _) _) (Nat.le_refl _) _) _⟩
          clear hW x0 x1 u0 u1
          have q0 := HW.out.1.cell 0; have q1 := HW.out.1.cell 1
          have ql := HW.out.1.lt
          exact bodyPost_ret (v := .tuple #[W.ty 16 true, .int .i64 0]) (by simp [results, Try.results75, go_sem, q0, q1, ql]) rfl ⟨16, true, by rw [HV.out], fun _ => by rw [HV.out]; exact ⟨rfl, rfl⟩, HW.out.2⟩
      have d8 : (k == 8) = false := by simp; omega
      have d25 : (k == 25) = false := by simp; omega
      have d26 : (k == 26) = false := by simp; omega
      have hk9 : 9 ≤ k := by have := HK1.out; have := HN4.out; omega
      have hj2 : 2 ≤ j := H9.out hk9
      obtain ⟨gv, rfl⟩ : ∃ gv, va = some ⟨gv, 0, none⟩ := by
        rcases HO.out.2 with ⟨_, h0⟩ | ⟨g', cap, cur, ev, _⟩
        · omega
        · injection ev with ev; exact ⟨_, ev⟩
      obtain ⟨t0, ht0⟩ : ∃ t0, ts[0]? = some t0 := ⟨_, List.getElem?_eq_getElem (by rw [HTL.out]; omega)⟩
      obtain ⟨t1, ht1⟩ : ∃ t1, ts[1]? = some t1 := ⟨_, List.getElem?_eq_getElem (by rw [HTL.out]; omega)⟩
      have hrow := row_ty HO.out (i := 0) (t := (t0.b, t0.s)) (by rw [HTK.out]; unfold Ck.prs; rw [List.getElem?_map, ht0]; rfl)
      have hrow1 := row_ty HO.out (i := 1) (t := (t1.b, t1.s)) (by rw [HTK.out]; unfold Ck.prs; rw [List.getElem?_map, ht1]; rfl)
      simp only [Nat.zero_mul, Nat.zero_add, Nat.one_mul, Nat.reduceAdd] at hrow hrow1
      obtain ⟨r0, r1⟩ := hrow
      obtain ⟨r2, r3⟩ := hrow1
      have HV : Hid (V = ⟨W.rb k t0.b t1.b, W.rs k t0.b t0.s t1.b t1.s, 0⟩) := by
        show V = _
        rw [HV2.out, if_neg h3, if_neg h5, List.getD_eq_getElem?_getD, List.getD_eq_getElem?_getD, ht0, ht1]; rfl
      obtain ⟨tb0, ts0, te0⟩ := t0
      obtain ⟨tb1, ts1, te1⟩ := t1
      have hvc : (j : Int) ≤ (vc : Int) := by obtain ⟨_, _, e2, h2', h3'⟩ := own_sliceX HO.out; injection e2 with _ _ e2; omega
      obtain ⟨RB, hRB⟩ : ∃ RB, RB = W.rb k tb0 tb1 := ⟨_, rfl⟩
      obtain ⟨RS, hRS⟩ : ∃ RS, RS = W.rs k tb0 ts0 tb1 ts1 := ⟨_, rfl⟩
      have HRE : Hid (∀ w1 : World, Calls Try.prog 47 #[.int .i64 k, W.ty tb0 ts0, W.ty tb1 ts1] w1 fun e w' => e = .returned (W.ty RB RS) ∧ Below w1.heap.size w1 w') := fun w1 => by rw [hRB, hRS]; exact result_ok k tb0 tb1 ts0 ts1 w1
      rw [← hRB, ← hRS] at HV
      clear ht0 ht1 h1 h2 h3 h5 hRB hRS hk9
      go_upto_region 32 with (fail)
      refine Rg.wp_region [] (by kernel_rfl) (by kernel_rfl) ?_
      repeat (first | (refine Rg.wpL_nil ?_) | (refine Rg.wpL_skip rfl ?_; simp only [Act.put, List.setIfInBounds_toArray, List.set_cons_zero, List.set_cons_succ]) | (refine Rg.wpL_q rfl rfl (fun K hK => ?_); go_big_quiet_op; refine hK _ ?_; clear hK K) | (refine Rg.wpL_w rfl rfl (fun K hK => ?_); go_wp2_with (first | fail | (go_at_call 47; refine (HRE.out _).mono ?_; rintro e w5 ⟨rfl, hb5⟩; (first | (have HQ5 := Lib.hid (HQR.out.keep hb5); have HW5 := Lib.hid (Ext.trans HWR.out hb5)) | (have HQ5 := Lib.hid (HQR.out.drew.keep hb5); have HW5 := Lib.hid (Ext.trans HWR.out.drew hb5))); have y0 := HQ5.out.cell 0; have y1 := HQ5.out.cell 1; have y2 := HQ5.out.frozen 0; have y3 := HQ5.out.frozen 1; have y4 := HQ5.out.lt; clear hb5))))
      go_wp2

      generalize hW : World.setCell _ _ _ = wz
      have HW : Hid (Blk wz w.heap.size 33 #[.int .i64 RB, .bool RS] ∧ Below w.heap.size w wz) := by
        subst hW
        exact ⟨two_set HQ5.out _ _, Ext.setCell (Ext.setCell HW5.out (Nat.le_refl _) _) (Nat.le_refl _) _⟩
      clear hW x0 x1 u0 u1 y0 y1 y2 y3
      have q0 := HW.out.1.cell 0; have q1 := HW.out.1.cell 1
      have ql := HW.out.1.lt
      exact bodyPost_ret (v := .tuple #[W.ty RB RS, .int .i64 0]) (by simp [results, Try.results75, go_sem, q0, q1, ql]) rfl ⟨RB, RS, by rw [HV.out], fun _ => by rw [HV.out]; exact ⟨rfl, rfl⟩, HW.out.2⟩
end Go.Proofs.Ythdckndjggljpaa
