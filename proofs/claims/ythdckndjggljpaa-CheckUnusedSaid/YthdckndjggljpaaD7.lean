/- Walks of check: what a name stands for. No condition. -/
import Derived.Test.YthdckndjggljpaaD6
namespace Go.Proofs.Ythdckndjggljpaa
open Go.RowKit Go.Maps
set_option linter.unusedVariables false
set_option linter.unusedSimpArgs false
set_option maxRecDepth 100000
namespace Ck
theorem glob_from (n : Nm) : ∀ (l : List Gl) (k : Nat), ((l.zipIdx k).find? (fun g => g.1.nm.data.toList == n)).map (fun g => (g.2, g.1)) = match idx (fun g : Gl => g.nm.data.toList) l n with | none => none | some i => (l[i]?).map fun g => (k + i, g)
  | [], k => rfl
  | x :: l, k => by
    rw [List.zipIdx_cons, List.find?_cons]
    unfold idx
    rw [List.findIdx?_cons]
    cases hx : (x.nm.data.toList == n) with
    | true => simp
    | false =>
      have ih := glob_from n l (k + 1)
      simp only [Bool.false_eq_true, if_false]
      rw [ih]
      unfold idx
      cases List.findIdx? (fun g : Gl => g.nm.data.toList == n) l with
      | none => rfl
      | some i => simp [Nat.add_assoc, Nat.add_comm 1 i]
theorem glob_eq (l : List Gl) (n : Nm) : glob? l n = match idx (fun g : Gl => g.nm.data.toList) l n with | none => none | some i => (l[i]?).map fun g => (i, g) := by
  have := glob_from n l 0
  simpa [glob?] using this
theorem idx_lt {α : Type} {nm : α → Nm} {l : List α} {n : Nm} {i : Nat} (h : idx nm l n = some i) : i < l.length := by
  unfold idx at h
  rw [List.findIdx?_eq_some_iff_getElem] at h
  exact h.1
/-- What is found, as a value. -/
def fdV : Option Pl → Value
  | some p => .tuple #[plV p.b p.s p.loc p.slot p.size, .bool true]
  | none => .tuple #[plV 0 false false 0 0, .bool false]
end Ck
/-- What comes of looking for a name. -/
def FdR (w : World) (R : Option Ck.Pl) (e : Ending) (w' : World) : Prop := e = .returned (Ck.fdV R) ∧ Below w.heap.size w w'
theorem look_pl {w : World} {b n : Nat} {l : List Ck.Loc} {s : ByteArray} (h : SMap plE Ck.locD w b n (Ck.lfn l)) (hs : s.size ≤ maxLen) :
    (Instr.lookup 135 (.map (some b)) (.string s) true).run Try.prog w = .ok (.tuple #[match Ck.lfn l s.data.toList with | some x => plV x.b x.s true x.slot 0 | none => plV 0 false false 0 0, .bool (Ck.lfn l s.data.toList).isSome]) w := by
  obtain ⟨v, ps, hr, hv⟩ := h.look_ok Try.underlying135 (z := plV 0 false false 0 0) (by kernel_rfl) (plE_mk 0 false false 0 0) hs
  rw [hr]
  cases hx : Ck.lfn l s.data.toList with
  | none => rw [hx] at hv; rw [plE_inv hv]
  | some x => rw [hx] at hv; rw [plE_inv (b := x.b) hv]
theorem look_in {w : World} {b n : Nat} {f : List UInt8 → Option Nat} {s : ByteArray} (h : SMap inE (fun i : Nat => .lit (.int .i64 (i : Int))) w b n f) (hs : s.size ≤ maxLen) :
    (Instr.lookup 69 (.map (some b)) (.string s) true).run Try.prog w = .ok (.tuple #[.int .i64 (((f s.data.toList).getD 0 : Nat) : Int), .bool (f s.data.toList).isSome]) w := by
  obtain ⟨v, ps, hr, hv⟩ := h.look_ok Try.underlying69 (z := .int .i64 0) (by kernel_rfl) (plainElem_int Try.underlying3 (by decide)) hs
  rw [hr]
  cases hx : f s.data.toList with
  | none => rw [hx] at hv; rw [inE_inv hv]; rfl
  | some x => rw [hx] at hv; rw [inE_inv hv]; rfl
theorem five_set {w : World} {r : Nat} {t : TypeId} {a0 a1 a2 a3 a4 : Value} (h : Blk w r t #[a0, a1, a2, a3, a4]) (x0 x1 x2 x3 x4 : Value) :
    Blk (((((w.setCell ⟨r, 0, none⟩ x0).setCell ⟨r, 1, none⟩ x1).setCell ⟨r, 2, none⟩ x2).setCell ⟨r, 3, none⟩ x3).setCell ⟨r, 4, none⟩ x4) r t #[x0, x1, x2, x3, x4] := by
  simpa using ((((h.set_ 0 x0).set_ 1 x1).set_ 2 x2).set_ 3 x3).set_ 4 x4
theorem five_ext {W0 w : World} {B r : Nat} (h : Below B W0 w) (hr : B ≤ r) (x0 x1 x2 x3 x4 : Value) :
    Below B W0 (((((w.setCell ⟨r, 0, none⟩ x0).setCell ⟨r, 1, none⟩ x1).setCell ⟨r, 2, none⟩ x2).setCell ⟨r, 3, none⟩ x3).setCell ⟨r, 4, none⟩ x4) :=
  ((((h.setCell hr _).setCell hr _).setCell hr _).setCell hr _).setCell hr _
set_option maxHeartbeats 16000000 in
theorem find_ok (w : World) (B g tb fq fo gb fb : Nat) (e : Ck.Env) (P0 : Pg) (v0 v1 : Value) (nm : ByteArray) (hs : nm.size ≤ maxLen) (h : Scp w B g tb fq fo e) (ht : Tb w B tb P0 v0 v1 gb fb) (hl : e.lv.length ≤ 1000) :
    Calls Try.prog 97 #[P g, .string nm] w (FdR w (Ck.find P0 e nm.data.toList)) := by
  obtain ⟨la, lc, ub, sa, sc, bs, h⟩ := h
  obtain ⟨R, hR⟩ : ∃ R, R = Ck.find P0 e nm.data.toList := ⟨_, rfl⟩
  rw [← hR]
  obtain ⟨n, hn⟩ : ∃ n, n = e.lv.length := ⟨_, rfl⟩
  have hle : n ≤ lc := by obtain ⟨_, _, e2, h2, h3⟩ := own_sliceX h.lv; injection e2 with _ _ e2; omega
  have H := Lib.hid h
  have HT := Lib.hid ht
  have HR := Lib.hid hR
  have HN := Lib.hid hn
  have HS := Lib.hid hs
  have HG : Hid (∀ w1, Below w.heap.size w w1 → w1.cell? ⟨g, 1, none⟩ = some (.slice la n lc) ∧ w1.cell? ⟨g, 0, none⟩ = some (P tb)) := fun w1 hb => by
    have h0 := (h.keep hb).blk
    exact ⟨by rw [h0.cell 1, hn]; rfl, h0.cell 0⟩
  rw [← hn] at hl
  have c1 := (HG.out w (Below.refl _ _)).1
  have hgl := h.blk.lt
  clear h ht hR hn hs
  go_enter Try.func97, Try.ntmps97
  go_wp2
  generalize hw1 : World.alloc _ _ = w1
  have HB1 : Hid (Below w.heap.size w w1 ∧ Blk w1 w.heap.size 112 #[.int .i64 0, .bool false, .bool false, .int .i64 0, .int .i64 0]) := by
    subst hw1; exact ⟨Ext.alloc (Below.refl _ _) _, Blk.new w _ _⟩
  clear hw1 c1
  go_loopw [6] (fun i wr => ∃ k : Nat, k ≤ n ∧ i = .int .i64 ((k : Int) - 1) ∧ Hid (Below w1.heap.size w1 wr) ∧ Hid (Ck.lfs (e.lv.take k) nm.data.toList = Ck.lfs e.lv nm.data.toList)) (fun i wr => (intOf i + 1).toNat)
  case atStart => exact ⟨n, Nat.le_refl _, rfl, Below.refl _ _, by show _ = _; rw [HN.out, List.take_length]⟩
  case round =>
    obtain ⟨k, hk, rfl, HB, HLK⟩ := hrel
    have HBW : Hid (Below w.heap.size w wr) := Ext.trans HB1.out.1 HB.out
    have hr5 := HB1.out.2.keep HB.out
    have r0 := hr5.cell 0; have r1 := hr5.cell 1; have r2 := hr5.cell 2; have r3 := hr5.cell 3; have r4 := hr5.cell 4
    have s0 := hr5.frozen 0; have s1 := hr5.frozen 1; have s2 := hr5.frozen 2; have s3 := hr5.frozen 3; have s4 := hr5.frozen 4
    have hrl := hr5.lt
    have HR5 := Lib.hid hr5
    clear hr5
    by_cases hk1 : 1 ≤ k
    · obtain ⟨j, rfl⟩ : ∃ j, k = j + 1 := ⟨k - 1, by omega⟩
      have ej : ((j + 1 : Nat) : Int) - 1 = (j : Int) := by omega
      rw [ej]
      obtain ⟨lb, rfl⟩ : ∃ lb, la = some ⟨lb, 0, none⟩ := by
        rcases H.out.lv.2 with ⟨_, h0⟩ | ⟨g', cap, cur, ev, _⟩
        · have := HN.out; omega
        · injection ev with ev; exact ⟨_, ev⟩
      obtain ⟨b, hb⟩ : ∃ b, bs[j]? = some b := ⟨_, List.getElem?_eq_getElem (by rw [H.out.len, ← HN.out]; omega)⟩
      have hc := ((H.out.keep HBW.out).lv).cells (g := lb) rfl j (.map (some b)) (by rw [List.getElem?_map, hb]; rfl)
      rw [X.add_addr, Nat.zero_add] at hc
      have hrun := look_pl (((H.out.keep HBW.out).maps j b hb).2) HS.out
      have c1 := (HG.out wr HBW.out).1
      have HTK : Hid (Ck.lfs (e.lv.take (j + 1)) nm.data.toList = (Ck.lfn (e.lv.getD j []) nm.data.toList).or (Ck.lfs (e.lv.take j) nm.data.toList)) := Ck.lfs_take (by rw [← HN.out]; omega) _
      clear hb ej hk1
      cases hx : Ck.lfn (e.lv.getD j []) nm.data.toList with
      | some x =>
        rw [hx] at hrun HTK
        have HLC : Hid (R = some ⟨x.b, x.s, true, x.slot, 0⟩) := by
          have h1 : Ck.lfs e.lv nm.data.toList = some x := by rw [← HLK.out, HTK.out]; rfl
          show R = _
          rw [HR.out]; unfold Ck.find; rw [Ck.local_eq, h1]
        clear hx
        go_wp2
        generalize hW : World.alloc _ _ = W
        have HW : Hid (Blk W w.heap.size 112 #[.int .i64 x.b, .bool x.s, .bool true, .int .i64 (x.slot : Int), .int .i64 0] ∧ Below w.heap.size w W) := by
          subst hW
          exact ⟨(five_set HR5.out _ _ _ _ _).alloc _, Ext.alloc (five_ext HBW.out (Nat.le_refl _) _ _ _ _ _) _⟩
        clear hW r0 r1 r2 r3 r4 s0 s1 s2 s3 s4
        have q0 := HW.out.1.cell 0; have q1 := HW.out.1.cell 1; have q2 := HW.out.1.cell 2; have q3 := HW.out.1.cell 3; have q4 := HW.out.1.cell 4
        have ql := HW.out.1.lt
        exact bodyPost_ret (v := .tuple #[plV x.b x.s true x.slot 0, .bool true]) (by simp [results, Try.results97, go_sem, q0, q1, q2, q3, q4, ql]) rfl ⟨by rw [HLC.out]; rfl, HW.out.2⟩
      | none =>
        rw [hx] at hrun HTK
        have HLC : Hid (Ck.lfs (e.lv.take j) nm.data.toList = Ck.lfs e.lv nm.data.toList) := by
          show _ = _
          rw [← HLK.out, HTK.out]; rfl
        clear hx
        go_wp2
        go_roundw
        case rel => exact ⟨j, by omega, rfl, Ext.alloc HB.out _, HLC⟩
        case measure => simp [intOf]
    · obtain rfl : k = 0 := by omega
      have HNO : Hid (e.local? nm.data.toList = none) := by
        show _ = _
        rw [Ck.local_eq, ← HLK.out, List.take_zero]; rfl
      have hti := HT.out.below (HBW.out.mono HT.out.le)
      obtain ⟨a0, c0, e0, h01, h02, hga⟩ := hti.pg.1.parts
      have HGA := Lib.hid hga
      subst e0
      have t0 := hti.blk.cell 0
      have t2 := hti.blk.cell 2
      have hbl := hti.blk.lt
      have hrun := look_in hti.gm HS.out
      have hg0 := (HG.out wr HBW.out).2
      have hgw := (H.out.keep HBW.out).blk.lt
      have HGE := Lib.hid (Ck.glob_eq P0.gs nm.data.toList)
      clear hga hti
      cases hx : Ck.idx (fun g : Gl => g.nm.data.toList) P0.gs nm.data.toList with
      | none =>
        rw [hx] at hrun HGE
        have HLC : Hid (R = none) := by
          show R = _
          rw [HR.out]; unfold Ck.find; rw [HNO.out]; show ((Ck.glob? P0.gs nm.data.toList).map _) = none; rw [HGE.out]; rfl
        clear hx
        go_wp2
        generalize hW : World.setCell _ _ _ = W
        have HW : Hid (Blk W w.heap.size 112 #[.int .i64 0, .bool false, .bool false, .int .i64 0, .int .i64 0] ∧ Below w.heap.size w W) := by
          subst hW
          exact ⟨(five_set HR5.out _ _ _ _ _), five_ext HBW.out (Nat.le_refl _) _ _ _ _ _⟩
        clear hW r0 r1 r2 r3 r4 s0 s1 s2 s3 s4
        have q0 := HW.out.1.cell 0; have q1 := HW.out.1.cell 1; have q2 := HW.out.1.cell 2; have q3 := HW.out.1.cell 3; have q4 := HW.out.1.cell 4
        have ql := HW.out.1.lt
        exact bodyPost_ret (v := .tuple #[plV 0 false false 0 0, .bool false]) (by simp [results, Try.results97, go_sem, q0, q1, q2, q3, q4, ql]) rfl ⟨by rw [HLC.out]; rfl, HW.out.2⟩
      | some i =>
        rw [hx] at hrun HGE
        have hil := Ck.idx_lt hx
        obtain ⟨gg, off, cs, hpb, ea, ⟨vi, rfl, hrow⟩, hcell⟩ := HGA.out i P0.gs[i] (List.getElem?_eq_getElem hil)
        subst ea
        obtain ⟨ai, ci, ei, _, _, _⟩ := hrow.parts
        obtain ⟨Li, hLi⟩ : ∃ Li, Li = P0.gs[i].ini.length := ⟨_, rfl⟩
        rw [← hLi] at ei
        subst ei
        have HLC : Hid (R = some ⟨P0.gs[i].b, P0.gs[i].s, false, i, P0.gs[i].size⟩) := by
          show R = _
          rw [HR.out]; unfold Ck.find; rw [HNO.out]; show ((Ck.glob? P0.gs nm.data.toList).map _) = _; rw [HGE.out]
          show (((P0.gs[i]?).map _).map _) = _
          rw [List.getElem?_eq_getElem hil]; rfl
        have g0 := hcell 0 _ rfl; have g1 := hcell 1 _ rfl; have g2 := hcell 2 _ rfl; have g3 := hcell 3 _ rfl; have g4 := hcell 4 _ rfl
        obtain ⟨G, hG⟩ : ∃ G, G = P0.gs[i] := ⟨_, rfl⟩
        rw [← hG] at g0 g1 g2 g3 HLC
        obtain ⟨L, hL⟩ : ∃ L, L = P0.gs.length := ⟨_, rfl⟩
        rw [← hL] at t0 hil h01
        simp only [Option.getD_some, Option.isSome_some] at hrun
        rw [Nat.add_zero] at g0
        have hggl := World.block_lt_of_cell? _ _ g0
        clear hx hcell hG hL hrow hLi
        go_wp2
        generalize hW : World.alloc _ _ = W
        have HW : Hid (Blk W w.heap.size 112 #[.int .i64 G.b, .bool G.s, .bool false, .int .i64 (i : Int), .int .i64 G.size] ∧ Below w.heap.size w W) := by
          subst hW
          exact ⟨(five_set HR5.out _ _ _ _ _).alloc _, Ext.alloc (five_ext HBW.out (Nat.le_refl _) _ _ _ _ _) _⟩
        clear hW r0 r1 r2 r3 r4 s0 s1 s2 s3 s4
        have q0 := HW.out.1.cell 0; have q1 := HW.out.1.cell 1; have q2 := HW.out.1.cell 2; have q3 := HW.out.1.cell 3; have q4 := HW.out.1.cell 4
        have ql := HW.out.1.lt
        exact bodyPost_ret (v := .tuple #[plV G.b G.s false i G.size, .bool true]) (by simp [results, Try.results97, go_sem, q0, q1, q2, q3, q4, ql]) rfl ⟨by rw [HLC.out]; rfl, HW.out.2⟩
end Go.Proofs.Ythdckndjggljpaa
