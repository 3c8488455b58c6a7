/- Walk of fold.Expr: what is known is worked out. No condition. -/
import Derived.Test.YtkmcniaaecijdaaXL
import Derived.LoopTactic
import Derived.Deep.Cut
namespace Go.Proofs.Ytkmcniaaecijdaa
open Go.RowKit
set_option linter.unusedVariables false
set_option linter.unusedSimpArgs false
set_option maxRecDepth 100000
theorem FoldL.done {w wr : World} {k n b : Int} {s : Bool} {nm : ByteArray} {pv : Value} {fs : List X} {av : Option Addr} {cv : Nat} {cs : Nat → List Value} {j : Nat} (h : FoldL w k n b s nm pv fs j av cv cs wr) (hj : fs.length = j) :
    XIn wr (fun g => w.heap.size + 3 ≤ g) (.mk k n b s nm fs) (X.cells k n b s nm (.slice av j cv)) := by
  subst hj
  exact XIn.row (cs := cs) h.own (fun i y hy => (h.kids i y (List.getElem?_eq_some_iff.1 hy).1 hy).move fun g hg hlt => ⟨hg.1, rfl⟩) (fun g e => (h.own.lt g e).1)
theorem XIn.set1 {w w1 : World} {x : X} {cs : List Value} {g : Nat} (h : XIn w1 (fun q => w.heap.size + 3 ≤ q) x cs) (hg : g < w.heap.size + 3) (row : Array Value) : XIn (w1.setRow g row) (fun q => w.heap.size ≤ q) x cs :=
  h.move fun q hq hlt => ⟨by omega, setRow_other w1 g q row (by omega)⟩
theorem FoldL.farO {w wr : World} {k n b : Int} {s : Bool} {nm : ByteArray} {pv : Value} {fs : List X} {av : Option Addr} {cv : Nat} {cs : Nat → List Value} {j : Nat} (h : FoldL w k n b s nm pv fs j av cv cs wr) : some (w.heap.size + 2) ≠ (Value.slice av j cv).ownBlock :=
  fun e => by have := (h.own.lt _ e.symm).1; omega
theorem all_take {fs : List X} {j : Nat} {F : X} (h : fs[j]? = some F) : (fs.take (j + 1)).all X.known = ((fs.take j).all X.known && X.known F) := by
  rw [List.take_add_one, h, List.all_append]; simp
set_option maxHeartbeats 16000000 in
theorem fold_loop (k n b : Int) (s : Bool) (nm : ByteArray) (ks : List X) (a : Option Addr) (L c : Nat) (w : World) (hX : XAt w (.mk k n b s nm ks) (X.cells k n b s nm (.slice a L c))) (hs : X.Shp (.mk k n b s nm ks)) (hw : X.Wf (.mk k n b s nm ks)) (IH : ∀ y ∈ ks, FoldI y) :
    Calls Try.prog 16 #[.agg #[.int .i64 k, .int .u64 n, .int .i64 b, .bool s, .string nm, .slice a L c]] w (XnR (X.foldOf k n b s nm (ks.map X.fold)) w) := by
  obtain ⟨hL, _, _⟩ := hX.lens
  have hL8 : L ≤ 8 := by
    have := (X.own_kids hs.own).2.2.2.2
    simp only [X.kind, X.kids] at this
    rw [hL] at this
    have h2 : X.kidsOf k ≤ 2 := by unfold X.kidsOf; split <;> (try split) <;> (try split) <;> (try split) <;> omega
    omega
  have HXAT := Lib.hid hX
  have HSH := Lib.hid hs
  have HWF := Lib.hid hw
  have HIH := Lib.hid IH
  obtain ⟨fs, hfs⟩ : ∃ fs, fs = ks.map X.fold := ⟨_, rfl⟩
  have HFS0 := Lib.hid hfs
  have hfl : fs.length = L := by rw [hfs, List.length_map, hL]
  have HFLN := Lib.hid hfl
  have HKL := Lib.hid hL
  rw [← hfs]
  have hgo := X.fold_good (.mk k n b s nm ks) hs hw
  have HSO : Hid (X.Shp (.mk k n b s nm fs) ∧ X.Wf (.mk k n b s nm fs)) := by
    show _ ∧ _
    rw [hfs]
    constructor
    · refine .mk _ _ _ _ _ _ ?_ (fun y hy => ?_)
      · rw [List.length_map]; exact hs.own
      · obtain ⟨z, hz, rfl⟩ := List.mem_map.1 hy; exact (X.fold_good z (hs.kid hz) (hw.kid hz)).1
    · cases hw with | mk _ _ _ _ _ _ hk hn hb hs2 h =>
      refine .mk _ _ _ _ _ _ hk hn hb hs2 (fun y hy => ?_)
      obtain ⟨z, hz, rfl⟩ := List.mem_map.1 hy; exact (X.fold_good z (hs.kid hz) (h z hz)).2.1
  obtain ⟨v0, hv0⟩ : ∃ v0, decide (k ≥ 5) = v0 := ⟨_, rfl⟩
  have HV0 := Lib.hid hv0
  obtain ⟨R, hR⟩ : ∃ R, R = X.foldOf k n b s nm fs := ⟨_, rfl⟩
  rw [← hR]
  have HR := Lib.hid hR
  clear hR hfs hfl hL hgo hX hs hw IH
  have HST0 := Lib.hid (FoldL.start w k n b s nm (.slice a L c) fs)
  go_enter Try.func16, Try.ntmps16
  go_upto_region 5 with (fail)
  go_loopw [4, 21] (fun al i wr => ∃ (j : Nat) (av : Option Addr) (cv : Nat) (cs : Nat → List Value) (q : Bool), j ≤ L ∧ i = .int .i64 (j : Int) ∧ al = .bool q ∧ Hid (q = (v0 && (fs.take j).all X.known)) ∧ Hid (FoldL w k n b s nm (.slice a L c) fs j av cv cs wr)) (fun al i wr => L - (intOf i).toNat)
  case atStart => exact ⟨0, none, 0, fun _ => [], v0, Nat.zero_le _, rfl, rfl, (by show v0 = _; simp), HST0.out⟩
  case round =>
    obtain ⟨j, av, cv, cs, q, hj, rfl, rfl, HQ, HFL⟩ := hrel
    by_cases hlt : j < L
    · obtain ⟨y, hy⟩ : ∃ y, ks[j]? = some y := ⟨_, List.getElem?_eq_getElem (by rw [HKL.out]; exact hlt)⟩
      obtain ⟨gk, off, ay, cy, ha, hxy, k0, k1, k2, k3, k4, k5⟩ := (HXAT.out.keep HFL.out.ext).kid hy
      subst ha
      have hym := List.mem_of_getElem? hy
      obtain ⟨F, hF⟩ : ∃ F, F = X.fold y := ⟨_, rfl⟩
      have HIY : Hid (Calls Try.prog 16 #[.agg #[.int .i64 y.kind, .int .u64 y.num, .int .i64 y.bits, .bool y.sg, .string y.name, .slice ay y.kids.length cy]] wr (XnR F wr)) := by rw [hF]; exact HIH.out y hym wr _ hxy
      have hgd := X.fold_good y (HSH.out.kid hym) (HWF.out.kid hym)
      rw [← hF] at hgd
      obtain ⟨ok, hok⟩ : ∃ ok, ok = X.known F := ⟨_, rfl⟩
      obtain ⟨KN, hKN⟩ : ∃ z, z = (if ok then (X.cst F).n else 0) := ⟨_, rfl⟩
      obtain ⟨KB, hKB⟩ : ∃ z, z = (if ok then (X.cst F).b else 0) := ⟨_, rfl⟩
      obtain ⟨KS, hKS⟩ : ∃ z, z = (if ok then (X.cst F).s else false) := ⟨_, rfl⟩
      have HKN : Hid (∀ (w1 : World) (B : Nat) (a : Option Addr) (c : Nat), XAt w1 F (X.cells F.kind F.num F.bits F.sg F.name (.slice a F.kids.length c)) → Bx w1 B F.kind F.num F.bits F.sg F.name (.slice a F.kids.length c) → Calls Try.prog 43 #[P B] w1 (KnR KN KB KS ok w1)) := fun w1 B a c h1 h2 => by
        have := known_ok F hgd.1 hgd.2.1 w1 B a c h1 h2
        rw [← hok, ← hKN, ← hKB, ← hKS] at this; exact this
      have HFS : Hid (fs[j]? = some F) := by show _ = _; rw [HFS0.out, List.getElem?_map, hy, hF]; rfl
      have HQ2 : Hid ((v0 && (fs.take (j + 1)).all X.known) = (q && ok)) := by show _ = _; rw [all_take HFS.out, HQ.out, hok, Bool.and_assoc]
      have HLT := Lib.hid hlt
      have HJL : Hid (j + 1 ≤ 1000000000) := by show j + 1 ≤ _; omega
      clear hF hgd hok hKN hKB hKS hxy hym hy
      obtain ⟨yk, hyk⟩ : ∃ z, z = y.kind := ⟨_, rfl⟩
      obtain ⟨yn, hyn⟩ : ∃ z, z = y.num := ⟨_, rfl⟩
      obtain ⟨yb, hyb⟩ : ∃ z, z = y.bits := ⟨_, rfl⟩
      obtain ⟨ysg, hys⟩ : ∃ z, z = y.sg := ⟨_, rfl⟩
      obtain ⟨ynm, hynm⟩ : ∃ z, z = y.name := ⟨_, rfl⟩
      obtain ⟨yl, hyl⟩ : ∃ z, z = y.kids.length := ⟨_, rfl⟩
      rw [← hyk] at k0 HIY; rw [← hyn] at k1 HIY; rw [← hyb] at k2 HIY; rw [← hys] at k3 HIY; rw [← hynm] at k4 HIY; rw [← hyl] at k5 HIY
      clear hyk hyn hyb hys hynm hyl y
      obtain ⟨x0, x1, x2, x3, x4, x5⟩ := Bx.six HFL.out.bx
      obtain ⟨o0, o1, o2, o3, o4, o5⟩ := Bx.six HFL.out.ob
      rcases q with _ | _
      · go_wp2_with (first | (go_at_call 16; refine HIY.out.mono ?_; rintro e w4 ⟨cs', rfl, hin, hb4⟩; obtain ⟨a2, c2, hcs⟩ := hin.form; subst hcs; have HIN := Lib.hid hin; have HB4 := Lib.hid hb4; clear hin hb4 x0 x1 x2 x3 x4 x5 k0 k1 k2 k3 k4 k5 o0 o1 o2 o3 o4 o5) | (go_at_call 43; refine (HKN.out _ _ _ _ ((HIN.out.keep (Ext.alloc (Below.refl _ _) _)).at) (Blk.new _ _ _)).mono ?_; rintro e w5 ⟨rfl, hb5⟩; have HB5 := Lib.hid (Ext.trans HB4.out (Ext.trans (Ext.alloc (Below.refl _ _) _) hb5)); have HK5 := Lib.hid ((Blk.new w4 36 #[.int .i64 F.kind, .int .u64 F.num, .int .i64 F.bits, .bool F.sg, .string F.name, .slice a2 F.kids.length c2]).keep hb5); have HN5 := Lib.hid (Nat.lt_of_lt_of_le (show w4.heap.size < (w4.alloc (.cells #[.int .i64 F.kind, .int .u64 F.num, .int .i64 F.bits, .bool F.sg, .string F.name, .slice a2 F.kids.length c2] 36)).heap.size by simp) hb5.size); have HIN5 := Lib.hid (HIN.out.keep (Ext.trans (Ext.alloc (Below.refl _ _) _) hb5)); clear hb5; have FA := Lib.hid (HFL.out.keep (Ext.alloc HB5.out (.cells #[.int .i64 KB, .bool KS] 31))); obtain ⟨o0, o1, o2, o3, o4, o5⟩ := Bx.six FA.out.ob; obtain ⟨q0, q1, q2, q3, q4, q5⟩ := Bx.six (HK5.out.alloc (.cells #[.int .i64 KB, .bool KS] 31))) | (refine wpList_app_expr rfl _ _ rfl (w.heap.size + 3) (.slice av j cv) j (flat cs j) (w5.heap.size + 1) F.kind F.num F.bits F.sg F.name a2 F.kids.length c2 rfl rfl ((FA.out.keep (Ext.alloc (Below.refl _ _) _)).own) (by have h8 := Blk.new (w5.alloc (.cells #[.int .i64 KB, .bool KS] 31)) 36 #[.int .i64 F.kind, .int .u64 F.num, .int .i64 F.bits, .bool F.sg, .string F.name, .slice a2 F.kids.length c2]; simpa using h8) HJL.out (FA.out.keep (Ext.alloc (Below.refl _ _) _)).lt ?_; intro a3 c3 w6 ho6 hg6 hat6; have HST := Lib.hid ((FA.out.keep (Ext.alloc (Below.refl _ _) _)).step HFS.out (HIN5.out.keep (Ext.alloc (Ext.alloc (Below.refl _ _) _) _)) HFL.out.lt (fun g e => (HFL.out.own.lt g e).2) ho6 hg6 hat6); have HO6 := Lib.hid ((FA.out.keep (Ext.alloc (Below.refl _ _) _)).ob.grown hg6 FA.out.farO); have r5 := HO6.out.cell 5; have f5 := HO6.out.frozen 5; clear ho6 hg6 hat6 o0 o1 o2 o3 o4 o5 q0 q1 q2 q3 q4 q5))
        go_round
        case rel => exact ⟨j + 1, a3, c3, _, false, HLT.out, by go_num, rfl, (by show false = _; rw [HQ2.out]; rfl), HST.out⟩
        case measure => have := HLT.out; simp [intOf]; omega
      · go_wp2_with (first | (go_at_call 16; refine HIY.out.mono ?_; rintro e w4 ⟨cs', rfl, hin, hb4⟩; obtain ⟨a2, c2, hcs⟩ := hin.form; subst hcs; have HIN := Lib.hid hin; have HB4 := Lib.hid hb4; clear hin hb4 x0 x1 x2 x3 x4 x5 k0 k1 k2 k3 k4 k5 o0 o1 o2 o3 o4 o5) | (go_at_call 43; refine (HKN.out _ _ _ _ ((HIN.out.keep (Ext.alloc (Below.refl _ _) _)).at) (Blk.new _ _ _)).mono ?_; rintro e w5 ⟨rfl, hb5⟩; have HB5 := Lib.hid (Ext.trans HB4.out (Ext.trans (Ext.alloc (Below.refl _ _) _) hb5)); have HK5 := Lib.hid ((Blk.new w4 36 #[.int .i64 F.kind, .int .u64 F.num, .int .i64 F.bits, .bool F.sg, .string F.name, .slice a2 F.kids.length c2]).keep hb5); have HN5 := Lib.hid (Nat.lt_of_lt_of_le (show w4.heap.size < (w4.alloc (.cells #[.int .i64 F.kind, .int .u64 F.num, .int .i64 F.bits, .bool F.sg, .string F.name, .slice a2 F.kids.length c2] 36)).heap.size by simp) hb5.size); have HIN5 := Lib.hid (HIN.out.keep (Ext.trans (Ext.alloc (Below.refl _ _) _) hb5)); clear hb5; have FA := Lib.hid (HFL.out.keep (Ext.alloc HB5.out (.cells #[.int .i64 KB, .bool KS] 31))); obtain ⟨o0, o1, o2, o3, o4, o5⟩ := Bx.six FA.out.ob; obtain ⟨q0, q1, q2, q3, q4, q5⟩ := Bx.six (HK5.out.alloc (.cells #[.int .i64 KB, .bool KS] 31))) | (refine wpList_app_expr rfl _ _ rfl (w.heap.size + 3) (.slice av j cv) j (flat cs j) (w5.heap.size + 1) F.kind F.num F.bits F.sg F.name a2 F.kids.length c2 rfl rfl ((FA.out.keep (Ext.alloc (Below.refl _ _) _)).own) (by have h8 := Blk.new (w5.alloc (.cells #[.int .i64 KB, .bool KS] 31)) 36 #[.int .i64 F.kind, .int .u64 F.num, .int .i64 F.bits, .bool F.sg, .string F.name, .slice a2 F.kids.length c2]; simpa using h8) HJL.out (FA.out.keep (Ext.alloc (Below.refl _ _) _)).lt ?_; intro a3 c3 w6 ho6 hg6 hat6; have HST := Lib.hid ((FA.out.keep (Ext.alloc (Below.refl _ _) _)).step HFS.out (HIN5.out.keep (Ext.alloc (Ext.alloc (Below.refl _ _) _) _)) HFL.out.lt (fun g e => (HFL.out.own.lt g e).2) ho6 hg6 hat6); have HO6 := Lib.hid ((FA.out.keep (Ext.alloc (Below.refl _ _) _)).ob.grown hg6 FA.out.farO); have r5 := HO6.out.cell 5; have f5 := HO6.out.frozen 5; clear ho6 hg6 hat6 o0 o1 o2 o3 o4 o5 q0 q1 q2 q3 q4 q5))
        go_round
        case rel => exact ⟨j + 1, a3, c3, _, ok, HLT.out, by go_num, rfl, (by show ok = _; rw [HQ2.out]; rfl), HST.out⟩
        case measure => have := HLT.out; simp [intOf]; omega
    · have hjl : L = j := by omega
      subst hjl
      have HD := Lib.hid (HFL.out.done HFLN.out)
      have HQ3 : Hid (q = (v0 && fs.all X.known)) := by
        show q = _; rw [HQ.out, List.take_of_length_le (by rw [HFLN.out]; exact Nat.le_refl _)]
      rcases q with _ | _
      · have HRo : Hid (R = .mk k n b s nm fs) := by
          show R = _; rw [HR.out]; unfold X.foldOf; rw [if_neg (fun h => by have h1 := h.1; have h2 := HQ3.out; rw [← HV0.out] at h2; rw [← h2] at h1; exact Bool.false_ne_true h1)]
        obtain ⟨o0, o1, o2, o3, o4, o5⟩ := Bx.six HFL.out.ob
        go_wp2_with (first | (refine wpList_store_row rfl 36 _ _ rfl (w.heap.size + 1) #[.int .i64 k, .int .u64 n, .int .i64 b, .bool s, .string nm, .slice av L cv] rfl rfl 36 zX HFL.out.rz (by kernel_rfl) rfl (xOne _ _ _ _ _ _ _ _) ?_))
        exact bodyPost_ret (results_cellX rfl _ _ (w.heap.size + 1) 36 #[.int .i64 k, .int .u64 n, .int .i64 b, .bool s, .string nm, .slice av L cv] (0, 0) _ rfl (HFL.out.rz.rowX _) Try.underlying36 rfl (by kernel_rfl)) rfl
          ⟨X.cells k n b s nm (.slice av L cv), rfl, by rw [HRo.out]; exact HD.out.set1 (by omega) _, Below.rowX HFL.out.ext (Nat.le_succ _) _⟩
      · obtain ⟨N, hN⟩ : ∃ z, z = (X.cst (.mk k n b s nm fs)).n := ⟨_, rfl⟩
        obtain ⟨NB, hNB⟩ : ∃ z, z = (X.cst (.mk k n b s nm fs)).b := ⟨_, rfl⟩
        obtain ⟨NS, hNS⟩ : ∃ z, z = (X.cst (.mk k n b s nm fs)).s := ⟨_, rfl⟩
        obtain ⟨NE, hNE⟩ : ∃ z, z = (X.cst (.mk k n b s nm fs)).e := ⟨_, rfl⟩
        have HCO : Hid (Calls Try.prog 13 #[.agg #[.int .i64 k, .int .u64 n, .int .i64 b, .bool s, .string nm, .slice av L cv]] wr (UnR N NB NS NE wr)) := by
          have := con_ok (.mk k n b s nm fs) HSO.out.1 HSO.out.2 wr _ HD.out.at
          rw [← hN, ← hNB, ← hNS, ← hNE] at this; exact this
        obtain ⟨o0, o1, o2, o3, o4, o5⟩ := Bx.six HFL.out.ob
        by_cases he : NE = 0
        · have HRo : Hid (R = X.lit N NB NS) := by
            show R = _; rw [HR.out]; unfold X.foldOf; rw [if_pos ⟨(by have h2 := HQ3.out; rw [← HV0.out] at h2; exact h2.symm), (by rw [← hNE]; exact he)⟩, ← hN, ← hNB, ← hNS]
          have hfine := X.cst_fine _ HSO.out.1 HSO.out.2
          have hU := hfine.U (by rw [← hNE]; exact he)
          rw [← hN] at hU
          have HLI : Hid (∀ w1, Calls Try.prog 44 #[.int .u64 N, W.ty NB NS] w1 (XnR R w1)) := fun w1 => by rw [HRo.out]; exact literal_fold N NB NS hU w1
          subst he
          clear hN hNB hNS hNE hfine hU
          go_wp2_with (first | (go_at_call 13; refine HCO.out.mono ?_; rintro e w7 ⟨rfl, hb7⟩; have H7 := Lib.hid (HFL.out.keep (Ext.alloc hb7 (.cells #[.int .i64 NB, .bool NS] 31))); have T7 := Lib.hid (Ty.new w7 rfl NB NS 31); obtain ⟨t0, t1, t2, t3⟩ := T7.out; clear hb7 o0 o1 o2 o3 o4 o5) | (go_at_call 44; refine (HLI.out _).mono ?_; rintro e w8 ⟨cs8, rfl, hin, hb8⟩; obtain ⟨a8, c8, hcs⟩ := hin.form; subst hcs; have HIN := Lib.hid hin; have HB8 := Lib.hid hb8; clear hin hb8) | (refine wpList_store_row rfl 36 _ _ rfl (w.heap.size + 1) #[.int .i64 R.kind, .int .u64 R.num, .int .i64 R.bits, .bool R.sg, .string R.name, .slice a8 R.kids.length c8] rfl rfl 36 zX (H7.out.keep HB8.out).rz (by kernel_rfl) rfl (xOne _ _ _ _ _ _ _ _) ?_))
          exact bodyPost_ret (results_cellX rfl _ _ (w.heap.size + 1) 36 #[.int .i64 R.kind, .int .u64 R.num, .int .i64 R.bits, .bool R.sg, .string R.name, .slice a8 R.kids.length c8] (0, 0) _ rfl ((H7.out.keep HB8.out).rz.rowX _) Try.underlying36 rfl (by kernel_rfl)) rfl
            ⟨X.cells R.kind R.num R.bits R.sg R.name (.slice a8 R.kids.length c8), rfl, (HIN.out.move fun g hg hlt => ⟨Nat.le_trans H7.out.lt hg, rfl⟩ : XIn w8 (fun g => w.heap.size + 3 ≤ g) R _).set1 (by omega) _, Below.rowX (H7.out.keep HB8.out).ext (Nat.le_succ _) _⟩
        · have HRo : Hid (R = .mk k n b s nm fs) := by
            show R = _; rw [HR.out]; unfold X.foldOf; rw [if_neg (fun h => he (by rw [hNE]; exact h.2))]
          have hq : (NE == 0) = false := by simpa using he
          clear hN hNB hNS hNE he
          go_wp2_with (first | (go_at_call 13; refine HCO.out.mono ?_; rintro e w7 ⟨rfl, hb7⟩; have H7 := Lib.hid (HFL.out.keep (Ext.alloc hb7 (.cells #[.int .i64 NB, .bool NS] 31))); clear hb7 o0 o1 o2 o3 o4 o5; obtain ⟨o0, o1, o2, o3, o4, o5⟩ := Bx.six H7.out.ob) | (refine wpList_store_row rfl 36 _ _ rfl (w.heap.size + 1) #[.int .i64 k, .int .u64 n, .int .i64 b, .bool s, .string nm, .slice av L cv] rfl rfl 36 zX H7.out.rz (by kernel_rfl) rfl (xOne _ _ _ _ _ _ _ _) ?_))
          exact bodyPost_ret (results_cellX rfl _ _ (w.heap.size + 1) 36 #[.int .i64 k, .int .u64 n, .int .i64 b, .bool s, .string nm, .slice av L cv] (0, 0) _ rfl (H7.out.rz.rowX _) Try.underlying36 rfl (by kernel_rfl)) rfl
            ⟨X.cells k n b s nm (.slice av L cv), rfl, by rw [HRo.out]; exact (H7.out.done HFLN.out).set1 (by omega) _, Below.rowX H7.out.ext (Nat.le_succ _) _⟩
/-- THE FOLDING OF AN EXPRESSION. -/
theorem fold_ok (x : X) : X.Shp x → X.Wf x → FoldI x := by
  induction x using X.up with
  | _ x ih =>
    intro hs hw w cs hX
    obtain ⟨a, c, rfl, _⟩ := hX.open
    rw [X.fold_eq]
    obtain ⟨k, n, b, s, nm, ks⟩ := x
    exact fold_loop k n b s nm ks a _ c w hX hs hw (fun y hy => ih y hy (hs.kid hy) (hw.kid hy))
end Go.Proofs.Ytkmcniaaecijdaa
