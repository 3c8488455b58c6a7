/- Regions that draw their order, whose first part may write into new numbers: what its values mean under a relation of one's own. -/
import Derived.Test.YtkmcniaaecijdaaPt2
import Derived.Test.YtkmcniaaecijdaaB0
import Derived.Test.YtkmcniaaecijdaaN18
import Derived.Test.YtkmcniaaecijdaaN20
import Derived.Laws.CopyOwn
namespace Go.Proofs.Ytkmcniaaecijdaa
open Go
open Go.RowKit
set_option linter.unusedVariables false
namespace Ix
structure KeptR (R : World → World → Prop) where
  f : Value → World → Prop
  h : ∀ v, KeepsR R (f v)
def kisR {R : World → World → Prop} (c : Value) : KeptR R := ⟨fun v _ => v = c, fun _ _ _ h _ => h⟩
def kwldR {R : World → World → Prop} (p : Value → World → Prop) (h : ∀ v, KeepsR R (p v)) : KeptR R := ⟨p, h⟩
def vkR {R : World → World → Prop} (L : List (KeptR R)) (k : Nat) : Value → World → Prop := ((L[k]?).map KeptR.f).getD (fun _ _ => True)
theorem vkR_keeps {R : World → World → Prop} (L : List (KeptR R)) (k : Nat) (v : Value) : KeepsR R (vkR L k v) := by
  unfold vkR
  cases L[k]? with
  | none => exact fun _ _ _ _ => trivial
  | some x => exact x.h v
/-- A number that is 0 or z. -/
def Zq (z : Int) (w : World) (k : Nat) : Prop := ∃ y, Io w k y ∧ (y = 0 ∨ y = z)
/-- New numbers may go from 0 to z; all else stays. -/
def Rz (B : Nat) (z : Int) (w w' : World) : Prop := Moved (fun k => B ≤ k) w w' ∧ (∀ k, Zq z w k → Zq z w' k) ∧ ∀ k, Io w k z → Io w' k z
theorem Rz.refl (B : Nat) (z : Int) (w : World) : Rz B z w w := ⟨Moved.refl _ _, fun _ h => h, fun _ h => h⟩
theorem Rz.below {B : Nat} {z : Int} {w w' : World} (h : Below w.heap.size w w') : Rz B z w w' := ⟨Moved.of_below h, fun _ ⟨y, hi, hy⟩ => ⟨y, hi.below h, hy⟩, fun _ hi => hi.below h⟩
theorem Rz.chg {B g : Nat} {z y : Int} {w w' : World} (h : Chg g w w') (hi : Io w g y) (hi' : Io w' g z) (hB : B ≤ g) : Rz B z w w' :=
  ⟨(Moved.of_chg h hi).mono (fun k hk => by rw [hk]; exact hB), fun k ⟨x, hx, hxx⟩ => by
    by_cases hk : k = g
    · subst hk; exact ⟨z, hi', .inr rfl⟩
    · exact ⟨x, hx.chg hi hk h, hxx⟩, fun k hx => by
    by_cases hk : k = g
    · subst hk; exact hi'
    · exact hx.chg hi hk h⟩
theorem Rz.moved {B g : Nat} {z : Int} {w w' : World} (h : Moved (fun k => k = g) w w') (hi' : Io w' g z) (hB : B ≤ g) : Rz B z w w' :=
  ⟨h.mono (fun k hk => by rw [hk]; exact hB), fun k ⟨x, hx, hxx⟩ => by
    by_cases hk : k = g
    · subst hk; exact ⟨z, hi', .inr rfl⟩
    · exact ⟨x, h.io k x hk hx, hxx⟩, fun k hx => by
    by_cases hk : k = g
    · subst hk; exact hi'
    · exact h.io k z hk hx⟩
theorem zq_keeps (B B' : Nat) (z : Int) (v : Value) : KeepsR (Rz B z) (fun w => ∃ g, v = P g ∧ B' ≤ g ∧ Zq z w g) := fun w w' ⟨g, e, hg, hi⟩ h => ⟨g, e, hg, h.2.1 g hi⟩
theorem iz_keeps (B B' : Nat) (z : Int) (v : Value) : KeepsR (Rz B z) (fun w => ∃ g, v = P g ∧ B' ≤ g ∧ Io w g z) := fun w w' ⟨g, e, hg, hi⟩ h => ⟨g, e, hg, h.2.2 g hi⟩
theorem Rz.io {B g : Nat} {z x : Int} {w w' : World} (h : Rz B z w w') (hg : g < B) (hi : Io w g x) : Io w' g x := h.1.io _ _ (by omega) hi
theorem Rz.cell {B : Nat} {z : Int} {w w' : World} (h : Rz B z w w') {b o : Nat} {v : Value} (hb : b < B) (hc : w.cell? ⟨b, o, none⟩ = some v) : w'.cell? ⟨b, o, none⟩ = some v := by
  rw [World.cell?_of_block (w := w) (h.1.block b (World.block_lt_of_cell? w ⟨b, o, none⟩ hc) (by omega))]; exact hc
theorem Rz.frozen {B : Nat} {z : Int} {w w' : World} (h : Rz B z w w') {b o : Nat} {v : Value} {f : Bool} (hb : b < B) (hc : w.cell? ⟨b, o, none⟩ = some v) (hf : w.frozen? ⟨b, o, none⟩ = f) : w'.frozen? ⟨b, o, none⟩ = f := by
  rw [World.frozen?_of_block (w := w) (h.1.block b (World.block_lt_of_cell? w ⟨b, o, none⟩ hc) (by omega))]; exact hf
theorem Rz.ext {B : Nat} {z : Int} {w0 w w' : World} (h : Rz B z w w') (hb : Below B w0 w) (hB : B ≤ w0.heap.size) : Below B w0 w' := h.1.below hb hB (fun k hk => hk)
end Ix
end Go.Proofs.Ytkmcniaaecijdaa
namespace Go.Proofs.Ytkmcniaaecijdaa
open Go.RowKit
set_option linter.unusedVariables false
set_option linter.unusedSimpArgs false
set_option maxRecDepth 100000

set_option maxHeartbeats 2000000 in
theorem neg_ok (g gx : Nat) (z x : Int) (ha : Sm x.natAbs) (w : World) (hz : Io w g z) (hx : Io w gx x) :
    Calls Try.prog 72 #[P g, P gx] w fun e w' => e = .returned (P g) ∧ Chg g w w' ∧ Io w' g (-x) := by
  obtain ⟨a, l, c, c0, c1, hn, hl⟩ := hx.cells
  obtain ⟨s, hs⟩ := boolL x
  rw [← hs] at c0
  have CT : Hid (∀ w : World, Nm w (.slice a l c) x.natAbs → Calls Try.prog 98 #[.slice a l c] w fun e w' => ∃ u, e = .returned u ∧ Below w.heap.size w w' ∧ Nm w' u (-x).natAbs) := fun w h => by rw [Int.natAbs_neg]; exact twin_ok _ _ ha w h
  have CG : Hid (∀ (w : World) (v : Value), Io w g z → Nm w v (-x).natAbs → Calls Try.prog 97 #[P g, .bool (!s), v] w fun e w' => e = .returned (P g) ∧ Chg g w w' ∧ Io w' g (-x)) := fun w v h1 h2 => by
    rw [hs]; exact give_ok g z _ _ v w h1 h2 neg_not_le neg_not_ge
  have HN := Lib.hid hn; have HZ := Lib.hid hz
  clear hn hl hx hz hs ha
  go_enter Try.func72, Try.ntmps72
  go_wp2
  apply Ix.wp_region 11 (fun wi => Hid (Below w.heap.size w wi) ∧ Hid (Io wi g z) ∧ Hid (Nm wi (.slice a l c) x.natAbs) ∧ wi.cell? ⟨gx, 0, none⟩ = some (.bool s) ∧ wi.cell? ⟨gx, 1, none⟩ = some (.slice a l c)) (Ix.vk [(Ix.kis _), (Ix.kis _), (Ix.kis _), (Ix.kis _), (Ix.kis _), (Ix.kis _), (Ix.kis _), (Ix.kis _), (Ix.kis _), (Ix.kis _), (Ix.kwld (fun v w' => Nm w' v (-x).natAbs) (fun v w1 w2 h hb => h.below hb))]) (fun _ => false) (by kernel_rfl) (by kernel_rfl) (by kernel_rfl) (fun _ _ h hb => ⟨Ext.trans h.1.out hb, h.2.1.out.below hb, h.2.2.1.out.below hb, Hd.Keeps.cell _ _ _ _ _ h.2.2.2.1 hb, Hd.Keeps.cell _ _ _ _ _ h.2.2.2.2 hb⟩) (Ix.vk_keeps _) (Ix.not_al _) ⟨Below.refl _ _, HZ, HN, c0, c1⟩
  case step =>
    refine zyx 10 0 1 [] (fun wi HB => ?_) <| zyx 9 1 2 [] (fun wi HB => ?_) <| zyx 8 2 3 [(1, some 6)] (fun wi HB => ?_) <| zyx 7 3 4 [(2, some 7)] (fun wi HB => ?_) <| zyx 6 4 5 [(3, some 8)] (fun wi HB => ?_) <| zyx 5 5 6 [(4, some 9)] (fun wi HB => ?_) <| zyx 4 6 7 [] (fun wi HB => ?_) <| zyx 3 7 8 [(6, some 11)] (fun wi HB => ?_) <| zyx 2 8 9 [(7, some 12)] (fun wi HB => ?_) <| zyx 1 9 10 [(8, some 13)] (fun wi HB => ?_) <| zyx 0 10 11 [(9, some 14)] (fun wi HB => ?_) <| Ix.steps_nil
    iterate 4 (· ((repeat (refine zya ?_; rintro _ rfl)); refine zye ?_; (try simp only [zyp]); refine Ix.goI_yes rfl rfl fun K hK => ?_; (try simp only [zyp] at hK); go_wp2_with (first | fail); exact hK _ _ (Below.refl _ _) rfl))
    iterate 2 (· (obtain ⟨HB, HZ, HN, c0, c1⟩ := HB; (repeat (refine zya ?_; rintro _ rfl)); refine zye ?_; (try simp only [zyp]); refine Ix.goI_yes rfl rfl fun K hK => ?_; (try simp only [zyp] at hK); go_wp2_with (first | fail); exact hK _ _ (Below.refl _ _) rfl))
    iterate 3 (· ((repeat (refine zya ?_; rintro _ rfl)); refine zye ?_; (try simp only [zyp]); refine Ix.goI_yes rfl rfl fun K hK => ?_; (try simp only [zyp] at hK); go_wp2_with (first | fail); exact hK _ _ (Below.refl _ _) rfl))
    (· (obtain ⟨HB, HZ, HN, c0, c1⟩ := HB; (repeat (refine zya ?_; rintro _ rfl)); refine zye ?_; (try simp only [zyp]); refine Ix.goI_yes rfl rfl fun K hK => ?_; (try simp only [zyp] at hK); go_wp2_with (first | fail); exact hK _ _ (Below.refl _ _) rfl))
    (· (obtain ⟨HB, HZ, HN, c0, c1⟩ := HB; (repeat (refine zya ?_; rintro _ rfl)); refine zye ?_; (try simp only [zyp]); refine Ix.goI_yes rfl rfl fun K hK => ?_; (try simp only [zyp] at hK); go_wp2_with (first | (go_at_call 98; refine (CT.out _ HN.out).mono ?_; rintro e w2 ⟨v1, rfl, hb2, hv2⟩)); exact hK _ _ hb2 hv2))
  intro vsf wf HF hdf
  refine zyv 10 0 1 ?_; rintro _ _ rfl; refine zyv 9 1 2 ?_; rintro _ _ rfl; refine zyv 8 2 3 ?_; rintro _ _ rfl; refine zyv 7 3 4 ?_; rintro _ _ rfl; refine zyv 6 4 5 ?_; rintro _ _ rfl; refine zyv 5 5 6 ?_; rintro _ _ rfl; refine zyv 4 6 7 ?_; rintro _ _ rfl; refine zyv 3 7 8 ?_; rintro _ _ rfl; refine zyv 2 8 9 ?_; rintro _ _ rfl; refine zyv 1 9 10 ?_; rintro _ _ rfl; refine zyv 0 10 11 ?_; rintro _ _ hv
  refine Ix.allV_nil ?_
  (try simp only [Act.put, List.setIfInBounds_toArray, List.set_cons_zero, List.set_cons_succ, List.drop_succ_cons, List.drop_zero])
  go_wp2_with (first | (go_at_call 97; refine (CG.out _ _ HF.2.1.out hv).mono ?_; rintro e w3 ⟨rfl, hc, hi⟩; have HC := Lib.hid hc; have HI := Lib.hid hi; clear hc hi))
  refine Ix.only ?_
  go_wp2
  go_ret
  exact ⟨rfl, (Chg.of_below HF.1.out).trans HC.out, HI.out⟩
set_option maxHeartbeats 2000000 in
theorem not_ok (g gx : Nat) (z x : Int) (ha : Sm x.natAbs) (w : World) (hz : Io w g z) (hx : Io w gx x) :
    Calls Try.prog 73 #[P g, P gx] w fun e w' => e = .returned (P g) ∧ Moved (fun k => k = g) w w' ∧ Io w' g (-x - 1) := by
  have CN : Hid (∀ w : World, Io w w.heap.size 0 → True) := fun _ _ => trivial
  have C1 : Hid (∀ (w : World) (g : Nat), Io w g 0 → Io w gx x → Calls Try.prog 72 #[P g, P gx] w fun e w' => e = .returned (P g) ∧ Chg g w w' ∧ Io w' g (-x)) := fun w g h1 h2 => neg_ok g gx 0 x ha w h1 h2
  have C2 : Hid (∀ w : World, Calls Try.prog 99 #[.int .i64 1] w (NewIo w 1)) := fun w => newInt_ok 1 (by omega) (by omega) w
  have C3 : Hid (∀ (w : World) (g1 g2 : Nat), Io w g z → Io w g1 (-x) → Io w g2 1 → Calls Try.prog 85 #[P g, P g1, P g2] w fun e w' => e = .returned (P g) ∧ Chg g w w' ∧ Io w' g (-x - 1)) := fun w g1 g2 h1 h2 h3 =>
    intSub_ok g g1 g2 z (-x) 1 (by rw [Int.natAbs_neg]; exact ha) Sm.one w h1 h2 h3
  have HA : Hid (∀ w0 : World, Io (w0.alloc (.cells #[.bool false, .slice none 0 0] 96)) w0.heap.size 0) := fun w0 => Io.new w0
  have HX := Lib.hid (hx.below (Ext.alloc (Below.refl _ _) (.cells #[.bool false, .slice none 0 0] 96)))
  have HZ := Lib.hid (hz.below (Ext.alloc (Below.refl _ _) (.cells #[.bool false, .slice none 0 0] 96)))
  have HG : Hid (g < w.heap.size) := hz.lt
  clear hx hz ha
  go_enter Try.func73, Try.ntmps73
  go_wp2_with (first | (go_at_call 72; refine (C1.out _ _ (HA.out w) HX.out).mono ?_; rintro e w1 ⟨rfl, hc1, hi1⟩; have HI1 := Lib.hid hi1; have HC1 := Lib.hid hc1; have HZ1 := Lib.hid (HZ.out.chg (HA.out w) (Nat.ne_of_lt HG.out) hc1); clear hc1 hi1) | (go_at_call 99; refine (C2.out _).mono ?_; rintro e w2 ⟨g2, rfl, hg2, hb2, hi2⟩; have HB2 := Lib.hid hb2; have HI2 := Lib.hid hi2; have HI3 := Lib.hid (HI1.out.below hb2); have HZ2 := Lib.hid (HZ1.out.below hb2); clear hg2 hb2 hi2) | (go_at_call 85; refine (C3.out _ _ _ HZ2.out HI3.out HI2.out).mono ?_; rintro e w3 ⟨rfl, hc3, hi3⟩; have HC3 := Lib.hid hc3; have HI4 := Lib.hid hi3; clear hc3 hi3))
  go_ret
  exact ⟨rfl, (Moved.of_below (Ext.trans (new_chg (Ext.alloc (Below.refl _ _) _) (Nat.le_refl _) HC1.out) HB2.out)).trans (Moved.of_chg HC3.out HZ2.out), HI4.out⟩
end Go.Proofs.Ytkmcniaaecijdaa
namespace Go.Proofs.Ytkmcniaaecijdaa
open Go.RowKit
set_option linter.unusedVariables false
set_option linter.unusedSimpArgs false
set_option maxRecDepth 100000

theorem lv_pad (x n : Nat) (h : N.ln x ≤ n) : (N.lv x (N.ln x)).map (Value.int .u32) ++ ((List.replicate n (Value.int .u32 0)).drop (N.ln x)) = (N.lv x n).map (Value.int .u32) := by
  apply List.ext_getElem?
  intro i
  rw [List.getElem?_append, List.length_map, N.lv_length]
  by_cases hi : i < N.ln x
  · rw [if_pos hi, List.getElem?_map, List.getElem?_map, N.lv_get hi, N.lv_get (by omega)]
  · rw [if_neg hi, List.getElem?_drop, show N.ln x + (i - N.ln x) = i by omega, List.getElem?_replicate, List.getElem?_map]
    by_cases hn : i < n
    · rw [if_pos hn, N.lv_get hn, N.wd_high (N.lt_ln x) (by omega)]; rfl
    · rw [if_neg hn, List.getElem?_eq_none (by rw [N.lv_length]; omega)]; rfl
theorem uszU : (Try.prog.info? 122).map (·.size) = some 1 := by kernel_rfl
theorem add_addr (b off j : Nat) : (⟨b, off, none⟩ : Addr).add j = ⟨b, off + j, none⟩ := by rcases j with _ | j <;> simp [Addr.add]
theorem nm_src {w : World} {a : Option Addr} {c x l : Nat} (h : Nm w (.slice a l c) x) (d : Option Addr) : 0 < ((N.lv x (N.ln x)).map (Value.int .u32)).length → d = d ∧ ∃ ad, a = some ad ∧ ∀ j v, ((N.lv x (N.ln x)).map (Value.int .u32))[j]? = some v → w.cell? (ad.add j) = some v := fun h0 => by
  obtain ⟨⟨h1, h2, a', cap, e, hcap, hx⟩, _⟩ := h
  injection e with e1 e2 e3
  subst e1
  obtain ⟨b, off, rfl, hc⟩ := hx (by intro e; rw [e] at h0; simp at h0)
  exact ⟨rfl, _, rfl, fun j v hv => by rw [add_addr]; exact hc j v hv⟩
theorem wpList_copy_low {P : Program} {w : World} {ops : Array Oper} {rest : List Oper} {o : Oper} {a : Act} {Q : Exit → Act → World → Prop} (hgd : o.guard = none) (d s : Operand) (dT sT : TypeId)
    (ho : o.op = .call { callee := .builtin .copy, args := #[d, s], argTypes := #[dT, sT] }) (elem : TypeId) (hu : P.underlying dT = some (.slice elem)) (hsz : (P.info? elem).map (·.size) = some 1)
    (sp : Option Addr) (x n sCap g : Nat) (hd : a.eval d = .slice (some ⟨g, 0, none⟩) n n) (hs : a.eval s = .slice sp (N.ln x) sCap)
    (hg : Hid (Blk w g 122 (List.replicate n (Value.int .u32 0)).toArray)) (h1 : Hid (N.ln x ≤ n)) (hm : Hid (Nm w (.slice sp (N.ln x) sCap) x))
    (B : Nat) (w0 : World) (hb : Hid (Below B w0 w)) (hBg : B ≤ g)
    (h : ∀ w', Hid (Blk w' g 122 (arr x n)) → Hid (Below B w0 w') → wpList P ops Q rest (a.put o.dst (goInt (N.ln x))) w') : wpList P ops Q (o :: rest) a w := by
  have hl : ((N.lv x (N.ln x)).map (Value.int .u32)).length = N.ln x := by rw [List.length_map, N.lv_length]
  refine wpList_copy_splice hgd d s dT sT ho elem hu hsz _ sp n n (N.ln x) sCap hd hs g 0 _ 122 hg.out ((N.lv x (N.ln x)).map (Value.int .u32)) (by rw [hl]; exact (Nat.min_eq_left h1.out).symm) (nm_src hm.out _) (by rw [hl]; simp; exact h1.out) (one_words x _) B w0 hb.out hBg (fun w' hw' hb' => ?_)
  rw [hl]
  refine h w' ?_ hb'
  have e : splice (List.replicate n (Value.int .u32 0)) 0 ((N.lv x (N.ln x)).map (Value.int .u32)) = (N.lv x n).map (Value.int .u32) := by
    unfold splice; rw [hl]; simp only [List.take_zero, List.nil_append, Nat.zero_add]; exact lv_pad x n h1.out
  rw [e] at hw'
  exact hw'
set_option maxHeartbeats 4000000 in
theorem low_ok (g : Nat) (x n : Nat) (h1 : N.ln x ≤ n) (h2 : n ≤ 30) (w : World) (hx : Io w g (x : Int)) :
    Calls Try.prog 106 #[P g, .int .i64 n] w fun e w' => e = .returned (.slice (some ⟨w.heap.size, 0, none⟩) n n) ∧ Hid (Blk w' w.heap.size 122 (arr x n)) ∧ Below w.heap.size w w' := by
  obtain ⟨a, l, c, c0, c1, hn, hl⟩ := hx.cells
  have hs : decide ((x : Int) < 0) = false := by simp
  rw [hs] at c0
  rw [Int.natAbs_natCast] at hn hl
  subst hl
  obtain ⟨i0, hi, hz0, hz1, hz2⟩ := info_parts Try.infoU32
  have HI : Hid (i0.bytes * n ≤ 281474976710656) := by show i0.bytes * n ≤ 281474976710656; rw [hz2]; omega
  have HN := Lib.hid hn
  have H1 := Lib.hid h1
  have HX := Lib.hid hx
  have C0 := Lib.hid c0
  clear hz2 hn h1 hs hx
  go_enter Try.func106, Try.ntmps106
  go_wp2_with (first | (at_make; refine wpList_make_blk _ rfl _ _ 94 rfl 122 i0 (.int .u32 0) Try.underlying94 hi hz0 hz1 rfl .i64 .i64 n rfl rfl HI.out (by omega) ?_; intro w1 hblk hbw hsz; have HK := Lib.hid hblk; have HB := Lib.hid hbw; obtain ⟨d0, d1⟩ := keep2 hbw ⟨c0, c1⟩; have HM := Lib.hid (HN.out.below hbw); clear hblk hbw hsz c0 c1) | (with_reducible refine wpList_copy_low rfl _ _ 94 94 rfl 122 Try.underlying94 uszU a x n c w.heap.size rfl rfl HK H1 HM w.heap.size w HB (Nat.le_refl _) ?_; intro w2 hk2 hb2; have e0 : w2.cell? ⟨g, 0, none⟩ = some (.bool false) := (by rw [(bcell hb2.out).1 _ _ HX.out.lt]; exact C0.out)))
  go_ret
  exact ⟨rfl, hk2, hb2.out⟩
set_option maxHeartbeats 4000000 in
theorem of_ok (g rb m K : Nat) (z : Int) (hm : m < N.B ^ (K + 1)) (h0 : N.wd m K = 0) (hK : K ≤ 30) (w : World) (hz : Io w g z) (hr : Hid (Blk w rb 122 (arr m (K + 1)))) :
    Calls Try.prog 107 #[P g, .slice (some ⟨rb, 0, none⟩) ((K + 1 : Nat)) ((K + 1 : Nat))] w fun e w' => e = .returned (P g) ∧ Chg g w w' ∧ Io w' g (m : Int) := by
  have HT : Hid (Calls Try.prog 116 #[.slice (some ⟨rb, 0, none⟩) (K + 1) (K + 1)] w fun e w' => ∃ u, e = .returned u ∧ w = w' ∧ Nm w u m) := trim_ok _ (K + 1) m hm w (blk_rd hr.out (by unfold maxLen; omega))
  have HG : Hid (∀ (w : World) (v : Value), Io w g z → Nm w v m → Calls Try.prog 97 #[P g, .bool false, v] w fun e w' => e = .returned (P g) ∧ Chg g w w' ∧ Io w' g (m : Int)) := fun w v h1 h2 => give_ok g z m false v w h1 (by simpa using h2) (by simp) (by simp)
  have HZ := Lib.hid hz
  have c0 : w.cell? ⟨rb, K, none⟩ = some (.int .u32 0) := by rw [hr.out.cell, arr_get (by omega), h0]; rfl
  clear hz hm h0 hr
  go_enter Try.func107, Try.ntmps107
  go_wp2_with (first | (go_at_call 116; refine (HT.out).mono ?_; rintro e w2 ⟨u, rfl, rfl, hu⟩; have HU := Lib.hid hu; clear hu) | (go_at_call 97; refine (HG.out _ _ HZ.out HU.out).mono ?_; rintro e w3 ⟨rfl, hc, hi⟩; have HC := Lib.hid hc; have HI := Lib.hid hi; clear hc hi))
  go_ret
  exact ⟨rfl, HC.out, HI.out⟩
end Go.Proofs.Ytkmcniaaecijdaa
namespace Go.Proofs.Ytkmcniaaecijdaa
open Go.RowKit
set_option linter.unusedVariables false
set_option linter.unusedSimpArgs false
set_option maxRecDepth 100000

/-- Words as a function of their places. -/
def arf (f : Nat → Nat) (L : Nat) : Array Value := ((List.range L).map fun i => Value.int .u32 ((f i : Nat) : Int)).toArray
theorem arf_arr (n L : Nat) : arf (N.wd n) L = arr n L := by simp [arf, arr, N.lv]
theorem arf_get {f : Nat → Nat} {L i : Nat} (h : i < L) : (arf f L)[i]? = some (.int .u32 ((f i : Nat) : Int)) := by simp [arf, h]
theorem arf_congr {f g : Nat → Nat} {L : Nat} (h : ∀ i, i < L → f i = g i) : arf f L = arf g L := by
  unfold arf; congr 1; apply List.map_congr_left; intro i hi; rw [h i (by simpa using hi)]
theorem arf_set {f : Nat → Nat} {L k x : Nat} (hk : k < L) : (arf f L).setIfInBounds k (.int .u32 ((x : Nat) : Int)) = arf (fun j => if j = k then x else f j) L := by
  apply Array.ext_getElem?
  intro i
  rw [Array.getElem?_setIfInBounds]
  by_cases hi : i < L
  · rw [arf_get hi]
    by_cases hik : k = i
    · subst hik; simp [arf, hi]
    · rw [if_neg hik, arf_get hi, if_neg (fun e => hik e.symm)]
  · have e1 : (arf (fun j => if j = k then x else f j) L)[i]? = none := by simp [arf]; omega
    have e2 : (arf f L)[i]? = none := by simp [arf]; omega
    rw [e1, if_neg (by omega), e2]
/-- The words of the result as far as they are reckoned, then those of the first. -/
def mix (k r p j : Nat) : Nat := if j < k then N.wd r j else N.wd p j
theorem mix_zero (r p L : Nat) : arf (mix 0 r p) L = arr p L := by rw [← arf_arr]; exact arf_congr fun i _ => by simp [mix]
theorem mix_done (r p L : Nat) : arf (mix L r p) L = arr r L := by rw [← arf_arr]; exact arf_congr fun i hi => by simp [mix, hi]
theorem mix_step {k r p L : Nat} (hk : k < L) : (arf (mix k r p) L).setIfInBounds k (.int .u32 ((N.wd r k : Nat) : Int)) = arf (mix (k + 1) r p) L := by
  rw [arf_set hk]
  refine arf_congr fun j hj => ?_
  unfold mix
  by_cases h1 : j = k
  · subst h1; rw [if_pos rfl, if_pos (by omega)]
  · rw [if_neg h1]
    by_cases h2 : j < k
    · rw [if_pos h2, if_pos (by omega)]
    · rw [if_neg h2, if_neg (by omega)]
theorem wraps_u32 (n : Int) (h₀ : 0 ≤ n) (h₁ : n < 2 ^ 32) : IntKind.u32.wrap n = n := by rw [IntKind.wrap_u32]; omega
theorem xor_u32 (a b : Nat) (ha : a < 2 ^ 32) (hb : b < 2 ^ 32) : bits .xor .u32 (a : Int) (b : Int) = ((a ^^^ b : Nat) : Int) := by
  have h32 : IntKind.u32.bits = 32 := rfl
  simp only [bits, BitVec.ofInt_natCast, BitVec.toNat_xor, BitVec.toNat_ofNat, h32, Nat.mod_eq_of_lt ha, Nat.mod_eq_of_lt hb]
  have := Nat.xor_lt_two_pow ha hb
  exact wraps_u32 _ (Int.natCast_nonneg _) (by omega)
theorem wd_and (p q j : Nat) : bits .and .u32 ((N.wd p j : Nat) : Int) ((N.wd q j : Nat) : Int) = ((N.wd (p &&& q) j : Nat) : Int) := by
  rw [(bits_nat .u32 32 (by decide) wraps_u32 _ _ (N.wd_lt p j) (N.wd_lt q j)).1]
  unfold N.wd; rw [N.Bk, N.B_pow, Nat.and_div_two_pow, Nat.and_mod_two_pow]
theorem wd_or (p q j : Nat) : bits .or .u32 ((N.wd p j : Nat) : Int) ((N.wd q j : Nat) : Int) = ((N.wd (p ||| q) j : Nat) : Int) := by
  rw [(bits_nat .u32 32 (by decide) wraps_u32 _ _ (N.wd_lt p j) (N.wd_lt q j)).2]
  unfold N.wd; rw [N.Bk, N.B_pow, Nat.or_div_two_pow, Nat.or_mod_two_pow]
theorem wd_xor (p q j : Nat) : bits .xor .u32 ((N.wd p j : Nat) : Int) ((N.wd q j : Nat) : Int) = ((N.wd (p ^^^ q) j : Nat) : Int) := by
  rw [xor_u32 _ _ (N.wd_lt p j) (N.wd_lt q j)]
  unfold N.wd; rw [N.Bk, N.B_pow, Nat.xor_div_two_pow, Nat.xor_mod_two_pow]
theorem lt_pow_max {p q : Nat} : p < 2 ^ (32 * max (N.ln p) (N.ln q)) ∧ q < 2 ^ (32 * max (N.ln p) (N.ln q)) := by
  have h1 := N.lt_ln p; have h2 := N.lt_ln q
  rw [N.Bk] at h1 h2
  exact ⟨Nat.lt_of_lt_of_le h1 (Nat.pow_le_pow_right (by decide) (by omega)), Nat.lt_of_lt_of_le h2 (Nat.pow_le_pow_right (by decide) (by omega))⟩

set_option maxHeartbeats 8000000 in
theorem intAnd_ok (g gx gy x y : Nat) (z : Int) (hx64 : x < 18446744073709551616) (hy64 : y < 18446744073709551616) (w : World) (hz : Io w g z) (hx : Io w gx (x : Int)) (hy : Io w gy (y : Int)) :
    Calls Try.prog 78 #[P g, P gx, P gy] w fun e w' => e = .returned (P g) ∧ Moved (fun k => k = g) w w' ∧ Io w' g ((x &&& y : Nat) : Int) := by
  obtain ⟨a, l, c, c0, c1, hn, hl⟩ := hx.cells
  obtain ⟨a', l', c', d0, d1, hn', hl'⟩ := hy.cells
  rw [Int.natAbs_natCast] at hn hl hn' hl'
  have hlx : N.ln x ≤ 2 := N.ln_le (Nat.lt_of_lt_of_le hx64 (by decide))
  have hly : N.ln y ≤ 2 := N.ln_le (Nat.lt_of_lt_of_le hy64 (by decide))
  obtain ⟨K, hK⟩ : ∃ K, K = max (N.ln x) (N.ln y) := ⟨_, rfl⟩
  obtain ⟨R, hR⟩ : ∃ R, R = (x &&& y) := ⟨_, rfl⟩
  have hRlt : R < N.B ^ K := by rw [hR, hK, N.Bk]; exact Nat.and_lt_two_pow _ lt_pow_max.2
  have hR1 : R < N.B ^ (K + 1) := Nat.lt_of_lt_of_le hRlt (Nat.pow_le_pow_right (by decide) (by omega))
  have hR0 : N.wd R K = 0 := N.wd_high hRlt (Nat.le_refl _)
  have hK2 : K ≤ 2 := by omega
  obtain ⟨L, hL⟩ : ∃ L, L = K + 1 := ⟨_, rfl⟩
  have LA : Hid (∀ w : World, Io w gx (x : Int) → Calls Try.prog 106 #[P gx, .int .i64 ((L : Nat) : Int)] w fun e w' => e = .returned (.slice (some ⟨w.heap.size, 0, none⟩) L L) ∧ Hid (Blk w' w.heap.size 122 (arr x L)) ∧ Below w.heap.size w w') := fun w h => low_ok gx x L (by omega) (by omega) w h
  have LB : Hid (∀ w : World, Io w gy (y : Int) → Calls Try.prog 106 #[P gy, .int .i64 ((L : Nat) : Int)] w fun e w' => e = .returned (.slice (some ⟨w.heap.size, 0, none⟩) L L) ∧ Hid (Blk w' w.heap.size 122 (arr y L)) ∧ Below w.heap.size w w') := fun w h => low_ok gy y L (by omega) (by omega) w h
  have OF : Hid (∀ (w : World) (rb : Nat), Io w g z → Hid (Blk w rb 122 (arr R L)) → Calls Try.prog 107 #[P g, .slice (some ⟨rb, 0, none⟩) L L] w fun e w' => e = .returned (P g) ∧ Chg g w w' ∧ Io w' g (R : Int)) := fun w rb h1 h2 => by
    subst hL; exact of_ok g rb R K z hR1 hR0 (by omega) w h1 h2
  have HW : Hid (∀ k, bits .and .u32 ((N.wd x k : Nat) : Int) ((N.wd y k : Nat) : Int) = ((N.wd R k : Nat) : Int)) := fun k => by rw [hR]; exact wd_and x y k
  have hmax : (if l < l' then (l' : Int) else (l : Int)) + 1 = (L : Int) := by split <;> omega
  have hmb : 0 ≤ (l : Int) ∧ (l : Int) ≤ 2 ∧ 0 ≤ (l' : Int) ∧ (l' : Int) ≤ 2 := by omega
  obtain ⟨q0, q1, q2, q3⟩ := hmb
  have hL3 : L ≤ 3 := by omega
  have HX := Lib.hid hx; have HY := Lib.hid hy; have HZ := Lib.hid hz
  have HMX := Lib.hid hmax
  clear hx hy hz hn hn' hl hl' hlx hly hK hRlt hR1 hR0 hx64 hy64 hmax hL hK2
  rw [← hR]
  have HR := Lib.hid hR; clear hR
  go_enter Try.func78, Try.ntmps78
  go_wp2
  go_region
  simp only [HMX.out]
  clear HMX
  generalize (if l < l' then (l' : Int) else (l : Int)) = mx
  clear c0 c1 d0 d1 q0 q1 q2 q3
  have HX1 := Lib.hid HX.out.drew; have HY1 := Lib.hid HY.out.drew; have HZ1 := Lib.hid HZ.out.drew
  go_wp2_with (first | (go_at_call_of 106 (P gx); refine (LA.out _ HX1.out).mono ?_; rintro e w1 ⟨rfl, hk1, hb1⟩; have HB1 := Lib.hid hb1; have HY2 := Lib.hid (HY1.out.below hb1); have HS1 : Hid (w.drew.heap.size < w1.heap.size) := hk1.out.lt; clear hb1) | (go_at_call 106; refine (LB.out _ HY2.out).mono ?_; rintro e w2 ⟨rfl, hk2, hb2⟩; have HB2 := Lib.hid hb2; have HK1 := Lib.hid (hk1.out.keep hb2); clear hb2))
  have HBW : Hid (Below w.heap.size w w2) := Ext.trans (Ext.trans (Ext.drew (Below.refl _ _)) HB1.out) HB2.out
  have HS : Hid (w.heap.size < w1.heap.size) := HS1.out
  have HS2 : Hid (w1.heap.size < w2.heap.size) := hk2.out.lt
  have HK0 : Hid (Blk w2 w.heap.size 122 (arf (mix 0 R x) L)) := by show Blk _ _ _ _; rw [mix_zero]; exact HK1.out
  have HK2 := Lib.hid hk2.out
  clear HB1 HB2 HK1 hk1 hk2 HX1 HY1 HZ1 HY2 HS1 LA LB HX HY
  go_loopw [10] (fun i wr => ∃ k : Nat, k ≤ L ∧ i = .int .i64 k ∧ Hid (Blk wr w.heap.size 122 (arf (mix k R x) L)) ∧ Hid (Blk wr w1.heap.size 122 (arr y L)) ∧ Hid (Below w.heap.size w wr)) (fun i _ => L - (intOf i).toNat)
  case atStart => exact ⟨0, Nat.zero_le _, rfl, HK0, HK2, HBW⟩
  case round =>
    obtain ⟨k, hk, rfl, hA, hB, hW⟩ := hrel
    clear HK0 HK2 HBW
    by_cases hlt : k < L
    · obtain ⟨X, hX⟩ : ∃ X : Int, X = ((N.wd x k : Nat) : Int) := ⟨_, rfl⟩
      obtain ⟨Y, hY⟩ : ∃ Y : Int, Y = ((N.wd y k : Nat) : Int) := ⟨_, rfl⟩
      have c1 : wr.cell? ⟨w.heap.size, k, none⟩ = some (.int .u32 X) := by
        rw [hA.out.cell, arf_get hlt, hX]; unfold mix; rw [if_neg (Nat.lt_irrefl _)]
      have c2 : wr.cell? ⟨w1.heap.size, k, none⟩ = some (.int .u32 Y) := by rw [hB.out.cell, arr_get hlt, hY]
      have f1 : wr.frozen? ⟨w.heap.size, k, none⟩ = false := hA.out.frozen k
      have HE : Hid (bits .and .u32 X Y = ((N.wd R k : Nat) : Int)) := by show bits .and .u32 X Y = _; rw [hX, hY]; exact HW.out k
      have hd : decide ((k : Int) < L) = true := by simp; omega
      have e1 : 0 ≤ X ∧ X < 4294967296 ∧ 0 ≤ Y ∧ Y < 4294967296 := by have := N.wd_lt x k; have := N.wd_lt y k; omega
      obtain ⟨x0, x1, y0, y1⟩ := e1
      clear hX hY
      go_wp2
      go_region
      go_wp2
      go_roundw
      case rel =>
        refine ⟨k + 1, by omega, by go_num, ?_, ?_, ?_⟩
        · show Blk _ _ _ _
          rw [HE.out, ← mix_step hlt]; exact hA.out.drew.set_ k _
        · exact hB.out.drew.far (by show w1.heap.size ≠ w.heap.size; have := HS.out; omega) _
        · exact Ext.setCell (Ext.drew hW.out) (Nat.le_refl _) _
      case measure => simp [intOf]; omega
    · obtain rfl : k = L := by omega
      have HRB : Hid (Blk wr w.heap.size 122 (arr R k)) := by show Blk _ _ _ _; rw [← mix_done R x k]; exact hA.out
      have HZ2 := Lib.hid (HZ.out.below hW.out)
      go_wp2_with (first | (go_at_call 107; refine (OF.out _ _ HZ2.out HRB).mono ?_; rintro e w3 ⟨rfl, hc, hi⟩; have HC := Lib.hid hc; have HI := Lib.hid hi; clear hc hi))
      go_ret
      exact ⟨rfl, (Moved.of_below hW.out).trans (Moved.of_chg HC.out HZ2.out), HI.out⟩

set_option maxHeartbeats 8000000 in
theorem intOr_ok (g gx gy x y : Nat) (z : Int) (hx64 : x < 18446744073709551616) (hy64 : y < 18446744073709551616) (w : World) (hz : Io w g z) (hx : Io w gx (x : Int)) (hy : Io w gy (y : Int)) :
    Calls Try.prog 81 #[P g, P gx, P gy] w fun e w' => e = .returned (P g) ∧ Moved (fun k => k = g) w w' ∧ Io w' g ((x ||| y : Nat) : Int) := by
  obtain ⟨a, l, c, c0, c1, hn, hl⟩ := hx.cells
  obtain ⟨a', l', c', d0, d1, hn', hl'⟩ := hy.cells
  rw [Int.natAbs_natCast] at hn hl hn' hl'
  have hlx : N.ln x ≤ 2 := N.ln_le (Nat.lt_of_lt_of_le hx64 (by decide))
  have hly : N.ln y ≤ 2 := N.ln_le (Nat.lt_of_lt_of_le hy64 (by decide))
  obtain ⟨K, hK⟩ : ∃ K, K = max (N.ln x) (N.ln y) := ⟨_, rfl⟩
  obtain ⟨R, hR⟩ : ∃ R, R = (x ||| y) := ⟨_, rfl⟩
  have hRlt : R < N.B ^ K := by rw [hR, hK, N.Bk]; exact Nat.or_lt_two_pow lt_pow_max.1 lt_pow_max.2
  have hR1 : R < N.B ^ (K + 1) := Nat.lt_of_lt_of_le hRlt (Nat.pow_le_pow_right (by decide) (by omega))
  have hR0 : N.wd R K = 0 := N.wd_high hRlt (Nat.le_refl _)
  have hK2 : K ≤ 2 := by omega
  obtain ⟨L, hL⟩ : ∃ L, L = K + 1 := ⟨_, rfl⟩
  have LA : Hid (∀ w : World, Io w gx (x : Int) → Calls Try.prog 106 #[P gx, .int .i64 ((L : Nat) : Int)] w fun e w' => e = .returned (.slice (some ⟨w.heap.size, 0, none⟩) L L) ∧ Hid (Blk w' w.heap.size 122 (arr x L)) ∧ Below w.heap.size w w') := fun w h => low_ok gx x L (by omega) (by omega) w h
  have LB : Hid (∀ w : World, Io w gy (y : Int) → Calls Try.prog 106 #[P gy, .int .i64 ((L : Nat) : Int)] w fun e w' => e = .returned (.slice (some ⟨w.heap.size, 0, none⟩) L L) ∧ Hid (Blk w' w.heap.size 122 (arr y L)) ∧ Below w.heap.size w w') := fun w h => low_ok gy y L (by omega) (by omega) w h
  have OF : Hid (∀ (w : World) (rb : Nat), Io w g z → Hid (Blk w rb 122 (arr R L)) → Calls Try.prog 107 #[P g, .slice (some ⟨rb, 0, none⟩) L L] w fun e w' => e = .returned (P g) ∧ Chg g w w' ∧ Io w' g (R : Int)) := fun w rb h1 h2 => by
    subst hL; exact of_ok g rb R K z hR1 hR0 (by omega) w h1 h2
  have HW : Hid (∀ k, bits .or .u32 ((N.wd x k : Nat) : Int) ((N.wd y k : Nat) : Int) = ((N.wd R k : Nat) : Int)) := fun k => by rw [hR]; exact wd_or x y k
  have hmax : (if l < l' then (l' : Int) else (l : Int)) + 1 = (L : Int) := by split <;> omega
  have hmb : 0 ≤ (l : Int) ∧ (l : Int) ≤ 2 ∧ 0 ≤ (l' : Int) ∧ (l' : Int) ≤ 2 := by omega
  obtain ⟨q0, q1, q2, q3⟩ := hmb
  have hL3 : L ≤ 3 := by omega
  have HX := Lib.hid hx; have HY := Lib.hid hy; have HZ := Lib.hid hz
  have HMX := Lib.hid hmax
  clear hx hy hz hn hn' hl hl' hlx hly hK hRlt hR1 hR0 hx64 hy64 hmax hL hK2
  rw [← hR]
  have HR := Lib.hid hR; clear hR
  go_enter Try.func81, Try.ntmps81
  go_wp2
  go_region
  simp only [HMX.out]
  clear HMX
  generalize (if l < l' then (l' : Int) else (l : Int)) = mx
  clear c0 c1 d0 d1 q0 q1 q2 q3
  have HX1 := Lib.hid HX.out.drew; have HY1 := Lib.hid HY.out.drew; have HZ1 := Lib.hid HZ.out.drew
  go_wp2_with (first | (go_at_call_of 106 (P gx); refine (LA.out _ HX1.out).mono ?_; rintro e w1 ⟨rfl, hk1, hb1⟩; have HB1 := Lib.hid hb1; have HY2 := Lib.hid (HY1.out.below hb1); have HS1 : Hid (w.drew.heap.size < w1.heap.size) := hk1.out.lt; clear hb1) | (go_at_call 106; refine (LB.out _ HY2.out).mono ?_; rintro e w2 ⟨rfl, hk2, hb2⟩; have HB2 := Lib.hid hb2; have HK1 := Lib.hid (hk1.out.keep hb2); clear hb2))
  have HBW : Hid (Below w.heap.size w w2) := Ext.trans (Ext.trans (Ext.drew (Below.refl _ _)) HB1.out) HB2.out
  have HS : Hid (w.heap.size < w1.heap.size) := HS1.out
  have HS2 : Hid (w1.heap.size < w2.heap.size) := hk2.out.lt
  have HK0 : Hid (Blk w2 w.heap.size 122 (arf (mix 0 R x) L)) := by show Blk _ _ _ _; rw [mix_zero]; exact HK1.out
  have HK2 := Lib.hid hk2.out
  clear HB1 HB2 HK1 hk1 hk2 HX1 HY1 HZ1 HY2 HS1 LA LB HX HY
  go_loopw [10] (fun i wr => ∃ k : Nat, k ≤ L ∧ i = .int .i64 k ∧ Hid (Blk wr w.heap.size 122 (arf (mix k R x) L)) ∧ Hid (Blk wr w1.heap.size 122 (arr y L)) ∧ Hid (Below w.heap.size w wr)) (fun i _ => L - (intOf i).toNat)
  case atStart => exact ⟨0, Nat.zero_le _, rfl, HK0, HK2, HBW⟩
  case round =>
    obtain ⟨k, hk, rfl, hA, hB, hW⟩ := hrel
    clear HK0 HK2 HBW
    by_cases hlt : k < L
    · obtain ⟨X, hX⟩ : ∃ X : Int, X = ((N.wd x k : Nat) : Int) := ⟨_, rfl⟩
      obtain ⟨Y, hY⟩ : ∃ Y : Int, Y = ((N.wd y k : Nat) : Int) := ⟨_, rfl⟩
      have c1 : wr.cell? ⟨w.heap.size, k, none⟩ = some (.int .u32 X) := by
        rw [hA.out.cell, arf_get hlt, hX]; unfold mix; rw [if_neg (Nat.lt_irrefl _)]
      have c2 : wr.cell? ⟨w1.heap.size, k, none⟩ = some (.int .u32 Y) := by rw [hB.out.cell, arr_get hlt, hY]
      have f1 : wr.frozen? ⟨w.heap.size, k, none⟩ = false := hA.out.frozen k
      have HE : Hid (bits .or .u32 X Y = ((N.wd R k : Nat) : Int)) := by show bits .or .u32 X Y = _; rw [hX, hY]; exact HW.out k
      have hd : decide ((k : Int) < L) = true := by simp; omega
      have e1 : 0 ≤ X ∧ X < 4294967296 ∧ 0 ≤ Y ∧ Y < 4294967296 := by have := N.wd_lt x k; have := N.wd_lt y k; omega
      obtain ⟨x0, x1, y0, y1⟩ := e1
      clear hX hY
      go_wp2
      go_region
      go_wp2
      go_roundw
      case rel =>
        refine ⟨k + 1, by omega, by go_num, ?_, ?_, ?_⟩
        · show Blk _ _ _ _
          rw [HE.out, ← mix_step hlt]; exact hA.out.drew.set_ k _
        · exact hB.out.drew.far (by show w1.heap.size ≠ w.heap.size; have := HS.out; omega) _
        · exact Ext.setCell (Ext.drew hW.out) (Nat.le_refl _) _
      case measure => simp [intOf]; omega
    · obtain rfl : k = L := by omega
      have HRB : Hid (Blk wr w.heap.size 122 (arr R k)) := by show Blk _ _ _ _; rw [← mix_done R x k]; exact hA.out
      have HZ2 := Lib.hid (HZ.out.below hW.out)
      go_wp2_with (first | (go_at_call 107; refine (OF.out _ _ HZ2.out HRB).mono ?_; rintro e w3 ⟨rfl, hc, hi⟩; have HC := Lib.hid hc; have HI := Lib.hid hi; clear hc hi))
      go_ret
      exact ⟨rfl, (Moved.of_below hW.out).trans (Moved.of_chg HC.out HZ2.out), HI.out⟩

set_option maxHeartbeats 8000000 in
theorem intXor_ok (g gx gy x y : Nat) (z : Int) (hx64 : x < 18446744073709551616) (hy64 : y < 18446744073709551616) (w : World) (hz : Io w g z) (hx : Io w gx (x : Int)) (hy : Io w gy (y : Int)) :
    Calls Try.prog 80 #[P g, P gx, P gy] w fun e w' => e = .returned (P g) ∧ Moved (fun k => k = g) w w' ∧ Io w' g ((x ^^^ y : Nat) : Int) := by
  obtain ⟨a, l, c, c0, c1, hn, hl⟩ := hx.cells
  obtain ⟨a', l', c', d0, d1, hn', hl'⟩ := hy.cells
  rw [Int.natAbs_natCast] at hn hl hn' hl'
  have hlx : N.ln x ≤ 2 := N.ln_le (Nat.lt_of_lt_of_le hx64 (by decide))
  have hly : N.ln y ≤ 2 := N.ln_le (Nat.lt_of_lt_of_le hy64 (by decide))
  obtain ⟨K, hK⟩ : ∃ K, K = max (N.ln x) (N.ln y) := ⟨_, rfl⟩
  obtain ⟨R, hR⟩ : ∃ R, R = (x ^^^ y) := ⟨_, rfl⟩
  have hRlt : R < N.B ^ K := by rw [hR, hK, N.Bk]; exact Nat.xor_lt_two_pow lt_pow_max.1 lt_pow_max.2
  have hR1 : R < N.B ^ (K + 1) := Nat.lt_of_lt_of_le hRlt (Nat.pow_le_pow_right (by decide) (by omega))
  have hR0 : N.wd R K = 0 := N.wd_high hRlt (Nat.le_refl _)
  have hK2 : K ≤ 2 := by omega
  obtain ⟨L, hL⟩ : ∃ L, L = K + 1 := ⟨_, rfl⟩
  have LA : Hid (∀ w : World, Io w gx (x : Int) → Calls Try.prog 106 #[P gx, .int .i64 ((L : Nat) : Int)] w fun e w' => e = .returned (.slice (some ⟨w.heap.size, 0, none⟩) L L) ∧ Hid (Blk w' w.heap.size 122 (arr x L)) ∧ Below w.heap.size w w') := fun w h => low_ok gx x L (by omega) (by omega) w h
  have LB : Hid (∀ w : World, Io w gy (y : Int) → Calls Try.prog 106 #[P gy, .int .i64 ((L : Nat) : Int)] w fun e w' => e = .returned (.slice (some ⟨w.heap.size, 0, none⟩) L L) ∧ Hid (Blk w' w.heap.size 122 (arr y L)) ∧ Below w.heap.size w w') := fun w h => low_ok gy y L (by omega) (by omega) w h
  have OF : Hid (∀ (w : World) (rb : Nat), Io w g z → Hid (Blk w rb 122 (arr R L)) → Calls Try.prog 107 #[P g, .slice (some ⟨rb, 0, none⟩) L L] w fun e w' => e = .returned (P g) ∧ Chg g w w' ∧ Io w' g (R : Int)) := fun w rb h1 h2 => by
    subst hL; exact of_ok g rb R K z hR1 hR0 (by omega) w h1 h2
  have HW : Hid (∀ k, bits .xor .u32 ((N.wd x k : Nat) : Int) ((N.wd y k : Nat) : Int) = ((N.wd R k : Nat) : Int)) := fun k => by rw [hR]; exact wd_xor x y k
  have hmax : (if l < l' then (l' : Int) else (l : Int)) + 1 = (L : Int) := by split <;> omega
  have hmb : 0 ≤ (l : Int) ∧ (l : Int) ≤ 2 ∧ 0 ≤ (l' : Int) ∧ (l' : Int) ≤ 2 := by omega
  obtain ⟨q0, q1, q2, q3⟩ := hmb
  have hL3 : L ≤ 3 := by omega
  have HX := Lib.hid hx; have HY := Lib.hid hy; have HZ := Lib.hid hz
  have HMX := Lib.hid hmax
  clear hx hy hz hn hn' hl hl' hlx hly hK hRlt hR1 hR0 hx64 hy64 hmax hL hK2
  rw [← hR]
  have HR := Lib.hid hR; clear hR
  go_enter Try.func80, Try.ntmps80
  go_wp2
  go_region
  simp only [HMX.out]
  clear HMX
  generalize (if l < l' then (l' : Int) else (l : Int)) = mx
  clear c0 c1 d0 d1 q0 q1 q2 q3
  have HX1 := Lib.hid HX.out.drew; have HY1 := Lib.hid HY.out.drew; have HZ1 := Lib.hid HZ.out.drew
  go_wp2_with (first | (go_at_call_of 106 (P gx); refine (LA.out _ HX1.out).mono ?_; rintro e w1 ⟨rfl, hk1, hb1⟩; have HB1 := Lib.hid hb1; have HY2 := Lib.hid (HY1.out.below hb1); have HS1 : Hid (w.drew.heap.size < w1.heap.size) := hk1.out.lt; clear hb1) | (go_at_call 106; refine (LB.out _ HY2.out).mono ?_; rintro e w2 ⟨rfl, hk2, hb2⟩; have HB2 := Lib.hid hb2; have HK1 := Lib.hid (hk1.out.keep hb2); clear hb2))
  have HBW : Hid (Below w.heap.size w w2) := Ext.trans (Ext.trans (Ext.drew (Below.refl _ _)) HB1.out) HB2.out
  have HS : Hid (w.heap.size < w1.heap.size) := HS1.out
  have HS2 : Hid (w1.heap.size < w2.heap.size) := hk2.out.lt
  have HK0 : Hid (Blk w2 w.heap.size 122 (arf (mix 0 R x) L)) := by show Blk _ _ _ _; rw [mix_zero]; exact HK1.out
  have HK2 := Lib.hid hk2.out
  clear HB1 HB2 HK1 hk1 hk2 HX1 HY1 HZ1 HY2 HS1 LA LB HX HY
  go_loopw [10] (fun i wr => ∃ k : Nat, k ≤ L ∧ i = .int .i64 k ∧ Hid (Blk wr w.heap.size 122 (arf (mix k R x) L)) ∧ Hid (Blk wr w1.heap.size 122 (arr y L)) ∧ Hid (Below w.heap.size w wr)) (fun i _ => L - (intOf i).toNat)
  case atStart => exact ⟨0, Nat.zero_le _, rfl, HK0, HK2, HBW⟩
  case round =>
    obtain ⟨k, hk, rfl, hA, hB, hW⟩ := hrel
    clear HK0 HK2 HBW
    by_cases hlt : k < L
    · obtain ⟨X, hX⟩ : ∃ X : Int, X = ((N.wd x k : Nat) : Int) := ⟨_, rfl⟩
      obtain ⟨Y, hY⟩ : ∃ Y : Int, Y = ((N.wd y k : Nat) : Int) := ⟨_, rfl⟩
      have c1 : wr.cell? ⟨w.heap.size, k, none⟩ = some (.int .u32 X) := by
        rw [hA.out.cell, arf_get hlt, hX]; unfold mix; rw [if_neg (Nat.lt_irrefl _)]
      have c2 : wr.cell? ⟨w1.heap.size, k, none⟩ = some (.int .u32 Y) := by rw [hB.out.cell, arr_get hlt, hY]
      have f1 : wr.frozen? ⟨w.heap.size, k, none⟩ = false := hA.out.frozen k
      have HE : Hid (bits .xor .u32 X Y = ((N.wd R k : Nat) : Int)) := by show bits .xor .u32 X Y = _; rw [hX, hY]; exact HW.out k
      have hd : decide ((k : Int) < L) = true := by simp; omega
      have e1 : 0 ≤ X ∧ X < 4294967296 ∧ 0 ≤ Y ∧ Y < 4294967296 := by have := N.wd_lt x k; have := N.wd_lt y k; omega
      obtain ⟨x0, x1, y0, y1⟩ := e1
      clear hX hY
      go_wp2
      go_region
      go_wp2
      go_roundw
      case rel =>
        refine ⟨k + 1, by omega, by go_num, ?_, ?_, ?_⟩
        · show Blk _ _ _ _
          rw [HE.out, ← mix_step hlt]; exact hA.out.drew.set_ k _
        · exact hB.out.drew.far (by show w1.heap.size ≠ w.heap.size; have := HS.out; omega) _
        · exact Ext.setCell (Ext.drew hW.out) (Nat.le_refl _) _
      case measure => simp [intOf]; omega
    · obtain rfl : k = L := by omega
      have HRB : Hid (Blk wr w.heap.size 122 (arr R k)) := by show Blk _ _ _ _; rw [← mix_done R x k]; exact hA.out
      have HZ2 := Lib.hid (HZ.out.below hW.out)
      go_wp2_with (first | (go_at_call 107; refine (OF.out _ _ HZ2.out HRB).mono ?_; rintro e w3 ⟨rfl, hc, hi⟩; have HC := Lib.hid hc; have HI := Lib.hid hi; clear hc hi))
      go_ret
      exact ⟨rfl, (Moved.of_below hW.out).trans (Moved.of_chg HC.out HZ2.out), HI.out⟩
end Go.Proofs.Ytkmcniaaecijdaa
