/- Walks of parser: a type that comes; one level deeper. No condition. -/
import Derived.Test.YtfkndjifhmkojaaPt2
import Derived.Test.YtfkndjifhmkojaaP3
import Derived.Defers
import Derived.LoopTactic
import Derived.Deep.Cut
import Derived.Test.YtfkndjifhmkojaaTA
import Derived.Test.YtfkndjifhmkojaaPA
import Derived.Test.YtfkndjifhmkojaaKA
import Derived.Deep.QuietTactic
import Derived.BigQuiet
namespace Go.Proofs.Ytfkndjifhmkojaa
open Go.RowKit
set_option linter.unusedVariables false
set_option linter.unusedSimpArgs false
set_option maxRecDepth 100000
/-- What comes of a type. -/
def PtR (g fin d : Nat) (w : World) (l : List Tk.Tok) (r : Option (Int × Bool)) (e : Ending) (w' : World) : Prop := Chg g w w' ∧ match r with
  | some t => e = .returned (.tuple #[W.ty t.1 t.2, .bool true]) ∧ Pb w' g fin d l.tail
  | none => e = .returned (.tuple #[W.ty 0 false, .bool false]) ∧ Pb w' g fin d l
theorem W.nt_no {l : List UInt8} (h : (W.nt l).2.2 = false) : W.nt l = (0, false, false) := by
  unfold W.nt at *
  repeat' (split at h; · simp at h)
  simp [*]
theorem Pb.setNew {w w' : World} {g fin d : Nat} {l : List Tk.Tok} (h : Pb w g fin d l) (hc : Chg g w w') (hg : w'.heap[g]? = w.heap[g]?) : Pb w' g fin d l := by
  obtain ⟨v, h1, h2⟩ := h
  exact ⟨v, hg.trans h1, h2.chg hc⟩
set_option maxHeartbeats 8000000 in
theorem ptyped_ok (w : World) (g fin d : Nat) (l : List Tk.Tok) (h : Pb w g fin d l) : Calls Try.prog 20 #[P g] w (PtR g fin d w l (Ps.typed l)) := by
  have HP0 := Lib.hid h
  obtain ⟨v, hb, ht⟩ := h
  have hgl : g < w.heap.size := hb.lt
  have HLT := Lib.hid hgl
  cases l with
  | nil =>
    obtain ⟨a, c, rfl, _, _⟩ := ht.sl
    have p0 := (hb.alloc (.cells #[.int .i64 0, .bool false] 38)).cell 0
    clear hb ht
    go_enter Try.func20, Try.ntmps20
    go_wp2
    exact bodyPost_ret (v := .tuple #[W.ty 0 false, .bool false]) (by simp [results, Try.results20, go_sem]) rfl ⟨Chg.of_below (Ext.alloc (Below.refl _ _) _), rfl, HP0.out.keep (Ext.alloc (Below.refl _ _) _)⟩
  | cons t l =>
    obtain ⟨q, off, c, hq, rfl, hlc, hcm, c0, c1, c2, c3, c4, c5⟩ := ht.hd
    have q0 : ((l.length : Int) + 1 == 0) = false := by simp; omega
    obtain ⟨w1, hw1⟩ : ∃ w1, w1 = w.alloc (.cells #[.int .i64 0, .bool false] 38) := ⟨_, rfl⟩
    obtain ⟨b2, hb2⟩ : ∃ b2, b2 = w.heap.size := ⟨_, rfl⟩
    have HBL : Hid (Below w.heap.size w w1) := by show Below _ _ _; rw [hw1]; exact Ext.alloc (Below.refl _ _) _
    have HT0 := Lib.hid ht
    have HP1 : Hid (ParB w1 g (.slice (some ⟨q, off, none⟩) (l.length + 1) c) fin d) := hb.keep HBL.out
    have HT1 : Hid (Tks w1 g (t :: l) (.slice (some ⟨q, off, none⟩) (l.length + 1) c)) := ht.chg (Chg.of_below HBL.out)
    have HZ1 : Hid (Ty w1 b2 0 false) := by rw [hw1, hb2]; exact Ty.new w rfl 0 false 38
    have HZB : Hid (b2 < w1.heap.size ∧ b2 ≠ g ∧ w.heap.size ≤ b2) := ⟨by rw [hw1, hb2]; simp, by omega, by omega⟩
    by_cases hk : t.kind = 1
    rotate_left
    · have e : Ps.typed (t :: l) = none := by rw [Ps.typed, if_neg (fun h => hk h.1)]
      rw [e]
      have qk : (t.kind != 1) = true := by simpa using hk
      have p0 := HP1.out.cell 0
      obtain ⟨_, _, _, _, eq, _, _, k0, _⟩ := HT1.out.hd
      injection eq with e1 e2 e3
      injection e1 with e1
      injection e1 with e4 e5
      subst e4 e5
      clear e2 e3 hb ht hk e c0 c1 c2 c3 c4 c5 hgl
      go_enter Try.func20, Try.ntmps20
      go_upto_region 1 with (fail)
      rw [← hw1, ← hb2]
      clear hw1 hb2
      obtain ⟨y0, y1, y2, y3⟩ := HZ1.out
      go_wp2
      exact bodyPost_ret (v := .tuple #[W.ty 0 false, .bool false]) (by simp [results, Try.results20, go_sem, y0, y1, y2, y3]) rfl ⟨Chg.of_below (Ext.setCell (Ext.setCell HBL.out HZB.out.2.2 _) HZB.out.2.2 _), rfl, ⟨_, (HP1.out.far (by show g ≠ b2; exact HZB.out.2.1.symm) _).far (by show g ≠ b2; exact HZB.out.2.1.symm) _, (HT0.out.chg (Chg.of_below (Ext.setCell (Ext.setCell HBL.out HZB.out.2.2 _) HZB.out.2.2 _)))⟩⟩
    have qk : (t.kind != 1) = false := by simpa using hk
    have hsz : t.text.length ≤ 65536 := ht.ok.len
    obtain ⟨nb, nsg, nok, hnt⟩ : ∃ b s o, W.nt t.text = (b, s, o) := ⟨_, _, _, rfl⟩
    have HNA : Hid (∀ wi : World, Calls Try.prog 42 #[.string ⟨t.text.toArray⟩] wi fun e w' => e = .returned (.tuple #[W.ty nb nsg, .bool nok]) ∧ Below wi.heap.size wi w') := fun wi => by
      have := named_ok ⟨t.text.toArray⟩ (by rw [Tk.size_is]; show t.text.toArray.toList.length ≤ _; unfold maxLen; simp; omega) wi
      rw [show (⟨t.text.toArray⟩ : ByteArray).data.toList = t.text by simp, hnt] at this
      exact this
    have e : Ps.typed (t :: l) = if nok = true then some (nb, nsg) else none := by
      rw [Ps.typed, hnt]
      cases nok <;> simp [hk]
    have hz : nok = false → nb = 0 ∧ nsg = false := fun h => by
      have := W.nt_no (l := t.text) (by rw [hnt]; exact h)
      rw [hnt] at this
      injection this with h1 h2
      injection h2 with h2 h3
      exact ⟨h1, h2⟩
    rw [e]
    have p0 := HP1.out.cell 0
    obtain ⟨_, _, _, _, eq, _, _, k0, k1, _⟩ := HT1.out.hd
    injection eq with e1 e2 e3
    injection e1 with e1
    injection e1 with e4 e5
    subst e4 e5
    have HZ := Lib.hid hz
    have HTL : Hid (∀ a wi, (a = if c = 1 then some ⟨q, off, none⟩ else some ⟨q, off + 6, none⟩) → Chg g w wi → Tks wi g l (.slice a l.length (c - 1))) := fun a wi ha hc => by rw [ha]; exact ht.tl.chg hc
    clear e2 e3 hb ht hk e hsz hnt hz c0 c1 c2 c3 c4 c5 hgl
    go_enter Try.func20, Try.ntmps20
    go_upto_region 1 with (fail)
    rw [← hw1, ← hb2]
    clear hw1 hb2
    go_upto_region 4 with (first | (go_at_call 42; refine (HNA.out _).mono ?_; rintro e w3 ⟨rfl, hb3⟩; have HB3 := Lib.hid hb3; clear hb3))
    generalize hw4 : World.alloc w3 _ = w4
    have HBL4 : Hid (Below w3.heap.size w3 w4) := by show Below _ _ _; rw [← hw4]; exact Ext.alloc (Below.refl _ _) _
    have HY4 : Hid (Ty w4 w3.heap.size nb nsg) := by rw [← hw4]; exact Ty.new w3 rfl nb nsg 38
    have HB14 : Hid (Below w1.heap.size w1 w4) := Ext.trans HB3.out HBL4.out
    have HB4 : Hid (Below w.heap.size w w4) := Ext.trans HBL.out HB14.out
    have HP4 := Lib.hid (HP1.out.keep HB14.out)
    obtain ⟨b4, hb4⟩ : ∃ b4, b4 = w3.heap.size := ⟨_, rfl⟩
    rw [← hb4] at HY4 ⊢
    have HZ4 : Hid (Ty w4 b2 0 false) := HZ1.out.below HB14.out
    have h13 := HB3.out.size
    have hne24 : b2 ≠ b4 := by have := HZB.out; omega
    have hneg4 : g ≠ b4 := by have := HLT.out; have := HBL.out.size; omega
    have HN2 : Hid (g ≠ b2) := HZB.out.2.1.symm
    clear hw4 hb4 h13 p0 k0 k1
    obtain ⟨y0, y1, y2, y3⟩ := HY4.out
    obtain ⟨x0, x1, x2, x3⟩ := HZ4.out
    have p0 := HP4.out.cell 0
    have z0 := HP4.out.frozen 0
    have hn2 := HN2.out
    have hn2' : b2 ≠ g := fun e => hn2 e.symm
    cases nok with
    | false =>
      obtain ⟨rfl, rfl⟩ := HZ.out rfl
      go_wp2
      exact bodyPost_ret (v := .tuple #[W.ty 0 false, .bool false]) (by simp [results, Try.results20, go_sem, x0, x1, x2, x3]) rfl ⟨Chg.of_below (Ext.setCell (Ext.setCell HB4.out HZB.out.2.2 _) HZB.out.2.2 _), rfl, ⟨_, (HP4.out.far (by show g ≠ b2; exact HN2.out) _).far (by show g ≠ b2; exact HN2.out) _, HT0.out.chg (Chg.of_below (Ext.setCell (Ext.setCell HB4.out HZB.out.2.2 _) HZB.out.2.2 _))⟩⟩
    | true =>
      by_cases hc1 : c = 1
      · subst hc1
        obtain rfl : l = [] := List.eq_nil_of_length_eq_zero (by omega)
        go_wp2
        have HCF : Hid (∀ u0 u1 u2, Chg g w (((w4.setCell ⟨g, 0, none⟩ u0).setCell ⟨b2, 0, none⟩ u1).setCell ⟨b2, 1, none⟩ u2)) := fun u0 u1 u2 => (((Chg.of_below HB4.out).setCell 0 u0).setNew HZB.out.2.2 u1).setNew HZB.out.2.2 u2
        exact bodyPost_ret (v := .tuple #[W.ty nb nsg, .bool true]) (by simp [results, Try.results20, go_sem, x0, x1, x2, x3, hn2, hn2']) rfl ⟨HCF.out _ _ _, rfl, ⟨_, ((by have := HP4.out.set_ 0 (.slice (some ⟨q, off, none⟩) 0 0); simpa using this : ParB (w4.setCell ⟨g, 0, none⟩ (.slice (some ⟨q, off, none⟩) 0 0)) g _ fin d).far (by show g ≠ b2; exact HN2.out) _).far (by show g ≠ b2; exact HN2.out) _, HTL.out _ _ (by simp) (HCF.out _ _ _)⟩⟩
      · go_wp2
        have HCF : Hid (∀ u0 u1 u2, Chg g w (((w4.setCell ⟨g, 0, none⟩ u0).setCell ⟨b2, 0, none⟩ u1).setCell ⟨b2, 1, none⟩ u2)) := fun u0 u1 u2 => (((Chg.of_below HB4.out).setCell 0 u0).setNew HZB.out.2.2 u1).setNew HZB.out.2.2 u2
        exact bodyPost_ret (v := .tuple #[W.ty nb nsg, .bool true]) (by simp [results, Try.results20, go_sem, x0, x1, x2, x3, hn2, hn2']) rfl ⟨HCF.out _ _ _, rfl, ⟨_, ((by have := HP4.out.set_ 0 (.slice (some ⟨q, off + 6, none⟩) l.length (c - 1)); simpa using this : ParB (w4.setCell ⟨g, 0, none⟩ (.slice (some ⟨q, off + 6, none⟩) l.length (c - 1))) g _ fin d).far (by show g ≠ b2; exact HN2.out) _).far (by show g ≠ b2; exact HN2.out) _, HTL.out _ _ (if_neg hc1).symm (HCF.out _ _ _)⟩⟩
theorem below_eq {w w' : World} (h : w = w') : Below w.heap.size w w' := by subst h; exact Below.refl _ _
theorem pat_b (w : World) (g fin d : Nat) (l : List Tk.Tok) (h : Pb w g fin d l) : Calls Try.prog 19 #[P g] w fun e w' => e = .returned (.int .i64 (Ps.pos fin l : Int)) ∧ Below w.heap.size w w' := (pat_ok w g fin d l h).mono fun _ _ h => ⟨h.1, below_eq h.2⟩
set_option maxHeartbeats 4000000 in
theorem pdeeper_ok (w : World) (g fin d : Nat) (l : List Tk.Tok) (h : Pb w g fin d l) (hd : d < 400) : Calls Try.prog 68 #[P g] w fun e w' => ∃ b, e = .returned (.func (.func 89) #[] #[P b]) ∧ b ≠ g ∧ w.heap.size ≤ b ∧ w'.cell? ⟨b, 0, none⟩ = some (P g) ∧ Chg g w w' ∧ Pb w' g fin (d + 1) l := by
  have hmf : ∀ (fn : Go.Fn) (first cap : Array Value) (w : World), (Instr.makeFunc fn first cap).run Try.prog w = .ok (.func fn first cap) w := fun _ _ _ _ => rfl
  obtain ⟨v, hb, ht⟩ := h
  obtain ⟨w1, hw1⟩ : ∃ w1, w1 = w.alloc (.cells #[P g] 62) := ⟨_, rfl⟩
  obtain ⟨b, hbb⟩ : ∃ b, b = w.heap.size := ⟨_, rfl⟩
  have hlt := hb.lt
  have hbox : Blk w1 b 62 #[P g] := by rw [hw1, hbb]; exact Blk.new _ _ _
  have hbl : Below w.heap.size w w1 := by rw [hw1]; exact Ext.alloc (Below.refl _ _) _
  have hp1 := hb.keep hbl
  have hne : b ≠ g := by omega
  have hc : Chg g w (w1.setCell ⟨g, 2, none⟩ (.int .i64 ((d : Int) + 1))) := (Chg.of_below hbl).setCell 2 _
  have HF : Hid (b ≠ g ∧ w.heap.size ≤ b ∧ (w1.setCell ⟨g, 2, none⟩ (.int .i64 ((d : Int) + 1))).cell? ⟨b, 0, none⟩ = some (P g) ∧ Chg g w (w1.setCell ⟨g, 2, none⟩ (.int .i64 ((d : Int) + 1))) ∧ Pb (w1.setCell ⟨g, 2, none⟩ (.int .i64 ((d : Int) + 1))) g fin (d + 1) l) := by
    refine ⟨hne, by omega, (hbox.far (by exact hne) _).cell 0, hc, v, ?_, ht.chg hc⟩
    have := hp1.set_ 2 (.int .i64 ((d : Int) + 1))
    have e : ((d + 1 : Nat) : Int) = (d : Int) + 1 := by omega
    show Blk _ g _ #[v, .int .i64 (fin : Int), .int .i64 ((d + 1 : Nat) : Int)]
    rw [e]; simpa using this
  have c0 := hbox.cell 0
  have p2 := hp1.cell 2
  have z2 := hp1.frozen 2
  have q4 : decide ((d : Int) + 1 > 400) = false := by simp; omega
  have hgb : g ≠ b := fun e => hne e.symm
  have hd9 : (d : Int) ≤ 1000 := by omega
  have hd8 : (0 : Int) ≤ (d : Int) := by omega
  clear hb ht hlt hbox hbl hp1 hc hd
  go_enter Try.func68, Try.ntmps68
  go_upto_region 1 with (fail)
  rw [← hw1, ← hbb]
  clear hw1 hbb
  go_wp2
  go_ret
  exact ⟨b, rfl, HF.out⟩
set_option maxHeartbeats 4000000 in
theorem pdeeper_no (w : World) (g fin d : Nat) (l : List Tk.Tok) (h : Pb w g fin d l) (hd : 400 ≤ d) (hd1 : d ≤ 1000) : Calls Try.prog 68 #[P g] w fun e w' => e = Oops 4 (Ps.pos fin l) ∧ Chg g w w' ∧ ParA w' g := by
  obtain ⟨v, hb, ht⟩ := h
  obtain ⟨w1, hw1⟩ : ∃ w1, w1 = w.alloc (.cells #[P g] 62) := ⟨_, rfl⟩
  obtain ⟨b, hbb⟩ : ∃ b, b = w.heap.size := ⟨_, rfl⟩
  have hlt := hb.lt
  have hbox : Blk w1 b 62 #[P g] := by rw [hw1, hbb]; exact Blk.new _ _ _
  have hbl : Below w.heap.size w w1 := by rw [hw1]; exact Ext.alloc (Below.refl _ _) _
  have hp1 := hb.keep hbl
  have hne : b ≠ g := by omega
  have hc : Chg g w (w1.setCell ⟨g, 2, none⟩ (.int .i64 ((d : Int) + 1))) := (Chg.of_below hbl).setCell 2 _
  have hP2 : ParB (w1.setCell ⟨g, 2, none⟩ (.int .i64 ((d : Int) + 1))) g v fin (d + 1) := by
    have := hp1.set_ 2 (.int .i64 ((d : Int) + 1))
    have e : ((d + 1 : Nat) : Int) = (d : Int) + 1 := by omega
    show Blk _ g _ #[v, .int .i64 (fin : Int), .int .i64 ((d + 1 : Nat) : Int)]
    rw [e]; simpa using this
  have HP : Hid (Pb (w1.setCell ⟨g, 2, none⟩ (.int .i64 ((d : Int) + 1))) g fin (d + 1) l) := ⟨v, hP2, ht.chg hc⟩
  have HC := Lib.hid hc
  have c0 := hbox.cell 0
  have HC0 := Lib.hid ((hbox.far (by exact hne) (.int .i64 ((d : Int) + 1)) : Blk (w1.setCell ⟨g, 2, none⟩ (.int .i64 ((d : Int) + 1))) b _ _).cell 0)
  have p2 := hp1.cell 2
  have z2 := hp1.frozen 2
  have q4 : decide ((d : Int) + 1 > 400) = true := by simp; omega
  have hgb : g ≠ b := fun e => hne e.symm
  have hd9 : (d : Int) ≤ 1000 := by omega
  have hd8 : (0 : Int) ≤ (d : Int) := by omega
  clear hb ht hlt hbox hbl hp1 hc hd hd1 hP2
  go_enter Try.func68, Try.ntmps68
  go_upto_region 1 with (fail)
  rw [← hw1, ← hbb]
  clear hw1 hbb
  go_upto_region 3 with (fail)
  generalize hw2 : World.setCell w1 _ _ = w2
  rw [hw2] at HP HC HC0
  clear hw2 c0 p2 z2
  apply Ix.wp_region 3 (fun wi => Hid (Below w2.heap.size w2 wi)) (Ix.vk [(Ix.kis _), (Ix.kis _), (Ix.kis (.int .i64 (Ps.pos fin l : Int)))]) (fun _ => false) (by kernel_rfl) (by kernel_rfl) (by kernel_rfl) (fun _ _ h hb => Ext.trans h.out hb) (Ix.vk_keeps _) (Ix.not_al _) (Below.refl _ _ : Below w2.heap.size w2 w2)
  case step =>
    refine zyx 2 0 1 [] (fun wi HB => ?_) <| zyx 1 1 2 [] (fun wi HB => ?_) <| zyx 0 2 3 [(1, some 16)] (fun wi HB => ?_) <| Ix.steps_nil
    iterate 2 (· (have c0 := ((Chg.of_below HB.out : Chg g w2 wi).cell hne HC0.out); (repeat (refine zya ?_; rintro _ rfl)); refine zye ?_; (try simp only [zyp]); refine Ix.goI_yes rfl rfl fun K hK => ?_; (try simp only [zyp] at hK); go_wp2_with (first | fail); exact hK _ _ (Below.refl _ _) rfl))
    (· (have c0 := ((Chg.of_below HB.out : Chg g w2 wi).cell hne HC0.out); (repeat (refine zya ?_; rintro _ rfl)); refine zye ?_; (try simp only [zyp]); refine Ix.goI_yes rfl rfl fun K hK => ?_; (try simp only [zyp] at hK); go_wp2_with (first | (go_at_call 19; refine (pat_b _ g fin (d + 1) l (HP.out.keep HB.out)).mono ?_; rintro e wa ⟨rfl, hba⟩)); exact hK _ _ hba rfl))
  intro vsf wf HF hdf
  refine zyv 2 0 1 ?_; rintro _ _ rfl; refine zyv 1 1 2 ?_; rintro _ _ rfl; refine zyv 0 2 3 ?_; rintro _ _ rfl
  refine Ix.allV_nil ?_
  (try simp only [Act.put, List.setIfInBounds_toArray, List.set_cons_zero, List.set_cons_succ, List.drop_succ_cons, List.drop_zero])
  go_wp2_with (first | (go_at_call 22; refine (pfail_ok _ _ _ _).mono ?_; rintro e w4 ⟨rfl, rfl⟩))
  all_goals (first | refine Ix.only ?_ | (refine Ix.onlyP fun tz => ?_))
  exact ⟨rfl, rfl, HC.out.trans (Chg.of_below HF.out), (HP.out.keep HF.out).par⟩
/-- One level up again. -/
theorem pundeep_ok (w : World) (g b : Nat) (v : Value) (f D : Int) (u : FrameMode) (hb : Blk w g 64 #[v, .int .i64 f, .int .i64 D]) (hne : b ≠ g) (hc : w.cell? ⟨b, 0, none⟩ = some (P g)) :
    CallsD Try.prog 89 #[P b] u w fun e u' w' => u' = u ∧ e = .returned (.tuple #[]) ∧ w' = w.setCell ⟨g, 2, none⟩ (.int .i64 (wrap64 (D - 1))) := by
  have p2 := hb.cell 2
  have z2 := hb.frozen 2
  have hgb : g ≠ b := fun e => hne e.symm
  clear hb
  go_enter_d Try.func89, Try.ntmps89
  go_wp2
  go_end0
  exact ⟨rfl, rfl⟩
end Go.Proofs.Ytfkndjifhmkojaa
/- Walks of source's binaryKind and unaryKind. No condition. -/
namespace Go.Proofs.Ytfkndjifhmkojaa
open Go.RowKit Go.Maps
set_option linter.unusedVariables false
set_option linter.unusedSimpArgs false
set_option maxRecDepth 100000
noncomputable abbrev signE : Value → Option (DataW Unit × List MemPlace) := plainElem Try.prog 3
/-- What a map of signs says of one. -/
structure SgM (w0 w : World) (B n : Nat) (D : DataW Unit) (l : List UInt8) (v : Int) : Prop where
  own : w.ownsMap Try.prog 9 signE B n D
  is : IsMap D
  at' : D.atKey (.string l) (.lit (.int .i64 0)) = .lit (.int .i64 v)
  below : Below w0.heap.size w0 w
  le : w0.heap.size ≤ B
theorem SgM.start (w : World) (l : List UInt8) : SgM w (w.alloc (.map #[] 0)) w.heap.size 0 (.map []) l 0 :=
  ⟨World.ownsMap_made (H := Unit) w Try.prog 9 signE, isMap_empty, rfl, Ext.alloc (Below.refl _ _) _, Nat.le_refl _⟩
theorem SgM.put {w0 w : World} {B n : Nat} {D : DataW Unit} {l : List UInt8} {v : Int} (h : SgM w0 w B n D l v) (hn : n < 100) (s : List UInt8) (hs : s.length ≤ 8) (k : Int) (hk : (Lit.int .i64 k).wf = true) :
    ∃ w', (Instr.mapUpdate 100 (.map (some B)) (.string ⟨s.toArray⟩) (.int .i64 k)).run Try.prog w = .ok () w' ∧ SgM w0 w' B (n + 1) (D.put (.string s) (.lit (.int .i64 k))) l (if l = s then k else v) := by
  have hkey : keyOf Try.prog 9 (.string ⟨s.toArray⟩) = some (.string s) := WideMaps.keyOf_string_mk Try.underlying9 (s := ⟨s.toArray⟩) (by unfold maxLen; simp [ByteArray.size]; omega)
  obtain ⟨w', hr, ho, hg⟩ := h.own.update law9 Try.underlying100 (by unfold maxLen; omega) hkey (plainElem_int Try.underlying3 hk)
  refine ⟨w', hr, ho, h.is.put _ _, ?_, Below.grown h.below hg h.below.size (fun q hq => by cases hq; exact h.le), h.le⟩
  by_cases e : l = s
  · rw [if_pos e, e]; exact atKey_put_same h.is (show WideAt.IsKeyLit (.string s) from trivial) _ _
  · rw [if_neg e, atKey_put_other (by intro h2; injection h2 with h2; exact e h2)]; exact h.at'
theorem SgM.look {w0 w : World} {B n : Nat} {D : DataW Unit} {s : ByteArray} {v : Int} (h : SgM w0 w B n D s.data.toList v) (hs : s.size ≤ maxLen) : (Instr.lookup 100 (.map (some B)) (.string s) false).run Try.prog w = .ok (.int .i64 v) w := by
  obtain ⟨c, hr, ha, _⟩ := h.own.lookup_int law9 Try.underlying100 Try.underlying3 (by kernel_rfl) (WideMaps.keyOf_string_mk Try.underlying9 hs)
  rw [h.at'] at ha
  injection ha with ha
  injection ha with _ ha
  subst ha
  exact hr
set_option maxHeartbeats 8000000 in
theorem binaryKind_ok (s : ByteArray) (hs : s.size ≤ maxLen) (w : World) : Calls Try.prog 91 #[.string s] w fun e w' => e = .returned (.int .i64 (Ps.binK s.data.toList)) ∧ Below w.heap.size w w' := by
  have h0 := SgM.start w s.data.toList
  obtain ⟨w1, r1, h1⟩ := h0.put (by omega) [42] (by decide) 9 (by decide)
  obtain ⟨w2, r2, h2⟩ := h1.put (by omega) [47] (by decide) 10 (by decide)
  obtain ⟨w3, r3, h3⟩ := h2.put (by omega) [37] (by decide) 11 (by decide)
  obtain ⟨w4, r4, h4⟩ := h3.put (by omega) [43] (by decide) 12 (by decide)
  obtain ⟨w5, r5, h5⟩ := h4.put (by omega) [45] (by decide) 13 (by decide)
  obtain ⟨w6, r6, h6⟩ := h5.put (by omega) [60, 60] (by decide) 14 (by decide)
  obtain ⟨w7, r7, h7⟩ := h6.put (by omega) [62, 62] (by decide) 15 (by decide)
  obtain ⟨w8, r8, h8⟩ := h7.put (by omega) [60] (by decide) 16 (by decide)
  obtain ⟨w9, r9, h9⟩ := h8.put (by omega) [60, 61] (by decide) 17 (by decide)
  obtain ⟨w10, r10, h10⟩ := h9.put (by omega) [62] (by decide) 18 (by decide)
  obtain ⟨w11, r11, h11⟩ := h10.put (by omega) [62, 61] (by decide) 19 (by decide)
  obtain ⟨w12, r12, h12⟩ := h11.put (by omega) [61, 61] (by decide) 20 (by decide)
  obtain ⟨w13, r13, h13⟩ := h12.put (by omega) [33, 61] (by decide) 21 (by decide)
  obtain ⟨w14, r14, h14⟩ := h13.put (by omega) [38] (by decide) 22 (by decide)
  obtain ⟨w15, r15, h15⟩ := h14.put (by omega) [94] (by decide) 23 (by decide)
  obtain ⟨w16, r16, h16⟩ := h15.put (by omega) [124] (by decide) 24 (by decide)
  obtain ⟨w17, r17, h17⟩ := h16.put (by omega) [38, 38] (by decide) 25 (by decide)
  obtain ⟨w18, r18, h18⟩ := h17.put (by omega) [124, 124] (by decide) 26 (by decide)
  have hl := h18.look hs
  have HB := Lib.hid h18.below
  obtain ⟨R, hR⟩ : ∃ R, R = Ps.binK s.data.toList := ⟨_, rfl⟩
  have hv : (if s.data.toList = [124, 124] then (26 : Int) else if s.data.toList = [38, 38] then (25 : Int) else if s.data.toList = [124] then (24 : Int) else if s.data.toList = [94] then (23 : Int) else if s.data.toList = [38] then (22 : Int) else if s.data.toList = [33, 61] then (21 : Int) else if s.data.toList = [61, 61] then (20 : Int) else if s.data.toList = [62, 61] then (19 : Int) else if s.data.toList = [62] then (18 : Int) else if s.data.toList = [60, 61] then (17 : Int) else if s.data.toList = [60] then (16 : Int) else if s.data.toList = [62, 62] then (15 : Int) else if s.data.toList = [60, 60] then (14 : Int) else if s.data.toList = [45] then (13 : Int) else if s.data.toList = [43] then (12 : Int) else if s.data.toList = [37] then (11 : Int) else if s.data.toList = [47] then (10 : Int) else if s.data.toList = [42] then (9 : Int) else 0) = R := by rw [hR]; rfl
  rw [hv] at hl
  rw [← hR]
  clear h0 h1 h2 h3 h4 h5 h6 h7 h8 h9 h10 h11 h12 h13 h14 h15 h16 h17 h18 hs hv hR
  have hmm := run_makeMap (P := Try.prog)
  go_enter Try.func91, Try.ntmps91
  go_wp2
  go_ret
  exact ⟨rfl, HB.out⟩
set_option maxHeartbeats 8000000 in
theorem unaryKind_ok (s : ByteArray) (hs : s.size ≤ maxLen) (w : World) : Calls Try.prog 122 #[.string s] w fun e w' => e = .returned (.int .i64 (Ps.un s.data.toList)) ∧ Below w.heap.size w w' := by
  have h0 := SgM.start w s.data.toList
  obtain ⟨w1, r1, h1⟩ := h0.put (by omega) [45] (by decide) 6 (by decide)
  obtain ⟨w2, r2, h2⟩ := h1.put (by omega) [126] (by decide) 7 (by decide)
  obtain ⟨w3, r3, h3⟩ := h2.put (by omega) [33] (by decide) 8 (by decide)
  have hl := h3.look hs
  have HB := Lib.hid h3.below
  obtain ⟨R, hR⟩ : ∃ R, R = Ps.un s.data.toList := ⟨_, rfl⟩
  have hv : (if s.data.toList = [33] then (8 : Int) else if s.data.toList = [126] then (7 : Int) else if s.data.toList = [45] then (6 : Int) else 0) = R := by rw [hR]; rfl
  rw [hv] at hl
  rw [← hR]
  clear h0 h1 h2 h3 hs hv hR
  have hmm := run_makeMap (P := Try.prog)
  go_enter Try.func122, Try.ntmps122
  go_wp2
  go_ret
  exact ⟨rfl, HB.out⟩
end Go.Proofs.Ytfkndjifhmkojaa

/- Walk of source.levels. No condition. -/
namespace Go.Proofs.Ytfkndjifhmkojaa
open Go.RowKit
set_option linter.unusedVariables false
set_option linter.unusedSimpArgs false
set_option maxRecDepth 100000
namespace Ps
/-- The signs of a level (0: the weakest). -/
def sgs : Nat → List Bs
  | 0 => [[124, 124]] | 1 => [[38, 38]] | 2 => [[124]] | 3 => [[94]] | 4 => [[38]] | 5 => [[61, 61], [33, 61]] | 6 => [[60], [60, 61], [62], [62, 61]] | 7 => [[60, 60], [62, 62]] | 8 => [[43], [45]] | _ => [[42], [47], [37]]
abbrev sgc (i : Nat) : Array Value := ((sgs i).map fun s => Value.string ⟨s.toArray⟩).toArray
end Ps
/-- The levels' table lies at q. -/
def LvAt (w : World) (p : Nat → Prop) (q : Nat) : Prop := p q ∧ ∀ i, i < 10 → ∃ r, p r ∧ w.cell? ⟨q, i, none⟩ = some (.slice (some ⟨r, 0, none⟩) (Ps.sgs i).length (Ps.sgs i).length) ∧ ∀ j, j < (Ps.sgs i).length → w.cell? ⟨r, j, none⟩ = some (.string ⟨((Ps.sgs i).getD j []).toArray⟩)
theorem LvAt.move {w w' : World} {p p' : Nat → Prop} {q : Nat} (h : LvAt w p q) (hf : ∀ g, p g → p' g ∧ (g < w.heap.size → w'.heap[g]? = w.heap[g]?)) : LvAt w' p' q := by
  have cell : ∀ (g i : Nat) (v : Value), p g → w.cell? ⟨g, i, none⟩ = some v → w'.cell? ⟨g, i, none⟩ = some v := fun g i v hp hc => by
    have hl := World.block_lt_of_cell? _ _ hc
    have := (hf g hp).2 hl
    rw [← hc]
    unfold World.cell?
    simp only [this]
  refine ⟨(hf q h.1).1, fun i hi => ?_⟩
  obtain ⟨r, hp, h1, h2⟩ := h.2 i hi
  exact ⟨r, (hf r hp).1, cell _ _ _ h.1 h1, fun j hj => cell _ _ _ hp (h2 j hj)⟩
theorem Blk.newn {w : World} {n : Nat} (t : TypeId) (cs : Array Value) (h : w.heap.size = n) : Blk (w.alloc (.cells cs t)) n t cs := by subst h; exact Blk.new w t cs
theorem ten {n : Nat} (h : n < 10) : n = 0 ∨ n = 1 ∨ n = 2 ∨ n = 3 ∨ n = 4 ∨ n = 5 ∨ n = 6 ∨ n = 7 ∨ n = 8 ∨ n = 9 := by omega
set_option maxHeartbeats 8000000 in
theorem levels_ok (w : World) : Calls Try.prog 70 #[] w fun e w' => ∃ q, e = .returned (.slice (some ⟨q, 0, none⟩) 10 10) ∧ LvAt w' (w.heap.size ≤ ·) q ∧ Below w.heap.size w w' := by
  go_enter Try.func70, Try.ntmps70
  go_wp2
  go_ret
  --@p6
  generalize hw1 : World.alloc w _ = w1
  have b1 : Blk w1 (w.heap.size) 9 #[.string ⟨#[124, 124]⟩] := by rw [← hw1]; exact Blk.newn _ _ (rfl)
  have s1 : w1.heap.size = w.heap.size + 1 := by rw [← hw1]; show (World.alloc _ _).heap.size = _; simp
  have o1 : Below w.heap.size w w1 := by rw [← hw1]; exact Ext.alloc (Below.refl _ _) _
  clear hw1
  generalize hw2 : World.alloc w1 _ = w2
  have b2 : Blk w2 (w.heap.size + 1) 9 #[.string ⟨#[38, 38]⟩] := by rw [← hw2]; exact Blk.newn _ _ (s1)
  have s2 : w2.heap.size = w.heap.size + 1 + 1 := by rw [← hw2]; show (World.alloc _ _).heap.size = _; simp [s1]
  have o2 : Below w1.heap.size w1 w2 := by rw [← hw2]; exact Ext.alloc (Below.refl _ _) _
  clear hw2
  generalize hw3 : World.alloc w2 _ = w3
  have b3 : Blk w3 (w.heap.size + 1 + 1) 9 #[.string ⟨#[124]⟩] := by rw [← hw3]; exact Blk.newn _ _ (s2)
  have s3 : w3.heap.size = w.heap.size + 1 + 1 + 1 := by rw [← hw3]; show (World.alloc _ _).heap.size = _; simp [s2]
  have o3 : Below w2.heap.size w2 w3 := by rw [← hw3]; exact Ext.alloc (Below.refl _ _) _
  clear hw3
  generalize hw4 : World.alloc w3 _ = w4
  have b4 : Blk w4 (w.heap.size + 1 + 1 + 1) 9 #[.string ⟨#[94]⟩] := by rw [← hw4]; exact Blk.newn _ _ (s3)
  have s4 : w4.heap.size = w.heap.size + 1 + 1 + 1 + 1 := by rw [← hw4]; show (World.alloc _ _).heap.size = _; simp [s3]
  have o4 : Below w3.heap.size w3 w4 := by rw [← hw4]; exact Ext.alloc (Below.refl _ _) _
  clear hw4
  generalize hw5 : World.alloc w4 _ = w5
  have b5 : Blk w5 (w.heap.size + 1 + 1 + 1 + 1) 9 #[.string ⟨#[38]⟩] := by rw [← hw5]; exact Blk.newn _ _ (s4)
  have s5 : w5.heap.size = w.heap.size + 1 + 1 + 1 + 1 + 1 := by rw [← hw5]; show (World.alloc _ _).heap.size = _; simp [s4]
  have o5 : Below w4.heap.size w4 w5 := by rw [← hw5]; exact Ext.alloc (Below.refl _ _) _
  clear hw5
  generalize hw6 : World.alloc w5 _ = w6
  have b6 : Blk w6 (w.heap.size + 1 + 1 + 1 + 1 + 1) 9 #[.string ⟨#[61, 61]⟩, .string ⟨#[33, 61]⟩] := by rw [← hw6]; exact Blk.newn _ _ (s5)
  have s6 : w6.heap.size = w.heap.size + 1 + 1 + 1 + 1 + 1 + 1 := by rw [← hw6]; show (World.alloc _ _).heap.size = _; simp [s5]
  have o6 : Below w5.heap.size w5 w6 := by rw [← hw6]; exact Ext.alloc (Below.refl _ _) _
  clear hw6
  generalize hw7 : World.alloc w6 _ = w7
  have b7 : Blk w7 (w.heap.size + 1 + 1 + 1 + 1 + 1 + 1) 9 #[.string ⟨#[60]⟩, .string ⟨#[60, 61]⟩, .string ⟨#[62]⟩, .string ⟨#[62, 61]⟩] := by rw [← hw7]; exact Blk.newn _ _ (s6)
  have s7 : w7.heap.size = w.heap.size + 1 + 1 + 1 + 1 + 1 + 1 + 1 := by rw [← hw7]; show (World.alloc _ _).heap.size = _; simp [s6]
  have o7 : Below w6.heap.size w6 w7 := by rw [← hw7]; exact Ext.alloc (Below.refl _ _) _
  clear hw7
  generalize hw8 : World.alloc w7 _ = w8
  have b8 : Blk w8 (w.heap.size + 1 + 1 + 1 + 1 + 1 + 1 + 1) 9 #[.string ⟨#[60, 60]⟩, .string ⟨#[62, 62]⟩] := by rw [← hw8]; exact Blk.newn _ _ (s7)
  have s8 : w8.heap.size = w.heap.size + 1 + 1 + 1 + 1 + 1 + 1 + 1 + 1 := by rw [← hw8]; show (World.alloc _ _).heap.size = _; simp [s7]
  have o8 : Below w7.heap.size w7 w8 := by rw [← hw8]; exact Ext.alloc (Below.refl _ _) _
  clear hw8
  generalize hw9 : World.alloc w8 _ = w9
  have b9 : Blk w9 (w.heap.size + 1 + 1 + 1 + 1 + 1 + 1 + 1 + 1) 9 #[.string ⟨#[43]⟩, .string ⟨#[45]⟩] := by rw [← hw9]; exact Blk.newn _ _ (s8)
  have s9 : w9.heap.size = w.heap.size + 1 + 1 + 1 + 1 + 1 + 1 + 1 + 1 + 1 := by rw [← hw9]; show (World.alloc _ _).heap.size = _; simp [s8]
  have o9 : Below w8.heap.size w8 w9 := by rw [← hw9]; exact Ext.alloc (Below.refl _ _) _
  clear hw9
  generalize hw10 : World.alloc w9 _ = w10
  have b10 : Blk w10 (w.heap.size + 1 + 1 + 1 + 1 + 1 + 1 + 1 + 1 + 1) 9 #[.string ⟨#[42]⟩, .string ⟨#[47]⟩, .string ⟨#[37]⟩] := by rw [← hw10]; exact Blk.newn _ _ (s9)
  have s10 : w10.heap.size = w.heap.size + 1 + 1 + 1 + 1 + 1 + 1 + 1 + 1 + 1 + 1 := by rw [← hw10]; show (World.alloc _ _).heap.size = _; simp [s9]
  have o10 : Below w9.heap.size w9 w10 := by rw [← hw10]; exact Ext.alloc (Below.refl _ _) _
  clear hw10
  generalize hw11 : World.alloc w10 _ = w11
  have b11 : Blk w11 (w.heap.size + 1 + 1 + 1 + 1 + 1 + 1 + 1 + 1 + 1 + 1) 89 #[.slice (some ⟨w.heap.size, 0, none⟩) 1 1, .slice (some ⟨w.heap.size + 1, 0, none⟩) 1 1, .slice (some ⟨w.heap.size + 1 + 1, 0, none⟩) 1 1, .slice (some ⟨w.heap.size + 1 + 1 + 1, 0, none⟩) 1 1, .slice (some ⟨w.heap.size + 1 + 1 + 1 + 1, 0, none⟩) 1 1, .slice (some ⟨w.heap.size + 1 + 1 + 1 + 1 + 1, 0, none⟩) 2 2, .slice (some ⟨w.heap.size + 1 + 1 + 1 + 1 + 1 + 1, 0, none⟩) 4 4, .slice (some ⟨w.heap.size + 1 + 1 + 1 + 1 + 1 + 1 + 1, 0, none⟩) 2 2, .slice (some ⟨w.heap.size + 1 + 1 + 1 + 1 + 1 + 1 + 1 + 1, 0, none⟩) 2 2, .slice (some ⟨w.heap.size + 1 + 1 + 1 + 1 + 1 + 1 + 1 + 1 + 1, 0, none⟩) 3 3] := by rw [← hw11]; exact Blk.newn _ _ (s10)
  have s11 : w11.heap.size = w.heap.size + 1 + 1 + 1 + 1 + 1 + 1 + 1 + 1 + 1 + 1 + 1 := by rw [← hw11]; show (World.alloc _ _).heap.size = _; simp [s10]
  have o11 : Below w10.heap.size w10 w11 := by rw [← hw11]; exact Ext.alloc (Below.refl _ _) _
  clear hw11
  have t11 : Below w11.heap.size w11 w11 := Below.refl _ _
  have t10 : Below w10.heap.size w10 w11 := Ext.trans o11 t11
  have t9 : Below w9.heap.size w9 w11 := Ext.trans o10 t10
  have t8 : Below w8.heap.size w8 w11 := Ext.trans o9 t9
  have t7 : Below w7.heap.size w7 w11 := Ext.trans o8 t8
  have t6 : Below w6.heap.size w6 w11 := Ext.trans o7 t7
  have t5 : Below w5.heap.size w5 w11 := Ext.trans o6 t6
  have t4 : Below w4.heap.size w4 w11 := Ext.trans o5 t5
  have t3 : Below w3.heap.size w3 w11 := Ext.trans o4 t4
  have t2 : Below w2.heap.size w2 w11 := Ext.trans o3 t3
  have t1 : Below w1.heap.size w1 w11 := Ext.trans o2 t2
  have c1 := b1.keep t1
  have c2 := b2.keep t2
  have c3 := b3.keep t3
  have c4 := b4.keep t4
  have c5 := b5.keep t5
  have c6 := b6.keep t6
  have c7 := b7.keep t7
  have c8 := b8.keep t8
  have c9 := b9.keep t9
  have c10 := b10.keep t10
  refine ⟨_, rfl, ⟨by omega, fun i hi => ?_⟩, Ext.trans o1 t1⟩
  rcases ten hi with rfl | rfl | rfl | rfl | rfl | rfl | rfl | rfl | rfl | rfl
  · refine ⟨_, ?_, b11.cell 0, fun j hj => ?_⟩
    · omega
    · have hj : j < 1 := hj
      obtain rfl : j = 0 := by omega
      exact c1.cell 0
  · refine ⟨_, ?_, b11.cell 1, fun j hj => ?_⟩
    · omega
    · have hj : j < 1 := hj
      obtain rfl : j = 0 := by omega
      exact c2.cell 0
  · refine ⟨_, ?_, b11.cell 2, fun j hj => ?_⟩
    · omega
    · have hj : j < 1 := hj
      obtain rfl : j = 0 := by omega
      exact c3.cell 0
  · refine ⟨_, ?_, b11.cell 3, fun j hj => ?_⟩
    · omega
    · have hj : j < 1 := hj
      obtain rfl : j = 0 := by omega
      exact c4.cell 0
  · refine ⟨_, ?_, b11.cell 4, fun j hj => ?_⟩
    · omega
    · have hj : j < 1 := hj
      obtain rfl : j = 0 := by omega
      exact c5.cell 0
  · refine ⟨_, ?_, b11.cell 5, fun j hj => ?_⟩
    · omega
    · have hj : j < 2 := hj
      rcases (by omega : j = 0 ∨ j = 1) with rfl | rfl
      · exact c6.cell 0
      · exact c6.cell 1
  · refine ⟨_, ?_, b11.cell 6, fun j hj => ?_⟩
    · omega
    · have hj : j < 4 := hj
      rcases (by omega : j = 0 ∨ j = 1 ∨ j = 2 ∨ j = 3) with rfl | rfl | rfl | rfl
      · exact c7.cell 0
      · exact c7.cell 1
      · exact c7.cell 2
      · exact c7.cell 3
  · refine ⟨_, ?_, b11.cell 7, fun j hj => ?_⟩
    · omega
    · have hj : j < 2 := hj
      rcases (by omega : j = 0 ∨ j = 1) with rfl | rfl
      · exact c8.cell 0
      · exact c8.cell 1
  · refine ⟨_, ?_, b11.cell 8, fun j hj => ?_⟩
    · omega
    · have hj : j < 2 := hj
      rcases (by omega : j = 0 ∨ j = 1) with rfl | rfl
      · exact c9.cell 0
      · exact c9.cell 1
  · refine ⟨_, ?_, b11.cell 9, fun j hj => ?_⟩
    · omega
    · have hj : j < 3 := hj
      rcases (by omega : j = 0 ∨ j = 1 ∨ j = 2) with rfl | rfl | rfl
      · exact c10.cell 0
      · exact c10.cell 1
      · exact c10.cell 2
  --@p6e
end Go.Proofs.Ytfkndjifhmkojaa

/- Walk of parser.expr; what reading an expression gives. No condition. -/
namespace Go.Proofs.Ytfkndjifhmkojaa
open Go.RowKit
set_option linter.unusedVariables false
set_option linter.unusedSimpArgs false
set_option maxRecDepth 100000
namespace Pw
theorem res_cell {P : Program} {fn : Func} {p : Tmp} {ty : TypeId} (h : fn.results = #[.cell p ty]) (tmps : Array Value) (w : World) (g : Nat) (t : TypeId) (cs : Array Value) (fr : Nat × Nat) (d : TypeDesc)
    (hp : tmps.getD p undef = .pointer (some ⟨g, 0, none⟩)) (hg : w.heap[g]? = some (.cells cs t fr))
    (hu : P.underlying ty = some d) (hd : (match d with | .struct _ | .array _ _ => true | _ => false) = true) (hi : (P.info? ty).map (·.size) = some cs.size) :
    (results fn tmps).run P w = .ok (.agg cs) w := by
  have hp' : tmps[p]?.getD undef = .pointer (some ⟨g, 0, none⟩) := by simpa using hp
  simp [results, h, hp', asAddr, run_loadVar_row w g t ty cs fr d hg hu hd hi]
theorem rowB {w : World} {g : Nat} {t : TypeId} {old : Array Value} (h : Blk w g t old) (cs : Array Value) : Blk (w.setRow g cs) g t cs := setRow_heap w g old cs t _ h
theorem rowBel {B : Nat} {w w' : World} (h : Below B w w') {g : Nat} (hg : B ≤ g) (cs : Array Value) : Below B w (w'.setRow g cs) :=
  h.trans ⟨rfl, rfl, rfl, by simp [World.setRow], fun k hk => setRow_other w' g k cs (by omega)⟩
theorem rowC {c : Nat} {w w' : World} (h : Chg c w w') {g : Nat} (hg : w.heap.size ≤ g) (cs : Array Value) : Chg c w (w'.setRow g cs) :=
  ⟨h.os, h.tape, h.output, by simpa [World.setRow] using h.size, fun k hk hne => (setRow_other w' g k cs (by omega)).trans (h.block k hk hne)⟩
theorem rowFar {w : World} {g g' : Nat} {t : TypeId} {old : Array Value} (h : Blk w g t old) (hne : g ≠ g') (cs : Array Value) : Blk (w.setRow g' cs) g t old := (setRow_other w g' g cs hne).trans h
theorem one (k n b : Int) (s : Bool) (nm : ByteArray) (a : Option Addr) (l c : Nat) : (#[.int .i64 k, .int .u64 n, .int .i64 b, .bool s, .string nm, .slice a l c] : Array Value).all (·.oneCell') = true := by simp [Value.oneCell']
abbrev zX : Array Value := #[.int .i64 0, .int .u64 0, .int .i64 0, .bool false, .string ⟨#[]⟩, .slice none 0 0]
theorem form {w : World} {p : Nat → Prop} {x : X} {cs : List Value} (h : XIn w p x cs) : ∃ a c, cs = X.cells x.kind x.num x.bits x.sg x.name (.slice a x.kids.length c) := by
  cases h; exact ⟨_, _, rfl⟩
end Pw
/-- What comes of reading an expression. -/
def PxR (g fin d : Nat) (w : World) (r : Ps.Res X) (e : Ending) (w' : World) : Prop := Chg g w w' ∧ ParA w' g ∧ match r with
  | .ok p => ∃ cs, e = .returned (.agg cs.toArray) ∧ XIn w' (fun b => w.heap.size ≤ b) p.1 cs ∧ Pb w' g fin d p.2
  | .error z => e = Oops z.1 z.2
/-- One level up: what the reader is then. -/
theorem Pb.up {w : World} {g fin d : Nat} {l : List Tk.Tok} (h : Pb w g fin (d + 1) l) (hd : d ≤ 400) : ∃ v, Blk w g 64 #[v, .int .i64 (fin : Int), .int .i64 ((d : Int) + 1)] ∧ Pb (w.setCell ⟨g, 2, none⟩ (.int .i64 (wrap64 ((d : Int) + 1 - 1)))) g fin d l := by
  obtain ⟨v, hb, ht⟩ := h
  have e : ((d + 1 : Nat) : Int) = (d : Int) + 1 := by omega
  rw [ParB, e] at hb
  refine ⟨v, hb, v, ?_, ht.chg ((Chg.of_below (Below.refl _ _)).setCell 2 _)⟩
  have h2 := hb.set_ 2 (.int .i64 (wrap64 ((d : Int) + 1 - 1)))
  have ew : wrap64 ((d : Int) + 1 - 1) = (d : Int) := by unfold wrap64; simp [IntKind.wrap]; omega
  rw [ew] at h2 ⊢
  simpa using h2
theorem ParA.up {w : World} {g : Nat} {v : Value} {f D u : Int} (h : Blk w g 64 #[v, .int .i64 f, .int .i64 D]) : ParA (w.setCell ⟨g, 2, none⟩ (.int .i64 u)) g := by
  have h2 := h.set_ 2 (.int .i64 u)
  exact ⟨v, f, u, by simpa using h2⟩
theorem XIn.parUp {w w' : World} {g : Nat} {x : X} {cs : List Value} {v : Value} {o : Nat} (h : XIn w' (fun b => w.heap.size ≤ b) x cs) (hg : g < w.heap.size) : XIn (w'.setCell ⟨g, o, none⟩ v) (fun b => w.heap.size ≤ b) x cs :=
  h.move fun b hb hl => ⟨hb, ((Chg.of_below (Below.refl _ _) : Chg g w' w').setCell o v).block b hl (fun e => by injection e with e; have hb' : w.heap.size ≤ b := hb; omega)⟩
set_option maxHeartbeats 4000000 in
theorem pexpr_no (w : World) (g fin d : Nat) (l : List Tk.Tok) (h : Pb w g fin d l) (hd : 400 ≤ d) (hd1 : d ≤ 1000) : Calls Try.prog 46 #[P g] w (PxR g fin d w (.error (4, Ps.pos fin l))) := by
  have HB0 := Lib.hid (Ext.alloc (Below.refl w.heap.size w) (.cells Pw.zX 54))
  have HD := Lib.hid (pdeeper_no _ g fin d l (h.keep HB0.out) hd hd1)
  clear h hd hd1
  go_enter_defers Try.func46, Try.ntmps46
  go_wp2_with (first | (go_at_call 68; refine HD.out.mono ?_; rintro e w2 ⟨rfl, hc2, hp2⟩; have HC2 := Lib.hid hc2; have HP2 := Lib.hid hp2; clear hc2 hp2))
  exact ⟨(Chg.of_below HB0.out).trans HC2.out, HP2.out, rfl⟩
set_option maxHeartbeats 4000000 in
theorem pexpr_yes (w : World) (g fin d : Nat) (l : List Tk.Tok) (h : Pb w g fin d l) (hd : d < 400) (r : Ps.Res X)
    (hlev : ∀ (w1 : World) (q : Nat), Pb w1 g fin (d + 1) l → LvAt w1 (fun b => b ≠ g) q → Calls Try.prog 69 #[P g, .slice (some ⟨q, 0, none⟩) 10 10] w1 (PxR g fin (d + 1) w1 r)) :
    Calls Try.prog 46 #[P g] w (PxR g fin d w r) := by
  have hgl : g < w.heap.size := by obtain ⟨v, hb, _⟩ := h; exact hb.lt
  have HG := Lib.hid hgl
  have HB0 := Lib.hid (Ext.alloc (Below.refl w.heap.size w) (.cells Pw.zX 54))
  have HZ0 := Lib.hid (Blk.new w 54 Pw.zX)
  have HD := Lib.hid (pdeeper_ok _ g fin d l (h.keep HB0.out) hd)
  have HL := Lib.hid hlev
  have HDD := Lib.hid (Nat.le_of_lt hd)
  clear h hd hlev hgl
  go_enter_defers Try.func46, Try.ntmps46
  have hlv : ∀ w1 : World, Calls Try.prog 70 #[] w1 fun e w' => ∃ q, e = .returned (.slice (some ⟨q, 0, none⟩) 10 10) ∧ LvAt w' (w1.heap.size ≤ ·) q ∧ Below w1.heap.size w1 w' := levels_ok
  cases r with
  | error z =>
    go_wp2_with (first | (go_at_call 68; refine HD.out.mono ?_; rintro e w2 ⟨b, rfl, hne, hle, hcb, hc2, hp2⟩; have HF := Lib.hid (And.intro hne (And.intro hle (And.intro hcb (And.intro hc2 hp2)))); clear hne hle hcb hc2 hp2) | (go_at_call 70; refine (hlv _).mono ?_; rintro e w3 ⟨q, rfl, hl3, hb3⟩; have HL3 := Lib.hid hl3; have HB3 := Lib.hid hb3; clear hl3 hb3) | (go_at_call 69; refine (HL.out _ q (HF.out.2.2.2.2.keep HB3.out) (HL3.out.move fun b hb => ⟨(by have h1 : w2.heap.size ≤ b := hb; have h2 := HF.out.2.2.2.1.size; have h3 := HG.out; have h4 := HB0.out.size; omega), fun _ => rfl⟩)).mono ?_; rintro e w4 ⟨hc4, hp4, rfl⟩; have HC4 := Lib.hid hc4; have HP4 := Lib.hid hp4; clear hc4 hp4))
    obtain ⟨v, f, D, hbk⟩ := HP4.out
    have hcb : w4.cell? ⟨b, 0, none⟩ = some (P g) := HC4.out.cell HF.out.1 ((Below.cell (p := ⟨b, 0, none⟩) HB3.out (World.block_lt_of_cell? _ _ HF.out.2.2.1)).trans HF.out.2.2.1)
    refine leaves_cons (f := 89) (args := #[P b]) (by simp) (by simp [go_sem]) ?_
    refine (pundeep_ok w4 g b v f D _ hbk HF.out.1 hcb).mono ?_
    rintro e u' w5 ⟨rfl, rfl, rfl⟩
    simp only [Leaves, settle, Oops]
    exact ⟨(((Chg.of_below HB0.out).trans HF.out.2.2.2.1).trans ((Chg.of_below HB3.out).trans HC4.out)).setCell 2 _, ParA.up hbk, rfl⟩
  | ok p =>
    obtain ⟨y, l2⟩ := p
    go_wp2_with (first | (go_at_call 68; refine HD.out.mono ?_; rintro e w2 ⟨b, rfl, hne, hle, hcb, hc2, hp2⟩; have HF := Lib.hid (And.intro hne (And.intro hle (And.intro hcb (And.intro hc2 hp2)))); clear hne hle hcb hc2 hp2) | (go_at_call 70; refine (hlv _).mono ?_; rintro e w3 ⟨q, rfl, hl3, hb3⟩; have HL3 := Lib.hid hl3; have HB3 := Lib.hid hb3; clear hl3 hb3) | (go_at_call 69; refine (HL.out _ q (HF.out.2.2.2.2.keep HB3.out) (HL3.out.move fun b hb => ⟨(by have h1 : w2.heap.size ≤ b := hb; have h2 := HF.out.2.2.2.1.size; have h3 := HG.out; have h4 := HB0.out.size; omega), fun _ => rfl⟩)).mono ?_; rintro e w4 ⟨hc4, hp4, cs, rfl, hin, hpb⟩; obtain ⟨ya, yc, rfl⟩ := Pw.form hin; have HIN := Lib.hid hin; have HPB := Lib.hid hpb; have HZ4 := Lib.hid (show Blk w4 w.heap.size 54 Pw.zX from (hc4.block w.heap.size (Nat.lt_of_lt_of_le (by have h2 := HF.out.2.2.2.1.size; have h4 := HB0.out.size; have h5 : (w.alloc (.cells Pw.zX 54)).heap.size = w.heap.size + 1 := (by simp); omega) HB3.out.size) (fun e => by injection e with e; have := HG.out; omega)).trans (HB3.out.block _ (by have h2 := HF.out.2.2.2.1.size; have h5 : (w.alloc (.cells Pw.zX 54)).heap.size = w.heap.size + 1 := (by simp); omega) |>.trans ((HF.out.2.2.2.1.block w.heap.size (by simp) (fun e => by injection e with e; have := HG.out; omega)).trans HZ0.out))); clear hin hpb; have HC4 := Lib.hid hc4; have HP4 := Lib.hid hp4; clear hc4 hp4) | (refine wpList_store_row rfl 54 _ _ rfl w.heap.size #[.int .i64 y.kind, .int .u64 y.num, .int .i64 y.bits, .bool y.sg, .string y.name, .slice ya y.kids.length yc] rfl rfl 54 Pw.zX HZ4.out (by kernel_rfl) rfl (Pw.one _ _ _ _ _ _ _ _) ?_))
    have hB4 : w.heap.size < w4.heap.size := HZ4.out.lt
    have hszA : (w.alloc (.cells Pw.zX 54)).heap.size = w.heap.size + 1 := by simp
    have hs3 := HB3.out.size
    have hs2 := HF.out.2.2.2.1.size
    have hbB : b ≠ w.heap.size := by have := HF.out.2.1; omega
    have hgB : g ≠ w.heap.size := by have := HG.out; omega
    obtain ⟨row, hrow⟩ : ∃ row : Array Value, row = #[.int .i64 y.kind, .int .u64 y.num, .int .i64 y.bits, .bool y.sg, .string y.name, .slice ya y.kids.length yc] := ⟨_, rfl⟩
    rw [← hrow]
    obtain ⟨w5, hw5⟩ : ∃ w5, w5 = w4.setRow w.heap.size row := ⟨_, rfl⟩
    have hoth : ∀ k, k ≠ w.heap.size → w5.heap[k]? = w4.heap[k]? := fun k hk => by rw [hw5]; exact setRow_other w4 _ k row hk
    have hz5 : Blk w5 w.heap.size 54 row := by rw [hw5]; exact Pw.rowB HZ4.out row
    have hc4 : Chg g w w4 := ((Chg.of_below HB0.out).trans HF.out.2.2.2.1).trans ((Chg.of_below HB3.out).trans HC4.out)
    have hc5 : Chg g w w5 := by rw [hw5]; exact Pw.rowC hc4 (Nat.le_refl _) row
    have hp5 : Pb w5 g fin (d + 1) l2 := by
      obtain ⟨v, hb, ht⟩ := HPB.out
      exact ⟨v, (hoth g hgB).trans hb, ht.same fun k hk hl => hoth k (by have := HG.out; omega)⟩
    have hcb4 : w4.cell? ⟨b, 0, none⟩ = some (P g) := HC4.out.cell HF.out.1 ((Below.cell (p := ⟨b, 0, none⟩) HB3.out (World.block_lt_of_cell? _ _ HF.out.2.2.1)).trans HF.out.2.2.1)
    have hcb : w5.cell? ⟨b, 0, none⟩ = some (P g) := (World.cell?_of_block (w := w4) (hoth b hbB)).trans hcb4
    have hx5 : XIn w5 (fun k => w.heap.size ≤ k) y (X.cells y.kind y.num y.bits y.sg y.name (.slice ya y.kids.length yc)) :=
      HIN.out.move fun k hk hl => ⟨by have h : w3.heap.size ≤ k := hk; show w.heap.size ≤ k; omega, hoth k (by have h : w3.heap.size ≤ k := hk; omega)⟩
    obtain ⟨v, hbk, hup⟩ := hp5.up HDD.out
    rw [← hw5]
    refine leaves_cons (f := 89) (args := #[P b]) (by simp) (by simp [go_sem]) ?_
    refine (pundeep_ok w5 g b v _ _ _ hbk HF.out.1 hcb).mono ?_
    rintro e u' w6 ⟨rfl, rfl, rfl⟩
    have hz6 := hz5.far (p := ⟨g, 2, none⟩) (by exact fun e => hgB e.symm) (.int .i64 (wrap64 ((d : Int) + 1 - 1)))
    exact ⟨_, Pw.res_cell rfl _ _ w.heap.size 54 row (0, 0) _ rfl hz6 Try.underlying54 rfl (by subst hrow; kernel_rfl), hc5.setCell 2 _, hup.par, _, (by rw [hrow]), hx5.parUp HG.out, hup⟩
end Go.Proofs.Ytfkndjifhmkojaa

/- Walk of parser.binary: signs of a level. No condition. -/
namespace Go.Proofs.Ytfkndjifhmkojaa
open Go.RowKit
set_option linter.unusedVariables false
set_option linter.unusedSimpArgs false
set_option maxRecDepth 100000
namespace Ps
--@p8
theorem mem_sgs {i : Nat} (h : i < 10) (s : Bs) : s ∈ sgs i ↔ lev (binK s) = i + 1 := by
  constructor
  · intro hs
    rcases ten h with rfl | rfl | rfl | rfl | rfl | rfl | rfl | rfl | rfl | rfl
    · simp only [sgs, List.mem_cons, List.not_mem_nil, or_false] at hs
      subst hs; decide
    · simp only [sgs, List.mem_cons, List.not_mem_nil, or_false] at hs
      subst hs; decide
    · simp only [sgs, List.mem_cons, List.not_mem_nil, or_false] at hs
      subst hs; decide
    · simp only [sgs, List.mem_cons, List.not_mem_nil, or_false] at hs
      subst hs; decide
    · simp only [sgs, List.mem_cons, List.not_mem_nil, or_false] at hs
      subst hs; decide
    · simp only [sgs, List.mem_cons, List.not_mem_nil, or_false] at hs
      rcases hs with rfl | rfl <;> decide
    · simp only [sgs, List.mem_cons, List.not_mem_nil, or_false] at hs
      rcases hs with rfl | rfl | rfl | rfl <;> decide
    · simp only [sgs, List.mem_cons, List.not_mem_nil, or_false] at hs
      rcases hs with rfl | rfl <;> decide
    · simp only [sgs, List.mem_cons, List.not_mem_nil, or_false] at hs
      rcases hs with rfl | rfl <;> decide
    · simp only [sgs, List.mem_cons, List.not_mem_nil, or_false] at hs
      rcases hs with rfl | rfl | rfl <;> decide
  · intro hl
    by_cases e0 : s = [124, 124]
    · subst e0
      have : lev (binK [124, 124]) = 1 := by decide
      obtain rfl : i = 0 := by omega
      decide
    by_cases e1 : s = [38, 38]
    · subst e1
      have : lev (binK [38, 38]) = 2 := by decide
      obtain rfl : i = 1 := by omega
      decide
    by_cases e2 : s = [124]
    · subst e2
      have : lev (binK [124]) = 3 := by decide
      obtain rfl : i = 2 := by omega
      decide
    by_cases e3 : s = [94]
    · subst e3
      have : lev (binK [94]) = 4 := by decide
      obtain rfl : i = 3 := by omega
      decide
    by_cases e4 : s = [38]
    · subst e4
      have : lev (binK [38]) = 5 := by decide
      obtain rfl : i = 4 := by omega
      decide
    by_cases e5 : s = [33, 61]
    · subst e5
      have : lev (binK [33, 61]) = 6 := by decide
      obtain rfl : i = 5 := by omega
      decide
    by_cases e6 : s = [61, 61]
    · subst e6
      have : lev (binK [61, 61]) = 6 := by decide
      obtain rfl : i = 5 := by omega
      decide
    by_cases e7 : s = [62, 61]
    · subst e7
      have : lev (binK [62, 61]) = 7 := by decide
      obtain rfl : i = 6 := by omega
      decide
    by_cases e8 : s = [62]
    · subst e8
      have : lev (binK [62]) = 7 := by decide
      obtain rfl : i = 6 := by omega
      decide
    by_cases e9 : s = [60, 61]
    · subst e9
      have : lev (binK [60, 61]) = 7 := by decide
      obtain rfl : i = 6 := by omega
      decide
    by_cases e10 : s = [60]
    · subst e10
      have : lev (binK [60]) = 7 := by decide
      obtain rfl : i = 6 := by omega
      decide
    by_cases e11 : s = [62, 62]
    · subst e11
      have : lev (binK [62, 62]) = 8 := by decide
      obtain rfl : i = 7 := by omega
      decide
    by_cases e12 : s = [60, 60]
    · subst e12
      have : lev (binK [60, 60]) = 8 := by decide
      obtain rfl : i = 7 := by omega
      decide
    by_cases e13 : s = [45]
    · subst e13
      have : lev (binK [45]) = 9 := by decide
      obtain rfl : i = 8 := by omega
      decide
    by_cases e14 : s = [43]
    · subst e14
      have : lev (binK [43]) = 9 := by decide
      obtain rfl : i = 8 := by omega
      decide
    by_cases e15 : s = [37]
    · subst e15
      have : lev (binK [37]) = 10 := by decide
      obtain rfl : i = 9 := by omega
      decide
    by_cases e16 : s = [47]
    · subst e16
      have : lev (binK [47]) = 10 := by decide
      obtain rfl : i = 9 := by omega
      decide
    by_cases e17 : s = [42]
    · subst e17
      have : lev (binK [42]) = 10 := by decide
      obtain rfl : i = 9 := by omega
      decide
    have e : binK s = 0 := by unfold binK; simp only [e0, e1, e2, e3, e4, e5, e6, e7, e8, e9, e10, e11, e12, e13, e14, e15, e16, e17, if_false]
    rw [e, show lev 0 = 0 by decide] at hl
    omega
--@p8e
theorem lev_pos {k : Int} {i : Nat} (h : lev k = i + 1) : 0 < k := by
  unfold lev at h
  repeat' (split at h; · omega)
  omega
theorem bin_pos {i : Nat} (h : i < 10) (s : Bs) : (0 < bin (i + 1) s) ↔ s ∈ sgs i := by
  rw [mem_sgs h]
  unfold bin
  by_cases e : i + 1 = lev (binK s)
  · rw [if_pos e]; exact ⟨fun _ => e.symm, fun _ => lev_pos e.symm⟩
  · rw [if_neg e]; exact ⟨fun h => absurd h (by omega), fun h => absurd h.symm e⟩
theorem bin_is {i : Nat} (h : i < 10) {s : Bs} (hs : s ∈ sgs i) : bin (i + 1) s = binK s := by
  unfold bin; rw [if_pos ((mem_sgs h s).1 hs).symm]
end Ps
theorem lv_contains {w : World} {p : Nat → Prop} {q i : Nat} (h : LvAt w p q) (hi : i < 10) (t : List UInt8) : ∃ (r n : Nat), w.cell? ⟨q, i, none⟩ = some (.slice (some ⟨r, 0, none⟩) n n) ∧ ∀ w1 : World, LvAt w1 p q → w1.cell? ⟨q, i, none⟩ = some (.slice (some ⟨r, 0, none⟩) n n) → Calls Try.prog 54 #[.slice (some ⟨r, 0, none⟩) n n, .string ⟨t.toArray⟩] w1 fun e w' => e = .returned (.bool (decide (0 < Ps.bin (i + 1) t))) ∧ w' = w1 := by
  obtain ⟨r, _, h1, h2⟩ := h.2 i hi
  refine ⟨r, _, h1, fun w1 hw1 hc1 => ?_⟩
  obtain ⟨r', _, h1', h2'⟩ := hw1.2 i hi
  rw [h1'] at hc1
  injection hc1 with hc1
  injection hc1 with e1 e2 e3
  injection e1 with e1
  injection e1 with e1 _
  subst e1
  have hlen : (Ps.sgs i).length ≤ 9223372036854775807 := by
    rcases ten hi with rfl | rfl | rfl | rfl | rfl | rfl | rfl | rfl | rfl | rfl <;> decide
  have := slices_Contains_stringL r' 0 (Ps.sgs i).length (Ps.sgs i).length ((Ps.sgs i).map fun s => (⟨s.toArray⟩ : ByteArray)) ⟨t.toArray⟩ w1 (by simp) hlen (fun j hj => by
    rw [List.length_map] at hj
    rw [Nat.zero_add, h2' j hj]
    congr 2
    simp [List.getD, hj])
  refine this.mono ?_
  rintro e w' ⟨rfl, rfl⟩
  refine ⟨?_, rfl⟩
  congr 2
  rw [Bool.eq_iff_iff, Lib.containsS_iff, decide_eq_true_iff, Ps.bin_pos hi, List.take_of_length_le (by simp), List.mem_map]
  constructor
  · rintro ⟨a, ha, e⟩
    injection e with e
    have : a = t := by have := congrArg Array.toList e; simpa using this
    exact this ▸ ha
  · intro ht; exact ⟨t, ht, rfl⟩
end Go.Proofs.Ytfkndjifhmkojaa
