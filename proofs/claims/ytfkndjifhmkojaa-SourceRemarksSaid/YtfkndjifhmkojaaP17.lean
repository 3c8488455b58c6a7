/- Walks of parser's setOne, one, block. No condition. -/
import Derived.Test.YtfkndjifhmkojaaP16
import Derived.LoopTactic
import Derived.Deep.Cut
import Derived.Deep.CutRange
import Derived.Deep.DeepCutAuto
namespace Go.Proofs.Ytfkndjifhmkojaa
open Go.RowKit
set_option linter.unusedVariables false
set_option linter.unusedSimpArgs false
set_option maxRecDepth 100000
/-- One statement in a new block. -/
theorem SsIn.one {w : World} {p : Nat → Prop} {y : S} {tf : Nat} {cs : List Value} (hy : SIn w p y cs) (hp : p tf) (hb : Blk w tf 56 cs.toArray) : SsIn w p [y] (.slice (some ⟨tf, 0, none⟩) 1 1) := by
  refine .mk [y] (some ⟨tf, 0, none⟩) 1 (fun _ => cs) (Nat.le_refl _) (by decide) (fun i z hz => ?_) (fun _ => ⟨tf, 0, hp, rfl, fun i j u hi hu => ?_⟩)
  · match i, hz with
    | 0, hz => injection hz with hz; subst hz; exact hy
  · have hi : i < 1 := hi
    obtain rfl : i = 0 := by omega
    simp only [Nat.zero_add, Nat.zero_mul]
    rw [hb.cell]
    simpa using hu
theorem scell {w : World} {tb : Nat} {cs : List Value} (h : Blk w tb 56 cs.toArray) : ∀ j u, cs[j]? = some u → w.cell? ⟨tb, j, none⟩ = some u := fun j u hu => by rw [h.cell]; simpa using hu
set_option maxHeartbeats 4000000 in
theorem psets_ok (w : World) (g fin d : Nat) (l : List Tk.Tok) (s : List UInt8) (h : Pb w g fin d l) (F : Ps.F) (hset : Calls Try.prog 88 #[P g] w (PsR g fin d w (Ps.setS F fin d l))) :
    Calls Try.prog 87 #[P g, .string ⟨s.toArray⟩] w (PlR g fin d w (Ps.setsS F fin s d l)) := by
  obtain ⟨R, hR⟩ : ∃ R, R = Ps.setsS F fin s d l := ⟨_, rfl⟩
  rw [← hR]
  unfold Ps.setsS at hR
  obtain ⟨r, hr⟩ : ∃ r, r = Ps.setS F fin d l := ⟨_, rfl⟩
  rw [← hr] at hR hset
  have HST := Lib.hid hset
  obtain ⟨Z, hZ⟩ : ∃ Z, Ps.sees s l = Z := ⟨_, rfl⟩
  have HSE := Lib.hid (psees_ok w g fin d l s h)
  rw [hZ] at HSE hR
  have HP := Lib.hid h
  have HR := Lib.hid hR
  clear h hset hr hZ hR
  go_enter Try.func87, Try.ntmps87
  cases Z with
  | true =>
    obtain rfl : R = .ok ([], l) := HR.out
    go_wp2_with (first | (go_at_call 43; refine HSE.out.mono ?_; rintro e w' ⟨rfl, rfl⟩))
    go_ret
    exact ⟨Chg.of_below (Below.refl _ _), HP.out.par, _, rfl, sz_in _ _, HP.out⟩
  | false =>
    have HR1 : Hid (R = Ps.seq r fun x l => .ok ([x], l)) := HR.out
    clear HR
    go_wp2_with (first | (go_at_call 43; refine HSE.out.mono ?_; rintro e w' ⟨rfl, rfl⟩) | (go_at_call 88; refine (HST.out).mono ?_; rintro e w2 ⟨hc4, hp4, hr4⟩; have HCw2 := Lib.hid hc4; have HPw2 := Lib.hid hp4; clear hc4 hp4; rcases r with z | ⟨y, l2⟩; (obtain rfl := hr4); rotate_left; (obtain ⟨cs, rfl, hin, hpb⟩ := hr4; obtain ⟨xa, xc, ia, ic, a0, c0, a1, c1, a2, c2, a3, c3, rfl, hbd⟩ := Pw.formS hin; have HBD := Lib.hid hbd; have HIN := Lib.hid hin; have HPB := Lib.hid hpb; clear hin hpb hbd); rotate_left))
    · obtain rfl : R = .error z := HR1.out
      exact ⟨rfl, HCw2.out, HPw2.out, rfl⟩
    · obtain rfl : R = .ok ([y], l2) := HR1.out
      go_ret
      generalize hw3 : World.alloc w2 _ = w3
      have hb : Below w2.heap.size w2 w3 := by rw [← hw3]; exact Ext.alloc (Below.refl _ _) _
      have hn : Blk w3 w2.heap.size 56 [.int .i64 y.kind, .int .i64 y.bits, .bool y.sg, .string y.name, .bool y.has, .int .i64 y.xx.kind, .int .u64 y.xx.num, .int .i64 y.xx.bits, .bool y.xx.sg, .string y.xx.name, .slice xa y.xx.kids.length xc, .int .i64 y.ii.kind, .int .u64 y.ii.num, .int .i64 y.ii.bits, .bool y.ii.sg, .string y.ii.name, .slice ia y.ii.kids.length ic, .slice a0 y.ini.length c0, .slice a1 y.step.length c1, .slice a2 y.body.length c2, .slice a3 y.els.length c3].toArray := by rw [← hw3]; exact Blk.new _ _ _
      have hp3 := HPB.out.keep hb
      exact ⟨HCw2.out.trans (Chg.of_below hb), hp3.par, _, rfl, SsIn.one (HIN.out.keep hb) HCw2.out.size hn, hp3⟩
set_option maxHeartbeats 4000000 in
theorem pone_ok (w : World) (g fin d : Nat) (l : List Tk.Tok) (F : Ps.F) (hg : g < w.heap.size) (hst : Calls Try.prog 67 #[P g] w (PsR g fin d w (F.stat d l))) :
    Calls Try.prog 86 #[P g] w (PlR g fin d w (Ps.bodyS F d l)) := by
  obtain ⟨R, hR⟩ : ∃ R, R = Ps.bodyS F d l := ⟨_, rfl⟩
  rw [← hR]
  unfold Ps.bodyS at hR
  obtain ⟨r, hr⟩ : ∃ r, r = F.stat d l := ⟨_, rfl⟩
  rw [← hr] at hR hst
  have HST := Lib.hid hst
  have HR := Lib.hid hR
  have HG := Lib.hid hg
  clear hst hr hR hg
  go_enter Try.func86, Try.ntmps86
  go_upto_region 2 with (first | (go_at_call 67; refine (HST.out).mono ?_; rintro e w2 ⟨hc4, hp4, hr4⟩; have HCw2 := Lib.hid hc4; have HPw2 := Lib.hid hp4; clear hc4 hp4; rcases r with z | ⟨y, l2⟩; (obtain rfl := hr4); rotate_left; (obtain ⟨cs, rfl, hin, hpb⟩ := hr4; obtain ⟨xa, xc, ia, ic, a0, c0, a1, c1, a2, c2, a3, c3, rfl, hbd⟩ := Pw.formS hin; have HBD := Lib.hid hbd; have HIN := Lib.hid hin; have HPB := Lib.hid hpb; clear hin hpb hbd); rotate_left) | (refine wpList_store_row rfl 56 _ _ rfl (w2).heap.size #[.int .i64 y.kind, .int .i64 y.bits, .bool y.sg, .string y.name, .bool y.has, .int .i64 y.xx.kind, .int .u64 y.xx.num, .int .i64 y.xx.bits, .bool y.xx.sg, .string y.xx.name, .slice xa y.xx.kids.length xc, .int .i64 y.ii.kind, .int .u64 y.ii.num, .int .i64 y.ii.bits, .bool y.ii.sg, .string y.ii.name, .slice ia y.ii.kids.length ic, .slice a0 y.ini.length c0, .slice a1 y.step.length c1, .slice a2 y.body.length c2, .slice a3 y.els.length c3] rfl rfl 56 Pw.zS (Blk.new _ _ _) (by kernel_rfl) rfl (Pw.one21 _ _ _ _ _ _ _ _ _ _ _ _ _ _ _ _ _ _ _ _ _ _ _ _ _ _ _ _ _ _ _ _ _) ?_))
  · obtain rfl : R = .error z := HR.out
    exact ⟨rfl, HCw2.out, HPw2.out, rfl⟩
  have HR1 : Hid (R = .ok (if y.kind = 11 then y.body else [y], l2)) := HR.out
  obtain ⟨sb, hsb⟩ : ∃ sb, sb = w2.heap.size := ⟨_, rfl⟩
  rw [← hsb]
  generalize hw3 : World.setRow _ _ _ = w3
  have HB3 : Hid (Below w2.heap.size w2 w3) := by show Below _ _ _; rw [← hw3, hsb]; exact Pw.rowBel (Ext.alloc (Below.refl _ _) _) (Nat.le_refl _) _
  have HS3 : Hid (Blk w3 sb 56 #[.int .i64 y.kind, .int .i64 y.bits, .bool y.sg, .string y.name, .bool y.has, .int .i64 y.xx.kind, .int .u64 y.xx.num, .int .i64 y.xx.bits, .bool y.xx.sg, .string y.xx.name, .slice xa y.xx.kids.length xc, .int .i64 y.ii.kind, .int .u64 y.ii.num, .int .i64 y.ii.bits, .bool y.ii.sg, .string y.ii.name, .slice ia y.ii.kids.length ic, .slice a0 y.ini.length c0, .slice a1 y.step.length c1, .slice a2 y.body.length c2, .slice a3 y.els.length c3]) := by show Blk _ _ _ _; rw [← hw3, hsb]; exact Pw.rowB (Blk.new _ _ _) _
  have HSL : Hid (w.heap.size ≤ sb) := by rw [hsb]; exact HCw2.out.size
  clear hw3 hsb HR
  have e0 := HS3.out.cell 0
  have e19 := HS3.out.cell 19
  by_cases hk : y.kind = 11
  · have q : (y.kind == 11) = true := by simpa using hk
    obtain rfl : R = .ok (y.body, l2) := by rw [HR1.out, if_pos hk]
    clear hk
    go_wp2_with (fail)
    go_ret
    have hp3 := HPB.out.keep HB3.out
    exact ⟨HCw2.out.trans (Chg.of_below HB3.out), hp3.par, _, rfl, HBD.out.keep HB3.out, hp3⟩
  · have q : (y.kind == 11) = false := by simpa using hk
    obtain rfl : R = .ok ([y], l2) := by rw [HR1.out, if_neg hk]
    clear hk
    go_wp2_with (first | (refine wpList_load_row rfl 56 _ rfl sb rfl 56 #[.int .i64 y.kind, .int .i64 y.bits, .bool y.sg, .string y.name, .bool y.has, .int .i64 y.xx.kind, .int .u64 y.xx.num, .int .i64 y.xx.bits, .bool y.xx.sg, .string y.xx.name, .slice xa y.xx.kids.length xc, .int .i64 y.ii.kind, .int .u64 y.ii.num, .int .i64 y.ii.bits, .bool y.ii.sg, .string y.ii.name, .slice ia y.ii.kids.length ic, .slice a0 y.ini.length c0, .slice a1 y.step.length c1, .slice a2 y.body.length c2, .slice a3 y.els.length c3] (0, 0) _ HS3.out Try.underlying56 rfl (by kernel_rfl) ?_))
    go_ret
    generalize hw4 : World.alloc w3 _ = w4
    have hb : Below w3.heap.size w3 w4 := by rw [← hw4]; exact Ext.alloc (Below.refl _ _) _
    have hn : Blk w4 w3.heap.size 56 [.int .i64 y.kind, .int .i64 y.bits, .bool y.sg, .string y.name, .bool y.has, .int .i64 y.xx.kind, .int .u64 y.xx.num, .int .i64 y.xx.bits, .bool y.xx.sg, .string y.xx.name, .slice xa y.xx.kids.length xc, .int .i64 y.ii.kind, .int .u64 y.ii.num, .int .i64 y.ii.bits, .bool y.ii.sg, .string y.ii.name, .slice ia y.ii.kids.length ic, .slice a0 y.ini.length c0, .slice a1 y.step.length c1, .slice a2 y.body.length c2, .slice a3 y.els.length c3].toArray := by rw [← hw4]; exact Blk.new _ _ _
    have hb2 := Ext.trans HB3.out hb
    have hp3 := HPB.out.keep hb2
    exact ⟨HCw2.out.trans (Chg.of_below hb2), hp3.par, _, rfl, SsIn.one (HIN.out.keep hb2) (Nat.le_trans HCw2.out.size HB3.out.size) hn, hp3⟩
/-- What stands at the head of the loop over a block's statements. -/
structure BkL (w : World) (g fin d n N : Nat) (R : Ps.Res (List S)) (wr : World) (m : Nat) (acc : List S) (l : List Tk.Tok) (a : Option Addr) (c : Nat) : Prop where
  chg : Chg g w wr
  own : OwnR wr w.heap.size 56 21 LS acc a c
  pb : Pb wr g fin d l
  is : R = (Ps.at' fin m).block d acc l
  fuel : 32 * l.length + 25 ≤ m
  le : m ≤ n
  few : acc.length + l.length ≤ N
theorem BkL.next {w wr wx w' : World} {g fin d n N m : Nat} {R : Ps.Res (List S)} {acc : List S} {l l2 : List Tk.Tok} {a a' : Option Addr} {c c' : Nat} {y : S} {ys : List Value} {cs : Nat → List Value} (h : BkL w g fin d n N R wr (m + 1) acc l a c) (hg : g < w.heap.size) (hs : Ps.sees [125] l = false) (hl : l ≠ []) (hr : (Ps.at' fin m).stat d l = .ok (y, l2))
    (hc : Chg g wr wx) (hp : Pb wx g fin d l2) (ho : wx.ownsRow w.heap.size 56 21 (.slice a acc.length c) acc.length (flat cs acc.length)) (hk : ∀ i y, acc[i]? = some y → LS wx (fun k => w.heap.size ≤ k ∧ (Value.slice a acc.length c).ownBlock ≠ some k) y (cs i))
    (hy : SIn wx (fun k => wr.heap.size ≤ k) y ys) (ho' : w'.ownsRow w.heap.size 56 21 (.slice a' (acc.length + 1) c') (acc.length + 1) (flat cs acc.length ++ ys)) (hgr : wx.grownBy w' (Value.slice a acc.length c).ownBlock)
    (hat : (Value.slice a' (acc.length + 1) c').ownBlock = (Value.slice a acc.length c).ownBlock ∨ (Value.slice a' (acc.length + 1) c').ownBlock = some wx.heap.size) :
    BkL w g fin d n N R w' m (acc ++ [y]) l2 a' c' ∧ tkL w' g = l2.length ∧ l2.length < l.length := by
  have hlo := own_lowR ho
  have hlo2 := h.own.low
  have hlt : l2.length < l.length := (Ps.less_at fin m).stat hr
  have hown := OwnR.app layS ho hk (N := wr.heap.size) (fun k hk => (hlo2 k hk).2) h.chg.size hy ho' hgr hat
  have hpb : Pb w' g fin d l2 := hp.same fun k hk hl => hgr.block k hl (fun e => by have := (hlo k e.symm).1; omega)
  refine ⟨⟨(h.chg.trans hc).grown hgr (fun k hk => (hlo k hk).1), hown, hpb, ?_, ?_, ?_, ?_⟩, hpb.tkL, hlt⟩
  · rw [h.is]
    show Ps.blockS (Ps.at' fin m) fin d acc l = _
    unfold Ps.blockS
    rw [hs, if_neg (by decide), if_neg hl, hr]; rfl
  · have := h.fuel; omega
  · have := h.le; omega
  · have h1 := h.few; have h2 : (acc ++ [y]).length = acc.length + 1 := by simp
    omega
set_option maxHeartbeats 8000000 in
theorem pblock_ok (w : World) (g fin d n : Nat) (l : List Tk.Tok) (h : Pb w g fin d l) (hn : 32 * l.length + 25 ≤ n) (hN : l.length ≤ 70000)
    (hst : ∀ (m : Nat) (w1 : World) (l1 : List Tk.Tok), m < n → l1.length ≤ l.length → 32 * l1.length + 24 ≤ m → Pb w1 g fin d l1 → Calls Try.prog 67 #[P g] w1 (PsR g fin d w1 ((Ps.at' fin m).stat d l1))) :
    Calls Try.prog 45 #[P g] w (PlR g fin d w ((Ps.at' fin n).block d [] l)) := by
  have hgl : g < w.heap.size := by obtain ⟨v, hb, _⟩ := h; exact hb.lt
  have HG := Lib.hid hgl
  obtain ⟨R, hR⟩ : ∃ R, R = (Ps.at' fin n).block d [] l := ⟨_, rfl⟩
  rw [← hR]
  have H0 : Hid (BkL w g fin d n l.length R w n [] l none 0) := ⟨Chg.of_below (Below.refl _ _), OwnR.nil .., h, hR, hn, Nat.le_refl _, by simp⟩
  have HST := Lib.hid hst
  have HNN := Lib.hid hN
  clear h hn hst hR hgl hN
  go_enter Try.func45, Try.ntmps45
  go_upto_region 2 with (fail)
  go_loopw [3] (fun v wr => ∃ (m : Nat) (acc : List S) (lr : List Tk.Tok) (ar : Option Addr) (nr cr : Nat), Hid (BkL w g fin d n l.length R wr m acc lr ar cr) ∧ Hid (nr = acc.length) ∧ v = .slice ar nr cr) (fun v wr => tkL wr g)
  case atStart => exact ⟨_, _, _, _, _, _, H0.out, rfl, rfl⟩
  case round =>
    obtain ⟨m, acc, lr, ar, nr, cr, HA, HNR, rfl⟩ := hrel
    obtain ⟨m, rfl⟩ : ∃ m', m = m' + 1 := ⟨m - 1, by have := HA.out.fuel; omega⟩
    clear H0
    cases hs : Ps.sees [125] lr with
    | true =>
      have HI := Lib.hid (pis_yes wr g fin d lr [125] HA.out.pb hs)
      have HRE : Hid (R = .ok (acc, lr.tail)) := by
        show R = _
        rw [HA.out.is]
        show Ps.blockS (Ps.at' fin m) fin d acc lr = _
        unfold Ps.blockS
        rw [hs, if_pos rfl]
      clear hs
      go_wp2_with (first | (go_at_call_of 21 (Value.string ⟨#[125]⟩); refine (HI.out).mono ?_; rintro e w5 ⟨rfl, hc1, hb1⟩; have HCw5 := Lib.hid hc1; have HBw5 := Lib.hid hb1; clear hc1 hb1))
      go_ret
      have e9 := HRE.out
      subst e9
      have e8 := HNR.out
      subst e8
      have ho := HA.out.own.chg layS HG.out HCw5.out
      exact ⟨HA.out.chg.trans HCw5.out, HBw5.out.par, _, rfl, .of_row (ho.row layS), HBw5.out⟩
    | false =>
      have HI := Lib.hid (pis_no wr g fin d lr [125] HA.out.pb hs)
      have HS := Lib.hid hs
      obtain ⟨v, hb, ht⟩ := HA.out.pb
      have p0 := hb.cell 0
      have p1 := hb.cell 1
      clear hs
      cases lr with
      | nil =>
        obtain ⟨ta, tc, rfl, _, _⟩ := ht.sl
        have HRE : Hid (R = .error (2, fin)) := by
          show R = _
          rw [HA.out.is]
          rfl
        clear hb ht
        go_wp2_with (first | (go_at_call_of 21 (Value.string ⟨#[125]⟩); refine (HI.out).mono ?_; rintro e w' ⟨rfl, rfl⟩) | (go_at_call 22; refine (pfail_ok _ _ _ _).mono ?_; rintro e w' ⟨rfl, rfl⟩))
        have e9 := HRE.out
        subst e9
        exact ⟨rfl, HA.out.chg, HA.out.pb.par, rfl⟩
      | cons t lr =>
        obtain ⟨tq, off, tc, htq, rfl, hlc, hcm, _⟩ := ht.hd
        have q0 : ((lr.length : Int) + 1 == 0) = false := by simp; omega
        have HE : Hid (∀ w1, Pb w1 g fin d (t :: lr) → Calls Try.prog 67 #[P g] w1 (PsR g fin d w1 ((Ps.at' fin m).stat d (t :: lr)))) := fun w1 hp => HST.out m w1 (t :: lr) (by have := HA.out.le; omega) (by have := HA.out.few; omega) (by have := HA.out.fuel; omega) hp
        have HRS : Hid (∀ z, (Ps.at' fin m).stat d (t :: lr) = .error z → R = .error z) := fun z hz => by
          rw [HA.out.is]
          show Ps.blockS (Ps.at' fin m) fin d acc (t :: lr) = _
          unfold Ps.blockS
          rw [HS.out, if_neg (by decide), if_neg (by simp), hz]; rfl
        obtain ⟨r, hr⟩ : ∃ r, r = (Ps.at' fin m).stat d (t :: lr) := ⟨_, rfl⟩
        have HRR := Lib.hid hr
        rw [← hr] at HE HRS
        have HL7 : Hid (acc.length + 1 ≤ 100000000) := by have h1 := HA.out.few; have h2 := HNN.out; show _ ≤ _; omega
        clear hb ht hr
        go_wp2_with (first | (go_at_call_of 21 (Value.string ⟨#[125]⟩); refine (HI.out).mono ?_; rintro e w' ⟨rfl, rfl⟩) | (go_at_call 67; refine (HE.out _ HA.out.pb).mono ?_; rintro e w2 ⟨hc4, hp4, hr4⟩; have HCw2 := Lib.hid hc4; have HPw2 := Lib.hid hp4; clear hc4 hp4; rcases r with z | ⟨y, l2⟩; (obtain rfl := hr4); rotate_left; (obtain ⟨cs, rfl, hin, hpb⟩ := hr4; obtain ⟨xa, xc, ia, ic, a0, c0, a1, c1, a2, c2, a3, c3, rfl, hbd⟩ := Pw.formS hin; have HBD := Lib.hid hbd; have HIN := Lib.hid hin; have HPB := Lib.hid hpb; clear hin hpb hbd); rotate_left) | (obtain ⟨csf, hof, hkf⟩ := (HA.out.own.chg layS HG.out HCw2.out).keep layS (Ext.alloc (Below.refl _ _) (.cells #[.int .i64 y.kind, .int .i64 y.bits, .bool y.sg, .string y.name, .bool y.has, .int .i64 y.xx.kind, .int .u64 y.xx.num, .int .i64 y.xx.bits, .bool y.xx.sg, .string y.xx.name, .slice xa y.xx.kids.length xc, .int .i64 y.ii.kind, .int .u64 y.ii.num, .int .i64 y.ii.bits, .bool y.ii.sg, .string y.ii.name, .slice ia y.ii.kids.length ic, .slice a0 y.ini.length c0, .slice a1 y.step.length c1, .slice a2 y.body.length c2, .slice a3 y.els.length c3] 56)); have hofn : (w2.alloc (.cells #[.int .i64 y.kind, .int .i64 y.bits, .bool y.sg, .string y.name, .bool y.has, .int .i64 y.xx.kind, .int .u64 y.xx.num, .int .i64 y.xx.bits, .bool y.xx.sg, .string y.xx.name, .slice xa y.xx.kids.length xc, .int .i64 y.ii.kind, .int .u64 y.ii.num, .int .i64 y.ii.bits, .bool y.ii.sg, .string y.ii.name, .slice ia y.ii.kids.length ic, .slice a0 y.ini.length c0, .slice a1 y.step.length c1, .slice a2 y.body.length c2, .slice a3 y.els.length c3] 56)).ownsRow w.heap.size 56 21 (.slice ar nr cr) nr (flat csf acc.length) := (by rw [HNR.out]; exact hof); refine wpList_app_row rfl _ _ 43 56 21 288 (.agg Pw.zS) rfl Try.underlying43 (by kernel_rfl) rfl (by decide) (by decide) w.heap.size (.slice ar nr cr) nr (flat csf acc.length) w2.heap.size [.int .i64 y.kind, .int .i64 y.bits, .bool y.sg, .string y.name, .bool y.has, .int .i64 y.xx.kind, .int .u64 y.xx.num, .int .i64 y.xx.bits, .bool y.xx.sg, .string y.xx.name, .slice xa y.xx.kids.length xc, .int .i64 y.ii.kind, .int .u64 y.ii.num, .int .i64 y.ii.bits, .bool y.ii.sg, .string y.ii.name, .slice ia y.ii.kids.length ic, .slice a0 y.ini.length c0, .slice a1 y.step.length c1, .slice a2 y.body.length c2, .slice a3 y.els.length c3] rfl rfl hofn rfl (scell (Blk.new _ _ _)) (layS.one (show LS _ _ _ _ from HIN.out)) (by have h1 := HNR.out; have h2 := HL7.out; omega) (by have h1 := HA.out.chg.size; have h2 := HCw2.out.size; simp; omega) ?_; intro a9 c9 w9 ho9 hg9 hat9))
        · have e9 := HRS.out z rfl
          subst e9
          exact ⟨rfl, HA.out.chg.trans HCw2.out, HPw2.out, rfl⟩
        · have HNX : Hid (BkL w g fin d n l.length R w9 m (acc ++ [y]) l2 a9 c9 ∧ tkL w9 g = l2.length ∧ l2.length < (t :: lr).length) := by
            have e8 := HNR.out
            subst e8
            exact HA.out.next HG.out HS.out (by simp) HRR.out.symm (HCw2.out.trans (Chg.of_below (Ext.alloc (Below.refl _ _) _))) (HPB.out.keep (Ext.alloc (Below.refl _ _) _)) hof hkf (HIN.out.keep (Ext.alloc (Below.refl _ _) _)) ho9 hg9 hat9
          have HN9 : Hid (nr + 1 = (acc ++ [y]).length) := by show _ = _; rw [HNR.out]; simp
          have HM9 : Hid (tkL w9 g < tkL wr g) := by
            show tkL _ g < tkL wr g
            rw [HNX.out.2.1, HA.out.pb.tkL]; exact HNX.out.2.2
          clear hof hkf hofn ho9 hg9 hat9 p0 p1
          go_round
          case rel => exact ⟨m, acc ++ [y], l2, a9, nr + 1, c9, HNX.out.1, HN9, rfl⟩
          case measure => exact HM9.out
end Go.Proofs.Ytfkndjifhmkojaa
