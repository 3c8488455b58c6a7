/- Walk of parser.primary: names, places of arrays, calls. No condition. -/
import Derived.Test.YtfkndjifhmkojaaPt2
import Derived.Test.YtfkndjifhmkojaaPC
import Derived.LoopTactic
import Derived.Deep.Cut
import Derived.Deep.CutRange
import Derived.Deep.DeepCutAuto
namespace Go.Proofs.Ytfkndjifhmkojaa
open Go.RowKit
set_option linter.unusedVariables false
set_option linter.unusedSimpArgs false
set_option maxRecDepth 100000
theorem Chg.grown {g : Nat} {w wi w' : World} {row : Option Nat} (h : Chg g w wi) (hg : wi.grownBy w' row) (hr : ∀ k, row = some k → w.heap.size ≤ k) : Chg g w w' :=
  ⟨hg.os.trans h.os, hg.tape.trans h.tape, hg.output.trans h.output, Nat.le_trans h.size hg.size, fun k hk hne => (hg.block k (Nat.lt_of_lt_of_le hk h.size) (fun e => by have := hr k e.symm; omega)).trans (h.block k hk hne)⟩
theorem Pb.same {w w' : World} {g fin d : Nat} {l : List Tk.Tok} (h : Pb w g fin d l) (hs : ∀ k, k ≤ g → k < w.heap.size → w'.heap[k]? = w.heap[k]?) : Pb w' g fin d l := by
  obtain ⟨v, hb, ht⟩ := h
  exact ⟨v, (hs g (Nat.le_refl _) hb.lt).trans hb, ht.same fun k hk hl => hs k (Nat.le_of_lt hk) hl⟩
theorem xcell {w : World} {tb : Nat} {k n b : Int} {s : Bool} {nm : ByteArray} {v : Value} (h : Blk w tb 54 #[.int .i64 k, .int .u64 n, .int .i64 b, .bool s, .string nm, v]) : ∀ j u, (X.cells k n b s nm v)[j]? = some u → w.cell? ⟨tb, j, none⟩ = some u := by
  intro j u hu
  have hj : j < 6 := (List.getElem?_eq_some_iff.1 hu).1
  rcases (by omega : j = 0 ∨ j = 1 ∨ j = 2 ∨ j = 3 ∨ j = 4 ∨ j = 5) with rfl | rfl | rfl | rfl | rfl | rfl
  · exact (h.cell 0).trans hu
  · exact (h.cell 1).trans hu
  · exact (h.cell 2).trans hu
  · exact (h.cell 3).trans hu
  · exact (h.cell 4).trans hu
  · exact (h.cell 5).trans hu
/-- What stands at the head of the loop over a call's arguments. -/
structure ArgL (w : World) (g fin d n b5 N : Nat) (nm : List UInt8) (R : Ps.Res X) (wr : World) (m : Nat) (acc : List X) (l : List Tk.Tok) (a : Option Addr) (c : Nat) : Prop where
  fz : Fz w g 54 Pw.zX wr
  lb : w.heap.size < b5
  xb : Blk wr b5 54 #[.int .i64 4, .int .u64 0, .int .i64 0, .bool false, .string ⟨nm.toArray⟩, .slice a acc.length c]
  own : OwnR wr (b5 + 1) 54 6 LX acc a c
  pb : Pb wr g fin d l
  is : R = Ps.seq ((Ps.at' fin m).args d acc l) fun ks l => .ok (Ps.xn 4 nm ks, l)
  fuel : 32 * l.length + 21 ≤ m
  le : m ≤ n
  lt : l.length < N
  few : acc.length ≤ 8
/-- And where the sign between them has come. -/
structure ArgS (w : World) (g fin d n b5 N : Nat) (nm : List UInt8) (R : Ps.Res X) (L0 : Nat) (wr : World) (m : Nat) (acc : List X) (l : List Tk.Tok) (a : Option Addr) (c : Nat) : Prop where
  fz : Fz w g 54 Pw.zX wr
  lb : w.heap.size < b5
  xb : Blk wr b5 54 #[.int .i64 4, .int .u64 0, .int .i64 0, .bool false, .string ⟨nm.toArray⟩, .slice a acc.length c]
  own : OwnR wr (b5 + 1) 54 6 LX acc a c
  pb : Pb wr g fin d l
  is : R = if acc.length = 8 then .error (5, Ps.pos fin l) else Ps.seq ((Ps.at' fin m).expr d l) fun x l => Ps.seq ((Ps.at' fin m).args d (acc ++ [x]) l) fun ks l => .ok (Ps.xn 4 nm ks, l)
  fuel : 32 * l.length + 20 ≤ m
  le : m ≤ n
  lt : l.length < N
  l0 : l.length ≤ L0
  few : acc.length ≤ 8
section
variable {w wr wi : World} {g fin d n b5 N m L0 : Nat} {nm : List UInt8} {R : Ps.Res X} {acc : List X} {l l1 : List Tk.Tok} {a : Option Addr} {c : Nat}
theorem ArgL.sep (h : ArgL w g fin d n b5 N nm R wr (m + 1) acc l a c) (hg : g < w.heap.size) (hs : Ps.sees [41] l = false) (hc : Chg g wr wi) (hp : Pb wi g fin d l1) (hl : l1.length ≤ l.length)
    (h1 : (if acc = [] then (.ok ((), l) : Ps.Res Unit) else Ps.need fin [44] l) = .ok ((), l1)) : ArgS w g fin d n b5 N nm R l.length wi m acc l1 a c := by
  have hb := h.lb
  refine ⟨h.fz.step hg hc, hb, (hc.block b5 h.xb.lt (fun e => by injection e with e; omega)).trans h.xb, h.own.chg layX (by omega) hc, hp, ?_, ?_, ?_, ?_, hl, h.few⟩
  · rw [h.is]
    show Ps.seq (Ps.argsS (Ps.at' fin m) fin d acc l) _ = _
    unfold Ps.argsS
    rw [hs, if_neg (by decide), h1]
    show Ps.seq (if acc.length = 8 then _ else _) _ = _
    split
    · rfl
    · cases (Ps.at' fin m).expr d l1 <;> rfl
  · have := h.fuel; omega
  · have := h.le; omega
  · have := h.lt; omega
theorem ArgS.keep (h : ArgS w g fin d n b5 N nm R L0 wr m acc l a c) (hb : Below wr.heap.size wr wi) : ArgS w g fin d n b5 N nm R L0 wi m acc l a c :=
  ⟨h.fz.below hb, h.lb, h.xb.keep hb, h.own.keep layX hb, h.pb.keep hb, h.is, h.fuel, h.le, h.lt, h.l0, h.few⟩
/-- The next one has come. -/
theorem ArgS.next {wx w' : World} {y : X} {l2 : List Tk.Tok} {ys : List Value} {cs : Nat → List Value} {a' : Option Addr} {c' : Nat} (h : ArgS w g fin d n b5 N nm R L0 wr m acc l a c) (hg : g < w.heap.size) (h8 : ¬ acc.length = 8) (hr : (Ps.at' fin m).expr d l = .ok (y, l2)) (hlt : l2.length < l.length)
    (hc : Chg g wr wx) (hp : Pb wx g fin d l2) (ho : wx.ownsRow (b5 + 1) 54 6 (.slice a acc.length c) acc.length (flat cs acc.length)) (hk : ∀ i y, acc[i]? = some y → LX wx (fun k => b5 + 1 ≤ k ∧ (Value.slice a acc.length c).ownBlock ≠ some k) y (cs i))
    (hy : XIn wx (fun k => wr.heap.size ≤ k) y ys) (ho' : w'.ownsRow (b5 + 1) 54 6 (.slice a' (acc.length + 1) c') (acc.length + 1) (flat cs acc.length ++ ys)) (hgr : wx.grownBy w' (Value.slice a acc.length c).ownBlock)
    (hat : (Value.slice a' (acc.length + 1) c').ownBlock = (Value.slice a acc.length c).ownBlock ∨ (Value.slice a' (acc.length + 1) c').ownBlock = some wx.heap.size) :
    ArgL w g fin d n b5 N nm R (w'.setCell ⟨b5, 5, none⟩ (.slice a' (acc.length + 1) c')) m (acc ++ [y]) l2 a' c' ∧ tkL (w'.setCell ⟨b5, 5, none⟩ (.slice a' (acc.length + 1) c')) g = l2.length := by
  have hb := h.lb
  have hlo := own_lowR ho
  have hlo2 := h.own.low
  have hx := h.xb
  have hnb : some b5 ≠ (Value.slice a acc.length c).ownBlock := fun e => by have := (hlo b5 e.symm).1; omega
  have hx2 : Blk wx b5 54 _ := (hc.block b5 hx.lt (fun e => by injection e with e; omega)).trans hx
  have hx' : Blk w' b5 54 _ := (hgr.block b5 hx2.lt hnb).trans hx2
  have hfar : ∀ k, k ≠ b5 → (w'.setCell ⟨b5, 5, none⟩ (.slice a' (acc.length + 1) c')).heap[k]? = w'.heap[k]? := fun k hk => Below.heap_setCell w' ⟨b5, 5, none⟩ _ k hk
  have hf1 := h.fz.step hg hc
  have hchg : Chg g w (w'.setCell ⟨b5, 5, none⟩ (.slice a' (acc.length + 1) c')) := (hf1.chg.grown hgr (fun k hk => by have := (hlo k hk).1; omega)).setNew (by show w.heap.size ≤ b5; omega) _
  have hown := OwnR.app layX ho hk (N := wr.heap.size) (fun k hk => (hlo2 k hk).2) hx.lt hy ho' hgr hat
  have hpb : Pb (w'.setCell ⟨b5, 5, none⟩ (.slice a' (acc.length + 1) c')) g fin d l2 := hp.same fun k hk hl => (hfar k (by omega)).trans (hgr.block k hl (fun e => by have := (hlo k e.symm).1; omega))
  have hl9 : (acc ++ [y]).length = acc.length + 1 := by simp
  refine ⟨⟨⟨hchg, ?_⟩, hb, ?_, hown.same layX fun k hk hl => hfar k (by omega), hpb, ?_, ?_, h.le, ?_, ?_⟩, hpb.tkL⟩
  · have hz := hf1.z
    exact (hfar w.heap.size (by omega)).trans ((hgr.block w.heap.size hz.lt (fun e => by have := (hlo _ e.symm).1; omega)).trans hz)
  · rw [hl9]
    have := hx'.set_ 5 (.slice a' (acc.length + 1) c')
    simpa using this
  · rw [h.is, if_neg h8, hr]; rfl
  · have := h.fuel; omega
  · have := h.lt; omega
  · rw [hl9]; have := h.few; omega
/-- All have come. -/
theorem ArgL.end_ (h : ArgL w g fin d n b5 N nm R wr (m + 1) acc l a c) (hg : g < w.heap.size) (hs : Ps.sees [41] l = true) (hc : Chg g wr wi) (hp : Pb wi g fin d l.tail) :
    R = .ok (Ps.xn 4 nm acc, l.tail) ∧ Fz w g 54 Pw.zX wi ∧ Blk wi b5 54 #[.int .i64 4, .int .u64 0, .int .i64 0, .bool false, .string ⟨nm.toArray⟩, .slice a acc.length c] ∧ XIn wi (fun k => w.heap.size < k) (Ps.xn 4 nm acc) (X.cells 4 0 0 false ⟨nm.toArray⟩ (.slice a acc.length c)) := by
  have hb := h.lb
  refine ⟨?_, h.fz.step hg hc, (hc.block b5 h.xb.lt (fun e => by injection e with e; omega)).trans h.xb, ?_⟩
  · rw [h.is]
    show Ps.seq (Ps.argsS (Ps.at' fin m) fin d acc l) _ = _
    unfold Ps.argsS
    rw [hs, if_pos rfl]; rfl
  · obtain ⟨cs, ho, hk⟩ := h.own.chg layX (show g < b5 + 1 by omega) hc
    exact XIn.row ho (fun i y hy => XIn.move (hk i y hy) fun k hk _ => ⟨by have := hk.1; omega, rfl⟩) (fun k hk => by have := (own_lowR ho k hk).1; omega)
end
theorem at_new {w w4 : World} {g fin d b5 N : Nat} {l2 : List Tk.Tok} {nm : List UInt8} {y : X} {ya : Option Addr} {yc : Nat} (hz : Fz w g 54 Pw.zX w4) (hg : g < w.heap.size) (hb : w.heap.size < b5) (hx : Blk w4 b5 54 #[.int .i64 2, .int .u64 0, .int .i64 0, .bool false, .string ⟨nm.toArray⟩, .slice none 0 0]) (hN : b5 < N)
    (hin : XIn w4 (fun k => N ≤ k) y (X.cells y.kind y.num y.bits y.sg y.name (.slice ya y.kids.length yc))) (hp : Pb w4 g fin d l2) (w5 : World) (tb : Nat) (htb : w4.heap.size = tb)
    (h5 : ((w4.setCell ⟨b5, 0, none⟩ (.int .i64 3)).setCell ⟨b5, 5, none⟩ (.slice (some ⟨tb, 0, none⟩) 1 1)).alloc (.cells #[.int .i64 y.kind, .int .u64 y.num, .int .i64 y.bits, .bool y.sg, .string y.name, .slice ya y.kids.length yc] 54) = w5) :
    Fz w g 54 Pw.zX w5 ∧ Blk w5 b5 54 #[.int .i64 3, .int .u64 0, .int .i64 0, .bool false, .string ⟨nm.toArray⟩, .slice (some ⟨tb, 0, none⟩) 1 1] ∧ Pb w5 g fin d l2 ∧
    XIn w5 (fun k => w.heap.size < k) (Ps.xn 3 nm [y]) (X.cells 3 0 0 false ⟨nm.toArray⟩ (.slice (some ⟨tb, 0, none⟩) 1 1)) := by
  have hlt := hx.lt
  obtain ⟨W, hW⟩ : ∃ W, W = (w4.setCell ⟨b5, 0, none⟩ (.int .i64 3)).setCell ⟨b5, 5, none⟩ (.slice (some ⟨tb, 0, none⟩) 1 1) := ⟨_, rfl⟩
  have hsz : W.heap.size = w4.heap.size := by rw [hW]; simp
  have hWo : ∀ k, k ≠ b5 → W.heap[k]? = w4.heap[k]? := fun k hk => by rw [hW, Below.heap_setCell _ ⟨b5, 5, none⟩ _ k hk, Below.heap_setCell _ ⟨b5, 0, none⟩ _ k hk]
  rw [← hW] at h5
  have hbl : Below W.heap.size W w5 := by rw [← h5]; exact Ext.alloc (Below.refl _ _) _
  have hoth : ∀ k, k ≠ b5 → k < w4.heap.size → w5.heap[k]? = w4.heap[k]? := fun k hk hl => (hbl.block k (by omega)).trans (hWo k hk)
  have hnb : Blk w5 tb 54 #[.int .i64 y.kind, .int .u64 y.num, .int .i64 y.bits, .bool y.sg, .string y.name, .slice ya y.kids.length yc] := by rw [← h5]; exact Blk.newn _ _ (hsz.trans htb)
  have hx5 : Blk w5 b5 54 #[.int .i64 3, .int .u64 0, .int .i64 0, .bool false, .string ⟨nm.toArray⟩, .slice (some ⟨tb, 0, none⟩) 1 1] := by
    have h1 := hx.set_ 0 (.int .i64 3)
    have h2 := h1.set_ 5 (.slice (some ⟨tb, 0, none⟩) 1 1)
    have h2 : Blk W b5 54 #[.int .i64 3, .int .u64 0, .int .i64 0, .bool false, .string ⟨nm.toArray⟩, .slice (some ⟨tb, 0, none⟩) 1 1] := by rw [hW]; simpa using h2
    exact h2.keep hbl
  have hc : Chg g w w5 := by
    have h1 : Chg g w W := by rw [hW]; exact (hz.chg.setNew (by show w.heap.size ≤ b5; omega) _).setNew (by show w.heap.size ≤ b5; omega) _
    exact h1.trans (Chg.of_below hbl)
  have hbb : w.heap.size < w4.heap.size := hz.lt
  refine ⟨⟨hc, (hoth _ (by omega) hz.z.lt).trans hz.z⟩, hx5, hp.same fun k hk hl => hoth k (by omega) hl, ?_⟩
  exact XIn.one 3 0 0 false ⟨nm.toArray⟩ (hin.move fun k hk hl => ⟨by have hk : N ≤ k := hk; omega, hoth k (by have hk : N ≤ k := hk; omega) hl⟩) (by omega) hnb
set_option maxHeartbeats 4000000 in
theorem pprim_none (w : World) (g fin d n : Nat) (h : Pb w g fin d []) :
    Calls Try.prog 123 #[P g] w (PxR g fin d w (Ps.idS (Ps.at' fin n) fin d [])) := by
  have hgl : g < w.heap.size := by obtain ⟨v, hb, _⟩ := h; exact hb.lt
  have HG := Lib.hid hgl
  obtain ⟨w0, hw0⟩ : ∃ w0, w0 = w.alloc (.cells Pw.zX 54) := ⟨_, rfl⟩
  have HF0 : Hid (Fz w g 54 Pw.zX w0) := by show Fz _ _ _ _ _; rw [hw0]; exact Fz.new ..
  have hp0 : Pb w0 g fin d [] := by rw [hw0]; exact h.keep (Ext.alloc (Below.refl _ _) _)
  have HIS := Lib.hid (pis_no w0 g fin d [] [40] hp0 rfl)
  have HNM := Lib.hid (pname_ok w0 g fin d [] hp0)
  obtain ⟨v, hb, ht⟩ := hp0
  obtain ⟨a, c, rfl, _, _⟩ := ht.sl
  have p0 := hb.cell 0
  clear h hb ht hgl
  go_enter Try.func123, Try.ntmps123
  go_upto_region 1 with (fail)
  rw [← hw0]
  clear hw0
  go_wp2_with (first | (go_at_call_of 21 (Value.string ⟨#[40]⟩); refine (HIS.out).mono ?_; rintro e w' ⟨rfl, rfl⟩) | (go_at_call 23; refine HNM.out.mono ?_; rintro e w1 ⟨hc6, hp6, rfl⟩; have HC1 := Lib.hid hc6; have HP1 := Lib.hid hp6; clear hc6 hp6))
  exact ⟨rfl, HF0.out.chg.trans HC1.out, HP1.out, rfl⟩
set_option maxHeartbeats 16000000 in
theorem pprim_id (w : World) (g fin d n : Nat) (t : Tk.Tok) (l : List Tk.Tok) (h : Pb w g fin d (t :: l)) (hs : Ps.sees [40] (t :: l) = false) (hk : t.kind ≠ 2) (hn : 32 * (t :: l).length + 6 ≤ n)
    (hex : ∀ (m : Nat) (w1 : World) (l1 : List Tk.Tok), m ≤ n → l1.length < (t :: l).length → 32 * l1.length + 20 ≤ m → Pb w1 g fin d l1 → Calls Try.prog 46 #[P g] w1 (PxR g fin d w1 ((Ps.at' fin m).expr d l1))) :
    Calls Try.prog 123 #[P g] w (PxR g fin d w (Ps.idS (Ps.at' fin n) fin d (t :: l))) := by
  have hgl : g < w.heap.size := by obtain ⟨v, hb, _⟩ := h; exact hb.lt
  have HG := Lib.hid hgl
  obtain ⟨w0, hw0⟩ : ∃ w0, w0 = w.alloc (.cells Pw.zX 54) := ⟨_, rfl⟩
  have HF0 : Hid (Fz w g 54 Pw.zX w0) := by show Fz _ _ _ _ _; rw [hw0]; exact Fz.new ..
  have hp0 : Pb w0 g fin d (t :: l) := by rw [hw0]; exact h.keep (Ext.alloc (Below.refl _ _) _)
  have HIS := Lib.hid (pis_no w0 g fin d (t :: l) [40] hp0 hs)
  have HNM := Lib.hid (pname_ok w0 g fin d (t :: l) hp0)
  obtain ⟨R, hR⟩ : ∃ R, R = Ps.idS (Ps.at' fin n) fin d (t :: l) := ⟨_, rfl⟩
  rw [← hR]
  unfold Ps.idS at hR
  obtain ⟨rn, hrn⟩ : ∃ rn, rn = Ps.name fin (t :: l) := ⟨_, rfl⟩
  have HLT : Hid (∀ x l', rn = .ok (x, l') → l'.length < (t :: l).length) := fun x l' h => Ps.name_lt (fin := fin) (hrn ▸ h)
  rw [← hrn] at HNM hR
  have HR := Lib.hid hR
  have HEX := Lib.hid hex
  have HNN := Lib.hid hn
  obtain ⟨v, hb, ht⟩ := hp0
  obtain ⟨q, off, c, hq, rfl, hlc, hcm, c0, c1, _⟩ := ht.hd
  have p0 := hb.cell 0
  have ql : decide ((l.length : Int) + 1 > 0) = true := decide_eq_true (by omega)
  have qk : (t.kind == 2) = false := by simpa using hk
  clear h hb ht hk hgl hs hn hex hR hrn
  go_enter Try.func123, Try.ntmps123
  go_upto_region 1 with (fail)
  rw [← hw0]
  clear hw0
  go_upto_region 10 with (first | (go_at_call_of 21 (Value.string ⟨#[40]⟩); refine (HIS.out).mono ?_; rintro e w' ⟨rfl, rfl⟩) | (go_at_call 23; refine HNM.out.mono ?_; rintro e w1 ⟨hc6, hp6, hr6⟩; have HC1 := Lib.hid hc6; have HP1 := Lib.hid hp6; clear hc6 hp6; rcases rn with z | ⟨nm, l1⟩; (obtain rfl := hr6); rotate_left; (obtain ⟨rfl, hpb⟩ := hr6; have HPN := Lib.hid hpb; clear hpb); rotate_left))
  · obtain rfl : R = .error z := HR.out
    exact ⟨rfl, HF0.out.chg.trans HC1.out, HP1.out, rfl⟩
  have HL1 := Lib.hid (HLT.out _ _ rfl)
  have HR1 : Hid (R = if Ps.sees [91] l1 = true then Ps.seq ((Ps.at' fin n).expr d l1.tail) fun x l => Ps.seq (Ps.need fin [93] l) fun _ l => .ok (Ps.xn 3 nm [x], l) else if Ps.sees [40] l1 = true then Ps.seq ((Ps.at' fin n).args d [] l1.tail) fun ks l => .ok (Ps.xn 4 nm ks, l) else .ok (Ps.xn 2 nm [], l1)) := HR.out
  clear HR HNM HIS p0 c0 c1 ql qk HLT
  generalize hw2 : World.alloc w1 _ = w2
  obtain ⟨b5, hb5⟩ : ∃ b5, b5 = w1.heap.size := ⟨_, rfl⟩
  have HB2 : Hid (Below w1.heap.size w1 w2) := by show Below _ _ _; rw [← hw2]; exact Ext.alloc (Below.refl _ _) _
  have HY2 : Hid (Blk w2 b5 54 #[.int .i64 2, .int .u64 0, .int .i64 0, .bool false, .string ⟨nm.toArray⟩, .slice none 0 0]) := by show Blk _ _ _ _; rw [← hw2, hb5]; exact Blk.new _ _ _
  have HG5 : Hid (g < b5 ∧ w.heap.size < b5) := by have h1 := (HF0.out.step HG.out HC1.out).lt; have h2 := HG.out; exact ⟨by omega, by omega⟩
  have HF2 : Hid (Fz w g 54 Pw.zX w2) := (HF0.out.step HG.out HC1.out).below HB2.out
  have HP2 : Hid (Pb w2 g fin d l1) := HPN.out.keep HB2.out
  rw [← hb5]
  clear hw2 hb5 HPN HB2 HC1 HP1
  cases hs91 : Ps.sees [91] l1 with
  | true =>
    have HI := Lib.hid (pis_yes w2 g fin d l1 [91] HP2.out hs91)
    have HLE : Hid (l1.tail.length < l1.length) := Ps.sees_lt hs91
    have HR2 : Hid (R = Ps.seq ((Ps.at' fin n).expr d l1.tail) fun x l => Ps.seq (Ps.need fin [93] l) fun _ l => .ok (Ps.xn 3 nm [x], l)) := by show R = _; rw [HR1.out, if_pos hs91]
    have HE : Hid (∀ w1, Pb w1 g fin d l1.tail → Calls Try.prog 46 #[P g] w1 (PxR g fin d w1 ((Ps.at' fin n).expr d l1.tail))) := fun w1 hp => HEX.out n w1 l1.tail (Nat.le_refl _) (by have := HL1.out; have := HLE.out; omega) (by have := HL1.out; have := HLE.out; have := HNN.out; omega) hp
    obtain ⟨r, hr⟩ : ∃ r, r = (Ps.at' fin n).expr d l1.tail := ⟨_, rfl⟩
    rw [← hr] at HE HR2
    clear hs91 hr HR1 HEX
    have HX2 : Hid (∀ wi, Chg g w2 wi → Blk wi b5 54 #[.int .i64 2, .int .u64 0, .int .i64 0, .bool false, .string ⟨nm.toArray⟩, .slice none 0 0]) := fun wi hc => (hc.block b5 HY2.out.lt (fun e => by injection e with e; have := HG5.out.1; omega)).trans HY2.out
    go_upto_region 12 with (first | (go_at_call_of 21 (Value.string ⟨#[91]⟩); refine (HI.out).mono ?_; rintro e w3 ⟨rfl, hc1, hb1⟩; have HCw3 := Lib.hid hc1; have HBw3 := Lib.hid hb1; clear hc1 hb1) | (go_at_call 46; refine (HE.out _ HBw3.out).mono ?_; rintro e w4 ⟨hc4, hp4, hr4⟩; have HC4 := Lib.hid (HCw3.out.trans hc4); have HP4 := Lib.hid hp4; have hc5 : Chg g w3 w4 := hc4; have HC5 := Lib.hid hc5; clear hc5 hp4; rcases r with z | ⟨y, l2⟩; (obtain rfl := hr4; clear hc4); rotate_left; (obtain ⟨cs, rfl, hin, hpb⟩ := hr4; obtain ⟨ya, yc, rfl⟩ := Pw.form hin; have HIN := Lib.hid hin; have HPB := Lib.hid hpb; have hx4 := HX2.out w4 HC4.out; have e0 := hx4.cell 0; have e5 := hx4.cell 5; have f0 := hx4.frozen 0; have f5 := hx4.frozen 5; have ltb : b5 < w4.heap.size := hx4.lt; clear hin hpb hx4 hc4); rotate_left))
    · obtain rfl : R = .error z := HR2.out
      exact ⟨rfl, HF2.out.chg.trans HC4.out, HP4.out, rfl⟩
    obtain ⟨tb, htb⟩ : ∃ tb, w4.heap.size = tb := ⟨_, rfl⟩
    rw [htb]
    generalize hw5 : World.alloc _ _ = w5
    have h3l : b5 < w3.heap.size := Nat.lt_of_lt_of_le HY2.out.lt HCw3.out.size
    have HA5 := Lib.hid (at_new (HF2.out.step HG.out HC4.out) HG.out HG5.out.2 (HX2.out w4 HC4.out) h3l HIN.out HPB.out w5 tb htb hw5)
    clear hw5 htb e0 e5 f0 f5 ltb h3l
    have HN := Lib.hid (pneed_ok w5 g fin d l2 [93] HA5.out.2.2.1)
    have HR3 : Hid (R = Ps.seq (Ps.need fin [93] l2) fun _ l => .ok (Ps.xn 3 nm [y], l)) := HR2.out
    obtain ⟨rn, hrn⟩ : ∃ rn, rn = Ps.need fin [93] l2 := ⟨_, rfl⟩
    rw [← hrn] at HN HR3
    clear hrn
    have HYN : Hid (∀ w6, Chg g w5 w6 → Blk w6 b5 54 #[.int .i64 3, .int .u64 0, .int .i64 0, .bool false, .string ⟨nm.toArray⟩, .slice (some ⟨tb, 0, none⟩) 1 1]) := fun w6 hc => (hc.block b5 HA5.out.2.1.lt (fun e => by injection e with e; have := HG5.out.1; omega)).trans HA5.out.2.1
    go_wp2_with (first | (go_at_call_of 44 (Value.string ⟨#[93]⟩); refine (HN.out).mono ?_; rintro e w6 ⟨hc6, hp6, hr6⟩; have HCw6 := Lib.hid hc6; have HPw6 := Lib.hid hp6; clear hc6 hp6; rcases rn with z | ⟨y0, l4⟩; (obtain rfl := hr6); rotate_left; (obtain ⟨rfl, hpb⟩ := hr6; have HPN := Lib.hid hpb; clear hpb); rotate_left) | (refine wpList_load_row rfl 54 _ rfl b5 rfl 54 #[.int .i64 3, .int .u64 0, .int .i64 0, .bool false, .string ⟨nm.toArray⟩, .slice (some ⟨tb, 0, none⟩) 1 1] (0, 0) _ (HYN.out _ HCw6.out) Try.underlying54 rfl (by kernel_rfl) ?_) | (refine wpList_store_row rfl 54 _ _ rfl w.heap.size #[.int .i64 3, .int .u64 0, .int .i64 0, .bool false, .string ⟨nm.toArray⟩, .slice (some ⟨tb, 0, none⟩) 1 1] rfl rfl 54 Pw.zX (HA5.out.1.step HG.out HCw6.out).z (by kernel_rfl) rfl (Pw.one _ _ _ _ _ _ _ _) ?_))
    · obtain rfl : R = .error z := HR3.out
      exact ⟨rfl, HA5.out.1.chg.trans HCw6.out, HPw6.out, rfl⟩
    · obtain rfl : R = .ok (Ps.xn 3 nm [y], l4) := HR3.out
      (obtain ⟨row, hrow⟩ : ∃ row : Array Value, row = #[.int .i64 3, .int .u64 0, .int .i64 0, .bool false, .string ⟨nm.toArray⟩, .slice (some ⟨tb, 0, none⟩) 1 1] := ⟨_, rfl⟩; rw [← hrow])
      have hx4 := HA5.out.2.2.2.move (w' := w6) (q := fun k => w.heap.size < k) fun k hk hl => ⟨hk, HCw6.out.block k hl (fun e => by injection e with e; have := HG.out; have hk : w.heap.size < k := hk; omega)⟩
      (exact bodyPost_ret (Pw.res_cell rfl _ _ w.heap.size 54 row (0, 0) _ rfl (Fz.rw (HA5.out.1.step HG.out HCw6.out) HG.out (HPN.out) row).2.2.1 Try.underlying54 rfl (by subst hrow; kernel_rfl)) rfl (Fz.rowX (HA5.out.1.step HG.out HCw6.out) HG.out (HPN.out) (hx4) row hrow))
  | false =>
    have HI9 := Lib.hid (pis_no w2 g fin d l1 [91] HP2.out hs91)
    have HR2 : Hid (R = if Ps.sees [40] l1 = true then Ps.seq ((Ps.at' fin n).args d [] l1.tail) fun ks l => .ok (Ps.xn 4 nm ks, l) else .ok (Ps.xn 2 nm [], l1)) := by show R = _; rw [HR1.out, if_neg (by rw [hs91]; decide)]
    clear hs91 HR1
    cases hs40 : Ps.sees [40] l1 with
    | false =>
      have HI4 := Lib.hid (pis_no w2 g fin d l1 [40] HP2.out hs40)
      obtain rfl : R = .ok (Ps.xn 2 nm [], l1) := by rw [HR2.out, if_neg (by rw [hs40]; decide)]
      clear hs40 HR2
      go_wp2_with (first | (go_at_call_of 21 (Value.string ⟨#[91]⟩); refine (HI9.out).mono ?_; rintro e w' ⟨rfl, rfl⟩) | (go_at_call_of 21 (Value.string ⟨#[40]⟩); refine (HI4.out).mono ?_; rintro e w' ⟨rfl, rfl⟩) | (refine wpList_load_row rfl 54 _ rfl b5 rfl 54 #[.int .i64 2, .int .u64 0, .int .i64 0, .bool false, .string ⟨nm.toArray⟩, .slice none 0 0] (0, 0) _ HY2.out Try.underlying54 rfl (by kernel_rfl) ?_) | (refine wpList_store_row rfl 54 _ _ rfl w.heap.size #[.int .i64 2, .int .u64 0, .int .i64 0, .bool false, .string ⟨nm.toArray⟩, .slice none 0 0] rfl rfl 54 Pw.zX HF2.out.z (by kernel_rfl) rfl (Pw.one _ _ _ _ _ _ _ _) ?_))
      (obtain ⟨row, hrow⟩ : ∃ row : Array Value, row = #[.int .i64 2, .int .u64 0, .int .i64 0, .bool false, .string ⟨nm.toArray⟩, .slice none 0 0] := ⟨_, rfl⟩; rw [← hrow])
      have hx : XIn w2 (fun k => w.heap.size < k) (Ps.xn 2 nm []) (X.cells 2 0 0 false ⟨nm.toArray⟩ (.slice none 0 0)) := .mk 2 0 0 false ⟨nm.toArray⟩ [] none 0 (fun _ => []) (Nat.le_refl _) (Nat.zero_le _) (fun i z hz => by simp at hz) (fun h => absurd h (Nat.lt_irrefl _))
      (exact bodyPost_ret (Pw.res_cell rfl _ _ w.heap.size 54 row (0, 0) _ rfl (Fz.rw (HF2.out) HG.out (HP2.out) row).2.2.1 Try.underlying54 rfl (by subst hrow; kernel_rfl)) rfl (Fz.rowX (HF2.out) HG.out (HP2.out) (hx) row hrow))
    | true =>
      have HI4 := Lib.hid (pis_yes w2 g fin d l1 [40] HP2.out hs40)
      have HLE : Hid (l1.tail.length < l1.length) := Ps.sees_lt hs40
      have HR3 : Hid (R = Ps.seq ((Ps.at' fin n).args d [] l1.tail) fun ks l => .ok (Ps.xn 4 nm ks, l)) := by show R = _; rw [HR2.out, if_pos hs40]
      clear hs40 HR2
      have HX2 : Hid (∀ wi, Chg g w2 wi → Blk wi b5 54 #[.int .i64 2, .int .u64 0, .int .i64 0, .bool false, .string ⟨nm.toArray⟩, .slice none 0 0]) := fun wi hc => (hc.block b5 HY2.out.lt (fun e => by injection e with e; have := HG5.out.1; omega)).trans HY2.out
      go_upto_region 14 with (first | (go_at_call_of 21 (Value.string ⟨#[91]⟩); refine (HI9.out).mono ?_; rintro e w' ⟨rfl, rfl⟩) | (go_at_call_of 21 (Value.string ⟨#[40]⟩); refine (HI4.out).mono ?_; rintro e w3 ⟨rfl, hc1, hb1⟩; have HCw3 := Lib.hid hc1; have HBw3 := Lib.hid hb1; clear hc1 hb1))
      have hx3 := HX2.out w3 HCw3.out
      have e0 := hx3.cell 0
      have f0 := hx3.frozen 0
      clear hx3
      go_upto_region 15 with (fail)
      generalize hw4 : World.setCell w3 _ _ = w4
      have H0 : Hid (ArgL w g fin d n b5 (t :: l).length nm R w4 n [] l1.tail none 0) := by
        have hx3 := HX2.out w3 HCw3.out
        have hfar : ∀ k, k ≠ b5 → w4.heap[k]? = w3.heap[k]? := fun k hk => by rw [← hw4]; exact Below.heap_setCell w3 ⟨b5, 0, none⟩ _ k hk
        have h5 := HG5.out
        have hz := HF2.out.step HG.out HCw3.out
        refine ⟨⟨by rw [← hw4]; exact hz.chg.setNew (by show w.heap.size ≤ b5; omega) _, (hfar _ (by omega)).trans hz.z⟩, h5.2, ?_, OwnR.nil .., HBw3.out.same fun k hk hl => hfar k (by omega), HR3.out, ?_, Nat.le_refl _, ?_, Nat.zero_le _⟩
        · have h1 := hx3.set_ 0 (.int .i64 4)
          rw [← hw4]
          simpa using h1
        · have h1 := HL1.out; have h2 := HLE.out; have h3 := HNN.out
          omega
        · have h1 := HL1.out; have h2 := HLE.out
          omega
      clear hw4 e0 f0 HF2 HX2 HY2 HP2 HI9 HI4 HBw3 HCw3 HR3 HLE HL1 HF0 HNN
      go_loopw [] (fun wr => ∃ (m : Nat) (acc : List X) (lr : List Tk.Tok) (ar : Option Addr) (cr : Nat), Hid (ArgL w g fin d n b5 (t :: l).length nm R wr m acc lr ar cr)) (fun wr => tkL wr g)
      case atStart => exact ⟨_, _, _, _, _, H0.out⟩
      case round =>
        obtain ⟨m, acc, lr, ar, cr, HA⟩ := hrel
        obtain ⟨m, rfl⟩ : ∃ m', m = m' + 1 := ⟨m - 1, by have := HA.out.fuel; omega⟩
        clear H0
        cases hs41 : Ps.sees [41] lr with
        | true =>
          have HI := Lib.hid (pis_yes wr g fin d lr [41] HA.out.pb hs41)
          have HEN := Lib.hid (fun wi hc hp => HA.out.end_ (wi := wi) HG.out hs41 hc hp)
          clear hs41
          go_wp2_with (first | (go_at_call_of 21 (Value.string ⟨#[41]⟩); refine (HI.out).mono ?_; rintro e w5 ⟨rfl, hc1, hb1⟩; have HCw5 := Lib.hid hc1; have HBw5 := Lib.hid hb1; clear hc1 hb1) | (refine wpList_load_row rfl 54 _ rfl b5 rfl 54 #[.int .i64 4, .int .u64 0, .int .i64 0, .bool false, .string ⟨nm.toArray⟩, .slice ar acc.length cr] (0, 0) _ (HEN.out w5 HCw5.out HBw5.out).2.2.1 Try.underlying54 rfl (by kernel_rfl) ?_) | (refine wpList_store_row rfl 54 _ _ rfl w.heap.size #[.int .i64 4, .int .u64 0, .int .i64 0, .bool false, .string ⟨nm.toArray⟩, .slice ar acc.length cr] rfl rfl 54 Pw.zX (HEN.out w5 HCw5.out HBw5.out).2.1.z (by kernel_rfl) rfl (Pw.one _ _ _ _ _ _ _ _) ?_))
          obtain ⟨hR9, hz9, _, hx9⟩ := HEN.out w5 HCw5.out HBw5.out
          subst hR9
          (obtain ⟨row, hrow⟩ : ∃ row : Array Value, row = #[.int .i64 4, .int .u64 0, .int .i64 0, .bool false, .string ⟨nm.toArray⟩, .slice ar acc.length cr] := ⟨_, rfl⟩; rw [← hrow])
          (exact bodyPost_ret (Pw.res_cell rfl _ _ w.heap.size 54 row (0, 0) _ rfl (Fz.rw (hz9) HG.out (HBw5.out) row).2.2.1 Try.underlying54 rfl (by subst hrow; kernel_rfl)) rfl (Fz.rowX (hz9) HG.out (HBw5.out) (hx9) row hrow))
        | false =>
          have HI := Lib.hid (pis_no wr g fin d lr [41] HA.out.pb hs41)
          have HS41 := Lib.hid hs41
          clear hs41
          have hxb := HA.out.xb
          obtain ⟨nA, hnA⟩ : ∃ nA, nA = acc.length := ⟨_, rfl⟩
          have e5 : wr.cell? ⟨b5, 5, none⟩ = some (.slice ar nA cr) := by rw [hnA]; exact hxb.cell 5
          have h8 : (nA : Int) ≤ 8 := by have := HA.out.few; omega
          have HNA := Lib.hid hnA
          clear hxb hnA
          go_upto_if 71 with (first | (go_at_call_of 21 (Value.string ⟨#[41]⟩); refine (HI.out).mono ?_; rintro e w' ⟨rfl, rfl⟩))
          go_cut [] from 65 to 88 (fun wx => ∃ l2, Hid (ArgS w g fin d n b5 (t :: l).length nm R lr.length wx m acc l2 ar cr))
          case first =>
            by_cases ha : acc = []
            · obtain rfl : nA = 0 := by rw [HNA.out, ha]; rfl
              have HX9 : Hid (ArgS w g fin d n b5 (t :: l).length nm R lr.length wr m acc lr ar cr) := HA.out.sep HG.out HS41.out (Chg.of_below (Below.refl _ _)) HA.out.pb (Nat.le_refl _) (if_pos ha)
              clear ha
              go_wp2_with (fail)
              go_meet
              case rel => exact ⟨lr, HX9.out⟩
            · have hn0 : 0 < nA := by rw [HNA.out]; exact List.length_pos_iff.2 ha
              have q1 : decide ((nA : Int) > 0) = true := decide_eq_true (by omega)
              have HN := Lib.hid (pneed_ok wr g fin d lr [44] HA.out.pb)
              have HAC := Lib.hid ha
              have HRE : Hid (∀ z, Ps.need fin [44] lr = .error z → R = .error z) := fun z hz => by
                rw [HA.out.is]
                show Ps.seq (Ps.argsS (Ps.at' fin m) fin d acc lr) _ = _
                unfold Ps.argsS
                rw [HS41.out, if_neg (by decide), if_neg ha, hz]; rfl
              obtain ⟨rn, hrn⟩ : ∃ rn, rn = Ps.need fin [44] lr := ⟨_, rfl⟩
              have HNL : Hid (∀ x l', rn = .ok (x, l') → l'.length ≤ lr.length ∧ (if acc = [] then (.ok ((), lr) : Ps.Res Unit) else Ps.need fin [44] lr) = .ok ((), l')) := fun x l' hz => ⟨Nat.le_of_lt (Ps.need_lt (hrn ▸ hz)), by rw [if_neg ha]; exact hrn ▸ hz⟩
              rw [← hrn] at HN HRE
              clear ha hrn
              go_wp2_with (first | (go_at_call_of 44 (Value.string ⟨#[44]⟩); refine (HN.out).mono ?_; rintro e w6 ⟨hc6, hp6, hr6⟩; have HCw6 := Lib.hid hc6; have HPw6 := Lib.hid hp6; clear hc6 hp6; rcases rn with z | ⟨y0, l4⟩; (obtain rfl := hr6); rotate_left; (obtain ⟨rfl, hpb⟩ := hr6; have HPN := Lib.hid hpb; clear hpb); rotate_left))
              · obtain rfl : R = .error z := HRE.out z rfl
                exact ⟨rfl, HA.out.fz.chg.trans HCw6.out, HPw6.out, rfl⟩
              · go_meet
                case rel => exact ⟨l4, HA.out.sep HG.out HS41.out HCw6.out HPN.out (HNL.out _ _ rfl).1 (HNL.out _ _ rfl).2⟩
          case rest =>
            obtain ⟨wa, hwa⟩ : ∃ wa, wa = wc := ⟨_, rfl⟩
            rw [← hwa] at hcut ⊢
            clear hwa e5
            obtain ⟨l3, HS⟩ := hcut
            have e5 : wa.cell? ⟨b5, 5, none⟩ = some (.slice ar nA cr) := by rw [HNA.out]; exact HS.out.xb.cell 5
            by_cases hn8 : nA = 8
            · obtain rfl : R = .error (5, Ps.pos fin l3) := by rw [HS.out.is, if_pos (HNA.out ▸ hn8)]
              have q8 : ((nA : Int) == 8) = true := by simp [hn8]
              have HAT := Lib.hid (pat_ok wa g fin d l3 HS.out.pb)
              clear hn8
              go_wp2_with (first | (go_at_call 19; refine HAT.out.mono ?_; rintro e w' ⟨rfl, rfl⟩) | (go_at_call 22; refine (pfail_ok _ _ _ _).mono ?_; rintro e w' ⟨rfl, rfl⟩))
              exact ⟨rfl, HS.out.fz.chg, HS.out.pb.par, rfl⟩
            have q8 : ((nA : Int) == 8) = false := by simp; omega
            have HN8 : Hid (¬ acc.length = 8) := fun h => hn8 (HNA.out.trans h)
            clear hn8
            go_upto_region 20 with (fail)
            clear e5 q8
            have HGA : Hid (g < wa.heap.size) := by have h1 := HS.out.fz.lt; have h2 := HG.out; show g < _; omega
            have HXI : Hid (∀ wi, Chg g wa wi → Blk wi b5 54 #[.int .i64 4, .int .u64 0, .int .i64 0, .bool false, .string ⟨nm.toArray⟩, .slice ar nA cr]) := fun wi hc => by
              rw [HNA.out]
              exact (hc.block b5 HS.out.xb.lt (fun e => by injection e with e; have := HG5.out.1; omega)).trans HS.out.xb
            have HE : Hid (∀ w1, Pb w1 g fin d l3 → Calls Try.prog 46 #[P g] w1 (PxR g fin d w1 ((Ps.at' fin m).expr d l3))) := fun w1 hp => HEX.out m w1 l3 HS.out.le HS.out.lt HS.out.fuel hp
            have HR9 : Hid (R = Ps.seq ((Ps.at' fin m).expr d l3) fun x l => Ps.seq ((Ps.at' fin m).args d (acc ++ [x]) l) fun ks l => .ok (Ps.xn 4 nm ks, l)) := by show R = _; rw [HS.out.is, if_neg HN8.out]
            obtain ⟨r, hr⟩ : ∃ r, r = (Ps.at' fin m).expr d l3 := ⟨_, rfl⟩
            have HRE := Lib.hid hr
            rw [← hr] at HE HR9
            clear hr
            cases r with
            | error z =>
              have HRZ : Hid (R = .error z) := HR9.out
              apply Iy.wp_region 5 [3] (fun n => []) (Ix.Rb) (fun mm vs wi => Hid (Chg g wa wi) ∧ (match mm with | 0 => Pb wi g fin d l3 | _ + 1 => True)) (Ix.vk [(Ix.kis _), (Ix.kis (.slice ar nA cr)), (Ix.kis _), (Ix.ksat (fun _ => False)), (Ix.ksat (fun _ => False))]) (fun _ => false) (by kernel_rfl) (by kernel_rfl) (by kernel_rfl) (by kernel_rfl) (by kernel_rfl) (fun n vs vs' w hk h => h) (fun _ => Below.refl _ _) (fun n vs _ _ h hb => ⟨h.1.out.trans (Chg.of_below hb), by cases n with | zero => exact h.2.keep hb | succ n => trivial⟩) (Ix.vk_keeps _) (Ix.not_al _) (fun vs => ⟨Chg.of_below (Ext.drew (Below.refl _ _)), HS.out.pb.keep (Ext.drew (Below.refl _ _))⟩)
              case step =>
                refine zys 4 0 1 [] (fun _ _ wi HB => ?_) <| zys 3 1 2 [(0, some 82)] (fun _ _ wi HB => ?_) <| zys 2 2 3 [] (fun _ _ wi HB => ?_) <| zyc 1 3 4 0 [(2, some 84)] (fun vsp wi HB => ?_) <| zys 0 4 5 [(3, some 85)] (fun _ _ wi HB => ?_) <| Iy.steps_nil
                (· ((repeat (refine zya ?_; rintro _ rfl)); refine zye ?_; (try simp only [zyp]); refine Iy.goI_yes rfl rfl fun K hK => ?_; (try simp only [zyp] at hK); go_wp2_with (first | fail); exact hK _ _ (Below.refl _ _) rfl))
                (· (obtain ⟨HM, _⟩ := HB; have hz := HXI.out _ HM.out; have e5 := hz.cell 5; (repeat (refine zya ?_; rintro _ rfl)); refine zye ?_; (try simp only [zyp]); refine Iy.goI_yes rfl rfl fun K hK => ?_; (try simp only [zyp] at hK); go_wp2_with (first | fail); exact hK _ _ (Below.refl _ _) rfl))
                (· ((repeat (refine zya ?_; rintro _ rfl)); refine zye ?_; (try simp only [zyp]); refine Iy.goI_yes rfl rfl fun K hK => ?_; (try simp only [zyp] at hK); go_wp2_with (first | fail); exact hK _ _ (Below.refl _ _) rfl))
                (· (obtain ⟨HM, hpb⟩ := HB; refine zya ?_; rintro _ ⟨rfl, ev2⟩; refine zye ?_; (try simp only [zyp]); refine Iy.goI_yes rfl rfl fun K hK => ?_; (try simp only [zyp] at hK); go_wp2_with (first | (go_at_call 46; refine (HE.out _ hpb).mono ?_; rintro e wb ⟨hca, hpa, rfl⟩)); refine Ix.onlyP fun tz => ?_; go_wp2_with (fail); have e9 := HRZ.out; subst e9; exact ⟨rfl, (HS.out.fz.chg.trans HM.out).trans hca, hpa, rfl⟩))
                (· (obtain ⟨HM, _⟩ := HB; have hz := HXI.out _ HM.out; have e5 := hz.cell 5; refine zya ?_; rintro _ hf3; refine zye ?_; (try simp only [zyp]); refine Iy.goI_yes rfl rfl fun K hK => ?_; (try simp only [zyp] at hK); exact hf3.elim; skip))
              intro vsf wf HF hdf
              refine zyv 4 0 1 ?_; rintro _ _ rfl; refine zyv 3 1 2 ?_; rintro _ _ rfl; refine zyv 2 2 3 ?_; rintro _ _ rfl; refine zyv 1 3 4 ?_; rintro _ _ hf3; refine zyv 0 4 5 ?_; rintro _ _ hf4
              refine Ix.allV_nil ?_
              (try simp only [Act.put, List.setIfInBounds_toArray, List.set_cons_zero, List.set_cons_succ, List.drop_succ_cons, List.drop_zero])
              go_wp2_with (first | fail)
              all_goals (first | refine Ix.only ?_ | (refine Ix.onlyP fun tz => ?_))
              all_goals exact hf3.elim
            | ok pf =>
              obtain ⟨y, l4⟩ := pf
              have HLE4 : Hid (l4.length < l3.length) := (Ps.less_at fin m).expr HRE.out.symm
              apply Iy.wp_region 5 [3] (fun n => []) (Ix.Rb) (fun mm vs wi => Hid (Chg g wa wi) ∧ (match mm with | 0 => Pb wi g fin d l3 | _ + 1 => Pb wi g fin d l4)) (Ix.vk [(Ix.kis _), (Ix.kis (.slice ar nA cr)), (Ix.kis _), (Ix.kwld (fun v w' => ∃ ya yc, v = Value.agg #[.int .i64 y.kind, .int .u64 y.num, .int .i64 y.bits, .bool y.sg, .string y.name, .slice ya y.kids.length yc] ∧ XIn w' (fun k => wa.heap.size ≤ k) y (X.cells y.kind y.num y.bits y.sg y.name (.slice ya y.kids.length yc))) (fun v w1 w2 h hb => by obtain ⟨ya, yc, e, hi⟩ := h; exact ⟨ya, yc, e, hi.keep hb⟩)), (Ix.kwld (fun v w' => ∃ t ya yc, v = Value.slice (some ⟨t, 0, none⟩) 1 1 ∧ wa.heap.size ≤ t ∧ Blk w' t 54 #[.int .i64 y.kind, .int .u64 y.num, .int .i64 y.bits, .bool y.sg, .string y.name, .slice ya y.kids.length yc] ∧ XIn w' (fun k => wa.heap.size ≤ k) y (X.cells y.kind y.num y.bits y.sg y.name (.slice ya y.kids.length yc))) (fun v w1 w2 h hb => by obtain ⟨t, ya, yc, e, hl, hi, hx⟩ := h; exact ⟨t, ya, yc, e, hl, hi.keep hb, hx.keep hb⟩))]) (fun _ => false) (by kernel_rfl) (by kernel_rfl) (by kernel_rfl) (by kernel_rfl) (by kernel_rfl) (fun n vs vs' w hk h => h) (fun _ => Below.refl _ _) (fun n vs _ _ h hb => ⟨h.1.out.trans (Chg.of_below hb), by cases n with | zero => exact h.2.keep hb | succ n => exact h.2.keep hb⟩) (Ix.vk_keeps _) (Ix.not_al _) (fun vs => ⟨Chg.of_below (Ext.drew (Below.refl _ _)), HS.out.pb.keep (Ext.drew (Below.refl _ _))⟩)
              case step =>
                refine zys 4 0 1 [] (fun _ _ wi HB => ?_) <| zys 3 1 2 [(0, some 82)] (fun _ _ wi HB => ?_) <| zys 2 2 3 [] (fun _ _ wi HB => ?_) <| zyc 1 3 4 0 [(2, some 84)] (fun vsp wi HB => ?_) <| zys 0 4 5 [(3, some 85)] (fun _ _ wi HB => ?_) <| Iy.steps_nil
                (· ((repeat (refine zya ?_; rintro _ rfl)); refine zye ?_; (try simp only [zyp]); refine Iy.goI_yes rfl rfl fun K hK => ?_; (try simp only [zyp] at hK); go_wp2_with (first | fail); exact hK _ _ (Below.refl _ _) rfl))
                (· (obtain ⟨HM, _⟩ := HB; have hz := HXI.out _ HM.out; have e5 := hz.cell 5; (repeat (refine zya ?_; rintro _ rfl)); refine zye ?_; (try simp only [zyp]); refine Iy.goI_yes rfl rfl fun K hK => ?_; (try simp only [zyp] at hK); go_wp2_with (first | fail); exact hK _ _ (Below.refl _ _) rfl))
                (· ((repeat (refine zya ?_; rintro _ rfl)); refine zye ?_; (try simp only [zyp]); refine Iy.goI_yes rfl rfl fun K hK => ?_; (try simp only [zyp] at hK); go_wp2_with (first | fail); exact hK _ _ (Below.refl _ _) rfl))
                (· (obtain ⟨HM, hpb⟩ := HB; refine zya ?_; rintro _ ⟨rfl, ev2⟩; refine zye ?_; (try simp only [zyp]); refine Iy.goI_yes rfl rfl fun K hK => ?_; (try simp only [zyp] at hK); go_wp2_with (first | (go_at_call 46; refine (HE.out _ hpb).mono ?_; rintro e wb ⟨hca, hpa, cs, rfl, hin, hpb2⟩; obtain ⟨ya, yc, rfl⟩ := Pw.form hin)); exact hK _ _ ⟨⟨HM.out.trans hca, hpb2⟩, Iy.vk_turn (by repeat (first | exact True.intro | refine And.intro (fun _ h => h) ?_ | refine And.intro (fun hne => absurd rfl hne) ?_ | refine And.intro (fun _ h => (by obtain ⟨t9, y9, c9, e9, h9⟩ := h; exact ⟨t9, y9, c9, e9, bin_far HGA.out hca h9⟩)) ?_))⟩ ⟨ya, yc, rfl, hin.move fun k hk hl => ⟨Nat.le_trans HM.out.size hk, rfl⟩⟩))
                (· (obtain ⟨HM, _⟩ := HB; have hz := HXI.out _ HM.out; have e5 := hz.cell 5; refine zya ?_; rintro _ ⟨ya, yc, rfl, hyi⟩; refine zye ?_; (try simp only [zyp]); refine Iy.goI_yes rfl rfl fun K hK => ?_; (try simp only [zyp] at hK); go_wp2_with (first | fail); exact hK _ _ (Ext.alloc (Below.refl _ _) _) ⟨_, ya, yc, rfl, HM.out.size, Blk.new _ _ _, hyi.keep (Ext.alloc (Below.refl _ _) _)⟩))
              intro vsf wf HF hdf
              refine zyv 4 0 1 ?_; rintro _ _ rfl; refine zyv 3 1 2 ?_; rintro _ _ rfl; refine zyv 2 2 3 ?_; rintro _ _ rfl; refine zyv 1 3 4 ?_; rintro _ _ ⟨ya, yc, rfl, hyi⟩; refine zyv 0 4 5 ?_; rintro _ _ ⟨tf, yaf, ycf, rfl, htlf, htbf, hyif⟩
              refine Ix.allV_nil ?_
              obtain ⟨HMF, hpbf⟩ := HF; have hxbf := HXI.out _ HMF.out; obtain ⟨csf, hof, hkf⟩ := HS.out.own.chg layX (show g < b5 + 1 by have := HG5.out.1; omega) HMF.out; have hofn : wf.ownsRow (b5 + 1) 54 6 (.slice ar nA cr) nA (flat csf acc.length) := (by rw [HNA.out]; exact hof)
              (try simp only [Act.put, List.setIfInBounds_toArray, List.set_cons_zero, List.set_cons_succ, List.drop_succ_cons, List.drop_zero])
              go_wp2_with (first | (refine wpList_app_row rfl _ _ 39 54 6 72 (.agg Pw.zX) rfl Try.underlying39 (by kernel_rfl) rfl (by decide) (by decide) (b5 + 1) (.slice ar nA cr) nA (flat csf acc.length) tf (X.cells y.kind y.num y.bits y.sg y.name (.slice yaf y.kids.length ycf)) rfl rfl hofn rfl (xcell htbf) hyif.ones (by omega) (by have := hxbf.lt; omega) ?_; intro a9 c9 w9 ho9 hg9 hat9; have hx9 : Blk w9 b5 54 _ := (hg9.block b5 hxbf.lt (fun e => by have := (own_lowR hofn b5 e.symm).1; omega)).trans hxbf; have e5 := hx9.cell 5; have f5 := hx9.frozen 5; clear hx9))
              all_goals (first | refine Ix.only ?_ | (refine Ix.onlyP fun tz => ?_))
              have HNX : Hid (ArgL w g fin d n b5 (t :: l).length nm R (w9.setCell ⟨b5, 5, none⟩ (.slice a9 (nA + 1) c9)) m (acc ++ [y]) l4 a9 c9 ∧ tkL (w9.setCell ⟨b5, 5, none⟩ (.slice a9 (nA + 1) c9)) g = l4.length) := by
                have e9 := HNA.out
                subst e9
                exact HS.out.next HG.out HN8.out HRE.out.symm HLE4.out HMF.out hpbf hof hkf hyif ho9 hg9 hat9
              have HM9 : Hid (tkL (w9.setCell ⟨b5, 5, none⟩ (.slice a9 (nA + 1) c9)) g < tkL wr g) := by
                show tkL _ g < tkL wr g
                rw [HNX.out.2, HA.out.pb.tkL]
                have h1 := HLE4.out; have h2 := HS.out.l0; omega
              clear hxbf hof hkf hofn htbf hyif ho9 hg9 hat9 e5 f5 hpbf HMF HR9 HE HXI h8
              go_wp2_with (fail)
              go_round
              case rel => exact ⟨m, acc ++ [y], l4, a9, c9, HNX.out.1⟩
              case measure => exact HM9.out
end Go.Proofs.Ytfkndjifhmkojaa
