/- Walk of parser.setOr. No condition. -/
import Derived.Test.YtfkndjifhmkojaaPt2
import Derived.Test.YtfkndjifhmkojaaPF
import Derived.Test.YtfkndjifhmkojaaXT
import Derived.LoopTactic
import Derived.Deep.Cut
namespace Go.Proofs.Ytfkndjifhmkojaa
open Go.RowKit
set_option linter.unusedVariables false
set_option linter.unusedSimpArgs false
set_option maxRecDepth 100000
abbrev Pw.zS : Array Value := #[.int .i64 0, .int .i64 0, .bool false, .string ⟨#[]⟩, .bool false, .int .i64 0, .int .u64 0, .int .i64 0, .bool false, .string ⟨#[]⟩, .slice none 0 0, .int .i64 0, .int .u64 0, .int .i64 0, .bool false, .string ⟨#[]⟩, .slice none 0 0, .slice none 0 0, .slice none 0 0, .slice none 0 0, .slice none 0 0]
theorem Pw.one21 (k b : Int) (s : Bool) (nm : ByteArray) (h : Bool) (xk xn xb : Int) (xs : Bool) (xnm : ByteArray) (xa : Option Addr) (xl xc : Nat) (ik in' ib : Int) (is : Bool) (inm : ByteArray) (ia : Option Addr) (il ic : Nat) (a0 a1 a2 a3 : Option Addr) (l0 c0 l1 c1 l2 c2 l3 c3 : Nat) :
    (#[.int .i64 k, .int .i64 b, .bool s, .string nm, .bool h, .int .i64 xk, .int .u64 xn, .int .i64 xb, .bool xs, .string xnm, .slice xa xl xc, .int .i64 ik, .int .u64 in', .int .i64 ib, .bool is, .string inm, .slice ia il ic, .slice a0 l0 c0, .slice a1 l1 c1, .slice a2 l2 c2, .slice a3 l3 c3] : Array Value).all (·.oneCell') = true := by simp [Value.oneCell']
/-- What comes of reading a statement. -/
def PsR (g fin d : Nat) (w : World) (r : Ps.Res S) (e : Ending) (w' : World) : Prop := Chg g w w' ∧ ParA w' g ∧ match r with
  | .ok p => ∃ cs, e = .returned (.agg cs.toArray) ∧ SIn w' (fun b => w.heap.size ≤ b) p.1 cs ∧ Pb w' g fin d p.2
  | .error z => e = Oops z.1 z.2
/-- What comes of reading a list of statements. -/
def PlR (g fin d : Nat) (w : World) (r : Ps.Res (List S)) (e : Ending) (w' : World) : Prop := Chg g w w' ∧ ParA w' g ∧ match r with
  | .ok p => ∃ v, e = .returned v ∧ SsIn w' (fun b => w.heap.size ≤ b) p.1 v ∧ Pb w' g fin d p.2
  | .error z => e = Oops z.1 z.2
theorem Pw.formL {w : World} {p : Nat → Prop} {l : List S} {v : Value} (h : SsIn w p l v) : ∃ a c, v = .slice a l.length c := by cases h; exact ⟨_, _, rfl⟩
theorem Pw.formS {w : World} {p : Nat → Prop} {x : S} {cs : List Value} (h : SIn w p x cs) : ∃ xa xc ia ic a0 c0 a1 c1 a2 c2 a3 c3, cs = [.int .i64 x.kind, .int .i64 x.bits, .bool x.sg, .string x.name, .bool x.has, .int .i64 x.xx.kind, .int .u64 x.xx.num, .int .i64 x.xx.bits, .bool x.xx.sg, .string x.xx.name, .slice xa x.xx.kids.length xc, .int .i64 x.ii.kind, .int .u64 x.ii.num, .int .i64 x.ii.bits, .bool x.ii.sg, .string x.ii.name, .slice ia x.ii.kids.length ic, .slice a0 x.ini.length c0, .slice a1 x.step.length c1, .slice a2 x.body.length c2, .slice a3 x.els.length c3] ∧ SsIn w p x.body (.slice a2 x.body.length c2) := by
  obtain ⟨xs, is, v0, v1, v2, v3, rfl, hx, hi, h0, h1, h2, h3⟩ := h.parts
  obtain ⟨xa, xc, rfl⟩ := Pw.form hx
  obtain ⟨ia, ic, rfl⟩ := Pw.form hi
  obtain ⟨a0, c0, rfl⟩ := Pw.formL h0
  obtain ⟨a1, c1, rfl⟩ := Pw.formL h1
  obtain ⟨a2, c2, rfl⟩ := Pw.formL h2
  obtain ⟨a3, c3, rfl⟩ := Pw.formL h3
  exact ⟨xa, xc, ia, ic, a0, c0, a1, c1, a2, c2, a3, c3, rfl, h2⟩
theorem xz_in (w : World) (p : Nat → Prop) : XIn w p Ps.xz [.int .i64 0, .int .u64 0, .int .i64 0, .bool false, .string ⟨#[]⟩, .slice none 0 0] := .mk 0 0 0 false ⟨#[]⟩ [] none 0 (fun _ => []) (Nat.le_refl _) (Nat.zero_le _) (fun i z hz => by simp at hz) (fun h => absurd h (Nat.lt_irrefl _))
theorem sz_in (w : World) (p : Nat → Prop) : SsIn w p [] (.slice none 0 0) := .mk [] none 0 (fun _ => []) (Nat.le_refl _) (Nat.zero_le _) (fun i z hz => by simp at hz) (fun h => absurd h (Nat.lt_irrefl _))
section
variable {α : Type} {z : Nat} {L : World → (Nat → Prop) → α → List Value → Prop} {w W : World} {g fin d : Nat} {t : TypeId} {zc : Array Value} {l : List Tk.Tok} {y : α} {cs : List Value}
theorem Fz.rowL (hL : Lay z L) (h : Fz w g t zc W) (hg : g < w.heap.size) (hp : Pb W g fin d l) (hx : L W (fun k => w.heap.size < k) y cs) (row : Array Value) (hrow : row = cs.toArray) :
    Chg g w (W.setRow w.heap.size row) ∧ ParA (W.setRow w.heap.size row) g ∧ ∃ cs', Ending.returned (.agg row) = .returned (.agg cs'.toArray) ∧ L (W.setRow w.heap.size row) (fun k => w.heap.size ≤ k) y cs' ∧ Pb (W.setRow w.heap.size row) g fin d l := by
  obtain ⟨h1, h2, h3, h4⟩ := h.rw hg hp row
  exact ⟨h1, h2.par, cs, by rw [hrow], hL.move hx fun k hk hl => ⟨Nat.le_of_lt hk, h4 k (by omega)⟩, h2⟩
/-- The same, one level up behind it. -/
theorem Fz.upL {b : Nat} (hL : Lay z L) (h : Fz w g t zc W) (hg : g < w.heap.size) (hd : d ≤ 400) (hp : Pb W g fin (d + 1) l) (hx : L W (fun k => w.heap.size < k) y cs) (row : Array Value) (hrow : row = cs.toArray) (hne : b ≠ g) (hle : w.heap.size < b) (hcb : W.cell? ⟨b, 0, none⟩ = some (P g)) :
    ∃ v, Blk (W.setRow w.heap.size row) g 64 #[v, .int .i64 (fin : Int), .int .i64 ((d : Int) + 1)] ∧ (W.setRow w.heap.size row).cell? ⟨b, 0, none⟩ = some (P g) ∧
    Blk ((W.setRow w.heap.size row).setCell ⟨g, 2, none⟩ (.int .i64 (wrap64 ((d : Int) + 1 - 1)))) w.heap.size t row ∧
    (Chg g w ((W.setRow w.heap.size row).setCell ⟨g, 2, none⟩ (.int .i64 (wrap64 ((d : Int) + 1 - 1)))) ∧ ParA ((W.setRow w.heap.size row).setCell ⟨g, 2, none⟩ (.int .i64 (wrap64 ((d : Int) + 1 - 1)))) g ∧ ∃ cs', Ending.returned (.agg row) = .returned (.agg cs'.toArray) ∧ L ((W.setRow w.heap.size row).setCell ⟨g, 2, none⟩ (.int .i64 (wrap64 ((d : Int) + 1 - 1)))) (fun k => w.heap.size ≤ k) y cs' ∧ Pb ((W.setRow w.heap.size row).setCell ⟨g, 2, none⟩ (.int .i64 (wrap64 ((d : Int) + 1 - 1)))) g fin d l) := by
  obtain ⟨h1, h2, h3, h4⟩ := h.rw hg hp row
  obtain ⟨v, hbk, hup⟩ := h2.up hd
  have hx2 : L (W.setRow w.heap.size row) (fun k => w.heap.size ≤ k) y cs := hL.move hx fun k hk hl => ⟨Nat.le_of_lt hk, h4 k (by omega)⟩
  have hx3 : L ((W.setRow w.heap.size row).setCell ⟨g, 2, none⟩ (.int .i64 (wrap64 ((d : Int) + 1 - 1)))) (fun k => w.heap.size ≤ k) y cs := hL.move hx2 fun k hk hl => ⟨hk, ((Chg.of_below (Below.refl _ _) : Chg g (W.setRow w.heap.size row) (W.setRow w.heap.size row)).setCell 2 _).block k hl (fun e => by injection e with e; have hk : w.heap.size ≤ k := hk; omega)⟩
  exact ⟨v, hbk, (World.cell?_of_block (w := W) (h4 b (by omega))).trans hcb, h3.far (p := ⟨g, 2, none⟩) (by exact fun e => by have e : w.heap.size = g := e; omega) _, h1.setCell 2 _, hup.par, cs, by rw [hrow], hx3, hup⟩
end
/-- Blocks above a place but one are as they were. -/
structure Thr (lo sb : Nat) (W W' : World) : Prop where
  size : W.heap.size ≤ W'.heap.size
  block : ∀ k, lo < k → k ≠ sb → k < W.heap.size → W'.heap[k]? = W.heap[k]?
section
variable {lo sb g : Nat} {W W1 W2 : World}
theorem Thr.trans (h : Thr lo sb W W1) (k : Thr lo sb W1 W2) : Thr lo sb W W2 :=
  ⟨Nat.le_trans h.size k.size, fun i h1 h2 h3 => (k.block i h1 h2 (Nat.lt_of_lt_of_le h3 h.size)).trans (h.block i h1 h2 h3)⟩
theorem Chg.thr (h : Chg g W W1) (hg : g ≤ lo) : Thr lo sb W W1 := ⟨h.size, fun k h1 h2 h3 => h.block k h3 (fun e => by injection e with e; omega)⟩
theorem Below.thr (h : Below W.heap.size W W1) : Thr lo sb W W1 := ⟨h.size, fun k h1 h2 h3 => h.block k h3⟩
theorem Thr.set (k : Nat) (u : Value) : Thr lo sb W (W.setCell ⟨sb, k, none⟩ u) := ⟨by simp, fun i h1 h2 h3 => Below.heap_setCell W ⟨sb, k, none⟩ u i h2⟩
theorem Thr.row (cs : Array Value) : Thr lo sb W (W.setRow sb cs) := ⟨by simp [World.setRow], fun i h1 h2 h3 => setRow_other W sb i cs h2⟩
theorem XIn.thr {x : X} {cs : List Value} {N : Nat} (h : XIn W (fun k => N ≤ k) x cs) (hN : sb < N) (hl : lo < N) (t : Thr lo sb W W1) : XIn W1 (fun k => lo < k) x cs := h.move fun k hk hs => ⟨Nat.lt_of_lt_of_le hl hk, t.block k (Nat.lt_of_lt_of_le hl hk) (by have hk : N ≤ k := hk; omega) hs⟩
theorem SsIn.thr {x : List S} {v : Value} {N : Nat} (h : SsIn W (fun k => N ≤ k) x v) (hN : sb < N) (hl : lo < N) (t : Thr lo sb W W1) : SsIn W1 (fun k => lo < k) x v := h.move fun k hk hs => ⟨Nat.lt_of_lt_of_le hl hk, t.block k (Nat.lt_of_lt_of_le hl hk) (by have hk : N ≤ k := hk; omega) hs⟩
end
/-- A local struct's block beside the result's. -/
structure Sb (w : World) (g fin d sb : Nat) (cs : Array Value) (l : List Tk.Tok) (W : World) : Prop where
  fz : Fz w g 56 Pw.zS W
  lt : w.heap.size < sb
  sb : Blk W sb 56 cs
  pb : Pb W g fin d l
section
variable {w W W1 : World} {g fin d s9 : Nat} {cs : Array Value} {l l1 : List Tk.Tok}
theorem Sb.chg (h : Sb w g fin d s9 cs l W) (hg : g < w.heap.size) (hc : Chg g W W1) (hp : Pb W1 g fin d l1) : Sb w g fin d s9 cs l1 W1 :=
  ⟨h.fz.step hg hc, h.lt, (hc.block s9 h.sb.lt (fun e => by injection e with e; have := h.lt; omega)).trans h.sb, hp⟩
theorem Sb.keep (h : Sb w g fin d s9 cs l W) (hb : Below W.heap.size W W1) : Sb w g fin d s9 cs l W1 := ⟨h.fz.below hb, h.lt, h.sb.keep hb, h.pb.keep hb⟩
theorem Sb.far (h : Sb w g fin d s9 cs l W) (hg : g < w.heap.size) {cs1 : Array Value} (hf : ∀ k, k ≠ s9 → W1.heap[k]? = W.heap[k]?) (hc : Chg g w W1) (hb : Blk W1 s9 56 cs1) : Sb w g fin d s9 cs1 l W1 :=
  ⟨⟨hc, (hf _ (by have := h.lt; omega)).trans h.fz.z⟩, h.lt, hb, h.pb.same fun k hk hl => hf k (by have := h.lt; omega)⟩
theorem Sb.set (h : Sb w g fin d s9 cs l W) (hg : g < w.heap.size) (k : Nat) (u : Value) : Sb w g fin d s9 (cs.setIfInBounds k u) l (W.setCell ⟨s9, k, none⟩ u) :=
  h.far hg (fun i hi => Below.heap_setCell W ⟨s9, k, none⟩ u i hi) (h.fz.chg.setNew (by show w.heap.size ≤ s9; have := h.lt; omega) u) (h.sb.set_ k u)
theorem Sb.row (h : Sb w g fin d s9 cs l W) (hg : g < w.heap.size) (cs1 : Array Value) : Sb w g fin d s9 cs1 l (W.setRow s9 cs1) :=
  h.far hg (fun i hi => setRow_other W s9 i cs1 hi) (Pw.rowC h.fz.chg (by have := h.lt; omega) cs1) (Pw.rowB h.sb cs1)
theorem Sb.new (h : Fz w g 56 Pw.zS W) (hp : Pb W g fin d l) (cs : Array Value) : Sb w g fin d W.heap.size cs l (W.alloc (.cells cs 56)) :=
  ⟨h.below (Ext.alloc (Below.refl _ _) _), h.lt, Blk.new _ _ _, hp.keep (Ext.alloc (Below.refl _ _) _)⟩
end
theorem Fz.row6 {y : X} {ya : Option Addr} {yc : Nat} : (#[.int .i64 y.kind, .int .u64 y.num, .int .i64 y.bits, .bool y.sg, .string y.name, .slice ya y.kids.length yc] : Array Value) = (X.cells y.kind y.num y.bits y.sg y.name (.slice ya y.kids.length yc)).toArray := rfl
theorem XIn.kid1 {w : World} {p : Nat → Prop} {x : X} {a : Option Addr} {c : Nat} (h : XIn w p x (X.cells x.kind x.num x.bits x.sg x.name (.slice a x.kids.length c))) (hl : x.kids.length = 1) :
    ∃ z kb ko za zc, x.kids = [z] ∧ a = some ⟨kb, ko, none⟩ ∧ p kb ∧ XIn w p z (X.cells z.kind z.num z.bits z.sg z.name (.slice za z.kids.length zc)) ∧ ∀ j u, (X.cells z.kind z.num z.bits z.sg z.name (.slice za z.kids.length zc))[j]? = some u → w.cell? ⟨kb, ko + j, none⟩ = some u := by
  generalize hcs : X.cells x.kind x.num x.bits x.sg x.name (.slice a x.kids.length c) = cs at h
  cases h with
  | mk k n b s nm ks a2 c2 cs2 hc hm hk ha =>
    have hl : ks.length = 1 := hl
    obtain ⟨z, rfl⟩ := List.length_eq_one_iff.1 hl
    obtain ⟨g, off, hp, rfl, hcell⟩ := ha (Nat.lt_succ_self 0)
    have hz := hk 0 z rfl
    obtain ⟨za, zc, e⟩ := Pw.form hz
    have e9 := congrArg (fun l : List Value => l[5]?) hcs
    simp only [X.cells, List.getElem?_cons_succ, List.getElem?_cons_zero, Option.some.injEq] at e9
    injection e9 with e9
    refine ⟨z, g, off, za, zc, rfl, e9, hp, e ▸ hz, fun j u hu => ?_⟩
    have := hcell 0 j u (Nat.lt_succ_self 0) (by rw [e]; exact hu)
    simpa using this
set_option maxHeartbeats 8000000 in
theorem pset_ok (w : World) (g fin d : Nat) (l : List Tk.Tok) (h : Pb w g fin d l) (F : Ps.F) (hka : Ps.Hk Ps.Ka (F.expr d l)) (hlt : ∀ x l', F.expr d l = .ok (x, l') → l'.length < l.length)
    (hex : ∀ (w1 : World) (l1 : List Tk.Tok), l1.length ≤ l.length → Pb w1 g fin d l1 → Calls Try.prog 46 #[P g] w1 (PxR g fin d w1 (F.expr d l1))) :
    Calls Try.prog 88 #[P g] w (PsR g fin d w (Ps.setS F fin d l)) := by
  have hgl : g < w.heap.size := by obtain ⟨v, hb, _⟩ := h; exact hb.lt
  have HG := Lib.hid hgl
  obtain ⟨w0, hw0⟩ : ∃ w0, w0 = w.alloc (.cells Pw.zS 56) := ⟨_, rfl⟩
  have HF0 : Hid (Fz w g 56 Pw.zS w0) := by show Fz _ _ _ _ _; rw [hw0]; exact Fz.new ..
  have hp0 : Pb w0 g fin d l := by rw [hw0]; exact h.keep (Ext.alloc (Below.refl _ _) _)
  have HAT := Lib.hid (pat_ok w0 g fin d l hp0)
  have HEX := Lib.hid (hex w0 l (Nat.le_refl _) hp0)
  have HEL := Lib.hid hex
  obtain ⟨R, hR⟩ : ∃ R, R = Ps.setS F fin d l := ⟨_, rfl⟩
  rw [← hR]
  unfold Ps.setS at hR
  obtain ⟨r, hr⟩ : ∃ r, r = F.expr d l := ⟨_, rfl⟩
  rw [← hr] at hR HEX hka hlt
  have HR := Lib.hid hR
  have HKA := Lib.hid hka
  have HLT := Lib.hid hlt
  obtain ⟨at0, hat0⟩ : ∃ at0 : Nat, at0 = Ps.pos fin l := ⟨_, rfl⟩
  rw [← hat0] at HAT
  have HA0 := Lib.hid hat0
  clear h hex hR hr hp0 hgl hka hlt hat0
  go_enter Try.func88, Try.ntmps88
  go_upto_region 1 with (fail)
  rw [← hw0]
  clear hw0
  go_upto_region 3 with (first | (go_at_call 19; refine HAT.out.mono ?_; rintro e w' ⟨rfl, rfl⟩) | (go_at_call 46; refine (HEX.out).mono ?_; rintro e w2 ⟨hc4, hp4, hr4⟩; have HCw2 := Lib.hid hc4; have HPw2 := Lib.hid hp4; clear hc4 hp4; rcases r with z | ⟨y, l2⟩; (obtain rfl := hr4); rotate_left; (obtain ⟨cs, rfl, hin, hpb⟩ := hr4; obtain ⟨ya, yc, rfl⟩ := Pw.form hin; have HIN := Lib.hid hin; have HPB := Lib.hid hpb; clear hin hpb); rotate_left))
  · obtain rfl : R = .error z := HR.out
    exact ⟨rfl, HF0.out.chg.trans HCw2.out, HPw2.out, rfl⟩
  have HF2 : Hid (Fz w g 56 Pw.zS w2) := HF0.out.step HG.out HCw2.out
  generalize hw3 : World.alloc w2 _ = w3
  obtain ⟨b3, hb3⟩ : ∃ b3, b3 = w2.heap.size := ⟨_, rfl⟩
  have HB3 : Hid (Below w2.heap.size w2 w3) := by show Below _ _ _; rw [← hw3]; exact Ext.alloc (Below.refl _ _) _
  have HY3 : Hid (Blk w3 b3 54 #[.int .i64 y.kind, .int .u64 y.num, .int .i64 y.bits, .bool y.sg, .string y.name, .slice ya y.kids.length yc]) := by show Blk _ _ _ _; rw [← hw3, hb3]; exact Blk.new _ _ _
  have HG3 : Hid (g < b3 ∧ w.heap.size < b3 ∧ b3 < w3.heap.size) := by have h1 := HF2.out.lt; have h2 := HG.out; exact ⟨by omega, by omega, HY3.out.lt⟩
  have HF3 : Hid (Fz w g 56 Pw.zS w3) := HF2.out.below HB3.out
  have HX3 : Hid (XIn w3 (fun k => w0.heap.size ≤ k) y (X.cells y.kind y.num y.bits y.sg y.name (.slice ya y.kids.length yc))) := HIN.out.keep HB3.out
  rw [← hb3]
  clear hw3 hb3
  have HP3 := Lib.hid (HPB.out.keep HB3.out)
  cases hs : Ps.sees [61] l2 with
  | false =>
    have HI := Lib.hid (pis_no w3 g fin d l2 [61] HP3.out hs)
    obtain rfl : R = .ok (.mk 4 0 false ⟨#[]⟩ false y Ps.xz [] [] [] [], l2) := by rw [HR.out]; show (if Ps.sees [61] l2 = true then _ else _) = _; rw [if_neg (by rw [hs]; decide)]
    clear hs HR
    go_wp2_with (first | (go_at_call_of 21 (Value.string ⟨#[61]⟩); refine (HI.out).mono ?_; rintro e w' ⟨rfl, rfl⟩) | (refine wpList_load_row rfl 54 _ rfl b3 rfl 54 #[.int .i64 y.kind, .int .u64 y.num, .int .i64 y.bits, .bool y.sg, .string y.name, .slice ya y.kids.length yc] (0, 0) _ HY3.out Try.underlying54 rfl (by kernel_rfl) ?_) | (refine wpList_store_row rfl 56 _ _ rfl w.heap.size #[.int .i64 4, .int .i64 0, .bool false, .string ⟨#[]⟩, .bool false, .int .i64 y.kind, .int .u64 y.num, .int .i64 y.bits, .bool y.sg, .string y.name, .slice ya y.kids.length yc, .int .i64 0, .int .u64 0, .int .i64 0, .bool false, .string ⟨#[]⟩, .slice none 0 0, .slice none 0 0, .slice none 0 0, .slice none 0 0, .slice none 0 0] rfl rfl 56 Pw.zS HF3.out.z (by kernel_rfl) rfl (Pw.one21 _ _ _ _ _ _ _ _ _ _ _ _ _ _ _ _ _ _ _ _ _ _ _ _ _ _ _ _ _ _ _ _ _) ?_))
    (obtain ⟨row, hrow⟩ : ∃ row : Array Value, row = #[.int .i64 4, .int .i64 0, .bool false, .string ⟨#[]⟩, .bool false, .int .i64 y.kind, .int .u64 y.num, .int .i64 y.bits, .bool y.sg, .string y.name, .slice ya y.kids.length yc, .int .i64 0, .int .u64 0, .int .i64 0, .bool false, .string ⟨#[]⟩, .slice none 0 0, .slice none 0 0, .slice none 0 0, .slice none 0 0, .slice none 0 0] := ⟨_, rfl⟩; rw [← hrow])
    have hx : LS w3 (fun k => w.heap.size < k) (.mk 4 0 false ⟨#[]⟩ false y Ps.xz [] [] [] []) (S.cells 4 0 false ⟨#[]⟩ false (X.cells y.kind y.num y.bits y.sg y.name (.slice ya y.kids.length yc)) [.int .i64 0, .int .u64 0, .int .i64 0, .bool false, .string ⟨#[]⟩, .slice none 0 0] (.slice none 0 0) (.slice none 0 0) (.slice none 0 0) (.slice none 0 0)) :=
      .mk _ _ _ _ _ _ _ _ _ _ _ _ _ _ _ _ _ (HX3.out.move fun k hk _ => ⟨Nat.lt_of_lt_of_le HF0.out.lt hk, rfl⟩) (xz_in _ _) (sz_in _ _) (sz_in _ _) (sz_in _ _) (sz_in _ _)
    (exact bodyPost_ret (Pw.res_cell rfl _ _ w.heap.size 56 row (0, 0) _ rfl (Fz.rw (HF3.out) HG.out (HP3.out) row).2.2.1 Try.underlying56 rfl (by subst hrow; kernel_rfl)) rfl (Fz.rowL layS (HF3.out) HG.out (HP3.out) (hx) row hrow))
  | true =>
    have HI := Lib.hid (pis_yes w3 g fin d l2 [61] HP3.out hs)
    have HR1 : Hid (R = if y.kind = 2 ∨ y.kind = 3 then Ps.seq (F.expr d l2.tail) fun y1 l2 => .ok (.mk 3 0 false y.name (y.kind == 3) y1 (if y.kind = 3 then y.kids.headD Ps.xz else Ps.xz) [] [] [] [], l2) else .error (8, Ps.pos fin l)) := by show R = _; rw [HR.out]; show (if Ps.sees [61] l2 = true then _ else _) = _; rw [if_pos hs]
    clear hs HR
    have HYN : Hid (∀ wi, Chg g w3 wi → Blk wi b3 54 #[.int .i64 y.kind, .int .u64 y.num, .int .i64 y.bits, .bool y.sg, .string y.name, .slice ya y.kids.length yc]) := fun wi hc => (hc.block b3 HY3.out.lt (fun e => by injection e with e; have := HG3.out.1; omega)).trans HY3.out
    go_upto_region 5 with (first | (go_at_call_of 21 (Value.string ⟨#[61]⟩); refine (HI.out).mono ?_; rintro e w4 ⟨rfl, hc1, hb1⟩; have HCw4 := Lib.hid hc1; have HBw4 := Lib.hid hb1; clear hc1 hb1))
    have hy4 := HYN.out w4 HCw4.out
    have e0 := hy4.cell 0
    have e3 := hy4.cell 4
    have e5 := hy4.cell 5
    clear hy4
    go_upto_region 6 with (first | (refine wpList_store_row rfl 56 _ _ rfl (w4).heap.size #[.int .i64 3, .int .i64 0, .bool false, .string y.name, .bool false, .int .i64 0, .int .u64 0, .int .i64 0, .bool false, .string ⟨#[]⟩, .slice none 0 0, .int .i64 0, .int .u64 0, .int .i64 0, .bool false, .string ⟨#[]⟩, .slice none 0 0, .slice none 0 0, .slice none 0 0, .slice none 0 0, .slice none 0 0] rfl rfl 56 Pw.zS (Blk.new _ _ _) (by kernel_rfl) rfl (Pw.one21 _ _ _ _ _ _ _ _ _ _ _ _ _ _ _ _ _ _ _ _ _ _ _ _ _ _ _ _ _ _ _ _ _) ?_))
    obtain ⟨sb, hsb⟩ : ∃ sb, sb = w4.heap.size := ⟨_, rfl⟩
    rw [← hsb]
    generalize hw5 : World.setRow _ _ _ = w5
    have HS5 : Hid (Sb w g fin d sb #[.int .i64 3, .int .i64 0, .bool false, .string y.name, .bool false, .int .i64 0, .int .u64 0, .int .i64 0, .bool false, .string ⟨#[]⟩, .slice none 0 0, .int .i64 0, .int .u64 0, .int .i64 0, .bool false, .string ⟨#[]⟩, .slice none 0 0, .slice none 0 0, .slice none 0 0, .slice none 0 0, .slice none 0 0] l2.tail w5) := by
      have h1 := Sb.new (HF3.out.step HG.out HCw4.out) HBw4.out Pw.zS
      rw [← hw5, hsb]
      exact h1.row HG.out _
    have HT5 : Hid (Thr w.heap.size sb w3 w5) := by
      show Thr _ _ _ _
      rw [← hw5, hsb]
      exact ((HCw4.out.thr (by have := HG.out; omega)).trans (Below.thr (Ext.alloc (Below.refl _ _) _))).trans (Thr.row _)
    have HSN : Hid (b3 < sb) := by rw [hsb]; exact Nat.lt_of_lt_of_le HG3.out.2.2 HCw4.out.size
    have HX5 : Hid (XIn w5 (fun k => w.heap.size < k ∧ k ≠ sb) y (X.cells y.kind y.num y.bits y.sg y.name (.slice ya y.kids.length yc))) := HX3.out.move fun k hk hl => ⟨⟨Nat.lt_of_lt_of_le HF0.out.lt hk, by have := HG3.out; have h1 := HCw4.out.size; omega⟩, HT5.out.block k (Nat.lt_of_lt_of_le HF0.out.lt hk) (by have := HG3.out; have h1 := HCw4.out.size; omega) hl⟩
    have HYW : Hid (∀ wi, Thr w.heap.size sb w5 wi → Blk wi b3 54 #[.int .i64 y.kind, .int .u64 y.num, .int .i64 y.bits, .bool y.sg, .string y.name, .slice ya y.kids.length yc]) := fun wi ht => ((HT5.out.trans ht).block b3 HG3.out.2.1 (by have := HSN.out; omega) HY3.out.lt).trans HY3.out
    clear hw5 e0 e3 e5 hsb HYN
    have e0 := (HYW.out w5 ⟨Nat.le_refl _, fun _ _ _ _ => rfl⟩).cell 0
    have HLL : Hid (l2.tail.length ≤ l.length) := by have h1 := HLT.out _ _ rfl; have h2 : l2.tail.length ≤ l2.length := (by simp); exact Nat.le_trans h2 (Nat.le_of_lt h1)
    by_cases hk2 : y.kind = 2
    · have q2 : (y.kind == 2) = true := by simpa using hk2
      have HR6 : Hid (R = Ps.seq (F.expr d l2.tail) fun y1 l2 => .ok (.mk 3 0 false y.name false y1 Ps.xz [] [] [] [], l2)) := by show R = _; rw [HR1.out, if_pos (.inl hk2), hk2]; rfl
      clear hk2 HR1
      go_upto_region 11 with (fail)
      obtain ⟨w6, hw6⟩ : ∃ w6, w6 = w5 := ⟨_, rfl⟩
      rw [← hw6]
      have HS6 : Hid (Sb w g fin d sb #[.int .i64 3, .int .i64 0, .bool false, .string y.name, .bool false, .int .i64 0, .int .u64 0, .int .i64 0, .bool false, .string ⟨#[]⟩, .slice none 0 0, .int .i64 0, .int .u64 0, .int .i64 0, .bool false, .string ⟨#[]⟩, .slice none 0 0, .slice none 0 0, .slice none 0 0, .slice none 0 0, .slice none 0 0] l2.tail w6) := by rw [hw6]; exact HS5.out
      clear hw6 e0 q2
      (obtain ⟨r2, hr2⟩ : ∃ r2, r2 = F.expr d l2.tail := ⟨_, rfl⟩; have HE6 := Lib.hid (HEL.out w6 l2.tail (HLL.out) HS6.out.pb); rw [← hr2] at HE6 HR6; clear hr2; go_upto_region 12 with (first | (go_at_call 46; refine (HE6.out).mono ?_; rintro e w7 ⟨hc4, hp4, hr4⟩; have HC7 := Lib.hid hc4; have HP7 := Lib.hid hp4; clear hc4 hp4; rcases r2 with z9 | ⟨y1, l3⟩; (obtain rfl := hr4); rotate_left; (obtain ⟨cs, rfl, hin, hpb⟩ := hr4; obtain ⟨ya1, yc1, rfl⟩ := Pw.form hin; have HIN7 := Lib.hid hin; have HS7 := Lib.hid (HS6.out.chg HG.out HC7.out hpb); clear hin hpb); rotate_left) | (refine wpList_store_sub rfl 54 _ _ rfl sb 5 [.int .i64 y1.kind, .int .u64 y1.num, .int .i64 y1.bits, .bool y1.sg, .string y1.name, .slice ya1 y1.kids.length yc1] rfl rfl 56 _ #[.int .i64 3, .int .i64 0, .bool false, .string y.name, .bool false, .int .i64 y1.kind, .int .u64 y1.num, .int .i64 y1.bits, .bool y1.sg, .string y1.name, .slice ya1 y1.kids.length yc1, .int .i64 0, .int .u64 0, .int .i64 0, .bool false, .string ⟨#[]⟩, .slice none 0 0, .slice none 0 0, .slice none 0 0, .slice none 0 0, .slice none 0 0] HS7.out.sb (by kernel_rfl) (show 5 + 6 ≤ 21 by decide) HIN7.out.ones rfl ?_)))
      · obtain rfl : R = .error z9 := HR6.out
        exact ⟨rfl, HS6.out.fz.chg.trans HC7.out, HP7.out, rfl⟩
      · obtain rfl : R = .ok (.mk 3 0 false y.name false y1 Ps.xz [] [] [] [], l3) := HR6.out
        (generalize hw8 : World.setRow w7 _ _ = w8; have HS8 : Hid (Sb w g fin d sb #[.int .i64 3, .int .i64 0, .bool false, .string y.name, .bool false, .int .i64 y1.kind, .int .u64 y1.num, .int .i64 y1.bits, .bool y1.sg, .string y1.name, .slice ya1 y1.kids.length yc1, .int .i64 0, .int .u64 0, .int .i64 0, .bool false, .string ⟨#[]⟩, .slice none 0 0, .slice none 0 0, .slice none 0 0, .slice none 0 0, .slice none 0 0] l3 w8) := (by show Sb _ _ _ _ _ _ _ _; rw [← hw8]; exact HS7.out.row HG.out _); have HT8 : Hid (Thr w.heap.size sb w7 w8) := (by show Thr _ _ _ _; rw [← hw8]; exact Thr.row _); clear hw8; go_wp2_with (first | (refine wpList_load_row rfl 56 _ rfl sb rfl 56 #[.int .i64 3, .int .i64 0, .bool false, .string y.name, .bool false, .int .i64 y1.kind, .int .u64 y1.num, .int .i64 y1.bits, .bool y1.sg, .string y1.name, .slice ya1 y1.kids.length yc1, .int .i64 0, .int .u64 0, .int .i64 0, .bool false, .string ⟨#[]⟩, .slice none 0 0, .slice none 0 0, .slice none 0 0, .slice none 0 0, .slice none 0 0] (0, 0) _ HS8.out.sb Try.underlying56 rfl (by kernel_rfl) ?_) | (refine wpList_store_row rfl 56 _ _ rfl w.heap.size #[.int .i64 3, .int .i64 0, .bool false, .string y.name, .bool false, .int .i64 y1.kind, .int .u64 y1.num, .int .i64 y1.bits, .bool y1.sg, .string y1.name, .slice ya1 y1.kids.length yc1, .int .i64 0, .int .u64 0, .int .i64 0, .bool false, .string ⟨#[]⟩, .slice none 0 0, .slice none 0 0, .slice none 0 0, .slice none 0 0, .slice none 0 0] rfl rfl 56 Pw.zS HS8.out.fz.z (by kernel_rfl) rfl (Pw.one21 _ _ _ _ _ _ _ _ _ _ _ _ _ _ _ _ _ _ _ _ _ _ _ _ _ _ _ _ _ _ _ _ _) ?_)))
        (obtain ⟨row, hrow⟩ : ∃ row : Array Value, row = #[.int .i64 3, .int .i64 0, .bool false, .string y.name, .bool false, .int .i64 y1.kind, .int .u64 y1.num, .int .i64 y1.bits, .bool y1.sg, .string y1.name, .slice ya1 y1.kids.length yc1, .int .i64 0, .int .u64 0, .int .i64 0, .bool false, .string ⟨#[]⟩, .slice none 0 0, .slice none 0 0, .slice none 0 0, .slice none 0 0, .slice none 0 0] := ⟨_, rfl⟩; rw [← hrow])
        have hx : LS w8 (fun k => w.heap.size < k) (.mk 3 0 false y.name false y1 Ps.xz [] [] [] []) (S.cells 3 0 false y.name false (X.cells y1.kind y1.num y1.bits y1.sg y1.name (.slice ya1 y1.kids.length yc1)) [.int .i64 0, .int .u64 0, .int .i64 0, .bool false, .string ⟨#[]⟩, .slice none 0 0] (.slice none 0 0) (.slice none 0 0) (.slice none 0 0) (.slice none 0 0)) :=
          .mk _ _ _ _ _ _ _ _ _ _ _ _ _ _ _ _ _ (HIN7.out.thr HS6.out.sb.lt (Nat.lt_trans HS6.out.lt HS6.out.sb.lt) HT8.out) (xz_in _ _) (sz_in _ _) (sz_in _ _) (sz_in _ _) (sz_in _ _)
        (exact bodyPost_ret (Pw.res_cell rfl _ _ w.heap.size 56 row (0, 0) _ rfl (Fz.rw (HS8.out.fz) HG.out (HS8.out.pb) row).2.2.1 Try.underlying56 rfl (by subst hrow; kernel_rfl)) rfl (Fz.rowL layS (HS8.out.fz) HG.out (HS8.out.pb) (hx) row hrow))
    · have q2 : (y.kind == 2) = false := by simpa using hk2
      by_cases hk3 : y.kind = 3
      · have q3 : (y.kind == 3) = true := by simpa using hk3
        obtain ⟨z, kb, ko, za, zc, hkz, hya, hkb, hzi, hzc⟩ := HX5.out.kid1 (HKA.out _ _ rfl hk3)
        have HR6 : Hid (R = Ps.seq (F.expr d l2.tail) fun y1 l2 => .ok (.mk 3 0 false y.name true y1 z [] [] [] [], l2)) := by show R = _; rw [HR1.out, if_pos (.inr hk3), hk3, hkz]; rfl
        have HZC : Hid (∀ wi, Thr w.heap.size sb w5 wi → ∀ j u, (X.cells z.kind z.num z.bits z.sg z.name (.slice za z.kids.length zc))[j]? = some u → wi.cell? ⟨kb, ko + j, none⟩ = some u) := fun wi ht j u hu => by
          have h1 := hzc j u hu
          rw [World.cell?_of_block (w := w5) (ht.block kb hkb.1 hkb.2 (World.block_lt_of_cell? _ _ h1))]; exact h1
        have HYZ : Hid (∀ wi, Thr w.heap.size sb w5 wi → wi.cell? ⟨b3, 5, none⟩ = some (.slice (some ⟨kb, ko, none⟩) 1 yc)) := fun wi ht => by
          have h1 := (HYW.out wi ht).cell 5
          rw [h1]; show some (Value.slice ya y.kids.length yc) = _; rw [hya, hkz]; rfl
        have HZI := Lib.hid hzi
        clear hk2 hk3 HR1 hya hkz hzi hzc
        go_upto_region 10 with (fail)
        clear e0 q2 q3
        apply Iy.wp_region 7 [5] (fun _ => []) (Ix.Rb) (fun nn vs wi => Hid (Thr w.heap.size sb w5 wi ∧ Sb w g fin d sb (if nn = 0 then #[.int .i64 3, .int .i64 0, .bool false, .string y.name, .bool false, .int .i64 0, .int .u64 0, .int .i64 0, .bool false, .string ⟨#[]⟩, .slice none 0 0, .int .i64 0, .int .u64 0, .int .i64 0, .bool false, .string ⟨#[]⟩, .slice none 0 0, .slice none 0 0, .slice none 0 0, .slice none 0 0, .slice none 0 0] else #[.int .i64 3, .int .i64 0, .bool false, .string y.name, .bool true, .int .i64 0, .int .u64 0, .int .i64 0, .bool false, .string ⟨#[]⟩, .slice none 0 0, .int .i64 0, .int .u64 0, .int .i64 0, .bool false, .string ⟨#[]⟩, .slice none 0 0, .slice none 0 0, .slice none 0 0, .slice none 0 0, .slice none 0 0]) l2.tail wi)) (Iy.vp [(Iy.is _), (Iy.is (.slice (some ⟨kb, ko, none⟩) 1 yc)), (Iy.is _), (Iy.is (.agg #[.int .i64 z.kind, .int .u64 z.num, .int .i64 z.bits, .bool z.sg, .string z.name, .slice za z.kids.length zc])), (Iy.is _), (fun _ => True), (Iy.is _)]) (fun _ => false) (by kernel_rfl) (by kernel_rfl) (by kernel_rfl) (by kernel_rfl) (by kernel_rfl) (fun _ _ _ _ _ h => h) (fun _ => Below.refl _ _) (fun nn vs _ _ h hb => ⟨h.out.1.trans (Below.thr hb), h.out.2.keep hb⟩) (fun _ _ => Iy.vp_keeps _ _ _ _) (Ix.not_al _) (fun vs => ⟨Below.thr (Ext.drew (Below.refl _ _)), HS5.out.keep (Ext.drew (Below.refl _ _))⟩)
        case step =>
          refine zys 6 0 1 [] (fun _ _ wi HB => ?_) <| zys 5 1 2 [(0, some 27)] (fun _ _ wi HB => ?_) <| zys 4 2 3 [(1, some 28)] (fun _ _ wi HB => ?_) <| zys 3 3 4 [(2, some 29)] (fun _ _ wi HB => ?_) <| zys 2 4 5 [] (fun _ _ wi HB => ?_) <| zyc 1 5 6 0 [(4, some 31)] (fun vsp wi HB => ?_) <| zys 0 6 7 [] (fun _ _ wi HB => ?_) <| Iy.steps_nil
          (· ((repeat (refine zya ?_; rintro _ rfl)); refine zye ?_; (try simp only [zyp]); refine Iy.goI_yes rfl rfl fun K hK => ?_; (try simp only [zyp] at hK); go_wp2_with (first | fail); exact hK _ _ (Below.refl _ _) rfl))
          (· ((repeat (refine zya ?_; rintro _ rfl)); refine zye ?_; have e5 := HYZ.out wi HB.out.1; (try simp only [zyp]); refine Iy.goI_yes rfl rfl fun K hK => ?_; (try simp only [zyp] at hK); go_wp2_with (first | fail); exact hK _ _ (Below.refl _ _) rfl))
          (· ((repeat (refine zya ?_; rintro _ rfl)); refine zye ?_; (try simp only [zyp]); refine Iy.goI_yes rfl rfl fun K hK => ?_; (try simp only [zyp] at hK); go_wp2_with (first | fail); exact hK _ _ (Below.refl _ _) rfl))
          (· ((repeat (refine zya ?_; rintro _ rfl)); refine zye ?_; have hz9 := HZC.out wi HB.out.1; have z0 := hz9 0 _ rfl; have z1 := hz9 1 _ rfl; have z2 := hz9 2 _ rfl; have z3 := hz9 3 _ rfl; have z4 := hz9 4 _ rfl; have z5 := hz9 5 _ rfl; rw [Nat.add_zero] at z0; clear hz9; (try simp only [zyp]); refine Iy.goI_yes rfl rfl fun K hK => ?_; (try simp only [zyp] at hK); go_wp2_with (first | fail); exact hK _ _ (Below.refl _ _) rfl))
          (· ((repeat (refine zya ?_; rintro _ rfl)); refine zye ?_; (try simp only [zyp]); refine Iy.goI_yes rfl rfl fun K hK => ?_; (try simp only [zyp] at hK); go_wp2_with (first | fail); exact hK _ _ (Below.refl _ _) rfl))
          (· (refine zya ?_; rintro _ ⟨rfl, ev4⟩; refine zye ?_; have e4 := HB.out.2.sb.cell 4; have f4 := HB.out.2.sb.frozen 4; (try simp only [zyp]); refine Iy.goI_yes rfl rfl fun K hK => ?_; (try simp only [zyp] at hK); go_wp2_with (first | fail); exact hK undef _ ⟨⟨HB.out.1.trans (Thr.set 4 _), by simpa using HB.out.2.set HG.out 4 (.bool true)⟩, fun _ _ h => h⟩ trivial))
          (· ((repeat (refine zya ?_; rintro _ rfl)); refine zye ?_; (try simp only [zyp]); refine Iy.goI_yes rfl rfl fun K hK => ?_; (try simp only [zyp] at hK); go_wp2_with (first | fail); exact hK _ _ (Below.refl _ _) rfl))
        intro vsf wf HF hdf
        refine zyv 6 0 1 ?_; rintro _ _ rfl; refine zyv 5 1 2 ?_; rintro _ _ rfl; refine zyv 4 2 3 ?_; rintro _ _ rfl; refine zyv 3 3 4 ?_; rintro _ _ rfl; refine zyv 2 4 5 ?_; rintro _ _ rfl; refine zyv 1 5 6 ?_; rintro _ _ _; refine zyv 0 6 7 ?_; rintro _ _ rfl
        refine Ix.allV_nil ?_
        have HF9 := Lib.hid HF.out; clear HF; have HS9 : Hid (Sb w g fin d sb #[.int .i64 3, .int .i64 0, .bool false, .string y.name, .bool true, .int .i64 0, .int .u64 0, .int .i64 0, .bool false, .string ⟨#[]⟩, .slice none 0 0, .int .i64 0, .int .u64 0, .int .i64 0, .bool false, .string ⟨#[]⟩, .slice none 0 0, .slice none 0 0, .slice none 0 0, .slice none 0 0, .slice none 0 0] l2.tail wf) := HF9.out.2; have HZI9 := Lib.hid (HZI.out.move (w' := wf) (q := fun k => w.heap.size < k ∧ k ≠ sb) fun k hk hl => ⟨hk, HF9.out.1.block k hk.1 hk.2 hl⟩)
        (try simp only [Act.put, List.setIfInBounds_toArray, List.set_cons_zero, List.set_cons_succ, List.drop_succ_cons, List.drop_zero])
        go_wp2_with (first | (refine wpList_store_sub rfl 54 _ _ rfl sb 11 [.int .i64 z.kind, .int .u64 z.num, .int .i64 z.bits, .bool z.sg, .string z.name, .slice za z.kids.length zc] rfl rfl 56 _ #[.int .i64 3, .int .i64 0, .bool false, .string y.name, .bool true, .int .i64 0, .int .u64 0, .int .i64 0, .bool false, .string ⟨#[]⟩, .slice none 0 0, .int .i64 z.kind, .int .u64 z.num, .int .i64 z.bits, .bool z.sg, .string z.name, .slice za z.kids.length zc, .slice none 0 0, .slice none 0 0, .slice none 0 0, .slice none 0 0] HS9.out.sb (by kernel_rfl) (show 11 + 6 ≤ 21 by decide) HZI9.out.ones rfl ?_))
        all_goals (first | refine Ix.only ?_ | (refine Ix.onlyP fun tz => ?_))
        go_upto_region 11 with (fail)
        generalize hw6 : World.setRow wf _ _ = w6
        have HS6 : Hid (Sb w g fin d sb #[.int .i64 3, .int .i64 0, .bool false, .string y.name, .bool true, .int .i64 0, .int .u64 0, .int .i64 0, .bool false, .string ⟨#[]⟩, .slice none 0 0, .int .i64 z.kind, .int .u64 z.num, .int .i64 z.bits, .bool z.sg, .string z.name, .slice za z.kids.length zc, .slice none 0 0, .slice none 0 0, .slice none 0 0, .slice none 0 0] l2.tail w6) := by show Sb _ _ _ _ _ _ _ _; rw [← hw6]; exact HS9.out.row HG.out _
        have HZ6 : Hid (XIn w6 (fun k => w.heap.size < k ∧ k ≠ sb) z (X.cells z.kind z.num z.bits z.sg z.name (.slice za z.kids.length zc))) := by
          show XIn _ _ _ _
          rw [← hw6]
          exact HZI9.out.move fun k hk hl => ⟨hk, setRow_other wf sb k _ hk.2⟩
        clear hw6
        (obtain ⟨r2, hr2⟩ : ∃ r2, r2 = F.expr d l2.tail := ⟨_, rfl⟩; have HE6 := Lib.hid (HEL.out w6 l2.tail (HLL.out) HS6.out.pb); rw [← hr2] at HE6 HR6; clear hr2; go_upto_region 12 with (first | (go_at_call 46; refine (HE6.out).mono ?_; rintro e w7 ⟨hc4, hp4, hr4⟩; have HC7 := Lib.hid hc4; have HP7 := Lib.hid hp4; clear hc4 hp4; rcases r2 with z9 | ⟨y1, l3⟩; (obtain rfl := hr4); rotate_left; (obtain ⟨cs, rfl, hin, hpb⟩ := hr4; obtain ⟨ya1, yc1, rfl⟩ := Pw.form hin; have HIN7 := Lib.hid hin; have HS7 := Lib.hid (HS6.out.chg HG.out HC7.out hpb); clear hin hpb); rotate_left) | (refine wpList_store_sub rfl 54 _ _ rfl sb 5 [.int .i64 y1.kind, .int .u64 y1.num, .int .i64 y1.bits, .bool y1.sg, .string y1.name, .slice ya1 y1.kids.length yc1] rfl rfl 56 _ #[.int .i64 3, .int .i64 0, .bool false, .string y.name, .bool true, .int .i64 y1.kind, .int .u64 y1.num, .int .i64 y1.bits, .bool y1.sg, .string y1.name, .slice ya1 y1.kids.length yc1, .int .i64 z.kind, .int .u64 z.num, .int .i64 z.bits, .bool z.sg, .string z.name, .slice za z.kids.length zc, .slice none 0 0, .slice none 0 0, .slice none 0 0, .slice none 0 0] HS7.out.sb (by kernel_rfl) (show 5 + 6 ≤ 21 by decide) HIN7.out.ones rfl ?_)))
        · obtain rfl : R = .error z9 := HR6.out
          exact ⟨rfl, HS6.out.fz.chg.trans HC7.out, HP7.out, rfl⟩
        · obtain rfl : R = .ok (.mk 3 0 false y.name true y1 z [] [] [] [], l3) := HR6.out
          (generalize hw8 : World.setRow w7 _ _ = w8; have HS8 : Hid (Sb w g fin d sb #[.int .i64 3, .int .i64 0, .bool false, .string y.name, .bool true, .int .i64 y1.kind, .int .u64 y1.num, .int .i64 y1.bits, .bool y1.sg, .string y1.name, .slice ya1 y1.kids.length yc1, .int .i64 z.kind, .int .u64 z.num, .int .i64 z.bits, .bool z.sg, .string z.name, .slice za z.kids.length zc, .slice none 0 0, .slice none 0 0, .slice none 0 0, .slice none 0 0] l3 w8) := (by show Sb _ _ _ _ _ _ _ _; rw [← hw8]; exact HS7.out.row HG.out _); have HT8 : Hid (Thr w.heap.size sb w7 w8) := (by show Thr _ _ _ _; rw [← hw8]; exact Thr.row _); clear hw8; go_wp2_with (first | (refine wpList_load_row rfl 56 _ rfl sb rfl 56 #[.int .i64 3, .int .i64 0, .bool false, .string y.name, .bool true, .int .i64 y1.kind, .int .u64 y1.num, .int .i64 y1.bits, .bool y1.sg, .string y1.name, .slice ya1 y1.kids.length yc1, .int .i64 z.kind, .int .u64 z.num, .int .i64 z.bits, .bool z.sg, .string z.name, .slice za z.kids.length zc, .slice none 0 0, .slice none 0 0, .slice none 0 0, .slice none 0 0] (0, 0) _ HS8.out.sb Try.underlying56 rfl (by kernel_rfl) ?_) | (refine wpList_store_row rfl 56 _ _ rfl w.heap.size #[.int .i64 3, .int .i64 0, .bool false, .string y.name, .bool true, .int .i64 y1.kind, .int .u64 y1.num, .int .i64 y1.bits, .bool y1.sg, .string y1.name, .slice ya1 y1.kids.length yc1, .int .i64 z.kind, .int .u64 z.num, .int .i64 z.bits, .bool z.sg, .string z.name, .slice za z.kids.length zc, .slice none 0 0, .slice none 0 0, .slice none 0 0, .slice none 0 0] rfl rfl 56 Pw.zS HS8.out.fz.z (by kernel_rfl) rfl (Pw.one21 _ _ _ _ _ _ _ _ _ _ _ _ _ _ _ _ _ _ _ _ _ _ _ _ _ _ _ _ _ _ _ _ _) ?_)))
          (obtain ⟨row, hrow⟩ : ∃ row : Array Value, row = #[.int .i64 3, .int .i64 0, .bool false, .string y.name, .bool true, .int .i64 y1.kind, .int .u64 y1.num, .int .i64 y1.bits, .bool y1.sg, .string y1.name, .slice ya1 y1.kids.length yc1, .int .i64 z.kind, .int .u64 z.num, .int .i64 z.bits, .bool z.sg, .string z.name, .slice za z.kids.length zc, .slice none 0 0, .slice none 0 0, .slice none 0 0, .slice none 0 0] := ⟨_, rfl⟩; rw [← hrow])
          have hz8 : XIn w8 (fun k => w.heap.size < k) z (X.cells z.kind z.num z.bits z.sg z.name (.slice za z.kids.length zc)) := HZ6.out.move fun k hk hl => ⟨hk.1, (HT8.out.block k hk.1 hk.2 (Nat.lt_of_lt_of_le hl HC7.out.size)).trans (HC7.out.block k hl (fun e => by injection e with e; have := HG.out; have := hk.1; omega))⟩
          have hx : LS w8 (fun k => w.heap.size < k) (.mk 3 0 false y.name true y1 z [] [] [] []) (S.cells 3 0 false y.name true (X.cells y1.kind y1.num y1.bits y1.sg y1.name (.slice ya1 y1.kids.length yc1)) (X.cells z.kind z.num z.bits z.sg z.name (.slice za z.kids.length zc)) (.slice none 0 0) (.slice none 0 0) (.slice none 0 0) (.slice none 0 0)) :=
            .mk _ _ _ _ _ _ _ _ _ _ _ _ _ _ _ _ _ (HIN7.out.thr HS6.out.sb.lt (Nat.lt_trans HS6.out.lt HS6.out.sb.lt) HT8.out) hz8 (sz_in _ _) (sz_in _ _) (sz_in _ _) (sz_in _ _)
          (exact bodyPost_ret (Pw.res_cell rfl _ _ w.heap.size 56 row (0, 0) _ rfl (Fz.rw (HS8.out.fz) HG.out (HS8.out.pb) row).2.2.1 Try.underlying56 rfl (by subst hrow; kernel_rfl)) rfl (Fz.rowL layS (HS8.out.fz) HG.out (HS8.out.pb) (hx) row hrow))
      · have q3 : (y.kind == 3) = false := by simpa using hk3
        obtain rfl : R = .error (8, at0) := by rw [HR1.out, if_neg (fun h => h.elim hk2 hk3), HA0.out]
        clear hk2 hk3 HR1
        go_wp2_with (first | (go_at_call 22; refine (pfail_ok _ _ _ _).mono ?_; rintro e w' ⟨rfl, rfl⟩))
        exact ⟨rfl, HS5.out.fz.chg, HS5.out.pb.par, rfl⟩
end Go.Proofs.Ytfkndjifhmkojaa
