/- Where a call's result lies; walk of parser.unary at a sign. No condition. -/
import Derived.Test.YtfkndjifhmkojaaPt2
import Derived.Test.YtfkndjifhmkojaaP9
import Derived.Defers
import Derived.LoopTactic
import Derived.Deep.Cut
import Derived.Deep.DeepCutAuto
import Derived.Test.YtfkndjifhmkojaaXR
namespace Go.Proofs.Ytfkndjifhmkojaa
open Go.RowKit
set_option linter.unusedVariables false
set_option linter.unusedSimpArgs false
set_option maxRecDepth 100000
/-- The result's block is there, of zeros yet; else the reader alone has changed. -/
structure Fz (w : World) (g : Nat) (t : TypeId) (zc : Array Value) (W : World) : Prop where
  chg : Chg g w W
  z : Blk W w.heap.size t zc
theorem Fz.new (w : World) (g : Nat) (t : TypeId) (zc : Array Value) : Fz w g t zc (w.alloc (.cells zc t)) := ⟨Chg.of_below (Ext.alloc (Below.refl _ _) _), Blk.new _ _ _⟩
theorem Fz.step {w W W' : World} {g : Nat} {t : TypeId} {zc : Array Value} (h : Fz w g t zc W) (hg : g < w.heap.size) (hc : Chg g W W') : Fz w g t zc W' :=
  ⟨h.chg.trans hc, (hc.block _ h.z.lt (fun e => by injection e with e; omega)).trans h.z⟩
theorem Fz.below {w W W' : World} {g : Nat} {t : TypeId} {zc : Array Value} (h : Fz w g t zc W) (hb : Below W.heap.size W W') : Fz w g t zc W' := ⟨h.chg.trans (Chg.of_below hb), h.z.keep hb⟩
theorem Fz.lt {w W : World} {g : Nat} {t : TypeId} {zc : Array Value} (h : Fz w g t zc W) : w.heap.size < W.heap.size := h.z.lt
section
variable {w W : World} {g fin d : Nat} {t : TypeId} {zc : Array Value} {l : List Tk.Tok}
/-- The result is laid into its block. -/
theorem Fz.rw (h : Fz w g t zc W) (hg : g < w.heap.size) (hp : Pb W g fin d l) (row : Array Value) : Chg g w (W.setRow w.heap.size row) ∧ Pb (W.setRow w.heap.size row) g fin d l ∧ Blk (W.setRow w.heap.size row) w.heap.size t row ∧ ∀ k, k ≠ w.heap.size → (W.setRow w.heap.size row).heap[k]? = W.heap[k]? := by
  have hoth : ∀ k, k ≠ w.heap.size → (W.setRow w.heap.size row).heap[k]? = W.heap[k]? := fun k hk => setRow_other W _ k row hk
  refine ⟨Pw.rowC h.chg (Nat.le_refl _) row, ?_, Pw.rowB h.z row, hoth⟩
  obtain ⟨v, hb, ht⟩ := hp
  exact ⟨v, (hoth g (by omega)).trans hb, ht.same fun k hk hl => hoth k (by omega)⟩
theorem Fz.rowX {y : X} {cs : List Value} (h : Fz w g t zc W) (hg : g < w.heap.size) (hp : Pb W g fin d l) (hx : XIn W (fun k => w.heap.size < k) y cs) (row : Array Value) (hrow : row = cs.toArray) :
    Chg g w (W.setRow w.heap.size row) ∧ ParA (W.setRow w.heap.size row) g ∧ ∃ cs', Ending.returned (.agg row) = .returned (.agg cs'.toArray) ∧ XIn (W.setRow w.heap.size row) (fun k => w.heap.size ≤ k) y cs' ∧ Pb (W.setRow w.heap.size row) g fin d l := by
  obtain ⟨h1, h2, h3, h4⟩ := h.rw hg hp row
  exact ⟨h1, h2.par, cs, by rw [hrow], hx.move fun k hk hl => ⟨Nat.le_of_lt hk, h4 k (by omega)⟩, h2⟩
/-- The same, one level up behind it. -/
theorem Fz.upX {y : X} {cs : List Value} {b : Nat} (h : Fz w g t zc W) (hg : g < w.heap.size) (hd : d ≤ 400) (hp : Pb W g fin (d + 1) l) (hx : XIn W (fun k => w.heap.size < k) y cs) (row : Array Value) (hrow : row = cs.toArray) (hne : b ≠ g) (hle : w.heap.size < b) (hcb : W.cell? ⟨b, 0, none⟩ = some (P g)) :
    ∃ v, Blk (W.setRow w.heap.size row) g 64 #[v, .int .i64 (fin : Int), .int .i64 ((d : Int) + 1)] ∧ (W.setRow w.heap.size row).cell? ⟨b, 0, none⟩ = some (P g) ∧
    Blk ((W.setRow w.heap.size row).setCell ⟨g, 2, none⟩ (.int .i64 (wrap64 ((d : Int) + 1 - 1)))) w.heap.size t row ∧
    (Chg g w ((W.setRow w.heap.size row).setCell ⟨g, 2, none⟩ (.int .i64 (wrap64 ((d : Int) + 1 - 1)))) ∧ ParA ((W.setRow w.heap.size row).setCell ⟨g, 2, none⟩ (.int .i64 (wrap64 ((d : Int) + 1 - 1)))) g ∧ ∃ cs', Ending.returned (.agg row) = .returned (.agg cs'.toArray) ∧ XIn ((W.setRow w.heap.size row).setCell ⟨g, 2, none⟩ (.int .i64 (wrap64 ((d : Int) + 1 - 1)))) (fun k => w.heap.size ≤ k) y cs' ∧ Pb ((W.setRow w.heap.size row).setCell ⟨g, 2, none⟩ (.int .i64 (wrap64 ((d : Int) + 1 - 1)))) g fin d l) := by
  obtain ⟨h1, h2, h3, h4⟩ := h.rw hg hp row
  obtain ⟨v, hbk, hup⟩ := h2.up hd
  have hx2 : XIn (W.setRow w.heap.size row) (fun k => w.heap.size ≤ k) y cs := hx.move fun k hk hl => ⟨Nat.le_of_lt hk, h4 k (by omega)⟩
  exact ⟨v, hbk, (World.cell?_of_block (w := W) (h4 b (by omega))).trans hcb, h3.far (p := ⟨g, 2, none⟩) (by exact fun e => by have e : w.heap.size = g := e; omega) _, h1.setCell 2 _, hup.par, cs, by rw [hrow], hx2.parUp hg, hup⟩
end
/-- One kid in a new block. -/
theorem XIn.one {w : World} {p : Nat → Prop} {y : X} {ya : Option Addr} {yc tf : Nat} (k n b : Int) (s : Bool) (nm : ByteArray) (hy : XIn w p y (X.cells y.kind y.num y.bits y.sg y.name (.slice ya y.kids.length yc))) (hp : p tf)
    (hb : Blk w tf 54 #[.int .i64 y.kind, .int .u64 y.num, .int .i64 y.bits, .bool y.sg, .string y.name, .slice ya y.kids.length yc]) :
    XIn w p (.mk k n b s nm [y]) (X.cells k n b s nm (.slice (some ⟨tf, 0, none⟩) 1 1)) := by
  refine .mk k n b s nm [y] (some ⟨tf, 0, none⟩) 1 (fun _ => X.cells y.kind y.num y.bits y.sg y.name (.slice ya y.kids.length yc)) (Nat.le_refl _) (by decide) (fun i z hz => ?_) (fun _ => ⟨tf, 0, hp, rfl, fun i j u hi hu => ?_⟩)
  · match i, hz with
    | 0, hz => injection hz with hz; subst hz; exact hy
  · have hi : i < 1 := hi
    obtain rfl : i = 0 := by omega
    have hj : j < 6 := (List.getElem?_eq_some_iff.1 hu).1
    rcases (by omega : j = 0 ∨ j = 1 ∨ j = 2 ∨ j = 3 ∨ j = 4 ∨ j = 5) with rfl | rfl | rfl | rfl | rfl | rfl
    · exact (hb.cell 0).trans hu
    · exact (hb.cell 1).trans hu
    · exact (hb.cell 2).trans hu
    · exact (hb.cell 3).trans hu
    · exact (hb.cell 4).trans hu
    · exact (hb.cell 5).trans hu
theorem unK (t : Tk.Tok) (ht : t.text.length ≤ 65536) (w : World) : Calls Try.prog 122 #[.string ⟨t.text.toArray⟩] w fun e w' => e = .returned (.int .i64 (Ps.un t.text)) ∧ Below w.heap.size w w' := by
  have := unaryKind_ok ⟨t.text.toArray⟩ (by rw [Tk.size_is]; show t.text.toArray.toList.length ≤ _; unfold maxLen; simp; omega) w
  rwa [show (⟨t.text.toArray⟩ : ByteArray).data.toList = t.text by simp] at this
set_option maxHeartbeats 8000000 in
theorem punary_sign (w : World) (g fin d : Nat) (t : Tk.Tok) (l : List Tk.Tok) (h : Pb w g fin d (t :: l)) (hk : t.kind = 3) (hu : 0 < Ps.un t.text) (hd : d < 400) (r : Ps.Res X)
    (hun : ∀ w1 : World, Pb w1 g fin (d + 1) l → Calls Try.prog 90 #[P g] w1 (PxR g fin (d + 1) w1 r)) :
    Calls Try.prog 90 #[P g] w (PxR g fin d w (Ps.seq r fun y l => .ok (Ps.xk (Ps.un t.text) [y], l))) := by
  have hgl : g < w.heap.size := by obtain ⟨v, hb, _⟩ := h; exact hb.lt
  have HG := Lib.hid hgl
  obtain ⟨w0, hw0⟩ : ∃ w0, w0 = w.alloc (.cells Pw.zX 54) := ⟨_, rfl⟩
  have HF0 : Hid (Fz w g 54 Pw.zX w0) := by show Fz _ _ _ _ _; rw [hw0]; exact Fz.new ..
  have hp0 : Pb w0 g fin d (t :: l) := by rw [hw0]; exact h.keep (Ext.alloc (Below.refl _ _) _)
  have HUK : Hid (∀ w1 : World, Calls Try.prog 122 #[.string ⟨t.text.toArray⟩] w1 fun e w' => e = .returned (.int .i64 (Ps.un t.text)) ∧ Below w1.heap.size w1 w') := fun w1 => unK t (by obtain ⟨v2, hb2, ht2⟩ := h; exact ht2.ok.len) w1
  obtain ⟨KD, hKD⟩ : ∃ KD, KD = Ps.un t.text := ⟨_, rfl⟩
  rw [← hKD] at hu HUK ⊢
  have HP0 := Lib.hid hp0
  have HU := Lib.hid hun
  have HDD := Lib.hid hd
  obtain ⟨v, hb, ht⟩ := hp0
  obtain ⟨q, off, c, hq, rfl, hlc, hcm, c0, c1, _⟩ := ht.hd
  have p0 := hb.cell 0
  have qk : (t.kind == 3) = true := by simpa using hk
  have qu : decide (KD > 0) = true := decide_eq_true hu
  have ql : decide ((l.length : Int) + 1 > 0) = true := decide_eq_true (by omega)
  clear h hb ht hun hk hKD hd hgl hu
  go_enter_defers Try.func90, Try.ntmps90
  go_upto_region 1 with (fail)
  rw [← hw0]
  clear hw0
  go_upto_region 4 with (first | (go_at_call 122; refine (HUK.out _).mono ?_; rintro e w1 ⟨rfl, hb1⟩; have HB1 := Lib.hid hb1; clear hb1))
  have HLB : Hid (w.heap.size < w1.heap.size) := (HF0.out.below HB1.out).lt
  have HD := Lib.hid (pdeeper_ok w1 g fin d (t :: l) (HP0.out.keep HB1.out) HDD.out)
  clear p0 c0 c1
  go_upto_region 5 with (first | (go_at_call 68; refine HD.out.mono ?_; rintro e w2 ⟨b, rfl, hne, hle, hcb, hc2, hp2⟩; have HD2 := Lib.hid (And.intro hne (And.intro hle (And.intro hcb (And.intro hc2 hp2)))); clear hne hle hcb hc2 hp2))
  obtain ⟨v2, hb2, ht2⟩ := HD2.out.2.2.2.2
  obtain ⟨tq2, off2, tc2, htq2, rfl, hlc2, hcm2, _⟩ := ht2.hd
  have p0 := hb2.cell 0
  have z0 := hb2.frozen 0
  obtain ⟨a2, ha2⟩ : ∃ a2 : Option Addr, a2 = if tc2 = 1 then some ⟨tq2, off2, none⟩ else some ⟨tq2, off2 + 6, none⟩ := ⟨_, rfl⟩
  have hsl := fun w => tok_sl w tq2 off2 l.length tc2 a2 ha2
  have HTN := Lib.hid (Pb.tl hb2 ht2 a2 ha2)
  clear hb2 ht2 ha2
  go_upto_region 6 with (fail)
  generalize hw3 : World.setCell w2 _ _ = w3
  rw [hw3] at HTN
  clear hw3 p0 z0 hsl
  have HF3 : Hid (Fz w g 54 Pw.zX w3) := ((HF0.out.below HB1.out).step HG.out HD2.out.2.2.2.1).step HG.out HTN.out.1
  have HCB : Hid (w3.cell? ⟨b, 0, none⟩ = some (P g)) := HTN.out.1.cell HD2.out.1 HD2.out.2.2.1
  go_wp2_with (first | (go_at_call 90; refine (HU.out _ HTN.out.2).mono ?_; rintro e w4 ⟨hc4, hp4, hr4⟩; have HC4 := Lib.hid hc4; have HP4 := Lib.hid hp4; clear hc4 hp4; rcases r with z | ⟨y, l2⟩; (obtain rfl := hr4); rotate_left; (obtain ⟨cs, rfl, hin, hpb⟩ := hr4; obtain ⟨ya, yc, rfl⟩ := Pw.form hin; have HIN := Lib.hid hin; have HPB := Lib.hid hpb; have HF4 := Lib.hid (HF3.out.step HG.out HC4.out); clear hin hpb); rotate_left) | (refine wpList_store_row rfl 54 _ _ rfl w.heap.size #[.int .i64 KD, .int .u64 0, .int .i64 0, .bool false, .string ⟨#[]⟩, .slice (some ⟨w4.heap.size, 0, none⟩) 1 1] rfl rfl 54 Pw.zX (HF4.out.below (Ext.alloc (Below.refl _ _) _)).z (by kernel_rfl) rfl (Pw.one _ _ _ _ _ _ _ _) ?_))
  · (obtain ⟨v, f, D, hbk⟩ := HP4.out; refine leaves_cons (f := 89) (args := #[P b]) (by simp) (by simp [go_sem]) ?_; refine (pundeep_ok w4 g b v f D _ hbk HD2.out.1 (HC4.out.cell HD2.out.1 HCB.out)).mono ?_; rintro e u' w5 ⟨rfl, rfl, rfl⟩; simp only [Leaves, settle, Oops]; exact ⟨Chg.setCell (HF3.out.chg.trans HC4.out) 2 _, ParA.up hbk, rfl⟩)
  · generalize hwn : World.alloc w4 _ = wn
    have hbl : Below w4.heap.size w4 wn := by rw [← hwn]; exact Ext.alloc (Below.refl _ _) _
    have hnb : Blk wn w4.heap.size 54 #[.int .i64 y.kind, .int .u64 y.num, .int .i64 y.bits, .bool y.sg, .string y.name, .slice ya y.kids.length yc] := by rw [← hwn]; exact Blk.new _ _ _
    have hx := XIn.one KD 0 0 false ⟨#[]⟩ (p := fun k => w.heap.size < k) (HIN.out.move fun k hk hl => ⟨Nat.lt_of_lt_of_le HF3.out.lt hk, hbl.block k hl⟩) HF4.out.lt hnb
    clear hwn
    (obtain ⟨row, hrow⟩ : ∃ row : Array Value, row = #[.int .i64 KD, .int .u64 0, .int .i64 0, .bool false, .string ⟨#[]⟩, .slice (some ⟨w4.heap.size, 0, none⟩) 1 1] := ⟨_, rfl⟩; rw [← hrow]; obtain ⟨v, hbk, hcb, hz, hpost⟩ := Fz.upX (b := b) (HF4.out.below hbl) HG.out (Nat.le_of_lt HDD.out) (HPB.out.keep hbl) (hx) row hrow HD2.out.1 (Nat.lt_of_lt_of_le HLB.out HD2.out.2.1) ((HC4.out.trans (Chg.of_below hbl)).cell HD2.out.1 HCB.out); refine leaves_cons (f := 89) (args := #[P b]) (by simp) (by simp [go_sem]) ?_; refine (pundeep_ok _ g b v _ _ _ hbk HD2.out.1 hcb).mono ?_; rintro e u' w6 ⟨rfl, rfl, rfl⟩; exact ⟨_, Pw.res_cell rfl _ _ w.heap.size 54 row (0, 0) _ rfl hz Try.underlying54 rfl (by subst hrow; kernel_rfl), hpost⟩)
end Go.Proofs.Ytfkndjifhmkojaa
/- Walk of parser.unary: no sign. No condition. -/
namespace Go.Proofs.Ytfkndjifhmkojaa
open Go.RowKit
set_option linter.unusedVariables false
set_option linter.unusedSimpArgs false
set_option maxRecDepth 100000
set_option maxHeartbeats 4000000 in
theorem punary_signNo (w : World) (g fin d : Nat) (t : Tk.Tok) (l : List Tk.Tok) (h : Pb w g fin d (t :: l)) (hk : t.kind = 3) (hu : 0 < Ps.un t.text) (hd : 400 ≤ d) (hd1 : d ≤ 1000) :
    Calls Try.prog 90 #[P g] w (PxR g fin d w (.error (4, t.pos))) := by
  obtain ⟨w0, hw0⟩ : ∃ w0, w0 = w.alloc (.cells Pw.zX 54) := ⟨_, rfl⟩
  have HC0 : Hid (Chg g w w0) := by show Chg _ _ _; rw [hw0]; exact Chg.of_below (Ext.alloc (Below.refl _ _) _)
  have hp0 : Pb w0 g fin d (t :: l) := by rw [hw0]; exact h.keep (Ext.alloc (Below.refl _ _) _)
  have HUK : Hid (∀ w1 : World, Calls Try.prog 122 #[.string ⟨t.text.toArray⟩] w1 fun e w' => e = .returned (.int .i64 (Ps.un t.text)) ∧ Below w1.heap.size w1 w') := fun w1 => unK t (by obtain ⟨v2, hb2, ht2⟩ := h; exact ht2.ok.len) w1
  obtain ⟨KD, hKD⟩ : ∃ KD, KD = Ps.un t.text := ⟨_, rfl⟩
  rw [← hKD] at hu HUK
  have HP0 := Lib.hid hp0
  have HDD := Lib.hid (And.intro hd hd1)
  obtain ⟨v, hb, ht⟩ := hp0
  obtain ⟨q, off, c, hq, rfl, hlc, hcm, c0, c1, _⟩ := ht.hd
  have p0 := hb.cell 0
  have qk : (t.kind == 3) = true := by simpa using hk
  have qu : decide (KD > 0) = true := decide_eq_true hu
  have ql : decide ((l.length : Int) + 1 > 0) = true := decide_eq_true (by omega)
  clear h hb ht hk hKD hd hd1 hu
  go_enter_defers Try.func90, Try.ntmps90
  go_upto_region 1 with (fail)
  rw [← hw0]
  clear hw0
  go_upto_region 4 with (first | (go_at_call 122; refine (HUK.out _).mono ?_; rintro e w1 ⟨rfl, hb1⟩; have HB1 := Lib.hid hb1; clear hb1))
  have HD := Lib.hid (pdeeper_no w1 g fin d (t :: l) (HP0.out.keep HB1.out) HDD.out.1 HDD.out.2)
  clear p0 c0 c1
  go_wp2_with (first | (go_at_call 68; refine HD.out.mono ?_; rintro e w2 ⟨rfl, hc2, hp2⟩; have HC2 := Lib.hid hc2; have HP2 := Lib.hid hp2; clear hc2 hp2))
  exact ⟨(HC0.out.trans (Chg.of_below HB1.out)).trans HC2.out, HP2.out, rfl⟩
theorem Tks.hd2 {w : World} {g q off c : Nat} {t u : Tk.Tok} {l : List Tk.Tok} (h : Tks w g (t :: u :: l) (.slice (some ⟨q, off, none⟩) (l.length + 1 + 1) c)) : l.length + 1 + 1 ≤ c ∧ w.cell? ⟨q, off + 6, none⟩ = some (.int .i64 u.kind) ∧ w.cell? ⟨q, off + 7, none⟩ = some (.string ⟨u.text.toArray⟩) ∧ u.text.length ≤ 65536 := by
  obtain ⟨a, c', e, h1, h2, h3⟩ := h.1.parts
  injection e with e1 e2 e3
  subst e3
  obtain ⟨q', off', cs, hp, ea, hx, hc⟩ := h3 1 u rfl
  rw [ea] at e1
  injection e1 with e1
  injection e1 with e4 e5
  subst e4 e5
  unfold TokAt at hx
  subst hx
  exact ⟨h1, hc 0 _ rfl, hc 1 _ rfl, (h.2 u (by simp)).len⟩
/-- Two tokens further. -/
theorem tok_sl2 (w : World) (q off n c : Nat) (hc : n + 1 + 1 ≤ c) (a : Option Addr) (ha : a = if c = 2 then some ⟨q, off, none⟩ else some ⟨q, off + 12, none⟩) :
    (Instr.slice 57 (.slice (some ⟨q, off, none⟩) (n + 1 + 1) c) (some (.int .i64 2)) none none).run Try.prog w = .ok (.slice a n (c - 2)) w := by
  have hz : ∀ w, (sizeOf (Try.prog.elem 57)).run Try.prog w = .ok 6 w := fun _ => by kernel_rfl
  rw [run_slice_l (ht := Try.underlying57) (kl := .i64) (l := 2) (h0 := by decide) (h1 := by omega), hz]
  subst ha
  show Result.ok (Go.sliced _ _ _ _ _) w = _
  unfold Go.sliced
  by_cases h : c = 2
  · subst h; simp
  · rw [if_neg h, if_neg (by simpa using h)]; simp [Addr.add]
theorem Tks.nil {w : World} {g c : Nat} (a : Option Addr) (hc : c ≤ maxLen) : Tks w g [] (.slice a 0 c) :=
  ⟨⟨a, c, fun _ => [], rfl, Nat.zero_le _, hc, fun i x h => by simp at h, fun h => absurd h (Nat.lt_irrefl _)⟩, fun t ht => by cases ht⟩
theorem Pb.tl2 {w : World} {g fin d q off c : Nat} {t u : Tk.Tok} {l : List Tk.Tok} (hb : ParB w g (.slice (some ⟨q, off, none⟩) (l.length + 1 + 1) c) fin d) (ht : Tks w g (t :: u :: l) (.slice (some ⟨q, off, none⟩) (l.length + 1 + 1) c)) (a : Option Addr) (ha : a = if c = 2 then some ⟨q, off, none⟩ else some ⟨q, off + 12, none⟩) :
    Chg g w (w.setCell ⟨g, 0, none⟩ (.slice a l.length (c - 2))) ∧ Pb (w.setCell ⟨g, 0, none⟩ (.slice a l.length (c - 2))) g fin d l := by
  have hc : Chg g w (w.setCell ⟨g, 0, none⟩ (.slice a l.length (c - 2))) := (Chg.of_below (Below.refl _ _)).setCell 0 _
  refine ⟨hc, .slice a l.length (c - 2), ?_, ?_⟩
  · have := hb.set_ 0 (.slice a l.length (c - 2)); simpa using this
  · have h1 := ht.hd2.1
    have hm : c ≤ maxLen := by obtain ⟨_, _, e, _, hm⟩ := ht.sl; injection e with _ _ e; omega
    by_cases h2 : c = 2
    · obtain rfl : l = [] := List.eq_nil_of_length_eq_zero (by omega)
      exact Tks.nil a (by omega)
    · rw [if_neg h2] at ha
      subst ha
      have t1 := ht.tl
      rw [if_neg (show ¬ c = 1 by omega)] at t1
      have t2 := (show Tks w g (u :: l) (.slice (some ⟨q, off + 6, none⟩) (l.length + 1) (c - 1)) from t1).tl
      rw [if_neg (show ¬ c - 1 = 1 by omega), show c - 1 - 1 = c - 2 by omega] at t2
      exact t2.chg hc
set_option maxHeartbeats 8000000 in
theorem punary_cast (w : World) (g fin d : Nat) (t u : Tk.Tok) (l : List Tk.Tok) (h : Pb w g fin d (t :: u :: l)) (hns : ¬ (t.kind = 3 ∧ 0 < Ps.un t.text)) (hk2 : t.kind ≠ 2) (htx : t.text = [40]) (hu1 : u.kind = 1) (nb : Int) (nsg : Bool) (hnt : W.nt u.text = (nb, nsg, true)) (hd1 : d ≤ 1000) (F : List Tk.Tok → Ps.Res X)
    (hun : d < 400 → ∀ (w1 : World) (l1 : List Tk.Tok), l1.length < l.length → Pb w1 g fin (d + 1) l1 → Calls Try.prog 90 #[P g] w1 (PxR g fin (d + 1) w1 (F l1))) :
    Calls Try.prog 90 #[P g] w (PxR g fin d w (if 400 ≤ d then .error (4, t.pos) else Ps.seq (Ps.need fin [41] l) fun _ l => Ps.seq (F l) fun y l => .ok (.mk 5 0 nb nsg ⟨#[]⟩ [y], l))) := by
  have hgl : g < w.heap.size := by obtain ⟨v, hb, _⟩ := h; exact hb.lt
  have HG := Lib.hid hgl
  obtain ⟨R, hR⟩ : ∃ R, R = (if 400 ≤ d then (.error (4, t.pos) : Ps.Res X) else Ps.seq (Ps.need fin [41] l) fun _ l => Ps.seq (F l) fun y l => .ok (.mk 5 0 nb nsg ⟨#[]⟩ [y], l)) := ⟨_, rfl⟩
  rw [← hR]
  have HR := Lib.hid hR
  clear hR
  obtain ⟨w0, hw0⟩ : ∃ w0, w0 = w.alloc (.cells Pw.zX 54) := ⟨_, rfl⟩
  have HF0 : Hid (Fz w g 54 Pw.zX w0) := by show Fz _ _ _ _ _; rw [hw0]; exact Fz.new ..
  have hp0 : Pb w0 g fin d (t :: u :: l) := by rw [hw0]; exact h.keep (Ext.alloc (Below.refl _ _) _)
  have HUK : Hid (∀ w1 : World, Calls Try.prog 122 #[.string ⟨t.text.toArray⟩] w1 fun e w' => e = .returned (.int .i64 (Ps.un t.text)) ∧ Below w1.heap.size w1 w') := fun w1 => unK t (by obtain ⟨v2, hb2, ht2⟩ := h; exact ht2.ok.len) w1
  obtain ⟨KD, hKD⟩ : ∃ KD, KD = Ps.un t.text := ⟨_, rfl⟩
  rw [← hKD] at HUK hns
  have HP0 := Lib.hid hp0
  have HU := Lib.hid hun
  have HDD := Lib.hid hd1
  have hutl : u.text.length ≤ 65536 := by obtain ⟨v2, hb2, ht2⟩ := h; exact (ht2.2 u (by simp)).len
  have HNA : Hid (∀ wi : World, Calls Try.prog 42 #[.string ⟨u.text.toArray⟩] wi fun e w' => e = .returned (.tuple #[W.ty nb nsg, .bool true]) ∧ Below wi.heap.size wi w') := fun wi => by
    have := named_ok ⟨u.text.toArray⟩ (by rw [Tk.size_is]; show u.text.toArray.toList.length ≤ _; unfold maxLen; simp; omega) wi
    rw [show (⟨u.text.toArray⟩ : ByteArray).data.toList = u.text by simp, hnt] at this
    exact this
  have HSE : Hid (∀ wi : World, Pb wi g fin d (t :: u :: l) → Calls Try.prog 43 #[P g, .string ⟨#[40]⟩] wi fun e w' => e = .returned (.bool true) ∧ wi = w') := fun wi hp => by
    have := psees_ok wi g fin d (t :: u :: l) [40] hp
    rwa [show Ps.sees [40] (t :: u :: l) = true by simp [Ps.sees, hk2, htx]] at this
  obtain ⟨v, hb, ht⟩ := hp0
  obtain ⟨q, off, c, hq, rfl, hlc, hcm, c0, c1, _⟩ := ht.hd
  have p0 := hb.cell 0
  have ql : decide ((l.length : Int) + 1 + 1 > 0) = true := decide_eq_true (by omega)
  have HNS := Lib.hid hns
  have HU1 := Lib.hid hu1
  clear h hb ht hun hd1 hgl hns hKD hk2 htx hu1 hutl hnt
  go_enter_defers Try.func90, Try.ntmps90
  go_upto_region 1 with (fail)
  rw [← hw0]
  clear hw0
  go_upto_if 21 with (fail)
  go_cut [3] from 6 to 97 (fun kx wx => Hid (Below w0.heap.size w0 wx))
  case first =>
    by_cases hk : t.kind = 3
    · have qk : (t.kind == 3) = true := by simpa using hk
      have qu : decide (KD > 0) = false := decide_eq_false (fun h => HNS.out ⟨hk, h⟩)
      clear hk
      go_wp2_with (first | (go_at_call 122; refine (HUK.out _).mono ?_; rintro e w1 ⟨rfl, hb1⟩; have HB1 := Lib.hid hb1; clear hb1))
      go_meet
      case rel => exact HB1.out
    · have qk : (t.kind == 3) = false := by simpa using hk
      clear hk
      go_wp2_with (fail)
      go_meet
      case rel => exact Below.refl _ _
  case rest =>
    obtain ⟨wa, hwa⟩ : ∃ wa, wa = wc := ⟨_, rfl⟩
    rw [← hwa] at hcut ⊢
    clear hwa
    have HCU := Lib.hid hcut.out
    clear hcut p0 c0 c1
    obtain ⟨va, hba, hta⟩ := HP0.out.keep HCU.out
    obtain ⟨qa, offa, ca, hqa, rfl, hlca, hcma, _⟩ := hta.hd
    obtain ⟨_, k6, k7, _⟩ := hta.hd2
    have p0 := hba.cell 0
    have ql2 : decide ((l.length : Int) + 1 + 1 > 1) = true := decide_eq_true (by omega)
    have HSA := Lib.hid (HSE.out wa ⟨_, hba, hta⟩)
    clear hba hta
    go_upto_region 8 with (first | (go_at_call 43; refine HSA.out.mono ?_; rintro e w' ⟨rfl, rfl⟩))
    go_upto_region 9 with (first | (go_at_call 42; refine (HNA.out _).mono ?_; rintro e w3 ⟨rfl, hb3⟩; have HB3 := Lib.hid hb3; clear hb3))
    generalize hw4 : World.alloc w3 _ = w4
    obtain ⟨b4, hb4⟩ : ∃ b4, b4 = w3.heap.size := ⟨_, rfl⟩
    have HB4 : Hid (Below wa.heap.size wa w4) := by show Below _ _ _; rw [← hw4]; exact Ext.alloc HB3.out _
    have HT4 : Hid (Blk w4 b4 38 #[.int .i64 nb, .bool nsg]) := by show Blk _ _ _ _; rw [← hw4, hb4]; exact Blk.new _ _ _
    have HF4 : Hid (Fz w g 54 Pw.zX w4) := (HF0.out.below HCU.out).below HB4.out
    have HG4 : Hid (g < b4 ∧ w.heap.size < b4) := by
      have h1 := (HF0.out.below HCU.out).lt; have h2 := HB3.out.size; have h3 := HG.out
      exact ⟨by omega, by omega⟩
    rw [← hb4]
    clear hw4 hb4 k6 k7 p0
    have HP4 := Lib.hid ((HP0.out.keep HCU.out).keep HB4.out)
    obtain ⟨vb, hbb, htb⟩ := HP4.out
    obtain ⟨qb, offb, cb, hqb, rfl, hlcb, hcmb, _⟩ := htb.hd
    obtain ⟨_, k6, k7, _⟩ := htb.hd2
    have p0 := hbb.cell 0
    have qu1 : (u.kind == 1) = true := by simpa using HU1.out
    clear hbb htb
    go_upto_region 10 with (fail)
    clear p0 k6 k7 qu1
    rcases Nat.lt_or_ge d 400 with hd | hd
    rotate_left
    · have HD := Lib.hid (pdeeper_no w4 g fin d _ HP4.out hd HDD.out)
      obtain rfl : R = .error (4, t.pos) := by rw [HR.out, if_pos hd]
      clear hd
      go_wp2_with (first | (go_at_call 68; refine HD.out.mono ?_; rintro e w2 ⟨rfl, hc2, hp2⟩; have HC2 := Lib.hid hc2; have HP2 := Lib.hid hp2; clear hc2 hp2))
      exact ⟨HF4.out.chg.trans HC2.out, HP2.out, rfl⟩
    have HD := Lib.hid (pdeeper_ok w4 g fin d _ HP4.out hd)
    have HLB : Hid (w.heap.size < w4.heap.size) := HF4.out.lt
    clear HDD
    have HDD := Lib.hid hd
    have HR1 : Hid (R = Ps.seq (Ps.need fin [41] l) fun _ l => Ps.seq (F l) fun y l => .ok (.mk 5 0 nb nsg ⟨#[]⟩ [y], l)) := by show R = _; rw [HR.out, if_neg (by omega)]
    clear hd
    go_upto_region 11 with (first | (go_at_call 68; refine HD.out.mono ?_; rintro e w2 ⟨b, rfl, hne, hle, hcb, hc2, hp2⟩; have HD2 := Lib.hid (And.intro hne (And.intro hle (And.intro hcb (And.intro hc2 hp2)))); clear hne hle hcb hc2 hp2))
    obtain ⟨v2, hb2, ht2⟩ := HD2.out.2.2.2.2
    obtain ⟨tq2, off2, tc2, htq2, rfl, hlc2, hcm2, _⟩ := ht2.hd
    have p0 := hb2.cell 0
    have z0 := hb2.frozen 0
    obtain ⟨a2, ha2⟩ : ∃ a2 : Option Addr, a2 = if tc2 = 2 then some ⟨tq2, off2, none⟩ else some ⟨tq2, off2 + 12, none⟩ := ⟨_, rfl⟩
    have hsl := fun w => tok_sl2 w tq2 off2 l.length tc2 hlc2 a2 ha2
    have HTN := Lib.hid (Pb.tl2 hb2 ht2 a2 ha2)
    clear hb2 ht2 ha2
    go_upto_region 12 with (fail)
    generalize hw5 : World.setCell w2 _ _ = w5
    rw [hw5] at HTN
    clear hw5 p0 z0 hsl
    have HF5 : Hid (Fz w g 54 Pw.zX w5) := (HF4.out.step HG.out HD2.out.2.2.2.1).step HG.out HTN.out.1
    have HCB : Hid (w5.cell? ⟨b, 0, none⟩ = some (P g)) := HTN.out.1.cell HD2.out.1 HD2.out.2.2.1
    have HT5 : Hid (Blk w5 b4 38 #[.int .i64 nb, .bool nsg]) := ((HD2.out.2.2.2.1.trans HTN.out.1).block b4 HT4.out.lt (fun e => by injection e with e; have := HG4.out.1; omega)).trans HT4.out
    have HN := Lib.hid (pneed_ok w5 g fin (d + 1) l [41] HTN.out.2)
    obtain ⟨rn, hrn⟩ : ∃ rn, rn = Ps.need fin [41] l := ⟨_, rfl⟩
    have HLT : Hid (∀ x l', rn = .ok (x, l') → l'.length < l.length) := fun x l' h => Ps.need_lt (fin := fin) (s := [41]) (u := x) (hrn ▸ h)
    rw [← hrn] at HN HR1
    clear hrn
    go_upto_region 13 with (first | (go_at_call 44; refine HN.out.mono ?_; rintro e w6 ⟨hc6, hp6, hr6⟩; have HC4 := Lib.hid hc6; have HP4 := Lib.hid hp6; clear hc6 hp6; rcases rn with z | ⟨y0, l1⟩; (obtain rfl := hr6); rotate_left; (obtain ⟨rfl, hpb⟩ := hr6; have HPB := Lib.hid hpb; clear hpb); rotate_left))
    · obtain rfl : R = .error z := HR1.out
      (obtain ⟨v, f, D, hbk⟩ := HP4.out; refine leaves_cons (f := 89) (args := #[P b]) (by simp) (by simp [go_sem]) ?_; refine (pundeep_ok w6 g b v f D _ hbk HD2.out.1 (HC4.out.cell HD2.out.1 HCB.out)).mono ?_; rintro e u' w5 ⟨rfl, rfl, rfl⟩; simp only [Leaves, settle, Oops]; exact ⟨Chg.setCell (HF5.out.chg.trans HC4.out) 2 _, ParA.up hbk, rfl⟩)
    have HF6 : Hid (Fz w g 54 Pw.zX w6) := HF5.out.step HG.out HC4.out
    have HCB6 : Hid (w6.cell? ⟨b, 0, none⟩ = some (P g)) := HC4.out.cell HD2.out.1 HCB.out
    have HT6 : Hid (∀ wi, Chg g w6 wi → Blk wi b4 38 #[.int .i64 nb, .bool nsg]) := fun wi hc => ((HC4.out.trans hc).block b4 HT5.out.lt (fun e => by injection e with e; have := HG4.out.1; omega)).trans HT5.out
    have HUN := Lib.hid (fun wi (hp : Pb wi g fin (d + 1) l1) => HU.out HDD.out wi l1 (HLT.out _ _ rfl) hp)
    have HR2 : Hid (R = Ps.seq (F l1) fun y l => .ok (.mk 5 0 nb nsg ⟨#[]⟩ [y], l)) := HR1.out
    have HG6 : Hid (g < w6.heap.size) := by have := HF6.out.lt; have := HG.out; show g < _; omega
    obtain ⟨rf, hrf⟩ : ∃ rf, rf = F l1 := ⟨_, rfl⟩
    rw [← hrf] at HR2 HUN
    clear hrf
    cases rf with
    | error z =>
      have HRZ : Hid (R = .error z) := HR2.out
      apply Iy.wp_region 5 [2] (fun n => []) (Ix.Rb) (fun mm vs wi => Hid (Chg g w6 wi) ∧ (match mm with | 0 => Pb wi g fin (d + 1) l1 | _ + 1 => True)) (Ix.vk [(Ix.kis (.agg #[.int .i64 nb, .bool nsg])), (Ix.kis _), (Ix.ksat (fun _ => False)), (Ix.ksat (fun _ => False)), (Ix.ksat (fun _ => False))]) (fun _ => false) (by kernel_rfl) (by kernel_rfl) (by kernel_rfl) (by kernel_rfl) (by kernel_rfl) (fun n vs vs' w hk h => h) (fun _ => Below.refl _ _) (fun n vs _ _ h hb => ⟨h.1.out.trans (Chg.of_below hb), by cases n with | zero => exact h.2.keep hb | succ n => trivial⟩) (Ix.vk_keeps _) (Ix.not_al _) (fun vs => ⟨Chg.of_below (Ext.drew (Below.refl _ _)), HPB.out.keep (Ext.drew (Below.refl _ _))⟩)
      case step =>
        refine zys 4 0 1 [] (fun _ _ wi HB => ?_) <| zys 3 1 2 [] (fun _ _ wi HB => ?_) <| zyc 2 2 3 0 [(1, some 92)] (fun vsp wi HB => ?_) <| zys 1 3 4 [(2, some 93)] (fun _ _ wi HB => ?_) <| zys 0 4 5 [(0, some 91), (3, some 94)] (fun _ _ wi HB => ?_) <| Iy.steps_nil
        (· (obtain ⟨HM, _⟩ := HB; have hz := HT6.out _ HM.out; have e0 := hz.cell 0; have e1 := hz.cell 1; (repeat (refine zya ?_; rintro _ rfl)); refine zye ?_; (try simp only [zyp]); refine Iy.goI_yes rfl rfl fun K hK => ?_; (try simp only [zyp] at hK); go_wp2_with (first | fail); exact hK _ _ (Below.refl _ _) rfl))
        (· ((repeat (refine zya ?_; rintro _ rfl)); refine zye ?_; (try simp only [zyp]); refine Iy.goI_yes rfl rfl fun K hK => ?_; (try simp only [zyp] at hK); go_wp2_with (first | fail); exact hK _ _ (Below.refl _ _) rfl))
        (· (obtain ⟨HM, hpb⟩ := HB; refine zya ?_; rintro _ ⟨rfl, ev1⟩; refine zye ?_; (try simp only [zyp]); refine Iy.goI_yes rfl rfl fun K hK => ?_; (try simp only [zyp] at hK); go_wp2_with (first | (go_at_call 90; refine (HUN.out _ hpb).mono ?_; rintro e wa ⟨hca, hpa, rfl⟩)); refine Ix.onlyP fun tz => ?_; go_wp2_with (fail); have e9 := HRZ.out; subst e9; have HP4 := Lib.hid hpa; (obtain ⟨v, f, D, hbk⟩ := HP4.out; refine leaves_cons (f := 89) (args := #[P b]) (by simp) (by simp [go_sem]) ?_; refine (pundeep_ok wa g b v f D _ hbk HD2.out.1 ((HM.out.trans hca).cell HD2.out.1 HCB6.out)).mono ?_; rintro e u' w5 ⟨rfl, rfl, rfl⟩; simp only [Leaves, settle, Oops]; exact ⟨Chg.setCell (HF6.out.chg.trans (HM.out.trans hca)) 2 _, ParA.up hbk, rfl⟩)))
        (· (obtain ⟨HM, _⟩ := HB; have hz := HT6.out _ HM.out; have e0 := hz.cell 0; have e1 := hz.cell 1; refine zya ?_; rintro _ hf2; refine zye ?_; (try simp only [zyp]); refine Iy.goI_yes rfl rfl fun K hK => ?_; (try simp only [zyp] at hK); exact hf2.elim; skip))
        (· (obtain ⟨HM, _⟩ := HB; have hz := HT6.out _ HM.out; have e0 := hz.cell 0; have e1 := hz.cell 1; refine zya ?_; rintro _ rfl; refine zya ?_; rintro _ hf3; refine zye ?_; (try simp only [zyp]); refine Iy.goI_yes rfl rfl fun K hK => ?_; (try simp only [zyp] at hK); exact hf3.elim; skip))
      intro vsf wf HF hdf
      refine zyv 4 0 1 ?_; rintro _ _ rfl; refine zyv 3 1 2 ?_; rintro _ _ rfl; refine zyv 2 2 3 ?_; rintro _ _ hf2; refine zyv 1 3 4 ?_; rintro _ _ hf3; refine zyv 0 4 5 ?_; rintro _ _ hf4
      refine Ix.allV_nil ?_
      (try simp only [Act.put, List.setIfInBounds_toArray, List.set_cons_zero, List.set_cons_succ, List.drop_succ_cons, List.drop_zero])
      go_wp2_with (first | fail)
      all_goals (first | refine Ix.only ?_ | (refine Ix.onlyP fun tz => ?_))
      all_goals exact hf2.elim
    | ok pf =>
      obtain ⟨y, l2⟩ := pf
      obtain rfl : R = .ok (.mk 5 0 nb nsg ⟨#[]⟩ [y], l2) := HR2.out
      apply Iy.wp_region 5 [2] (fun n => []) (Ix.Rb) (fun mm vs wi => Hid (Chg g w6 wi) ∧ (match mm with | 0 => Pb wi g fin (d + 1) l1 | _ + 1 => Pb wi g fin (d + 1) l2)) (Ix.vk [(Ix.kis (.agg #[.int .i64 nb, .bool nsg])), (Ix.kis _), (Ix.kwld (fun v w' => ∃ ya yc, v = Value.agg #[.int .i64 y.kind, .int .u64 y.num, .int .i64 y.bits, .bool y.sg, .string y.name, .slice ya y.kids.length yc] ∧ XIn w' (fun k => w6.heap.size ≤ k) y (X.cells y.kind y.num y.bits y.sg y.name (.slice ya y.kids.length yc))) (fun v w1 w2 h hb => by obtain ⟨ya, yc, e, hi⟩ := h; exact ⟨ya, yc, e, hi.keep hb⟩)), (Ix.kwld (fun v w' => ∃ t ya yc, v = Value.slice (some ⟨t, 0, none⟩) 1 1 ∧ w6.heap.size ≤ t ∧ Blk w' t 54 #[.int .i64 y.kind, .int .u64 y.num, .int .i64 y.bits, .bool y.sg, .string y.name, .slice ya y.kids.length yc] ∧ XIn w' (fun k => w6.heap.size ≤ k) y (X.cells y.kind y.num y.bits y.sg y.name (.slice ya y.kids.length yc))) (fun v w1 w2 h hb => by obtain ⟨t, ya, yc, e, hl, hi, hx⟩ := h; exact ⟨t, ya, yc, e, hl, hi.keep hb, hx.keep hb⟩)), (Ix.kwld (fun v w' => ∃ t ya yc, v = Value.agg #[.int .i64 5, .int .u64 0, .int .i64 nb, .bool nsg, .string ⟨#[]⟩, .slice (some ⟨t, 0, none⟩) 1 1] ∧ w6.heap.size ≤ t ∧ Blk w' t 54 #[.int .i64 y.kind, .int .u64 y.num, .int .i64 y.bits, .bool y.sg, .string y.name, .slice ya y.kids.length yc] ∧ XIn w' (fun k => w6.heap.size ≤ k) y (X.cells y.kind y.num y.bits y.sg y.name (.slice ya y.kids.length yc))) (fun v w1 w2 h hb => by obtain ⟨t, ya, yc, e, hl, hi, hx⟩ := h; exact ⟨t, ya, yc, e, hl, hi.keep hb, hx.keep hb⟩))]) (fun _ => false) (by kernel_rfl) (by kernel_rfl) (by kernel_rfl) (by kernel_rfl) (by kernel_rfl) (fun n vs vs' w hk h => h) (fun _ => Below.refl _ _) (fun n vs _ _ h hb => ⟨h.1.out.trans (Chg.of_below hb), by cases n with | zero => exact h.2.keep hb | succ n => exact h.2.keep hb⟩) (Ix.vk_keeps _) (Ix.not_al _) (fun vs => ⟨Chg.of_below (Ext.drew (Below.refl _ _)), HPB.out.keep (Ext.drew (Below.refl _ _))⟩)
      case step =>
        refine zys 4 0 1 [] (fun _ _ wi HB => ?_) <| zys 3 1 2 [] (fun _ _ wi HB => ?_) <| zyc 2 2 3 0 [(1, some 92)] (fun vsp wi HB => ?_) <| zys 1 3 4 [(2, some 93)] (fun _ _ wi HB => ?_) <| zys 0 4 5 [(0, some 91), (3, some 94)] (fun _ _ wi HB => ?_) <| Iy.steps_nil
        (· (obtain ⟨HM, _⟩ := HB; have hz := HT6.out _ HM.out; have e0 := hz.cell 0; have e1 := hz.cell 1; (repeat (refine zya ?_; rintro _ rfl)); refine zye ?_; (try simp only [zyp]); refine Iy.goI_yes rfl rfl fun K hK => ?_; (try simp only [zyp] at hK); go_wp2_with (first | fail); exact hK _ _ (Below.refl _ _) rfl))
        (· ((repeat (refine zya ?_; rintro _ rfl)); refine zye ?_; (try simp only [zyp]); refine Iy.goI_yes rfl rfl fun K hK => ?_; (try simp only [zyp] at hK); go_wp2_with (first | fail); exact hK _ _ (Below.refl _ _) rfl))
        (· (obtain ⟨HM, hpb⟩ := HB; refine zya ?_; rintro _ ⟨rfl, ev1⟩; refine zye ?_; (try simp only [zyp]); refine Iy.goI_yes rfl rfl fun K hK => ?_; (try simp only [zyp] at hK); go_wp2_with (first | (go_at_call 90; refine (HUN.out _ hpb).mono ?_; rintro e wa ⟨hca, hpa, cs, rfl, hin, hpb2⟩; obtain ⟨ya, yc, rfl⟩ := Pw.form hin)); exact hK _ _ ⟨⟨HM.out.trans hca, hpb2⟩, Iy.vk_turn (by repeat (first | exact True.intro | refine And.intro (fun _ h => h) ?_ | refine And.intro (fun hne => absurd rfl hne) ?_ | refine And.intro (fun _ h => (by obtain ⟨t9, y9, c9, e9, h9⟩ := h; exact ⟨t9, y9, c9, e9, bin_far HG6.out hca h9⟩)) ?_))⟩ ⟨ya, yc, rfl, hin.move fun k hk hl => ⟨Nat.le_trans HM.out.size hk, rfl⟩⟩))
        (· (obtain ⟨HM, _⟩ := HB; have hz := HT6.out _ HM.out; have e0 := hz.cell 0; have e1 := hz.cell 1; refine zya ?_; rintro _ ⟨ya, yc, rfl, hyi⟩; refine zye ?_; (try simp only [zyp]); refine Iy.goI_yes rfl rfl fun K hK => ?_; (try simp only [zyp] at hK); go_wp2_with (first | fail); exact hK _ _ (Ext.alloc (Below.refl _ _) _) ⟨_, ya, yc, rfl, HM.out.size, Blk.new _ _ _, hyi.keep (Ext.alloc (Below.refl _ _) _)⟩))
        (· (obtain ⟨HM, _⟩ := HB; have hz := HT6.out _ HM.out; have e0 := hz.cell 0; have e1 := hz.cell 1; refine zya ?_; rintro _ rfl; refine zya ?_; rintro _ ⟨tb, ya2, yc2, rfl, htl, htb, hyi2⟩; refine zye ?_; (try simp only [zyp]); refine Iy.goI_yes rfl rfl fun K hK => ?_; (try simp only [zyp] at hK); go_wp2_with (first | fail); exact hK _ _ (Below.refl _ _) ⟨_, _, _, rfl, htl, htb, hyi2⟩))
      intro vsf wf HF hdf
      refine zyv 4 0 1 ?_; rintro _ _ rfl; refine zyv 3 1 2 ?_; rintro _ _ rfl; refine zyv 2 2 3 ?_; rintro _ _ ⟨ya, yc, rfl, hyi⟩; refine zyv 1 3 4 ?_; rintro _ _ ⟨tb, ya2, yc2, rfl, htl, htb, hyi2⟩; refine zyv 0 4 5 ?_; rintro _ _ ⟨tf, yaf, ycf, rfl, htlf, htbf, hyif⟩
      refine Ix.allV_nil ?_
      obtain ⟨HMF, hpbf⟩ := HF; have HFF := HF6.out.step HG.out HMF.out
      (try simp only [Act.put, List.setIfInBounds_toArray, List.set_cons_zero, List.set_cons_succ, List.drop_succ_cons, List.drop_zero])
      go_wp2_with (first | (refine wpList_store_row rfl 54 _ _ rfl w.heap.size #[.int .i64 5, .int .u64 0, .int .i64 nb, .bool nsg, .string ⟨#[]⟩, .slice (some ⟨tf, 0, none⟩) 1 1] rfl rfl 54 Pw.zX HFF.z (by kernel_rfl) rfl (Pw.one _ _ _ _ _ _ _ _) ?_))
      all_goals (first | refine Ix.only ?_ | (refine Ix.onlyP fun tz => ?_))
      go_wp2_with (fail)
      have hx := XIn.one 5 0 nb nsg ⟨#[]⟩ (p := fun k => w.heap.size < k) (hyif.move fun k hk hl => ⟨Nat.lt_of_lt_of_le HF6.out.lt hk, rfl⟩) (Nat.lt_of_lt_of_le HF6.out.lt htlf) htbf
      (obtain ⟨row, hrow⟩ : ∃ row : Array Value, row = #[.int .i64 5, .int .u64 0, .int .i64 nb, .bool nsg, .string ⟨#[]⟩, .slice (some ⟨tf, 0, none⟩) 1 1] := ⟨_, rfl⟩; rw [← hrow]; obtain ⟨v, hbk, hcb, hz, hpost⟩ := Fz.upX (b := b) (HFF) HG.out (Nat.le_of_lt HDD.out) (hpbf) (hx) row hrow HD2.out.1 (Nat.lt_of_lt_of_le HLB.out HD2.out.2.1) (HMF.out.cell HD2.out.1 HCB6.out); refine leaves_cons (f := 89) (args := #[P b]) (by simp) (by simp [go_sem]) ?_; refine (pundeep_ok _ g b v _ _ _ hbk HD2.out.1 hcb).mono ?_; rintro e u' w6 ⟨rfl, rfl, rfl⟩; exact ⟨_, Pw.res_cell rfl _ _ w.heap.size 54 row (0, 0) _ rfl hz Try.underlying54 rfl (by subst hrow; kernel_rfl), hpost⟩)
end Go.Proofs.Ytfkndjifhmkojaa

/- Walk of parser.unary: what primary reads. No condition. -/
namespace Go.Proofs.Ytfkndjifhmkojaa
open Go.RowKit
set_option linter.unusedVariables false
set_option linter.unusedSimpArgs false
set_option maxRecDepth 100000
theorem wend (w : World) (g fin d : Nat) {w0 wr : World} {y : X} {cs : List Value} (hl : w.heap.size < wr.heap.size) (h : XIn w0 (fun b => wr.heap.size ≤ b) y cs) : XIn w0 (fun b => w.heap.size < b) y cs := h.move fun k hk _ => ⟨Nat.lt_of_lt_of_le hl hk, rfl⟩
set_option maxHeartbeats 4000000 in
theorem punary_nil (w : World) (g fin d : Nat) (h : Pb w g fin d []) (r : Ps.Res X)
    (hpr : ∀ w1 : World, Pb w1 g fin d [] → Calls Try.prog 123 #[P g] w1 (PxR g fin d w1 r)) :
    Calls Try.prog 90 #[P g] w (PxR g fin d w r) := by
  have hgl : g < w.heap.size := by obtain ⟨v, hb, _⟩ := h; exact hb.lt
  have HG := Lib.hid hgl
  obtain ⟨w0, hw0⟩ : ∃ w0, w0 = w.alloc (.cells Pw.zX 54) := ⟨_, rfl⟩
  have HF0 : Hid (Fz w g 54 Pw.zX w0) := by show Fz _ _ _ _ _; rw [hw0]; exact Fz.new ..
  have hp0 : Pb w0 g fin d [] := by rw [hw0]; exact h.keep (Ext.alloc (Below.refl _ _) _)
  have HP0 := Lib.hid hp0
  have HPR := Lib.hid hpr
  have HSA := Lib.hid (psees_ok w0 g fin d [] [40] hp0)
  rw [show Ps.sees [40] [] = false from rfl] at HSA
  obtain ⟨v, hb, ht⟩ := hp0
  obtain ⟨a, c, rfl, _, _⟩ := ht.sl
  have p0 := hb.cell 0
  clear h hb ht hpr hgl
  go_enter_defers Try.func90, Try.ntmps90
  go_upto_region 1 with (fail)
  rw [← hw0]
  clear hw0
  go_wp2_with (first | (go_at_call 43; refine HSA.out.mono ?_; rintro e w' ⟨rfl, rfl⟩) | (go_at_call 123; refine (HPR.out _ (HP0.out)).mono ?_; rintro e w4 ⟨hc4, hp4, hr4⟩; have HC4 := Lib.hid hc4; have HP4 := Lib.hid hp4; clear hc4 hp4; rcases r with z | ⟨y, l2⟩; (obtain rfl := hr4); rotate_left; (obtain ⟨cs, rfl, hin, hpb⟩ := hr4; obtain ⟨ya, yc, rfl⟩ := Pw.form hin; have HIN := Lib.hid hin; have HPB := Lib.hid hpb; have HF4 := Lib.hid ((HF0.out).step HG.out HC4.out); have HLW := Lib.hid (HF0.out).lt; clear hin hpb); rotate_left) | (refine wpList_store_row rfl 54 _ _ rfl w.heap.size #[.int .i64 y.kind, .int .u64 y.num, .int .i64 y.bits, .bool y.sg, .string y.name, .slice ya y.kids.length yc] rfl rfl 54 Pw.zX HF4.out.z (by kernel_rfl) rfl (Pw.one _ _ _ _ _ _ _ _) ?_))
  · exact ⟨HF0.out.chg.trans HC4.out, HP4.out, rfl⟩
  · (obtain ⟨row, hrow⟩ : ∃ row : Array Value, row = #[.int .i64 y.kind, .int .u64 y.num, .int .i64 y.bits, .bool y.sg, .string y.name, .slice ya y.kids.length yc] := ⟨_, rfl⟩; rw [← hrow])
    (exact ⟨_, Pw.res_cell rfl _ _ w.heap.size 54 row (0, 0) _ rfl (Fz.rw (HF4.out) HG.out (HPB.out) row).2.2.1 Try.underlying54 rfl (by subst hrow; kernel_rfl), Fz.rowX (HF4.out) HG.out (HPB.out) (wend w g fin d HLW.out HIN.out) row hrow⟩)
set_option maxHeartbeats 8000000 in
theorem punary_prim (w : World) (g fin d : Nat) (t : Tk.Tok) (l : List Tk.Tok) (h : Pb w g fin d (t :: l)) (hns : ¬ (t.kind = 3 ∧ 0 < Ps.un t.text)) (hca : Ps.casts (t :: l) = none) (r : Ps.Res X)
    (hpr : ∀ w1 : World, Pb w1 g fin d (t :: l) → Calls Try.prog 123 #[P g] w1 (PxR g fin d w1 r)) :
    Calls Try.prog 90 #[P g] w (PxR g fin d w r) := by
  have hgl : g < w.heap.size := by obtain ⟨v, hb, _⟩ := h; exact hb.lt
  have HG := Lib.hid hgl
  obtain ⟨w0, hw0⟩ : ∃ w0, w0 = w.alloc (.cells Pw.zX 54) := ⟨_, rfl⟩
  have HF0 : Hid (Fz w g 54 Pw.zX w0) := by show Fz _ _ _ _ _; rw [hw0]; exact Fz.new ..
  have hp0 : Pb w0 g fin d (t :: l) := by rw [hw0]; exact h.keep (Ext.alloc (Below.refl _ _) _)
  have HUK : Hid (∀ w1 : World, Calls Try.prog 122 #[.string ⟨t.text.toArray⟩] w1 fun e w' => e = .returned (.int .i64 (Ps.un t.text)) ∧ Below w1.heap.size w1 w') := fun w1 => unK t (by obtain ⟨v2, hb2, ht2⟩ := h; exact ht2.ok.len) w1
  obtain ⟨KD, hKD⟩ : ∃ KD, KD = Ps.un t.text := ⟨_, rfl⟩
  rw [← hKD] at HUK hns
  have HP0 := Lib.hid hp0
  have HPR := Lib.hid hpr
  obtain ⟨v, hb, ht⟩ := hp0
  obtain ⟨q, off, c, hq, rfl, hlc, hcm, c0, c1, _⟩ := ht.hd
  have p0 := hb.cell 0
  have ql : decide ((l.length : Int) + 1 > 0) = true := decide_eq_true (by omega)
  have HNS := Lib.hid hns
  have HCA := Lib.hid hca
  clear h hb ht hpr hgl hns hKD hca
  go_enter_defers Try.func90, Try.ntmps90
  go_upto_region 1 with (fail)
  rw [← hw0]
  clear hw0
  go_upto_if 21 with (fail)
  go_cut [3] from 6 to 97 (fun kx wx => Hid (Below w0.heap.size w0 wx))
  case first =>
    by_cases hk : t.kind = 3
    · have qk : (t.kind == 3) = true := by simpa using hk
      have qu : decide (KD > 0) = false := decide_eq_false (fun h => HNS.out ⟨hk, h⟩)
      clear hk
      go_wp2_with (first | (go_at_call 122; refine (HUK.out _).mono ?_; rintro e w1 ⟨rfl, hb1⟩; have HB1 := Lib.hid hb1; clear hb1))
      go_meet
      case rel => exact HB1.out
    · have qk : (t.kind == 3) = false := by simpa using hk
      clear hk
      go_wp2_with (fail)
      go_meet
      case rel => exact Below.refl _ _
  case rest =>
    obtain ⟨wa, hwa⟩ : ∃ wa, wa = wc := ⟨_, rfl⟩
    rw [← hwa] at hcut ⊢
    clear hwa
    have HCU := Lib.hid hcut.out
    clear hcut p0 c0 c1 HNS HUK
    have HPA := Lib.hid (HP0.out.keep HCU.out)
    have HFA : Hid (Fz w g 54 Pw.zX wa) := HF0.out.below HCU.out
    obtain ⟨Z, hZ⟩ : ∃ Z, Ps.sees [40] (t :: l) = Z := ⟨_, rfl⟩
    have HSA := Lib.hid (psees_ok wa g fin d (t :: l) [40] HPA.out)
    rw [hZ] at HSA
    cases Z with
    | false =>
      clear hZ
      go_wp2_with (first | (go_at_call 43; refine HSA.out.mono ?_; rintro e w' ⟨rfl, rfl⟩) | (go_at_call 123; refine (HPR.out _ (HPA.out)).mono ?_; rintro e w4 ⟨hc4, hp4, hr4⟩; have HC4 := Lib.hid hc4; have HP4 := Lib.hid hp4; clear hc4 hp4; rcases r with z | ⟨y, l2⟩; (obtain rfl := hr4); rotate_left; (obtain ⟨cs, rfl, hin, hpb⟩ := hr4; obtain ⟨ya, yc, rfl⟩ := Pw.form hin; have HIN := Lib.hid hin; have HPB := Lib.hid hpb; have HF4 := Lib.hid ((HFA.out).step HG.out HC4.out); have HLW := Lib.hid (HFA.out).lt; clear hin hpb); rotate_left) | (refine wpList_store_row rfl 54 _ _ rfl w.heap.size #[.int .i64 y.kind, .int .u64 y.num, .int .i64 y.bits, .bool y.sg, .string y.name, .slice ya y.kids.length yc] rfl rfl 54 Pw.zX HF4.out.z (by kernel_rfl) rfl (Pw.one _ _ _ _ _ _ _ _) ?_))
      · exact ⟨HFA.out.chg.trans HC4.out, HP4.out, rfl⟩
      · (obtain ⟨row, hrow⟩ : ∃ row : Array Value, row = #[.int .i64 y.kind, .int .u64 y.num, .int .i64 y.bits, .bool y.sg, .string y.name, .slice ya y.kids.length yc] := ⟨_, rfl⟩; rw [← hrow])
        (exact ⟨_, Pw.res_cell rfl _ _ w.heap.size 54 row (0, 0) _ rfl (Fz.rw (HF4.out) HG.out (HPB.out) row).2.2.1 Try.underlying54 rfl (by subst hrow; kernel_rfl), Fz.rowX (HF4.out) HG.out (HPB.out) (wend w g fin d HLW.out HIN.out) row hrow⟩)
    | true =>
      have hsk : t.kind ≠ 2 ∧ t.text = [40] := by
        have h1 : (t.kind != 2 && t.text == [40]) = true := hZ
        simpa using h1
      have hty : Ps.typed l = none := by
        have h1 := HCA.out
        rwa [Ps.casts, if_pos hsk] at h1
      clear hZ hsk
      obtain ⟨va, hba, hta⟩ := HPA.out
      have p0 := hba.cell 0
      cases l with
      | nil =>
        obtain ⟨qa, offa, ca, hqa, rfl, hlca, hcma, _⟩ := hta.hd
        have ql2 : decide (((([] : List Tk.Tok).length : Nat) : Int) + 1 > 1) = false := rfl
        clear hba hta hty
        go_wp2_with (first | (go_at_call 43; refine HSA.out.mono ?_; rintro e w' ⟨rfl, rfl⟩) | (go_at_call 123; refine (HPR.out _ (HPA.out)).mono ?_; rintro e w4 ⟨hc4, hp4, hr4⟩; have HC4 := Lib.hid hc4; have HP4 := Lib.hid hp4; clear hc4 hp4; rcases r with z | ⟨y, l2⟩; (obtain rfl := hr4); rotate_left; (obtain ⟨cs, rfl, hin, hpb⟩ := hr4; obtain ⟨ya, yc, rfl⟩ := Pw.form hin; have HIN := Lib.hid hin; have HPB := Lib.hid hpb; have HF4 := Lib.hid ((HFA.out).step HG.out HC4.out); have HLW := Lib.hid (HFA.out).lt; clear hin hpb); rotate_left) | (refine wpList_store_row rfl 54 _ _ rfl w.heap.size #[.int .i64 y.kind, .int .u64 y.num, .int .i64 y.bits, .bool y.sg, .string y.name, .slice ya y.kids.length yc] rfl rfl 54 Pw.zX HF4.out.z (by kernel_rfl) rfl (Pw.one _ _ _ _ _ _ _ _) ?_))
        · exact ⟨HFA.out.chg.trans HC4.out, HP4.out, rfl⟩
        · (obtain ⟨row, hrow⟩ : ∃ row : Array Value, row = #[.int .i64 y.kind, .int .u64 y.num, .int .i64 y.bits, .bool y.sg, .string y.name, .slice ya y.kids.length yc] := ⟨_, rfl⟩; rw [← hrow])
          (exact ⟨_, Pw.res_cell rfl _ _ w.heap.size 54 row (0, 0) _ rfl (Fz.rw (HF4.out) HG.out (HPB.out) row).2.2.1 Try.underlying54 rfl (by subst hrow; kernel_rfl), Fz.rowX (HF4.out) HG.out (HPB.out) (wend w g fin d HLW.out HIN.out) row hrow⟩)
      | cons u l =>
        obtain ⟨qa, offa, ca, hqa, rfl, hlca, hcma, _⟩ := hta.hd
        obtain ⟨_, k6, k7, hutl⟩ := hta.hd2
        have ql2 : decide ((l.length : Int) + 1 + 1 > 1) = true := decide_eq_true (by omega)
        obtain ⟨nb, nsg, nok, hnt⟩ : ∃ b s o, W.nt u.text = (b, s, o) := ⟨_, _, _, rfl⟩
        have HNA : Hid (∀ wi : World, Calls Try.prog 42 #[.string ⟨u.text.toArray⟩] wi fun e w' => e = .returned (.tuple #[W.ty nb nsg, .bool nok]) ∧ Below wi.heap.size wi w') := fun wi => by
          have := named_ok ⟨u.text.toArray⟩ (by rw [Tk.size_is]; show u.text.toArray.toList.length ≤ _; unfold maxLen; simp; omega) wi
          rw [show (⟨u.text.toArray⟩ : ByteArray).data.toList = u.text by simp, hnt] at this
          exact this
        have HNO : Hid (nok = true → ¬ u.kind = 1) := fun h1 h2 => by
          rw [Ps.typed, if_pos ⟨h2, by rw [hnt]; exact h1⟩] at hty
          cases hty
        clear hba hta hty hnt hutl
        go_upto_region 8 with (first | (go_at_call 43; refine HSA.out.mono ?_; rintro e w' ⟨rfl, rfl⟩))
        go_upto_region 9 with (first | (go_at_call 42; refine (HNA.out _).mono ?_; rintro e w3 ⟨rfl, hb3⟩; have HB3 := Lib.hid hb3; clear hb3))
        generalize hw5 : World.alloc w3 _ = w5
        have HB5 : Hid (Below wa.heap.size wa w5) := by show Below _ _ _; rw [← hw5]; exact Ext.alloc HB3.out _
        have HF5 : Hid (Fz w g 54 Pw.zX w5) := HFA.out.below HB5.out
        have HP5 := Lib.hid (HPA.out.keep HB5.out)
        clear hw5 k6 k7 p0
        obtain ⟨vb, hbb, htb⟩ := HP5.out
        obtain ⟨qb, offb, cb, hqb, rfl, hlcb, hcmb, _⟩ := htb.hd
        obtain ⟨_, k6, k7, _⟩ := htb.hd2
        have p0 := hbb.cell 0
        clear hbb htb
        cases nok with
        | false =>
          go_wp2_with (first | (go_at_call 123; refine (HPR.out _ (HP5.out)).mono ?_; rintro e w4 ⟨hc4, hp4, hr4⟩; have HC4 := Lib.hid hc4; have HP4 := Lib.hid hp4; clear hc4 hp4; rcases r with z | ⟨y, l2⟩; (obtain rfl := hr4); rotate_left; (obtain ⟨cs, rfl, hin, hpb⟩ := hr4; obtain ⟨ya, yc, rfl⟩ := Pw.form hin; have HIN := Lib.hid hin; have HPB := Lib.hid hpb; have HF4 := Lib.hid ((HF5.out).step HG.out HC4.out); have HLW := Lib.hid (HF5.out).lt; clear hin hpb); rotate_left) | (refine wpList_store_row rfl 54 _ _ rfl w.heap.size #[.int .i64 y.kind, .int .u64 y.num, .int .i64 y.bits, .bool y.sg, .string y.name, .slice ya y.kids.length yc] rfl rfl 54 Pw.zX HF4.out.z (by kernel_rfl) rfl (Pw.one _ _ _ _ _ _ _ _) ?_))
          · exact ⟨HF5.out.chg.trans HC4.out, HP4.out, rfl⟩
          · (obtain ⟨row, hrow⟩ : ∃ row : Array Value, row = #[.int .i64 y.kind, .int .u64 y.num, .int .i64 y.bits, .bool y.sg, .string y.name, .slice ya y.kids.length yc] := ⟨_, rfl⟩; rw [← hrow])
            (exact ⟨_, Pw.res_cell rfl _ _ w.heap.size 54 row (0, 0) _ rfl (Fz.rw (HF4.out) HG.out (HPB.out) row).2.2.1 Try.underlying54 rfl (by subst hrow; kernel_rfl), Fz.rowX (HF4.out) HG.out (HPB.out) (wend w g fin d HLW.out HIN.out) row hrow⟩)
        | true =>
          have qu1 : (u.kind == 1) = false := by simpa using HNO.out rfl
          go_wp2_with (first | (go_at_call 123; refine (HPR.out _ (HP5.out)).mono ?_; rintro e w4 ⟨hc4, hp4, hr4⟩; have HC4 := Lib.hid hc4; have HP4 := Lib.hid hp4; clear hc4 hp4; rcases r with z | ⟨y, l2⟩; (obtain rfl := hr4); rotate_left; (obtain ⟨cs, rfl, hin, hpb⟩ := hr4; obtain ⟨ya, yc, rfl⟩ := Pw.form hin; have HIN := Lib.hid hin; have HPB := Lib.hid hpb; have HF4 := Lib.hid ((HF5.out).step HG.out HC4.out); have HLW := Lib.hid (HF5.out).lt; clear hin hpb); rotate_left) | (refine wpList_store_row rfl 54 _ _ rfl w.heap.size #[.int .i64 y.kind, .int .u64 y.num, .int .i64 y.bits, .bool y.sg, .string y.name, .slice ya y.kids.length yc] rfl rfl 54 Pw.zX HF4.out.z (by kernel_rfl) rfl (Pw.one _ _ _ _ _ _ _ _) ?_))
          · exact ⟨HF5.out.chg.trans HC4.out, HP4.out, rfl⟩
          · (obtain ⟨row, hrow⟩ : ∃ row : Array Value, row = #[.int .i64 y.kind, .int .u64 y.num, .int .i64 y.bits, .bool y.sg, .string y.name, .slice ya y.kids.length yc] := ⟨_, rfl⟩; rw [← hrow])
            (exact ⟨_, Pw.res_cell rfl _ _ w.heap.size 54 row (0, 0) _ rfl (Fz.rw (HF4.out) HG.out (HPB.out) row).2.2.1 Try.underlying54 rfl (by subst hrow; kernel_rfl), Fz.rowX (HF4.out) HG.out (HPB.out) (wend w g fin d HLW.out HIN.out) row hrow⟩)
end Go.Proofs.Ytfkndjifhmkojaa

/- Walk of parser.primary: brackets; numbers. No condition. -/
namespace Go.Proofs.Ytfkndjifhmkojaa
open Go.RowKit
set_option linter.unusedVariables false
set_option linter.unusedSimpArgs false
set_option maxRecDepth 100000
set_option maxHeartbeats 8000000 in
theorem pprim_par (w : World) (g fin d : Nat) (L : List Tk.Tok) (h : Pb w g fin d L) (hs : Ps.sees [40] L = true) (E : List Tk.Tok → Ps.Res X)
    (hex : ∀ (w1 : World) (l1 : List Tk.Tok), l1.length < L.length → Pb w1 g fin d l1 → Calls Try.prog 46 #[P g] w1 (PxR g fin d w1 (E l1))) :
    Calls Try.prog 123 #[P g] w (PxR g fin d w (Ps.seq (E L.tail) fun x l => Ps.seq (Ps.need fin [41] l) fun _ l => .ok (x, l))) := by
  have hgl : g < w.heap.size := by obtain ⟨v, hb, _⟩ := h; exact hb.lt
  have HG := Lib.hid hgl
  obtain ⟨w0, hw0⟩ : ∃ w0, w0 = w.alloc (.cells Pw.zX 54) := ⟨_, rfl⟩
  have HF0 : Hid (Fz w g 54 Pw.zX w0) := by show Fz _ _ _ _ _; rw [hw0]; exact Fz.new ..
  have hp0 : Pb w0 g fin d L := by rw [hw0]; exact h.keep (Ext.alloc (Below.refl _ _) _)
  have HIS := Lib.hid (pis_yes w0 g fin d L [40] hp0 hs)
  have HEX := Lib.hid (fun w1 (hp : Pb w1 g fin d L.tail) => hex w1 L.tail (Ps.sees_lt hs) hp)
  obtain ⟨R, hR⟩ : ∃ R, R = (Ps.seq (E L.tail) fun x l => Ps.seq (Ps.need fin [41] l) fun _ l => .ok (x, l)) := ⟨_, rfl⟩
  rw [← hR]
  obtain ⟨r, hr⟩ : ∃ r, r = E L.tail := ⟨_, rfl⟩
  rw [← hr] at hR HEX
  have HR := Lib.hid hR
  clear h hs hex hr hR hp0 hgl
  go_enter Try.func123, Try.ntmps123
  go_upto_region 1 with (fail)
  rw [← hw0]
  clear hw0
  go_upto_region 3 with (first | (go_at_call_of 21 (Value.string ⟨#[40]⟩); refine (HIS.out).mono ?_; rintro e w1 ⟨rfl, hc1, hb1⟩; have HCw1 := Lib.hid hc1; have HBw1 := Lib.hid hb1; clear hc1 hb1) | (go_at_call 46; refine (HEX.out _ HBw1.out).mono ?_; rintro e w2 ⟨hc4, hp4, hr4⟩; have HCw2 := Lib.hid hc4; have HPw2 := Lib.hid hp4; clear hc4 hp4; rcases r with z | ⟨y, l2⟩; (obtain rfl := hr4); rotate_left; (obtain ⟨cs, rfl, hin, hpb⟩ := hr4; obtain ⟨ya, yc, rfl⟩ := Pw.form hin; have HIN := Lib.hid hin; have HPB := Lib.hid hpb; clear hin hpb); rotate_left))
  · obtain rfl : R = .error z := HR.out
    exact ⟨rfl, ((HF0.out.step HG.out HCw1.out).chg.trans HCw2.out), HPw2.out, rfl⟩
  have HF2 : Hid (Fz w g 54 Pw.zX w2) := (HF0.out.step HG.out HCw1.out).step HG.out HCw2.out
  generalize hw3 : World.alloc w2 _ = w3
  obtain ⟨b3, hb3⟩ : ∃ b3, b3 = w2.heap.size := ⟨_, rfl⟩
  have HB3 : Hid (Below w2.heap.size w2 w3) := by show Below _ _ _; rw [← hw3]; exact Ext.alloc (Below.refl _ _) _
  have HY3 : Hid (Blk w3 b3 54 #[.int .i64 y.kind, .int .u64 y.num, .int .i64 y.bits, .bool y.sg, .string y.name, .slice ya y.kids.length yc]) := by show Blk _ _ _ _; rw [← hw3, hb3]; exact Blk.new _ _ _
  have HG3 : Hid (g < b3 ∧ w.heap.size < b3) := by have h1 := HF2.out.lt; have h2 := HG.out; exact ⟨by omega, by omega⟩
  have HF3 : Hid (Fz w g 54 Pw.zX w3) := HF2.out.below HB3.out
  have HX3 : Hid (XIn w3 (fun k => w.heap.size < k) y (X.cells y.kind y.num y.bits y.sg y.name (.slice ya y.kids.length yc))) := HIN.out.move fun k hk hl => ⟨Nat.lt_of_lt_of_le (HF0.out.step HG.out HCw1.out).lt hk, HB3.out.block k hl⟩
  rw [← hb3]
  clear hw3 hb3
  have HN := Lib.hid (pneed_ok w3 g fin d l2 [41] (HPB.out.keep HB3.out))
  have HR1 : Hid (R = Ps.seq (Ps.need fin [41] l2) fun _ l => .ok (y, l)) := HR.out
  obtain ⟨rn, hrn⟩ : ∃ rn, rn = Ps.need fin [41] l2 := ⟨_, rfl⟩
  rw [← hrn] at HN HR1
  clear hrn
  have HYN : Hid (∀ w4, Chg g w3 w4 → Blk w4 b3 54 #[.int .i64 y.kind, .int .u64 y.num, .int .i64 y.bits, .bool y.sg, .string y.name, .slice ya y.kids.length yc]) := fun w4 hc => (hc.block b3 HY3.out.lt (fun e => by injection e with e; have := HG3.out.1; omega)).trans HY3.out
  go_wp2_with (first | (go_at_call_of 44 (Value.string ⟨#[41]⟩); refine (HN.out).mono ?_; rintro e w4 ⟨hc6, hp6, hr6⟩; have HCw4 := Lib.hid hc6; have HPw4 := Lib.hid hp6; clear hc6 hp6; rcases rn with z | ⟨y0, l4⟩; (obtain rfl := hr6); rotate_left; (obtain ⟨rfl, hpb⟩ := hr6; have HPN := Lib.hid hpb; clear hpb); rotate_left) | (refine wpList_load_row rfl 54 _ rfl b3 rfl 54 #[.int .i64 y.kind, .int .u64 y.num, .int .i64 y.bits, .bool y.sg, .string y.name, .slice ya y.kids.length yc] (0, 0) _ (HYN.out _ HCw4.out) Try.underlying54 rfl (by kernel_rfl) ?_) | (refine wpList_store_row rfl 54 _ _ rfl w.heap.size #[.int .i64 y.kind, .int .u64 y.num, .int .i64 y.bits, .bool y.sg, .string y.name, .slice ya y.kids.length yc] rfl rfl 54 Pw.zX (HF3.out.step HG.out HCw4.out).z (by kernel_rfl) rfl (Pw.one _ _ _ _ _ _ _ _) ?_))
  · obtain rfl : R = .error z := HR1.out
    exact ⟨rfl, HF3.out.chg.trans HCw4.out, HPw4.out, rfl⟩
  · obtain rfl : R = .ok (y, l4) := HR1.out
    (obtain ⟨row, hrow⟩ : ∃ row : Array Value, row = #[.int .i64 y.kind, .int .u64 y.num, .int .i64 y.bits, .bool y.sg, .string y.name, .slice ya y.kids.length yc] := ⟨_, rfl⟩; rw [← hrow])
    have hx4 : XIn w4 (fun k => w.heap.size < k) y (X.cells y.kind y.num y.bits y.sg y.name (.slice ya y.kids.length yc)) := HX3.out.move fun k hk hl => ⟨hk, HCw4.out.block k hl (fun e => by injection e with e; have := HG.out; have hk : w.heap.size < k := hk; omega)⟩
    (exact bodyPost_ret (Pw.res_cell rfl _ _ w.heap.size 54 row (0, 0) _ rfl (Fz.rw (HF3.out.step HG.out HCw4.out) HG.out (HPN.out) row).2.2.1 Try.underlying54 rfl (by subst hrow; kernel_rfl)) rfl (Fz.rowX (HF3.out.step HG.out HCw4.out) HG.out (HPN.out) (hx4) row hrow))
set_option maxHeartbeats 8000000 in
theorem pprim_num (w : World) (g fin d : Nat) (t : Tk.Tok) (l : List Tk.Tok) (h : Pb w g fin d (t :: l)) (hk : t.kind = 2) :
    Calls Try.prog 123 #[P g] w (PxR g fin d w (.ok (.mk 1 t.n t.bits t.sg ⟨#[]⟩ [], l))) := by
  have hgl : g < w.heap.size := by obtain ⟨v, hb, _⟩ := h; exact hb.lt
  have HG := Lib.hid hgl
  obtain ⟨w0, hw0⟩ : ∃ w0, w0 = w.alloc (.cells Pw.zX 54) := ⟨_, rfl⟩
  have HF0 : Hid (Fz w g 54 Pw.zX w0) := by show Fz _ _ _ _ _; rw [hw0]; exact Fz.new ..
  have hp0 : Pb w0 g fin d (t :: l) := by rw [hw0]; exact h.keep (Ext.alloc (Below.refl _ _) _)
  have HP0 := Lib.hid hp0
  have HIS := Lib.hid (pis_no w0 g fin d (t :: l) [40] hp0 (by simp [Ps.sees, hk]))
  obtain ⟨v, hb, ht⟩ := hp0
  obtain ⟨q, off, c, hq, rfl, hlc, hcm, c0, c1, c2, c3, c4, c5⟩ := ht.hd
  have p0 := hb.cell 0
  have ql : decide ((l.length : Int) + 1 > 0) = true := decide_eq_true (by omega)
  have qk : (t.kind == 2) = true := by simpa using hk
  clear h hb ht hk hgl
  go_enter Try.func123, Try.ntmps123
  go_upto_region 1 with (fail)
  rw [← hw0]
  clear hw0
  go_upto_region 7 with (first | (go_at_call_of 21 (Value.string ⟨#[40]⟩); refine (HIS.out).mono ?_; rintro e w' ⟨rfl, rfl⟩))
  generalize hw1 : World.alloc w0 _ = w1
  obtain ⟨b1, hb1⟩ : ∃ b1, b1 = w0.heap.size := ⟨_, rfl⟩
  have HB1 : Hid (Below w0.heap.size w0 w1) := by show Below _ _ _; rw [← hw1]; exact Ext.alloc (Below.refl _ _) _
  have HY1 : Hid (Blk w1 b1 92 #[.int .i64 t.kind, .string ⟨t.text.toArray⟩, .int .u64 t.n, .int .i64 t.bits, .bool t.sg, .int .i64 (t.pos : Int)]) := by show Blk _ _ _ _; rw [← hw1, hb1]; exact Blk.new _ _ _
  have HG1 : Hid (g < b1 ∧ w.heap.size < b1) := by have h1 := HF0.out.lt; have h2 := HG.out; exact ⟨by omega, by omega⟩
  rw [← hb1]
  clear hw1 hb1 p0 c0 c1 c2 c3 c4 c5
  have HF1 : Hid (Fz w g 54 Pw.zX w1) := HF0.out.below HB1.out
  obtain ⟨v2, hb2, ht2⟩ := HP0.out.keep HB1.out
  obtain ⟨tq2, off2, tc2, htq2, rfl, hlc2, hcm2, _⟩ := ht2.hd
  have p0 := hb2.cell 0
  have z0 := hb2.frozen 0
  obtain ⟨a2, ha2⟩ : ∃ a2 : Option Addr, a2 = if tc2 = 1 then some ⟨tq2, off2, none⟩ else some ⟨tq2, off2 + 6, none⟩ := ⟨_, rfl⟩
  have hsl := fun w => tok_sl w tq2 off2 l.length tc2 a2 ha2
  have HTN := Lib.hid (Pb.tl hb2 ht2 a2 ha2)
  clear hb2 ht2 ha2
  go_upto_region 8 with (fail)
  generalize hw3 : World.setCell w1 _ _ = w3
  rw [hw3] at HTN
  clear hw3 p0 z0 hsl
  have HF3 : Hid (Fz w g 54 Pw.zX w3) := HF1.out.step HG.out HTN.out.1
  have hy3 : Blk w3 b1 92 _ := (HTN.out.1.block b1 HY1.out.lt (fun e => by injection e with e; have := HG1.out.1; omega)).trans HY1.out
  have k2 := hy3.cell 2
  have k3 := hy3.cell 3
  have k4 := hy3.cell 4
  clear hy3
  go_wp2_with (first | (refine wpList_store_row rfl 54 _ _ rfl w.heap.size #[.int .i64 1, .int .u64 t.n, .int .i64 t.bits, .bool t.sg, .string ⟨#[]⟩, .slice none 0 0] rfl rfl 54 Pw.zX HF3.out.z (by kernel_rfl) rfl (Pw.one _ _ _ _ _ _ _ _) ?_))
  (obtain ⟨row, hrow⟩ : ∃ row : Array Value, row = #[.int .i64 1, .int .u64 t.n, .int .i64 t.bits, .bool t.sg, .string ⟨#[]⟩, .slice none 0 0] := ⟨_, rfl⟩; rw [← hrow])
  have hx : XIn w3 (fun k => w.heap.size < k) (.mk 1 t.n t.bits t.sg ⟨#[]⟩ []) (X.cells 1 t.n t.bits t.sg ⟨#[]⟩ (.slice none 0 0)) := .mk 1 t.n t.bits t.sg ⟨#[]⟩ [] none 0 (fun _ => []) (Nat.le_refl _) (Nat.zero_le _) (fun i z hz => by simp at hz) (fun h => absurd h (Nat.lt_irrefl _))
  (exact bodyPost_ret (Pw.res_cell rfl _ _ w.heap.size 54 row (0, 0) _ rfl (Fz.rw (HF3.out) HG.out (HTN.out.2) row).2.2.1 Try.underlying54 rfl (by subst hrow; kernel_rfl)) rfl (Fz.rowX (HF3.out) HG.out (HTN.out.2) (hx) row hrow))
end Go.Proofs.Ytfkndjifhmkojaa
