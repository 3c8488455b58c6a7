/- Walk of parser.binary. No condition. -/
import Derived.Test.YtfkndjifhmkojaaPt2
import Derived.Test.YtfkndjifhmkojaaPB
import Derived.LoopTactic
import Derived.Deep.Cut
import Derived.Deep.QuietTactic
import Derived.BigQuiet
namespace Go.Proofs.Ytfkndjifhmkojaa
open Go.RowKit
set_option linter.unusedVariables false
set_option linter.unusedSimpArgs false
set_option maxRecDepth 100000
/-- One token further. -/
theorem tok_sl (w : World) (q off n c : Nat) (a : Option Addr) (ha : a = if c = 1 then some ⟨q, off, none⟩ else some ⟨q, off + 6, none⟩) :
    (Instr.slice 57 (.slice (some ⟨q, off, none⟩) (n + 1) c) (some (.int .i64 1)) none none).run Try.prog w = .ok (.slice a n (c - 1)) w := by
  have hz : ∀ w, (sizeOf (Try.prog.elem 57)).run Try.prog w = .ok 6 w := fun _ => by kernel_rfl
  rw [run_slice_l (ht := Try.underlying57) (kl := .i64) (l := 1) (h0 := by decide) (h1 := by omega), hz]
  subst ha
  show Result.ok (Go.sliced _ _ _ _ _) w = _
  unfold Go.sliced
  by_cases h : c = 1
  · subst h; simp
  · rw [if_neg h, if_neg (by simpa using h)]; simp [Addr.add]
/-- The levels from i on, as binary has them. -/
def lvV (q i : Nat) : Value := if i < 10 then .slice (some ⟨q, i, none⟩) (10 - i) (10 - i) else .slice (some ⟨q, 9, none⟩) 0 0
set_option maxHeartbeats 4000000 in
theorem pbin_last (w : World) (g fin d q : Nat) (l : List Tk.Tok) (h : Pb w g fin d l) (r : Ps.Res X)
    (hun : ∀ w1 : World, Pb w1 g fin d l → Calls Try.prog 90 #[P g] w1 (PxR g fin d w1 r)) :
    Calls Try.prog 69 #[P g, .slice (some ⟨q, 9, none⟩) 0 0] w (PxR g fin d w r) := by
  have hgl : g < w.heap.size := by obtain ⟨v, hb, _⟩ := h; exact hb.lt
  have HG := Lib.hid hgl
  have HB0 := Lib.hid (Ext.alloc (Below.refl w.heap.size w) (.cells Pw.zX 54))
  have HZ0 := Lib.hid (Blk.new w 54 Pw.zX)
  have HU := Lib.hid (hun _ (h.keep HB0.out))
  clear h hun hgl
  go_enter Try.func69, Try.ntmps69
  cases r with
  | error z =>
    go_wp2_with (first | (go_at_call 90; refine HU.out.mono ?_; rintro e w4 ⟨hc4, hp4, rfl⟩; have HC4 := Lib.hid hc4; have HP4 := Lib.hid hp4; clear hc4 hp4))
    exact ⟨rfl, (Chg.of_below HB0.out).trans HC4.out, HP4.out, rfl⟩
  | ok p =>
    obtain ⟨y, l2⟩ := p
    have hszA : (w.alloc (.cells Pw.zX 54)).heap.size = w.heap.size + 1 := by simp
    have HS := Lib.hid hszA
    clear hszA
    go_wp2_with (first | (go_at_call 90; refine HU.out.mono ?_; rintro e w4 ⟨hc4, hp4, cs, rfl, hin, hpb⟩; obtain ⟨ya, yc, rfl⟩ := Pw.form hin; have HIN := Lib.hid hin; have HPB := Lib.hid hpb; have HC4 := Lib.hid hc4; have HZ4 := Lib.hid (show Blk w4 w.heap.size 54 Pw.zX from (hc4.block w.heap.size (by have := HS.out; omega) (fun e => by injection e with e; have := HG.out; omega)).trans HZ0.out); clear hc4 hp4 hin hpb) | (refine wpList_store_row rfl 54 _ _ rfl w.heap.size #[.int .i64 y.kind, .int .u64 y.num, .int .i64 y.bits, .bool y.sg, .string y.name, .slice ya y.kids.length yc] rfl rfl 54 Pw.zX HZ4.out (by kernel_rfl) rfl (Pw.one _ _ _ _ _ _ _ _) ?_))
    have hgB : g ≠ w.heap.size := by have := HG.out; omega
    obtain ⟨row, hrow⟩ : ∃ row : Array Value, row = #[.int .i64 y.kind, .int .u64 y.num, .int .i64 y.bits, .bool y.sg, .string y.name, .slice ya y.kids.length yc] := ⟨_, rfl⟩
    rw [← hrow]
    have hoth : ∀ k, k ≠ w.heap.size → (w4.setRow w.heap.size row).heap[k]? = w4.heap[k]? := fun k hk => setRow_other w4 _ k row hk
    have hz5 : Blk (w4.setRow w.heap.size row) w.heap.size 54 row := Pw.rowB HZ4.out row
    have hp5 : Pb (w4.setRow w.heap.size row) g fin d l2 := by
      obtain ⟨v, hb, ht⟩ := HPB.out
      exact ⟨v, (hoth g hgB).trans hb, ht.same fun k hk hl => hoth k (by have := HG.out; omega)⟩
    have hx5 : XIn (w4.setRow w.heap.size row) (fun k => w.heap.size ≤ k) y (X.cells y.kind y.num y.bits y.sg y.name (.slice ya y.kids.length yc)) :=
      HIN.out.move fun k hk hl => ⟨by have h : (w.alloc (.cells Pw.zX 54)).heap.size ≤ k := hk; have := HS.out; show w.heap.size ≤ k; omega, hoth k (by have h : (w.alloc (.cells Pw.zX 54)).heap.size ≤ k := hk; have := HS.out; omega)⟩
    exact bodyPost_ret (Pw.res_cell rfl _ _ w.heap.size 54 row (0, 0) _ rfl hz5 Try.underlying54 rfl (by subst hrow; kernel_rfl)) rfl
      ⟨Pw.rowC ((Chg.of_below HB0.out).trans HC4.out) (Nat.le_refl _) row, hp5.par, _, (by rw [hrow]), hx5, hp5⟩
/-- How many tokens are left. -/
def tkL (w : World) (g : Nat) : Nat := match w.cell? ⟨g, 0, none⟩ with
  | some (.slice _ n _) => n
  | _ => 0
theorem Pb.tkL {w : World} {g fin d : Nat} {l : List Tk.Tok} (h : Pb w g fin d l) : tkL w g = l.length := by
  obtain ⟨v, hb, ht⟩ := h
  obtain ⟨a, c, rfl, _⟩ := ht.sl
  have := hb.cell 0
  unfold Go.Proofs.Ytfkndjifhmkojaa.tkL
  have e : w.cell? ⟨g, 0, none⟩ = some (.slice a l.length c) := this
  rw [e]
/-- What stands at the loop's head. -/
structure BinL (w : World) (g fin d i n b5 : Nat) (R : Ps.Res X) (wr : World) (m : Nat) (x : X) (l : List Tk.Tok) (a : Option Addr) (c : Nat) : Prop where
  chg : Chg g w wr
  z4 : Blk wr w.heap.size 54 Pw.zX
  z5 : Blk wr b5 54 #[.int .i64 x.kind, .int .u64 x.num, .int .i64 x.bits, .bool x.sg, .string x.name, .slice a x.kids.length c]
  xin : XIn wr (fun k => w.heap.size < k ∧ k ≠ b5) x (X.cells x.kind x.num x.bits x.sg x.name (.slice a x.kids.length c))
  pb : Pb wr g fin d l
  is : R = (Ps.at' fin m).tail (i + 1) d x l
  fuel : 32 * l.length + 1 ≤ m
  le : m ≤ n
theorem BinL.keep {w : World} {g fin d i n b5 : Nat} {R : Ps.Res X} {wr wn : World} {m : Nat} {x : X} {l : List Tk.Tok} {a : Option Addr} {c : Nat} (h : BinL w g fin d i n b5 R wr m x l a c) (hb : Below wr.heap.size wr wn) : BinL w g fin d i n b5 R wn m x l a c :=
  ⟨h.chg.trans (Chg.of_below hb), h.z4.keep hb, h.z5.keep hb, h.xin.keep hb, h.pb.keep hb, h.is, h.fuel, h.le⟩
/-- Where the loop ends. -/
theorem BinL.fin' {w : World} {g fin d i n b5 : Nat} {R : Ps.Res X} {wr : World} {m : Nat} {x : X} {l : List Tk.Tok} {a : Option Addr} {c : Nat} (h : BinL w g fin d i n b5 R wr m x l a c) (hg : g < w.heap.size) (hR : R = .ok (x, l)) (row : Array Value) (hrow : row = #[.int .i64 x.kind, .int .u64 x.num, .int .i64 x.bits, .bool x.sg, .string x.name, .slice a x.kids.length c]) :
    PxR g fin d w R (.returned (.agg row)) (wr.setRow w.heap.size row) := by
  have hoth : ∀ k, k ≠ w.heap.size → (wr.setRow w.heap.size row).heap[k]? = wr.heap[k]? := fun k hk => setRow_other wr _ k row hk
  have hp : Pb (wr.setRow w.heap.size row) g fin d l := by
    obtain ⟨v, hb, ht⟩ := h.pb
    exact ⟨v, (hoth g (by omega)).trans hb, ht.same fun k hk hl => hoth k (by omega)⟩
  rw [hR]
  exact ⟨Pw.rowC h.chg (Nat.le_refl _) row, hp.par, _, (by rw [hrow]), h.xin.move fun k hk hl => ⟨Nat.le_of_lt hk.1, hoth k (by have := hk.1; omega)⟩, hp⟩
theorem XIn.two {w : World} {p : Nat → Prop} {x y : X} {a ya : Option Addr} {c yc tf : Nat} (KD : Int) (hx : XIn w p x (X.cells x.kind x.num x.bits x.sg x.name (.slice a x.kids.length c))) (hy : XIn w p y (X.cells y.kind y.num y.bits y.sg y.name (.slice ya y.kids.length yc))) (hp : p tf)
    (hb : Blk w tf 54 #[.int .i64 x.kind, .int .u64 x.num, .int .i64 x.bits, .bool x.sg, .string x.name, .slice a x.kids.length c, .int .i64 y.kind, .int .u64 y.num, .int .i64 y.bits, .bool y.sg, .string y.name, .slice ya y.kids.length yc]) :
    XIn w p (Ps.xk KD [x, y]) (X.cells KD 0 0 false ⟨#[]⟩ (.slice (some ⟨tf, 0, none⟩) 2 2)) := by
  refine .mk KD 0 0 false ⟨#[]⟩ [x, y] (some ⟨tf, 0, none⟩) 2 (fun i => if i = 0 then X.cells x.kind x.num x.bits x.sg x.name (.slice a x.kids.length c) else X.cells y.kind y.num y.bits y.sg y.name (.slice ya y.kids.length yc)) (Nat.le_refl _) (by decide) (fun i z hz => ?_) (fun _ => ⟨tf, 0, hp, rfl, fun i j u hi hu => ?_⟩)
  · match i, hz with
    | 0, hz => injection hz with hz; subst hz; exact hx
    | 1, hz => injection hz with hz; subst hz; exact hy
  · have hi : i < 2 := hi
    rcases (by omega : i = 0 ∨ i = 1) with rfl | rfl
    · have hu : (X.cells x.kind x.num x.bits x.sg x.name (.slice a x.kids.length c))[j]? = some u := hu
      have hj : j < 6 := (List.getElem?_eq_some_iff.1 hu).1
      rcases (by omega : j = 0 ∨ j = 1 ∨ j = 2 ∨ j = 3 ∨ j = 4 ∨ j = 5) with rfl | rfl | rfl | rfl | rfl | rfl
      · exact (hb.cell 0).trans hu
      · exact (hb.cell 1).trans hu
      · exact (hb.cell 2).trans hu
      · exact (hb.cell 3).trans hu
      · exact (hb.cell 4).trans hu
      · exact (hb.cell 5).trans hu
    · have hu : (X.cells y.kind y.num y.bits y.sg y.name (.slice ya y.kids.length yc))[j]? = some u := hu
      have hj : j < 6 := (List.getElem?_eq_some_iff.1 hu).1
      rcases (by omega : j = 0 ∨ j = 1 ∨ j = 2 ∨ j = 3 ∨ j = 4 ∨ j = 5) with rfl | rfl | rfl | rfl | rfl | rfl
      · exact (hb.cell 6).trans hu
      · exact (hb.cell 7).trans hu
      · exact (hb.cell 8).trans hu
      · exact (hb.cell 9).trans hu
      · exact (hb.cell 10).trans hu
      · exact (hb.cell 11).trans hu
theorem bin_far {w w' : World} {g B t : Nat} {r : Array Value} {y : X} {cs : List Value} (hg : g < B) (hc : Chg g w w') (h : B ≤ t ∧ Blk w t 54 r ∧ XIn w (fun k => B ≤ k) y cs) : B ≤ t ∧ Blk w' t 54 r ∧ XIn w' (fun k => B ≤ k) y cs :=
  ⟨h.1, (hc.block t h.2.1.lt (fun e => by injection e with e; have := h.1; omega)).trans h.2.1, h.2.2.move fun k hk hl => ⟨hk, hc.block k hl (fun e => by injection e with e; have hk' : B ≤ k := hk; omega)⟩⟩
theorem bin_turn {w w' : World} {g B : Nat} {f : Nat → Value} {r : Option Addr → Nat → Array Value} {cs : Option Addr → Nat → List Value} {y : X} {v : Value} (hg : g < B) (hc : Chg g w w') (h : ∃ t ya yc, v = f t ∧ B ≤ t ∧ Blk w t 54 (r ya yc) ∧ XIn w (fun k => B ≤ k) y (cs ya yc)) : ∃ t ya yc, v = f t ∧ B ≤ t ∧ Blk w' t 54 (r ya yc) ∧ XIn w' (fun k => B ≤ k) y (cs ya yc) := by
  obtain ⟨t, ya, yc, e, h⟩ := h
  exact ⟨t, ya, yc, e, bin_far hg hc h⟩
theorem lv_sl (w : World) (q i N : Nat) (hN : i + N = 10) (h2 : 1 ≤ N) :
    (Instr.slice 138 (.slice (some ⟨q, i, none⟩) N N) (some (.int .i64 1)) none none).run Try.prog w = .ok (lvV q (i + 1)) w := by
  have hz : ∀ w, (sizeOf (Try.prog.elem 138)).run Try.prog w = .ok 1 w := fun _ => by kernel_rfl
  rw [run_slice_l (ht := Try.underlying138) (kl := .i64) (l := 1) (h0 := by decide) (h1 := by omega), hz]
  show Result.ok (Go.sliced _ _ _ _ _) w = _
  unfold Go.sliced lvV
  by_cases h : N = 1
  · subst h
    obtain rfl : i = 9 := by omega
    simp
  · rw [if_neg (by simpa using h), if_pos (by omega)]
    have e : 10 - (i + 1) = N - 1 := by omega
    simp [Addr.add, e]
theorem LvAt.chg {w w' : World} {g q : Nat} (h : LvAt w (fun k => k ≠ g) q) (hc : Chg g w w') : LvAt w' (fun k => k ≠ g) q := h.move fun k hk => ⟨hk, fun hl => hc.block k hl (fun e => by injection e with e; exact hk e)⟩
set_option maxHeartbeats 4000000 in
theorem pbin_mid (w : World) (g fin d i n q N : Nat) (l : List Tk.Tok) (hN : i + N = 10) (h2 : 1 ≤ N) (h : Pb w g fin d l) (hq : LvAt w (fun k => k ≠ g) q) (hf : 32 * l.length + 19 ≤ n + (i + 1))
    (hsub : ∀ (m : Nat) (w1 : World) (l1 : List Tk.Tok), m ≤ n → Pb w1 g fin d l1 → LvAt w1 (fun k => k ≠ g) q → 32 * l1.length + 19 ≤ m + (i + 1) → Calls Try.prog 69 #[P g, lvV q (i + 1)] w1 (PxR g fin d w1 ((Ps.at' fin m).level (i + 2) d l1))) :
    Calls Try.prog 69 #[P g, .slice (some ⟨q, i, none⟩) N N] w (PxR g fin d w ((Ps.at' fin (n + 1)).level (i + 1) d l)) := by
  have hgl : g < w.heap.size := by obtain ⟨v, hb, _⟩ := h; exact hb.lt
  have HG := Lib.hid hgl
  have HB0 := Lib.hid (Ext.alloc (Below.refl w.heap.size w) (.cells Pw.zX 54))
  have HZ0 := Lib.hid (Blk.new w 54 Pw.zX)
  have hszA : (w.alloc (.cells Pw.zX 54)).heap.size = w.heap.size + 1 := by simp
  have HS := Lib.hid hszA
  have hslN := fun w => lv_sl w q i N hN h2
  obtain ⟨nx, hnx⟩ : ∃ nx, nx = lvV q (i + 1) := ⟨_, rfl⟩
  rw [← hnx] at hsub hslN
  clear hnx
  have HSUB := Lib.hid hsub
  have HF := Lib.hid hf
  have H1 := Lib.hid (hsub n _ l (Nat.le_refl _) (h.keep HB0.out) (hq.chg (Chg.of_below HB0.out)) hf)
  have HQ := Lib.hid hq
  have hlev : (Ps.at' fin (n + 1)).level (i + 1) d l = Ps.seq ((Ps.at' fin n).level (i + 2) d l) fun x l => (Ps.at' fin n).tail (i + 1) d x l := by
    show Ps.levelS (Ps.at' fin n) (i + 1) d l = _
    unfold Ps.levelS; rw [if_neg (by omega)]
  have hless : ∀ x l', (Ps.at' fin n).level (i + 2) d l = .ok (x, l') → l'.length < l.length := fun x l' h => (Ps.less_at fin n).level h
  rw [hlev]
  obtain ⟨r, hr⟩ : ∃ r, r = (Ps.at' fin n).level (i + 2) d l := ⟨_, rfl⟩
  rw [← hr] at H1 hless ⊢
  have q0 : ((N : Int) == 0) = false := by simp; omega
  have hN9 : (N : Int) ≤ 10 := by omega
  have hN8 : (1 : Int) ≤ (N : Int) := by omega
  clear h hq hf hsub hr hlev hgl hszA
  cases r with
  | error z =>
    go_enter Try.func69, Try.ntmps69
    go_wp2_with (first | (go_at_call 69; refine H1.out.mono ?_; rintro e w4 ⟨hc4, hp4, rfl⟩; have HC4 := Lib.hid hc4; have HP4 := Lib.hid hp4; clear hc4 hp4))
    exact ⟨rfl, (Chg.of_below HB0.out).trans HC4.out, HP4.out, rfl⟩
  | ok p =>
    obtain ⟨x0, l0⟩ := p
    obtain ⟨R, hR⟩ : ∃ R, R = Ps.seq (.ok (x0, l0)) fun x l => (Ps.at' fin n).tail (i + 1) d x l := ⟨_, rfl⟩
    rw [← hR]
    go_enter Try.func69, Try.ntmps69
    go_upto_region 4 with (first | (go_at_call 69; refine H1.out.mono ?_; rintro e w4 ⟨hc4, hp4, cs, rfl, hin, hpb⟩; obtain ⟨a0, c0, rfl⟩ := Pw.form hin; have HIN := Lib.hid hin; have HPB := Lib.hid hpb; have HC4 := Lib.hid hc4; clear hc4 hp4 hin hpb))
    have HSZ : Hid (w.heap.size < w4.heap.size) := by have := HC4.out.size; have := HS.out; show _ < _; omega
    obtain ⟨b5, hb5⟩ : ∃ b5, b5 = w4.heap.size := ⟨_, rfl⟩
    obtain ⟨wq, hwq⟩ : ∃ wq, wq = w4.alloc (.cells #[.int .i64 x0.kind, .int .u64 x0.num, .int .i64 x0.bits, .bool x0.sg, .string x0.name, .slice a0 x0.kids.length c0] 54) := ⟨_, rfl⟩
    have H0 : Hid (BinL w g fin d i n b5 R wq n x0 l0 a0 c0) := by
      have hc : Chg g w w4 := (Chg.of_below HB0.out).trans HC4.out
      have hz4 : Blk w4 w.heap.size 54 Pw.zX := (HC4.out.block w.heap.size (by have := HS.out; omega) (fun e => by injection e with e; have := HG.out; omega)).trans HZ0.out
      have hbl : Below w4.heap.size w4 wq := by rw [hwq]; exact Ext.alloc (Below.refl _ _) _
      refine ⟨hc.trans (Chg.of_below hbl), hz4.keep hbl, by rw [hwq, hb5]; exact Blk.new _ _ _, (HIN.out.move fun k hk hl => ⟨⟨?_, ?_⟩, hbl.block k hl⟩), HPB.out.keep hbl, hR, ?_, Nat.le_refl _⟩
      · have h : (w.alloc (.cells Pw.zX 54)).heap.size ≤ k := hk
        have := HS.out; omega
      · omega
      · have := hless _ _ rfl
        have := HF.out
        omega
    rw [← hwq, ← hb5]
    have HB5 : Hid (w.heap.size < b5) := by rw [hb5]; exact HSZ.out
    have HI : Hid (i < 10) := by show i < 10; omega
    clear hwq hb5 hR HIN HPB HC4 HSZ hless
    go_loopw [6] (fun kv wr => ∃ (m : Nat) (x : X) (l : List Tk.Tok) (a : Option Addr) (c : Nat), Hid (BinL w g fin d i n b5 R wr m x l a c)) (fun kv wr => tkL wr g)
    case atStart => exact ⟨n, x0, l0, a0, c0, H0.out⟩
    case round =>
      obtain ⟨m, x, l, a, c, HBL⟩ := hrel
      obtain ⟨m, rfl⟩ : ∃ m', m = m' + 1 := ⟨m - 1, by have := HBL.out.fuel; omega⟩
      obtain ⟨v, hb, ht⟩ := HBL.out.pb
      have p0 := hb.cell 0
      cases l with
      | nil =>
        obtain ⟨ta, tc, rfl, _, _⟩ := ht.sl
        have HRX : Hid (R = .ok (x, [])) := by show R = _; rw [HBL.out.is]; rfl
        clear hb ht
        go_wp2_with (fail)
        go_quiet (fail)
        generalize hwn : World.drewN wr _ = wn
        have HBN := Lib.hid (HBL.out.keep (wn := wn) (by rw [← hwn]; exact below_drewN (Below.refl _ _) _))
        clear hwn
        go_wp2_with (first | (refine wpList_load_row rfl 54 _ rfl b5 rfl 54 #[.int .i64 x.kind, .int .u64 x.num, .int .i64 x.bits, .bool x.sg, .string x.name, .slice a x.kids.length c] (0, 0) _ HBN.out.z5 Try.underlying54 rfl (by kernel_rfl) ?_) | (refine wpList_store_row rfl 54 _ _ rfl w.heap.size #[.int .i64 x.kind, .int .u64 x.num, .int .i64 x.bits, .bool x.sg, .string x.name, .slice a x.kids.length c] rfl rfl 54 Pw.zX HBN.out.z4 (by kernel_rfl) rfl (Pw.one _ _ _ _ _ _ _ _) ?_))
        exact bodyPost_ret (Pw.res_cell rfl _ _ w.heap.size 54 _ (0, 0) _ rfl (Pw.rowB HBN.out.z4 _) Try.underlying54 rfl (by kernel_rfl)) rfl (HBN.out.fin' HG.out HRX.out _ rfl)
      | cons t l =>
        obtain ⟨tq, off, tc, htq, rfl, hlc, hcm, k0, k1, _⟩ := ht.hd
        have qlen : decide ((l.length : Int) + 1 > 0) = true := decide_eq_true (by omega)
        have hst : (Ps.at' fin (m + 1)).tail (i + 1) d x (t :: l) = if t.kind = 3 ∧ 0 < Ps.bin (i + 1) t.text then Ps.seq ((Ps.at' fin m).level (i + 2) d l) fun y l => (Ps.at' fin m).tail (i + 1) d (Ps.xk (Ps.bin (i + 1) t.text) [x, y]) l else .ok (x, t :: l) := rfl
        have hR1 := HBL.out.is
        rw [hst] at hR1
        clear hst hb ht
        by_cases hk : t.kind = 3
        rotate_left
        · have HRX : Hid (R = .ok (x, t :: l)) := by show R = _; rw [hR1, if_neg (fun h => hk h.1)]
          have qk : (t.kind == 3) = false := by simpa using hk
          clear hR1 hk
          go_wp2_with (fail)
          go_quiet (fail)
          generalize hwn : World.drewN wr _ = wn
          have HBN := Lib.hid (HBL.out.keep (wn := wn) (by rw [← hwn]; exact below_drewN (Below.refl _ _) _))
          clear hwn
          go_wp2_with (first | (refine wpList_load_row rfl 54 _ rfl b5 rfl 54 #[.int .i64 x.kind, .int .u64 x.num, .int .i64 x.bits, .bool x.sg, .string x.name, .slice a x.kids.length c] (0, 0) _ HBN.out.z5 Try.underlying54 rfl (by kernel_rfl) ?_) | (refine wpList_store_row rfl 54 _ _ rfl w.heap.size #[.int .i64 x.kind, .int .u64 x.num, .int .i64 x.bits, .bool x.sg, .string x.name, .slice a x.kids.length c] rfl rfl 54 Pw.zX HBN.out.z4 (by kernel_rfl) rfl (Pw.one _ _ _ _ _ _ _ _) ?_))
          exact bodyPost_ret (Pw.res_cell rfl _ _ w.heap.size 54 _ (0, 0) _ rfl (Pw.rowB HBN.out.z4 _) Try.underlying54 rfl (by kernel_rfl)) rfl (HBN.out.fin' HG.out HRX.out _ rfl)
        obtain ⟨r, n2, hcr, hcc⟩ := lv_contains (HQ.out.chg HBL.out.chg) HI.out t.text
        have hdr : ∀ nz, Below wr.heap.size wr (wr.drewN nz) := fun nz => below_drewN (Below.refl _ _) nz
        have HCT := Lib.hid (fun nz => hcc (wr.drewN nz) ((HQ.out.chg HBL.out.chg).chg (Chg.of_below (hdr nz))) ((Below.cell (p := ⟨q, i, none⟩) (hdr nz) (World.block_lt_of_cell? _ _ hcr)).trans hcr))
        obtain ⟨Z, hZ⟩ : ∃ Z, decide (0 < Ps.bin (i + 1) t.text) = Z := ⟨_, rfl⟩
        rw [hZ] at HCT
        have qk : (t.kind == 3) = true := by simpa using hk
        clear hcc hdr
        cases Z with
        | false =>
          have HRX : Hid (R = .ok (x, t :: l)) := by show R = _; rw [hR1, if_neg (fun h => of_decide_eq_false hZ h.2)]
          clear hR1 hk hZ
          go_wp2_with (fail)
          go_quiet ((go_at_call 54; refine Calls.quiet_of_same (HCT.out _)))
          generalize hwn : World.drewN wr _ = wn
          have HBN := Lib.hid (HBL.out.keep (wn := wn) (by rw [← hwn]; exact below_drewN (Below.refl _ _) _))
          clear hwn
          go_wp2_with (first | (refine wpList_load_row rfl 54 _ rfl b5 rfl 54 #[.int .i64 x.kind, .int .u64 x.num, .int .i64 x.bits, .bool x.sg, .string x.name, .slice a x.kids.length c] (0, 0) _ HBN.out.z5 Try.underlying54 rfl (by kernel_rfl) ?_) | (refine wpList_store_row rfl 54 _ _ rfl w.heap.size #[.int .i64 x.kind, .int .u64 x.num, .int .i64 x.bits, .bool x.sg, .string x.name, .slice a x.kids.length c] rfl rfl 54 Pw.zX HBN.out.z4 (by kernel_rfl) rfl (Pw.one _ _ _ _ _ _ _ _) ?_))
          exact bodyPost_ret (Pw.res_cell rfl _ _ w.heap.size 54 _ (0, 0) _ rfl (Pw.rowB HBN.out.z4 _) Try.underlying54 rfl (by kernel_rfl)) rfl (HBN.out.fin' HG.out HRX.out _ rfl)
        | true =>
          have hsg := (Ps.bin_pos HI.out t.text).1 (of_decide_eq_true hZ)
          have hbk := Ps.bin_is HI.out hsg
          obtain ⟨KD, hKD⟩ : ∃ KD, KD = Ps.binK t.text := ⟨_, rfl⟩
          have hR2 := hR1
          rw [if_pos ⟨hk, of_decide_eq_true hZ⟩, hbk, ← hKD] at hR2
          have HR2 := Lib.hid hR2
          have HTX : Hid (t.text.length ≤ 65536) := by
            obtain ⟨v2, hb2, ht2⟩ := HBL.out.pb
            exact ht2.ok.len
          have HBK : Hid (∀ w1 : World, Calls Try.prog 91 #[.string ⟨t.text.toArray⟩] w1 fun e w' => e = .returned (.int .i64 KD) ∧ Below w1.heap.size w1 w') := fun w1 => by
            have := binaryKind_ok ⟨t.text.toArray⟩ (by rw [Tk.size_is]; show t.text.toArray.toList.length ≤ _; have := HTX.out; unfold maxLen; simp; omega) w1
            rw [show (⟨t.text.toArray⟩ : ByteArray).data.toList = t.text by simp, ← hKD] at this
            exact this
          clear hR1 hR2 hk hZ hsg hbk hKD
          go_wp2_with (fail)
          go_quiet ((go_at_call 54; refine Calls.quiet_of_same (HCT.out _)))
          go_upto_region 6 with (first | (go_at_call 91; refine (HBK.out _).mono ?_; rintro e w5 ⟨rfl, hb5⟩; have HB6 := Lib.hid (Ext.trans (below_drewN (Below.refl wr.heap.size wr) _) hb5); clear hb5))
          have HBN := Lib.hid (HBL.out.keep HB6.out)
          clear p0 k0 k1
          obtain ⟨v2, hb2, ht2⟩ := HBN.out.pb
          obtain ⟨tq2, off2, tc2, htq2, rfl, hlc2, hcm2, _⟩ := ht2.hd
          have p0 := hb2.cell 0
          have z0 := hb2.frozen 0
          obtain ⟨a2, ha2⟩ : ∃ a2 : Option Addr, a2 = if tc2 = 1 then some ⟨tq2, off2, none⟩ else some ⟨tq2, off2 + 6, none⟩ := ⟨_, rfl⟩
          have hsl := fun w => tok_sl w tq2 off2 l.length tc2 a2 ha2
          have HTN := Lib.hid (Pb.tl hb2 ht2 a2 ha2)
          clear hb2 ht2 ha2
          go_upto_region 7 with (fail)
          generalize hw7 : World.setCell w5 _ _ = w7
          rw [hw7] at HTN
          have HG7 : Hid (g < w7.heap.size) := by have h1 := HBN.out.chg.size; have h2 := HTN.out.1.size; have h3 := HG.out; show _ < _; omega
          clear hw7 p0 z0
          have HGB : Hid (g ≠ b5 ∧ b5 ≠ g) := ⟨by have := HG.out; have := HB5.out; omega, by have := HG.out; have := HB5.out; omega⟩
          have HZ7 : Hid (∀ wi, Chg g w7 wi → Blk wi b5 54 #[.int .i64 x.kind, .int .u64 x.num, .int .i64 x.bits, .bool x.sg, .string x.name, .slice a x.kids.length c]) := fun wi hc => by
            have h1 : Blk w7 b5 _ _ := (HTN.out.1.block b5 HBN.out.z5.lt (fun e => by injection e with e; exact HGB.out.2 e)).trans HBN.out.z5
            exact (hc.block b5 h1.lt (fun e => by injection e with e; exact HGB.out.2 e)).trans h1
          obtain ⟨r7, hr7⟩ : ∃ r7, r7 = (Ps.at' fin m).level (i + 2) d l := ⟨_, rfl⟩
          rw [← hr7] at HR2
          have HC7 : Hid (∀ wi, Chg g w7 wi → Pb wi g fin d l → Calls Try.prog 69 #[P g, nx] wi (PxR g fin d wi r7)) := fun wi hc hp => by
            rw [hr7]
            exact HSUB.out m wi l (by have := HBL.out.le; omega) hp ((HQ.out.chg HBN.out.chg).chg (HTN.out.1.trans hc)) (by have h := HBL.out.fuel; rw [List.length_cons] at h; omega)
          have HL7 : Hid (∀ y l', r7 = .ok (y, l') → l'.length < l.length) := fun y l' h => (Ps.less_at fin m).level (hr7 ▸ h)
          clear hr7
          cases r7 with
          | error z =>
            have HRZ : Hid (R = .error z) := HR2.out
            apply Iy.wp_region 8 [5] (fun n => []) (Ix.Rb) (fun mm vs wi => Hid (Chg g w7 wi) ∧ (match mm with | 0 => Pb wi g fin d l | _ + 1 => True)) (Ix.vk [(Ix.kis _), (Ix.kis (.agg #[.int .i64 x.kind, .int .u64 x.num, .int .i64 x.bits, .bool x.sg, .string x.name, .slice a x.kids.length c])), (Ix.kis _), (Ix.kis _), (Ix.kis _), (Ix.ksat (fun _ => False)), (Ix.ksat (fun _ => False)), (Ix.ksat (fun _ => False))]) (fun _ => false) (by kernel_rfl) (by kernel_rfl) (by kernel_rfl) (by kernel_rfl) (by kernel_rfl) (fun n vs vs' w hk h => h) (fun _ => Below.refl _ _) (fun n vs _ _ h hb => ⟨h.1.out.trans (Chg.of_below hb), by cases n with | zero => exact h.2.keep hb | succ n => trivial⟩) (Ix.vk_keeps _) (Ix.not_al _) (fun vs => ⟨Chg.of_below (Ext.drew (Below.refl _ _)), HTN.out.2.keep (Ext.drew (Below.refl _ _))⟩)
            case step =>
              refine zys 7 0 1 [] (fun _ _ wi HB => ?_) <| zys 6 1 2 [] (fun _ _ wi HB => ?_) <| zys 5 2 3 [] (fun _ _ wi HB => ?_) <| zys 4 3 4 [] (fun _ _ wi HB => ?_) <| zys 3 4 5 [(3, some 64)] (fun _ _ wi HB => ?_) <| zyc 2 5 6 0 [(2, some 63), (4, some 65)] (fun vsp wi HB => ?_) <| zys 1 6 7 [(1, some 62), (5, some 66)] (fun _ _ wi HB => ?_) <| zys 0 7 8 [(0, some 61), (6, some 67)] (fun _ _ wi HB => ?_) <| Iy.steps_nil
              (· ((repeat (refine zya ?_; rintro _ rfl)); refine zye ?_; (try simp only [zyp]); refine Iy.goI_yes rfl rfl fun K hK => ?_; (try simp only [zyp] at hK); go_wp2_with (first | fail); exact hK _ _ (Below.refl _ _) rfl))
              (· (obtain ⟨HM, _⟩ := HB; have hz := HZ7.out _ HM.out; have e0 := hz.cell 0; have e1 := hz.cell 1; have e2 := hz.cell 2; have e3 := hz.cell 3; have e4 := hz.cell 4; have e5 := hz.cell 5; (repeat (refine zya ?_; rintro _ rfl)); refine zye ?_; (try simp only [zyp]); refine Iy.goI_yes rfl rfl fun K hK => ?_; (try simp only [zyp] at hK); go_wp2_with (first | fail); exact hK _ _ (Below.refl _ _) rfl))
              iterate 2 (· ((repeat (refine zya ?_; rintro _ rfl)); refine zye ?_; (try simp only [zyp]); refine Iy.goI_yes rfl rfl fun K hK => ?_; (try simp only [zyp] at hK); go_wp2_with (first | fail); exact hK _ _ (Below.refl _ _) rfl))
              (· (obtain ⟨HM, _⟩ := HB; have hz := HZ7.out _ HM.out; have e0 := hz.cell 0; have e1 := hz.cell 1; have e2 := hz.cell 2; have e3 := hz.cell 3; have e4 := hz.cell 4; have e5 := hz.cell 5; (repeat (refine zya ?_; rintro _ rfl)); refine zye ?_; (try simp only [zyp]); refine Iy.goI_yes rfl rfl fun K hK => ?_; (try simp only [zyp] at hK); go_wp2_with (first | fail); exact hK _ _ (Below.refl _ _) rfl))
              (· (obtain ⟨HM, hpb⟩ := HB; refine zya ?_; rintro _ ⟨rfl, ev2⟩; refine zya ?_; rintro _ ⟨rfl, ev4⟩; refine zye ?_; (try simp only [zyp]); refine Iy.goI_yes rfl rfl fun K hK => ?_; (try simp only [zyp] at hK); go_wp2_with (first | (go_at_call 69; refine (HC7.out _ HM.out hpb).mono ?_; rintro e wa ⟨hca, hpa, rfl⟩)); refine Ix.onlyP fun tz => ?_; go_wp2_with (fail); have e9 := HRZ.out; subst e9; exact ⟨rfl, (HBN.out.chg.trans (HTN.out.1.trans HM.out)).trans hca, hpa, rfl⟩))
              (· (obtain ⟨HM, _⟩ := HB; have hz := HZ7.out _ HM.out; have e0 := hz.cell 0; have e1 := hz.cell 1; have e2 := hz.cell 2; have e3 := hz.cell 3; have e4 := hz.cell 4; have e5 := hz.cell 5; refine zya ?_; rintro _ rfl; refine zya ?_; rintro _ hf5; refine zye ?_; (try simp only [zyp]); refine Iy.goI_yes rfl rfl fun K hK => ?_; (try simp only [zyp] at hK); exact hf5.elim; skip))
              (· (obtain ⟨HM, _⟩ := HB; have hz := HZ7.out _ HM.out; have e0 := hz.cell 0; have e1 := hz.cell 1; have e2 := hz.cell 2; have e3 := hz.cell 3; have e4 := hz.cell 4; have e5 := hz.cell 5; refine zya ?_; rintro _ rfl; refine zya ?_; rintro _ hf6; refine zye ?_; (try simp only [zyp]); refine Iy.goI_yes rfl rfl fun K hK => ?_; (try simp only [zyp] at hK); exact hf6.elim; skip))
            intro vsf wf HF hdf
            refine zyv 7 0 1 ?_; rintro _ _ rfl; refine zyv 6 1 2 ?_; rintro _ _ rfl; refine zyv 5 2 3 ?_; rintro _ _ rfl; refine zyv 4 3 4 ?_; rintro _ _ rfl; refine zyv 3 4 5 ?_; rintro _ _ rfl; refine zyv 2 5 6 ?_; rintro _ _ hf5; refine zyv 1 6 7 ?_; rintro _ _ hf6; refine zyv 0 7 8 ?_; rintro _ _ hf7
            refine Ix.allV_nil ?_
            (try simp only [Act.put, List.setIfInBounds_toArray, List.set_cons_zero, List.set_cons_succ, List.drop_succ_cons, List.drop_zero])
            go_wp2_with (first | fail)
            all_goals (first | refine Ix.only ?_ | (refine Ix.onlyP fun tz => ?_))
            all_goals exact hf5.elim
          | ok p7 =>
            obtain ⟨y, l2⟩ := p7
            apply Iy.wp_region 8 [5] (fun n => []) (Ix.Rb) (fun mm vs wi => Hid (Chg g w7 wi) ∧ (match mm with | 0 => Pb wi g fin d l | _ + 1 => Pb wi g fin d l2)) (Ix.vk [(Ix.kis _), (Ix.kis (.agg #[.int .i64 x.kind, .int .u64 x.num, .int .i64 x.bits, .bool x.sg, .string x.name, .slice a x.kids.length c])), (Ix.kis _), (Ix.kis _), (Ix.kis _), (Ix.kwld (fun v w' => ∃ ya yc, v = Value.agg #[.int .i64 y.kind, .int .u64 y.num, .int .i64 y.bits, .bool y.sg, .string y.name, .slice ya y.kids.length yc] ∧ XIn w' (fun k => w7.heap.size ≤ k) y (X.cells y.kind y.num y.bits y.sg y.name (.slice ya y.kids.length yc))) (fun v w1 w2 h hb => by obtain ⟨ya, yc, e, hi⟩ := h; exact ⟨ya, yc, e, hi.keep hb⟩)), (Ix.kwld (fun v w' => ∃ t ya yc, v = Value.slice (some ⟨t, 0, none⟩) 2 2 ∧ w7.heap.size ≤ t ∧ Blk w' t 54 #[.int .i64 x.kind, .int .u64 x.num, .int .i64 x.bits, .bool x.sg, .string x.name, .slice a x.kids.length c, .int .i64 y.kind, .int .u64 y.num, .int .i64 y.bits, .bool y.sg, .string y.name, .slice ya y.kids.length yc] ∧ XIn w' (fun k => w7.heap.size ≤ k) y (X.cells y.kind y.num y.bits y.sg y.name (.slice ya y.kids.length yc))) (fun v w1 w2 h hb => by obtain ⟨t, ya, yc, e, hl, hi, hx⟩ := h; exact ⟨t, ya, yc, e, hl, hi.keep hb, hx.keep hb⟩)), (Ix.kwld (fun v w' => ∃ t ya yc, v = Value.agg #[.int .i64 KD, .int .u64 0, .int .i64 0, .bool false, .string ⟨#[]⟩, .slice (some ⟨t, 0, none⟩) 2 2] ∧ w7.heap.size ≤ t ∧ Blk w' t 54 #[.int .i64 x.kind, .int .u64 x.num, .int .i64 x.bits, .bool x.sg, .string x.name, .slice a x.kids.length c, .int .i64 y.kind, .int .u64 y.num, .int .i64 y.bits, .bool y.sg, .string y.name, .slice ya y.kids.length yc] ∧ XIn w' (fun k => w7.heap.size ≤ k) y (X.cells y.kind y.num y.bits y.sg y.name (.slice ya y.kids.length yc))) (fun v w1 w2 h hb => by obtain ⟨t, ya, yc, e, hl, hi, hx⟩ := h; exact ⟨t, ya, yc, e, hl, hi.keep hb, hx.keep hb⟩))]) (fun _ => false) (by kernel_rfl) (by kernel_rfl) (by kernel_rfl) (by kernel_rfl) (by kernel_rfl) (fun n vs vs' w hk h => h) (fun _ => Below.refl _ _) (fun n vs _ _ h hb => ⟨h.1.out.trans (Chg.of_below hb), by cases n with | zero => exact h.2.keep hb | succ n => exact h.2.keep hb⟩) (Ix.vk_keeps _) (Ix.not_al _) (fun vs => ⟨Chg.of_below (Ext.drew (Below.refl _ _)), HTN.out.2.keep (Ext.drew (Below.refl _ _))⟩)
            case step =>
              refine zys 7 0 1 [] (fun _ _ wi HB => ?_) <| zys 6 1 2 [] (fun _ _ wi HB => ?_) <| zys 5 2 3 [] (fun _ _ wi HB => ?_) <| zys 4 3 4 [] (fun _ _ wi HB => ?_) <| zys 3 4 5 [(3, some 64)] (fun _ _ wi HB => ?_) <| zyc 2 5 6 0 [(2, some 63), (4, some 65)] (fun vsp wi HB => ?_) <| zys 1 6 7 [(1, some 62), (5, some 66)] (fun _ _ wi HB => ?_) <| zys 0 7 8 [(0, some 61), (6, some 67)] (fun _ _ wi HB => ?_) <| Iy.steps_nil
              (· ((repeat (refine zya ?_; rintro _ rfl)); refine zye ?_; (try simp only [zyp]); refine Iy.goI_yes rfl rfl fun K hK => ?_; (try simp only [zyp] at hK); go_wp2_with (first | fail); exact hK _ _ (Below.refl _ _) rfl))
              (· (obtain ⟨HM, _⟩ := HB; have hz := HZ7.out _ HM.out; have e0 := hz.cell 0; have e1 := hz.cell 1; have e2 := hz.cell 2; have e3 := hz.cell 3; have e4 := hz.cell 4; have e5 := hz.cell 5; (repeat (refine zya ?_; rintro _ rfl)); refine zye ?_; (try simp only [zyp]); refine Iy.goI_yes rfl rfl fun K hK => ?_; (try simp only [zyp] at hK); go_wp2_with (first | fail); exact hK _ _ (Below.refl _ _) rfl))
              iterate 2 (· ((repeat (refine zya ?_; rintro _ rfl)); refine zye ?_; (try simp only [zyp]); refine Iy.goI_yes rfl rfl fun K hK => ?_; (try simp only [zyp] at hK); go_wp2_with (first | fail); exact hK _ _ (Below.refl _ _) rfl))
              (· (obtain ⟨HM, _⟩ := HB; have hz := HZ7.out _ HM.out; have e0 := hz.cell 0; have e1 := hz.cell 1; have e2 := hz.cell 2; have e3 := hz.cell 3; have e4 := hz.cell 4; have e5 := hz.cell 5; (repeat (refine zya ?_; rintro _ rfl)); refine zye ?_; (try simp only [zyp]); refine Iy.goI_yes rfl rfl fun K hK => ?_; (try simp only [zyp] at hK); go_wp2_with (first | fail); exact hK _ _ (Below.refl _ _) rfl))
              (· (obtain ⟨HM, hpb⟩ := HB; refine zya ?_; rintro _ ⟨rfl, ev2⟩; refine zya ?_; rintro _ ⟨rfl, ev4⟩; refine zye ?_; (try simp only [zyp]); refine Iy.goI_yes rfl rfl fun K hK => ?_; (try simp only [zyp] at hK); go_wp2_with (first | (go_at_call 69; refine (HC7.out _ HM.out hpb).mono ?_; rintro e wa ⟨hca, hpa, cs, rfl, hin, hpb2⟩; obtain ⟨ya, yc, rfl⟩ := Pw.form hin)); exact hK _ _ ⟨⟨HM.out.trans hca, hpb2⟩, Iy.vk_turn (by repeat (first | exact True.intro | refine And.intro (fun _ h => h) ?_ | refine And.intro (fun hne => absurd rfl hne) ?_ | refine And.intro (fun _ h => (by obtain ⟨t9, y9, c9, e9, h9⟩ := h; exact ⟨t9, y9, c9, e9, bin_far HG7.out hca h9⟩)) ?_))⟩ ⟨ya, yc, rfl, hin.move fun k hk hl => ⟨Nat.le_trans HM.out.size hk, rfl⟩⟩))
              (· (obtain ⟨HM, _⟩ := HB; have hz := HZ7.out _ HM.out; have e0 := hz.cell 0; have e1 := hz.cell 1; have e2 := hz.cell 2; have e3 := hz.cell 3; have e4 := hz.cell 4; have e5 := hz.cell 5; refine zya ?_; rintro _ rfl; refine zya ?_; rintro _ ⟨ya, yc, rfl, hyi⟩; refine zye ?_; (try simp only [zyp]); refine Iy.goI_yes rfl rfl fun K hK => ?_; (try simp only [zyp] at hK); go_wp2_with (first | fail); exact hK _ _ (Ext.alloc (Below.refl _ _) _) ⟨_, ya, yc, rfl, HM.out.size, Blk.new _ _ _, hyi.keep (Ext.alloc (Below.refl _ _) _)⟩))
              (· (obtain ⟨HM, _⟩ := HB; have hz := HZ7.out _ HM.out; have e0 := hz.cell 0; have e1 := hz.cell 1; have e2 := hz.cell 2; have e3 := hz.cell 3; have e4 := hz.cell 4; have e5 := hz.cell 5; refine zya ?_; rintro _ rfl; refine zya ?_; rintro _ ⟨tb, ya2, yc2, rfl, htl, htb, hyi2⟩; refine zye ?_; (try simp only [zyp]); refine Iy.goI_yes rfl rfl fun K hK => ?_; (try simp only [zyp] at hK); go_wp2_with (first | fail); exact hK _ _ (Below.refl _ _) ⟨_, _, _, rfl, htl, htb, hyi2⟩))
            intro vsf wf HF hdf
            refine zyv 7 0 1 ?_; rintro _ _ rfl; refine zyv 6 1 2 ?_; rintro _ _ rfl; refine zyv 5 2 3 ?_; rintro _ _ rfl; refine zyv 4 3 4 ?_; rintro _ _ rfl; refine zyv 3 4 5 ?_; rintro _ _ rfl; refine zyv 2 5 6 ?_; rintro _ _ ⟨ya, yc, rfl, hyi⟩; refine zyv 1 6 7 ?_; rintro _ _ ⟨tb, ya2, yc2, rfl, htl, htb, hyi2⟩; refine zyv 0 7 8 ?_; rintro _ _ ⟨tf, yaf, ycf, rfl, htlf, htbf, hyif⟩
            refine Ix.allV_nil ?_
            obtain ⟨HMF, hpbf⟩ := HF; have hzf := HZ7.out _ HMF.out
            (try simp only [Act.put, List.setIfInBounds_toArray, List.set_cons_zero, List.set_cons_succ, List.drop_succ_cons, List.drop_zero])
            go_wp2_with (first | (refine wpList_store_row rfl 54 _ _ rfl b5 #[.int .i64 KD, .int .u64 0, .int .i64 0, .bool false, .string ⟨#[]⟩, .slice (some ⟨tf, 0, none⟩) 2 2] rfl rfl 54 _ hzf (by kernel_rfl) rfl (Pw.one _ _ _ _ _ _ _ _) ?_))
            all_goals (first | refine Ix.only ?_ | (refine Ix.onlyP fun tz => ?_))
            have HCF : Hid (Chg g w5 wf) := HTN.out.1.trans HMF.out
            have HPF := Lib.hid hpbf
            have HZF := Lib.hid hzf
            clear hzf hpbf HMF hcr hN hN8 hN9 q0 qk qlen hlc hlc2 hcm hcm2 htq htq2
            go_wp2_with (fail)
            go_round
            case rel =>
              have hoth : ∀ k, k ≠ b5 → (wf.setRow b5 #[.int .i64 KD, .int .u64 0, .int .i64 0, .bool false, .string ⟨#[]⟩, .slice (some ⟨tf, 0, none⟩) 2 2]).heap[k]? = wf.heap[k]? := fun k hk => setRow_other wf _ k _ hk
              refine ⟨m, Ps.xk KD [x, y], l2, some ⟨tf, 0, none⟩, 2, Pw.rowC (HBN.out.chg.trans HCF.out) (Nat.le_of_lt HB5.out) _, ?_, Pw.rowB HZF.out _, ?_, ?_, HR2.out, ?_, ?_⟩
              · exact (hoth _ (by have := HB5.out; omega)).trans ((HCF.out.block w.heap.size HBN.out.z4.lt (fun e => by injection e with e; have := HG.out; omega)).trans HBN.out.z4)
              · have hw7 : b5 < w7.heap.size := Nat.lt_of_lt_of_le HBN.out.z5.lt HTN.out.1.size
                have hx9 := (HBN.out.xin.move (w' := wf) (q := fun k => w.heap.size < k ∧ k ≠ b5) fun k hk hl => ⟨hk, HCF.out.block k hl (fun e => by injection e with e; have := hk.1; have := HG.out; omega)⟩)
                have hy9 := (hyif.move (w' := wf) (q := fun k => w.heap.size < k ∧ k ≠ b5) fun k hk hl => ⟨⟨by have hk' : w7.heap.size ≤ k := hk; have := HB5.out; omega, by have hk' : w7.heap.size ≤ k := hk; omega⟩, rfl⟩)
                exact (XIn.two KD hx9 hy9 ⟨by have := HB5.out; omega, by omega⟩ htbf).move fun k hk hl => ⟨hk, hoth k hk.2⟩
              · obtain ⟨v9, hb9, ht9⟩ := HPF.out
                exact ⟨v9, (hoth g HGB.out.1).trans hb9, ht9.same fun k hk hl => hoth k (by have := HG.out; have := HB5.out; omega)⟩
              · have h1 := HL7.out _ _ rfl
                have h2 := HBL.out.fuel
                rw [List.length_cons] at h2
                omega
              · have := HBL.out.le; omega
            case measure =>
              have hp9 : Pb (wf.setRow b5 #[.int .i64 KD, .int .u64 0, .int .i64 0, .bool false, .string ⟨#[]⟩, .slice (some ⟨tf, 0, none⟩) 2 2]) g fin d l2 := by
                have hoth : ∀ k, k ≠ b5 → (wf.setRow b5 #[.int .i64 KD, .int .u64 0, .int .i64 0, .bool false, .string ⟨#[]⟩, .slice (some ⟨tf, 0, none⟩) 2 2]).heap[k]? = wf.heap[k]? := fun k hk => setRow_other wf _ k _ hk
                obtain ⟨v9, hb9, ht9⟩ := HPF.out
                exact ⟨v9, (hoth g HGB.out.1).trans hb9, ht9.same fun k hk hl => hoth k (by have := HG.out; have := HB5.out; omega)⟩
              have h1 := HL7.out _ _ rfl
              have h2 := hp9.tkL
              have h3 := HBL.out.pb.tkL
              rw [List.length_cons] at h3
              show tkL _ g < tkL _ g
              rw [h2, h3]; omega
end Go.Proofs.Ytfkndjifhmkojaa
