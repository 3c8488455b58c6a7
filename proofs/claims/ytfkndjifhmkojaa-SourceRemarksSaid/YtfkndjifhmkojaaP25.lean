/- Walk of parser.global: all. No condition. -/
import Derived.Test.YtfkndjifhmkojaaPt2
import Derived.Test.YtfkndjifhmkojaaPE
import Derived.LoopTactic
import Derived.Deep.Cut
import Derived.Deep.CutRange
import Derived.Deep.DeepCutAuto
namespace Go.Proofs.Ytfkndjifhmkojaa
open Go.RowKit
set_option linter.unusedVariables false
set_option linter.unusedSimpArgs false
set_option maxRecDepth 100000
/-- What comes of reading a variable of all. -/
def PgR (g fin d : Nat) (w : World) (r : Ps.Res Gl) (e : Ending) (w' : World) : Prop := Chg g w w' ∧ ParA w' g ∧ match r with
  | .ok p => ∃ cs, e = .returned (.agg cs.toArray) ∧ GlIn w' (fun b => w.heap.size ≤ b) p.1 cs ∧ Pb w' g fin d p.2
  | .error z => e = Oops z.1 z.2
/-- What stands where the size has been read. -/
structure GlZ (w : World) (g fin sb : Nat) (gb : Int) (gs : Bool) (gz : Int) (nm : List UInt8) (wx : World) (l : List Tk.Tok) : Prop where
  fz : Fz w g 41 Pw.zG wx
  lb : w.heap.size < sb
  xb : Blk wx sb 41 #[.int .i64 gb, .bool gs, .string ⟨nm.toArray⟩, .int .i64 gz, .slice none 0 0]
  pb : Pb wx g fin 0 l
theorem GlZ.chg {w W W1 : World} {g fin sb : Nat} {gb : Int} {gs : Bool} {gz : Int} {nm : List UInt8} {l l1 : List Tk.Tok} (h : GlZ w g fin sb gb gs gz nm W l) (hg : g < w.heap.size) (hc : Chg g W W1) (hp : Pb W1 g fin 0 l1) : GlZ w g fin sb gb gs gz nm W1 l1 :=
  ⟨h.fz.step hg hc, h.lb, (hc.block sb h.xb.lt (fun e => by injection e with e; have := h.lb; omega)).trans h.xb, hp⟩
theorem GlZ.keep {w W W1 : World} {g fin sb : Nat} {gb : Int} {gs : Bool} {gz : Int} {nm : List UInt8} {l : List Tk.Tok} (h : GlZ w g fin sb gb gs gz nm W l) (hb : Below W.heap.size W W1) : GlZ w g fin sb gb gs gz nm W1 l :=
  ⟨h.fz.below hb, h.lb, h.xb.keep hb, h.pb.keep hb⟩
theorem GlZ.setz {w W : World} {g fin sb : Nat} {gb : Int} {gs : Bool} {gz : Int} {nm : List UInt8} {l : List Tk.Tok} (h : GlZ w g fin sb gb gs gz nm W l) (hg : g < w.heap.size) (z : Int) : GlZ w g fin sb gb gs z nm (W.setCell ⟨sb, 3, none⟩ (.int .i64 z)) l := by
  have hf : ∀ k, k ≠ sb → (W.setCell ⟨sb, 3, none⟩ (.int .i64 z)).heap[k]? = W.heap[k]? := fun k hk => Below.heap_setCell W ⟨sb, 3, none⟩ _ k hk
  have hl := h.lb
  refine ⟨⟨h.fz.chg.setNew (by show w.heap.size ≤ sb; omega) _, (hf _ (by omega)).trans h.fz.z⟩, hl, ?_, h.pb.same fun k hk hl => hf k (by omega)⟩
  have h1 := h.xb.set_ 3 (.int .i64 z)
  simpa using h1
theorem Row.one6 {w : World} {p : Nat → Prop} {y : X} {tf : Nat} {cs : List Value} (hy : XIn w p y cs) (hp : p tf) (hb : Blk w tf 54 cs.toArray) : Row w p 6 (LX w p) [y] (.slice (some ⟨tf, 0, none⟩) 1 1) := by
  refine ⟨some ⟨tf, 0, none⟩, 1, fun _ => cs, rfl, Nat.le_refl _, by decide, fun i z hz => ?_, fun _ => ⟨tf, 0, hp, rfl, fun i j u hi hu => ?_⟩⟩
  · match i, hz with
    | 0, hz => injection hz with hz; subst hz; exact hy
  · have hi : i < 1 := hi
    obtain rfl : i = 0 := by omega
    simp only [Nat.zero_add, Nat.zero_mul]
    rw [hb.cell]
    simpa using hu
theorem GlE.of {w W4 W : World} {g fin sb N tb : Nat} {gb : Int} {gs : Bool} {gz : Int} {nm : List UInt8} {R : Ps.Res Gl} {l : List Tk.Tok} {y : X} {ya : Option Addr} {yc : Nat} (h : GlZ w g fin sb gb gs gz nm W4 l) (hg : g < w.heap.size) (hN : sb < N) (hy : XIn W4 (fun k => N ≤ k) y (X.cells y.kind y.num y.bits y.sg y.name (.slice ya y.kids.length yc))) (htb : W4.heap.size = tb)
    (h5 : (W4.setCell ⟨sb, 4, none⟩ (.slice (some ⟨tb, 0, none⟩) 1 1)).alloc (.cells #[.int .i64 y.kind, .int .u64 y.num, .int .i64 y.bits, .bool y.sg, .string y.name, .slice ya y.kids.length yc] 54) = W)
    (hR : R = Ps.seq (Ps.need fin [59] l) fun _ l => .ok (⟨gb, gs, Ps.nm nm, gz, [y]⟩, l)) : GlE w g fin sb gb gs gz nm R W [y] l (some ⟨tb, 0, none⟩) 1 := by
  obtain ⟨V, hV⟩ : ∃ V, V = W4.setCell ⟨sb, 4, none⟩ (.slice (some ⟨tb, 0, none⟩) 1 1) := ⟨_, rfl⟩
  rw [← hV] at h5
  have hlb := h.lb
  have hsl := h.xb.lt
  have hsz : V.heap.size = W4.heap.size := by rw [hV]; simp
  have hVo : ∀ k, k ≠ sb → V.heap[k]? = W4.heap[k]? := fun k hk => by rw [hV]; exact Below.heap_setCell _ ⟨sb, 4, none⟩ _ k hk
  have hbl : Below V.heap.size V W := by rw [← h5]; exact Ext.alloc (Below.refl _ _) _
  have hoth : ∀ k, k ≠ sb → k < W4.heap.size → W.heap[k]? = W4.heap[k]? := fun k hk hl => (hbl.block k (by omega)).trans (hVo k hk)
  have hnb : Blk W tb 54 (X.cells y.kind y.num y.bits y.sg y.name (.slice ya y.kids.length yc)).toArray := by rw [← h5]; exact Blk.newn _ _ (hsz.trans htb)
  refine ⟨⟨?_, (hoth _ (by omega) h.fz.z.lt).trans h.fz.z⟩, hlb, ?_, ?_, h.pb.same fun k hk hl => hoth k (by omega) hl, hR⟩
  · have h1 : Chg g w V := by rw [hV]; exact h.fz.chg.setNew (by show w.heap.size ≤ sb; omega) _
    exact h1.trans (Chg.of_below hbl)
  · have h1 := h.xb.set_ 4 (.slice (some ⟨tb, 0, none⟩) 1 1)
    have h2 : Blk V sb 41 #[.int .i64 gb, .bool gs, .string ⟨nm.toArray⟩, .int .i64 gz, .slice (some ⟨tb, 0, none⟩) 1 1] := by rw [hV]; simpa using h1
    exact h2.keep hbl
  · exact Row.one6 (hy.move fun k hk hl => ⟨by have hk : N ≤ k := hk; omega, hoth k (by have hk : N ≤ k := hk; omega) hl⟩) (by omega) hnb
theorem pis_any (w : World) (g fin d : Nat) (l : List Tk.Tok) (s : List UInt8) (h : Pb w g fin d l) : Calls Try.prog 21 #[P g, .string ⟨s.toArray⟩] w fun e w' => e = .returned (.bool (Ps.sees s l)) ∧ Chg g w w' ∧ Pb w' g fin d (if Ps.sees s l = true then l.tail else l) := by
  cases hs : Ps.sees s l with
  | true => exact pis_yes w g fin d l s h hs
  | false => exact (pis_no w g fin d l s h hs).mono fun e w' ⟨h1, h2⟩ => ⟨h1, h2 ▸ Chg.of_below (Below.refl _ _), by subst h2; exact h⟩
set_option maxHeartbeats 32000000 in
theorem pglob_ok (w0 : World) (g fin n : Nat) (gb : Int) (gs : Bool) (nm : List UInt8) (l : List Tk.Tok) (h : Pb w0 g fin 0 l) (hn : 32 * l.length + 25 ≤ n) :
    Calls Try.prog 25 #[P g, W.ty gb gs, .string ⟨nm.toArray⟩] w0 (PgR g fin 0 w0 (Ps.glS (Ps.at' fin n) fin gb gs nm l)) := by
  obtain ⟨w, hw⟩ : ∃ w, w = w0.alloc (.cells #[.int .i64 gb, .bool gs] 38) := ⟨_, rfl⟩
  obtain ⟨w1, hw1⟩ : ∃ w1, w1 = w.alloc (.cells Pw.zG 41) := ⟨_, rfl⟩
  obtain ⟨bt, hbt⟩ : ∃ bt, bt = w0.heap.size := ⟨_, rfl⟩
  have HB0 : Hid (Below w0.heap.size w0 w) := by show Below _ _ _; rw [hw]; exact Ext.alloc (Below.refl _ _) _
  have HT0 : Hid (Blk w bt 38 #[.int .i64 gb, .bool gs]) := by show Blk _ _ _ _; rw [hw, hbt]; exact Blk.new _ _ _
  have HF1 : Hid (Fz w g 41 Pw.zG w1) := by show Fz _ _ _ _ _; rw [hw1]; exact Fz.new ..
  have hp : Pb w g fin 0 l := h.keep HB0.out
  have hgl : g < w.heap.size := hp.lt
  have HG := Lib.hid hgl
  have HP1 : Hid (Pb w1 g fin 0 l) := by show Pb _ _ _ _ _; rw [hw1]; exact hp.keep (Ext.alloc (Below.refl _ _) _)
  have HT1 : Hid (Blk w1 bt 38 #[.int .i64 gb, .bool gs]) := by show Blk _ _ _ _; rw [hw1]; exact HT0.out.keep (Ext.alloc (Below.refl _ _) _)
  have hsz : w0.heap.size + 1 = w.heap.size := by rw [hw]; simp
  obtain ⟨R, hR⟩ : ∃ R, R = Ps.glS (Ps.at' fin n) fin gb gs nm l := ⟨_, rfl⟩
  rw [← hR]
  obtain ⟨K, hK⟩ : ∃ K : Int → List Tk.Tok → Ps.Res Gl, K = fun z l => if Ps.sees [61] l = true then (if z = 0 then Ps.seq ((Ps.at' fin n).expr 0 l.tail) fun x l => Ps.seq (Ps.need fin [59] l) fun _ l => .ok (⟨gb, gs, Ps.nm nm, z, [x]⟩, l) else Ps.seq (Ps.need fin [123] l.tail) fun _ l => Ps.seq ((Ps.at' fin n).inits z [] l) fun xs l => Ps.seq (Ps.need fin [59] l) fun _ l => .ok (⟨gb, gs, Ps.nm nm, z, xs⟩, l)) else Ps.seq (Ps.need fin [59] l) fun _ l => .ok (⟨gb, gs, Ps.nm nm, z, []⟩, l) := ⟨_, rfl⟩
  have HR : Hid (R = Ps.seq (Ps.sizeS fin l) K) := by show R = _; rw [hR, hK]; rfl
  have HK := Lib.hid hK
  have HNF := Lib.hid hn
  have h0 := HT1.out.cell 0
  have h1 := HT1.out.cell 1
  have HW := Lib.hid hw
  have HW1 := Lib.hid hw1
  have HBT := Lib.hid hbt
  have HSZ : Hid (bt + 1 = w.heap.size) := by rw [hbt]; exact hsz
  clear h hp hgl hR hK hn hw hw1 hbt hsz
  go_enter Try.func25, Try.ntmps25
  go_upto_region 1 with (fail)
  rw [← HW.out, ← HBT.out, ← HW1.out, HSZ.out]
  clear HW HW1 HBT HSZ
  have hsz1 : w.heap.size < w1.heap.size := HF1.out.lt
  go_upto_region 2 with (first | (refine wpList_store_row rfl 41 _ _ rfl w1.heap.size #[.int .i64 gb, .bool gs, .string ⟨nm.toArray⟩, .int .i64 0, .slice none 0 0] rfl rfl 41 Pw.zG (Blk.new _ _ _) (by kernel_rfl) rfl (Pw.oneG _ _ _ _ _ _ _) ?_))
  obtain ⟨sb, hsb⟩ : ∃ sb, sb = w1.heap.size := ⟨_, rfl⟩
  rw [← hsb]
  generalize hw2 : World.setRow _ _ _ = w2
  have H2 : Hid (GlZ w g fin sb gb gs 0 nm w2 l) := by
    have hb : Below w1.heap.size w1 w2 := by rw [← hw2, hsb]; exact Pw.rowBel (Ext.alloc (Below.refl _ _) _) (Nat.le_refl _) _
    refine ⟨HF1.out.below hb, by rw [hsb]; exact hsz1, ?_, HP1.out.keep hb⟩
    rw [← hw2, hsb]; exact Pw.rowB (Blk.new _ _ _) _
  clear hw2 hsb hsz1 h0 h1 HT0 HT1 HF1 HP1
  simp only [Act.put]
  have HGS : Hid (g < sb ∧ w.heap.size < sb) := ⟨by have h1 := H2.out.lb; have h2 := HG.out; omega, H2.out.lb⟩
  have HI := Lib.hid (pis_any w2 g fin 0 l [91] H2.out.pb)
  obtain ⟨Z, hZ⟩ : ∃ Z, Ps.sees [91] l = Z := ⟨_, rfl⟩
  have HZZ := Lib.hid hZ
  rw [hZ] at HI
  clear hZ
  go_upto_if 13 with (first | (go_at_call_of 21 (Value.string ⟨#[91]⟩); refine (HI.out).mono ?_; rintro e w3 ⟨rfl, hc1, hb1⟩; have HCw3 := Lib.hid hc1; have HBw3 := Lib.hid hb1; clear hc1 hb1))
  have H3 := Lib.hid (H2.out.chg HG.out HCw3.out HBw3.out)
  clear H2 HI HCw3 HBw3
  go_cut [8] from 9 to 110 (fun nv wx => ∃ z l1, Hid (GlZ w g fin sb gb gs z nm wx l1) ∧ Hid (R = K z l1) ∧ Hid (l1.length ≤ l.length) ∧ Hid (0 ≤ z ∧ z ≤ 8000))
  case first =>
    cases Z with
    | false =>
      have HRK : Hid (R = K 0 l) := by
        show R = _
        rw [HR.out]; unfold Ps.sizeS; rw [HZZ.out, if_neg (by decide)]; rfl
      go_wp2_with (fail)
      go_meet
      case rel => exact ⟨0, l, Lib.hid H3.out, HRK, Lib.hid (Nat.le_refl _), Lib.hid ⟨by decide, by decide⟩⟩
    | true =>
      have HP3 : Hid (Pb w3 g fin 0 l.tail) := H3.out.pb
      have HLT : Hid (l.tail.length < l.length) := Ps.sees_lt HZZ.out
      have HRT : Hid (R = Ps.seq (match l.tail with
        | [] => .error (2, fin)
        | t :: l => if t.kind ≠ 2 then .error (2, t.pos) else if t.n < 1 ∨ 8000 < t.n then .error (3, t.pos) else Ps.seq (Ps.need fin [93] l) fun _ l => .ok (t.n, l)) K) := by
        show R = _
        rw [HR.out]; unfold Ps.sizeS; rw [HZZ.out, if_pos rfl]; rfl
      obtain ⟨lt, hlt⟩ : ∃ lt, lt = l.tail := ⟨_, rfl⟩
      have HX3 : Hid (GlZ w g fin sb gb gs 0 nm w3 lt) := by rw [hlt]; exact H3.out
      rw [← hlt] at HP3 HLT HRT
      clear hlt H3 HR HZZ
      have HAT := Lib.hid (pat_ok w3 g fin 0 lt HP3.out)
      obtain ⟨v, hb, ht⟩ := HP3.out
      have p0 := hb.cell 0
      cases lt with
      | nil =>
        obtain ⟨ta, tc, rfl, _, _⟩ := ht.sl
        obtain rfl : R = .error (2, fin) := HRT.out
        clear hb ht
        go_wp2_with (first | (go_at_call 19; refine HAT.out.mono ?_; rintro e w' ⟨rfl, rfl⟩) | (go_at_call 22; refine (pfail_ok _ _ _ _).mono ?_; rintro e w' ⟨rfl, rfl⟩))
        exact ⟨rfl, (Chg.of_below HB0.out).trans HX3.out.fz.chg, HX3.out.pb.par, rfl⟩
      | cons t l2 =>
        obtain ⟨q, off, c, hq, rfl, hlc, hcm, c0, c1, c2, c3, c4, c5⟩ := ht.hd
        have q0 : ((l2.length : Int) + 1 == 0) = false := by simp; omega
        have HTN : Hid (W.U t.n) := ht.ok.n
        clear hb ht
        by_cases hk : t.kind = 2
        rotate_left
        · obtain rfl : R = .error (2, t.pos) := by rw [HRT.out]; show Ps.seq (if t.kind ≠ 2 then _ else _) _ = _; rw [if_pos hk]; rfl
          have qk : (t.kind != 2) = true := by simpa using hk
          clear hk
          go_wp2_with (first | (go_at_call 19; refine HAT.out.mono ?_; rintro e w' ⟨rfl, rfl⟩) | (go_at_call 22; refine (pfail_ok _ _ _ _).mono ?_; rintro e w' ⟨rfl, rfl⟩))
          exact ⟨rfl, (Chg.of_below HB0.out).trans HX3.out.fz.chg, HX3.out.pb.par, rfl⟩
        have HRK : Hid (R = Ps.seq (if t.n < 1 ∨ 8000 < t.n then .error (3, t.pos) else Ps.seq (Ps.need fin [93] l2) fun _ l => .ok (t.n, l)) K) := by
          show R = _
          rw [HRT.out]; show Ps.seq (if t.kind ≠ 2 then _ else _) _ = _; rw [if_neg (fun h => h hk)]
        have qk : (t.kind != 2) = false := by simpa using hk
        clear hk HRT
        go_upto_region 6 with (fail)
        generalize hw4 : World.alloc w3 _ = w4
        obtain ⟨b8, hb8⟩ : ∃ b8, b8 = w3.heap.size := ⟨_, rfl⟩
        rw [← hb8]
        have HB4 : Hid (Below w3.heap.size w3 w4) := by show Below _ _ _; rw [← hw4]; exact Ext.alloc (Below.refl _ _) _
        have HY4 : Hid (Blk w4 b8 92 #[.int .i64 t.kind, .string ⟨t.text.toArray⟩, .int .u64 t.n, .int .i64 t.bits, .bool t.sg, .int .i64 (t.pos : Int)]) := by show Blk _ _ _ _; rw [← hw4, hb8]; exact Blk.new _ _ _
        have HX4 := Lib.hid (HX3.out.keep HB4.out)
        have HNB : Hid (b8 ≠ sb ∧ sb ≠ b8) := by have h1 := HX3.out.xb.lt; exact ⟨by omega, by omega⟩
        clear hw4 hb8 p0 c0 c1 c2 c3 c4 c5 HAT
        have k2 := HY4.out.cell 2
        have k5 := HY4.out.cell 5
        by_cases hr : t.n < 1 ∨ 8000 < t.n
        · obtain rfl : R = .error (3, t.pos) := by rw [HRK.out, if_pos hr]; rfl
          rcases hr with hr | hr
          · have q1 : decide (t.n < 1) = true := decide_eq_true hr
            clear hr
            go_wp2_with (first | (go_at_call 22; refine (pfail_ok _ _ _ _).mono ?_; rintro e w' ⟨rfl, rfl⟩))
            exact ⟨rfl, (Chg.of_below HB0.out).trans HX4.out.fz.chg, HX4.out.pb.par, rfl⟩
          · have q1 : decide (t.n < 1) = false := decide_eq_false (by omega)
            have q2 : decide (t.n > 8000) = true := decide_eq_true hr
            clear hr
            go_wp2_with (first | (go_at_call 22; refine (pfail_ok _ _ _ _).mono ?_; rintro e w' ⟨rfl, rfl⟩))
            exact ⟨rfl, (Chg.of_below HB0.out).trans HX4.out.fz.chg, HX4.out.pb.par, rfl⟩
        have HRN : Hid (R = Ps.seq (Ps.need fin [93] l2) fun _ l => K t.n l) := by show R = _; rw [HRK.out, if_neg hr, Ps.seq_seq]; rfl
        have q1 : decide (t.n < 1) = false := decide_eq_false (by omega)
        have q2 : decide (t.n > 8000) = false := decide_eq_false (by omega)
        have n1 : 1 ≤ t.n := by omega
        have n2 : t.n ≤ 8000 := by omega
        have HNR : Hid (0 ≤ t.n ∧ t.n ≤ 8000) := ⟨by omega, by omega⟩
        clear hr HRK
        obtain ⟨v2, hb2, ht2⟩ := HX4.out.pb
        obtain ⟨tq2, off2, tc2, htq2, rfl, hlc2, hcm2, _, _, e2, _⟩ := ht2.hd
        have p0 := hb2.cell 0
        have z0 := hb2.frozen 0
        have s3 := HX4.out.xb.cell 3
        have f3 := HX4.out.xb.frozen 3
        obtain ⟨a2, ha2⟩ : ∃ a2 : Option Addr, a2 = if tc2 = 1 then some ⟨tq2, off2, none⟩ else some ⟨tq2, off2 + 6, none⟩ := ⟨_, rfl⟩
        have hsl := fun w => tok_sl w tq2 off2 l2.length tc2 a2 ha2
        clear hb2 ht2
        go_upto_region 9 with (fail)
        generalize hw5 : World.setCell w4 _ _ = w5
        have HX5 : Hid (GlZ w g fin sb gb gs t.n nm w5 (t :: l2)) := by show GlZ _ _ _ _ _ _ _ _ _ _; rw [← hw5]; exact HX4.out.setz HG.out t.n
        clear hw5 p0 z0 s3 f3 e2 hsl ha2 k2 k5 q1 q2 hq htq2 hlc hlc2 hcm hcm2 n1 n2
        obtain ⟨v5, hb5, ht5⟩ := HX5.out.pb
        obtain ⟨tq5, off5, tc5, htq5, rfl, hlc5, hcm5, _⟩ := ht5.hd
        have p0 := hb5.cell 0
        have z0 := hb5.frozen 0
        obtain ⟨a5, ha5⟩ : ∃ a5 : Option Addr, a5 = if tc5 = 1 then some ⟨tq5, off5, none⟩ else some ⟨tq5, off5 + 6, none⟩ := ⟨_, rfl⟩
        have hsl := fun w => tok_sl w tq5 off5 l2.length tc5 a5 ha5
        have HTN5 := Lib.hid (Pb.tl hb5 ht5 a5 ha5)
        clear hb5 ht5 ha5
        go_upto_region 10 with (fail)
        generalize hw6 : World.setCell w5 _ _ = w6
        rw [hw6] at HTN5
        have HX6 := Lib.hid (HX5.out.chg HG.out HTN5.out.1 HTN5.out.2)
        clear hw6 p0 z0 hsl
        have HN := Lib.hid (pneed_ok w6 g fin 0 l2 [93] HX6.out.pb)
        obtain ⟨rn, hrn⟩ : ∃ rn, rn = Ps.need fin [93] l2 := ⟨_, rfl⟩
        have HLA : Hid (∀ x l', rn = .ok (x, l') → l'.length < l2.length) := fun x l' h => Ps.need_lt (fin := fin) (s := [93]) (u := x) (hrn ▸ h)
        rw [← hrn] at HN HRN
        clear hrn
        go_wp2_with (first | (go_at_call_of 44 (Value.string ⟨#[93]⟩); refine (HN.out).mono ?_; rintro e w7 ⟨hc6, hp6, hr6⟩; have HCw7 := Lib.hid hc6; have HPw7 := Lib.hid hp6; clear hc6 hp6; rcases rn with z | ⟨y0, l7⟩; (obtain rfl := hr6); rotate_left; (obtain ⟨rfl, hpb⟩ := hr6; have HPN := Lib.hid hpb; clear hpb); rotate_left))
        · obtain rfl : R = .error z := HRN.out
          exact ⟨rfl, (Chg.of_below HB0.out).trans (HX6.out.fz.chg.trans HCw7.out), HPw7.out, rfl⟩
        · go_meet
          case rel => exact ⟨t.n, l7, Lib.hid (HX6.out.chg HG.out HCw7.out HPN.out), Lib.hid HRN.out, Lib.hid (by have h1 := HLA.out _ _ rfl; have h2 := HLT.out; rw [List.length_cons] at h2; omega), HNR⟩
  case rest =>
    obtain ⟨wa, hwa⟩ : ∃ wa, wa = wc := ⟨_, rfl⟩
    rw [← hwa] at hcut ⊢
    clear hwa
    obtain ⟨gz, l1, HA, HRA, HLA, HZR⟩ := hcut
    clear HR
    have HI := Lib.hid (pis_any wa g fin 0 l1 [61] HA.out.pb)
    obtain ⟨Z, hZ⟩ : ∃ Z, Ps.sees [61] l1 = Z := ⟨_, rfl⟩
    have HZZ := Lib.hid hZ
    rw [hZ] at HI
    clear hZ
    go_upto_if 72 with (first | (go_at_call_of 21 (Value.string ⟨#[61]⟩); refine (HI.out).mono ?_; rintro e w3 ⟨rfl, hc1, hb1⟩; have HCw3 := Lib.hid hc1; have HBw3 := Lib.hid hb1; clear hc1 hb1))
    have H3 := Lib.hid (HA.out.chg HG.out HCw3.out HBw3.out)
    clear HI HCw3 HBw3
    go_cut [] from 9 to 110 (fun wx => ∃ ini a c l9, Hid (GlE w g fin sb gb gs gz nm R wx ini l9 a c))
    case first =>
      cases Z with
      | false =>
        have HRK : Hid (R = Ps.seq (Ps.need fin [59] l1) fun _ l => .ok (⟨gb, gs, Ps.nm nm, gz, []⟩, l)) := by
          show R = _
          rw [HRA.out, HK.out]; show (if Ps.sees [61] l1 = true then _ else _) = _; rw [HZZ.out, if_neg (by decide)]
        go_wp2_with (fail)
        go_meet
        case rel => exact ⟨[], none, 0, l1, Lib.hid ⟨H3.out.fz, H3.out.lb, H3.out.xb, Row.nil _ _ _ _, H3.out.pb, HRK.out⟩⟩
      | true =>
        have HLT : Hid (l1.tail.length < l1.length) := Ps.sees_lt HZZ.out
        have HX3 : Hid (GlZ w g fin sb gb gs gz nm w3 l1.tail) := H3.out
        have HRK : Hid (R = if gz = 0 then Ps.seq ((Ps.at' fin n).expr 0 l1.tail) fun x l => Ps.seq (Ps.need fin [59] l) fun _ l => .ok (⟨gb, gs, Ps.nm nm, gz, [x]⟩, l) else Ps.seq (Ps.need fin [123] l1.tail) fun _ l => Ps.seq ((Ps.at' fin n).inits gz [] l) fun xs l => Ps.seq (Ps.need fin [59] l) fun _ l => .ok (⟨gb, gs, Ps.nm nm, gz, xs⟩, l)) := by
          show R = _
          rw [HRA.out, HK.out]; show (if Ps.sees [61] l1 = true then _ else _) = _; rw [HZZ.out, if_pos rfl]
        obtain ⟨lt, hlt⟩ : ∃ lt, lt = l1.tail := ⟨_, rfl⟩
        rw [← hlt] at HLT HX3 HRK
        clear hlt H3 HZZ HRA
        have s3 := HX3.out.xb.cell 3
        by_cases hz0 : gz = 0
        · have q0 : (gz == 0) = true := by simpa using hz0
          have HR0 : Hid (R = Ps.seq ((Ps.at' fin n).expr 0 lt) fun x l => Ps.seq (Ps.need fin [59] l) fun _ l => .ok (⟨gb, gs, Ps.nm nm, gz, [x]⟩, l)) := by show R = _; rw [HRK.out, if_pos hz0]
          have HE := Lib.hid ((pe_all g fin n).expr 0 w3 lt (by omega) HX3.out.pb (by have h1 := HLT.out; have h2 := HLA.out; have h3 := HNF.out; omega))
          obtain ⟨r, hr⟩ : ∃ r, r = (Ps.at' fin n).expr 0 lt := ⟨_, rfl⟩
          rw [← hr] at HE HR0
          clear hr hz0 HRK
          go_wp2_with (first | (go_at_call 46; refine (HE.out).mono ?_; rintro e w4 ⟨hc4, hp4, hr4⟩; have HC4 := Lib.hid hc4; have HP4 := Lib.hid hp4; clear hc4 hp4; rcases r with z | ⟨y, l5⟩; (obtain rfl := hr4); rotate_left; (obtain ⟨cs, rfl, hin, hpb⟩ := hr4; obtain ⟨ya, yc, rfl⟩ := Pw.form hin; have HIN := Lib.hid hin; have HX4 := Lib.hid (HX3.out.chg HG.out HC4.out hpb); have s4 := HX4.out.xb.cell 4; have f4 := HX4.out.xb.frozen 4; have ltb : sb < w4.heap.size := HX4.out.xb.lt; clear hin hpb); rotate_left))
          · obtain rfl : R = .error z := HR0.out
            exact ⟨rfl, (Chg.of_below HB0.out).trans (HX3.out.fz.chg.trans HC4.out), HP4.out, rfl⟩
          · obtain ⟨tb, htb⟩ : ∃ tb, w4.heap.size = tb := ⟨_, rfl⟩
            rw [htb]
            generalize hw5 : World.alloc _ _ = w5
            have HE5 : Hid (GlE w g fin sb gb gs gz nm R w5 [y] l5 (some ⟨tb, 0, none⟩) 1) := GlE.of HX4.out HG.out HX3.out.xb.lt HIN.out htb hw5 HR0.out
            clear hw5 s4 f4 s3
            go_meet
            case rel => exact ⟨[y], _, _, l5, HE5⟩
        · have q0 : (gz == 0) = false := by simpa using hz0
          have HR0 : Hid (R = Ps.seq (Ps.need fin [123] lt) fun _ l => Ps.seq ((Ps.at' fin n).inits gz [] l) fun xs l => Ps.seq (Ps.need fin [59] l) fun _ l => .ok (⟨gb, gs, Ps.nm nm, gz, xs⟩, l)) := by show R = _; rw [HRK.out, if_neg hz0]
          have HN := Lib.hid (pneed_ok w3 g fin 0 lt [123] HX3.out.pb)
          obtain ⟨rn, hrn⟩ : ∃ rn, rn = Ps.need fin [123] lt := ⟨_, rfl⟩
          have HLB : Hid (∀ x l', rn = .ok (x, l') → l'.length < lt.length) := fun x l' h => Ps.need_lt (fin := fin) (s := [123]) (u := x) (hrn ▸ h)
          rw [← hrn] at HN HR0
          clear hrn hz0 HRK
          go_upto_region 15 with (first | (go_at_call_of 44 (Value.string ⟨#[123]⟩); refine (HN.out).mono ?_; rintro e w4 ⟨hc6, hp6, hr6⟩; have HCw4 := Lib.hid hc6; have HPw4 := Lib.hid hp6; clear hc6 hp6; rcases rn with z | ⟨y0, l4⟩; (obtain rfl := hr6); rotate_left; (obtain ⟨rfl, hpb⟩ := hr6; have HPN := Lib.hid hpb; clear hpb); rotate_left))
          · obtain rfl : R = .error z := HR0.out
            exact ⟨rfl, (Chg.of_below HB0.out).trans (HX3.out.fz.chg.trans HCw4.out), HPw4.out, rfl⟩
          have HX4 := Lib.hid (HX3.out.chg HG.out HCw4.out HPN.out)
          obtain ⟨K2, hK2⟩ : ∃ K2 : List X → List Tk.Tok → Ps.Res Gl, K2 = fun xs l => Ps.seq (Ps.need fin [59] l) fun _ l => .ok (⟨gb, gs, Ps.nm nm, gz, xs⟩, l) := ⟨_, rfl⟩
          have HK2 := Lib.hid hK2
          have H0 : Hid (GlL w g fin n sb l.length gb gs gz nm R K2 w4 n [] l4 none 0) := by
            refine ⟨HX4.out.fz, HX4.out.lb, HX4.out.xb, OwnR.nil .., HX4.out.pb, ?_, ?_, Nat.le_refl _, ?_, HZR.out.1⟩
            · rw [HR0.out, hK2]; rfl
            · have h1 := HLB.out _ _ rfl; have h2 := HLT.out; have h3 := HLA.out; have h4 := HNF.out; omega
            · have h1 := HLB.out _ _ rfl; have h2 := HLT.out; have h3 := HLA.out; omega
          clear hK2 HX4 HX3 HR0 HCw4 HPw4 HPN HN HLB s3 q0
          go_loopw [] (fun wr => ∃ (m : Nat) (acc : List X) (lr : List Tk.Tok) (ar : Option Addr) (cr : Nat), Hid (GlL w g fin n sb l.length gb gs gz nm R K2 wr m acc lr ar cr)) (fun wr => tkL wr g)
          case atStart => exact ⟨_, _, _, _, _, H0.out⟩
          case round =>
            obtain ⟨m, acc, lr, ar, cr, HA⟩ := hrel
            obtain ⟨m, rfl⟩ : ∃ m', m = m' + 1 := ⟨m - 1, by have := HA.out.fuel; omega⟩
            clear H0
            cases hs41 : Ps.sees [125] lr with
            | true =>
              have HI := Lib.hid (pis_yes wr g fin 0 lr [125] HA.out.pb hs41)
              have HEN := Lib.hid (fun wi hc => HA.out.end_ (wi := wi) HG.out hs41 hc)
              clear hs41
              go_wp2_with (first | (go_at_call_of 21 (Value.string ⟨#[125]⟩); refine (HI.out).mono ?_; rintro e w5 ⟨rfl, hc1, hb1⟩; have HCw5 := Lib.hid hc1; have HBw5 := Lib.hid hb1; clear hc1 hb1))
              have HE5 : Hid (GlE w g fin sb gb gs gz nm R w5 acc lr.tail ar cr) := by
                obtain ⟨hR9, hz9, hb9, hr9⟩ := HEN.out w5 HCw5.out
                exact ⟨hz9, HA.out.lb, hb9, hr9, HBw5.out, by rw [hR9, HK2.out]⟩
              go_meet
              case rel => exact ⟨acc, _, _, lr.tail, HE5⟩
            | false =>
              have HI := Lib.hid (pis_no wr g fin 0 lr [125] HA.out.pb hs41)
              have HS41 := Lib.hid hs41
              clear hs41
              have hxb := HA.out.xb
              obtain ⟨nA, hnA⟩ : ∃ nA, nA = acc.length := ⟨_, rfl⟩
              have e4 : wr.cell? ⟨sb, 4, none⟩ = some (.slice ar nA cr) := by rw [hnA]; exact hxb.cell 4
              have e3 : wr.cell? ⟨sb, 3, none⟩ = some (.int .i64 gz) := hxb.cell 3
              have h8 : (nA : Int) ≤ 8000 := by have := HA.out.few; have := HZR.out; omega
              have HNA := Lib.hid hnA
              clear hxb hnA
              go_upto_if 88 with (first | (go_at_call_of 21 (Value.string ⟨#[125]⟩); refine (HI.out).mono ?_; rintro e w' ⟨rfl, rfl⟩))
              go_cut [] from 82 to 107 (fun wx => ∃ l2, Hid (GlS w g fin n sb l.length gb gs gz nm R K2 lr.length wx m acc l2 ar cr))
              case first =>
                by_cases ha : acc = []
                · obtain rfl : nA = 0 := by rw [HNA.out, ha]; rfl
                  have HX9 : Hid (GlS w g fin n sb l.length gb gs gz nm R K2 lr.length wr m acc lr ar cr) := HA.out.sep HG.out HS41.out (Chg.of_below (Below.refl _ _)) HA.out.pb (Nat.le_refl _) (if_pos ha)
                  clear ha
                  go_wp2_with (fail)
                  go_meet
                  case rel => exact ⟨lr, HX9.out⟩
                · have hn0 : 0 < nA := by rw [HNA.out]; exact List.length_pos_iff.2 ha
                  have q1 : decide ((nA : Int) > 0) = true := decide_eq_true (by omega)
                  have HN := Lib.hid (pneed_ok wr g fin 0 lr [44] HA.out.pb)
                  have HRE : Hid (∀ z, Ps.need fin [44] lr = .error z → R = .error z) := fun z hz => by
                    rw [HA.out.is]
                    show Ps.seq (Ps.initsS (Ps.at' fin m) fin gz acc lr) _ = _
                    unfold Ps.initsS
                    rw [HS41.out, if_neg (by decide), if_neg ha, hz]; rfl
                  obtain ⟨rn, hrn⟩ : ∃ rn, rn = Ps.need fin [44] lr := ⟨_, rfl⟩
                  have HNL : Hid (∀ x l', rn = .ok (x, l') → l'.length ≤ lr.length ∧ (if acc = [] then (.ok ((), lr) : Ps.Res Unit) else Ps.need fin [44] lr) = .ok ((), l')) := fun x l' hz => ⟨Nat.le_of_lt (Ps.need_lt (hrn ▸ hz)), by rw [if_neg ha]; exact hrn ▸ hz⟩
                  rw [← hrn] at HN HRE
                  clear ha hrn
                  go_wp2_with (first | (go_at_call_of 44 (Value.string ⟨#[44]⟩); refine (HN.out).mono ?_; rintro e w6 ⟨hc6, hp6, hr6⟩; have HCw6 := Lib.hid hc6; have HPw6 := Lib.hid hp6; clear hc6 hp6; rcases rn with z | ⟨y0, l5⟩; (obtain rfl := hr6); rotate_left; (obtain ⟨rfl, hpb⟩ := hr6; have HPN := Lib.hid hpb; clear hpb); rotate_left))
                  · obtain rfl : R = .error z := HRE.out z rfl
                    exact ⟨rfl, (Chg.of_below HB0.out).trans (HA.out.fz.chg.trans HCw6.out), HPw6.out, rfl⟩
                  · go_meet
                    case rel => exact ⟨l5, HA.out.sep HG.out HS41.out HCw6.out HPN.out (HNL.out _ _ rfl).1 (HNL.out _ _ rfl).2⟩
              case rest =>
                obtain ⟨wa, hwa⟩ : ∃ wa, wa = wc := ⟨_, rfl⟩
                rw [← hwa] at hcut ⊢
                clear hwa e4 e3
                obtain ⟨l3, HS⟩ := hcut
                have e4 : wa.cell? ⟨sb, 4, none⟩ = some (.slice ar nA cr) := by rw [HNA.out]; exact HS.out.xb.cell 4
                have e3 : wa.cell? ⟨sb, 3, none⟩ = some (.int .i64 gz) := HS.out.xb.cell 3
                by_cases hn8 : (nA : Int) = gz
                · obtain rfl : R = .error (5, Ps.pos fin l3) := by rw [HS.out.is, if_pos (HNA.out ▸ hn8)]
                  have q8 : ((nA : Int) == gz) = true := by simp [hn8]
                  have HAT := Lib.hid (pat_ok wa g fin 0 l3 HS.out.pb)
                  clear hn8
                  go_wp2_with (first | (go_at_call 19; refine HAT.out.mono ?_; rintro e w' ⟨rfl, rfl⟩) | (go_at_call 22; refine (pfail_ok _ _ _ _).mono ?_; rintro e w' ⟨rfl, rfl⟩))
                  exact ⟨rfl, (Chg.of_below HB0.out).trans HS.out.fz.chg, HS.out.pb.par, rfl⟩
                have q8 : ((nA : Int) == gz) = false := by simp [hn8]
                have HN8 : Hid (¬ (acc.length : Int) = gz) := fun h => hn8 (HNA.out ▸ h)
                clear hn8
                go_upto_region 20 with (fail)
                clear e4 e3 q8
                have HGS2 : Hid (g < wa.heap.size) := by have h1 := HS.out.fz.lt; have h2 := HG.out; show g < _; omega
                have HXI : Hid (∀ wi, Chg g wa wi → Blk wi sb 41 #[.int .i64 gb, .bool gs, .string ⟨nm.toArray⟩, .int .i64 gz, .slice ar nA cr]) := fun wi hc => by
                  rw [HNA.out]
                  exact (hc.block sb HS.out.xb.lt (fun e => by injection e with e; have := HGS.out.1; omega)).trans HS.out.xb
                have HE : Hid (∀ w1, Pb w1 g fin 0 l3 → Calls Try.prog 46 #[P g] w1 (PxR g fin 0 w1 ((Ps.at' fin m).expr 0 l3))) := fun w1 hp => (pe_all g fin m).expr 0 w1 l3 (by omega) hp HS.out.fuel
                have HR9 : Hid (R = Ps.seq ((Ps.at' fin m).expr 0 l3) fun x l => Ps.seq ((Ps.at' fin m).inits gz (acc ++ [x]) l) K2) := by show R = _; rw [HS.out.is, if_neg HN8.out]
                obtain ⟨r, hr⟩ : ∃ r, r = (Ps.at' fin m).expr 0 l3 := ⟨_, rfl⟩
                have HRE := Lib.hid hr
                rw [← hr] at HE HR9
                clear hr
                cases r with
                | error z =>
                  have HRZ : Hid (R = .error z) := HR9.out
                  apply Iy.wp_region 5 [3] (fun n => []) (Ix.Rb) (fun mm vs wi => Hid (Chg g wa wi) ∧ (match mm with | 0 => Pb wi g fin 0 l3 | _ + 1 => True)) (Ix.vk [(Ix.kis _), (Ix.kis (.slice ar nA cr)), (Ix.kis _), (Ix.ksat (fun _ => False)), (Ix.ksat (fun _ => False))]) (fun _ => false) (by kernel_rfl) (by kernel_rfl) (by kernel_rfl) (by kernel_rfl) (by kernel_rfl) (fun n vs vs' w hk h => h) (fun _ => Below.refl _ _) (fun n vs _ _ h hb => ⟨h.1.out.trans (Chg.of_below hb), by cases n with | zero => exact h.2.keep hb | succ n => trivial⟩) (Ix.vk_keeps _) (Ix.not_al _) (fun vs => ⟨Chg.of_below (Ext.drew (Below.refl _ _)), HS.out.pb.keep (Ext.drew (Below.refl _ _))⟩)
                  case step =>
                    refine zys 4 0 1 [] (fun _ _ wi HB => ?_) <| zys 3 1 2 [(0, some 101)] (fun _ _ wi HB => ?_) <| zys 2 2 3 [] (fun _ _ wi HB => ?_) <| zyc 1 3 4 0 [(2, some 103)] (fun vsp wi HB => ?_) <| zys 0 4 5 [(3, some 104)] (fun _ _ wi HB => ?_) <| Iy.steps_nil
                    (· ((repeat (refine zya ?_; rintro _ rfl)); refine zye ?_; (try simp only [zyp]); refine Iy.goI_yes rfl rfl fun K hK => ?_; (try simp only [zyp] at hK); go_wp2_with (first | fail); exact hK _ _ (Below.refl _ _) rfl))
                    (· (obtain ⟨HM, _⟩ := HB; have hz := HXI.out _ HM.out; have e4 := hz.cell 4; (repeat (refine zya ?_; rintro _ rfl)); refine zye ?_; (try simp only [zyp]); refine Iy.goI_yes rfl rfl fun K hK => ?_; (try simp only [zyp] at hK); go_wp2_with (first | fail); exact hK _ _ (Below.refl _ _) rfl))
                    (· ((repeat (refine zya ?_; rintro _ rfl)); refine zye ?_; (try simp only [zyp]); refine Iy.goI_yes rfl rfl fun K hK => ?_; (try simp only [zyp] at hK); go_wp2_with (first | fail); exact hK _ _ (Below.refl _ _) rfl))
                    (· (obtain ⟨HM, hpb⟩ := HB; refine zya ?_; rintro _ ⟨rfl, ev2⟩; refine zye ?_; (try simp only [zyp]); refine Iy.goI_yes rfl rfl fun K hK => ?_; (try simp only [zyp] at hK); go_wp2_with (first | (go_at_call 46; refine (HE.out _ hpb).mono ?_; rintro e wb ⟨hca, hpa, rfl⟩)); refine Ix.onlyP fun tz => ?_; go_wp2_with (fail); have e9 := HRZ.out; subst e9; exact ⟨rfl, (Chg.of_below HB0.out).trans ((HS.out.fz.chg.trans HM.out).trans hca), hpa, rfl⟩))
                    (· (obtain ⟨HM, _⟩ := HB; have hz := HXI.out _ HM.out; have e4 := hz.cell 4; refine zya ?_; rintro _ hf3; refine zye ?_; (try simp only [zyp]); refine Iy.goI_yes rfl rfl fun K hK => ?_; (try simp only [zyp] at hK); exact hf3.elim; skip))
                  intro vsf wf HF hdf
                  refine zyv 4 0 1 ?_; rintro _ _ rfl; refine zyv 3 1 2 ?_; rintro _ _ rfl; refine zyv 2 2 3 ?_; rintro _ _ rfl; refine zyv 1 3 4 ?_; rintro _ _ hf3; refine zyv 0 4 5 ?_; rintro _ _ hf4
                  refine Ix.allV_nil ?_
                  (try simp only [Act.put, List.setIfInBounds_toArray, List.set_cons_zero, List.set_cons_succ, List.drop_succ_cons, List.drop_zero])
                  go_wp2_with (first | fail)
                  all_goals (first | refine Ix.only ?_ | (refine Ix.onlyP fun tz => ?_))
                  all_goals exact hf3.elim
                | ok pf =>
                  obtain ⟨y, l5⟩ := pf
                  have HLE4 : Hid (l5.length < l3.length) := (Ps.less_at fin m).expr HRE.out.symm
                  apply Iy.wp_region 5 [3] (fun n => []) (Ix.Rb) (fun mm vs wi => Hid (Chg g wa wi) ∧ (match mm with | 0 => Pb wi g fin 0 l3 | _ + 1 => Pb wi g fin 0 l5)) (Ix.vk [(Ix.kis _), (Ix.kis (.slice ar nA cr)), (Ix.kis _), (Ix.kwld (fun v w' => ∃ ya yc, v = Value.agg #[.int .i64 y.kind, .int .u64 y.num, .int .i64 y.bits, .bool y.sg, .string y.name, .slice ya y.kids.length yc] ∧ XIn w' (fun k => wa.heap.size ≤ k) y (X.cells y.kind y.num y.bits y.sg y.name (.slice ya y.kids.length yc))) (fun v w1 w2 h hb => by obtain ⟨ya, yc, e, hi⟩ := h; exact ⟨ya, yc, e, hi.keep hb⟩)), (Ix.kwld (fun v w' => ∃ t ya yc, v = Value.slice (some ⟨t, 0, none⟩) 1 1 ∧ wa.heap.size ≤ t ∧ Blk w' t 54 #[.int .i64 y.kind, .int .u64 y.num, .int .i64 y.bits, .bool y.sg, .string y.name, .slice ya y.kids.length yc] ∧ XIn w' (fun k => wa.heap.size ≤ k) y (X.cells y.kind y.num y.bits y.sg y.name (.slice ya y.kids.length yc))) (fun v w1 w2 h hb => by obtain ⟨t, ya, yc, e, hl, hi, hx⟩ := h; exact ⟨t, ya, yc, e, hl, hi.keep hb, hx.keep hb⟩))]) (fun _ => false) (by kernel_rfl) (by kernel_rfl) (by kernel_rfl) (by kernel_rfl) (by kernel_rfl) (fun n vs vs' w hk h => h) (fun _ => Below.refl _ _) (fun n vs _ _ h hb => ⟨h.1.out.trans (Chg.of_below hb), by cases n with | zero => exact h.2.keep hb | succ n => exact h.2.keep hb⟩) (Ix.vk_keeps _) (Ix.not_al _) (fun vs => ⟨Chg.of_below (Ext.drew (Below.refl _ _)), HS.out.pb.keep (Ext.drew (Below.refl _ _))⟩)
                  case step =>
                    refine zys 4 0 1 [] (fun _ _ wi HB => ?_) <| zys 3 1 2 [(0, some 101)] (fun _ _ wi HB => ?_) <| zys 2 2 3 [] (fun _ _ wi HB => ?_) <| zyc 1 3 4 0 [(2, some 103)] (fun vsp wi HB => ?_) <| zys 0 4 5 [(3, some 104)] (fun _ _ wi HB => ?_) <| Iy.steps_nil
                    (· ((repeat (refine zya ?_; rintro _ rfl)); refine zye ?_; (try simp only [zyp]); refine Iy.goI_yes rfl rfl fun K hK => ?_; (try simp only [zyp] at hK); go_wp2_with (first | fail); exact hK _ _ (Below.refl _ _) rfl))
                    (· (obtain ⟨HM, _⟩ := HB; have hz := HXI.out _ HM.out; have e4 := hz.cell 4; (repeat (refine zya ?_; rintro _ rfl)); refine zye ?_; (try simp only [zyp]); refine Iy.goI_yes rfl rfl fun K hK => ?_; (try simp only [zyp] at hK); go_wp2_with (first | fail); exact hK _ _ (Below.refl _ _) rfl))
                    (· ((repeat (refine zya ?_; rintro _ rfl)); refine zye ?_; (try simp only [zyp]); refine Iy.goI_yes rfl rfl fun K hK => ?_; (try simp only [zyp] at hK); go_wp2_with (first | fail); exact hK _ _ (Below.refl _ _) rfl))
                    (· (obtain ⟨HM, hpb⟩ := HB; refine zya ?_; rintro _ ⟨rfl, ev2⟩; refine zye ?_; (try simp only [zyp]); refine Iy.goI_yes rfl rfl fun K hK => ?_; (try simp only [zyp] at hK); go_wp2_with (first | (go_at_call 46; refine (HE.out _ hpb).mono ?_; rintro e wb ⟨hca, hpa, cs, rfl, hin, hpb2⟩; obtain ⟨ya, yc, rfl⟩ := Pw.form hin)); exact hK _ _ ⟨⟨HM.out.trans hca, hpb2⟩, Iy.vk_turn (by repeat (first | exact True.intro | refine And.intro (fun _ h => h) ?_ | refine And.intro (fun hne => absurd rfl hne) ?_ | refine And.intro (fun _ h => (by obtain ⟨t9, y9, c9, e9, h9⟩ := h; exact ⟨t9, y9, c9, e9, bin_far HGS2.out hca h9⟩)) ?_))⟩ ⟨ya, yc, rfl, hin.move fun k hk hl => ⟨Nat.le_trans HM.out.size hk, rfl⟩⟩))
                    (· (obtain ⟨HM, _⟩ := HB; have hz := HXI.out _ HM.out; have e4 := hz.cell 4; refine zya ?_; rintro _ ⟨ya, yc, rfl, hyi⟩; refine zye ?_; (try simp only [zyp]); refine Iy.goI_yes rfl rfl fun K hK => ?_; (try simp only [zyp] at hK); go_wp2_with (first | fail); exact hK _ _ (Ext.alloc (Below.refl _ _) _) ⟨_, ya, yc, rfl, HM.out.size, Blk.new _ _ _, hyi.keep (Ext.alloc (Below.refl _ _) _)⟩))
                  intro vsf wf HF hdf
                  refine zyv 4 0 1 ?_; rintro _ _ rfl; refine zyv 3 1 2 ?_; rintro _ _ rfl; refine zyv 2 2 3 ?_; rintro _ _ rfl; refine zyv 1 3 4 ?_; rintro _ _ ⟨ya, yc, rfl, hyi⟩; refine zyv 0 4 5 ?_; rintro _ _ ⟨tf, yaf, ycf, rfl, htlf, htbf, hyif⟩
                  refine Ix.allV_nil ?_
                  obtain ⟨HMF, hpbf⟩ := HF; have hxbf := HXI.out _ HMF.out; obtain ⟨csf, hof, hkf⟩ := HS.out.own.chg layX (show g < sb + 1 by have := HGS.out.1; omega) HMF.out; have hofn : wf.ownsRow (sb + 1) 54 6 (.slice ar nA cr) nA (flat csf acc.length) := (by rw [HNA.out]; exact hof)
                  (try simp only [Act.put, List.setIfInBounds_toArray, List.set_cons_zero, List.set_cons_succ, List.drop_succ_cons, List.drop_zero])
                  go_wp2_with (first | (refine wpList_app_row rfl _ _ 39 54 6 72 (.agg Pw.zX) rfl Try.underlying39 (by kernel_rfl) rfl (by decide) (by decide) (sb + 1) (.slice ar nA cr) nA (flat csf acc.length) tf (X.cells y.kind y.num y.bits y.sg y.name (.slice yaf y.kids.length ycf)) rfl rfl hofn rfl (xcell htbf) hyif.ones (by omega) (by have := hxbf.lt; omega) ?_; intro a9 c9 w9 ho9 hg9 hat9; have hx9 : Blk w9 sb 41 _ := (hg9.block sb hxbf.lt (fun e => by have := (own_lowR hofn sb e.symm).1; omega)).trans hxbf; have e4 := hx9.cell 4; have f4 := hx9.frozen 4; clear hx9))
                  all_goals (first | refine Ix.only ?_ | (refine Ix.onlyP fun tz => ?_))
                  have HNX : Hid (GlL w g fin n sb l.length gb gs gz nm R K2 (w9.setCell ⟨sb, 4, none⟩ (.slice a9 (nA + 1) c9)) m (acc ++ [y]) l5 a9 c9 ∧ tkL (w9.setCell ⟨sb, 4, none⟩ (.slice a9 (nA + 1) c9)) g = l5.length) := by
                    have e9 := HNA.out
                    subst e9
                    exact HS.out.next HG.out HN8.out HRE.out.symm HLE4.out HMF.out hpbf hof hkf hyif ho9 hg9 hat9
                  have HM9 : Hid (tkL (w9.setCell ⟨sb, 4, none⟩ (.slice a9 (nA + 1) c9)) g < tkL wr g) := by
                    show tkL _ g < tkL wr g
                    rw [HNX.out.2, HA.out.pb.tkL]
                    have h1 := HLE4.out; have h2 := HS.out.l0; omega
                  clear hxbf hof hkf hofn htbf hyif ho9 hg9 hat9 e4 f4 hpbf HMF HR9 HE HXI h8
                  go_wp2_with (fail)
                  go_round
                  case rel => exact ⟨m, acc ++ [y], l5, a9, c9, HNX.out.1⟩
                  case measure => exact HM9.out
    case rest =>
      obtain ⟨wb, hwb⟩ : ∃ wb, wb = wc := ⟨_, rfl⟩
      rw [← hwb] at hcut ⊢
      clear hwb
      obtain ⟨ini, ai, ci, l9, HE9⟩ := hcut
      have HN := Lib.hid (pneed_ok wb g fin 0 l9 [59] HE9.out.pb)
      have HR9 : Hid (R = Ps.seq (Ps.need fin [59] l9) fun _ l => .ok (⟨gb, gs, Ps.nm nm, gz, ini⟩, l)) := HE9.out.is
      obtain ⟨rn, hrn⟩ : ∃ rn, rn = Ps.need fin [59] l9 := ⟨_, rfl⟩
      rw [← hrn] at HN HR9
      clear hrn
      have HX9 : Hid (∀ wi, Chg g wb wi → Blk wi sb 41 #[.int .i64 gb, .bool gs, .string ⟨nm.toArray⟩, .int .i64 gz, .slice ai ini.length ci]) := fun wi hc => (hc.block sb HE9.out.xb.lt (fun e => by injection e with e; have := HGS.out.1; omega)).trans HE9.out.xb
      go_wp2_with (first | (go_at_call_of 44 (Value.string ⟨#[59]⟩); refine (HN.out).mono ?_; rintro e w7 ⟨hc6, hp6, hr6⟩; have HCw7 := Lib.hid hc6; have HPw7 := Lib.hid hp6; clear hc6 hp6; rcases rn with z | ⟨y0, l7⟩; (obtain rfl := hr6); rotate_left; (obtain ⟨rfl, hpb⟩ := hr6; have HPN := Lib.hid hpb; clear hpb); rotate_left) | (refine wpList_load_row rfl 41 _ rfl sb rfl 41 #[.int .i64 gb, .bool gs, .string ⟨nm.toArray⟩, .int .i64 gz, .slice ai ini.length ci] (0, 0) _ (HX9.out w7 HCw7.out) Try.underlying41 rfl (by kernel_rfl) ?_) | (refine wpList_store_row rfl 41 _ _ rfl w.heap.size #[.int .i64 gb, .bool gs, .string ⟨nm.toArray⟩, .int .i64 gz, .slice ai ini.length ci] rfl rfl 41 Pw.zG ((HE9.out.fz.step HG.out HCw7.out).z) (by kernel_rfl) rfl (Pw.oneG _ _ _ _ _ _ _) ?_))
      · obtain rfl : R = .error z := HR9.out
        exact ⟨rfl, (Chg.of_below HB0.out).trans (HE9.out.fz.chg.trans HCw7.out), HPw7.out, rfl⟩
      · obtain rfl : R = .ok (⟨gb, gs, Ps.nm nm, gz, ini⟩, l7) := HR9.out
        (obtain ⟨row, hrow⟩ : ∃ row : Array Value, row = #[.int .i64 gb, .bool gs, .string ⟨nm.toArray⟩, .int .i64 gz, .slice ai ini.length ci] := ⟨_, rfl⟩; rw [← hrow])
        have HZ7 := HE9.out.fz.step HG.out HCw7.out
        have hx : LG w7 (fun k => w.heap.size < k) ⟨gb, gs, Ps.nm nm, gz, ini⟩ [.int .i64 gb, .bool gs, .string ⟨nm.toArray⟩, .int .i64 gz, .slice ai ini.length ci] := by
          refine ⟨_, rfl, HE9.out.row.move (fun x _ cs h => XIn.move h fun k hk hl => ?_) (fun x _ cs h e => by have := XIn.six h; rw [e] at this; cases this) fun k hk hl => ?_⟩
          · have hk : sb < k := hk
            have h1 := HGS.out
            exact ⟨by omega, HCw7.out.block k hl (fun e => by injection e with e; omega)⟩
          · have hk : sb < k := hk
            have h1 := HGS.out
            exact ⟨by omega, HCw7.out.block k hl (fun e => by injection e with e; omega)⟩
        have hz := (Fz.rw HZ7 HG.out HPN.out row).2.2.1
        have hi : (Try.prog.info? 41).map (·.size) = some row.size := by subst hrow; kernel_rfl
        have post : PgR g fin 0 w0 (.ok (⟨gb, gs, Ps.nm nm, gz, ini⟩, l7)) (.returned (.agg row)) (w7.setRow w.heap.size row) := by
          obtain ⟨p1, p2, cs, p3, p4, p5⟩ := Fz.rowL layG HZ7 HG.out HPN.out hx row hrow
          exact ⟨(Chg.of_below HB0.out).trans p1, p2, cs, p3, layG.move p4 fun k hk hl => ⟨Nat.le_trans HB0.out.size hk, rfl⟩, p5⟩
        exact bodyPost_ret (Pw.res_cell rfl _ _ w.heap.size 41 row (0, 0) _ rfl hz Try.underlying41 rfl hi) rfl post
end Go.Proofs.Ytfkndjifhmkojaa
