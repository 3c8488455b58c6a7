/- Walk of parser.stat: none, block, return, break, continue. No condition. -/
import Derived.Test.YtfkndjifhmkojaaP18
import Derived.Defers
import Derived.LoopTactic
import Derived.Deep.Cut
namespace Go.Proofs.Ytfkndjifhmkojaa
open Go.RowKit
set_option linter.unusedVariables false
set_option linter.unusedSimpArgs false
set_option maxRecDepth 100000
set_option maxHeartbeats 8000000 in
theorem pstat_none (w : World) (g fin d : Nat) (l : List Tk.Tok) (F : Ps.F) (h : Pb w g fin d l) (hd : d < 400) (hh : StH g fin (d + 1) F l.length)  (hs : Ps.sees [59] l = true) :
    Calls Try.prog 67 #[P g] w (PsR g fin d w (.ok (Ps.sk 1, l.tail))) := by
  have hgl : g < w.heap.size := by obtain ⟨v, hb, _⟩ := h; exact hb.lt
  have HG := Lib.hid hgl
  have HH := Lib.hid hh
  have HDD := Lib.hid hd
  obtain ⟨w0, hw0⟩ : ∃ w0, w0 = w.alloc (.cells Pw.zS 56) := ⟨_, rfl⟩
  have HF0 : Hid (Fz w g 56 Pw.zS w0) := by show Fz _ _ _ _ _; rw [hw0]; exact Fz.new ..
  have hp0 : Pb w0 g fin d l := by rw [hw0]; exact h.keep (Ext.alloc (Below.refl _ _) _)
  have HD := Lib.hid (pdeeper_ok w0 g fin d l hp0 hd)
  obtain ⟨R, hR⟩ : ∃ R, R = (.ok (Ps.sk 1, l.tail) : Ps.Res S) := ⟨_, rfl⟩
  rw [← hR]
  have HR0 := Lib.hid hR
  have HQ1 : Hid (l.tail.length < l.length) := Ps.sees_lt hs
  have HY := Lib.hid hs
  clear h hd hh hgl hp0 hR hs
  go_enter_defers Try.func67, Try.ntmps67
  go_upto_region 1 with (fail)
  rw [← hw0]
  clear hw0
  go_upto_region 2 with (first | (go_at_call 68; refine HD.out.mono ?_; rintro e w2 ⟨b, rfl, hne, hle, hcb, hc2, hp2⟩; have HD2 := Lib.hid (And.intro hne (And.intro hle (And.intro hcb (And.intro hc2 hp2)))); clear hne hle hcb hc2 hp2))
  have HS0 : Hid (Sd w g fin d b l w2) := ⟨HF0.out.step HG.out HD2.out.2.2.2.1, HD2.out.2.2.2.2, HD2.out.1, Nat.lt_of_lt_of_le HF0.out.lt HD2.out.2.1, HD2.out.2.2.1⟩
  clear HD HD2 HF0
  have IY := Lib.hid (pis_yes w2 g fin (d + 1) l [59] HS0.out.pb HY.out)
  clear HY
  go_upto_region 3 with (first | (go_at_call_of 21 (Value.string ⟨#[59]⟩); refine (IY.out).mono ?_; rintro e v1 ⟨rfl, hc1, hb1⟩; have HCv1 := Lib.hid hc1; have HBv1 := Lib.hid hb1; clear hc1 hb1))
  have HS1 := Lib.hid (HS0.out.chg HG.out HCv1.out HBv1.out)
  clear HS0 HCv1 HBv1 IY
  obtain rfl : R = .ok (Ps.sk 1, l.tail) := HR0.out
  go_wp2_with (first | (refine wpList_store_row rfl 56 _ _ rfl w.heap.size #[.int .i64 1, .int .i64 0, .bool false, .string ⟨#[]⟩, .bool false, .int .i64 0, .int .u64 0, .int .i64 0, .bool false, .string ⟨#[]⟩, .slice none 0 0, .int .i64 0, .int .u64 0, .int .i64 0, .bool false, .string ⟨#[]⟩, .slice none 0 0, .slice none 0 0, .slice none 0 0, .slice none 0 0, .slice none 0 0] rfl rfl 56 Pw.zS (HS1.out.fz.z) (by kernel_rfl) rfl (Pw.one21 _ _ _ _ _ _ _ _ _ _ _ _ _ _ _ _ _ _ _ _ _ _ _ _ _ _ _ _ _ _ _ _ _) ?_))
  (obtain ⟨row, hrow⟩ : ∃ row : Array Value, row = #[.int .i64 1, .int .i64 0, .bool false, .string ⟨#[]⟩, .bool false, .int .i64 0, .int .u64 0, .int .i64 0, .bool false, .string ⟨#[]⟩, .slice none 0 0, .int .i64 0, .int .u64 0, .int .i64 0, .bool false, .string ⟨#[]⟩, .slice none 0 0, .slice none 0 0, .slice none 0 0, .slice none 0 0, .slice none 0 0] := ⟨_, rfl⟩; rw [← hrow])
  have hx : LS v1 (fun k => w.heap.size < k) (Ps.sk 1) (S.cells 1 0 false ⟨#[]⟩ false [.int .i64 0, .int .u64 0, .int .i64 0, .bool false, .string ⟨#[]⟩, .slice none 0 0] [.int .i64 0, .int .u64 0, .int .i64 0, .bool false, .string ⟨#[]⟩, .slice none 0 0] (.slice none 0 0) (.slice none 0 0) (.slice none 0 0) (.slice none 0 0)) := .mk _ _ _ _ _ _ _ _ _ _ _ _ _ _ _ _ _ (xz_in _ _) (xz_in _ _) (sz_in _ _) (sz_in _ _) (sz_in _ _) (sz_in _ _)
  (obtain ⟨v, hbk, hcb, hz, hpost⟩ := Fz.upL (b := b) layS (HS1.out).fz HG.out (Nat.le_of_lt HDD.out) (HS1.out).pb hx row hrow (HS1.out).ne (HS1.out).lt (HS1.out).cb; refine leaves_cons (f := 89) (args := #[P b]) (by simp) (by simp [go_sem]) ?_; refine (pundeep_ok _ g b v _ _ _ hbk (HS1.out).ne hcb).mono ?_; rintro e u' w6 ⟨rfl, rfl, rfl⟩; exact ⟨_, Pw.res_cell rfl _ _ w.heap.size 56 row (0, 0) _ rfl hz Try.underlying56 rfl (by subst hrow; kernel_rfl), hpost⟩)
set_option maxHeartbeats 8000000 in
theorem pstat_block (w : World) (g fin d : Nat) (l : List Tk.Tok) (F : Ps.F) (h : Pb w g fin d l) (hd : d < 400) (hh : StH g fin (d + 1) F l.length) (h0 : Ps.sees [59] l = false) (hs : Ps.sees [123] l = true) :
    Calls Try.prog 67 #[P g] w (PsR g fin d w (Ps.seq (F.block (d + 1) [] l.tail) fun q m => .ok ((.mk 11 0 false ⟨#[]⟩ false Ps.xz Ps.xz [] [] q [] : S), m))) := by
  have hgl : g < w.heap.size := by obtain ⟨v, hb, _⟩ := h; exact hb.lt
  have HG := Lib.hid hgl
  have HH := Lib.hid hh
  have HDD := Lib.hid hd
  obtain ⟨w0, hw0⟩ : ∃ w0, w0 = w.alloc (.cells Pw.zS 56) := ⟨_, rfl⟩
  have HF0 : Hid (Fz w g 56 Pw.zS w0) := by show Fz _ _ _ _ _; rw [hw0]; exact Fz.new ..
  have hp0 : Pb w0 g fin d l := by rw [hw0]; exact h.keep (Ext.alloc (Below.refl _ _) _)
  have HD := Lib.hid (pdeeper_ok w0 g fin d l hp0 hd)
  obtain ⟨R, hR⟩ : ∃ R, R = (Ps.seq (F.block (d + 1) [] l.tail) fun q m => .ok ((.mk 11 0 false ⟨#[]⟩ false Ps.xz Ps.xz [] [] q [] : S), m) : Ps.Res S) := ⟨_, rfl⟩
  rw [← hR]
  have HR0 := Lib.hid hR
  have HQ1 : Hid (l.tail.length < l.length) := Ps.sees_lt hs
  have H0 := Lib.hid h0
  have HY := Lib.hid hs
  clear h hd hh hgl hp0 hR h0 hs
  go_enter_defers Try.func67, Try.ntmps67
  go_upto_region 1 with (fail)
  rw [← hw0]
  clear hw0
  go_upto_region 2 with (first | (go_at_call 68; refine HD.out.mono ?_; rintro e w2 ⟨b, rfl, hne, hle, hcb, hc2, hp2⟩; have HD2 := Lib.hid (And.intro hne (And.intro hle (And.intro hcb (And.intro hc2 hp2)))); clear hne hle hcb hc2 hp2))
  have HS0 : Hid (Sd w g fin d b l w2) := ⟨HF0.out.step HG.out HD2.out.2.2.2.1, HD2.out.2.2.2.2, HD2.out.1, Nat.lt_of_lt_of_le HF0.out.lt HD2.out.2.1, HD2.out.2.2.1⟩
  clear HD HD2 HF0
  have I0 := Lib.hid (pis_no w2 g fin (d + 1) l [59] HS0.out.pb H0.out)
  have IY := Lib.hid (pis_yes w2 g fin (d + 1) l [123] HS0.out.pb HY.out)
  clear H0 HY
  go_upto_region 5 with (first | (go_at_call_of 21 (Value.string ⟨#[59]⟩); refine (I0.out).mono ?_; rintro e w' ⟨rfl, rfl⟩) | (go_at_call_of 21 (Value.string ⟨#[123]⟩); refine (IY.out).mono ?_; rintro e v1 ⟨rfl, hc1, hb1⟩; have HCv1 := Lib.hid hc1; have HBv1 := Lib.hid hb1; clear hc1 hb1))
  have HS1 := Lib.hid (HS0.out.chg HG.out HCv1.out HBv1.out)
  clear HS0 HCv1 HBv1 IY I0
  have HE := Lib.hid (HH.out.blk v1 l.tail HQ1.out HS1.out.pb)
  obtain ⟨rA, hrA⟩ : ∃ r, r = F.block (d + 1) [] l.tail := ⟨_, rfl⟩
  rw [← hrA] at HE HR0
  clear hrA
  go_wp2_with (first | (go_at_call 45; refine (HE.out).mono ?_; rintro e v2 ⟨hc4, hp4, hr4⟩; have HCv2 := Lib.hid hc4; have HPv2 := Lib.hid hp4; clear hc4 hp4; rcases rA with z | ⟨bl, t2⟩; (obtain rfl := hr4); rotate_left; (obtain ⟨vv, rfl, hin, hpb⟩ := hr4; obtain ⟨ab, cb, rfl⟩ := Pw.formL hin; have HIb := Lib.hid hin; have HS2 := Lib.hid (HS1.out.chg HG.out HCv2.out hpb); clear hin hpb); rotate_left) | (refine wpList_store_row rfl 56 _ _ rfl w.heap.size #[.int .i64 11, .int .i64 0, .bool false, .string ⟨#[]⟩, .bool false, .int .i64 0, .int .u64 0, .int .i64 0, .bool false, .string ⟨#[]⟩, .slice none 0 0, .int .i64 0, .int .u64 0, .int .i64 0, .bool false, .string ⟨#[]⟩, .slice none 0 0, .slice none 0 0, .slice none 0 0, .slice ab bl.length cb, .slice none 0 0] rfl rfl 56 Pw.zS (HS2.out.fz.z) (by kernel_rfl) rfl (Pw.one21 _ _ _ _ _ _ _ _ _ _ _ _ _ _ _ _ _ _ _ _ _ _ _ _ _ _ _ _ _ _ _ _ _) ?_))
  · obtain rfl : R = .error z := HR0.out
    (obtain ⟨v, f, D, hbk⟩ := (HPv2).out; refine leaves_cons (f := 89) (args := #[P b]) (by simp) (by simp [go_sem]) ?_; refine (pundeep_ok v2 g b v f D _ hbk (HS1.out).ne ((HCv2).out.cell (HS1.out).ne (HS1.out).cb)).mono ?_; rintro e u' w5 ⟨rfl, rfl, rfl⟩; simp only [Leaves, settle, Oops]; exact ⟨Chg.setCell ((HS1.out).fz.chg.trans (HCv2).out) 2 _, ParA.up hbk, rfl⟩)
  · obtain rfl : R = .ok ((.mk 11 0 false ⟨#[]⟩ false Ps.xz Ps.xz [] [] bl [] : S), t2) := HR0.out
    (obtain ⟨row, hrow⟩ : ∃ row : Array Value, row = #[.int .i64 11, .int .i64 0, .bool false, .string ⟨#[]⟩, .bool false, .int .i64 0, .int .u64 0, .int .i64 0, .bool false, .string ⟨#[]⟩, .slice none 0 0, .int .i64 0, .int .u64 0, .int .i64 0, .bool false, .string ⟨#[]⟩, .slice none 0 0, .slice none 0 0, .slice none 0 0, .slice ab bl.length cb, .slice none 0 0] := ⟨_, rfl⟩; rw [← hrow])
    have hx : LS v2 (fun k => w.heap.size < k) (.mk 11 0 false ⟨#[]⟩ false Ps.xz Ps.xz [] [] bl [] : S) (S.cells 11 0 false ⟨#[]⟩ false [.int .i64 0, .int .u64 0, .int .i64 0, .bool false, .string ⟨#[]⟩, .slice none 0 0] [.int .i64 0, .int .u64 0, .int .i64 0, .bool false, .string ⟨#[]⟩, .slice none 0 0] (.slice none 0 0) (.slice none 0 0) (.slice ab bl.length cb) (.slice none 0 0)) := .mk _ _ _ _ _ _ _ _ _ _ _ _ _ _ _ _ _ (xz_in _ _) (xz_in _ _) (sz_in _ _) (sz_in _ _) (HIb.out.move fun k hk _ => ⟨Nat.lt_of_lt_of_le HS1.out.fz.lt hk, rfl⟩) (sz_in _ _)
    (obtain ⟨v, hbk, hcb, hz, hpost⟩ := Fz.upL (b := b) layS (HS2.out).fz HG.out (Nat.le_of_lt HDD.out) (HS2.out).pb hx row hrow (HS2.out).ne (HS2.out).lt (HS2.out).cb; refine leaves_cons (f := 89) (args := #[P b]) (by simp) (by simp [go_sem]) ?_; refine (pundeep_ok _ g b v _ _ _ hbk (HS2.out).ne hcb).mono ?_; rintro e u' w6 ⟨rfl, rfl, rfl⟩; exact ⟨_, Pw.res_cell rfl _ _ w.heap.size 56 row (0, 0) _ rfl hz Try.underlying56 rfl (by subst hrow; kernel_rfl), hpost⟩)
set_option maxHeartbeats 8000000 in
theorem pstat_return (w : World) (g fin d : Nat) (l : List Tk.Tok) (F : Ps.F) (h : Pb w g fin d l) (hd : d < 400) (hh : StH g fin (d + 1) F l.length) (h0 : Ps.sees [59] l = false) (h1 : Ps.sees [123] l = false) (h2 : Ps.sees [105, 102] l = false) (h3 : Ps.sees [119, 104, 105, 108, 101] l = false) (h4 : Ps.sees [102, 111, 114] l = false) (hs : Ps.sees [114, 101, 116, 117, 114, 110] l = true) :
    Calls Try.prog 67 #[P g] w (PsR g fin d w (if Ps.sees [59] l.tail = true then Ps.seq (Ps.need fin [59] l.tail) fun _ m0 => .ok ((.mk 8 0 false ⟨#[]⟩ false Ps.xz Ps.xz [] [] [] [] : S), m0) else Ps.seq (F.expr (d + 1) l.tail) fun q0 m0 => Ps.seq (Ps.need fin [59] m0) fun _ m1 => .ok ((.mk 8 0 false ⟨#[]⟩ true q0 Ps.xz [] [] [] [] : S), m1))) := by
  have hgl : g < w.heap.size := by obtain ⟨v, hb, _⟩ := h; exact hb.lt
  have HG := Lib.hid hgl
  have HH := Lib.hid hh
  have HDD := Lib.hid hd
  obtain ⟨w0, hw0⟩ : ∃ w0, w0 = w.alloc (.cells Pw.zS 56) := ⟨_, rfl⟩
  have HF0 : Hid (Fz w g 56 Pw.zS w0) := by show Fz _ _ _ _ _; rw [hw0]; exact Fz.new ..
  have hp0 : Pb w0 g fin d l := by rw [hw0]; exact h.keep (Ext.alloc (Below.refl _ _) _)
  have HD := Lib.hid (pdeeper_ok w0 g fin d l hp0 hd)
  obtain ⟨R, hR⟩ : ∃ R, R = (if Ps.sees [59] l.tail = true then Ps.seq (Ps.need fin [59] l.tail) fun _ m0 => .ok ((.mk 8 0 false ⟨#[]⟩ false Ps.xz Ps.xz [] [] [] [] : S), m0) else Ps.seq (F.expr (d + 1) l.tail) fun q0 m0 => Ps.seq (Ps.need fin [59] m0) fun _ m1 => .ok ((.mk 8 0 false ⟨#[]⟩ true q0 Ps.xz [] [] [] [] : S), m1) : Ps.Res S) := ⟨_, rfl⟩
  rw [← hR]
  have HR0 := Lib.hid hR
  have HQ1 : Hid (l.tail.length < l.length) := Ps.sees_lt hs
  have H0 := Lib.hid h0
  have H1 := Lib.hid h1
  have H2 := Lib.hid h2
  have H3 := Lib.hid h3
  have H4 := Lib.hid h4
  have HY := Lib.hid hs
  clear h hd hh hgl hp0 hR h0 h1 h2 h3 h4 hs
  go_enter_defers Try.func67, Try.ntmps67
  go_upto_region 1 with (fail)
  rw [← hw0]
  clear hw0
  go_upto_region 2 with (first | (go_at_call 68; refine HD.out.mono ?_; rintro e w2 ⟨b, rfl, hne, hle, hcb, hc2, hp2⟩; have HD2 := Lib.hid (And.intro hne (And.intro hle (And.intro hcb (And.intro hc2 hp2)))); clear hne hle hcb hc2 hp2))
  have HS0 : Hid (Sd w g fin d b l w2) := ⟨HF0.out.step HG.out HD2.out.2.2.2.1, HD2.out.2.2.2.2, HD2.out.1, Nat.lt_of_lt_of_le HF0.out.lt HD2.out.2.1, HD2.out.2.2.1⟩
  clear HD HD2 HF0
  have I0 := Lib.hid (pis_no w2 g fin (d + 1) l [59] HS0.out.pb H0.out)
  have I1 := Lib.hid (pis_no w2 g fin (d + 1) l [123] HS0.out.pb H1.out)
  have I2 := Lib.hid (pis_no w2 g fin (d + 1) l [105, 102] HS0.out.pb H2.out)
  have I3 := Lib.hid (pis_no w2 g fin (d + 1) l [119, 104, 105, 108, 101] HS0.out.pb H3.out)
  have I4 := Lib.hid (pis_no w2 g fin (d + 1) l [102, 111, 114] HS0.out.pb H4.out)
  clear H0 H1 H2 H3 H4
  go_upto_region 43 with (first | (go_at_call_of 21 (Value.string ⟨#[59]⟩); refine (I0.out).mono ?_; rintro e w' ⟨rfl, rfl⟩) | (go_at_call_of 21 (Value.string ⟨#[123]⟩); refine (I1.out).mono ?_; rintro e w' ⟨rfl, rfl⟩) | (go_at_call_of 21 (Value.string ⟨#[105, 102]⟩); refine (I2.out).mono ?_; rintro e w' ⟨rfl, rfl⟩) | (go_at_call_of 21 (Value.string ⟨#[119, 104, 105, 108, 101]⟩); refine (I3.out).mono ?_; rintro e w' ⟨rfl, rfl⟩) | (go_at_call_of 21 (Value.string ⟨#[102, 111, 114]⟩); refine (I4.out).mono ?_; rintro e w' ⟨rfl, rfl⟩))
  generalize hvv : World.alloc w2 _ = v1
  obtain ⟨sb, hsb⟩ : ∃ sb, sb = w2.heap.size := ⟨_, rfl⟩
  rw [← hsb]
  have HX1 : Hid (Sx w g fin d b sb Pw.zS l v1) := by show Sx _ _ _ _ _ _ _ _ _; rw [← hvv, hsb]; exact Sx.new HS0.out Pw.zS
  clear hvv hsb HS0 I0 I1 I2 I3 I4
  have IY := Lib.hid (pis_yes v1 g fin (d + 1) l [114, 101, 116, 117, 114, 110] HX1.out.sd.pb HY.out)
  clear HY
  go_upto_region 44 with (first | fail | (go_at_call_of 21 (Value.string ⟨#[114, 101, 116, 117, 114, 110]⟩); refine (IY.out).mono ?_; rintro e v2 ⟨rfl, hc1, hb1⟩; have HCv2 := Lib.hid hc1; have HBv2 := Lib.hid hb1; clear hc1 hb1))
  have HX2 : Hid (Sx w g fin d b sb #[.int .i64 0, .int .i64 0, .bool false, .string ⟨#[]⟩, .bool false, .int .i64 0, .int .u64 0, .int .i64 0, .bool false, .string ⟨#[]⟩, .slice none 0 0, .int .i64 0, .int .u64 0, .int .i64 0, .bool false, .string ⟨#[]⟩, .slice none 0 0, .slice none 0 0, .slice none 0 0, .slice none 0 0, .slice none 0 0] l.tail v2) := HX1.out.chg HG.out HCv2.out HBv2.out
  have HQ2 := Lib.hid HQ1.out
  clear HX1 HCv2 HBv2 HQ1 IY
  have e0 := HX2.out.sb.cell 0
  have f0 := HX2.out.sb.frozen 0
  go_upto_region 45 with (fail)
  generalize hvv : World.setCell v2 _ _ = v3
  have HX3 : Hid (Sx w g fin d b sb #[.int .i64 8, .int .i64 0, .bool false, .string ⟨#[]⟩, .bool false, .int .i64 0, .int .u64 0, .int .i64 0, .bool false, .string ⟨#[]⟩, .slice none 0 0, .int .i64 0, .int .u64 0, .int .i64 0, .bool false, .string ⟨#[]⟩, .slice none 0 0, .slice none 0 0, .slice none 0 0, .slice none 0 0, .slice none 0 0] l.tail v3) := by show Sx _ _ _ _ _ _ _ _ _; rw [← hvv]; simpa using HX2.out.set HG.out 0 (.int .i64 8)
  have TH2 : Hid (Thr w.heap.size sb v2 v3) := by show Thr _ _ _ _; rw [← hvv]; exact Thr.set _ _
  have HQ3 : Hid ((l.tail).length < l.length) := HQ2.out
  clear hvv e0 f0
  have HSE := Lib.hid (psees_ok v3 g fin (d + 1) l.tail [59] HX3.out.sd.pb)
  have e4 := HX3.out.sb.cell 4
  have f4 := HX3.out.sb.frozen 4
  cases hs9 : Ps.sees [59] l.tail with
  | true =>
    rw [hs9] at HSE
    have HR1 : Hid (R = Ps.seq (Ps.need fin [59] l.tail) fun _ m0 => .ok ((.mk 8 0 false ⟨#[]⟩ false Ps.xz Ps.xz [] [] [] [] : S), m0)) := by show R = _; rw [HR0.out, if_pos hs9]
    clear hs9 HR0
    go_upto_region 52 with (first | (go_at_call 43; refine HSE.out.mono ?_; rintro e w' ⟨rfl, rfl⟩))
    generalize hvv : World.setCell v3 _ _ = v4
    have HX4 : Hid (Sx w g fin d b sb #[.int .i64 8, .int .i64 0, .bool false, .string ⟨#[]⟩, .bool false, .int .i64 0, .int .u64 0, .int .i64 0, .bool false, .string ⟨#[]⟩, .slice none 0 0, .int .i64 0, .int .u64 0, .int .i64 0, .bool false, .string ⟨#[]⟩, .slice none 0 0, .slice none 0 0, .slice none 0 0, .slice none 0 0, .slice none 0 0] l.tail v4) := by show Sx _ _ _ _ _ _ _ _ _; rw [← hvv]; simpa using HX3.out.set HG.out 4 (.bool false)
    have TH3 : Hid (Thr w.heap.size sb v3 v4) := by show Thr _ _ _ _; rw [← hvv]; exact Thr.set _ _
    have HQ4 : Hid ((l.tail).length < l.length) := HQ3.out
    clear hvv e4 f4 HSE
    have HN := Lib.hid (pneed_ok v4 g fin (d + 1) l.tail [59] HX4.out.sd.pb)
    obtain ⟨rA, hrA⟩ : ∃ r, r = Ps.need fin [59] l.tail := ⟨_, rfl⟩
    have HLA : Hid (∀ x l', rA = .ok (x, l') → l'.length < (l.tail).length) := fun x l' h => Ps.need_lt (fin := fin) (s := [59]) (u := x) (hrA ▸ h)
    rw [← hrA] at HN HR1
    clear hrA
    go_upto_region 53 with (first | (go_at_call_of 44 (Value.string ⟨#[59]⟩); refine (HN.out).mono ?_; rintro e v5 ⟨hc6, hp6, hr6⟩; have HCv5 := Lib.hid hc6; have HPv5 := Lib.hid hp6; clear hc6 hp6; rcases rA with z | ⟨y0, t5⟩; (obtain rfl := hr6); rotate_left; (obtain ⟨rfl, hpb⟩ := hr6; have HPN := Lib.hid hpb; clear hpb); rotate_left))
    · obtain rfl : R = .error z := HR1.out
      (obtain ⟨v, f, D, hbk⟩ := (HPv5).out; refine leaves_cons (f := 89) (args := #[P b]) (by simp) (by simp [go_sem]) ?_; refine (pundeep_ok v5 g b v f D _ hbk (HX4.out.sd).ne ((HCv5).out.cell (HX4.out.sd).ne (HX4.out.sd).cb)).mono ?_; rintro e u' w5 ⟨rfl, rfl, rfl⟩; simp only [Leaves, settle, Oops]; exact ⟨Chg.setCell ((HX4.out.sd).fz.chg.trans (HCv5).out) 2 _, ParA.up hbk, rfl⟩)
    have HR2 : Hid (R = .ok ((.mk 8 0 false ⟨#[]⟩ false Ps.xz Ps.xz [] [] [] [] : S), t5)) := HR1.out
    have HX5 := Lib.hid (HX4.out.chg HG.out HCv5.out HPN.out)
    have TH4 : Hid (Thr w.heap.size sb v4 v5) := HCv5.out.thr (Nat.le_of_lt HG.out)
    have HQ5 : Hid ((t5).length < l.length) := Nat.lt_trans (HLA.out _ _ rfl) HQ4.out
    clear HN HLA HR1 HPN HCv5 HPv5
    go_wp2_with (first | (refine wpList_load_row rfl 56 _ rfl sb rfl 56 #[.int .i64 8, .int .i64 0, .bool false, .string ⟨#[]⟩, .bool false, .int .i64 0, .int .u64 0, .int .i64 0, .bool false, .string ⟨#[]⟩, .slice none 0 0, .int .i64 0, .int .u64 0, .int .i64 0, .bool false, .string ⟨#[]⟩, .slice none 0 0, .slice none 0 0, .slice none 0 0, .slice none 0 0, .slice none 0 0] (0, 0) _ (HX5.out.sb) Try.underlying56 rfl (by kernel_rfl) ?_) | (refine wpList_store_row rfl 56 _ _ rfl w.heap.size #[.int .i64 8, .int .i64 0, .bool false, .string ⟨#[]⟩, .bool false, .int .i64 0, .int .u64 0, .int .i64 0, .bool false, .string ⟨#[]⟩, .slice none 0 0, .int .i64 0, .int .u64 0, .int .i64 0, .bool false, .string ⟨#[]⟩, .slice none 0 0, .slice none 0 0, .slice none 0 0, .slice none 0 0, .slice none 0 0] rfl rfl 56 Pw.zS (HX5.out.sd.fz.z) (by kernel_rfl) rfl (Pw.one21 _ _ _ _ _ _ _ _ _ _ _ _ _ _ _ _ _ _ _ _ _ _ _ _ _ _ _ _ _ _ _ _ _) ?_))
    obtain rfl : R = .ok ((.mk 8 0 false ⟨#[]⟩ false Ps.xz Ps.xz [] [] [] [] : S), t5) := HR2.out
    (obtain ⟨row, hrow⟩ : ∃ row : Array Value, row = #[.int .i64 8, .int .i64 0, .bool false, .string ⟨#[]⟩, .bool false, .int .i64 0, .int .u64 0, .int .i64 0, .bool false, .string ⟨#[]⟩, .slice none 0 0, .int .i64 0, .int .u64 0, .int .i64 0, .bool false, .string ⟨#[]⟩, .slice none 0 0, .slice none 0 0, .slice none 0 0, .slice none 0 0, .slice none 0 0] := ⟨_, rfl⟩; rw [← hrow])
    have hx : LS v5 (fun k => w.heap.size < k) (.mk 8 0 false ⟨#[]⟩ false Ps.xz Ps.xz [] [] [] [] : S) (S.cells 8 0 false ⟨#[]⟩ false [.int .i64 0, .int .u64 0, .int .i64 0, .bool false, .string ⟨#[]⟩, .slice none 0 0] [.int .i64 0, .int .u64 0, .int .i64 0, .bool false, .string ⟨#[]⟩, .slice none 0 0] (.slice none 0 0) (.slice none 0 0) (.slice none 0 0) (.slice none 0 0)) := .mk _ _ _ _ _ _ _ _ _ _ _ _ _ _ _ _ _ (xz_in _ _) (xz_in _ _) (sz_in _ _) (sz_in _ _) (sz_in _ _) (sz_in _ _)
    (obtain ⟨v, hbk, hcb, hz, hpost⟩ := Fz.upL (b := b) layS (HX5.out.sd).fz HG.out (Nat.le_of_lt HDD.out) (HX5.out.sd).pb hx row hrow (HX5.out.sd).ne (HX5.out.sd).lt (HX5.out.sd).cb; refine leaves_cons (f := 89) (args := #[P b]) (by simp) (by simp [go_sem]) ?_; refine (pundeep_ok _ g b v _ _ _ hbk (HX5.out.sd).ne hcb).mono ?_; rintro e u' w6 ⟨rfl, rfl, rfl⟩; exact ⟨_, Pw.res_cell rfl _ _ w.heap.size 56 row (0, 0) _ rfl hz Try.underlying56 rfl (by subst hrow; kernel_rfl), hpost⟩)
  | false =>
    rw [hs9] at HSE
    have HR1 : Hid (R = Ps.seq (F.expr (d + 1) l.tail) fun q0 m0 => Ps.seq (Ps.need fin [59] m0) fun _ m1 => .ok ((.mk 8 0 false ⟨#[]⟩ true q0 Ps.xz [] [] [] [] : S), m1)) := by show R = _; rw [HR0.out, if_neg (by rw [hs9]; decide)]
    clear hs9 HR0
    go_upto_region 47 with (first | (go_at_call 43; refine HSE.out.mono ?_; rintro e w' ⟨rfl, rfl⟩))
    generalize hvv : World.setCell v3 _ _ = v4
    have HX4 : Hid (Sx w g fin d b sb #[.int .i64 8, .int .i64 0, .bool false, .string ⟨#[]⟩, .bool true, .int .i64 0, .int .u64 0, .int .i64 0, .bool false, .string ⟨#[]⟩, .slice none 0 0, .int .i64 0, .int .u64 0, .int .i64 0, .bool false, .string ⟨#[]⟩, .slice none 0 0, .slice none 0 0, .slice none 0 0, .slice none 0 0, .slice none 0 0] l.tail v4) := by show Sx _ _ _ _ _ _ _ _ _; rw [← hvv]; simpa using HX3.out.set HG.out 4 (.bool true)
    have TH3 : Hid (Thr w.heap.size sb v3 v4) := by show Thr _ _ _ _; rw [← hvv]; exact Thr.set _ _
    have HQ4 : Hid ((l.tail).length < l.length) := HQ3.out
    clear hvv e4 f4 HSE
    have HE := Lib.hid (HH.out.ex v4 l.tail (Nat.le_of_lt HQ4.out) HX4.out.sd.pb)
    obtain ⟨rA, hrA⟩ : ∃ r, r = F.expr (d + 1) l.tail := ⟨_, rfl⟩
    have HLA : Hid (∀ x l', rA = .ok (x, l') → l'.length < (l.tail).length) := fun x l' h => HH.out.less.expr (hrA ▸ h)
    rw [← hrA] at HE HR1
    clear hrA
    go_upto_region 52 with (first | (go_at_call 46; refine (HE.out).mono ?_; rintro e v5 ⟨hc4, hp4, hr4⟩; have HCv5 := Lib.hid hc4; have HPv5 := Lib.hid hp4; clear hc4 hp4; rcases rA with z | ⟨y, t5⟩; (obtain rfl := hr4); rotate_left; (obtain ⟨cs, rfl, hin, hpb⟩ := hr4; obtain ⟨ya, yc, rfl⟩ := Pw.form hin; have HIY := Lib.hid hin; have HX5 := Lib.hid (HX4.out.chg HG.out HCv5.out hpb); clear hin hpb); rotate_left) | (refine wpList_store_sub rfl 54 _ _ rfl sb 5 [.int .i64 y.kind, .int .u64 y.num, .int .i64 y.bits, .bool y.sg, .string y.name, .slice ya y.kids.length yc] rfl rfl 56 _ #[.int .i64 8, .int .i64 0, .bool false, .string ⟨#[]⟩, .bool true, .int .i64 y.kind, .int .u64 y.num, .int .i64 y.bits, .bool y.sg, .string y.name, .slice ya y.kids.length yc, .int .i64 0, .int .u64 0, .int .i64 0, .bool false, .string ⟨#[]⟩, .slice none 0 0, .slice none 0 0, .slice none 0 0, .slice none 0 0, .slice none 0 0] HX5.out.sb (by kernel_rfl) (show 5 + 6 ≤ 21 by decide) HIY.out.ones rfl ?_))
    · obtain rfl : R = .error z := HR1.out
      (obtain ⟨v, f, D, hbk⟩ := (HPv5).out; refine leaves_cons (f := 89) (args := #[P b]) (by simp) (by simp [go_sem]) ?_; refine (pundeep_ok v5 g b v f D _ hbk (HX4.out.sd).ne ((HCv5).out.cell (HX4.out.sd).ne (HX4.out.sd).cb)).mono ?_; rintro e u' w5 ⟨rfl, rfl, rfl⟩; simp only [Leaves, settle, Oops]; exact ⟨Chg.setCell ((HX4.out.sd).fz.chg.trans (HCv5).out) 2 _, ParA.up hbk, rfl⟩)
    have HR2 : Hid (R = Ps.seq (Ps.need fin [59] t5) fun _ m0 => .ok ((.mk 8 0 false ⟨#[]⟩ true y Ps.xz [] [] [] [] : S), m0)) := HR1.out
    generalize hvv : World.setRow v5 _ _ = v6
    have HX6 : Hid (Sx w g fin d b sb #[.int .i64 8, .int .i64 0, .bool false, .string ⟨#[]⟩, .bool true, .int .i64 y.kind, .int .u64 y.num, .int .i64 y.bits, .bool y.sg, .string y.name, .slice ya y.kids.length yc, .int .i64 0, .int .u64 0, .int .i64 0, .bool false, .string ⟨#[]⟩, .slice none 0 0, .slice none 0 0, .slice none 0 0, .slice none 0 0, .slice none 0 0] t5 v6) := by show Sx _ _ _ _ _ _ _ _ _; rw [← hvv]; exact HX5.out.row HG.out _
    have TH4 : Hid (Thr w.heap.size sb v4 v5) := HCv5.out.thr (Nat.le_of_lt HG.out)
    have TH5 : Hid (Thr w.heap.size sb v5 v6) := by show Thr _ _ _ _; rw [← hvv]; exact Thr.row _
    have HQ6 : Hid ((t5).length < l.length) := Nat.lt_trans (HLA.out _ _ rfl) HQ4.out
    clear hvv HE HLA HR1 HCv5 HPv5
    have HN := Lib.hid (pneed_ok v6 g fin (d + 1) t5 [59] HX6.out.sd.pb)
    obtain ⟨rA, hrA⟩ : ∃ r, r = Ps.need fin [59] t5 := ⟨_, rfl⟩
    have HLA : Hid (∀ x l', rA = .ok (x, l') → l'.length < (t5).length) := fun x l' h => Ps.need_lt (fin := fin) (s := [59]) (u := x) (hrA ▸ h)
    rw [← hrA] at HN HR2
    clear hrA
    go_upto_region 53 with (first | (go_at_call_of 44 (Value.string ⟨#[59]⟩); refine (HN.out).mono ?_; rintro e v7 ⟨hc6, hp6, hr6⟩; have HCv7 := Lib.hid hc6; have HPv7 := Lib.hid hp6; clear hc6 hp6; rcases rA with z | ⟨y0, t7⟩; (obtain rfl := hr6); rotate_left; (obtain ⟨rfl, hpb⟩ := hr6; have HPN := Lib.hid hpb; clear hpb); rotate_left))
    · obtain rfl : R = .error z := HR2.out
      (obtain ⟨v, f, D, hbk⟩ := (HPv7).out; refine leaves_cons (f := 89) (args := #[P b]) (by simp) (by simp [go_sem]) ?_; refine (pundeep_ok v7 g b v f D _ hbk (HX6.out.sd).ne ((HCv7).out.cell (HX6.out.sd).ne (HX6.out.sd).cb)).mono ?_; rintro e u' w5 ⟨rfl, rfl, rfl⟩; simp only [Leaves, settle, Oops]; exact ⟨Chg.setCell ((HX6.out.sd).fz.chg.trans (HCv7).out) 2 _, ParA.up hbk, rfl⟩)
    have HR3 : Hid (R = .ok ((.mk 8 0 false ⟨#[]⟩ true y Ps.xz [] [] [] [] : S), t7)) := HR2.out
    have HX7 := Lib.hid (HX6.out.chg HG.out HCv7.out HPN.out)
    have TH6 : Hid (Thr w.heap.size sb v6 v7) := HCv7.out.thr (Nat.le_of_lt HG.out)
    have HQ7 : Hid ((t7).length < l.length) := Nat.lt_trans (HLA.out _ _ rfl) HQ6.out
    clear HN HLA HR2 HPN HCv7 HPv7
    go_wp2_with (first | (refine wpList_load_row rfl 56 _ rfl sb rfl 56 #[.int .i64 8, .int .i64 0, .bool false, .string ⟨#[]⟩, .bool true, .int .i64 y.kind, .int .u64 y.num, .int .i64 y.bits, .bool y.sg, .string y.name, .slice ya y.kids.length yc, .int .i64 0, .int .u64 0, .int .i64 0, .bool false, .string ⟨#[]⟩, .slice none 0 0, .slice none 0 0, .slice none 0 0, .slice none 0 0, .slice none 0 0] (0, 0) _ (HX7.out.sb) Try.underlying56 rfl (by kernel_rfl) ?_) | (refine wpList_store_row rfl 56 _ _ rfl w.heap.size #[.int .i64 8, .int .i64 0, .bool false, .string ⟨#[]⟩, .bool true, .int .i64 y.kind, .int .u64 y.num, .int .i64 y.bits, .bool y.sg, .string y.name, .slice ya y.kids.length yc, .int .i64 0, .int .u64 0, .int .i64 0, .bool false, .string ⟨#[]⟩, .slice none 0 0, .slice none 0 0, .slice none 0 0, .slice none 0 0, .slice none 0 0] rfl rfl 56 Pw.zS (HX7.out.sd.fz.z) (by kernel_rfl) rfl (Pw.one21 _ _ _ _ _ _ _ _ _ _ _ _ _ _ _ _ _ _ _ _ _ _ _ _ _ _ _ _ _ _ _ _ _) ?_))
    obtain rfl : R = .ok ((.mk 8 0 false ⟨#[]⟩ true y Ps.xz [] [] [] [] : S), t7) := HR3.out
    (obtain ⟨row, hrow⟩ : ∃ row : Array Value, row = #[.int .i64 8, .int .i64 0, .bool false, .string ⟨#[]⟩, .bool true, .int .i64 y.kind, .int .u64 y.num, .int .i64 y.bits, .bool y.sg, .string y.name, .slice ya y.kids.length yc, .int .i64 0, .int .u64 0, .int .i64 0, .bool false, .string ⟨#[]⟩, .slice none 0 0, .slice none 0 0, .slice none 0 0, .slice none 0 0, .slice none 0 0] := ⟨_, rfl⟩; rw [← hrow])
    have hx : LS v7 (fun k => w.heap.size < k) (.mk 8 0 false ⟨#[]⟩ true y Ps.xz [] [] [] [] : S) (S.cells 8 0 false ⟨#[]⟩ true (X.cells y.kind y.num y.bits y.sg y.name (.slice ya y.kids.length yc)) [.int .i64 0, .int .u64 0, .int .i64 0, .bool false, .string ⟨#[]⟩, .slice none 0 0] (.slice none 0 0) (.slice none 0 0) (.slice none 0 0) (.slice none 0 0)) := .mk _ _ _ _ _ _ _ _ _ _ _ _ _ _ _ _ _ (HIY.out.thr HX4.out.sb.lt (Nat.lt_trans HX4.out.lt HX4.out.sb.lt) (TH5.out.trans (TH6.out))) (xz_in _ _) (sz_in _ _) (sz_in _ _) (sz_in _ _) (sz_in _ _)
    (obtain ⟨v, hbk, hcb, hz, hpost⟩ := Fz.upL (b := b) layS (HX7.out.sd).fz HG.out (Nat.le_of_lt HDD.out) (HX7.out.sd).pb hx row hrow (HX7.out.sd).ne (HX7.out.sd).lt (HX7.out.sd).cb; refine leaves_cons (f := 89) (args := #[P b]) (by simp) (by simp [go_sem]) ?_; refine (pundeep_ok _ g b v _ _ _ hbk (HX7.out.sd).ne hcb).mono ?_; rintro e u' w6 ⟨rfl, rfl, rfl⟩; exact ⟨_, Pw.res_cell rfl _ _ w.heap.size 56 row (0, 0) _ rfl hz Try.underlying56 rfl (by subst hrow; kernel_rfl), hpost⟩)
set_option maxHeartbeats 8000000 in
theorem pstat_break (w : World) (g fin d : Nat) (l : List Tk.Tok) (F : Ps.F) (h : Pb w g fin d l) (hd : d < 400) (hh : StH g fin (d + 1) F l.length) (h0 : Ps.sees [59] l = false) (h1 : Ps.sees [123] l = false) (h2 : Ps.sees [105, 102] l = false) (h3 : Ps.sees [119, 104, 105, 108, 101] l = false) (h4 : Ps.sees [102, 111, 114] l = false) (h5 : Ps.sees [114, 101, 116, 117, 114, 110] l = false) (hs : Ps.sees [98, 114, 101, 97, 107] l = true) :
    Calls Try.prog 67 #[P g] w (PsR g fin d w (Ps.seq (Ps.need fin [59] l.tail) fun _ m0 => .ok ((.mk 9 0 false ⟨#[]⟩ false Ps.xz Ps.xz [] [] [] [] : S), m0))) := by
  have hgl : g < w.heap.size := by obtain ⟨v, hb, _⟩ := h; exact hb.lt
  have HG := Lib.hid hgl
  have HH := Lib.hid hh
  have HDD := Lib.hid hd
  obtain ⟨w0, hw0⟩ : ∃ w0, w0 = w.alloc (.cells Pw.zS 56) := ⟨_, rfl⟩
  have HF0 : Hid (Fz w g 56 Pw.zS w0) := by show Fz _ _ _ _ _; rw [hw0]; exact Fz.new ..
  have hp0 : Pb w0 g fin d l := by rw [hw0]; exact h.keep (Ext.alloc (Below.refl _ _) _)
  have HD := Lib.hid (pdeeper_ok w0 g fin d l hp0 hd)
  obtain ⟨R, hR⟩ : ∃ R, R = (Ps.seq (Ps.need fin [59] l.tail) fun _ m0 => .ok ((.mk 9 0 false ⟨#[]⟩ false Ps.xz Ps.xz [] [] [] [] : S), m0) : Ps.Res S) := ⟨_, rfl⟩
  rw [← hR]
  have HR0 := Lib.hid hR
  have HQ1 : Hid (l.tail.length < l.length) := Ps.sees_lt hs
  have H0 := Lib.hid h0
  have H1 := Lib.hid h1
  have H2 := Lib.hid h2
  have H3 := Lib.hid h3
  have H4 := Lib.hid h4
  have H5 := Lib.hid h5
  have HY := Lib.hid hs
  clear h hd hh hgl hp0 hR h0 h1 h2 h3 h4 h5 hs
  go_enter_defers Try.func67, Try.ntmps67
  go_upto_region 1 with (fail)
  rw [← hw0]
  clear hw0
  go_upto_region 2 with (first | (go_at_call 68; refine HD.out.mono ?_; rintro e w2 ⟨b, rfl, hne, hle, hcb, hc2, hp2⟩; have HD2 := Lib.hid (And.intro hne (And.intro hle (And.intro hcb (And.intro hc2 hp2)))); clear hne hle hcb hc2 hp2))
  have HS0 : Hid (Sd w g fin d b l w2) := ⟨HF0.out.step HG.out HD2.out.2.2.2.1, HD2.out.2.2.2.2, HD2.out.1, Nat.lt_of_lt_of_le HF0.out.lt HD2.out.2.1, HD2.out.2.2.1⟩
  clear HD HD2 HF0
  have I0 := Lib.hid (pis_no w2 g fin (d + 1) l [59] HS0.out.pb H0.out)
  have I1 := Lib.hid (pis_no w2 g fin (d + 1) l [123] HS0.out.pb H1.out)
  have I2 := Lib.hid (pis_no w2 g fin (d + 1) l [105, 102] HS0.out.pb H2.out)
  have I3 := Lib.hid (pis_no w2 g fin (d + 1) l [119, 104, 105, 108, 101] HS0.out.pb H3.out)
  have I4 := Lib.hid (pis_no w2 g fin (d + 1) l [102, 111, 114] HS0.out.pb H4.out)
  clear H0 H1 H2 H3 H4
  go_upto_region 43 with (first | (go_at_call_of 21 (Value.string ⟨#[59]⟩); refine (I0.out).mono ?_; rintro e w' ⟨rfl, rfl⟩) | (go_at_call_of 21 (Value.string ⟨#[123]⟩); refine (I1.out).mono ?_; rintro e w' ⟨rfl, rfl⟩) | (go_at_call_of 21 (Value.string ⟨#[105, 102]⟩); refine (I2.out).mono ?_; rintro e w' ⟨rfl, rfl⟩) | (go_at_call_of 21 (Value.string ⟨#[119, 104, 105, 108, 101]⟩); refine (I3.out).mono ?_; rintro e w' ⟨rfl, rfl⟩) | (go_at_call_of 21 (Value.string ⟨#[102, 111, 114]⟩); refine (I4.out).mono ?_; rintro e w' ⟨rfl, rfl⟩))
  generalize hvv : World.alloc w2 _ = v1
  obtain ⟨sb, hsb⟩ : ∃ sb, sb = w2.heap.size := ⟨_, rfl⟩
  rw [← hsb]
  have HX1 : Hid (Sx w g fin d b sb Pw.zS l v1) := by show Sx _ _ _ _ _ _ _ _ _; rw [← hvv, hsb]; exact Sx.new HS0.out Pw.zS
  clear hvv hsb HS0 I0 I1 I2 I3 I4
  have I5 := Lib.hid (pis_no v1 g fin (d + 1) l [114, 101, 116, 117, 114, 110] HX1.out.sd.pb H5.out)
  have IY := Lib.hid (pis_yes v1 g fin (d + 1) l [98, 114, 101, 97, 107] HX1.out.sd.pb HY.out)
  clear H5 HY
  go_upto_region 49 with (first | (go_at_call_of 21 (Value.string ⟨#[114, 101, 116, 117, 114, 110]⟩); refine (I5.out).mono ?_; rintro e w' ⟨rfl, rfl⟩) | (go_at_call_of 21 (Value.string ⟨#[98, 114, 101, 97, 107]⟩); refine (IY.out).mono ?_; rintro e v2 ⟨rfl, hc1, hb1⟩; have HCv2 := Lib.hid hc1; have HBv2 := Lib.hid hb1; clear hc1 hb1))
  have HX2 : Hid (Sx w g fin d b sb #[.int .i64 0, .int .i64 0, .bool false, .string ⟨#[]⟩, .bool false, .int .i64 0, .int .u64 0, .int .i64 0, .bool false, .string ⟨#[]⟩, .slice none 0 0, .int .i64 0, .int .u64 0, .int .i64 0, .bool false, .string ⟨#[]⟩, .slice none 0 0, .slice none 0 0, .slice none 0 0, .slice none 0 0, .slice none 0 0] l.tail v2) := HX1.out.chg HG.out HCv2.out HBv2.out
  have HQ2 := Lib.hid HQ1.out
  clear HX1 HCv2 HBv2 HQ1 IY I5
  have e0 := HX2.out.sb.cell 0
  have f0 := HX2.out.sb.frozen 0
  go_upto_region 52 with (fail)
  generalize hvv : World.setCell v2 _ _ = v3
  have HX3 : Hid (Sx w g fin d b sb #[.int .i64 9, .int .i64 0, .bool false, .string ⟨#[]⟩, .bool false, .int .i64 0, .int .u64 0, .int .i64 0, .bool false, .string ⟨#[]⟩, .slice none 0 0, .int .i64 0, .int .u64 0, .int .i64 0, .bool false, .string ⟨#[]⟩, .slice none 0 0, .slice none 0 0, .slice none 0 0, .slice none 0 0, .slice none 0 0] l.tail v3) := by show Sx _ _ _ _ _ _ _ _ _; rw [← hvv]; simpa using HX2.out.set HG.out 0 (.int .i64 9)
  have TH2 : Hid (Thr w.heap.size sb v2 v3) := by show Thr _ _ _ _; rw [← hvv]; exact Thr.set _ _
  have HQ3 : Hid ((l.tail).length < l.length) := HQ2.out
  clear hvv e0 f0
  have HN := Lib.hid (pneed_ok v3 g fin (d + 1) l.tail [59] HX3.out.sd.pb)
  obtain ⟨rA, hrA⟩ : ∃ r, r = Ps.need fin [59] l.tail := ⟨_, rfl⟩
  have HLA : Hid (∀ x l', rA = .ok (x, l') → l'.length < (l.tail).length) := fun x l' h => Ps.need_lt (fin := fin) (s := [59]) (u := x) (hrA ▸ h)
  rw [← hrA] at HN HR0
  clear hrA
  go_upto_region 53 with (first | (go_at_call_of 44 (Value.string ⟨#[59]⟩); refine (HN.out).mono ?_; rintro e v4 ⟨hc6, hp6, hr6⟩; have HCv4 := Lib.hid hc6; have HPv4 := Lib.hid hp6; clear hc6 hp6; rcases rA with z | ⟨y0, t4⟩; (obtain rfl := hr6); rotate_left; (obtain ⟨rfl, hpb⟩ := hr6; have HPN := Lib.hid hpb; clear hpb); rotate_left))
  · obtain rfl : R = .error z := HR0.out
    (obtain ⟨v, f, D, hbk⟩ := (HPv4).out; refine leaves_cons (f := 89) (args := #[P b]) (by simp) (by simp [go_sem]) ?_; refine (pundeep_ok v4 g b v f D _ hbk (HX3.out.sd).ne ((HCv4).out.cell (HX3.out.sd).ne (HX3.out.sd).cb)).mono ?_; rintro e u' w5 ⟨rfl, rfl, rfl⟩; simp only [Leaves, settle, Oops]; exact ⟨Chg.setCell ((HX3.out.sd).fz.chg.trans (HCv4).out) 2 _, ParA.up hbk, rfl⟩)
  have HR1 : Hid (R = .ok ((.mk 9 0 false ⟨#[]⟩ false Ps.xz Ps.xz [] [] [] [] : S), t4)) := HR0.out
  have HX4 := Lib.hid (HX3.out.chg HG.out HCv4.out HPN.out)
  have TH3 : Hid (Thr w.heap.size sb v3 v4) := HCv4.out.thr (Nat.le_of_lt HG.out)
  have HQ4 : Hid ((t4).length < l.length) := Nat.lt_trans (HLA.out _ _ rfl) HQ3.out
  clear HN HLA HR0 HPN HCv4 HPv4
  go_wp2_with (first | (refine wpList_load_row rfl 56 _ rfl sb rfl 56 #[.int .i64 9, .int .i64 0, .bool false, .string ⟨#[]⟩, .bool false, .int .i64 0, .int .u64 0, .int .i64 0, .bool false, .string ⟨#[]⟩, .slice none 0 0, .int .i64 0, .int .u64 0, .int .i64 0, .bool false, .string ⟨#[]⟩, .slice none 0 0, .slice none 0 0, .slice none 0 0, .slice none 0 0, .slice none 0 0] (0, 0) _ (HX4.out.sb) Try.underlying56 rfl (by kernel_rfl) ?_) | (refine wpList_store_row rfl 56 _ _ rfl w.heap.size #[.int .i64 9, .int .i64 0, .bool false, .string ⟨#[]⟩, .bool false, .int .i64 0, .int .u64 0, .int .i64 0, .bool false, .string ⟨#[]⟩, .slice none 0 0, .int .i64 0, .int .u64 0, .int .i64 0, .bool false, .string ⟨#[]⟩, .slice none 0 0, .slice none 0 0, .slice none 0 0, .slice none 0 0, .slice none 0 0] rfl rfl 56 Pw.zS (HX4.out.sd.fz.z) (by kernel_rfl) rfl (Pw.one21 _ _ _ _ _ _ _ _ _ _ _ _ _ _ _ _ _ _ _ _ _ _ _ _ _ _ _ _ _ _ _ _ _) ?_))
  obtain rfl : R = .ok ((.mk 9 0 false ⟨#[]⟩ false Ps.xz Ps.xz [] [] [] [] : S), t4) := HR1.out
  (obtain ⟨row, hrow⟩ : ∃ row : Array Value, row = #[.int .i64 9, .int .i64 0, .bool false, .string ⟨#[]⟩, .bool false, .int .i64 0, .int .u64 0, .int .i64 0, .bool false, .string ⟨#[]⟩, .slice none 0 0, .int .i64 0, .int .u64 0, .int .i64 0, .bool false, .string ⟨#[]⟩, .slice none 0 0, .slice none 0 0, .slice none 0 0, .slice none 0 0, .slice none 0 0] := ⟨_, rfl⟩; rw [← hrow])
  have hx : LS v4 (fun k => w.heap.size < k) (.mk 9 0 false ⟨#[]⟩ false Ps.xz Ps.xz [] [] [] [] : S) (S.cells 9 0 false ⟨#[]⟩ false [.int .i64 0, .int .u64 0, .int .i64 0, .bool false, .string ⟨#[]⟩, .slice none 0 0] [.int .i64 0, .int .u64 0, .int .i64 0, .bool false, .string ⟨#[]⟩, .slice none 0 0] (.slice none 0 0) (.slice none 0 0) (.slice none 0 0) (.slice none 0 0)) := .mk _ _ _ _ _ _ _ _ _ _ _ _ _ _ _ _ _ (xz_in _ _) (xz_in _ _) (sz_in _ _) (sz_in _ _) (sz_in _ _) (sz_in _ _)
  (obtain ⟨v, hbk, hcb, hz, hpost⟩ := Fz.upL (b := b) layS (HX4.out.sd).fz HG.out (Nat.le_of_lt HDD.out) (HX4.out.sd).pb hx row hrow (HX4.out.sd).ne (HX4.out.sd).lt (HX4.out.sd).cb; refine leaves_cons (f := 89) (args := #[P b]) (by simp) (by simp [go_sem]) ?_; refine (pundeep_ok _ g b v _ _ _ hbk (HX4.out.sd).ne hcb).mono ?_; rintro e u' w6 ⟨rfl, rfl, rfl⟩; exact ⟨_, Pw.res_cell rfl _ _ w.heap.size 56 row (0, 0) _ rfl hz Try.underlying56 rfl (by subst hrow; kernel_rfl), hpost⟩)
set_option maxHeartbeats 8000000 in
theorem pstat_continue (w : World) (g fin d : Nat) (l : List Tk.Tok) (F : Ps.F) (h : Pb w g fin d l) (hd : d < 400) (hh : StH g fin (d + 1) F l.length) (h0 : Ps.sees [59] l = false) (h1 : Ps.sees [123] l = false) (h2 : Ps.sees [105, 102] l = false) (h3 : Ps.sees [119, 104, 105, 108, 101] l = false) (h4 : Ps.sees [102, 111, 114] l = false) (h5 : Ps.sees [114, 101, 116, 117, 114, 110] l = false) (h6 : Ps.sees [98, 114, 101, 97, 107] l = false) (hs : Ps.sees [99, 111, 110, 116, 105, 110, 117, 101] l = true) :
    Calls Try.prog 67 #[P g] w (PsR g fin d w (Ps.seq (Ps.need fin [59] l.tail) fun _ m0 => .ok ((.mk 10 0 false ⟨#[]⟩ false Ps.xz Ps.xz [] [] [] [] : S), m0))) := by
  have hgl : g < w.heap.size := by obtain ⟨v, hb, _⟩ := h; exact hb.lt
  have HG := Lib.hid hgl
  have HH := Lib.hid hh
  have HDD := Lib.hid hd
  obtain ⟨w0, hw0⟩ : ∃ w0, w0 = w.alloc (.cells Pw.zS 56) := ⟨_, rfl⟩
  have HF0 : Hid (Fz w g 56 Pw.zS w0) := by show Fz _ _ _ _ _; rw [hw0]; exact Fz.new ..
  have hp0 : Pb w0 g fin d l := by rw [hw0]; exact h.keep (Ext.alloc (Below.refl _ _) _)
  have HD := Lib.hid (pdeeper_ok w0 g fin d l hp0 hd)
  obtain ⟨R, hR⟩ : ∃ R, R = (Ps.seq (Ps.need fin [59] l.tail) fun _ m0 => .ok ((.mk 10 0 false ⟨#[]⟩ false Ps.xz Ps.xz [] [] [] [] : S), m0) : Ps.Res S) := ⟨_, rfl⟩
  rw [← hR]
  have HR0 := Lib.hid hR
  have HQ1 : Hid (l.tail.length < l.length) := Ps.sees_lt hs
  have H0 := Lib.hid h0
  have H1 := Lib.hid h1
  have H2 := Lib.hid h2
  have H3 := Lib.hid h3
  have H4 := Lib.hid h4
  have H5 := Lib.hid h5
  have H6 := Lib.hid h6
  have HY := Lib.hid hs
  clear h hd hh hgl hp0 hR h0 h1 h2 h3 h4 h5 h6 hs
  go_enter_defers Try.func67, Try.ntmps67
  go_upto_region 1 with (fail)
  rw [← hw0]
  clear hw0
  go_upto_region 2 with (first | (go_at_call 68; refine HD.out.mono ?_; rintro e w2 ⟨b, rfl, hne, hle, hcb, hc2, hp2⟩; have HD2 := Lib.hid (And.intro hne (And.intro hle (And.intro hcb (And.intro hc2 hp2)))); clear hne hle hcb hc2 hp2))
  have HS0 : Hid (Sd w g fin d b l w2) := ⟨HF0.out.step HG.out HD2.out.2.2.2.1, HD2.out.2.2.2.2, HD2.out.1, Nat.lt_of_lt_of_le HF0.out.lt HD2.out.2.1, HD2.out.2.2.1⟩
  clear HD HD2 HF0
  have I0 := Lib.hid (pis_no w2 g fin (d + 1) l [59] HS0.out.pb H0.out)
  have I1 := Lib.hid (pis_no w2 g fin (d + 1) l [123] HS0.out.pb H1.out)
  have I2 := Lib.hid (pis_no w2 g fin (d + 1) l [105, 102] HS0.out.pb H2.out)
  have I3 := Lib.hid (pis_no w2 g fin (d + 1) l [119, 104, 105, 108, 101] HS0.out.pb H3.out)
  have I4 := Lib.hid (pis_no w2 g fin (d + 1) l [102, 111, 114] HS0.out.pb H4.out)
  clear H0 H1 H2 H3 H4
  go_upto_region 43 with (first | (go_at_call_of 21 (Value.string ⟨#[59]⟩); refine (I0.out).mono ?_; rintro e w' ⟨rfl, rfl⟩) | (go_at_call_of 21 (Value.string ⟨#[123]⟩); refine (I1.out).mono ?_; rintro e w' ⟨rfl, rfl⟩) | (go_at_call_of 21 (Value.string ⟨#[105, 102]⟩); refine (I2.out).mono ?_; rintro e w' ⟨rfl, rfl⟩) | (go_at_call_of 21 (Value.string ⟨#[119, 104, 105, 108, 101]⟩); refine (I3.out).mono ?_; rintro e w' ⟨rfl, rfl⟩) | (go_at_call_of 21 (Value.string ⟨#[102, 111, 114]⟩); refine (I4.out).mono ?_; rintro e w' ⟨rfl, rfl⟩))
  generalize hvv : World.alloc w2 _ = v1
  obtain ⟨sb, hsb⟩ : ∃ sb, sb = w2.heap.size := ⟨_, rfl⟩
  rw [← hsb]
  have HX1 : Hid (Sx w g fin d b sb Pw.zS l v1) := by show Sx _ _ _ _ _ _ _ _ _; rw [← hvv, hsb]; exact Sx.new HS0.out Pw.zS
  clear hvv hsb HS0 I0 I1 I2 I3 I4
  have I5 := Lib.hid (pis_no v1 g fin (d + 1) l [114, 101, 116, 117, 114, 110] HX1.out.sd.pb H5.out)
  have I6 := Lib.hid (pis_no v1 g fin (d + 1) l [98, 114, 101, 97, 107] HX1.out.sd.pb H6.out)
  have IY := Lib.hid (pis_yes v1 g fin (d + 1) l [99, 111, 110, 116, 105, 110, 117, 101] HX1.out.sd.pb HY.out)
  clear H5 H6 HY
  go_upto_region 51 with (first | (go_at_call_of 21 (Value.string ⟨#[114, 101, 116, 117, 114, 110]⟩); refine (I5.out).mono ?_; rintro e w' ⟨rfl, rfl⟩) | (go_at_call_of 21 (Value.string ⟨#[98, 114, 101, 97, 107]⟩); refine (I6.out).mono ?_; rintro e w' ⟨rfl, rfl⟩) | (go_at_call_of 21 (Value.string ⟨#[99, 111, 110, 116, 105, 110, 117, 101]⟩); refine (IY.out).mono ?_; rintro e v2 ⟨rfl, hc1, hb1⟩; have HCv2 := Lib.hid hc1; have HBv2 := Lib.hid hb1; clear hc1 hb1))
  have HX2 : Hid (Sx w g fin d b sb #[.int .i64 0, .int .i64 0, .bool false, .string ⟨#[]⟩, .bool false, .int .i64 0, .int .u64 0, .int .i64 0, .bool false, .string ⟨#[]⟩, .slice none 0 0, .int .i64 0, .int .u64 0, .int .i64 0, .bool false, .string ⟨#[]⟩, .slice none 0 0, .slice none 0 0, .slice none 0 0, .slice none 0 0, .slice none 0 0] l.tail v2) := HX1.out.chg HG.out HCv2.out HBv2.out
  have HQ2 := Lib.hid HQ1.out
  clear HX1 HCv2 HBv2 HQ1 IY I5 I6
  have e0 := HX2.out.sb.cell 0
  have f0 := HX2.out.sb.frozen 0
  go_upto_region 52 with (fail)
  generalize hvv : World.setCell v2 _ _ = v3
  have HX3 : Hid (Sx w g fin d b sb #[.int .i64 10, .int .i64 0, .bool false, .string ⟨#[]⟩, .bool false, .int .i64 0, .int .u64 0, .int .i64 0, .bool false, .string ⟨#[]⟩, .slice none 0 0, .int .i64 0, .int .u64 0, .int .i64 0, .bool false, .string ⟨#[]⟩, .slice none 0 0, .slice none 0 0, .slice none 0 0, .slice none 0 0, .slice none 0 0] l.tail v3) := by show Sx _ _ _ _ _ _ _ _ _; rw [← hvv]; simpa using HX2.out.set HG.out 0 (.int .i64 10)
  have TH2 : Hid (Thr w.heap.size sb v2 v3) := by show Thr _ _ _ _; rw [← hvv]; exact Thr.set _ _
  have HQ3 : Hid ((l.tail).length < l.length) := HQ2.out
  clear hvv e0 f0
  have HN := Lib.hid (pneed_ok v3 g fin (d + 1) l.tail [59] HX3.out.sd.pb)
  obtain ⟨rA, hrA⟩ : ∃ r, r = Ps.need fin [59] l.tail := ⟨_, rfl⟩
  have HLA : Hid (∀ x l', rA = .ok (x, l') → l'.length < (l.tail).length) := fun x l' h => Ps.need_lt (fin := fin) (s := [59]) (u := x) (hrA ▸ h)
  rw [← hrA] at HN HR0
  clear hrA
  go_upto_region 53 with (first | (go_at_call_of 44 (Value.string ⟨#[59]⟩); refine (HN.out).mono ?_; rintro e v4 ⟨hc6, hp6, hr6⟩; have HCv4 := Lib.hid hc6; have HPv4 := Lib.hid hp6; clear hc6 hp6; rcases rA with z | ⟨y0, t4⟩; (obtain rfl := hr6); rotate_left; (obtain ⟨rfl, hpb⟩ := hr6; have HPN := Lib.hid hpb; clear hpb); rotate_left))
  · obtain rfl : R = .error z := HR0.out
    (obtain ⟨v, f, D, hbk⟩ := (HPv4).out; refine leaves_cons (f := 89) (args := #[P b]) (by simp) (by simp [go_sem]) ?_; refine (pundeep_ok v4 g b v f D _ hbk (HX3.out.sd).ne ((HCv4).out.cell (HX3.out.sd).ne (HX3.out.sd).cb)).mono ?_; rintro e u' w5 ⟨rfl, rfl, rfl⟩; simp only [Leaves, settle, Oops]; exact ⟨Chg.setCell ((HX3.out.sd).fz.chg.trans (HCv4).out) 2 _, ParA.up hbk, rfl⟩)
  have HR1 : Hid (R = .ok ((.mk 10 0 false ⟨#[]⟩ false Ps.xz Ps.xz [] [] [] [] : S), t4)) := HR0.out
  have HX4 := Lib.hid (HX3.out.chg HG.out HCv4.out HPN.out)
  have TH3 : Hid (Thr w.heap.size sb v3 v4) := HCv4.out.thr (Nat.le_of_lt HG.out)
  have HQ4 : Hid ((t4).length < l.length) := Nat.lt_trans (HLA.out _ _ rfl) HQ3.out
  clear HN HLA HR0 HPN HCv4 HPv4
  go_wp2_with (first | (refine wpList_load_row rfl 56 _ rfl sb rfl 56 #[.int .i64 10, .int .i64 0, .bool false, .string ⟨#[]⟩, .bool false, .int .i64 0, .int .u64 0, .int .i64 0, .bool false, .string ⟨#[]⟩, .slice none 0 0, .int .i64 0, .int .u64 0, .int .i64 0, .bool false, .string ⟨#[]⟩, .slice none 0 0, .slice none 0 0, .slice none 0 0, .slice none 0 0, .slice none 0 0] (0, 0) _ (HX4.out.sb) Try.underlying56 rfl (by kernel_rfl) ?_) | (refine wpList_store_row rfl 56 _ _ rfl w.heap.size #[.int .i64 10, .int .i64 0, .bool false, .string ⟨#[]⟩, .bool false, .int .i64 0, .int .u64 0, .int .i64 0, .bool false, .string ⟨#[]⟩, .slice none 0 0, .int .i64 0, .int .u64 0, .int .i64 0, .bool false, .string ⟨#[]⟩, .slice none 0 0, .slice none 0 0, .slice none 0 0, .slice none 0 0, .slice none 0 0] rfl rfl 56 Pw.zS (HX4.out.sd.fz.z) (by kernel_rfl) rfl (Pw.one21 _ _ _ _ _ _ _ _ _ _ _ _ _ _ _ _ _ _ _ _ _ _ _ _ _ _ _ _ _ _ _ _ _) ?_))
  obtain rfl : R = .ok ((.mk 10 0 false ⟨#[]⟩ false Ps.xz Ps.xz [] [] [] [] : S), t4) := HR1.out
  (obtain ⟨row, hrow⟩ : ∃ row : Array Value, row = #[.int .i64 10, .int .i64 0, .bool false, .string ⟨#[]⟩, .bool false, .int .i64 0, .int .u64 0, .int .i64 0, .bool false, .string ⟨#[]⟩, .slice none 0 0, .int .i64 0, .int .u64 0, .int .i64 0, .bool false, .string ⟨#[]⟩, .slice none 0 0, .slice none 0 0, .slice none 0 0, .slice none 0 0, .slice none 0 0] := ⟨_, rfl⟩; rw [← hrow])
  have hx : LS v4 (fun k => w.heap.size < k) (.mk 10 0 false ⟨#[]⟩ false Ps.xz Ps.xz [] [] [] [] : S) (S.cells 10 0 false ⟨#[]⟩ false [.int .i64 0, .int .u64 0, .int .i64 0, .bool false, .string ⟨#[]⟩, .slice none 0 0] [.int .i64 0, .int .u64 0, .int .i64 0, .bool false, .string ⟨#[]⟩, .slice none 0 0] (.slice none 0 0) (.slice none 0 0) (.slice none 0 0) (.slice none 0 0)) := .mk _ _ _ _ _ _ _ _ _ _ _ _ _ _ _ _ _ (xz_in _ _) (xz_in _ _) (sz_in _ _) (sz_in _ _) (sz_in _ _) (sz_in _ _)
  (obtain ⟨v, hbk, hcb, hz, hpost⟩ := Fz.upL (b := b) layS (HX4.out.sd).fz HG.out (Nat.le_of_lt HDD.out) (HX4.out.sd).pb hx row hrow (HX4.out.sd).ne (HX4.out.sd).lt (HX4.out.sd).cb; refine leaves_cons (f := 89) (args := #[P b]) (by simp) (by simp [go_sem]) ?_; refine (pundeep_ok _ g b v _ _ _ hbk (HX4.out.sd).ne hcb).mono ?_; rintro e u' w6 ⟨rfl, rfl, rfl⟩; exact ⟨_, Pw.res_cell rfl _ _ w.heap.size 56 row (0, 0) _ rfl hz Try.underlying56 rfl (by subst hrow; kernel_rfl), hpost⟩)
end Go.Proofs.Ytfkndjifhmkojaa
