/- Walk of parser.stat: for. No condition. -/
import Derived.Test.YtfkndjifhmkojaaP18
import Derived.Defers
import Derived.LoopTactic
import Derived.Deep.Cut
namespace Go.Proofs.Ytfkndjifhmkojaa
open Go.RowKit
set_option linter.unusedVariables false
set_option linter.unusedSimpArgs false
set_option maxRecDepth 100000
set_option maxHeartbeats 8000000 in
theorem pstat_for (w : World) (g fin d : Nat) (l : List Tk.Tok) (F : Ps.F) (h : Pb w g fin d l) (hd : d < 400) (hh : StH g fin (d + 1) F l.length) (h0 : Ps.sees [59] l = false) (h1 : Ps.sees [123] l = false) (h2 : Ps.sees [105, 102] l = false) (h3 : Ps.sees [119, 104, 105, 108, 101] l = false) (hs : Ps.sees [102, 111, 114] l = true) :
    Calls Try.prog 67 #[P g] w (PsR g fin d w (Ps.seq (Ps.need fin [40] l.tail) fun _ m0 => Ps.seq (Ps.setsS F fin [59] (d + 1) m0) fun q1 m1 => Ps.seq (Ps.need fin [59] m1) fun _ m2 => if Ps.sees [59] m2 = true then Ps.seq (Ps.need fin [59] m2) fun _ m3 => Ps.seq (Ps.setsS F fin [41] (d + 1) m3) fun q4 m4 => Ps.seq (Ps.need fin [41] m4) fun _ m5 => Ps.seq (Ps.bodyS F (d + 1) m5) fun q6 m6 => .ok ((.mk 7 0 false ⟨#[]⟩ false Ps.xz Ps.xz q1 q4 q6 [] : S), m6) else Ps.seq (F.expr (d + 1) m2) fun q3 m3 => Ps.seq (Ps.need fin [59] m3) fun _ m4 => Ps.seq (Ps.setsS F fin [41] (d + 1) m4) fun q5 m5 => Ps.seq (Ps.need fin [41] m5) fun _ m6 => Ps.seq (Ps.bodyS F (d + 1) m6) fun q7 m7 => .ok ((.mk 7 0 false ⟨#[]⟩ true q3 Ps.xz q1 q5 q7 [] : S), m7))) := by
  have hgl : g < w.heap.size := by obtain ⟨v, hb, _⟩ := h; exact hb.lt
  have HG := Lib.hid hgl
  have HH := Lib.hid hh
  have HDD := Lib.hid hd
  obtain ⟨w0, hw0⟩ : ∃ w0, w0 = w.alloc (.cells Pw.zS 56) := ⟨_, rfl⟩
  have HF0 : Hid (Fz w g 56 Pw.zS w0) := by show Fz _ _ _ _ _; rw [hw0]; exact Fz.new ..
  have hp0 : Pb w0 g fin d l := by rw [hw0]; exact h.keep (Ext.alloc (Below.refl _ _) _)
  have HD := Lib.hid (pdeeper_ok w0 g fin d l hp0 hd)
  obtain ⟨R, hR⟩ : ∃ R, R = (Ps.seq (Ps.need fin [40] l.tail) fun _ m0 => Ps.seq (Ps.setsS F fin [59] (d + 1) m0) fun q1 m1 => Ps.seq (Ps.need fin [59] m1) fun _ m2 => if Ps.sees [59] m2 = true then Ps.seq (Ps.need fin [59] m2) fun _ m3 => Ps.seq (Ps.setsS F fin [41] (d + 1) m3) fun q4 m4 => Ps.seq (Ps.need fin [41] m4) fun _ m5 => Ps.seq (Ps.bodyS F (d + 1) m5) fun q6 m6 => .ok ((.mk 7 0 false ⟨#[]⟩ false Ps.xz Ps.xz q1 q4 q6 [] : S), m6) else Ps.seq (F.expr (d + 1) m2) fun q3 m3 => Ps.seq (Ps.need fin [59] m3) fun _ m4 => Ps.seq (Ps.setsS F fin [41] (d + 1) m4) fun q5 m5 => Ps.seq (Ps.need fin [41] m5) fun _ m6 => Ps.seq (Ps.bodyS F (d + 1) m6) fun q7 m7 => .ok ((.mk 7 0 false ⟨#[]⟩ true q3 Ps.xz q1 q5 q7 [] : S), m7) : Ps.Res S) := ⟨_, rfl⟩
  rw [← hR]
  have HR0 := Lib.hid hR
  have HQ1 : Hid (l.tail.length < l.length) := Ps.sees_lt hs
  have H0 := Lib.hid h0
  have H1 := Lib.hid h1
  have H2 := Lib.hid h2
  have H3 := Lib.hid h3
  have HY := Lib.hid hs
  clear h hd hh hgl hp0 hR h0 h1 h2 h3 hs
  go_enter_defers Try.func67, Try.ntmps67
  go_upto_region 1 with (fail)
  rw [← hw0]
  clear hw0
  go_upto_region 2 with (first | (go_at_call 68; refine HD.out.mono ?_; rintro e w2 ⟨b, rfl, hne, hle, hcb, hc2, hp2⟩; have HD2 := Lib.hid (And.intro hne (And.intro hle (And.intro hcb (And.intro hc2 hp2)))); clear hne hle hcb hc2 hp2))
  have HS0 : Hid (Sd w g fin d b l w2) := ⟨HF0.out.step HG.out HD2.out.2.2.2.1, HD2.out.2.2.2.2, HD2.out.1, Nat.lt_of_lt_of_le HF0.out.lt HD2.out.2.1, HD2.out.2.2.1⟩
  clear HD HD2 HF0
  have I0 := Lib.hid (pis_no w2 g fin (d + 1) l [59] HS0.out.pb H0.out)
  have I1 := Lib.hid (pis_no w2 g fin (d + 1) l [123] HS0.out.pb H1.out)
  have I2 := Lib.hid (pis_no w2 g fin (d + 1) l [105, 102] HS0.out.pb H2.out)
  have I3 := Lib.hid (pis_no w2 g fin (d + 1) l [119, 104, 105, 108, 101] HS0.out.pb H3.out)
  have IY := Lib.hid (pis_yes w2 g fin (d + 1) l [102, 111, 114] HS0.out.pb HY.out)
  clear H0 H1 H2 H3 HY
  go_upto_region 23 with (first | (go_at_call_of 21 (Value.string ⟨#[59]⟩); refine (I0.out).mono ?_; rintro e w' ⟨rfl, rfl⟩) | (go_at_call_of 21 (Value.string ⟨#[123]⟩); refine (I1.out).mono ?_; rintro e w' ⟨rfl, rfl⟩) | (go_at_call_of 21 (Value.string ⟨#[105, 102]⟩); refine (I2.out).mono ?_; rintro e w' ⟨rfl, rfl⟩) | (go_at_call_of 21 (Value.string ⟨#[119, 104, 105, 108, 101]⟩); refine (I3.out).mono ?_; rintro e w' ⟨rfl, rfl⟩) | (go_at_call_of 21 (Value.string ⟨#[102, 111, 114]⟩); refine (IY.out).mono ?_; rintro e v1 ⟨rfl, hc1, hb1⟩; have HCv1 := Lib.hid hc1; have HBv1 := Lib.hid hb1; clear hc1 hb1))
  have HS1 := Lib.hid (HS0.out.chg HG.out HCv1.out HBv1.out)
  clear HS0 HCv1 HBv1 IY I0 I1 I2 I3
  go_upto_region 24 with (first | (refine wpList_store_row rfl 56 _ _ rfl (v1).heap.size #[.int .i64 7, .int .i64 0, .bool false, .string ⟨#[]⟩, .bool false, .int .i64 0, .int .u64 0, .int .i64 0, .bool false, .string ⟨#[]⟩, .slice none 0 0, .int .i64 0, .int .u64 0, .int .i64 0, .bool false, .string ⟨#[]⟩, .slice none 0 0, .slice none 0 0, .slice none 0 0, .slice none 0 0, .slice none 0 0] rfl rfl 56 Pw.zS (Blk.new _ _ _) (by kernel_rfl) rfl (Pw.one21 _ _ _ _ _ _ _ _ _ _ _ _ _ _ _ _ _ _ _ _ _ _ _ _ _ _ _ _ _ _ _ _ _) ?_))
  obtain ⟨sb, hsb⟩ : ∃ sb, sb = v1.heap.size := ⟨_, rfl⟩
  rw [← hsb]
  generalize hvv : World.setRow _ _ _ = v2
  have HX2 : Hid (Sx w g fin d b sb #[.int .i64 7, .int .i64 0, .bool false, .string ⟨#[]⟩, .bool false, .int .i64 0, .int .u64 0, .int .i64 0, .bool false, .string ⟨#[]⟩, .slice none 0 0, .int .i64 0, .int .u64 0, .int .i64 0, .bool false, .string ⟨#[]⟩, .slice none 0 0, .slice none 0 0, .slice none 0 0, .slice none 0 0, .slice none 0 0] l.tail v2) := by show Sx _ _ _ _ _ _ _ _ _; rw [← hvv, hsb]; exact (Sx.new HS1.out Pw.zS).row HG.out _
  have HQ2 := Lib.hid HQ1.out
  clear hvv hsb HS1 HQ1
  have HN := Lib.hid (pneed_ok v2 g fin (d + 1) l.tail [40] HX2.out.sd.pb)
  obtain ⟨rA, hrA⟩ : ∃ r, r = Ps.need fin [40] l.tail := ⟨_, rfl⟩
  have HLA : Hid (∀ x l', rA = .ok (x, l') → l'.length < (l.tail).length) := fun x l' h => Ps.need_lt (fin := fin) (s := [40]) (u := x) (hrA ▸ h)
  rw [← hrA] at HN HR0
  clear hrA
  go_upto_region 25 with (first | (go_at_call_of 44 (Value.string ⟨#[40]⟩); refine (HN.out).mono ?_; rintro e v3 ⟨hc6, hp6, hr6⟩; have HCv3 := Lib.hid hc6; have HPv3 := Lib.hid hp6; clear hc6 hp6; rcases rA with z | ⟨y0, t3⟩; (obtain rfl := hr6); rotate_left; (obtain ⟨rfl, hpb⟩ := hr6; have HPN := Lib.hid hpb; clear hpb); rotate_left))
  · obtain rfl : R = .error z := HR0.out
    (obtain ⟨v, f, D, hbk⟩ := (HPv3).out; refine leaves_cons (f := 89) (args := #[P b]) (by simp) (by simp [go_sem]) ?_; refine (pundeep_ok v3 g b v f D _ hbk (HX2.out.sd).ne ((HCv3).out.cell (HX2.out.sd).ne (HX2.out.sd).cb)).mono ?_; rintro e u' w5 ⟨rfl, rfl, rfl⟩; simp only [Leaves, settle, Oops]; exact ⟨Chg.setCell ((HX2.out.sd).fz.chg.trans (HCv3).out) 2 _, ParA.up hbk, rfl⟩)
  have HR1 : Hid (R = Ps.seq (Ps.setsS F fin [59] (d + 1) t3) fun q0 m0 => Ps.seq (Ps.need fin [59] m0) fun _ m1 => if Ps.sees [59] m1 = true then Ps.seq (Ps.need fin [59] m1) fun _ m2 => Ps.seq (Ps.setsS F fin [41] (d + 1) m2) fun q3 m3 => Ps.seq (Ps.need fin [41] m3) fun _ m4 => Ps.seq (Ps.bodyS F (d + 1) m4) fun q5 m5 => .ok ((.mk 7 0 false ⟨#[]⟩ false Ps.xz Ps.xz q0 q3 q5 [] : S), m5) else Ps.seq (F.expr (d + 1) m1) fun q2 m2 => Ps.seq (Ps.need fin [59] m2) fun _ m3 => Ps.seq (Ps.setsS F fin [41] (d + 1) m3) fun q4 m4 => Ps.seq (Ps.need fin [41] m4) fun _ m5 => Ps.seq (Ps.bodyS F (d + 1) m5) fun q6 m6 => .ok ((.mk 7 0 false ⟨#[]⟩ true q2 Ps.xz q0 q4 q6 [] : S), m6)) := HR0.out
  have HX3 := Lib.hid (HX2.out.chg HG.out HCv3.out HPN.out)
  have TH2 : Hid (Thr w.heap.size sb v2 v3) := HCv3.out.thr (Nat.le_of_lt HG.out)
  have HQ3 : Hid ((t3).length < l.length) := Nat.lt_trans (HLA.out _ _ rfl) HQ2.out
  clear HN HLA HR0 HPN HCv3 HPv3
  have HE := Lib.hid (HH.out.sets [59] v3 t3 (Nat.le_of_lt HQ3.out) HX3.out.sd.pb)
  obtain ⟨rA, hrA⟩ : ∃ r, r = Ps.setsS F fin [59] (d + 1) t3 := ⟨_, rfl⟩
  have HLA : Hid (∀ x l', rA = .ok (x, l') → l'.length ≤ (t3).length) := fun x l' h => Ps.setsS_lt HH.out.less (hrA ▸ h)
  rw [← hrA] at HE HR1
  clear hrA
  go_upto_region 26 with (first | (go_at_call 87; refine (HE.out).mono ?_; rintro e v4 ⟨hc4, hp4, hr4⟩; have HCv4 := Lib.hid hc4; have HPv4 := Lib.hid hp4; clear hc4 hp4; rcases rA with z | ⟨bl0, t4⟩; (obtain rfl := hr4); rotate_left; (obtain ⟨vv, rfl, hin, hpb⟩ := hr4; obtain ⟨abl0, cbl0, rfl⟩ := Pw.formL hin; have HIbl0 := Lib.hid hin; have HX4 := Lib.hid (HX3.out.chg HG.out HCv4.out hpb); have eo := HX4.out.sb.cell 17; have fo := HX4.out.sb.frozen 17; clear hin hpb); rotate_left))
  · obtain rfl : R = .error z := HR1.out
    (obtain ⟨v, f, D, hbk⟩ := (HPv4).out; refine leaves_cons (f := 89) (args := #[P b]) (by simp) (by simp [go_sem]) ?_; refine (pundeep_ok v4 g b v f D _ hbk (HX3.out.sd).ne ((HCv4).out.cell (HX3.out.sd).ne (HX3.out.sd).cb)).mono ?_; rintro e u' w5 ⟨rfl, rfl, rfl⟩; simp only [Leaves, settle, Oops]; exact ⟨Chg.setCell ((HX3.out.sd).fz.chg.trans (HCv4).out) 2 _, ParA.up hbk, rfl⟩)
  have HR2 : Hid (R = Ps.seq (Ps.need fin [59] t4) fun _ m0 => if Ps.sees [59] m0 = true then Ps.seq (Ps.need fin [59] m0) fun _ m1 => Ps.seq (Ps.setsS F fin [41] (d + 1) m1) fun q2 m2 => Ps.seq (Ps.need fin [41] m2) fun _ m3 => Ps.seq (Ps.bodyS F (d + 1) m3) fun q4 m4 => .ok ((.mk 7 0 false ⟨#[]⟩ false Ps.xz Ps.xz bl0 q2 q4 [] : S), m4) else Ps.seq (F.expr (d + 1) m0) fun q1 m1 => Ps.seq (Ps.need fin [59] m1) fun _ m2 => Ps.seq (Ps.setsS F fin [41] (d + 1) m2) fun q3 m3 => Ps.seq (Ps.need fin [41] m3) fun _ m4 => Ps.seq (Ps.bodyS F (d + 1) m4) fun q5 m5 => .ok ((.mk 7 0 false ⟨#[]⟩ true q1 Ps.xz bl0 q3 q5 [] : S), m5)) := HR1.out
  generalize hvv : World.setCell v4 _ _ = v5
  have HX5 : Hid (Sx w g fin d b sb #[.int .i64 7, .int .i64 0, .bool false, .string ⟨#[]⟩, .bool false, .int .i64 0, .int .u64 0, .int .i64 0, .bool false, .string ⟨#[]⟩, .slice none 0 0, .int .i64 0, .int .u64 0, .int .i64 0, .bool false, .string ⟨#[]⟩, .slice none 0 0, .slice abl0 bl0.length cbl0, .slice none 0 0, .slice none 0 0, .slice none 0 0] t4 v5) := by show Sx _ _ _ _ _ _ _ _ _; rw [← hvv]; simpa using HX4.out.set HG.out 17 (.slice abl0 bl0.length cbl0)
  have TH3 : Hid (Thr w.heap.size sb v3 v4) := HCv4.out.thr (Nat.le_of_lt HG.out)
  have TH4 : Hid (Thr w.heap.size sb v4 v5) := by show Thr _ _ _ _; rw [← hvv]; exact Thr.set _ _
  have HQ5 : Hid ((t4).length < l.length) := Nat.lt_of_le_of_lt (HLA.out _ _ rfl) HQ3.out
  clear hvv eo fo HE HLA HR1 HCv4 HPv4
  have HN := Lib.hid (pneed_ok v5 g fin (d + 1) t4 [59] HX5.out.sd.pb)
  obtain ⟨rA, hrA⟩ : ∃ r, r = Ps.need fin [59] t4 := ⟨_, rfl⟩
  have HLA : Hid (∀ x l', rA = .ok (x, l') → l'.length < (t4).length) := fun x l' h => Ps.need_lt (fin := fin) (s := [59]) (u := x) (hrA ▸ h)
  rw [← hrA] at HN HR2
  clear hrA
  go_upto_region 27 with (first | (go_at_call_of 44 (Value.string ⟨#[59]⟩); refine (HN.out).mono ?_; rintro e v6 ⟨hc6, hp6, hr6⟩; have HCv6 := Lib.hid hc6; have HPv6 := Lib.hid hp6; clear hc6 hp6; rcases rA with z | ⟨y0, t6⟩; (obtain rfl := hr6); rotate_left; (obtain ⟨rfl, hpb⟩ := hr6; have HPN := Lib.hid hpb; clear hpb); rotate_left))
  · obtain rfl : R = .error z := HR2.out
    (obtain ⟨v, f, D, hbk⟩ := (HPv6).out; refine leaves_cons (f := 89) (args := #[P b]) (by simp) (by simp [go_sem]) ?_; refine (pundeep_ok v6 g b v f D _ hbk (HX5.out.sd).ne ((HCv6).out.cell (HX5.out.sd).ne (HX5.out.sd).cb)).mono ?_; rintro e u' w5 ⟨rfl, rfl, rfl⟩; simp only [Leaves, settle, Oops]; exact ⟨Chg.setCell ((HX5.out.sd).fz.chg.trans (HCv6).out) 2 _, ParA.up hbk, rfl⟩)
  have HR3 : Hid (R = if Ps.sees [59] t6 = true then Ps.seq (Ps.need fin [59] t6) fun _ m0 => Ps.seq (Ps.setsS F fin [41] (d + 1) m0) fun q1 m1 => Ps.seq (Ps.need fin [41] m1) fun _ m2 => Ps.seq (Ps.bodyS F (d + 1) m2) fun q3 m3 => .ok ((.mk 7 0 false ⟨#[]⟩ false Ps.xz Ps.xz bl0 q1 q3 [] : S), m3) else Ps.seq (F.expr (d + 1) t6) fun q0 m0 => Ps.seq (Ps.need fin [59] m0) fun _ m1 => Ps.seq (Ps.setsS F fin [41] (d + 1) m1) fun q2 m2 => Ps.seq (Ps.need fin [41] m2) fun _ m3 => Ps.seq (Ps.bodyS F (d + 1) m3) fun q4 m4 => .ok ((.mk 7 0 false ⟨#[]⟩ true q0 Ps.xz bl0 q2 q4 [] : S), m4)) := HR2.out
  have HX6 := Lib.hid (HX5.out.chg HG.out HCv6.out HPN.out)
  have TH5 : Hid (Thr w.heap.size sb v5 v6) := HCv6.out.thr (Nat.le_of_lt HG.out)
  have HQ6 : Hid ((t6).length < l.length) := Nat.lt_trans (HLA.out _ _ rfl) HQ5.out
  clear HN HLA HR2 HPN HCv6 HPv6
  have HSE := Lib.hid (psees_ok v6 g fin (d + 1) t6 [59] HX6.out.sd.pb)
  have e4 := HX6.out.sb.cell 4
  have f4 := HX6.out.sb.frozen 4
  cases hs9 : Ps.sees [59] t6 with
  | true =>
    rw [hs9] at HSE
    have HR4 : Hid (R = Ps.seq (Ps.need fin [59] t6) fun _ m0 => Ps.seq (Ps.setsS F fin [41] (d + 1) m0) fun q1 m1 => Ps.seq (Ps.need fin [41] m1) fun _ m2 => Ps.seq (Ps.bodyS F (d + 1) m2) fun q3 m3 => .ok ((.mk 7 0 false ⟨#[]⟩ false Ps.xz Ps.xz bl0 q1 q3 [] : S), m3)) := by show R = _; rw [HR3.out, if_pos hs9]
    clear hs9 HR3
    go_upto_region 30 with (first | (go_at_call 43; refine HSE.out.mono ?_; rintro e w' ⟨rfl, rfl⟩))
    generalize hvv : World.setCell v6 _ _ = v7
    have HX7 : Hid (Sx w g fin d b sb #[.int .i64 7, .int .i64 0, .bool false, .string ⟨#[]⟩, .bool false, .int .i64 0, .int .u64 0, .int .i64 0, .bool false, .string ⟨#[]⟩, .slice none 0 0, .int .i64 0, .int .u64 0, .int .i64 0, .bool false, .string ⟨#[]⟩, .slice none 0 0, .slice abl0 bl0.length cbl0, .slice none 0 0, .slice none 0 0, .slice none 0 0] t6 v7) := by show Sx _ _ _ _ _ _ _ _ _; rw [← hvv]; simpa using HX6.out.set HG.out 4 (.bool false)
    have TH6 : Hid (Thr w.heap.size sb v6 v7) := by show Thr _ _ _ _; rw [← hvv]; exact Thr.set _ _
    have HQ7 : Hid ((t6).length < l.length) := HQ6.out
    clear hvv e4 f4 HSE
    have HN := Lib.hid (pneed_ok v7 g fin (d + 1) t6 [59] HX7.out.sd.pb)
    obtain ⟨rA, hrA⟩ : ∃ r, r = Ps.need fin [59] t6 := ⟨_, rfl⟩
    have HLA : Hid (∀ x l', rA = .ok (x, l') → l'.length < (t6).length) := fun x l' h => Ps.need_lt (fin := fin) (s := [59]) (u := x) (hrA ▸ h)
    rw [← hrA] at HN HR4
    clear hrA
    go_upto_region 31 with (first | (go_at_call_of 44 (Value.string ⟨#[59]⟩); refine (HN.out).mono ?_; rintro e v8 ⟨hc6, hp6, hr6⟩; have HCv8 := Lib.hid hc6; have HPv8 := Lib.hid hp6; clear hc6 hp6; rcases rA with z | ⟨y0, t8⟩; (obtain rfl := hr6); rotate_left; (obtain ⟨rfl, hpb⟩ := hr6; have HPN := Lib.hid hpb; clear hpb); rotate_left))
    · obtain rfl : R = .error z := HR4.out
      (obtain ⟨v, f, D, hbk⟩ := (HPv8).out; refine leaves_cons (f := 89) (args := #[P b]) (by simp) (by simp [go_sem]) ?_; refine (pundeep_ok v8 g b v f D _ hbk (HX7.out.sd).ne ((HCv8).out.cell (HX7.out.sd).ne (HX7.out.sd).cb)).mono ?_; rintro e u' w5 ⟨rfl, rfl, rfl⟩; simp only [Leaves, settle, Oops]; exact ⟨Chg.setCell ((HX7.out.sd).fz.chg.trans (HCv8).out) 2 _, ParA.up hbk, rfl⟩)
    have HR5 : Hid (R = Ps.seq (Ps.setsS F fin [41] (d + 1) t8) fun q0 m0 => Ps.seq (Ps.need fin [41] m0) fun _ m1 => Ps.seq (Ps.bodyS F (d + 1) m1) fun q2 m2 => .ok ((.mk 7 0 false ⟨#[]⟩ false Ps.xz Ps.xz bl0 q0 q2 [] : S), m2)) := HR4.out
    have HX8 := Lib.hid (HX7.out.chg HG.out HCv8.out HPN.out)
    have TH7 : Hid (Thr w.heap.size sb v7 v8) := HCv8.out.thr (Nat.le_of_lt HG.out)
    have HQ8 : Hid ((t8).length < l.length) := Nat.lt_trans (HLA.out _ _ rfl) HQ7.out
    clear HN HLA HR4 HPN HCv8 HPv8
    have HE := Lib.hid (HH.out.sets [41] v8 t8 (Nat.le_of_lt HQ8.out) HX8.out.sd.pb)
    obtain ⟨rA, hrA⟩ : ∃ r, r = Ps.setsS F fin [41] (d + 1) t8 := ⟨_, rfl⟩
    have HLA : Hid (∀ x l', rA = .ok (x, l') → l'.length ≤ (t8).length) := fun x l' h => Ps.setsS_lt HH.out.less (hrA ▸ h)
    rw [← hrA] at HE HR5
    clear hrA
    go_upto_region 32 with (first | (go_at_call 87; refine (HE.out).mono ?_; rintro e v9 ⟨hc4, hp4, hr4⟩; have HCv9 := Lib.hid hc4; have HPv9 := Lib.hid hp4; clear hc4 hp4; rcases rA with z | ⟨bl1, t9⟩; (obtain rfl := hr4); rotate_left; (obtain ⟨vv, rfl, hin, hpb⟩ := hr4; obtain ⟨abl1, cbl1, rfl⟩ := Pw.formL hin; have HIbl1 := Lib.hid hin; have HX9 := Lib.hid (HX8.out.chg HG.out HCv9.out hpb); have eo := HX9.out.sb.cell 18; have fo := HX9.out.sb.frozen 18; clear hin hpb); rotate_left))
    · obtain rfl : R = .error z := HR5.out
      (obtain ⟨v, f, D, hbk⟩ := (HPv9).out; refine leaves_cons (f := 89) (args := #[P b]) (by simp) (by simp [go_sem]) ?_; refine (pundeep_ok v9 g b v f D _ hbk (HX8.out.sd).ne ((HCv9).out.cell (HX8.out.sd).ne (HX8.out.sd).cb)).mono ?_; rintro e u' w5 ⟨rfl, rfl, rfl⟩; simp only [Leaves, settle, Oops]; exact ⟨Chg.setCell ((HX8.out.sd).fz.chg.trans (HCv9).out) 2 _, ParA.up hbk, rfl⟩)
    have HR6 : Hid (R = Ps.seq (Ps.need fin [41] t9) fun _ m0 => Ps.seq (Ps.bodyS F (d + 1) m0) fun q1 m1 => .ok ((.mk 7 0 false ⟨#[]⟩ false Ps.xz Ps.xz bl0 bl1 q1 [] : S), m1)) := HR5.out
    generalize hvv : World.setCell v9 _ _ = v10
    have HX10 : Hid (Sx w g fin d b sb #[.int .i64 7, .int .i64 0, .bool false, .string ⟨#[]⟩, .bool false, .int .i64 0, .int .u64 0, .int .i64 0, .bool false, .string ⟨#[]⟩, .slice none 0 0, .int .i64 0, .int .u64 0, .int .i64 0, .bool false, .string ⟨#[]⟩, .slice none 0 0, .slice abl0 bl0.length cbl0, .slice abl1 bl1.length cbl1, .slice none 0 0, .slice none 0 0] t9 v10) := by show Sx _ _ _ _ _ _ _ _ _; rw [← hvv]; simpa using HX9.out.set HG.out 18 (.slice abl1 bl1.length cbl1)
    have TH8 : Hid (Thr w.heap.size sb v8 v9) := HCv9.out.thr (Nat.le_of_lt HG.out)
    have TH9 : Hid (Thr w.heap.size sb v9 v10) := by show Thr _ _ _ _; rw [← hvv]; exact Thr.set _ _
    have HQ10 : Hid ((t9).length < l.length) := Nat.lt_of_le_of_lt (HLA.out _ _ rfl) HQ8.out
    clear hvv eo fo HE HLA HR5 HCv9 HPv9
    have HN := Lib.hid (pneed_ok v10 g fin (d + 1) t9 [41] HX10.out.sd.pb)
    obtain ⟨rA, hrA⟩ : ∃ r, r = Ps.need fin [41] t9 := ⟨_, rfl⟩
    have HLA : Hid (∀ x l', rA = .ok (x, l') → l'.length < (t9).length) := fun x l' h => Ps.need_lt (fin := fin) (s := [41]) (u := x) (hrA ▸ h)
    rw [← hrA] at HN HR6
    clear hrA
    go_upto_region 33 with (first | (go_at_call_of 44 (Value.string ⟨#[41]⟩); refine (HN.out).mono ?_; rintro e v11 ⟨hc6, hp6, hr6⟩; have HCv11 := Lib.hid hc6; have HPv11 := Lib.hid hp6; clear hc6 hp6; rcases rA with z | ⟨y0, t11⟩; (obtain rfl := hr6); rotate_left; (obtain ⟨rfl, hpb⟩ := hr6; have HPN := Lib.hid hpb; clear hpb); rotate_left))
    · obtain rfl : R = .error z := HR6.out
      (obtain ⟨v, f, D, hbk⟩ := (HPv11).out; refine leaves_cons (f := 89) (args := #[P b]) (by simp) (by simp [go_sem]) ?_; refine (pundeep_ok v11 g b v f D _ hbk (HX10.out.sd).ne ((HCv11).out.cell (HX10.out.sd).ne (HX10.out.sd).cb)).mono ?_; rintro e u' w5 ⟨rfl, rfl, rfl⟩; simp only [Leaves, settle, Oops]; exact ⟨Chg.setCell ((HX10.out.sd).fz.chg.trans (HCv11).out) 2 _, ParA.up hbk, rfl⟩)
    have HR7 : Hid (R = Ps.seq (Ps.bodyS F (d + 1) t11) fun q0 m0 => .ok ((.mk 7 0 false ⟨#[]⟩ false Ps.xz Ps.xz bl0 bl1 q0 [] : S), m0)) := HR6.out
    have HX11 := Lib.hid (HX10.out.chg HG.out HCv11.out HPN.out)
    have TH10 : Hid (Thr w.heap.size sb v10 v11) := HCv11.out.thr (Nat.le_of_lt HG.out)
    have HQ11 : Hid ((t11).length < l.length) := Nat.lt_trans (HLA.out _ _ rfl) HQ10.out
    clear HN HLA HR6 HPN HCv11 HPv11
    have HE := Lib.hid (HH.out.one v11 t11 HQ11.out HX11.out.sd.pb)
    obtain ⟨rA, hrA⟩ : ∃ r, r = Ps.bodyS F (d + 1) t11 := ⟨_, rfl⟩
    have HLA : Hid (∀ x l', rA = .ok (x, l') → l'.length ≤ (t11).length) := fun x l' h => Nat.le_of_lt (Ps.bodyS_lt HH.out.less (hrA ▸ h))
    rw [← hrA] at HE HR7
    clear hrA
    go_upto_region 34 with (first | (go_at_call 86; refine (HE.out).mono ?_; rintro e v12 ⟨hc4, hp4, hr4⟩; have HCv12 := Lib.hid hc4; have HPv12 := Lib.hid hp4; clear hc4 hp4; rcases rA with z | ⟨bl2, t12⟩; (obtain rfl := hr4); rotate_left; (obtain ⟨vv, rfl, hin, hpb⟩ := hr4; obtain ⟨abl2, cbl2, rfl⟩ := Pw.formL hin; have HIbl2 := Lib.hid hin; have HX12 := Lib.hid (HX11.out.chg HG.out HCv12.out hpb); have eo := HX12.out.sb.cell 19; have fo := HX12.out.sb.frozen 19; clear hin hpb); rotate_left))
    · obtain rfl : R = .error z := HR7.out
      (obtain ⟨v, f, D, hbk⟩ := (HPv12).out; refine leaves_cons (f := 89) (args := #[P b]) (by simp) (by simp [go_sem]) ?_; refine (pundeep_ok v12 g b v f D _ hbk (HX11.out.sd).ne ((HCv12).out.cell (HX11.out.sd).ne (HX11.out.sd).cb)).mono ?_; rintro e u' w5 ⟨rfl, rfl, rfl⟩; simp only [Leaves, settle, Oops]; exact ⟨Chg.setCell ((HX11.out.sd).fz.chg.trans (HCv12).out) 2 _, ParA.up hbk, rfl⟩)
    have HR8 : Hid (R = .ok ((.mk 7 0 false ⟨#[]⟩ false Ps.xz Ps.xz bl0 bl1 bl2 [] : S), t12)) := HR7.out
    generalize hvv : World.setCell v12 _ _ = v13
    have HX13 : Hid (Sx w g fin d b sb #[.int .i64 7, .int .i64 0, .bool false, .string ⟨#[]⟩, .bool false, .int .i64 0, .int .u64 0, .int .i64 0, .bool false, .string ⟨#[]⟩, .slice none 0 0, .int .i64 0, .int .u64 0, .int .i64 0, .bool false, .string ⟨#[]⟩, .slice none 0 0, .slice abl0 bl0.length cbl0, .slice abl1 bl1.length cbl1, .slice abl2 bl2.length cbl2, .slice none 0 0] t12 v13) := by show Sx _ _ _ _ _ _ _ _ _; rw [← hvv]; simpa using HX12.out.set HG.out 19 (.slice abl2 bl2.length cbl2)
    have TH11 : Hid (Thr w.heap.size sb v11 v12) := HCv12.out.thr (Nat.le_of_lt HG.out)
    have TH12 : Hid (Thr w.heap.size sb v12 v13) := by show Thr _ _ _ _; rw [← hvv]; exact Thr.set _ _
    have HQ13 : Hid ((t12).length < l.length) := Nat.lt_of_le_of_lt (HLA.out _ _ rfl) HQ11.out
    clear hvv eo fo HE HLA HR7 HCv12 HPv12
    go_wp2_with (first | (refine wpList_load_row rfl 56 _ rfl sb rfl 56 #[.int .i64 7, .int .i64 0, .bool false, .string ⟨#[]⟩, .bool false, .int .i64 0, .int .u64 0, .int .i64 0, .bool false, .string ⟨#[]⟩, .slice none 0 0, .int .i64 0, .int .u64 0, .int .i64 0, .bool false, .string ⟨#[]⟩, .slice none 0 0, .slice abl0 bl0.length cbl0, .slice abl1 bl1.length cbl1, .slice abl2 bl2.length cbl2, .slice none 0 0] (0, 0) _ (HX13.out.sb) Try.underlying56 rfl (by kernel_rfl) ?_) | (refine wpList_store_row rfl 56 _ _ rfl w.heap.size #[.int .i64 7, .int .i64 0, .bool false, .string ⟨#[]⟩, .bool false, .int .i64 0, .int .u64 0, .int .i64 0, .bool false, .string ⟨#[]⟩, .slice none 0 0, .int .i64 0, .int .u64 0, .int .i64 0, .bool false, .string ⟨#[]⟩, .slice none 0 0, .slice abl0 bl0.length cbl0, .slice abl1 bl1.length cbl1, .slice abl2 bl2.length cbl2, .slice none 0 0] rfl rfl 56 Pw.zS (HX13.out.sd.fz.z) (by kernel_rfl) rfl (Pw.one21 _ _ _ _ _ _ _ _ _ _ _ _ _ _ _ _ _ _ _ _ _ _ _ _ _ _ _ _ _ _ _ _ _) ?_))
    obtain rfl : R = .ok ((.mk 7 0 false ⟨#[]⟩ false Ps.xz Ps.xz bl0 bl1 bl2 [] : S), t12) := HR8.out
    (obtain ⟨row, hrow⟩ : ∃ row : Array Value, row = #[.int .i64 7, .int .i64 0, .bool false, .string ⟨#[]⟩, .bool false, .int .i64 0, .int .u64 0, .int .i64 0, .bool false, .string ⟨#[]⟩, .slice none 0 0, .int .i64 0, .int .u64 0, .int .i64 0, .bool false, .string ⟨#[]⟩, .slice none 0 0, .slice abl0 bl0.length cbl0, .slice abl1 bl1.length cbl1, .slice abl2 bl2.length cbl2, .slice none 0 0] := ⟨_, rfl⟩; rw [← hrow])
    have hx : LS v13 (fun k => w.heap.size < k) (.mk 7 0 false ⟨#[]⟩ false Ps.xz Ps.xz bl0 bl1 bl2 [] : S) (S.cells 7 0 false ⟨#[]⟩ false [.int .i64 0, .int .u64 0, .int .i64 0, .bool false, .string ⟨#[]⟩, .slice none 0 0] [.int .i64 0, .int .u64 0, .int .i64 0, .bool false, .string ⟨#[]⟩, .slice none 0 0] (.slice abl0 bl0.length cbl0) (.slice abl1 bl1.length cbl1) (.slice abl2 bl2.length cbl2) (.slice none 0 0)) := .mk _ _ _ _ _ _ _ _ _ _ _ _ _ _ _ _ _ (xz_in _ _) (xz_in _ _) (HIbl0.out.thr HX3.out.sb.lt (Nat.lt_trans HX3.out.lt HX3.out.sb.lt) (TH4.out.trans (TH5.out.trans (TH6.out.trans (TH7.out.trans (TH8.out.trans (TH9.out.trans (TH10.out.trans (TH11.out.trans (TH12.out)))))))))) (HIbl1.out.thr HX8.out.sb.lt (Nat.lt_trans HX8.out.lt HX8.out.sb.lt) (TH9.out.trans (TH10.out.trans (TH11.out.trans (TH12.out))))) (HIbl2.out.thr HX11.out.sb.lt (Nat.lt_trans HX11.out.lt HX11.out.sb.lt) (TH12.out)) (sz_in _ _)
    (obtain ⟨v, hbk, hcb, hz, hpost⟩ := Fz.upL (b := b) layS (HX13.out.sd).fz HG.out (Nat.le_of_lt HDD.out) (HX13.out.sd).pb hx row hrow (HX13.out.sd).ne (HX13.out.sd).lt (HX13.out.sd).cb; refine leaves_cons (f := 89) (args := #[P b]) (by simp) (by simp [go_sem]) ?_; refine (pundeep_ok _ g b v _ _ _ hbk (HX13.out.sd).ne hcb).mono ?_; rintro e u' w6 ⟨rfl, rfl, rfl⟩; exact ⟨_, Pw.res_cell rfl _ _ w.heap.size 56 row (0, 0) _ rfl hz Try.underlying56 rfl (by subst hrow; kernel_rfl), hpost⟩)
  | false =>
    rw [hs9] at HSE
    have HR4 : Hid (R = Ps.seq (F.expr (d + 1) t6) fun q0 m0 => Ps.seq (Ps.need fin [59] m0) fun _ m1 => Ps.seq (Ps.setsS F fin [41] (d + 1) m1) fun q2 m2 => Ps.seq (Ps.need fin [41] m2) fun _ m3 => Ps.seq (Ps.bodyS F (d + 1) m3) fun q4 m4 => .ok ((.mk 7 0 false ⟨#[]⟩ true q0 Ps.xz bl0 q2 q4 [] : S), m4)) := by show R = _; rw [HR3.out, if_neg (by rw [hs9]; decide)]
    clear hs9 HR3
    go_upto_region 29 with (first | (go_at_call 43; refine HSE.out.mono ?_; rintro e w' ⟨rfl, rfl⟩))
    generalize hvv : World.setCell v6 _ _ = v7
    have HX7 : Hid (Sx w g fin d b sb #[.int .i64 7, .int .i64 0, .bool false, .string ⟨#[]⟩, .bool true, .int .i64 0, .int .u64 0, .int .i64 0, .bool false, .string ⟨#[]⟩, .slice none 0 0, .int .i64 0, .int .u64 0, .int .i64 0, .bool false, .string ⟨#[]⟩, .slice none 0 0, .slice abl0 bl0.length cbl0, .slice none 0 0, .slice none 0 0, .slice none 0 0] t6 v7) := by show Sx _ _ _ _ _ _ _ _ _; rw [← hvv]; simpa using HX6.out.set HG.out 4 (.bool true)
    have TH6 : Hid (Thr w.heap.size sb v6 v7) := by show Thr _ _ _ _; rw [← hvv]; exact Thr.set _ _
    have HQ7 : Hid ((t6).length < l.length) := HQ6.out
    clear hvv e4 f4 HSE
    have HE := Lib.hid (HH.out.ex v7 t6 (Nat.le_of_lt HQ7.out) HX7.out.sd.pb)
    obtain ⟨rA, hrA⟩ : ∃ r, r = F.expr (d + 1) t6 := ⟨_, rfl⟩
    have HLA : Hid (∀ x l', rA = .ok (x, l') → l'.length < (t6).length) := fun x l' h => HH.out.less.expr (hrA ▸ h)
    rw [← hrA] at HE HR4
    clear hrA
    go_upto_region 30 with (first | (go_at_call 46; refine (HE.out).mono ?_; rintro e v8 ⟨hc4, hp4, hr4⟩; have HCv8 := Lib.hid hc4; have HPv8 := Lib.hid hp4; clear hc4 hp4; rcases rA with z | ⟨y, t8⟩; (obtain rfl := hr4); rotate_left; (obtain ⟨cs, rfl, hin, hpb⟩ := hr4; obtain ⟨ya, yc, rfl⟩ := Pw.form hin; have HIY := Lib.hid hin; have HX8 := Lib.hid (HX7.out.chg HG.out HCv8.out hpb); clear hin hpb); rotate_left) | (refine wpList_store_sub rfl 54 _ _ rfl sb 5 [.int .i64 y.kind, .int .u64 y.num, .int .i64 y.bits, .bool y.sg, .string y.name, .slice ya y.kids.length yc] rfl rfl 56 _ #[.int .i64 7, .int .i64 0, .bool false, .string ⟨#[]⟩, .bool true, .int .i64 y.kind, .int .u64 y.num, .int .i64 y.bits, .bool y.sg, .string y.name, .slice ya y.kids.length yc, .int .i64 0, .int .u64 0, .int .i64 0, .bool false, .string ⟨#[]⟩, .slice none 0 0, .slice abl0 bl0.length cbl0, .slice none 0 0, .slice none 0 0, .slice none 0 0] HX8.out.sb (by kernel_rfl) (show 5 + 6 ≤ 21 by decide) HIY.out.ones rfl ?_))
    · obtain rfl : R = .error z := HR4.out
      (obtain ⟨v, f, D, hbk⟩ := (HPv8).out; refine leaves_cons (f := 89) (args := #[P b]) (by simp) (by simp [go_sem]) ?_; refine (pundeep_ok v8 g b v f D _ hbk (HX7.out.sd).ne ((HCv8).out.cell (HX7.out.sd).ne (HX7.out.sd).cb)).mono ?_; rintro e u' w5 ⟨rfl, rfl, rfl⟩; simp only [Leaves, settle, Oops]; exact ⟨Chg.setCell ((HX7.out.sd).fz.chg.trans (HCv8).out) 2 _, ParA.up hbk, rfl⟩)
    have HR5 : Hid (R = Ps.seq (Ps.need fin [59] t8) fun _ m0 => Ps.seq (Ps.setsS F fin [41] (d + 1) m0) fun q1 m1 => Ps.seq (Ps.need fin [41] m1) fun _ m2 => Ps.seq (Ps.bodyS F (d + 1) m2) fun q3 m3 => .ok ((.mk 7 0 false ⟨#[]⟩ true y Ps.xz bl0 q1 q3 [] : S), m3)) := HR4.out
    generalize hvv : World.setRow v8 _ _ = v9
    have HX9 : Hid (Sx w g fin d b sb #[.int .i64 7, .int .i64 0, .bool false, .string ⟨#[]⟩, .bool true, .int .i64 y.kind, .int .u64 y.num, .int .i64 y.bits, .bool y.sg, .string y.name, .slice ya y.kids.length yc, .int .i64 0, .int .u64 0, .int .i64 0, .bool false, .string ⟨#[]⟩, .slice none 0 0, .slice abl0 bl0.length cbl0, .slice none 0 0, .slice none 0 0, .slice none 0 0] t8 v9) := by show Sx _ _ _ _ _ _ _ _ _; rw [← hvv]; exact HX8.out.row HG.out _
    have TH7 : Hid (Thr w.heap.size sb v7 v8) := HCv8.out.thr (Nat.le_of_lt HG.out)
    have TH8 : Hid (Thr w.heap.size sb v8 v9) := by show Thr _ _ _ _; rw [← hvv]; exact Thr.row _
    have HQ9 : Hid ((t8).length < l.length) := Nat.lt_trans (HLA.out _ _ rfl) HQ7.out
    clear hvv HE HLA HR4 HCv8 HPv8
    have HN := Lib.hid (pneed_ok v9 g fin (d + 1) t8 [59] HX9.out.sd.pb)
    obtain ⟨rA, hrA⟩ : ∃ r, r = Ps.need fin [59] t8 := ⟨_, rfl⟩
    have HLA : Hid (∀ x l', rA = .ok (x, l') → l'.length < (t8).length) := fun x l' h => Ps.need_lt (fin := fin) (s := [59]) (u := x) (hrA ▸ h)
    rw [← hrA] at HN HR5
    clear hrA
    go_upto_region 31 with (first | (go_at_call_of 44 (Value.string ⟨#[59]⟩); refine (HN.out).mono ?_; rintro e v10 ⟨hc6, hp6, hr6⟩; have HCv10 := Lib.hid hc6; have HPv10 := Lib.hid hp6; clear hc6 hp6; rcases rA with z | ⟨y0, t10⟩; (obtain rfl := hr6); rotate_left; (obtain ⟨rfl, hpb⟩ := hr6; have HPN := Lib.hid hpb; clear hpb); rotate_left))
    · obtain rfl : R = .error z := HR5.out
      (obtain ⟨v, f, D, hbk⟩ := (HPv10).out; refine leaves_cons (f := 89) (args := #[P b]) (by simp) (by simp [go_sem]) ?_; refine (pundeep_ok v10 g b v f D _ hbk (HX9.out.sd).ne ((HCv10).out.cell (HX9.out.sd).ne (HX9.out.sd).cb)).mono ?_; rintro e u' w5 ⟨rfl, rfl, rfl⟩; simp only [Leaves, settle, Oops]; exact ⟨Chg.setCell ((HX9.out.sd).fz.chg.trans (HCv10).out) 2 _, ParA.up hbk, rfl⟩)
    have HR6 : Hid (R = Ps.seq (Ps.setsS F fin [41] (d + 1) t10) fun q0 m0 => Ps.seq (Ps.need fin [41] m0) fun _ m1 => Ps.seq (Ps.bodyS F (d + 1) m1) fun q2 m2 => .ok ((.mk 7 0 false ⟨#[]⟩ true y Ps.xz bl0 q0 q2 [] : S), m2)) := HR5.out
    have HX10 := Lib.hid (HX9.out.chg HG.out HCv10.out HPN.out)
    have TH9 : Hid (Thr w.heap.size sb v9 v10) := HCv10.out.thr (Nat.le_of_lt HG.out)
    have HQ10 : Hid ((t10).length < l.length) := Nat.lt_trans (HLA.out _ _ rfl) HQ9.out
    clear HN HLA HR5 HPN HCv10 HPv10
    have HE := Lib.hid (HH.out.sets [41] v10 t10 (Nat.le_of_lt HQ10.out) HX10.out.sd.pb)
    obtain ⟨rA, hrA⟩ : ∃ r, r = Ps.setsS F fin [41] (d + 1) t10 := ⟨_, rfl⟩
    have HLA : Hid (∀ x l', rA = .ok (x, l') → l'.length ≤ (t10).length) := fun x l' h => Ps.setsS_lt HH.out.less (hrA ▸ h)
    rw [← hrA] at HE HR6
    clear hrA
    go_upto_region 32 with (first | (go_at_call 87; refine (HE.out).mono ?_; rintro e v11 ⟨hc4, hp4, hr4⟩; have HCv11 := Lib.hid hc4; have HPv11 := Lib.hid hp4; clear hc4 hp4; rcases rA with z | ⟨bl1, t11⟩; (obtain rfl := hr4); rotate_left; (obtain ⟨vv, rfl, hin, hpb⟩ := hr4; obtain ⟨abl1, cbl1, rfl⟩ := Pw.formL hin; have HIbl1 := Lib.hid hin; have HX11 := Lib.hid (HX10.out.chg HG.out HCv11.out hpb); have eo := HX11.out.sb.cell 18; have fo := HX11.out.sb.frozen 18; clear hin hpb); rotate_left))
    · obtain rfl : R = .error z := HR6.out
      (obtain ⟨v, f, D, hbk⟩ := (HPv11).out; refine leaves_cons (f := 89) (args := #[P b]) (by simp) (by simp [go_sem]) ?_; refine (pundeep_ok v11 g b v f D _ hbk (HX10.out.sd).ne ((HCv11).out.cell (HX10.out.sd).ne (HX10.out.sd).cb)).mono ?_; rintro e u' w5 ⟨rfl, rfl, rfl⟩; simp only [Leaves, settle, Oops]; exact ⟨Chg.setCell ((HX10.out.sd).fz.chg.trans (HCv11).out) 2 _, ParA.up hbk, rfl⟩)
    have HR7 : Hid (R = Ps.seq (Ps.need fin [41] t11) fun _ m0 => Ps.seq (Ps.bodyS F (d + 1) m0) fun q1 m1 => .ok ((.mk 7 0 false ⟨#[]⟩ true y Ps.xz bl0 bl1 q1 [] : S), m1)) := HR6.out
    generalize hvv : World.setCell v11 _ _ = v12
    have HX12 : Hid (Sx w g fin d b sb #[.int .i64 7, .int .i64 0, .bool false, .string ⟨#[]⟩, .bool true, .int .i64 y.kind, .int .u64 y.num, .int .i64 y.bits, .bool y.sg, .string y.name, .slice ya y.kids.length yc, .int .i64 0, .int .u64 0, .int .i64 0, .bool false, .string ⟨#[]⟩, .slice none 0 0, .slice abl0 bl0.length cbl0, .slice abl1 bl1.length cbl1, .slice none 0 0, .slice none 0 0] t11 v12) := by show Sx _ _ _ _ _ _ _ _ _; rw [← hvv]; simpa using HX11.out.set HG.out 18 (.slice abl1 bl1.length cbl1)
    have TH10 : Hid (Thr w.heap.size sb v10 v11) := HCv11.out.thr (Nat.le_of_lt HG.out)
    have TH11 : Hid (Thr w.heap.size sb v11 v12) := by show Thr _ _ _ _; rw [← hvv]; exact Thr.set _ _
    have HQ12 : Hid ((t11).length < l.length) := Nat.lt_of_le_of_lt (HLA.out _ _ rfl) HQ10.out
    clear hvv eo fo HE HLA HR6 HCv11 HPv11
    have HN := Lib.hid (pneed_ok v12 g fin (d + 1) t11 [41] HX12.out.sd.pb)
    obtain ⟨rA, hrA⟩ : ∃ r, r = Ps.need fin [41] t11 := ⟨_, rfl⟩
    have HLA : Hid (∀ x l', rA = .ok (x, l') → l'.length < (t11).length) := fun x l' h => Ps.need_lt (fin := fin) (s := [41]) (u := x) (hrA ▸ h)
    rw [← hrA] at HN HR7
    clear hrA
    go_upto_region 33 with (first | (go_at_call_of 44 (Value.string ⟨#[41]⟩); refine (HN.out).mono ?_; rintro e v13 ⟨hc6, hp6, hr6⟩; have HCv13 := Lib.hid hc6; have HPv13 := Lib.hid hp6; clear hc6 hp6; rcases rA with z | ⟨y0, t13⟩; (obtain rfl := hr6); rotate_left; (obtain ⟨rfl, hpb⟩ := hr6; have HPN := Lib.hid hpb; clear hpb); rotate_left))
    · obtain rfl : R = .error z := HR7.out
      (obtain ⟨v, f, D, hbk⟩ := (HPv13).out; refine leaves_cons (f := 89) (args := #[P b]) (by simp) (by simp [go_sem]) ?_; refine (pundeep_ok v13 g b v f D _ hbk (HX12.out.sd).ne ((HCv13).out.cell (HX12.out.sd).ne (HX12.out.sd).cb)).mono ?_; rintro e u' w5 ⟨rfl, rfl, rfl⟩; simp only [Leaves, settle, Oops]; exact ⟨Chg.setCell ((HX12.out.sd).fz.chg.trans (HCv13).out) 2 _, ParA.up hbk, rfl⟩)
    have HR8 : Hid (R = Ps.seq (Ps.bodyS F (d + 1) t13) fun q0 m0 => .ok ((.mk 7 0 false ⟨#[]⟩ true y Ps.xz bl0 bl1 q0 [] : S), m0)) := HR7.out
    have HX13 := Lib.hid (HX12.out.chg HG.out HCv13.out HPN.out)
    have TH12 : Hid (Thr w.heap.size sb v12 v13) := HCv13.out.thr (Nat.le_of_lt HG.out)
    have HQ13 : Hid ((t13).length < l.length) := Nat.lt_trans (HLA.out _ _ rfl) HQ12.out
    clear HN HLA HR7 HPN HCv13 HPv13
    have HE := Lib.hid (HH.out.one v13 t13 HQ13.out HX13.out.sd.pb)
    obtain ⟨rA, hrA⟩ : ∃ r, r = Ps.bodyS F (d + 1) t13 := ⟨_, rfl⟩
    have HLA : Hid (∀ x l', rA = .ok (x, l') → l'.length ≤ (t13).length) := fun x l' h => Nat.le_of_lt (Ps.bodyS_lt HH.out.less (hrA ▸ h))
    rw [← hrA] at HE HR8
    clear hrA
    go_upto_region 34 with (first | (go_at_call 86; refine (HE.out).mono ?_; rintro e v14 ⟨hc4, hp4, hr4⟩; have HCv14 := Lib.hid hc4; have HPv14 := Lib.hid hp4; clear hc4 hp4; rcases rA with z | ⟨bl2, t14⟩; (obtain rfl := hr4); rotate_left; (obtain ⟨vv, rfl, hin, hpb⟩ := hr4; obtain ⟨abl2, cbl2, rfl⟩ := Pw.formL hin; have HIbl2 := Lib.hid hin; have HX14 := Lib.hid (HX13.out.chg HG.out HCv14.out hpb); have eo := HX14.out.sb.cell 19; have fo := HX14.out.sb.frozen 19; clear hin hpb); rotate_left))
    · obtain rfl : R = .error z := HR8.out
      (obtain ⟨v, f, D, hbk⟩ := (HPv14).out; refine leaves_cons (f := 89) (args := #[P b]) (by simp) (by simp [go_sem]) ?_; refine (pundeep_ok v14 g b v f D _ hbk (HX13.out.sd).ne ((HCv14).out.cell (HX13.out.sd).ne (HX13.out.sd).cb)).mono ?_; rintro e u' w5 ⟨rfl, rfl, rfl⟩; simp only [Leaves, settle, Oops]; exact ⟨Chg.setCell ((HX13.out.sd).fz.chg.trans (HCv14).out) 2 _, ParA.up hbk, rfl⟩)
    have HR9 : Hid (R = .ok ((.mk 7 0 false ⟨#[]⟩ true y Ps.xz bl0 bl1 bl2 [] : S), t14)) := HR8.out
    generalize hvv : World.setCell v14 _ _ = v15
    have HX15 : Hid (Sx w g fin d b sb #[.int .i64 7, .int .i64 0, .bool false, .string ⟨#[]⟩, .bool true, .int .i64 y.kind, .int .u64 y.num, .int .i64 y.bits, .bool y.sg, .string y.name, .slice ya y.kids.length yc, .int .i64 0, .int .u64 0, .int .i64 0, .bool false, .string ⟨#[]⟩, .slice none 0 0, .slice abl0 bl0.length cbl0, .slice abl1 bl1.length cbl1, .slice abl2 bl2.length cbl2, .slice none 0 0] t14 v15) := by show Sx _ _ _ _ _ _ _ _ _; rw [← hvv]; simpa using HX14.out.set HG.out 19 (.slice abl2 bl2.length cbl2)
    have TH13 : Hid (Thr w.heap.size sb v13 v14) := HCv14.out.thr (Nat.le_of_lt HG.out)
    have TH14 : Hid (Thr w.heap.size sb v14 v15) := by show Thr _ _ _ _; rw [← hvv]; exact Thr.set _ _
    have HQ15 : Hid ((t14).length < l.length) := Nat.lt_of_le_of_lt (HLA.out _ _ rfl) HQ13.out
    clear hvv eo fo HE HLA HR8 HCv14 HPv14
    go_wp2_with (first | (refine wpList_load_row rfl 56 _ rfl sb rfl 56 #[.int .i64 7, .int .i64 0, .bool false, .string ⟨#[]⟩, .bool true, .int .i64 y.kind, .int .u64 y.num, .int .i64 y.bits, .bool y.sg, .string y.name, .slice ya y.kids.length yc, .int .i64 0, .int .u64 0, .int .i64 0, .bool false, .string ⟨#[]⟩, .slice none 0 0, .slice abl0 bl0.length cbl0, .slice abl1 bl1.length cbl1, .slice abl2 bl2.length cbl2, .slice none 0 0] (0, 0) _ (HX15.out.sb) Try.underlying56 rfl (by kernel_rfl) ?_) | (refine wpList_store_row rfl 56 _ _ rfl w.heap.size #[.int .i64 7, .int .i64 0, .bool false, .string ⟨#[]⟩, .bool true, .int .i64 y.kind, .int .u64 y.num, .int .i64 y.bits, .bool y.sg, .string y.name, .slice ya y.kids.length yc, .int .i64 0, .int .u64 0, .int .i64 0, .bool false, .string ⟨#[]⟩, .slice none 0 0, .slice abl0 bl0.length cbl0, .slice abl1 bl1.length cbl1, .slice abl2 bl2.length cbl2, .slice none 0 0] rfl rfl 56 Pw.zS (HX15.out.sd.fz.z) (by kernel_rfl) rfl (Pw.one21 _ _ _ _ _ _ _ _ _ _ _ _ _ _ _ _ _ _ _ _ _ _ _ _ _ _ _ _ _ _ _ _ _) ?_))
    obtain rfl : R = .ok ((.mk 7 0 false ⟨#[]⟩ true y Ps.xz bl0 bl1 bl2 [] : S), t14) := HR9.out
    (obtain ⟨row, hrow⟩ : ∃ row : Array Value, row = #[.int .i64 7, .int .i64 0, .bool false, .string ⟨#[]⟩, .bool true, .int .i64 y.kind, .int .u64 y.num, .int .i64 y.bits, .bool y.sg, .string y.name, .slice ya y.kids.length yc, .int .i64 0, .int .u64 0, .int .i64 0, .bool false, .string ⟨#[]⟩, .slice none 0 0, .slice abl0 bl0.length cbl0, .slice abl1 bl1.length cbl1, .slice abl2 bl2.length cbl2, .slice none 0 0] := ⟨_, rfl⟩; rw [← hrow])
    have hx : LS v15 (fun k => w.heap.size < k) (.mk 7 0 false ⟨#[]⟩ true y Ps.xz bl0 bl1 bl2 [] : S) (S.cells 7 0 false ⟨#[]⟩ true (X.cells y.kind y.num y.bits y.sg y.name (.slice ya y.kids.length yc)) [.int .i64 0, .int .u64 0, .int .i64 0, .bool false, .string ⟨#[]⟩, .slice none 0 0] (.slice abl0 bl0.length cbl0) (.slice abl1 bl1.length cbl1) (.slice abl2 bl2.length cbl2) (.slice none 0 0)) := .mk _ _ _ _ _ _ _ _ _ _ _ _ _ _ _ _ _ (HIY.out.thr HX7.out.sb.lt (Nat.lt_trans HX7.out.lt HX7.out.sb.lt) (TH8.out.trans (TH9.out.trans (TH10.out.trans (TH11.out.trans (TH12.out.trans (TH13.out.trans (TH14.out)))))))) (xz_in _ _) (HIbl0.out.thr HX3.out.sb.lt (Nat.lt_trans HX3.out.lt HX3.out.sb.lt) (TH4.out.trans (TH5.out.trans (TH6.out.trans (TH7.out.trans (TH8.out.trans (TH9.out.trans (TH10.out.trans (TH11.out.trans (TH12.out.trans (TH13.out.trans (TH14.out)))))))))))) (HIbl1.out.thr HX10.out.sb.lt (Nat.lt_trans HX10.out.lt HX10.out.sb.lt) (TH11.out.trans (TH12.out.trans (TH13.out.trans (TH14.out))))) (HIbl2.out.thr HX13.out.sb.lt (Nat.lt_trans HX13.out.lt HX13.out.sb.lt) (TH14.out)) (sz_in _ _)
    (obtain ⟨v, hbk, hcb, hz, hpost⟩ := Fz.upL (b := b) layS (HX15.out.sd).fz HG.out (Nat.le_of_lt HDD.out) (HX15.out.sd).pb hx row hrow (HX15.out.sd).ne (HX15.out.sd).lt (HX15.out.sd).cb; refine leaves_cons (f := 89) (args := #[P b]) (by simp) (by simp [go_sem]) ?_; refine (pundeep_ok _ g b v _ _ _ hbk (HX15.out.sd).ne hcb).mono ?_; rintro e u' w6 ⟨rfl, rfl, rfl⟩; exact ⟨_, Pw.res_cell rfl _ _ w.heap.size 56 row (0, 0) _ rfl hz Try.underlying56 rfl (by subst hrow; kernel_rfl), hpost⟩)
end Go.Proofs.Ytfkndjifhmkojaa
