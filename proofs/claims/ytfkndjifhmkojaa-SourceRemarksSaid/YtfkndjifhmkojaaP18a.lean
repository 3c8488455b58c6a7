/- Walk of parser.stat: if, while. No condition. -/
import Derived.Test.YtfkndjifhmkojaaP18
import Derived.Defers
import Derived.LoopTactic
import Derived.Deep.Cut
namespace Go.Proofs.Ytfkndjifhmkojaa
open Go.RowKit
set_option linter.unusedVariables false
set_option linter.unusedSimpArgs false
set_option maxRecDepth 100000
set_option maxHeartbeats 8000000 in
theorem pstat_if (w : World) (g fin d : Nat) (l : List Tk.Tok) (F : Ps.F) (h : Pb w g fin d l) (hd : d < 400) (hh : StH g fin (d + 1) F l.length) (h0 : Ps.sees [59] l = false) (h1 : Ps.sees [123] l = false) (hs : Ps.sees [105, 102] l = true) :
    Calls Try.prog 67 #[P g] w (PsR g fin d w (Ps.seq (Ps.need fin [40] l.tail) fun _ m0 => Ps.seq (F.expr (d + 1) m0) fun q1 m1 => Ps.seq (Ps.need fin [41] m1) fun _ m2 => Ps.seq (Ps.bodyS F (d + 1) m2) fun q3 m3 => if Ps.sees [101, 108, 115, 101] m3 = true then Ps.seq (Ps.bodyS F (d + 1) m3.tail) fun q4 m4 => .ok ((.mk 5 0 false ⟨#[]⟩ false q1 Ps.xz [] [] q3 q4 : S), m4) else .ok ((.mk 5 0 false ⟨#[]⟩ false q1 Ps.xz [] [] q3 [] : S), m3))) := by
  have hgl : g < w.heap.size := by obtain ⟨v, hb, _⟩ := h; exact hb.lt
  have HG := Lib.hid hgl
  have HH := Lib.hid hh
  have HDD := Lib.hid hd
  obtain ⟨w0, hw0⟩ : ∃ w0, w0 = w.alloc (.cells Pw.zS 56) := ⟨_, rfl⟩
  have HF0 : Hid (Fz w g 56 Pw.zS w0) := by show Fz _ _ _ _ _; rw [hw0]; exact Fz.new ..
  have hp0 : Pb w0 g fin d l := by rw [hw0]; exact h.keep (Ext.alloc (Below.refl _ _) _)
  have HD := Lib.hid (pdeeper_ok w0 g fin d l hp0 hd)
  obtain ⟨R, hR⟩ : ∃ R, R = (Ps.seq (Ps.need fin [40] l.tail) fun _ m0 => Ps.seq (F.expr (d + 1) m0) fun q1 m1 => Ps.seq (Ps.need fin [41] m1) fun _ m2 => Ps.seq (Ps.bodyS F (d + 1) m2) fun q3 m3 => if Ps.sees [101, 108, 115, 101] m3 = true then Ps.seq (Ps.bodyS F (d + 1) m3.tail) fun q4 m4 => .ok ((.mk 5 0 false ⟨#[]⟩ false q1 Ps.xz [] [] q3 q4 : S), m4) else .ok ((.mk 5 0 false ⟨#[]⟩ false q1 Ps.xz [] [] q3 [] : S), m3) : Ps.Res S) := ⟨_, rfl⟩
  rw [← hR]
  have HR0 := Lib.hid hR
  have HQ1 : Hid (l.tail.length < l.length) := Ps.sees_lt hs
  have H0 := Lib.hid h0
  have H1 := Lib.hid h1
  have HY := Lib.hid hs
  clear h hd hh hgl hp0 hR h0 h1 hs
  go_enter_defers Try.func67, Try.ntmps67
  go_upto_region 1 with (fail)
  rw [← hw0]
  clear hw0
  go_upto_region 2 with (first | (go_at_call 68; refine HD.out.mono ?_; rintro e w2 ⟨b, rfl, hne, hle, hcb, hc2, hp2⟩; have HD2 := Lib.hid (And.intro hne (And.intro hle (And.intro hcb (And.intro hc2 hp2)))); clear hne hle hcb hc2 hp2))
  have HS0 : Hid (Sd w g fin d b l w2) := ⟨HF0.out.step HG.out HD2.out.2.2.2.1, HD2.out.2.2.2.2, HD2.out.1, Nat.lt_of_lt_of_le HF0.out.lt HD2.out.2.1, HD2.out.2.2.1⟩
  clear HD HD2 HF0
  have I0 := Lib.hid (pis_no w2 g fin (d + 1) l [59] HS0.out.pb H0.out)
  have I1 := Lib.hid (pis_no w2 g fin (d + 1) l [123] HS0.out.pb H1.out)
  have IY := Lib.hid (pis_yes w2 g fin (d + 1) l [105, 102] HS0.out.pb HY.out)
  clear H0 H1 HY
  go_upto_region 7 with (first | (go_at_call_of 21 (Value.string ⟨#[59]⟩); refine (I0.out).mono ?_; rintro e w' ⟨rfl, rfl⟩) | (go_at_call_of 21 (Value.string ⟨#[123]⟩); refine (I1.out).mono ?_; rintro e w' ⟨rfl, rfl⟩) | (go_at_call_of 21 (Value.string ⟨#[105, 102]⟩); refine (IY.out).mono ?_; rintro e v1 ⟨rfl, hc1, hb1⟩; have HCv1 := Lib.hid hc1; have HBv1 := Lib.hid hb1; clear hc1 hb1))
  have HS1 := Lib.hid (HS0.out.chg HG.out HCv1.out HBv1.out)
  clear HS0 HCv1 HBv1 IY I0 I1
  go_upto_region 8 with (first | (refine wpList_store_row rfl 56 _ _ rfl (v1).heap.size #[.int .i64 5, .int .i64 0, .bool false, .string ⟨#[]⟩, .bool false, .int .i64 0, .int .u64 0, .int .i64 0, .bool false, .string ⟨#[]⟩, .slice none 0 0, .int .i64 0, .int .u64 0, .int .i64 0, .bool false, .string ⟨#[]⟩, .slice none 0 0, .slice none 0 0, .slice none 0 0, .slice none 0 0, .slice none 0 0] rfl rfl 56 Pw.zS (Blk.new _ _ _) (by kernel_rfl) rfl (Pw.one21 _ _ _ _ _ _ _ _ _ _ _ _ _ _ _ _ _ _ _ _ _ _ _ _ _ _ _ _ _ _ _ _ _) ?_))
  obtain ⟨sb, hsb⟩ : ∃ sb, sb = v1.heap.size := ⟨_, rfl⟩
  rw [← hsb]
  generalize hvv : World.setRow _ _ _ = v2
  have HX2 : Hid (Sx w g fin d b sb #[.int .i64 5, .int .i64 0, .bool false, .string ⟨#[]⟩, .bool false, .int .i64 0, .int .u64 0, .int .i64 0, .bool false, .string ⟨#[]⟩, .slice none 0 0, .int .i64 0, .int .u64 0, .int .i64 0, .bool false, .string ⟨#[]⟩, .slice none 0 0, .slice none 0 0, .slice none 0 0, .slice none 0 0, .slice none 0 0] l.tail v2) := by show Sx _ _ _ _ _ _ _ _ _; rw [← hvv, hsb]; exact (Sx.new HS1.out Pw.zS).row HG.out _
  have HQ2 := Lib.hid HQ1.out
  clear hvv hsb HS1 HQ1
  have HN := Lib.hid (pneed_ok v2 g fin (d + 1) l.tail [40] HX2.out.sd.pb)
  obtain ⟨rA, hrA⟩ : ∃ r, r = Ps.need fin [40] l.tail := ⟨_, rfl⟩
  have HLA : Hid (∀ x l', rA = .ok (x, l') → l'.length < (l.tail).length) := fun x l' h => Ps.need_lt (fin := fin) (s := [40]) (u := x) (hrA ▸ h)
  rw [← hrA] at HN HR0
  clear hrA
  go_upto_region 9 with (first | (go_at_call_of 44 (Value.string ⟨#[40]⟩); refine (HN.out).mono ?_; rintro e v3 ⟨hc6, hp6, hr6⟩; have HCv3 := Lib.hid hc6; have HPv3 := Lib.hid hp6; clear hc6 hp6; rcases rA with z | ⟨y0, t3⟩; (obtain rfl := hr6); rotate_left; (obtain ⟨rfl, hpb⟩ := hr6; have HPN := Lib.hid hpb; clear hpb); rotate_left))
  · obtain rfl : R = .error z := HR0.out
    (obtain ⟨v, f, D, hbk⟩ := (HPv3).out; refine leaves_cons (f := 89) (args := #[P b]) (by simp) (by simp [go_sem]) ?_; refine (pundeep_ok v3 g b v f D _ hbk (HX2.out.sd).ne ((HCv3).out.cell (HX2.out.sd).ne (HX2.out.sd).cb)).mono ?_; rintro e u' w5 ⟨rfl, rfl, rfl⟩; simp only [Leaves, settle, Oops]; exact ⟨Chg.setCell ((HX2.out.sd).fz.chg.trans (HCv3).out) 2 _, ParA.up hbk, rfl⟩)
  have HR1 : Hid (R = Ps.seq (F.expr (d + 1) t3) fun q0 m0 => Ps.seq (Ps.need fin [41] m0) fun _ m1 => Ps.seq (Ps.bodyS F (d + 1) m1) fun q2 m2 => if Ps.sees [101, 108, 115, 101] m2 = true then Ps.seq (Ps.bodyS F (d + 1) m2.tail) fun q3 m3 => .ok ((.mk 5 0 false ⟨#[]⟩ false q0 Ps.xz [] [] q2 q3 : S), m3) else .ok ((.mk 5 0 false ⟨#[]⟩ false q0 Ps.xz [] [] q2 [] : S), m2)) := HR0.out
  have HX3 := Lib.hid (HX2.out.chg HG.out HCv3.out HPN.out)
  have TH2 : Hid (Thr w.heap.size sb v2 v3) := HCv3.out.thr (Nat.le_of_lt HG.out)
  have HQ3 : Hid ((t3).length < l.length) := Nat.lt_trans (HLA.out _ _ rfl) HQ2.out
  clear HN HLA HR0 HPN HCv3 HPv3
  have HE := Lib.hid (HH.out.ex v3 t3 (Nat.le_of_lt HQ3.out) HX3.out.sd.pb)
  obtain ⟨rA, hrA⟩ : ∃ r, r = F.expr (d + 1) t3 := ⟨_, rfl⟩
  have HLA : Hid (∀ x l', rA = .ok (x, l') → l'.length < (t3).length) := fun x l' h => HH.out.less.expr (hrA ▸ h)
  rw [← hrA] at HE HR1
  clear hrA
  go_upto_region 10 with (first | (go_at_call 46; refine (HE.out).mono ?_; rintro e v4 ⟨hc4, hp4, hr4⟩; have HCv4 := Lib.hid hc4; have HPv4 := Lib.hid hp4; clear hc4 hp4; rcases rA with z | ⟨y, t4⟩; (obtain rfl := hr4); rotate_left; (obtain ⟨cs, rfl, hin, hpb⟩ := hr4; obtain ⟨ya, yc, rfl⟩ := Pw.form hin; have HIY := Lib.hid hin; have HX4 := Lib.hid (HX3.out.chg HG.out HCv4.out hpb); clear hin hpb); rotate_left) | (refine wpList_store_sub rfl 54 _ _ rfl sb 5 [.int .i64 y.kind, .int .u64 y.num, .int .i64 y.bits, .bool y.sg, .string y.name, .slice ya y.kids.length yc] rfl rfl 56 _ #[.int .i64 5, .int .i64 0, .bool false, .string ⟨#[]⟩, .bool false, .int .i64 y.kind, .int .u64 y.num, .int .i64 y.bits, .bool y.sg, .string y.name, .slice ya y.kids.length yc, .int .i64 0, .int .u64 0, .int .i64 0, .bool false, .string ⟨#[]⟩, .slice none 0 0, .slice none 0 0, .slice none 0 0, .slice none 0 0, .slice none 0 0] HX4.out.sb (by kernel_rfl) (show 5 + 6 ≤ 21 by decide) HIY.out.ones rfl ?_))
  · obtain rfl : R = .error z := HR1.out
    (obtain ⟨v, f, D, hbk⟩ := (HPv4).out; refine leaves_cons (f := 89) (args := #[P b]) (by simp) (by simp [go_sem]) ?_; refine (pundeep_ok v4 g b v f D _ hbk (HX3.out.sd).ne ((HCv4).out.cell (HX3.out.sd).ne (HX3.out.sd).cb)).mono ?_; rintro e u' w5 ⟨rfl, rfl, rfl⟩; simp only [Leaves, settle, Oops]; exact ⟨Chg.setCell ((HX3.out.sd).fz.chg.trans (HCv4).out) 2 _, ParA.up hbk, rfl⟩)
  have HR2 : Hid (R = Ps.seq (Ps.need fin [41] t4) fun _ m0 => Ps.seq (Ps.bodyS F (d + 1) m0) fun q1 m1 => if Ps.sees [101, 108, 115, 101] m1 = true then Ps.seq (Ps.bodyS F (d + 1) m1.tail) fun q2 m2 => .ok ((.mk 5 0 false ⟨#[]⟩ false y Ps.xz [] [] q1 q2 : S), m2) else .ok ((.mk 5 0 false ⟨#[]⟩ false y Ps.xz [] [] q1 [] : S), m1)) := HR1.out
  generalize hvv : World.setRow v4 _ _ = v5
  have HX5 : Hid (Sx w g fin d b sb #[.int .i64 5, .int .i64 0, .bool false, .string ⟨#[]⟩, .bool false, .int .i64 y.kind, .int .u64 y.num, .int .i64 y.bits, .bool y.sg, .string y.name, .slice ya y.kids.length yc, .int .i64 0, .int .u64 0, .int .i64 0, .bool false, .string ⟨#[]⟩, .slice none 0 0, .slice none 0 0, .slice none 0 0, .slice none 0 0, .slice none 0 0] t4 v5) := by show Sx _ _ _ _ _ _ _ _ _; rw [← hvv]; exact HX4.out.row HG.out _
  have TH3 : Hid (Thr w.heap.size sb v3 v4) := HCv4.out.thr (Nat.le_of_lt HG.out)
  have TH4 : Hid (Thr w.heap.size sb v4 v5) := by show Thr _ _ _ _; rw [← hvv]; exact Thr.row _
  have HQ5 : Hid ((t4).length < l.length) := Nat.lt_trans (HLA.out _ _ rfl) HQ3.out
  clear hvv HE HLA HR1 HCv4 HPv4
  have HN := Lib.hid (pneed_ok v5 g fin (d + 1) t4 [41] HX5.out.sd.pb)
  obtain ⟨rA, hrA⟩ : ∃ r, r = Ps.need fin [41] t4 := ⟨_, rfl⟩
  have HLA : Hid (∀ x l', rA = .ok (x, l') → l'.length < (t4).length) := fun x l' h => Ps.need_lt (fin := fin) (s := [41]) (u := x) (hrA ▸ h)
  rw [← hrA] at HN HR2
  clear hrA
  go_upto_region 11 with (first | (go_at_call_of 44 (Value.string ⟨#[41]⟩); refine (HN.out).mono ?_; rintro e v6 ⟨hc6, hp6, hr6⟩; have HCv6 := Lib.hid hc6; have HPv6 := Lib.hid hp6; clear hc6 hp6; rcases rA with z | ⟨y0, t6⟩; (obtain rfl := hr6); rotate_left; (obtain ⟨rfl, hpb⟩ := hr6; have HPN := Lib.hid hpb; clear hpb); rotate_left))
  · obtain rfl : R = .error z := HR2.out
    (obtain ⟨v, f, D, hbk⟩ := (HPv6).out; refine leaves_cons (f := 89) (args := #[P b]) (by simp) (by simp [go_sem]) ?_; refine (pundeep_ok v6 g b v f D _ hbk (HX5.out.sd).ne ((HCv6).out.cell (HX5.out.sd).ne (HX5.out.sd).cb)).mono ?_; rintro e u' w5 ⟨rfl, rfl, rfl⟩; simp only [Leaves, settle, Oops]; exact ⟨Chg.setCell ((HX5.out.sd).fz.chg.trans (HCv6).out) 2 _, ParA.up hbk, rfl⟩)
  have HR3 : Hid (R = Ps.seq (Ps.bodyS F (d + 1) t6) fun q0 m0 => if Ps.sees [101, 108, 115, 101] m0 = true then Ps.seq (Ps.bodyS F (d + 1) m0.tail) fun q1 m1 => .ok ((.mk 5 0 false ⟨#[]⟩ false y Ps.xz [] [] q0 q1 : S), m1) else .ok ((.mk 5 0 false ⟨#[]⟩ false y Ps.xz [] [] q0 [] : S), m0)) := HR2.out
  have HX6 := Lib.hid (HX5.out.chg HG.out HCv6.out HPN.out)
  have TH5 : Hid (Thr w.heap.size sb v5 v6) := HCv6.out.thr (Nat.le_of_lt HG.out)
  have HQ6 : Hid ((t6).length < l.length) := Nat.lt_trans (HLA.out _ _ rfl) HQ5.out
  clear HN HLA HR2 HPN HCv6 HPv6
  have HE := Lib.hid (HH.out.one v6 t6 HQ6.out HX6.out.sd.pb)
  obtain ⟨rA, hrA⟩ : ∃ r, r = Ps.bodyS F (d + 1) t6 := ⟨_, rfl⟩
  have HLA : Hid (∀ x l', rA = .ok (x, l') → l'.length ≤ (t6).length) := fun x l' h => Nat.le_of_lt (Ps.bodyS_lt HH.out.less (hrA ▸ h))
  rw [← hrA] at HE HR3
  clear hrA
  go_upto_region 12 with (first | (go_at_call 86; refine (HE.out).mono ?_; rintro e v7 ⟨hc4, hp4, hr4⟩; have HCv7 := Lib.hid hc4; have HPv7 := Lib.hid hp4; clear hc4 hp4; rcases rA with z | ⟨bl2, t7⟩; (obtain rfl := hr4); rotate_left; (obtain ⟨vv, rfl, hin, hpb⟩ := hr4; obtain ⟨abl2, cbl2, rfl⟩ := Pw.formL hin; have HIbl2 := Lib.hid hin; have HX7 := Lib.hid (HX6.out.chg HG.out HCv7.out hpb); have eo := HX7.out.sb.cell 19; have fo := HX7.out.sb.frozen 19; clear hin hpb); rotate_left))
  · obtain rfl : R = .error z := HR3.out
    (obtain ⟨v, f, D, hbk⟩ := (HPv7).out; refine leaves_cons (f := 89) (args := #[P b]) (by simp) (by simp [go_sem]) ?_; refine (pundeep_ok v7 g b v f D _ hbk (HX6.out.sd).ne ((HCv7).out.cell (HX6.out.sd).ne (HX6.out.sd).cb)).mono ?_; rintro e u' w5 ⟨rfl, rfl, rfl⟩; simp only [Leaves, settle, Oops]; exact ⟨Chg.setCell ((HX6.out.sd).fz.chg.trans (HCv7).out) 2 _, ParA.up hbk, rfl⟩)
  have HR4 : Hid (R = if Ps.sees [101, 108, 115, 101] t7 = true then Ps.seq (Ps.bodyS F (d + 1) t7.tail) fun q0 m0 => .ok ((.mk 5 0 false ⟨#[]⟩ false y Ps.xz [] [] bl2 q0 : S), m0) else .ok ((.mk 5 0 false ⟨#[]⟩ false y Ps.xz [] [] bl2 [] : S), t7)) := HR3.out
  generalize hvv : World.setCell v7 _ _ = v8
  have HX8 : Hid (Sx w g fin d b sb #[.int .i64 5, .int .i64 0, .bool false, .string ⟨#[]⟩, .bool false, .int .i64 y.kind, .int .u64 y.num, .int .i64 y.bits, .bool y.sg, .string y.name, .slice ya y.kids.length yc, .int .i64 0, .int .u64 0, .int .i64 0, .bool false, .string ⟨#[]⟩, .slice none 0 0, .slice none 0 0, .slice none 0 0, .slice abl2 bl2.length cbl2, .slice none 0 0] t7 v8) := by show Sx _ _ _ _ _ _ _ _ _; rw [← hvv]; simpa using HX7.out.set HG.out 19 (.slice abl2 bl2.length cbl2)
  have TH6 : Hid (Thr w.heap.size sb v6 v7) := HCv7.out.thr (Nat.le_of_lt HG.out)
  have TH7 : Hid (Thr w.heap.size sb v7 v8) := by show Thr _ _ _ _; rw [← hvv]; exact Thr.set _ _
  have HQ8 : Hid ((t7).length < l.length) := Nat.lt_of_le_of_lt (HLA.out _ _ rfl) HQ6.out
  clear hvv eo fo HE HLA HR3 HCv7 HPv7
  cases hs9 : Ps.sees [101, 108, 115, 101] t7 with
  | true =>
    have HI9 := Lib.hid (pis_yes v8 g fin (d + 1) t7 [101, 108, 115, 101] HX8.out.sd.pb hs9)
    have HQ9 : Hid ((t7.tail).length < l.length) := Nat.lt_trans (Ps.sees_lt hs9) HQ8.out
    have HR5 : Hid (R = Ps.seq (Ps.bodyS F (d + 1) t7.tail) fun q0 m0 => .ok ((.mk 5 0 false ⟨#[]⟩ false y Ps.xz [] [] bl2 q0 : S), m0)) := by show R = _; rw [HR4.out, if_pos hs9]
    clear hs9 HR4
    go_upto_region 13 with (first | (go_at_call_of 21 (Value.string ⟨#[101, 108, 115, 101]⟩); refine (HI9.out).mono ?_; rintro e v9 ⟨rfl, hc1, hb1⟩; have HCv9 := Lib.hid hc1; have HBv9 := Lib.hid hb1; clear hc1 hb1))
    have HX9 := Lib.hid (HX8.out.chg HG.out HCv9.out HBv9.out)
    have TH8 : Hid (Thr w.heap.size sb v8 v9) := HCv9.out.thr (Nat.le_of_lt HG.out)
    clear HI9 HCv9 HBv9
    have HE := Lib.hid (HH.out.one v9 t7.tail HQ9.out HX9.out.sd.pb)
    obtain ⟨rA, hrA⟩ : ∃ r, r = Ps.bodyS F (d + 1) t7.tail := ⟨_, rfl⟩
    have HLA : Hid (∀ x l', rA = .ok (x, l') → l'.length ≤ (t7.tail).length) := fun x l' h => Nat.le_of_lt (Ps.bodyS_lt HH.out.less (hrA ▸ h))
    rw [← hrA] at HE HR5
    clear hrA
    go_upto_region 14 with (first | (go_at_call 86; refine (HE.out).mono ?_; rintro e v10 ⟨hc4, hp4, hr4⟩; have HCv10 := Lib.hid hc4; have HPv10 := Lib.hid hp4; clear hc4 hp4; rcases rA with z | ⟨bl3, t10⟩; (obtain rfl := hr4); rotate_left; (obtain ⟨vv, rfl, hin, hpb⟩ := hr4; obtain ⟨abl3, cbl3, rfl⟩ := Pw.formL hin; have HIbl3 := Lib.hid hin; have HX10 := Lib.hid (HX9.out.chg HG.out HCv10.out hpb); have eo := HX10.out.sb.cell 20; have fo := HX10.out.sb.frozen 20; clear hin hpb); rotate_left))
    · obtain rfl : R = .error z := HR5.out
      (obtain ⟨v, f, D, hbk⟩ := (HPv10).out; refine leaves_cons (f := 89) (args := #[P b]) (by simp) (by simp [go_sem]) ?_; refine (pundeep_ok v10 g b v f D _ hbk (HX9.out.sd).ne ((HCv10).out.cell (HX9.out.sd).ne (HX9.out.sd).cb)).mono ?_; rintro e u' w5 ⟨rfl, rfl, rfl⟩; simp only [Leaves, settle, Oops]; exact ⟨Chg.setCell ((HX9.out.sd).fz.chg.trans (HCv10).out) 2 _, ParA.up hbk, rfl⟩)
    have HR6 : Hid (R = .ok ((.mk 5 0 false ⟨#[]⟩ false y Ps.xz [] [] bl2 bl3 : S), t10)) := HR5.out
    generalize hvv : World.setCell v10 _ _ = v11
    have HX11 : Hid (Sx w g fin d b sb #[.int .i64 5, .int .i64 0, .bool false, .string ⟨#[]⟩, .bool false, .int .i64 y.kind, .int .u64 y.num, .int .i64 y.bits, .bool y.sg, .string y.name, .slice ya y.kids.length yc, .int .i64 0, .int .u64 0, .int .i64 0, .bool false, .string ⟨#[]⟩, .slice none 0 0, .slice none 0 0, .slice none 0 0, .slice abl2 bl2.length cbl2, .slice abl3 bl3.length cbl3] t10 v11) := by show Sx _ _ _ _ _ _ _ _ _; rw [← hvv]; simpa using HX10.out.set HG.out 20 (.slice abl3 bl3.length cbl3)
    have TH9 : Hid (Thr w.heap.size sb v9 v10) := HCv10.out.thr (Nat.le_of_lt HG.out)
    have TH10 : Hid (Thr w.heap.size sb v10 v11) := by show Thr _ _ _ _; rw [← hvv]; exact Thr.set _ _
    have HQ11 : Hid ((t10).length < l.length) := Nat.lt_of_le_of_lt (HLA.out _ _ rfl) HQ9.out
    clear hvv eo fo HE HLA HR5 HCv10 HPv10
    go_wp2_with (first | (refine wpList_load_row rfl 56 _ rfl sb rfl 56 #[.int .i64 5, .int .i64 0, .bool false, .string ⟨#[]⟩, .bool false, .int .i64 y.kind, .int .u64 y.num, .int .i64 y.bits, .bool y.sg, .string y.name, .slice ya y.kids.length yc, .int .i64 0, .int .u64 0, .int .i64 0, .bool false, .string ⟨#[]⟩, .slice none 0 0, .slice none 0 0, .slice none 0 0, .slice abl2 bl2.length cbl2, .slice abl3 bl3.length cbl3] (0, 0) _ (HX11.out.sb) Try.underlying56 rfl (by kernel_rfl) ?_) | (refine wpList_store_row rfl 56 _ _ rfl w.heap.size #[.int .i64 5, .int .i64 0, .bool false, .string ⟨#[]⟩, .bool false, .int .i64 y.kind, .int .u64 y.num, .int .i64 y.bits, .bool y.sg, .string y.name, .slice ya y.kids.length yc, .int .i64 0, .int .u64 0, .int .i64 0, .bool false, .string ⟨#[]⟩, .slice none 0 0, .slice none 0 0, .slice none 0 0, .slice abl2 bl2.length cbl2, .slice abl3 bl3.length cbl3] rfl rfl 56 Pw.zS (HX11.out.sd.fz.z) (by kernel_rfl) rfl (Pw.one21 _ _ _ _ _ _ _ _ _ _ _ _ _ _ _ _ _ _ _ _ _ _ _ _ _ _ _ _ _ _ _ _ _) ?_))
    obtain rfl : R = .ok ((.mk 5 0 false ⟨#[]⟩ false y Ps.xz [] [] bl2 bl3 : S), t10) := HR6.out
    (obtain ⟨row, hrow⟩ : ∃ row : Array Value, row = #[.int .i64 5, .int .i64 0, .bool false, .string ⟨#[]⟩, .bool false, .int .i64 y.kind, .int .u64 y.num, .int .i64 y.bits, .bool y.sg, .string y.name, .slice ya y.kids.length yc, .int .i64 0, .int .u64 0, .int .i64 0, .bool false, .string ⟨#[]⟩, .slice none 0 0, .slice none 0 0, .slice none 0 0, .slice abl2 bl2.length cbl2, .slice abl3 bl3.length cbl3] := ⟨_, rfl⟩; rw [← hrow])
    have hx : LS v11 (fun k => w.heap.size < k) (.mk 5 0 false ⟨#[]⟩ false y Ps.xz [] [] bl2 bl3 : S) (S.cells 5 0 false ⟨#[]⟩ false (X.cells y.kind y.num y.bits y.sg y.name (.slice ya y.kids.length yc)) [.int .i64 0, .int .u64 0, .int .i64 0, .bool false, .string ⟨#[]⟩, .slice none 0 0] (.slice none 0 0) (.slice none 0 0) (.slice abl2 bl2.length cbl2) (.slice abl3 bl3.length cbl3)) := .mk _ _ _ _ _ _ _ _ _ _ _ _ _ _ _ _ _ (HIY.out.thr HX3.out.sb.lt (Nat.lt_trans HX3.out.lt HX3.out.sb.lt) (TH4.out.trans (TH5.out.trans (TH6.out.trans (TH7.out.trans (TH8.out.trans (TH9.out.trans (TH10.out)))))))) (xz_in _ _) (sz_in _ _) (sz_in _ _) (HIbl2.out.thr HX6.out.sb.lt (Nat.lt_trans HX6.out.lt HX6.out.sb.lt) (TH7.out.trans (TH8.out.trans (TH9.out.trans (TH10.out))))) (HIbl3.out.thr HX9.out.sb.lt (Nat.lt_trans HX9.out.lt HX9.out.sb.lt) (TH10.out))
    (obtain ⟨v, hbk, hcb, hz, hpost⟩ := Fz.upL (b := b) layS (HX11.out.sd).fz HG.out (Nat.le_of_lt HDD.out) (HX11.out.sd).pb hx row hrow (HX11.out.sd).ne (HX11.out.sd).lt (HX11.out.sd).cb; refine leaves_cons (f := 89) (args := #[P b]) (by simp) (by simp [go_sem]) ?_; refine (pundeep_ok _ g b v _ _ _ hbk (HX11.out.sd).ne hcb).mono ?_; rintro e u' w6 ⟨rfl, rfl, rfl⟩; exact ⟨_, Pw.res_cell rfl _ _ w.heap.size 56 row (0, 0) _ rfl hz Try.underlying56 rfl (by subst hrow; kernel_rfl), hpost⟩)
  | false =>
    have HI9 := Lib.hid (pis_no v8 g fin (d + 1) t7 [101, 108, 115, 101] HX8.out.sd.pb hs9)
    have HR5 : Hid (R = .ok ((.mk 5 0 false ⟨#[]⟩ false y Ps.xz [] [] bl2 [] : S), t7)) := by show R = _; rw [HR4.out, if_neg (by rw [hs9]; decide)]
    clear hs9 HR4
    go_upto_region 14 with (first | (go_at_call_of 21 (Value.string ⟨#[101, 108, 115, 101]⟩); refine (HI9.out).mono ?_; rintro e w' ⟨rfl, rfl⟩))
    clear HI9
    go_wp2_with (first | (refine wpList_load_row rfl 56 _ rfl sb rfl 56 #[.int .i64 5, .int .i64 0, .bool false, .string ⟨#[]⟩, .bool false, .int .i64 y.kind, .int .u64 y.num, .int .i64 y.bits, .bool y.sg, .string y.name, .slice ya y.kids.length yc, .int .i64 0, .int .u64 0, .int .i64 0, .bool false, .string ⟨#[]⟩, .slice none 0 0, .slice none 0 0, .slice none 0 0, .slice abl2 bl2.length cbl2, .slice none 0 0] (0, 0) _ (HX8.out.sb) Try.underlying56 rfl (by kernel_rfl) ?_) | (refine wpList_store_row rfl 56 _ _ rfl w.heap.size #[.int .i64 5, .int .i64 0, .bool false, .string ⟨#[]⟩, .bool false, .int .i64 y.kind, .int .u64 y.num, .int .i64 y.bits, .bool y.sg, .string y.name, .slice ya y.kids.length yc, .int .i64 0, .int .u64 0, .int .i64 0, .bool false, .string ⟨#[]⟩, .slice none 0 0, .slice none 0 0, .slice none 0 0, .slice abl2 bl2.length cbl2, .slice none 0 0] rfl rfl 56 Pw.zS (HX8.out.sd.fz.z) (by kernel_rfl) rfl (Pw.one21 _ _ _ _ _ _ _ _ _ _ _ _ _ _ _ _ _ _ _ _ _ _ _ _ _ _ _ _ _ _ _ _ _) ?_))
    obtain rfl : R = .ok ((.mk 5 0 false ⟨#[]⟩ false y Ps.xz [] [] bl2 [] : S), t7) := HR5.out
    (obtain ⟨row, hrow⟩ : ∃ row : Array Value, row = #[.int .i64 5, .int .i64 0, .bool false, .string ⟨#[]⟩, .bool false, .int .i64 y.kind, .int .u64 y.num, .int .i64 y.bits, .bool y.sg, .string y.name, .slice ya y.kids.length yc, .int .i64 0, .int .u64 0, .int .i64 0, .bool false, .string ⟨#[]⟩, .slice none 0 0, .slice none 0 0, .slice none 0 0, .slice abl2 bl2.length cbl2, .slice none 0 0] := ⟨_, rfl⟩; rw [← hrow])
    have hx : LS v8 (fun k => w.heap.size < k) (.mk 5 0 false ⟨#[]⟩ false y Ps.xz [] [] bl2 [] : S) (S.cells 5 0 false ⟨#[]⟩ false (X.cells y.kind y.num y.bits y.sg y.name (.slice ya y.kids.length yc)) [.int .i64 0, .int .u64 0, .int .i64 0, .bool false, .string ⟨#[]⟩, .slice none 0 0] (.slice none 0 0) (.slice none 0 0) (.slice abl2 bl2.length cbl2) (.slice none 0 0)) := .mk _ _ _ _ _ _ _ _ _ _ _ _ _ _ _ _ _ (HIY.out.thr HX3.out.sb.lt (Nat.lt_trans HX3.out.lt HX3.out.sb.lt) (TH4.out.trans (TH5.out.trans (TH6.out.trans (TH7.out))))) (xz_in _ _) (sz_in _ _) (sz_in _ _) (HIbl2.out.thr HX6.out.sb.lt (Nat.lt_trans HX6.out.lt HX6.out.sb.lt) (TH7.out)) (sz_in _ _)
    (obtain ⟨v, hbk, hcb, hz, hpost⟩ := Fz.upL (b := b) layS (HX8.out.sd).fz HG.out (Nat.le_of_lt HDD.out) (HX8.out.sd).pb hx row hrow (HX8.out.sd).ne (HX8.out.sd).lt (HX8.out.sd).cb; refine leaves_cons (f := 89) (args := #[P b]) (by simp) (by simp [go_sem]) ?_; refine (pundeep_ok _ g b v _ _ _ hbk (HX8.out.sd).ne hcb).mono ?_; rintro e u' w6 ⟨rfl, rfl, rfl⟩; exact ⟨_, Pw.res_cell rfl _ _ w.heap.size 56 row (0, 0) _ rfl hz Try.underlying56 rfl (by subst hrow; kernel_rfl), hpost⟩)
set_option maxHeartbeats 8000000 in
theorem pstat_while (w : World) (g fin d : Nat) (l : List Tk.Tok) (F : Ps.F) (h : Pb w g fin d l) (hd : d < 400) (hh : StH g fin (d + 1) F l.length) (h0 : Ps.sees [59] l = false) (h1 : Ps.sees [123] l = false) (h2 : Ps.sees [105, 102] l = false) (hs : Ps.sees [119, 104, 105, 108, 101] l = true) :
    Calls Try.prog 67 #[P g] w (PsR g fin d w (Ps.seq (Ps.need fin [40] l.tail) fun _ m0 => Ps.seq (F.expr (d + 1) m0) fun q1 m1 => Ps.seq (Ps.need fin [41] m1) fun _ m2 => Ps.seq (Ps.bodyS F (d + 1) m2) fun q3 m3 => .ok ((.mk 6 0 false ⟨#[]⟩ false q1 Ps.xz [] [] q3 [] : S), m3))) := by
  have hgl : g < w.heap.size := by obtain ⟨v, hb, _⟩ := h; exact hb.lt
  have HG := Lib.hid hgl
  have HH := Lib.hid hh
  have HDD := Lib.hid hd
  obtain ⟨w0, hw0⟩ : ∃ w0, w0 = w.alloc (.cells Pw.zS 56) := ⟨_, rfl⟩
  have HF0 : Hid (Fz w g 56 Pw.zS w0) := by show Fz _ _ _ _ _; rw [hw0]; exact Fz.new ..
  have hp0 : Pb w0 g fin d l := by rw [hw0]; exact h.keep (Ext.alloc (Below.refl _ _) _)
  have HD := Lib.hid (pdeeper_ok w0 g fin d l hp0 hd)
  obtain ⟨R, hR⟩ : ∃ R, R = (Ps.seq (Ps.need fin [40] l.tail) fun _ m0 => Ps.seq (F.expr (d + 1) m0) fun q1 m1 => Ps.seq (Ps.need fin [41] m1) fun _ m2 => Ps.seq (Ps.bodyS F (d + 1) m2) fun q3 m3 => .ok ((.mk 6 0 false ⟨#[]⟩ false q1 Ps.xz [] [] q3 [] : S), m3) : Ps.Res S) := ⟨_, rfl⟩
  rw [← hR]
  have HR0 := Lib.hid hR
  have HQ1 : Hid (l.tail.length < l.length) := Ps.sees_lt hs
  have H0 := Lib.hid h0
  have H1 := Lib.hid h1
  have H2 := Lib.hid h2
  have HY := Lib.hid hs
  clear h hd hh hgl hp0 hR h0 h1 h2 hs
  go_enter_defers Try.func67, Try.ntmps67
  go_upto_region 1 with (fail)
  rw [← hw0]
  clear hw0
  go_upto_region 2 with (first | (go_at_call 68; refine HD.out.mono ?_; rintro e w2 ⟨b, rfl, hne, hle, hcb, hc2, hp2⟩; have HD2 := Lib.hid (And.intro hne (And.intro hle (And.intro hcb (And.intro hc2 hp2)))); clear hne hle hcb hc2 hp2))
  have HS0 : Hid (Sd w g fin d b l w2) := ⟨HF0.out.step HG.out HD2.out.2.2.2.1, HD2.out.2.2.2.2, HD2.out.1, Nat.lt_of_lt_of_le HF0.out.lt HD2.out.2.1, HD2.out.2.2.1⟩
  clear HD HD2 HF0
  have I0 := Lib.hid (pis_no w2 g fin (d + 1) l [59] HS0.out.pb H0.out)
  have I1 := Lib.hid (pis_no w2 g fin (d + 1) l [123] HS0.out.pb H1.out)
  have I2 := Lib.hid (pis_no w2 g fin (d + 1) l [105, 102] HS0.out.pb H2.out)
  have IY := Lib.hid (pis_yes w2 g fin (d + 1) l [119, 104, 105, 108, 101] HS0.out.pb HY.out)
  clear H0 H1 H2 HY
  go_upto_region 16 with (first | (go_at_call_of 21 (Value.string ⟨#[59]⟩); refine (I0.out).mono ?_; rintro e w' ⟨rfl, rfl⟩) | (go_at_call_of 21 (Value.string ⟨#[123]⟩); refine (I1.out).mono ?_; rintro e w' ⟨rfl, rfl⟩) | (go_at_call_of 21 (Value.string ⟨#[105, 102]⟩); refine (I2.out).mono ?_; rintro e w' ⟨rfl, rfl⟩) | (go_at_call_of 21 (Value.string ⟨#[119, 104, 105, 108, 101]⟩); refine (IY.out).mono ?_; rintro e v1 ⟨rfl, hc1, hb1⟩; have HCv1 := Lib.hid hc1; have HBv1 := Lib.hid hb1; clear hc1 hb1))
  have HS1 := Lib.hid (HS0.out.chg HG.out HCv1.out HBv1.out)
  clear HS0 HCv1 HBv1 IY I0 I1 I2
  go_upto_region 17 with (first | (refine wpList_store_row rfl 56 _ _ rfl (v1).heap.size #[.int .i64 6, .int .i64 0, .bool false, .string ⟨#[]⟩, .bool false, .int .i64 0, .int .u64 0, .int .i64 0, .bool false, .string ⟨#[]⟩, .slice none 0 0, .int .i64 0, .int .u64 0, .int .i64 0, .bool false, .string ⟨#[]⟩, .slice none 0 0, .slice none 0 0, .slice none 0 0, .slice none 0 0, .slice none 0 0] rfl rfl 56 Pw.zS (Blk.new _ _ _) (by kernel_rfl) rfl (Pw.one21 _ _ _ _ _ _ _ _ _ _ _ _ _ _ _ _ _ _ _ _ _ _ _ _ _ _ _ _ _ _ _ _ _) ?_))
  obtain ⟨sb, hsb⟩ : ∃ sb, sb = v1.heap.size := ⟨_, rfl⟩
  rw [← hsb]
  generalize hvv : World.setRow _ _ _ = v2
  have HX2 : Hid (Sx w g fin d b sb #[.int .i64 6, .int .i64 0, .bool false, .string ⟨#[]⟩, .bool false, .int .i64 0, .int .u64 0, .int .i64 0, .bool false, .string ⟨#[]⟩, .slice none 0 0, .int .i64 0, .int .u64 0, .int .i64 0, .bool false, .string ⟨#[]⟩, .slice none 0 0, .slice none 0 0, .slice none 0 0, .slice none 0 0, .slice none 0 0] l.tail v2) := by show Sx _ _ _ _ _ _ _ _ _; rw [← hvv, hsb]; exact (Sx.new HS1.out Pw.zS).row HG.out _
  have HQ2 := Lib.hid HQ1.out
  clear hvv hsb HS1 HQ1
  have HN := Lib.hid (pneed_ok v2 g fin (d + 1) l.tail [40] HX2.out.sd.pb)
  obtain ⟨rA, hrA⟩ : ∃ r, r = Ps.need fin [40] l.tail := ⟨_, rfl⟩
  have HLA : Hid (∀ x l', rA = .ok (x, l') → l'.length < (l.tail).length) := fun x l' h => Ps.need_lt (fin := fin) (s := [40]) (u := x) (hrA ▸ h)
  rw [← hrA] at HN HR0
  clear hrA
  go_upto_region 18 with (first | (go_at_call_of 44 (Value.string ⟨#[40]⟩); refine (HN.out).mono ?_; rintro e v3 ⟨hc6, hp6, hr6⟩; have HCv3 := Lib.hid hc6; have HPv3 := Lib.hid hp6; clear hc6 hp6; rcases rA with z | ⟨y0, t3⟩; (obtain rfl := hr6); rotate_left; (obtain ⟨rfl, hpb⟩ := hr6; have HPN := Lib.hid hpb; clear hpb); rotate_left))
  · obtain rfl : R = .error z := HR0.out
    (obtain ⟨v, f, D, hbk⟩ := (HPv3).out; refine leaves_cons (f := 89) (args := #[P b]) (by simp) (by simp [go_sem]) ?_; refine (pundeep_ok v3 g b v f D _ hbk (HX2.out.sd).ne ((HCv3).out.cell (HX2.out.sd).ne (HX2.out.sd).cb)).mono ?_; rintro e u' w5 ⟨rfl, rfl, rfl⟩; simp only [Leaves, settle, Oops]; exact ⟨Chg.setCell ((HX2.out.sd).fz.chg.trans (HCv3).out) 2 _, ParA.up hbk, rfl⟩)
  have HR1 : Hid (R = Ps.seq (F.expr (d + 1) t3) fun q0 m0 => Ps.seq (Ps.need fin [41] m0) fun _ m1 => Ps.seq (Ps.bodyS F (d + 1) m1) fun q2 m2 => .ok ((.mk 6 0 false ⟨#[]⟩ false q0 Ps.xz [] [] q2 [] : S), m2)) := HR0.out
  have HX3 := Lib.hid (HX2.out.chg HG.out HCv3.out HPN.out)
  have TH2 : Hid (Thr w.heap.size sb v2 v3) := HCv3.out.thr (Nat.le_of_lt HG.out)
  have HQ3 : Hid ((t3).length < l.length) := Nat.lt_trans (HLA.out _ _ rfl) HQ2.out
  clear HN HLA HR0 HPN HCv3 HPv3
  have HE := Lib.hid (HH.out.ex v3 t3 (Nat.le_of_lt HQ3.out) HX3.out.sd.pb)
  obtain ⟨rA, hrA⟩ : ∃ r, r = F.expr (d + 1) t3 := ⟨_, rfl⟩
  have HLA : Hid (∀ x l', rA = .ok (x, l') → l'.length < (t3).length) := fun x l' h => HH.out.less.expr (hrA ▸ h)
  rw [← hrA] at HE HR1
  clear hrA
  go_upto_region 19 with (first | (go_at_call 46; refine (HE.out).mono ?_; rintro e v4 ⟨hc4, hp4, hr4⟩; have HCv4 := Lib.hid hc4; have HPv4 := Lib.hid hp4; clear hc4 hp4; rcases rA with z | ⟨y, t4⟩; (obtain rfl := hr4); rotate_left; (obtain ⟨cs, rfl, hin, hpb⟩ := hr4; obtain ⟨ya, yc, rfl⟩ := Pw.form hin; have HIY := Lib.hid hin; have HX4 := Lib.hid (HX3.out.chg HG.out HCv4.out hpb); clear hin hpb); rotate_left) | (refine wpList_store_sub rfl 54 _ _ rfl sb 5 [.int .i64 y.kind, .int .u64 y.num, .int .i64 y.bits, .bool y.sg, .string y.name, .slice ya y.kids.length yc] rfl rfl 56 _ #[.int .i64 6, .int .i64 0, .bool false, .string ⟨#[]⟩, .bool false, .int .i64 y.kind, .int .u64 y.num, .int .i64 y.bits, .bool y.sg, .string y.name, .slice ya y.kids.length yc, .int .i64 0, .int .u64 0, .int .i64 0, .bool false, .string ⟨#[]⟩, .slice none 0 0, .slice none 0 0, .slice none 0 0, .slice none 0 0, .slice none 0 0] HX4.out.sb (by kernel_rfl) (show 5 + 6 ≤ 21 by decide) HIY.out.ones rfl ?_))
  · obtain rfl : R = .error z := HR1.out
    (obtain ⟨v, f, D, hbk⟩ := (HPv4).out; refine leaves_cons (f := 89) (args := #[P b]) (by simp) (by simp [go_sem]) ?_; refine (pundeep_ok v4 g b v f D _ hbk (HX3.out.sd).ne ((HCv4).out.cell (HX3.out.sd).ne (HX3.out.sd).cb)).mono ?_; rintro e u' w5 ⟨rfl, rfl, rfl⟩; simp only [Leaves, settle, Oops]; exact ⟨Chg.setCell ((HX3.out.sd).fz.chg.trans (HCv4).out) 2 _, ParA.up hbk, rfl⟩)
  have HR2 : Hid (R = Ps.seq (Ps.need fin [41] t4) fun _ m0 => Ps.seq (Ps.bodyS F (d + 1) m0) fun q1 m1 => .ok ((.mk 6 0 false ⟨#[]⟩ false y Ps.xz [] [] q1 [] : S), m1)) := HR1.out
  generalize hvv : World.setRow v4 _ _ = v5
  have HX5 : Hid (Sx w g fin d b sb #[.int .i64 6, .int .i64 0, .bool false, .string ⟨#[]⟩, .bool false, .int .i64 y.kind, .int .u64 y.num, .int .i64 y.bits, .bool y.sg, .string y.name, .slice ya y.kids.length yc, .int .i64 0, .int .u64 0, .int .i64 0, .bool false, .string ⟨#[]⟩, .slice none 0 0, .slice none 0 0, .slice none 0 0, .slice none 0 0, .slice none 0 0] t4 v5) := by show Sx _ _ _ _ _ _ _ _ _; rw [← hvv]; exact HX4.out.row HG.out _
  have TH3 : Hid (Thr w.heap.size sb v3 v4) := HCv4.out.thr (Nat.le_of_lt HG.out)
  have TH4 : Hid (Thr w.heap.size sb v4 v5) := by show Thr _ _ _ _; rw [← hvv]; exact Thr.row _
  have HQ5 : Hid ((t4).length < l.length) := Nat.lt_trans (HLA.out _ _ rfl) HQ3.out
  clear hvv HE HLA HR1 HCv4 HPv4
  have HN := Lib.hid (pneed_ok v5 g fin (d + 1) t4 [41] HX5.out.sd.pb)
  obtain ⟨rA, hrA⟩ : ∃ r, r = Ps.need fin [41] t4 := ⟨_, rfl⟩
  have HLA : Hid (∀ x l', rA = .ok (x, l') → l'.length < (t4).length) := fun x l' h => Ps.need_lt (fin := fin) (s := [41]) (u := x) (hrA ▸ h)
  rw [← hrA] at HN HR2
  clear hrA
  go_upto_region 20 with (first | (go_at_call_of 44 (Value.string ⟨#[41]⟩); refine (HN.out).mono ?_; rintro e v6 ⟨hc6, hp6, hr6⟩; have HCv6 := Lib.hid hc6; have HPv6 := Lib.hid hp6; clear hc6 hp6; rcases rA with z | ⟨y0, t6⟩; (obtain rfl := hr6); rotate_left; (obtain ⟨rfl, hpb⟩ := hr6; have HPN := Lib.hid hpb; clear hpb); rotate_left))
  · obtain rfl : R = .error z := HR2.out
    (obtain ⟨v, f, D, hbk⟩ := (HPv6).out; refine leaves_cons (f := 89) (args := #[P b]) (by simp) (by simp [go_sem]) ?_; refine (pundeep_ok v6 g b v f D _ hbk (HX5.out.sd).ne ((HCv6).out.cell (HX5.out.sd).ne (HX5.out.sd).cb)).mono ?_; rintro e u' w5 ⟨rfl, rfl, rfl⟩; simp only [Leaves, settle, Oops]; exact ⟨Chg.setCell ((HX5.out.sd).fz.chg.trans (HCv6).out) 2 _, ParA.up hbk, rfl⟩)
  have HR3 : Hid (R = Ps.seq (Ps.bodyS F (d + 1) t6) fun q0 m0 => .ok ((.mk 6 0 false ⟨#[]⟩ false y Ps.xz [] [] q0 [] : S), m0)) := HR2.out
  have HX6 := Lib.hid (HX5.out.chg HG.out HCv6.out HPN.out)
  have TH5 : Hid (Thr w.heap.size sb v5 v6) := HCv6.out.thr (Nat.le_of_lt HG.out)
  have HQ6 : Hid ((t6).length < l.length) := Nat.lt_trans (HLA.out _ _ rfl) HQ5.out
  clear HN HLA HR2 HPN HCv6 HPv6
  have HE := Lib.hid (HH.out.one v6 t6 HQ6.out HX6.out.sd.pb)
  obtain ⟨rA, hrA⟩ : ∃ r, r = Ps.bodyS F (d + 1) t6 := ⟨_, rfl⟩
  have HLA : Hid (∀ x l', rA = .ok (x, l') → l'.length ≤ (t6).length) := fun x l' h => Nat.le_of_lt (Ps.bodyS_lt HH.out.less (hrA ▸ h))
  rw [← hrA] at HE HR3
  clear hrA
  go_upto_region 21 with (first | (go_at_call 86; refine (HE.out).mono ?_; rintro e v7 ⟨hc4, hp4, hr4⟩; have HCv7 := Lib.hid hc4; have HPv7 := Lib.hid hp4; clear hc4 hp4; rcases rA with z | ⟨bl2, t7⟩; (obtain rfl := hr4); rotate_left; (obtain ⟨vv, rfl, hin, hpb⟩ := hr4; obtain ⟨abl2, cbl2, rfl⟩ := Pw.formL hin; have HIbl2 := Lib.hid hin; have HX7 := Lib.hid (HX6.out.chg HG.out HCv7.out hpb); have eo := HX7.out.sb.cell 19; have fo := HX7.out.sb.frozen 19; clear hin hpb); rotate_left))
  · obtain rfl : R = .error z := HR3.out
    (obtain ⟨v, f, D, hbk⟩ := (HPv7).out; refine leaves_cons (f := 89) (args := #[P b]) (by simp) (by simp [go_sem]) ?_; refine (pundeep_ok v7 g b v f D _ hbk (HX6.out.sd).ne ((HCv7).out.cell (HX6.out.sd).ne (HX6.out.sd).cb)).mono ?_; rintro e u' w5 ⟨rfl, rfl, rfl⟩; simp only [Leaves, settle, Oops]; exact ⟨Chg.setCell ((HX6.out.sd).fz.chg.trans (HCv7).out) 2 _, ParA.up hbk, rfl⟩)
  have HR4 : Hid (R = .ok ((.mk 6 0 false ⟨#[]⟩ false y Ps.xz [] [] bl2 [] : S), t7)) := HR3.out
  generalize hvv : World.setCell v7 _ _ = v8
  have HX8 : Hid (Sx w g fin d b sb #[.int .i64 6, .int .i64 0, .bool false, .string ⟨#[]⟩, .bool false, .int .i64 y.kind, .int .u64 y.num, .int .i64 y.bits, .bool y.sg, .string y.name, .slice ya y.kids.length yc, .int .i64 0, .int .u64 0, .int .i64 0, .bool false, .string ⟨#[]⟩, .slice none 0 0, .slice none 0 0, .slice none 0 0, .slice abl2 bl2.length cbl2, .slice none 0 0] t7 v8) := by show Sx _ _ _ _ _ _ _ _ _; rw [← hvv]; simpa using HX7.out.set HG.out 19 (.slice abl2 bl2.length cbl2)
  have TH6 : Hid (Thr w.heap.size sb v6 v7) := HCv7.out.thr (Nat.le_of_lt HG.out)
  have TH7 : Hid (Thr w.heap.size sb v7 v8) := by show Thr _ _ _ _; rw [← hvv]; exact Thr.set _ _
  have HQ8 : Hid ((t7).length < l.length) := Nat.lt_of_le_of_lt (HLA.out _ _ rfl) HQ6.out
  clear hvv eo fo HE HLA HR3 HCv7 HPv7
  go_wp2_with (first | (refine wpList_load_row rfl 56 _ rfl sb rfl 56 #[.int .i64 6, .int .i64 0, .bool false, .string ⟨#[]⟩, .bool false, .int .i64 y.kind, .int .u64 y.num, .int .i64 y.bits, .bool y.sg, .string y.name, .slice ya y.kids.length yc, .int .i64 0, .int .u64 0, .int .i64 0, .bool false, .string ⟨#[]⟩, .slice none 0 0, .slice none 0 0, .slice none 0 0, .slice abl2 bl2.length cbl2, .slice none 0 0] (0, 0) _ (HX8.out.sb) Try.underlying56 rfl (by kernel_rfl) ?_) | (refine wpList_store_row rfl 56 _ _ rfl w.heap.size #[.int .i64 6, .int .i64 0, .bool false, .string ⟨#[]⟩, .bool false, .int .i64 y.kind, .int .u64 y.num, .int .i64 y.bits, .bool y.sg, .string y.name, .slice ya y.kids.length yc, .int .i64 0, .int .u64 0, .int .i64 0, .bool false, .string ⟨#[]⟩, .slice none 0 0, .slice none 0 0, .slice none 0 0, .slice abl2 bl2.length cbl2, .slice none 0 0] rfl rfl 56 Pw.zS (HX8.out.sd.fz.z) (by kernel_rfl) rfl (Pw.one21 _ _ _ _ _ _ _ _ _ _ _ _ _ _ _ _ _ _ _ _ _ _ _ _ _ _ _ _ _ _ _ _ _) ?_))
  obtain rfl : R = .ok ((.mk 6 0 false ⟨#[]⟩ false y Ps.xz [] [] bl2 [] : S), t7) := HR4.out
  (obtain ⟨row, hrow⟩ : ∃ row : Array Value, row = #[.int .i64 6, .int .i64 0, .bool false, .string ⟨#[]⟩, .bool false, .int .i64 y.kind, .int .u64 y.num, .int .i64 y.bits, .bool y.sg, .string y.name, .slice ya y.kids.length yc, .int .i64 0, .int .u64 0, .int .i64 0, .bool false, .string ⟨#[]⟩, .slice none 0 0, .slice none 0 0, .slice none 0 0, .slice abl2 bl2.length cbl2, .slice none 0 0] := ⟨_, rfl⟩; rw [← hrow])
  have hx : LS v8 (fun k => w.heap.size < k) (.mk 6 0 false ⟨#[]⟩ false y Ps.xz [] [] bl2 [] : S) (S.cells 6 0 false ⟨#[]⟩ false (X.cells y.kind y.num y.bits y.sg y.name (.slice ya y.kids.length yc)) [.int .i64 0, .int .u64 0, .int .i64 0, .bool false, .string ⟨#[]⟩, .slice none 0 0] (.slice none 0 0) (.slice none 0 0) (.slice abl2 bl2.length cbl2) (.slice none 0 0)) := .mk _ _ _ _ _ _ _ _ _ _ _ _ _ _ _ _ _ (HIY.out.thr HX3.out.sb.lt (Nat.lt_trans HX3.out.lt HX3.out.sb.lt) (TH4.out.trans (TH5.out.trans (TH6.out.trans (TH7.out))))) (xz_in _ _) (sz_in _ _) (sz_in _ _) (HIbl2.out.thr HX6.out.sb.lt (Nat.lt_trans HX6.out.lt HX6.out.sb.lt) (TH7.out)) (sz_in _ _)
  (obtain ⟨v, hbk, hcb, hz, hpost⟩ := Fz.upL (b := b) layS (HX8.out.sd).fz HG.out (Nat.le_of_lt HDD.out) (HX8.out.sd).pb hx row hrow (HX8.out.sd).ne (HX8.out.sd).lt (HX8.out.sd).cb; refine leaves_cons (f := 89) (args := #[P b]) (by simp) (by simp [go_sem]) ?_; refine (pundeep_ok _ g b v _ _ _ hbk (HX8.out.sd).ne hcb).mono ?_; rintro e u' w6 ⟨rfl, rfl, rfl⟩; exact ⟨_, Pw.res_cell rfl _ _ w.heap.size 56 row (0, 0) _ rfl hz Try.underlying56 rfl (by subst hrow; kernel_rfl), hpost⟩)
end Go.Proofs.Ytfkndjifhmkojaa
