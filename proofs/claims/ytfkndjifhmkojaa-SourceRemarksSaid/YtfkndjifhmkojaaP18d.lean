/- Walk of parser.stat: declarations; what gives something, or an expression. No condition. -/
import Derived.Test.YtfkndjifhmkojaaPt2
import Derived.Test.YtfkndjifhmkojaaP18
import Derived.Defers
import Derived.LoopTactic
import Derived.Deep.Cut
namespace Go.Proofs.Ytfkndjifhmkojaa
open Go.RowKit
set_option linter.unusedVariables false
set_option linter.unusedSimpArgs false
set_option maxRecDepth 100000
set_option maxHeartbeats 8000000 in
theorem pstat_decl (w : World) (g fin d : Nat) (l : List Tk.Tok) (F : Ps.F) (h : Pb w g fin d l) (hd : d < 400) (hh : StH g fin (d + 1) F l.length) (h0 : Ps.sees [59] l = false) (h1 : Ps.sees [123] l = false) (h2 : Ps.sees [105, 102] l = false) (h3 : Ps.sees [119, 104, 105, 108, 101] l = false) (h4 : Ps.sees [102, 111, 114] l = false) (h5 : Ps.sees [114, 101, 116, 117, 114, 110] l = false) (h6 : Ps.sees [98, 114, 101, 97, 107] l = false) (h7 : Ps.sees [99, 111, 110, 116, 105, 110, 117, 101] l = false) (tb : Int) (ts : Bool) (ht : Ps.typed l = some (tb, ts)) :
    Calls Try.prog 67 #[P g] w (PsR g fin d w (Ps.seq (Ps.name fin l.tail) fun n m => if Ps.sees [61] m = true then Ps.seq (F.expr (d + 1) m.tail) fun q0 m0 => Ps.seq (Ps.need fin [59] m0) fun _ m1 => .ok ((.mk 2 tb ts (Ps.nm n) true q0 Ps.xz [] [] [] [] : S), m1) else Ps.seq (Ps.need fin [59] m) fun _ m0 => .ok ((.mk 2 tb ts (Ps.nm n) false Ps.xz Ps.xz [] [] [] [] : S), m0))) := by
  have hgl : g < w.heap.size := by obtain ⟨v, hb, _⟩ := h; exact hb.lt
  have HG := Lib.hid hgl
  have HH := Lib.hid hh
  have HDD := Lib.hid hd
  obtain ⟨w0, hw0⟩ : ∃ w0, w0 = w.alloc (.cells Pw.zS 56) := ⟨_, rfl⟩
  have HF0 : Hid (Fz w g 56 Pw.zS w0) := by show Fz _ _ _ _ _; rw [hw0]; exact Fz.new ..
  have hp0 : Pb w0 g fin d l := by rw [hw0]; exact h.keep (Ext.alloc (Below.refl _ _) _)
  have HD := Lib.hid (pdeeper_ok w0 g fin d l hp0 hd)
  obtain ⟨R, hR⟩ : ∃ R, R = (Ps.seq (Ps.name fin l.tail) fun n m => if Ps.sees [61] m = true then Ps.seq (F.expr (d + 1) m.tail) fun q0 m0 => Ps.seq (Ps.need fin [59] m0) fun _ m1 => .ok ((.mk 2 tb ts (Ps.nm n) true q0 Ps.xz [] [] [] [] : S), m1) else Ps.seq (Ps.need fin [59] m) fun _ m0 => .ok ((.mk 2 tb ts (Ps.nm n) false Ps.xz Ps.xz [] [] [] [] : S), m0) : Ps.Res S) := ⟨_, rfl⟩
  rw [← hR]
  have HR0 := Lib.hid hR
  have HT := Lib.hid ht
  have HQ1 : Hid (l.tail.length < l.length) := Ps.typed_lt ht
  have H0 := Lib.hid h0
  have H1 := Lib.hid h1
  have H2 := Lib.hid h2
  have H3 := Lib.hid h3
  have H4 := Lib.hid h4
  have H5 := Lib.hid h5
  have H6 := Lib.hid h6
  have H7 := Lib.hid h7
  clear ht h hd hh hgl hp0 hR h0 h1 h2 h3 h4 h5 h6 h7
  go_enter_defers Try.func67, Try.ntmps67
  go_upto_region 1 with (fail)
  rw [← hw0]
  clear hw0
  go_upto_region 2 with (first | (go_at_call 68; refine HD.out.mono ?_; rintro e w2 ⟨b, rfl, hne, hle, hcb, hc2, hp2⟩; have HD2 := Lib.hid (And.intro hne (And.intro hle (And.intro hcb (And.intro hc2 hp2)))); clear hne hle hcb hc2 hp2))
  have HS0 : Hid (Sd w g fin d b l w2) := ⟨HF0.out.step HG.out HD2.out.2.2.2.1, HD2.out.2.2.2.2, HD2.out.1, Nat.lt_of_lt_of_le HF0.out.lt HD2.out.2.1, HD2.out.2.2.1⟩
  clear HD HD2 HF0
  have I0 := Lib.hid (pis_no w2 g fin (d + 1) l [59] HS0.out.pb H0.out)
  have I1 := Lib.hid (pis_no w2 g fin (d + 1) l [123] HS0.out.pb H1.out)
  have I2 := Lib.hid (pis_no w2 g fin (d + 1) l [105, 102] HS0.out.pb H2.out)
  have I3 := Lib.hid (pis_no w2 g fin (d + 1) l [119, 104, 105, 108, 101] HS0.out.pb H3.out)
  have I4 := Lib.hid (pis_no w2 g fin (d + 1) l [102, 111, 114] HS0.out.pb H4.out)
  clear H0 H1 H2 H3 H4
  go_upto_region 43 with (first | (go_at_call_of 21 (Value.string ⟨#[59]⟩); refine (I0.out).mono ?_; rintro e w' ⟨rfl, rfl⟩) | (go_at_call_of 21 (Value.string ⟨#[123]⟩); refine (I1.out).mono ?_; rintro e w' ⟨rfl, rfl⟩) | (go_at_call_of 21 (Value.string ⟨#[105, 102]⟩); refine (I2.out).mono ?_; rintro e w' ⟨rfl, rfl⟩) | (go_at_call_of 21 (Value.string ⟨#[119, 104, 105, 108, 101]⟩); refine (I3.out).mono ?_; rintro e w' ⟨rfl, rfl⟩) | (go_at_call_of 21 (Value.string ⟨#[102, 111, 114]⟩); refine (I4.out).mono ?_; rintro e w' ⟨rfl, rfl⟩))
  generalize hvv : World.alloc w2 _ = v1
  obtain ⟨sb, hsb⟩ : ∃ sb, sb = w2.heap.size := ⟨_, rfl⟩
  rw [← hsb]
  have HX1 : Hid (Sx w g fin d b sb Pw.zS l v1) := by show Sx _ _ _ _ _ _ _ _ _; rw [← hvv, hsb]; exact Sx.new HS0.out Pw.zS
  clear hvv hsb HS0 I0 I1 I2 I3 I4
  have I5 := Lib.hid (pis_no v1 g fin (d + 1) l [114, 101, 116, 117, 114, 110] HX1.out.sd.pb H5.out)
  have I6 := Lib.hid (pis_no v1 g fin (d + 1) l [98, 114, 101, 97, 107] HX1.out.sd.pb H6.out)
  have I7 := Lib.hid (pis_no v1 g fin (d + 1) l [99, 111, 110, 116, 105, 110, 117, 101] HX1.out.sd.pb H7.out)
  clear H5 H6 H7
  have HTY := Lib.hid (ptyped_ok v1 g fin (d + 1) l HX1.out.sd.pb)
  rw [HT.out] at HTY
  go_upto_region 38 with (first | (go_at_call_of 21 (Value.string ⟨#[114, 101, 116, 117, 114, 110]⟩); refine (I5.out).mono ?_; rintro e w' ⟨rfl, rfl⟩) | (go_at_call_of 21 (Value.string ⟨#[98, 114, 101, 97, 107]⟩); refine (I6.out).mono ?_; rintro e w' ⟨rfl, rfl⟩) | (go_at_call_of 21 (Value.string ⟨#[99, 111, 110, 116, 105, 110, 117, 101]⟩); refine (I7.out).mono ?_; rintro e w' ⟨rfl, rfl⟩) | (go_at_call 20; refine (HTY.out).mono ?_; rintro e v2 ⟨hc4, rfl, hpb⟩; have HX2 := Lib.hid (HX1.out.chg HG.out hc4 hpb); clear hc4 hpb))
  clear HTY HX1 I5 I6 I7
  generalize hvv : World.alloc v2 _ = v3
  obtain ⟨b7, hb7⟩ : ∃ b7, b7 = v2.heap.size := ⟨_, rfl⟩
  rw [← hb7]
  have HX3 : Hid (Sx w g fin d b sb Pw.zS l.tail v3) := by show Sx _ _ _ _ _ _ _ _ _; rw [← hvv]; exact HX2.out.keep (Ext.alloc (Below.refl _ _) _)
  have HT3 : Hid (Blk v3 b7 38 #[.int .i64 tb, .bool ts]) := by show Blk _ _ _ _; rw [← hvv, hb7]; exact Blk.new _ _ _
  have HG7 : Hid (b7 ≠ g) := by show b7 ≠ g; have h1 := HX2.out.sd.fz.lt; have h2 := HG.out; omega
  have HTI : Hid (∀ wi, Chg g v3 wi → Blk wi b7 38 #[.int .i64 tb, .bool ts]) := fun wi hc => (hc.block b7 HT3.out.lt (fun e => by injection e with e; exact HG7.out e)).trans HT3.out
  clear hvv hb7 HX2 HT3 HG7
  have HN := Lib.hid (fun wi (hp : Pb wi g fin (d + 1) l.tail) => pname_ok wi g fin (d + 1) l.tail hp)
  obtain ⟨rn, hrn⟩ : ∃ rn, rn = Ps.name fin l.tail := ⟨_, rfl⟩
  have HLA : Hid (∀ x l', rn = .ok (x, l') → l'.length < l.tail.length) := fun x l' h => Ps.name_lt (fin := fin) (hrn ▸ h)
  rw [← hrn] at HN HR0
  clear hrn
  cases rn with
  | error z =>
    have HRZ : Hid (R = .error z) := HR0.out
    apply Iy.wp_region 4 [2] (fun _ => []) (Ix.Rb) (fun mm vs wi => Hid (Chg g v3 wi) ∧ (match mm with | 0 => Pb wi g fin (d + 1) l.tail | _ + 1 => True)) (Iy.vp [(Iy.is (.agg #[.int .i64 tb, .bool ts])), (Iy.is _), (fun _ => False), (fun _ => False)]) (fun _ => false) (by kernel_rfl) (by kernel_rfl) (by kernel_rfl) (by kernel_rfl) (by kernel_rfl) (fun _ _ _ _ _ h => h) (fun _ => Below.refl _ _) (fun n vs _ _ h hb => ⟨h.1.out.trans (Chg.of_below hb), by cases n with | zero => exact h.2.keep hb | succ n => trivial⟩) (fun _ _ => Iy.vp_keeps _ _ _ _) (Ix.not_al _) (fun vs => ⟨Chg.of_below (Ext.drew (Below.refl _ _)), HX3.out.sd.pb.keep (Ext.drew (Below.refl _ _))⟩)
    case step =>
      refine zys 3 0 1 [] (fun _ _ wi HB => ?_) <| zys 2 1 2 [] (fun _ _ wi HB => ?_) <| zyc 1 2 3 0 [(1, some 94)] (fun vsp wi HB => ?_) <| zys 0 3 4 [(0, some 93), (2, some 95)] (fun _ _ wi HB => ?_) <| Iy.steps_nil
      (· (obtain ⟨HM, _⟩ := HB; have hz := HTI.out _ HM.out; have e0 := hz.cell 0; have e1 := hz.cell 1; (repeat (refine zya ?_; rintro _ rfl)); refine zye ?_; (try simp only [zyp]); refine Iy.goI_yes rfl rfl fun K hK => ?_; (try simp only [zyp] at hK); go_wp2_with (first | fail); exact hK _ _ (Below.refl _ _) rfl))
      (· ((repeat (refine zya ?_; rintro _ rfl)); refine zye ?_; (try simp only [zyp]); refine Iy.goI_yes rfl rfl fun K hK => ?_; (try simp only [zyp] at hK); go_wp2_with (first | fail); exact hK _ _ (Below.refl _ _) rfl))
      (· (obtain ⟨HM, hpb⟩ := HB; refine zya ?_; rintro _ ⟨rfl, ev1⟩; refine zye ?_; (try simp only [zyp]); refine Iy.goI_yes rfl rfl fun K hK => ?_; (try simp only [zyp] at hK); go_wp2_with (first | (go_at_call 23; refine (HN.out _ hpb).mono ?_; rintro e wa ⟨hca, hpa, rfl⟩)); refine Ix.onlyP fun tz => ?_; go_wp2_with (fail); have e9 := HRZ.out; subst e9; have HCv4 : Hid (Chg g v3 wa) := HM.out.trans hca; have HPv4 := Lib.hid hpa; (obtain ⟨v, f, D, hbk⟩ := (HPv4).out; refine leaves_cons (f := 89) (args := #[P b]) (by simp) (by simp [go_sem]) ?_; refine (pundeep_ok wa g b v f D _ hbk (HX3.out.sd).ne ((HCv4).out.cell (HX3.out.sd).ne (HX3.out.sd).cb)).mono ?_; rintro e u' w5 ⟨rfl, rfl, rfl⟩; simp only [Leaves, settle, Oops]; exact ⟨Chg.setCell ((HX3.out.sd).fz.chg.trans (HCv4).out) 2 _, ParA.up hbk, rfl⟩)))
      (· (obtain ⟨HM, _⟩ := HB; have hz := HTI.out _ HM.out; have e0 := hz.cell 0; have e1 := hz.cell 1; refine zya ?_; rintro _ rfl; refine zya ?_; rintro _ hf2; refine zye ?_; (try simp only [zyp]); refine Iy.goI_yes rfl rfl fun K hK => ?_; (try simp only [zyp] at hK); exact hf2.elim; skip))
    intro vsf wf HF hdf
    refine zyv 3 0 1 ?_; rintro _ _ rfl; refine zyv 2 1 2 ?_; rintro _ _ rfl; refine zyv 1 2 3 ?_; rintro _ _ hf2; refine zyv 0 3 4 ?_; rintro _ _ hf3
    refine Ix.allV_nil ?_
    (try simp only [Act.put, List.setIfInBounds_toArray, List.set_cons_zero, List.set_cons_succ, List.drop_succ_cons, List.drop_zero])
    go_wp2_with (first | fail)
    all_goals (first | refine Ix.only ?_ | (refine Ix.onlyP fun tz => ?_))
    all_goals exact hf2.elim
  | ok pf =>
    obtain ⟨n, t5⟩ := pf
    apply Iy.wp_region 4 [2] (fun _ => []) (Ix.Rb) (fun mm vs wi => Hid (Chg g v3 wi) ∧ (match mm with | 0 => Pb wi g fin (d + 1) l.tail | _ + 1 => Pb wi g fin (d + 1) t5)) (Iy.vp [(Iy.is (.agg #[.int .i64 tb, .bool ts])), (Iy.is _), (Iy.is (.string ⟨n.toArray⟩)), (Iy.is _)]) (fun _ => false) (by kernel_rfl) (by kernel_rfl) (by kernel_rfl) (by kernel_rfl) (by kernel_rfl) (fun _ _ _ _ _ h => h) (fun _ => Below.refl _ _) (fun n vs _ _ h hb => ⟨h.1.out.trans (Chg.of_below hb), by cases n with | zero => exact h.2.keep hb | succ n => exact h.2.keep hb⟩) (fun _ _ => Iy.vp_keeps _ _ _ _) (Ix.not_al _) (fun vs => ⟨Chg.of_below (Ext.drew (Below.refl _ _)), HX3.out.sd.pb.keep (Ext.drew (Below.refl _ _))⟩)
    case step =>
      refine zys 3 0 1 [] (fun _ _ wi HB => ?_) <| zys 2 1 2 [] (fun _ _ wi HB => ?_) <| zyc 1 2 3 0 [(1, some 94)] (fun vsp wi HB => ?_) <| zys 0 3 4 [(0, some 93), (2, some 95)] (fun _ _ wi HB => ?_) <| Iy.steps_nil
      (· (obtain ⟨HM, _⟩ := HB; have hz := HTI.out _ HM.out; have e0 := hz.cell 0; have e1 := hz.cell 1; (repeat (refine zya ?_; rintro _ rfl)); refine zye ?_; (try simp only [zyp]); refine Iy.goI_yes rfl rfl fun K hK => ?_; (try simp only [zyp] at hK); go_wp2_with (first | fail); exact hK _ _ (Below.refl _ _) rfl))
      (· ((repeat (refine zya ?_; rintro _ rfl)); refine zye ?_; (try simp only [zyp]); refine Iy.goI_yes rfl rfl fun K hK => ?_; (try simp only [zyp] at hK); go_wp2_with (first | fail); exact hK _ _ (Below.refl _ _) rfl))
      (· (obtain ⟨HM, hpb⟩ := HB; refine zya ?_; rintro _ ⟨rfl, ev1⟩; refine zye ?_; (try simp only [zyp]); refine Iy.goI_yes rfl rfl fun K hK => ?_; (try simp only [zyp] at hK); go_wp2_with (first | (go_at_call 23; refine (HN.out _ hpb).mono ?_; rintro e wa ⟨hca, hpa, rfl, hpb2⟩)); exact hK _ _ ⟨⟨HM.out.trans hca, hpb2⟩, fun _ _ h => h⟩ rfl))
      (· ((repeat (refine zya ?_; rintro _ rfl)); refine zye ?_; (try simp only [zyp]); refine Iy.goI_yes rfl rfl fun K hK => ?_; (try simp only [zyp] at hK); go_wp2_with (first | fail); exact hK _ _ (Below.refl _ _) rfl))
    intro vsf wf HF hdf
    refine zyv 3 0 1 ?_; rintro _ _ rfl; refine zyv 2 1 2 ?_; rintro _ _ rfl; refine zyv 1 2 3 ?_; rintro _ _ rfl; refine zyv 0 3 4 ?_; rintro _ _ rfl
    refine Ix.allV_nil ?_
    obtain ⟨HMF, hpbf⟩ := HF; have HX4 := Lib.hid (HX3.out.chg HG.out HMF.out hpbf); clear hpbf
    (try simp only [Act.put, List.setIfInBounds_toArray, List.set_cons_zero, List.set_cons_succ, List.drop_succ_cons, List.drop_zero])
    go_wp2_with (first | (refine wpList_store_row rfl 56 _ _ rfl sb #[.int .i64 2, .int .i64 tb, .bool ts, .string ⟨n.toArray⟩, .bool false, .int .i64 0, .int .u64 0, .int .i64 0, .bool false, .string ⟨#[]⟩, .slice none 0 0, .int .i64 0, .int .u64 0, .int .i64 0, .bool false, .string ⟨#[]⟩, .slice none 0 0, .slice none 0 0, .slice none 0 0, .slice none 0 0, .slice none 0 0] rfl rfl 56 Pw.zS HX4.out.sb (by kernel_rfl) rfl (Pw.one21 _ _ _ _ _ _ _ _ _ _ _ _ _ _ _ _ _ _ _ _ _ _ _ _ _ _ _ _ _ _ _ _ _) ?_))
    all_goals (first | refine Ix.only ?_ | (refine Ix.onlyP fun tz => ?_))
    go_upto_region 39 with (fail)
    generalize hvv : World.setRow wf _ _ = v5
    have HX5 : Hid (Sx w g fin d b sb #[.int .i64 2, .int .i64 tb, .bool ts, .string ⟨n.toArray⟩, .bool false, .int .i64 0, .int .u64 0, .int .i64 0, .bool false, .string ⟨#[]⟩, .slice none 0 0, .int .i64 0, .int .u64 0, .int .i64 0, .bool false, .string ⟨#[]⟩, .slice none 0 0, .slice none 0 0, .slice none 0 0, .slice none 0 0, .slice none 0 0] t5 v5) := by show Sx _ _ _ _ _ _ _ _ _; rw [← hvv]; exact HX4.out.row HG.out _
    have HQ5 : Hid (t5.length < l.length) := Nat.lt_trans (HLA.out _ _ rfl) HQ1.out
    have HR1 : Hid (R = if Ps.sees [61] t5 = true then Ps.seq (F.expr (d + 1) t5.tail) fun q0 m0 => Ps.seq (Ps.need fin [59] m0) fun _ m1 => .ok ((.mk 2 tb ts ⟨n.toArray⟩ true q0 Ps.xz [] [] [] [] : S), m1) else Ps.seq (Ps.need fin [59] t5) fun _ m0 => .ok ((.mk 2 tb ts ⟨n.toArray⟩ false Ps.xz Ps.xz [] [] [] [] : S), m0)) := HR0.out
    clear hvv HX4 HX3 HN HLA HTI HQ1 HR0 HMF
    cases hs9 : Ps.sees [61] t5 with
    | true =>
      have HI9 := Lib.hid (pis_yes v5 g fin (d + 1) t5 [61] HX5.out.sd.pb hs9)
      have HQ7 : Hid ((t5.tail).length < l.length) := Nat.lt_trans (Ps.sees_lt hs9) HQ5.out
      have HR2 : Hid (R = Ps.seq (F.expr (d + 1) t5.tail) fun q0 m0 => Ps.seq (Ps.need fin [59] m0) fun _ m1 => .ok ((.mk 2 tb ts ⟨n.toArray⟩ true q0 Ps.xz [] [] [] [] : S), m1)) := by show R = _; rw [HR1.out, if_pos hs9]
      clear hs9 HR1
      go_upto_region 41 with (first | (go_at_call_of 21 (Value.string ⟨#[61]⟩); refine (HI9.out).mono ?_; rintro e v6 ⟨rfl, hc1, hb1⟩; have HCv6 := Lib.hid hc1; have HX6 := Lib.hid (HX5.out.chg HG.out hc1 hb1); have e4 := HX6.out.sb.cell 4; have f4 := HX6.out.sb.frozen 4; clear hc1 hb1))
      generalize hvv : World.setCell v6 _ _ = v7
      have HX7 : Hid (Sx w g fin d b sb #[.int .i64 2, .int .i64 tb, .bool ts, .string ⟨n.toArray⟩, .bool true, .int .i64 0, .int .u64 0, .int .i64 0, .bool false, .string ⟨#[]⟩, .slice none 0 0, .int .i64 0, .int .u64 0, .int .i64 0, .bool false, .string ⟨#[]⟩, .slice none 0 0, .slice none 0 0, .slice none 0 0, .slice none 0 0, .slice none 0 0] t5.tail v7) := by show Sx _ _ _ _ _ _ _ _ _; rw [← hvv]; simpa using HX6.out.set HG.out 4 (.bool true)
      have TH5 : Hid (Thr w.heap.size sb v5 v6) := HCv6.out.thr (Nat.le_of_lt HG.out)
      have TH6 : Hid (Thr w.heap.size sb v6 v7) := by show Thr _ _ _ _; rw [← hvv]; exact Thr.set _ _
      clear hvv e4 f4 HI9 HCv6
      have HE := Lib.hid (HH.out.ex v7 t5.tail (Nat.le_of_lt HQ7.out) HX7.out.sd.pb)
      obtain ⟨rA, hrA⟩ : ∃ r, r = F.expr (d + 1) t5.tail := ⟨_, rfl⟩
      have HLA : Hid (∀ x l', rA = .ok (x, l') → l'.length < (t5.tail).length) := fun x l' h => HH.out.less.expr (hrA ▸ h)
      rw [← hrA] at HE HR2
      clear hrA
      go_upto_region 52 with (first | (go_at_call 46; refine (HE.out).mono ?_; rintro e v8 ⟨hc4, hp4, hr4⟩; have HCv8 := Lib.hid hc4; have HPv8 := Lib.hid hp4; clear hc4 hp4; rcases rA with z | ⟨y, t8⟩; (obtain rfl := hr4); rotate_left; (obtain ⟨cs, rfl, hin, hpb⟩ := hr4; obtain ⟨ya, yc, rfl⟩ := Pw.form hin; have HIY := Lib.hid hin; have HX8 := Lib.hid (HX7.out.chg HG.out HCv8.out hpb); clear hin hpb); rotate_left) | (refine wpList_store_sub rfl 54 _ _ rfl sb 5 [.int .i64 y.kind, .int .u64 y.num, .int .i64 y.bits, .bool y.sg, .string y.name, .slice ya y.kids.length yc] rfl rfl 56 _ #[.int .i64 2, .int .i64 tb, .bool ts, .string ⟨n.toArray⟩, .bool true, .int .i64 y.kind, .int .u64 y.num, .int .i64 y.bits, .bool y.sg, .string y.name, .slice ya y.kids.length yc, .int .i64 0, .int .u64 0, .int .i64 0, .bool false, .string ⟨#[]⟩, .slice none 0 0, .slice none 0 0, .slice none 0 0, .slice none 0 0, .slice none 0 0] HX8.out.sb (by kernel_rfl) (show 5 + 6 ≤ 21 by decide) HIY.out.ones rfl ?_))
      · obtain rfl : R = .error z := HR2.out
        (obtain ⟨v, f, D, hbk⟩ := (HPv8).out; refine leaves_cons (f := 89) (args := #[P b]) (by simp) (by simp [go_sem]) ?_; refine (pundeep_ok v8 g b v f D _ hbk (HX7.out.sd).ne ((HCv8).out.cell (HX7.out.sd).ne (HX7.out.sd).cb)).mono ?_; rintro e u' w5 ⟨rfl, rfl, rfl⟩; simp only [Leaves, settle, Oops]; exact ⟨Chg.setCell ((HX7.out.sd).fz.chg.trans (HCv8).out) 2 _, ParA.up hbk, rfl⟩)
      have HR3 : Hid (R = Ps.seq (Ps.need fin [59] t8) fun _ m0 => .ok ((.mk 2 tb ts ⟨n.toArray⟩ true y Ps.xz [] [] [] [] : S), m0)) := HR2.out
      generalize hvv : World.setRow v8 _ _ = v9
      have HX9 : Hid (Sx w g fin d b sb #[.int .i64 2, .int .i64 tb, .bool ts, .string ⟨n.toArray⟩, .bool true, .int .i64 y.kind, .int .u64 y.num, .int .i64 y.bits, .bool y.sg, .string y.name, .slice ya y.kids.length yc, .int .i64 0, .int .u64 0, .int .i64 0, .bool false, .string ⟨#[]⟩, .slice none 0 0, .slice none 0 0, .slice none 0 0, .slice none 0 0, .slice none 0 0] t8 v9) := by show Sx _ _ _ _ _ _ _ _ _; rw [← hvv]; exact HX8.out.row HG.out _
      have TH7 : Hid (Thr w.heap.size sb v7 v8) := HCv8.out.thr (Nat.le_of_lt HG.out)
      have TH8 : Hid (Thr w.heap.size sb v8 v9) := by show Thr _ _ _ _; rw [← hvv]; exact Thr.row _
      have HQ9 : Hid ((t8).length < l.length) := Nat.lt_trans (HLA.out _ _ rfl) HQ7.out
      clear hvv HE HLA HR2 HCv8 HPv8
      have HN := Lib.hid (pneed_ok v9 g fin (d + 1) t8 [59] HX9.out.sd.pb)
      obtain ⟨rA, hrA⟩ : ∃ r, r = Ps.need fin [59] t8 := ⟨_, rfl⟩
      have HLA : Hid (∀ x l', rA = .ok (x, l') → l'.length < (t8).length) := fun x l' h => Ps.need_lt (fin := fin) (s := [59]) (u := x) (hrA ▸ h)
      rw [← hrA] at HN HR3
      clear hrA
      go_upto_region 53 with (first | (go_at_call_of 44 (Value.string ⟨#[59]⟩); refine (HN.out).mono ?_; rintro e v10 ⟨hc6, hp6, hr6⟩; have HCv10 := Lib.hid hc6; have HPv10 := Lib.hid hp6; clear hc6 hp6; rcases rA with z | ⟨y0, t10⟩; (obtain rfl := hr6); rotate_left; (obtain ⟨rfl, hpb⟩ := hr6; have HPN := Lib.hid hpb; clear hpb); rotate_left))
      · obtain rfl : R = .error z := HR3.out
        (obtain ⟨v, f, D, hbk⟩ := (HPv10).out; refine leaves_cons (f := 89) (args := #[P b]) (by simp) (by simp [go_sem]) ?_; refine (pundeep_ok v10 g b v f D _ hbk (HX9.out.sd).ne ((HCv10).out.cell (HX9.out.sd).ne (HX9.out.sd).cb)).mono ?_; rintro e u' w5 ⟨rfl, rfl, rfl⟩; simp only [Leaves, settle, Oops]; exact ⟨Chg.setCell ((HX9.out.sd).fz.chg.trans (HCv10).out) 2 _, ParA.up hbk, rfl⟩)
      have HR4 : Hid (R = .ok ((.mk 2 tb ts ⟨n.toArray⟩ true y Ps.xz [] [] [] [] : S), t10)) := HR3.out
      have HX10 := Lib.hid (HX9.out.chg HG.out HCv10.out HPN.out)
      have TH9 : Hid (Thr w.heap.size sb v9 v10) := HCv10.out.thr (Nat.le_of_lt HG.out)
      have HQ10 : Hid ((t10).length < l.length) := Nat.lt_trans (HLA.out _ _ rfl) HQ9.out
      clear HN HLA HR3 HPN HCv10 HPv10
      go_wp2_with (first | (refine wpList_load_row rfl 56 _ rfl sb rfl 56 #[.int .i64 2, .int .i64 tb, .bool ts, .string ⟨n.toArray⟩, .bool true, .int .i64 y.kind, .int .u64 y.num, .int .i64 y.bits, .bool y.sg, .string y.name, .slice ya y.kids.length yc, .int .i64 0, .int .u64 0, .int .i64 0, .bool false, .string ⟨#[]⟩, .slice none 0 0, .slice none 0 0, .slice none 0 0, .slice none 0 0, .slice none 0 0] (0, 0) _ (HX10.out.sb) Try.underlying56 rfl (by kernel_rfl) ?_) | (refine wpList_store_row rfl 56 _ _ rfl w.heap.size #[.int .i64 2, .int .i64 tb, .bool ts, .string ⟨n.toArray⟩, .bool true, .int .i64 y.kind, .int .u64 y.num, .int .i64 y.bits, .bool y.sg, .string y.name, .slice ya y.kids.length yc, .int .i64 0, .int .u64 0, .int .i64 0, .bool false, .string ⟨#[]⟩, .slice none 0 0, .slice none 0 0, .slice none 0 0, .slice none 0 0, .slice none 0 0] rfl rfl 56 Pw.zS (HX10.out.sd.fz.z) (by kernel_rfl) rfl (Pw.one21 _ _ _ _ _ _ _ _ _ _ _ _ _ _ _ _ _ _ _ _ _ _ _ _ _ _ _ _ _ _ _ _ _) ?_))
      obtain rfl : R = .ok ((.mk 2 tb ts ⟨n.toArray⟩ true y Ps.xz [] [] [] [] : S), t10) := HR4.out
      (obtain ⟨row, hrow⟩ : ∃ row : Array Value, row = #[.int .i64 2, .int .i64 tb, .bool ts, .string ⟨n.toArray⟩, .bool true, .int .i64 y.kind, .int .u64 y.num, .int .i64 y.bits, .bool y.sg, .string y.name, .slice ya y.kids.length yc, .int .i64 0, .int .u64 0, .int .i64 0, .bool false, .string ⟨#[]⟩, .slice none 0 0, .slice none 0 0, .slice none 0 0, .slice none 0 0, .slice none 0 0] := ⟨_, rfl⟩; rw [← hrow])
      have hx : LS v10 (fun k => w.heap.size < k) (.mk 2 tb ts ⟨n.toArray⟩ true y Ps.xz [] [] [] [] : S) (S.cells 2 tb ts ⟨n.toArray⟩ true (X.cells y.kind y.num y.bits y.sg y.name (.slice ya y.kids.length yc)) [.int .i64 0, .int .u64 0, .int .i64 0, .bool false, .string ⟨#[]⟩, .slice none 0 0] (.slice none 0 0) (.slice none 0 0) (.slice none 0 0) (.slice none 0 0)) := .mk _ _ _ _ _ _ _ _ _ _ _ _ _ _ _ _ _ (HIY.out.thr HX7.out.sb.lt (Nat.lt_trans HX7.out.lt HX7.out.sb.lt) (TH8.out.trans (TH9.out))) (xz_in _ _) (sz_in _ _) (sz_in _ _) (sz_in _ _) (sz_in _ _)
      (obtain ⟨v, hbk, hcb, hz, hpost⟩ := Fz.upL (b := b) layS (HX10.out.sd).fz HG.out (Nat.le_of_lt HDD.out) (HX10.out.sd).pb hx row hrow (HX10.out.sd).ne (HX10.out.sd).lt (HX10.out.sd).cb; refine leaves_cons (f := 89) (args := #[P b]) (by simp) (by simp [go_sem]) ?_; refine (pundeep_ok _ g b v _ _ _ hbk (HX10.out.sd).ne hcb).mono ?_; rintro e u' w6 ⟨rfl, rfl, rfl⟩; exact ⟨_, Pw.res_cell rfl _ _ w.heap.size 56 row (0, 0) _ rfl hz Try.underlying56 rfl (by subst hrow; kernel_rfl), hpost⟩)
    | false =>
      have HI9 := Lib.hid (pis_no v5 g fin (d + 1) t5 [61] HX5.out.sd.pb hs9)
      have HR2 : Hid (R = Ps.seq (Ps.need fin [59] t5) fun _ m0 => .ok ((.mk 2 tb ts ⟨n.toArray⟩ false Ps.xz Ps.xz [] [] [] [] : S), m0)) := by show R = _; rw [HR1.out, if_neg (by rw [hs9]; decide)]
      clear hs9 HR1
      have e4 := HX5.out.sb.cell 4
      have f4 := HX5.out.sb.frozen 4
      go_upto_region 52 with (first | (go_at_call_of 21 (Value.string ⟨#[61]⟩); refine (HI9.out).mono ?_; rintro e w' ⟨rfl, rfl⟩))
      generalize hvv : World.setCell v5 _ _ = v6
      have HX6 : Hid (Sx w g fin d b sb #[.int .i64 2, .int .i64 tb, .bool ts, .string ⟨n.toArray⟩, .bool false, .int .i64 0, .int .u64 0, .int .i64 0, .bool false, .string ⟨#[]⟩, .slice none 0 0, .int .i64 0, .int .u64 0, .int .i64 0, .bool false, .string ⟨#[]⟩, .slice none 0 0, .slice none 0 0, .slice none 0 0, .slice none 0 0, .slice none 0 0] t5 v6) := by show Sx _ _ _ _ _ _ _ _ _; rw [← hvv]; simpa using HX5.out.set HG.out 4 (.bool false)
      have TH5 : Hid (Thr w.heap.size sb v5 v6) := by show Thr _ _ _ _; rw [← hvv]; exact Thr.set _ _
      have HQ6 := Lib.hid HQ5.out
      clear hvv e4 f4 HI9
      have HN := Lib.hid (pneed_ok v6 g fin (d + 1) t5 [59] HX6.out.sd.pb)
      obtain ⟨rA, hrA⟩ : ∃ r, r = Ps.need fin [59] t5 := ⟨_, rfl⟩
      have HLA : Hid (∀ x l', rA = .ok (x, l') → l'.length < (t5).length) := fun x l' h => Ps.need_lt (fin := fin) (s := [59]) (u := x) (hrA ▸ h)
      rw [← hrA] at HN HR2
      clear hrA
      go_upto_region 53 with (first | (go_at_call_of 44 (Value.string ⟨#[59]⟩); refine (HN.out).mono ?_; rintro e v7 ⟨hc6, hp6, hr6⟩; have HCv7 := Lib.hid hc6; have HPv7 := Lib.hid hp6; clear hc6 hp6; rcases rA with z | ⟨y0, t7⟩; (obtain rfl := hr6); rotate_left; (obtain ⟨rfl, hpb⟩ := hr6; have HPN := Lib.hid hpb; clear hpb); rotate_left))
      · obtain rfl : R = .error z := HR2.out
        (obtain ⟨v, f, D, hbk⟩ := (HPv7).out; refine leaves_cons (f := 89) (args := #[P b]) (by simp) (by simp [go_sem]) ?_; refine (pundeep_ok v7 g b v f D _ hbk (HX6.out.sd).ne ((HCv7).out.cell (HX6.out.sd).ne (HX6.out.sd).cb)).mono ?_; rintro e u' w5 ⟨rfl, rfl, rfl⟩; simp only [Leaves, settle, Oops]; exact ⟨Chg.setCell ((HX6.out.sd).fz.chg.trans (HCv7).out) 2 _, ParA.up hbk, rfl⟩)
      have HR3 : Hid (R = .ok ((.mk 2 tb ts ⟨n.toArray⟩ false Ps.xz Ps.xz [] [] [] [] : S), t7)) := HR2.out
      have HX7 := Lib.hid (HX6.out.chg HG.out HCv7.out HPN.out)
      have TH6 : Hid (Thr w.heap.size sb v6 v7) := HCv7.out.thr (Nat.le_of_lt HG.out)
      have HQ7 : Hid ((t7).length < l.length) := Nat.lt_trans (HLA.out _ _ rfl) HQ6.out
      clear HN HLA HR2 HPN HCv7 HPv7
      go_wp2_with (first | (refine wpList_load_row rfl 56 _ rfl sb rfl 56 #[.int .i64 2, .int .i64 tb, .bool ts, .string ⟨n.toArray⟩, .bool false, .int .i64 0, .int .u64 0, .int .i64 0, .bool false, .string ⟨#[]⟩, .slice none 0 0, .int .i64 0, .int .u64 0, .int .i64 0, .bool false, .string ⟨#[]⟩, .slice none 0 0, .slice none 0 0, .slice none 0 0, .slice none 0 0, .slice none 0 0] (0, 0) _ (HX7.out.sb) Try.underlying56 rfl (by kernel_rfl) ?_) | (refine wpList_store_row rfl 56 _ _ rfl w.heap.size #[.int .i64 2, .int .i64 tb, .bool ts, .string ⟨n.toArray⟩, .bool false, .int .i64 0, .int .u64 0, .int .i64 0, .bool false, .string ⟨#[]⟩, .slice none 0 0, .int .i64 0, .int .u64 0, .int .i64 0, .bool false, .string ⟨#[]⟩, .slice none 0 0, .slice none 0 0, .slice none 0 0, .slice none 0 0, .slice none 0 0] rfl rfl 56 Pw.zS (HX7.out.sd.fz.z) (by kernel_rfl) rfl (Pw.one21 _ _ _ _ _ _ _ _ _ _ _ _ _ _ _ _ _ _ _ _ _ _ _ _ _ _ _ _ _ _ _ _ _) ?_))
      obtain rfl : R = .ok ((.mk 2 tb ts ⟨n.toArray⟩ false Ps.xz Ps.xz [] [] [] [] : S), t7) := HR3.out
      (obtain ⟨row, hrow⟩ : ∃ row : Array Value, row = #[.int .i64 2, .int .i64 tb, .bool ts, .string ⟨n.toArray⟩, .bool false, .int .i64 0, .int .u64 0, .int .i64 0, .bool false, .string ⟨#[]⟩, .slice none 0 0, .int .i64 0, .int .u64 0, .int .i64 0, .bool false, .string ⟨#[]⟩, .slice none 0 0, .slice none 0 0, .slice none 0 0, .slice none 0 0, .slice none 0 0] := ⟨_, rfl⟩; rw [← hrow])
      have hx : LS v7 (fun k => w.heap.size < k) (.mk 2 tb ts ⟨n.toArray⟩ false Ps.xz Ps.xz [] [] [] [] : S) (S.cells 2 tb ts ⟨n.toArray⟩ false [.int .i64 0, .int .u64 0, .int .i64 0, .bool false, .string ⟨#[]⟩, .slice none 0 0] [.int .i64 0, .int .u64 0, .int .i64 0, .bool false, .string ⟨#[]⟩, .slice none 0 0] (.slice none 0 0) (.slice none 0 0) (.slice none 0 0) (.slice none 0 0)) := .mk _ _ _ _ _ _ _ _ _ _ _ _ _ _ _ _ _ (xz_in _ _) (xz_in _ _) (sz_in _ _) (sz_in _ _) (sz_in _ _) (sz_in _ _)
      (obtain ⟨v, hbk, hcb, hz, hpost⟩ := Fz.upL (b := b) layS (HX7.out.sd).fz HG.out (Nat.le_of_lt HDD.out) (HX7.out.sd).pb hx row hrow (HX7.out.sd).ne (HX7.out.sd).lt (HX7.out.sd).cb; refine leaves_cons (f := 89) (args := #[P b]) (by simp) (by simp [go_sem]) ?_; refine (pundeep_ok _ g b v _ _ _ hbk (HX7.out.sd).ne hcb).mono ?_; rintro e u' w6 ⟨rfl, rfl, rfl⟩; exact ⟨_, Pw.res_cell rfl _ _ w.heap.size 56 row (0, 0) _ rfl hz Try.underlying56 rfl (by subst hrow; kernel_rfl), hpost⟩)
set_option maxHeartbeats 8000000 in
theorem pstat_set (w : World) (g fin d : Nat) (l : List Tk.Tok) (F : Ps.F) (h : Pb w g fin d l) (hd : d < 400) (hh : StH g fin (d + 1) F l.length) (h0 : Ps.sees [59] l = false) (h1 : Ps.sees [123] l = false) (h2 : Ps.sees [105, 102] l = false) (h3 : Ps.sees [119, 104, 105, 108, 101] l = false) (h4 : Ps.sees [102, 111, 114] l = false) (h5 : Ps.sees [114, 101, 116, 117, 114, 110] l = false) (h6 : Ps.sees [98, 114, 101, 97, 107] l = false) (h7 : Ps.sees [99, 111, 110, 116, 105, 110, 117, 101] l = false) (ht : Ps.typed l = none) :
    Calls Try.prog 67 #[P g] w (PsR g fin d w (Ps.seq (Ps.setS F fin (d + 1) l) fun y m => Ps.seq (Ps.need fin [59] m) fun _ m2 => .ok (y, m2))) := by
  have hgl : g < w.heap.size := by obtain ⟨v, hb, _⟩ := h; exact hb.lt
  have HG := Lib.hid hgl
  have HH := Lib.hid hh
  have HDD := Lib.hid hd
  obtain ⟨w0, hw0⟩ : ∃ w0, w0 = w.alloc (.cells Pw.zS 56) := ⟨_, rfl⟩
  have HF0 : Hid (Fz w g 56 Pw.zS w0) := by show Fz _ _ _ _ _; rw [hw0]; exact Fz.new ..
  have hp0 : Pb w0 g fin d l := by rw [hw0]; exact h.keep (Ext.alloc (Below.refl _ _) _)
  have HD := Lib.hid (pdeeper_ok w0 g fin d l hp0 hd)
  obtain ⟨R, hR⟩ : ∃ R, R = (Ps.seq (Ps.setS F fin (d + 1) l) fun y m => Ps.seq (Ps.need fin [59] m) fun _ m2 => .ok (y, m2) : Ps.Res S) := ⟨_, rfl⟩
  rw [← hR]
  have HR0 := Lib.hid hR
  have HT := Lib.hid ht
  have H0 := Lib.hid h0
  have H1 := Lib.hid h1
  have H2 := Lib.hid h2
  have H3 := Lib.hid h3
  have H4 := Lib.hid h4
  have H5 := Lib.hid h5
  have H6 := Lib.hid h6
  have H7 := Lib.hid h7
  clear ht h hd hh hgl hp0 hR h0 h1 h2 h3 h4 h5 h6 h7
  go_enter_defers Try.func67, Try.ntmps67
  go_upto_region 1 with (fail)
  rw [← hw0]
  clear hw0
  go_upto_region 2 with (first | (go_at_call 68; refine HD.out.mono ?_; rintro e w2 ⟨b, rfl, hne, hle, hcb, hc2, hp2⟩; have HD2 := Lib.hid (And.intro hne (And.intro hle (And.intro hcb (And.intro hc2 hp2)))); clear hne hle hcb hc2 hp2))
  have HS0 : Hid (Sd w g fin d b l w2) := ⟨HF0.out.step HG.out HD2.out.2.2.2.1, HD2.out.2.2.2.2, HD2.out.1, Nat.lt_of_lt_of_le HF0.out.lt HD2.out.2.1, HD2.out.2.2.1⟩
  clear HD HD2 HF0
  have I0 := Lib.hid (pis_no w2 g fin (d + 1) l [59] HS0.out.pb H0.out)
  have I1 := Lib.hid (pis_no w2 g fin (d + 1) l [123] HS0.out.pb H1.out)
  have I2 := Lib.hid (pis_no w2 g fin (d + 1) l [105, 102] HS0.out.pb H2.out)
  have I3 := Lib.hid (pis_no w2 g fin (d + 1) l [119, 104, 105, 108, 101] HS0.out.pb H3.out)
  have I4 := Lib.hid (pis_no w2 g fin (d + 1) l [102, 111, 114] HS0.out.pb H4.out)
  clear H0 H1 H2 H3 H4
  go_upto_region 43 with (first | (go_at_call_of 21 (Value.string ⟨#[59]⟩); refine (I0.out).mono ?_; rintro e w' ⟨rfl, rfl⟩) | (go_at_call_of 21 (Value.string ⟨#[123]⟩); refine (I1.out).mono ?_; rintro e w' ⟨rfl, rfl⟩) | (go_at_call_of 21 (Value.string ⟨#[105, 102]⟩); refine (I2.out).mono ?_; rintro e w' ⟨rfl, rfl⟩) | (go_at_call_of 21 (Value.string ⟨#[119, 104, 105, 108, 101]⟩); refine (I3.out).mono ?_; rintro e w' ⟨rfl, rfl⟩) | (go_at_call_of 21 (Value.string ⟨#[102, 111, 114]⟩); refine (I4.out).mono ?_; rintro e w' ⟨rfl, rfl⟩))
  generalize hvv : World.alloc w2 _ = v1
  obtain ⟨sb, hsb⟩ : ∃ sb, sb = w2.heap.size := ⟨_, rfl⟩
  rw [← hsb]
  have HX1 : Hid (Sx w g fin d b sb Pw.zS l v1) := by show Sx _ _ _ _ _ _ _ _ _; rw [← hvv, hsb]; exact Sx.new HS0.out Pw.zS
  clear hvv hsb HS0 I0 I1 I2 I3 I4
  have I5 := Lib.hid (pis_no v1 g fin (d + 1) l [114, 101, 116, 117, 114, 110] HX1.out.sd.pb H5.out)
  have I6 := Lib.hid (pis_no v1 g fin (d + 1) l [98, 114, 101, 97, 107] HX1.out.sd.pb H6.out)
  have I7 := Lib.hid (pis_no v1 g fin (d + 1) l [99, 111, 110, 116, 105, 110, 117, 101] HX1.out.sd.pb H7.out)
  clear H5 H6 H7
  have HTY := Lib.hid (ptyped_ok v1 g fin (d + 1) l HX1.out.sd.pb)
  rw [HT.out] at HTY
  go_upto_region 42 with (first | (go_at_call_of 21 (Value.string ⟨#[114, 101, 116, 117, 114, 110]⟩); refine (I5.out).mono ?_; rintro e w' ⟨rfl, rfl⟩) | (go_at_call_of 21 (Value.string ⟨#[98, 114, 101, 97, 107]⟩); refine (I6.out).mono ?_; rintro e w' ⟨rfl, rfl⟩) | (go_at_call_of 21 (Value.string ⟨#[99, 111, 110, 116, 105, 110, 117, 101]⟩); refine (I7.out).mono ?_; rintro e w' ⟨rfl, rfl⟩) | (go_at_call 20; refine (HTY.out).mono ?_; rintro e v2 ⟨hc4, rfl, hpb⟩; have HX2 := Lib.hid (HX1.out.chg HG.out hc4 hpb); clear hc4 hpb))
  clear HTY HX1 I5 I6 I7
  generalize hvv : World.alloc v2 _ = v3
  have HX3 : Hid (Sx w g fin d b sb Pw.zS l v3) := by show Sx _ _ _ _ _ _ _ _ _; rw [← hvv]; exact HX2.out.keep (Ext.alloc (Below.refl _ _) _)
  clear hvv HX2
  have HE := Lib.hid (HH.out.set v3 l (Nat.le_refl _) HX3.out.sd.pb)
  obtain ⟨rA, hrA⟩ : ∃ r, r = Ps.setS F fin (d + 1) l := ⟨_, rfl⟩
  rw [← hrA] at HE HR0
  clear hrA
  go_upto_region 52 with (first | (go_at_call 88; refine (HE.out).mono ?_; rintro e v4 ⟨hc4, hp4, hr4⟩; have HCv4 := Lib.hid hc4; have HPv4 := Lib.hid hp4; clear hc4 hp4; rcases rA with z | ⟨y, t4⟩; (obtain rfl := hr4); rotate_left; (obtain ⟨cs, rfl, hin, hpb⟩ := hr4; obtain ⟨xa, xc, ia, ic, a0, c0, a1, c1, a2, c2, a3, c3, rfl, _⟩ := Pw.formS hin; have HIY := Lib.hid hin; have HX4 := Lib.hid (HX3.out.chg HG.out HCv4.out hpb); clear hin hpb); rotate_left) | (refine wpList_store_row rfl 56 _ _ rfl sb #[.int .i64 y.kind, .int .i64 y.bits, .bool y.sg, .string y.name, .bool y.has, .int .i64 y.xx.kind, .int .u64 y.xx.num, .int .i64 y.xx.bits, .bool y.xx.sg, .string y.xx.name, .slice xa y.xx.kids.length xc, .int .i64 y.ii.kind, .int .u64 y.ii.num, .int .i64 y.ii.bits, .bool y.ii.sg, .string y.ii.name, .slice ia y.ii.kids.length ic, .slice a0 y.ini.length c0, .slice a1 y.step.length c1, .slice a2 y.body.length c2, .slice a3 y.els.length c3] rfl rfl 56 Pw.zS HX4.out.sb (by kernel_rfl) rfl (Pw.one21 _ _ _ _ _ _ _ _ _ _ _ _ _ _ _ _ _ _ _ _ _ _ _ _ _ _ _ _ _ _ _ _ _) ?_))
  · obtain rfl : R = .error z := HR0.out
    (obtain ⟨v, f, D, hbk⟩ := (HPv4).out; refine leaves_cons (f := 89) (args := #[P b]) (by simp) (by simp [go_sem]) ?_; refine (pundeep_ok v4 g b v f D _ hbk (HX3.out.sd).ne ((HCv4).out.cell (HX3.out.sd).ne (HX3.out.sd).cb)).mono ?_; rintro e u' w5 ⟨rfl, rfl, rfl⟩; simp only [Leaves, settle, Oops]; exact ⟨Chg.setCell ((HX3.out.sd).fz.chg.trans (HCv4).out) 2 _, ParA.up hbk, rfl⟩)
  generalize hvv : World.setRow v4 _ _ = v5
  have HX5 : Hid (Sx w g fin d b sb #[.int .i64 y.kind, .int .i64 y.bits, .bool y.sg, .string y.name, .bool y.has, .int .i64 y.xx.kind, .int .u64 y.xx.num, .int .i64 y.xx.bits, .bool y.xx.sg, .string y.xx.name, .slice xa y.xx.kids.length xc, .int .i64 y.ii.kind, .int .u64 y.ii.num, .int .i64 y.ii.bits, .bool y.ii.sg, .string y.ii.name, .slice ia y.ii.kids.length ic, .slice a0 y.ini.length c0, .slice a1 y.step.length c1, .slice a2 y.body.length c2, .slice a3 y.els.length c3] t4 v5) := by show Sx _ _ _ _ _ _ _ _ _; rw [← hvv]; exact HX4.out.row HG.out _
  have TH4 : Hid (Thr w.heap.size sb v4 v5) := by show Thr _ _ _ _; rw [← hvv]; exact Thr.row _
  have HR1 : Hid (R = Ps.seq (Ps.need fin [59] t4) fun _ m2 => .ok (y, m2)) := HR0.out
  clear hvv HE HR0 HCv4 HPv4 HX4
  have HN := Lib.hid (pneed_ok v5 g fin (d + 1) t4 [59] HX5.out.sd.pb)
  obtain ⟨rA, hrA⟩ : ∃ r, r = Ps.need fin [59] t4 := ⟨_, rfl⟩
  rw [← hrA] at HN HR1
  clear hrA
  go_upto_region 53 with (first | (go_at_call_of 44 (Value.string ⟨#[59]⟩); refine (HN.out).mono ?_; rintro e v6 ⟨hc6, hp6, hr6⟩; have HCv6 := Lib.hid hc6; have HPv6 := Lib.hid hp6; clear hc6 hp6; rcases rA with z | ⟨y0, t6⟩; (obtain rfl := hr6); rotate_left; (obtain ⟨rfl, hpb⟩ := hr6; have HPN := Lib.hid hpb; clear hpb); rotate_left))
  · obtain rfl : R = .error z := HR1.out
    (obtain ⟨v, f, D, hbk⟩ := (HPv6).out; refine leaves_cons (f := 89) (args := #[P b]) (by simp) (by simp [go_sem]) ?_; refine (pundeep_ok v6 g b v f D _ hbk (HX5.out.sd).ne ((HCv6).out.cell (HX5.out.sd).ne (HX5.out.sd).cb)).mono ?_; rintro e u' w5 ⟨rfl, rfl, rfl⟩; simp only [Leaves, settle, Oops]; exact ⟨Chg.setCell ((HX5.out.sd).fz.chg.trans (HCv6).out) 2 _, ParA.up hbk, rfl⟩)
  have HX6 := Lib.hid (HX5.out.chg HG.out HCv6.out HPN.out)
  have TH5 : Hid (Thr w.heap.size sb v5 v6) := HCv6.out.thr (Nat.le_of_lt HG.out)
  obtain rfl : R = .ok (y, t6) := HR1.out
  go_wp2_with (first | (refine wpList_load_row rfl 56 _ rfl sb rfl 56 #[.int .i64 y.kind, .int .i64 y.bits, .bool y.sg, .string y.name, .bool y.has, .int .i64 y.xx.kind, .int .u64 y.xx.num, .int .i64 y.xx.bits, .bool y.xx.sg, .string y.xx.name, .slice xa y.xx.kids.length xc, .int .i64 y.ii.kind, .int .u64 y.ii.num, .int .i64 y.ii.bits, .bool y.ii.sg, .string y.ii.name, .slice ia y.ii.kids.length ic, .slice a0 y.ini.length c0, .slice a1 y.step.length c1, .slice a2 y.body.length c2, .slice a3 y.els.length c3] (0, 0) _ (HX6.out.sb) Try.underlying56 rfl (by kernel_rfl) ?_) | (refine wpList_store_row rfl 56 _ _ rfl w.heap.size #[.int .i64 y.kind, .int .i64 y.bits, .bool y.sg, .string y.name, .bool y.has, .int .i64 y.xx.kind, .int .u64 y.xx.num, .int .i64 y.xx.bits, .bool y.xx.sg, .string y.xx.name, .slice xa y.xx.kids.length xc, .int .i64 y.ii.kind, .int .u64 y.ii.num, .int .i64 y.ii.bits, .bool y.ii.sg, .string y.ii.name, .slice ia y.ii.kids.length ic, .slice a0 y.ini.length c0, .slice a1 y.step.length c1, .slice a2 y.body.length c2, .slice a3 y.els.length c3] rfl rfl 56 Pw.zS (HX6.out.sd.fz.z) (by kernel_rfl) rfl (Pw.one21 _ _ _ _ _ _ _ _ _ _ _ _ _ _ _ _ _ _ _ _ _ _ _ _ _ _ _ _ _ _ _ _ _) ?_))
  (obtain ⟨row, hrow⟩ : ∃ row : Array Value, row = #[.int .i64 y.kind, .int .i64 y.bits, .bool y.sg, .string y.name, .bool y.has, .int .i64 y.xx.kind, .int .u64 y.xx.num, .int .i64 y.xx.bits, .bool y.xx.sg, .string y.xx.name, .slice xa y.xx.kids.length xc, .int .i64 y.ii.kind, .int .u64 y.ii.num, .int .i64 y.ii.bits, .bool y.ii.sg, .string y.ii.name, .slice ia y.ii.kids.length ic, .slice a0 y.ini.length c0, .slice a1 y.step.length c1, .slice a2 y.body.length c2, .slice a3 y.els.length c3] := ⟨_, rfl⟩; rw [← hrow])
  have hx : LS v6 (fun k => w.heap.size < k) y [.int .i64 y.kind, .int .i64 y.bits, .bool y.sg, .string y.name, .bool y.has, .int .i64 y.xx.kind, .int .u64 y.xx.num, .int .i64 y.xx.bits, .bool y.xx.sg, .string y.xx.name, .slice xa y.xx.kids.length xc, .int .i64 y.ii.kind, .int .u64 y.ii.num, .int .i64 y.ii.bits, .bool y.ii.sg, .string y.ii.name, .slice ia y.ii.kids.length ic, .slice a0 y.ini.length c0, .slice a1 y.step.length c1, .slice a2 y.body.length c2, .slice a3 y.els.length c3] := layS.move (show LS _ _ _ _ from HIY.out) fun k hk hl => ⟨Nat.lt_of_lt_of_le HX3.out.sd.fz.lt hk, (TH4.out.trans TH5.out).block k (Nat.lt_of_lt_of_le HX3.out.sd.fz.lt hk) (by have h1 := HX3.out.sb.lt; have hk : v3.heap.size ≤ k := hk; omega) hl⟩
  (obtain ⟨v, hbk, hcb, hz, hpost⟩ := Fz.upL (b := b) layS (HX6.out.sd).fz HG.out (Nat.le_of_lt HDD.out) (HX6.out.sd).pb hx row hrow (HX6.out.sd).ne (HX6.out.sd).lt (HX6.out.sd).cb; refine leaves_cons (f := 89) (args := #[P b]) (by simp) (by simp [go_sem]) ?_; refine (pundeep_ok _ g b v _ _ _ hbk (HX6.out.sd).ne hcb).mono ?_; rintro e u' w6 ⟨rfl, rfl, rfl⟩; exact ⟨_, Pw.res_cell rfl _ _ w.heap.size 56 row (0, 0) _ rfl hz Try.underlying56 rfl (by subst hrow; kernel_rfl), hpost⟩)
end Go.Proofs.Ytfkndjifhmkojaa
