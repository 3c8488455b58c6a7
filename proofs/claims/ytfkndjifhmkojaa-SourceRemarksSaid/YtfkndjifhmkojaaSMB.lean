/- The closed text of law 8's alive: what is read of it; and the walk of alive. No condition. -/
import Derived.Test.YtfkndjifhmkojaaP31
import Derived.Test.YtfkndjifhmkojaaSM3
import Derived.LoopTactic
import Derived.Deep.Cut
import Derived.Test.YtfkndjifhmkojaaP20
import Derived.Lib.BufSteps
import Derived.Test.YtfkndjifhmkojaaK8
import Derived.Laws.IdiomStrings
import Derived.Laws.BytesString
namespace Go.Proofs.Ytfkndjifhmkojaa
open Go.RowKit
set_option linter.unusedVariables false
set_option linter.constructorNameAsVariable false
set_option linter.unusedSimpArgs false
set_option maxRecDepth 100000
abbrev Al8.T : List UInt8 := [117, 56, 32, 103, 32, 61, 32, 49, 32, 43, 32, 50, 59, 10, 105, 49, 54, 32, 109, 97, 105, 110, 40, 41, 32, 123, 32, 114, 101, 116, 117, 114, 110, 32, 103, 32, 42, 32, 50, 117, 59, 32, 125]
def Al8.chk (r : Except (Int × Nat) Pg) : Bool := match r with
  | .error _ => false
  | .ok g => match g.gs, g.fs with
    | [_], [f] => match f.body with
      | [s] => s.xx.kind == 9
      | _ => false
    | _, _ => false
theorem Al8.ok : Al8.chk (Ps.read Al8.T) = true := by kernel_rfl
theorem Al8.is : ∃ x f s, Ps.read Al8.T = .ok ⟨[x], [f]⟩ ∧ f.body = [s] ∧ s.xx.kind = 9 := by
  have h := Al8.ok
  unfold Al8.chk at h
  split at h
  · cases h
  · rename_i g hg
    split at h
    · rename_i x f h1 h2
      split at h
      · rename_i s h3
        exact ⟨x, f, s, by rw [hg]; obtain ⟨gs, fs⟩ := g; simp only at h1 h2; rw [h1, h2], h3, by simpa using h⟩
      · cases h
    · cases h
/-- A result and a fault, in two new blocks. -/
theorem two_got (w w5 : World) (v0 v1 e a : Value) (h : (w.alloc (.cells #[v0, v1] 26)).alloc (.cells #[e, a] 29) = w5) :
    Below w.heap.size w w5 ∧ Blk w5 w.heap.size 26 #[v0, v1] ∧ Blk w5 (w.heap.size + 1) 29 #[e, a] := by
  subst h
  exact ⟨Ext.alloc (Ext.alloc (Below.refl _ _) _) _, (Blk.new w _ _).alloc _, Blk.newn _ _ (by simp)⟩
set_option maxHeartbeats 8000000 in
theorem alive8_ok (w : World) : Calls Try.prog 6 #[] w (SmR w) := by
  obtain ⟨x, f, s, hrd, hbd, hk⟩ := Al8.is
  have HRD := Lib.hid (fun w1 : World => read_ok ⟨Al8.T.toArray⟩ w1)
  have HRS : Hid (Ps.read Al8.T = .ok ⟨[x], [f]⟩) := hrd
  have HBD := Lib.hid hbd
  clear hrd hbd
  go_enter Try.func6, Try.ntmps6
  go_upto_region 2 with (first | (go_at_call 7; refine (HRD.out _).mono ?_; rintro e w1 ⟨hb, v0, v1, er, a, rfl, hr⟩; rw [show (⟨Al8.T.toArray⟩ : ByteArray).data.toList = Al8.T from rfl, HRS.out] at hr; obtain ⟨rfl, rfl, hp, _, _⟩ := hr; obtain ⟨a0, c0, rfl, _, _⟩ := hp.1.sl; obtain ⟨a1, c1, rfl, hl1, hm1⟩ := hp.2.sl; have HB1 := Lib.hid hb; have HP := Lib.hid hp; clear hb hp; have hl1 : 1 ≤ c1 := hl1; simp only [List.length_cons, List.length_nil, Nat.zero_add]))
  generalize hw5 : World.alloc (World.alloc w1 _) _ = w5
  have HS5 := Lib.hid (two_got w1 w5 (.slice a0 1 c0) (.slice a1 1 c1) (.int .i64 0) (.int .i64 0) hw5)
  clear hw5
  have hp5 := HP.out.keep HS5.out.1
  obtain ⟨gf, og, cf, hae, ⟨vp, vb, rfl, _, hsb⟩, kf⟩ := (show Row w5 _ 5 _ [f] (.slice a1 1 c1) from hp5.2).at' (i := 0) rfl
  subst hae
  rw [HBD.out] at hsb
  obtain ⟨aS, cs', rfl, hls, hms, _⟩ := hsb.parts
  obtain ⟨gs, os, ss, hse, hss, ks⟩ := (show SsIn w5 _ [s] (.slice aS 1 cs') from hsb).at' (i := 0) rfl
  subst hse
  obtain ⟨xs, is, s0, s1, s2, s3, rfl, hx, _⟩ := hss.parts
  obtain ⟨xa, xc, rfl, _⟩ := hx.at.open
  have hls : 1 ≤ cs' := hls
  have z0 := kf 4 _ rfl
  have z1 := ks 5 _ rfl
  rw [hk] at z1
  simp only [Nat.zero_mul, Nat.add_zero, List.length_cons, List.length_nil, Nat.zero_add] at z0 z1
  have e0 := HS5.out.2.1.cell 0; have e1 := HS5.out.2.1.cell 1; have f0 := HS5.out.2.2.cell 0; have f1 := HS5.out.2.2.cell 1
  have HFIN := Lib.hid (Ext.trans HB1.out HS5.out.1)
  clear hp5 hsb hss hx kf ks hk
  go_wp2_with (fail)
  go_ret
  exact ⟨rfl, HFIN.out⟩
end Go.Proofs.Ytfkndjifhmkojaa
/- Walk of the law SourceRemarks. No condition. -/
namespace Go.Proofs.Ytfkndjifhmkojaa
open Go.RowKit
set_option linter.unusedVariables false
set_option linter.unusedSimpArgs false
set_option linter.constructorNameAsVariable false
set_option maxRecDepth 100000
set_option maxHeartbeats 8000000 in
/-- Where the text is none. -/
theorem remarks_bad (s r : ByteArray) (w : World) (z : Int × Nat) (hz : Ps.read s.data.toList = .error z) : Calls Try.prog 3 #[.string s, .string r] w (SmR w) := by
  have HRD := Lib.hid (fun w1 : World => read_ok s w1)
  have HZ := Lib.hid hz
  clear hz
  go_enter Try.func3, Try.ntmps3
  go_upto_region 4 with (first | (go_at_call 6; refine (alive8_ok _).mono ?_; rintro e w1 ⟨rfl, hb1⟩; have HB1 := Lib.hid hb1; clear hb1) | (go_at_call 7; refine (HRD.out _).mono ?_; rintro e w2 ⟨hb, v0, v1, er, a, rfl, hr⟩; rw [HZ.out] at hr; obtain ⟨he, _, hn, rfl, rfl⟩ := hr; have HB2 := Lib.hid hb; have HN : Hid (er ≠ 0) := (by rw [he]; exact hn); clear hb hn he))
  generalize hw5 : World.alloc (World.alloc w2 _) _ = w5
  have HS5 := Lib.hid (two_got w2 w5 _ _ _ _ hw5)
  clear hw5
  have f0 := HS5.out.2.2.cell 0
  have q : (er != 0) = true := by simpa using HN.out
  have HFIN := Lib.hid (Ext.trans HB1.out (Ext.trans HB2.out HS5.out.1))
  go_wp2_with (fail)
  go_ret
  exact ⟨rfl, HFIN.out⟩
set_option maxHeartbeats 8000000 in
/-- Where the remark is long. -/
theorem remarks_long (s r : ByteArray) (w : World) (g : Pg) (hz : Ps.read s.data.toList = .ok g) (hr : 1000 < r.size) : Calls Try.prog 3 #[.string s, .string r] w (SmR w) := by
  have HRD := Lib.hid (fun w1 : World => read_ok s w1)
  have HZ := Lib.hid hz
  have q : decide ((r.size : Int) > 1000) = true := by simp; omega
  clear hz
  go_enter Try.func3, Try.ntmps3
  go_upto_region 4 with (first | (go_at_call 6; refine (alive8_ok _).mono ?_; rintro e w1 ⟨rfl, hb1⟩; have HB1 := Lib.hid hb1; clear hb1) | (go_at_call 7; refine (HRD.out _).mono ?_; rintro e w2 ⟨hb, v0, v1, er, a, rfl, hr⟩; rw [HZ.out] at hr; obtain ⟨rfl, rfl, hp, _, _⟩ := hr; obtain ⟨a0, c0, rfl, _, _⟩ := hp.1.sl; obtain ⟨a1, c1, rfl, _, _⟩ := hp.2.sl; have HB2 := Lib.hid hb; have HP := Lib.hid hp; clear hb hp))
  generalize hw5 : World.alloc (World.alloc w2 _) _ = w5
  have HS5 := Lib.hid (two_got w2 w5 _ _ _ _ hw5)
  clear hw5
  have f0 := HS5.out.2.2.cell 0
  have HFIN := Lib.hid (Ext.trans HB1.out (Ext.trans HB2.out HS5.out.1))
  go_wp2_with (fail)
  go_ret
  exact ⟨rfl, HFIN.out⟩
end Go.Proofs.Ytfkndjifhmkojaa

/- Walk of the law SourceRemarks: the way on which all is read. No condition. (UNDER WAY) -/
namespace Go.Proofs.Ytfkndjifhmkojaa
open Go.RowKit
set_option linter.unusedVariables false
set_option linter.unusedSimpArgs false
set_option linter.constructorNameAsVariable false
set_option maxRecDepth 100000
/-- A buffer of bytes, read as a text. -/
theorem wpList_back8 {B : Nat} {e : TypeId} {ops : Array Oper} {rest : List Oper} {o : Oper} {a : Act} {w W0 : World} {Q : Exit → Act → World → Prop} (hgd : o.guard = none) (src dst : TypeId) (x : Operand) (ho : o.op = .convert src dst x) (b : Value) (hx : a.eval x = b) (xs : List UInt8)
    (hs : Try.prog.underlying src = some (.slice e)) (he : Try.prog.underlying e = some (.int .u8)) (hd : Try.prog.underlying dst = some .string) (hb : Lib.OwnBuf B e b xs.length (xs.map fun c => Value.int .u8 c.toNat) W0 w)
    (h : wpList Try.prog ops Q rest (a.put o.dst (.string ⟨xs.toArray⟩)) w) : wpList Try.prog ops Q (o :: rest) a w := by
  have hr : (convert src dst b).run Try.prog w = .ok (.string ⟨xs.toArray⟩) w := by
    rcases hb.1.2 with ⟨rfl, hn⟩ | ⟨g, cap, cur, fz, rfl, _, _, _, hc, hm, _, _⟩
    · have : xs = [] := List.eq_nil_of_length_eq_zero hn
      subst this
      rw [run_convert_bytes_string w src dst e none 0 0 hs he hd]
      simp [Conv.bytesToString, Sem.run_pure]
      rfl
    · refine run_convert_bytes_back w src dst e ⟨g, 0, none⟩ cap xs hs he hd fun j hj => ?_
      exact hb.1.cells (g := g) rfl j _ (by rw [List.getElem?_map, List.getElem?_eq_getElem hj]; rfl)
  refine wpList_plain hgd fun _ hK => ?_
  unfold Oper.wp execOp
  simp only [ho, hx, Sem.run_bind, Sem.run_pure, Result.andThen_ok, hr]
  exact hK _ _ h
theorem info_u8 : (Try.prog.info? 5).map (fun i => (i.zero, i.size, i.bytes)) = some (some (.int .u8 0), 1, 1) := by kernel_rfl
theorem own_sliceF {w : World} {base e size n : Nat} {v : Value} {xs : List Value} (h : w.ownsRowF base e size v n xs) : ∃ a c, v = .slice a n c := by
  rcases h.2 with ⟨rfl, rfl⟩ | ⟨g, cap, cur, fz, rfl, _⟩
  · exact ⟨_, _, rfl⟩
  · exact ⟨_, _, rfl⟩
/-- The second result and its fault. -/
theorem three_got (w8 w9 : World) (g : Nat) (x0 x1 e1 a1 v0 v1 : Value) (h1 : Blk w8 g 29 #[x0, x1]) (h : ((w8.setCell ⟨g, 0, none⟩ e1).setCell ⟨g, 1, none⟩ a1).alloc (.cells #[v0, v1] 26) = w9) :
    Chg g w8 w9 ∧ Blk w9 g 29 #[e1, a1] ∧ Blk w9 w8.heap.size 26 #[v0, v1] := by
  subst h
  refine ⟨?_, ?_, ?_⟩
  · exact (((Chg.of_below (Below.refl _ _)).setCell 0 e1).setCell 1 a1).trans (Chg.of_below (Ext.alloc (Below.refl _ _) _))
  · have := ((h1.set_ 0 e1).set_ 1 a1).alloc (.cells #[v0, v1] 26)
    simpa using this
  · exact Blk.newn _ _ (by simp)
set_option maxHeartbeats 8000000 in
theorem remarks_good (s r : ByteArray) (w : World) (g : Pg) (hz : Ps.read s.data.toList = .ok g) (hr : r.size ≤ 1000) : Calls Try.prog 3 #[.string s, .string r] w (SmR w) := by
  have hss : s.size ≤ 65536 := by
    have hz2 := hz
    unfold Ps.read at hz2
    split at hz2
    · cases hz2
    · rename_i h; have e : s.data.toList.length = s.size := rfl; omega
  have HRD := Lib.hid (fun w1 : World => read_ok s w1)
  have HZ := Lib.hid hz
  have q : decide ((r.size : Int) > 1000) = false := by simp; omega
  obtain ⟨iI, hi, hz0, hz1, hz2⟩ := info_parts info_u8
  have HI := Lib.hid (And.intro hi (And.intro hz0 (And.intro hz1 hz2)))
  clear hz hi hz0 hz1 hz2
  go_enter Try.func3, Try.ntmps3
  go_upto_region 4 with (first | (go_at_call 6; refine (alive8_ok _).mono ?_; rintro e w1 ⟨rfl, hb1⟩; have HB1 := Lib.hid hb1; clear hb1) | (go_at_call 7; refine (HRD.out _).mono ?_; rintro e w2 ⟨hb, v0, v1, er, a, rfl, hr⟩; rw [HZ.out] at hr; obtain ⟨rfl, rfl, hp, _, _⟩ := hr; obtain ⟨a0, c0, rfl, _, _⟩ := hp.1.sl; obtain ⟨a1, c1, rfl, _, _⟩ := hp.2.sl; have HB2 := Lib.hid hb; have HP := Lib.hid hp; clear hb hp))
  generalize hw5 : World.alloc (World.alloc w2 _) _ = w5
  have HS5 := Lib.hid (two_got w2 w5 _ _ _ _ hw5)
  clear hw5
  have f0 := HS5.out.2.2.cell 0
  have HFIN := Lib.hid (Ext.trans HB1.out (Ext.trans HB2.out HS5.out.1))
  obtain ⟨n, hn⟩ : ∃ n, n = r.size := ⟨_, rfl⟩
  have HNN := Lib.hid hn
  clear hn
  go_upto_region 8 with (first | (refine wpList_bytes8 rfl 9 32 5 _ rfl r rfl _ Try.underlying9 Try.underlying32 Try.underlying5 ?_; intro w6 cap hb6 hc6; have HB6 := Lib.hid hb6; have HC6 := Lib.hid hc6; clear hb6 hc6))
  go_loopw [7, 29] (fun b i wr => ∃ (j : Nat) (xs : List UInt8), j ≤ r.size ∧ i = .int .i64 (j : Int) ∧ Hid (xs = (r.data.toList.take j).filter (fun c => c != 10) ∧ Lib.OwnBuf w6.heap.size 5 b xs.length (xs.map fun c => Value.int .u8 c.toNat) w6 wr)) (fun b i wr => r.size - (intOf i).toNat)
  case atStart => exact ⟨0, [], Nat.zero_le _, rfl, by simp, World.ownsRowF_nil _ _ _ _, Below.refl _ _, Nat.le_refl _⟩
  case round =>
    obtain ⟨j, xs, hj, rfl, HO⟩ := hrel
    have HXS : Hid (xs = (r.data.toList.take j).filter (fun c => c != 10)) := HO.out.1
    obtain ⟨ba, bc, rfl⟩ := own_sliceF HO.out.2.1
    have HOB := Lib.hid HO.out.2
    clear HO
    by_cases hlt : j < r.size
    · have ck : wr.cell? ⟨w5.heap.size, j, none⟩ = some (.int .u8 ((r.data.toList.getD j 0).toNat : Int)) := by
        rw [Below.cell (p := ⟨w5.heap.size, j, none⟩) HOB.out.2.1 (World.block_lt_of_cell? w6 ⟨w5.heap.size, j, none⟩ (HC6.out j hlt))]; exact HC6.out j hlt
      have htk : r.data.toList.take (j + 1) = r.data.toList.take j ++ [r.data.toList.getD j 0] := by
        have hl : j < r.data.toList.length := hlt
        rw [List.take_succ_eq_append_getElem hl, List.getD_eq_getElem?_getD, List.getElem?_eq_getElem hl]; rfl
      have HTK := Lib.hid htk
      clear htk
      obtain ⟨X, hX⟩ : ∃ X : UInt8, X = r.data.toList.getD j 0 := ⟨_, rfl⟩
      rw [← hX] at ck HTK
      have HX := Lib.hid hX
      clear hX
      have hxl : xs.length ≤ j := by rw [HXS.out]; exact Nat.le_trans (List.length_filter_le _ _) (List.length_take_le _ _)
      have HXL : Hid (xs.length + 1 ≤ 140737488355328) := by show xs.length + 1 ≤ _; omega
      by_cases h10 : X = 10
      · have q1 : ((X.toNat : Int) != 10) = false := by rw [h10]; rfl
        have H10 := Lib.hid h10
        clear h10
        go_wp2_with (fail)
        go_roundw
        case rel => exact ⟨j + 1, xs, by omega, by go_num, by rw [HTK.out, List.filter_append, H10.out]; exact ⟨by simpa using HXS.out, HOB.out⟩⟩
        case measure => simp [intOf]; omega
      · have q1 : ((X.toNat : Int) != 10) = true := by
          simp only [bne_iff_ne, ne_eq]
          intro h; apply h10; apply UInt8.toNat_inj.1; exact Int.ofNat_inj.1 h
        have H10 := Lib.hid h10
        clear h10
        go_wp2_with (first | (at_builtin; go_loud (refine Lib.wpList_append_byte rfl _ _ 32 rfl w6.heap.size 5 iI Try.underlying32 HI.out.1 HI.out.2.1 HI.out.2.2.1 HI.out.2.2.2 (.slice ba xs.length bc) xs.length _ rfl w6 wr _ HOB.out rfl HXL.out ?_); intro b2 w7 ho7; have HO7 := Lib.hid ho7; clear ho7))
        go_roundw
        case rel => exact ⟨j + 1, xs ++ [X], by omega, by go_num, by rw [HTK.out, List.filter_append]; exact ⟨by rw [HXS.out]; simp [H10.out], by rw [List.length_append, List.map_append]; exact HO7.out⟩⟩
        case measure => simp [intOf]; omega
    · obtain rfl : j = r.size := by omega
      have HFL : Hid (∀ b ∈ xs, b.toNat ≠ 10) := by
        show ∀ b ∈ xs, b.toNat ≠ 10
        intro b hb h
        rw [HXS.out] at hb
        have h2 := (List.mem_filter.1 hb).2
        have : b = 10 := UInt8.toNat_inj.1 h
        rw [this] at h2; exact absurd h2 (by decide)
      have hxl : xs.length ≤ 1000 := by
        have h1 : xs.length ≤ r.size := by rw [HXS.out]; exact Nat.le_trans (List.length_filter_le _ _) (by have e : r.data.toList.length = r.size := rfl; rw [List.length_take, e]; omega)
        omega
      obtain ⟨T, hT⟩ : ∃ T : List UInt8, T = 32 :: 9 :: 47 :: 47 :: 32 :: (xs ++ 10 :: s.data.toList) := ⟨_, rfl⟩
      have hah := Ps.read_ahead xs s.data.toList g HFL.out HZ.out
      rw [← hT] at hah
      have HRT : Hid (∀ w1 : World, Calls Try.prog 7 #[.string ((⟨#[32, 9, 47, 47, 32]⟩ : ByteArray) ++ ⟨xs.toArray⟩ ++ ⟨#[10]⟩ ++ s)] w1 (RdR T w1)) := fun w1 => by
        have h := read_ok ((⟨#[32, 9, 47, 47, 32]⟩ : ByteArray) ++ ⟨xs.toArray⟩ ++ ⟨#[10]⟩ ++ s) w1
        have e : ((⟨#[32, 9, 47, 47, 32]⟩ : ByteArray) ++ ⟨xs.toArray⟩ ++ ⟨#[10]⟩ ++ s).data.toList = T := by rw [hT]; simp [ByteArray.data_append]
        rw [e] at h; exact h
      clear hT
      have HQ0 := Lib.hid (HS5.out.2.1.keep HB6.out)
      have HQ1 := Lib.hid (HS5.out.2.2.keep HB6.out)
      have HW := Lib.hid (Ext.trans HFIN.out HB6.out)
      rcases hah with hok | hbad
      · have HOK := Lib.hid hok
        clear hok
        go_upto_region 14 with (first | (refine wpList_back8 rfl 32 9 _ rfl (.slice ba xs.length bc) rfl xs Try.underlying32 Try.underlying5 Try.underlying9 HOB.out ?_) | (go_at_call 7; refine (HRT.out _).mono ?_; rintro e w8 ⟨hb8, v0, v1, er, a, rfl, hr8⟩; rw [HOK.out] at hr8; obtain ⟨rfl, rfl, hp8, _, _⟩ := hr8; obtain ⟨a2, c2, rfl, _, _⟩ := hp8.1.sl; obtain ⟨a3, c3, rfl, _, _⟩ := hp8.2.sl; have HB8 := Lib.hid hb8; have HP8 := Lib.hid hp8; have HR8 := Lib.hid ((HQ1.out.below HOB.out.2.1 HQ1.out.lt).keep hb8); have g0 := HR8.out.cell 0; have g1 := HR8.out.cell 1; have z0 := HR8.out.frozen 0; have z1 := HR8.out.frozen 1; have hlt8 := HR8.out.lt; clear hb8 hp8))
        generalize hw9 : World.alloc _ _ = w9
        have HG9 := Lib.hid (three_got w8 w9 _ _ _ _ _ _ _ HR8.out hw9)
        clear hw9 g0 g1 z0 z1 f0
        have HPA : Hid (PgIn w9 (fun _ => True) g (.slice a0 g.gs.length c0) (.slice a1 g.fs.length c1)) := HP.out.move fun k _ hk => ⟨trivial, by
          have k5 : k < w5.heap.size := Nat.lt_of_lt_of_le hk HS5.out.1.size
          have k6 : k < w6.heap.size := Nat.lt_of_lt_of_le k5 HB6.out.size
          have kr : k < wr.heap.size := Nat.lt_of_lt_of_le k6 HOB.out.2.1.size
          exact (HG9.out.1.block k (Nat.lt_of_lt_of_le kr HB8.out.size) (fun e => by injection e with e; omega)).trans ((HB8.out.block k kr).trans ((HOB.out.2.1.block k k6).trans ((HB6.out.block k k5).trans (HS5.out.1.block k hk))))⟩
        have HPB : Hid (PgIn w9 (fun _ => True) g (.slice a2 g.gs.length c2) (.slice a3 g.fs.length c3)) := HP8.out.move fun k hk hk8 => ⟨trivial, by
          have := HQ1.out.lt; have := HOB.out.2.1.size
          exact HG9.out.1.block k hk8 (fun e => by injection e with e; omega)⟩
        have HQ9 := Lib.hid (((HQ0.out.below HOB.out.2.1 HQ0.out.lt).keep HB8.out).grown HG9.out.1 (fun e => by injection e with e; omega))
        have m0 := HG9.out.2.1.cell 0
        have p0 := HQ9.out.cell 0; have p1 := HQ9.out.cell 1; have p2 := HG9.out.2.2.cell 0; have p3 := HG9.out.2.2.cell 1
        have HFF : Hid (Below w.heap.size w w9) := Below.chg (Ext.trans (Ext.trans HW.out HOB.out.2.1) HB8.out) (Nat.le_refl _) (by have := HB1.out.size; have := HB2.out.size; omega) HG9.out.1
        go_wp2_with (first | (go_at_call 8; refine (psame_ok g w9 _ _ _ _ HPA.out HPB.out).mono ?_; rintro e w10 ⟨rfl, hb10⟩; have HB10 := Lib.hid hb10; clear hb10))
        go_ret
        exact ⟨rfl, Ext.trans HFF.out HB10.out⟩
      · have HBD := Lib.hid hbad
        clear hbad
        go_upto_region 14 with (first | (refine wpList_back8 rfl 32 9 _ rfl (.slice ba xs.length bc) rfl xs Try.underlying32 Try.underlying5 Try.underlying9 HOB.out ?_) | (go_at_call 7; refine (HRT.out _).mono ?_; rintro e w8 ⟨hb8, v0, v1, er, a, rfl, hr8⟩; rw [HBD.out] at hr8; obtain ⟨rfl, rfl, _, rfl, rfl⟩ := hr8; have HB8 := Lib.hid hb8; have HR8 := Lib.hid ((HQ1.out.below HOB.out.2.1 HQ1.out.lt).keep hb8); have g0 := HR8.out.cell 0; have g1 := HR8.out.cell 1; have z0 := HR8.out.frozen 0; have z1 := HR8.out.frozen 1; have hlt8 := HR8.out.lt; clear hb8))
        generalize hw9 : World.alloc _ _ = w9
        have HG9 := Lib.hid (three_got w8 w9 _ _ _ _ _ _ _ HR8.out hw9)
        clear hw9 g0 g1 z0 z1 f0
        have m0 := HG9.out.2.1.cell 0
        have HFF : Hid (Below w.heap.size w w9) := Below.chg (Ext.trans (Ext.trans HW.out HOB.out.2.1) HB8.out) (Nat.le_refl _) (by have := HB1.out.size; have := HB2.out.size; omega) HG9.out.1
        go_wp2_with (fail)
        go_ret
        exact ⟨rfl, HFF.out⟩
theorem remarks_ok (s r : ByteArray) (w : World) : Calls Try.prog 3 #[.string s, .string r] w (SmR w) := by
  cases hz : Ps.read s.data.toList with
  | error z => exact remarks_bad s r w z hz
  | ok g =>
    by_cases hr : r.size ≤ 1000
    · exact remarks_good s r w g hz hr
    · exact remarks_long s r w g hz (by omega)
theorem remarks_walk (s : ByteArray) (h : s.size ≤ maxLen) (r : ByteArray) (h' : r.size ≤ maxLen) (w : World) : Calls Try.prog 3 #[.string s, .string r] w fun e w' => e = .returned (.bool true) ∧ Below w.heap.size w w' := remarks_ok s r w
end Go.Proofs.Ytfkndjifhmkojaa
