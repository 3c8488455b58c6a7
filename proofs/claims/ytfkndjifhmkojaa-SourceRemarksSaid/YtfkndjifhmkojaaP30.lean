/- Walk of source.Read where a text has tokens. No condition. -/
import Derived.Test.YtfkndjifhmkojaaPt2
import Derived.Test.YtfkndjifhmkojaaPD
import Derived.Test.YtfkndjifhmkojaaIyf
import Derived.LoopTactic
import Derived.Deep.Cut
import Derived.Deep.CutRange
namespace Go.Proofs.Ytfkndjifhmkojaa
open Go.RowKit
set_option linter.unusedVariables false
set_option linter.unusedSimpArgs false
set_option maxRecDepth 100000
/-- How Read ends where the reader could not go on. -/
theorem rd_err {R : Ending → World → Prop} {fn : Func} {tmps : Array Value} {w W : World} {bp bf : Nat} {v0 v1 f0 f1 : Value} {c : Int} {a : Nat} {s : List UInt8} (hfn : fn.results = #[.cell 2 26, .cell 3 29])
    (h2 : tmps.getD 2 undef = .pointer (some ⟨bp, 0, none⟩)) (h3 : tmps.getD 3 undef = .pointer (some ⟨bf, 0, none⟩)) (hB : Below w.heap.size w W) (hp : Blk W bp 26 #[v0, v1]) (hf : Blk W bf 29 #[f0, f1]) (hne : bp ≠ bf) (hbp : w.heap.size ≤ bp) (hbf : w.heap.size ≤ bf) (hr : Ps.read s = .error (c, a)) (hc : c ≠ 0) (hR : R = RdR s w) :
    Leaves Try.prog fn tmps R [{ target := .fn (.func 18) #[.pointer (some ⟨bp, 0, none⟩), .pointer (some ⟨bf, 0, none⟩)], args := #[] }] (.panicking [{ v := .iface 61 (.agg #[.int .i64 c, .int .i64 (a : Int)]), recovered := false }]) W := by
  subst hR
  refine leaves_cons (f := 18) (args := #[.pointer (some ⟨bp, 0, none⟩), .pointer (some ⟨bf, 0, none⟩)]) (by simp) (by simp [go_sem]) ?_
  refine (catch_yes bp bf c (a : Int) v0 v1 f0 f1 W hp hf hne).mono ?_
  rintro e u' w5 ⟨rfl, rfl, hct, hp5, hf5⟩
  simp only [Leaves, settle]
  exact ⟨_, results_two hfn _ _ bp bf 26 29 _ _ _ _ h2 h3 hp5 hf5 Try.underlying26 rfl (by kernel_rfl) Try.underlying29 rfl (by kernel_rfl), RdR.err (z := (c, a)) hB hct hbp hbf hr hc⟩
/-- And where it has read all. -/
theorem rd_ok {R : Ending → World → Prop} {fn : Func} {tmps : Array Value} {w W : World} {bp bf : Nat} {v0 v1 : Value} {g : Pg} {s : List UInt8} (hfn : fn.results = #[.cell 2 26, .cell 3 29])
    (h2 : tmps.getD 2 undef = .pointer (some ⟨bp, 0, none⟩)) (h3 : tmps.getD 3 undef = .pointer (some ⟨bf, 0, none⟩)) (hB : Below w.heap.size w W) (hp : Blk W bp 26 #[v0, v1]) (hf : Blk W bf 29 #[.int .i64 0, .int .i64 0]) (hr : Ps.read s = .ok g) (hg : PgIn W (fun k => w.heap.size ≤ k) g v0 v1) (hw : Pg.Wf g) (hwr : Pg.wrong g = 0) (hR : R = RdR s w) :
    Leaves Try.prog fn tmps R [{ target := .fn (.func 18) #[.pointer (some ⟨bp, 0, none⟩), .pointer (some ⟨bf, 0, none⟩)], args := #[] }] .returning W := by
  subst hR
  refine leaves_cons (f := 18) (args := #[.pointer (some ⟨bp, 0, none⟩), .pointer (some ⟨bf, 0, none⟩)]) (by simp) (by simp [go_sem]) ?_
  refine (catch_idle bp bf W).mono ?_
  rintro e u' w5 ⟨rfl, rfl, rfl⟩
  exact ⟨_, results_two hfn _ _ bp bf 26 29 _ _ _ _ h2 h3 hp hf Try.underlying26 rfl (by kernel_rfl) Try.underlying29 rfl (by kernel_rfl), hB, _, _, _, _, rfl, by rw [hr]; exact ⟨rfl, rfl, hg, hw, hwr⟩⟩
section
variable {w wr W : World} {bp bf g fin N0 m : Nat} {R : Except (Int × Nat) Pg} {gs : List Gl} {fs : List Fn} {l : List Tk.Tok} {a0 a1 : Option Addr} {c0 c1 : Nat}
/-- What has been read so far lies there. -/
theorem RdL.pg (h : RdL w bp bf g fin N0 R wr m gs fs l a0 c0 a1 c1) (hc : Ct bp bf wr W) : PgIn W (fun k => w.heap.size ≤ k) ⟨gs, fs⟩ (.slice a0 gs.length c0) (.slice a1 fs.length c1) := by
  obtain ⟨f0, f1, ht⟩ := h.two
  have h1 := h.lbp; have h2 := h.lpf; have h3 := h.lfg
  have ht := ht.same (w' := W) layG layF fun k hk hl => hc.block k hl (by omega) (by omega)
  exact ⟨row_of (n := 0) layG ht.own0 ht.kid0 (fun k hk => by have := hk.1; omega) (fun k hk => by omega), row_of (n := 0) layF ht.own1 ht.kid1 (fun k hk => by have := hk.1; omega) (fun k hk => by omega)⟩
theorem RdL.belct (h : RdL w bp bf g fin N0 R wr m gs fs l a0 c0 a1 c1) (hc : Ct bp bf wr W) : Below w.heap.size w W := by
  have h1 := h.lbp; have h2 := h.lpf; have h4 := h.bel
  exact ⟨hc.os.trans h4.os, hc.tape.trans h4.tape, hc.output.trans h4.output, Nat.le_trans h4.size hc.size, fun k hk => (hc.block k (Nat.lt_of_lt_of_le hk h4.size) (by omega) (by omega)).trans (h4.block k hk)⟩
end
namespace Ps
def seqP {α : Type} (r : Res α) (f : α → List Tok → Except (Int × Nat) Pg) : Except (Int × Nat) Pg := match r with
  | .error e => .error e
  | .ok p => f p.1 p.2
theorem progA {P : F} {fin : Nat} {g : Pg} {l : List Tok} {t : Int × Bool} (hl : l ≠ []) (hh : headS l = some (some t)) : progS P fin g l = seqP (name fin l.tail) fun n l1 => if sees [40] l1 = true then (if g.fs.length = 100 then .error (5, pos fin l) else seqP (fnS P fin t.1 t.2 n l1.tail) fun f l2 => P.prog ⟨g.gs, g.fs ++ [f]⟩ l2) else seqP (glS P fin t.1 t.2 n l1) fun x l2 => P.prog ⟨g.gs ++ [x], g.fs⟩ l2 := by
  unfold progS
  rw [if_neg hl, hh]
  simp only
  cases name fin l.tail with
  | error e => rfl
  | ok p =>
    obtain ⟨n, l1⟩ := p
    show (if sees [40] l1 = true then _ else _) = (if sees [40] l1 = true then _ else _)
    by_cases h1 : sees [40] l1 = true
    · rw [if_pos h1, if_pos h1]
      by_cases h2 : g.fs.length = 100
      · rw [if_pos h2, if_pos h2]
      · rw [if_neg h2, if_neg h2]; show (match fnS P fin t.1 t.2 n l1.tail with | .error e => _ | .ok (f, l2) => _) = _; cases fnS P fin t.1 t.2 n l1.tail <;> rfl
    · rw [if_neg h1, if_neg h1]; cases glS P fin t.1 t.2 n l1 <;> rfl
theorem progB {P : F} {fin : Nat} {g : Pg} {l : List Tok} (hl : l ≠ []) (hh : headS l = some none) : progS P fin g l = seqP (name fin l.tail) fun n l1 => if sees [40] l1 = true then (if g.fs.length = 100 then .error (5, pos fin l) else seqP (fnS P fin 0 false n l1.tail) fun f l2 => P.prog ⟨g.gs, g.fs ++ [f]⟩ l2) else .error (2, pos fin l1) := by
  unfold progS
  rw [if_neg hl, hh]
  simp only
  cases name fin l.tail with
  | error e => rfl
  | ok p =>
    obtain ⟨n, l1⟩ := p
    show (if sees [40] l1 = true then _ else _) = (if sees [40] l1 = true then _ else _)
    by_cases h1 : sees [40] l1 = true
    · rw [if_pos h1, if_pos h1]
      by_cases h2 : g.fs.length = 100
      · rw [if_pos h2, if_pos h2]
      · rw [if_neg h2, if_neg h2]; show (match fnS P fin 0 false n l1.tail with | .error e => _ | .ok (f, l2) => _) = _; cases fnS P fin 0 false n l1.tail <;> rfl
    · rw [if_neg h1, if_neg h1]
theorem fnS_lt {P : F} (H : Less P) {fin : Nat} {b : Int} {s : Bool} {n : Bs} {l l' : List Tok} {f : Fn} (h : fnS P fin b s n l = .ok (f, l')) : l'.length < l.length := by
  obtain ⟨_, l1, h1, h⟩ := seq_ok h
  have := H.params h1
  obtain ⟨_, l2, h2, h⟩ := seq_ok h
  have := need_lt h2
  obtain ⟨_, l3, h3, h⟩ := seq_ok h
  have := H.block h3
  obtain ⟨_, rfl⟩ := okp h
  omega
theorem sizeS_le {fin : Nat} {l l' : List Tok} {z : Int} (h : sizeS fin l = .ok (z, l')) : l'.length ≤ l.length := by
  unfold sizeS at h
  split at h
  · rename_i hs
    have := sees_lt hs
    split at h
    · cases h
    · rename_i t l2 heq
      have hl : l2.length < l.tail.length := by rw [heq]; simp
      split at h
      · cases h
      split at h
      · cases h
      obtain ⟨_, l3, h3, h⟩ := seq_ok h
      have := need_lt h3
      obtain ⟨_, rfl⟩ := okp h
      omega
  · obtain ⟨_, rfl⟩ := okp h; exact Nat.le_refl _
theorem glS_lt {P : F} (H : Less P) {fin : Nat} {b : Int} {s : Bool} {n : Bs} {l l' : List Tok} {f : Gl} (h : glS P fin b s n l = .ok (f, l')) : l'.length < l.length := by
  obtain ⟨z, l1, h1, h⟩ := seq_ok h
  have := sizeS_le h1
  split at h
  · rename_i hs
    have := sees_lt hs
    split at h
    · obtain ⟨_, l2, h2, h⟩ := seq_ok h
      have := H.expr h2
      obtain ⟨_, l3, h3, h⟩ := seq_ok h
      have := need_lt h3
      obtain ⟨_, rfl⟩ := okp h
      omega
    · obtain ⟨_, l2, h2, h⟩ := seq_ok h
      have := need_lt h2
      obtain ⟨_, l3, h3, h⟩ := seq_ok h
      have := H.inits h3
      obtain ⟨_, l4, h4, h⟩ := seq_ok h
      have := need_lt h4
      obtain ⟨_, rfl⟩ := okp h
      omega
  · obtain ⟨_, l2, h2, h⟩ := seq_ok h
    have := need_lt h2
    obtain ⟨_, rfl⟩ := okp h
    omega
end Ps
set_option maxHeartbeats 64000000 in
theorem read_good (s : ByteArray) (hsz : s.size ≤ 65536) (w : World) (ts : List Tk.Tok) (hfr : Tk.frm s.data.toList 0 = .ok ts)
    (ht : ∀ w1 : World, Calls Try.prog 17 #[.string s] w1 fun e w' => ∃ av cv, e = .returned (.tuple #[.slice av ts.length cv, .agg #[.int .i64 0, .int .i64 0]]) ∧ Below w1.heap.size w1 w' ∧ w'.ownsRow w1.heap.size 92 6 (.slice av ts.length cv) ts.length (Tk.tkR ts)) :
    Calls Try.prog 7 #[.string s] w (RdR s.data.toList w) := by
  obtain ⟨fin, hfin⟩ : ∃ fin, fin = s.size := ⟨_, rfl⟩
  have hlen : s.data.toList.length = fin := by rw [hfin]; rfl
  obtain ⟨hts, hok⟩ := Tk.frm_ok s.data.toList (by omega) _ 0 ts (Nat.le_refl _) hfr
  obtain ⟨N1, hN1⟩ : ∃ N1, N1 = 32 * ts.length + 32 := ⟨_, rfl⟩
  have h0 : Ps.read s.data.toList = match (Ps.at' fin N1).prog ⟨[], []⟩ ts with | .error e => .error e | .ok g => if Pg.wrong g ≠ 0 then .error (4, 0) else .ok g := by
    unfold Ps.read
    rw [if_neg (by omega), hfr, hN1, hlen]
    rfl
  obtain ⟨R, hR⟩ : ∃ R, R = (Ps.at' fin N1).prog ⟨[], []⟩ ts := ⟨_, rfl⟩
  have HRE : Hid (∀ z, R = .error z → Ps.read s.data.toList = .error z) := fun z h => by rw [h0, ← hR, h]
  have HRO : Hid (∀ g, R = .ok g → Ps.read s.data.toList = if Pg.wrong g ≠ 0 then .error (4, 0) else .ok g) := fun g h => by rw [h0, ← hR, h]
  have HNZ : Hid (∀ z, R = .error z → z.1 ≠ 0) := fun z h => (Ps.nz_at fin N1).prog _ _ _ (hR ▸ h)
  have HWF : Hid (∀ g, R = .ok g → Pg.Wf g) := fun g h => (Ps.gd_at fin N1).prog _ _ _ ⟨fun y hy => (by cases hy), fun y hy => (by cases hy)⟩ hok (hR ▸ h)
  obtain ⟨w0, hw0⟩ : ∃ w0, w0 = (w.alloc (.cells #[.slice none 0 0, .slice none 0 0] 26)).alloc (.cells #[.int .i64 0, .int .i64 0] 29) := ⟨_, rfl⟩
  have HN := Lib.hid (two_new w w0 hw0)
  obtain ⟨bp, hbp⟩ : ∃ bp, bp = w.heap.size := ⟨_, rfl⟩
  obtain ⟨bf, hbf⟩ : ∃ bf, bf = w.heap.size + 1 := ⟨_, rfl⟩
  rw [← hbf, ← hbp] at HN
  have HW0 := Lib.hid hw0
  have HBP := Lib.hid hbp
  have HBF := Lib.hid hbf
  have HT := Lib.hid (ht w0)
  have HNE : Hid (bp ≠ bf ∧ w.heap.size ≤ bp ∧ w.heap.size ≤ bf) := ⟨by omega, by omega, by omega⟩
  have HS0 : Hid (bf < w0.heap.size) := HN.out.2.2.lt
  have HOK := Lib.hid hok
  have HR := Lib.hid hR
  have HN1 := Lib.hid hN1
  have HN7 : Hid (ts.length ≤ 70000) := by show _ ≤ _; omega
  have HFI := Lib.hid hfin
  have hmf : ∀ (fn : Go.Fn) (first cap : Array Value) (w : World), (Instr.makeFunc fn first cap).run Try.prog w = .ok (.func fn first cap) w := fun _ _ _ _ => rfl
  clear ht hw0 hbp hbf hfr h0 hR hN1 hok hts hlen hsz hfin
  go_enter_defers Try.func7, Try.ntmps7
  go_upto_region 1 with (fail)
  rw [← HW0.out, ← HBF.out, ← HBP.out]
  go_upto_region 5 with (first | (go_at_call 17; refine (HT.out).mono ?_; rintro e w1 ⟨av, cv, rfl, hb1, ho1⟩; have HB1 := Lib.hid hb1; have HO1 := Lib.hid ho1; have hf1 := HN.out.2.2.keep hb1; have e0 := hf1.cell 0; have e1 := hf1.cell 1; have f0 := hf1.frozen 0; have f1 := hf1.frozen 1; clear hb1 hf1 ho1))
  generalize hw2 : World.setCell (World.setCell w1 _ _) _ _ = w2
  have HS2 : Hid (Ct bp bf w0 w2 ∧ Blk w2 bp 26 #[.slice none 0 0, .slice none 0 0] ∧ Blk w2 bf 29 #[.int .i64 0, .int .i64 0] ∧ w2.ownsRow w0.heap.size 92 6 (.slice av ts.length cv) ts.length (Tk.tkR ts)) := by
    show _ ∧ _ ∧ _ ∧ _
    rw [← hw2]
    refine ⟨(((Ct.refl bp bf w0).keep HB1.out).setF 0 _).setF 1 _, ((HN.out.2.1.keep HB1.out).far (by exact HNE.out.1) _).far (by exact HNE.out.1) _, by simpa using ((HN.out.2.2.keep HB1.out).set_ 0 (.int .i64 0)).set_ 1 (.int .i64 0), own_heapR HO1.out fun b hb => ?_⟩
    have h1 := (own_lowR HO1.out b hb).1
    have h2 := HS0.out
    rw [Below.heap_setCell _ ⟨bf, 1, none⟩ _ b (by show b ≠ bf; omega), Below.heap_setCell _ ⟨bf, 0, none⟩ _ b (by show b ≠ bf; omega)]
  clear hw2 e0 e1 f0 f1
  go_upto_region 6 with (fail)
  generalize hw3 : World.alloc w2 _ = w3
  obtain ⟨g, hg⟩ : ∃ g, g = w2.heap.size := ⟨_, rfl⟩
  rw [← hg]
  have H0 : Hid (RdL w bp bf g fin ts.length R w3 N1 [] [] ts none 0 none 0) := by
    have hb3 : Below w2.heap.size w2 w3 := by rw [← hw3]; exact Ext.alloc (Below.refl _ _) _
    have hbl : Below w.heap.size w w2 := by
      have h1 := HN.out.1
      rw [HBP.out] at h1
      have h2 := HS2.out.1
      have h3 := HNE.out
      exact ⟨h2.os.trans h1.os, h2.tape.trans h1.tape, h2.output.trans h1.output, Nat.le_trans h1.size h2.size, fun k hk => (h2.block k (Nat.lt_of_lt_of_le hk h1.size) (by omega) (by omega)).trans (h1.block k hk)⟩
    have hsg : w0.heap.size ≤ g := by rw [hg]; exact HS2.out.1.size
    refine ⟨Ext.trans hbl hb3, HNE.out.2.1, by rw [HBP.out, HBF.out]; exact Nat.lt_succ_self _, Nat.lt_of_lt_of_le HS0.out hsg, HS2.out.2.1.keep hb3, HS2.out.2.2.1.keep hb3, ⟨_, _, Two.nil ..⟩, ⟨.slice av ts.length cv, ?_, ?_⟩, HR.out, by rw [HN1.out]; omega, by simp, by simp⟩
    · rw [← hw3, hg, HFI.out]; exact Blk.new _ _ _
    · refine Tks.of (Tk.own_keepT HS2.out.2.2.2 hb3) (fun k hk => ?_) HOK.out
      rw [hg]; exact (own_lowR HS2.out.2.2.2 k hk).2
  clear hw3 hg HS2 HB1 HO1 HT HN HS0 HW0 HBP HBF
  go_loopw [6, 7, 8, 9, 10] (fun _ _ _ _ _ wr => ∃ (m : Nat) (gs : List Gl) (fs : List Fn) (lr : List Tk.Tok) (a0 : Option Addr) (c0 : Nat) (a1 : Option Addr) (c1 : Nat), Hid (RdL w bp bf g fin ts.length R wr m gs fs lr a0 c0 a1 c1)) (fun _ _ _ _ _ wr => tkL wr g)
  case atStart => exact ⟨_, _, _, _, _, _, _, _, H0.out⟩
  case round =>
    obtain ⟨m, gs, fs, lr, a0, c0, a1, c1, HA⟩ := hrel
    obtain ⟨m, rfl⟩ : ∃ m', m = m' + 1 := ⟨m - 1, by have := HA.out.fuel; omega⟩
    clear H0
    obtain ⟨v, hb, ht⟩ := HA.out.pb
    have p0 := hb.cell 0
    cases lr with
    | nil =>
      obtain ⟨ta, tc, rfl, _, _⟩ := ht.sl
      clear hb ht
      have HRK : Hid (R = .ok ⟨gs, fs⟩) := by show R = _; rw [HA.out.is]; rfl
      have HWG := Lib.hid (HWF.out _ HRK.out)
      have HPG := Lib.hid (HA.out.pg (Ct.refl bp bf wr))
      have HWR := Lib.hid (swrong_ok ⟨gs, fs⟩ _ _ wr _ HPG.out HWG.out)
      obtain ⟨E, hE⟩ : ∃ E, E = Pg.wrong ⟨gs, fs⟩ := ⟨_, rfl⟩
      rw [← hE] at HWR
      have HE := Lib.hid hE
      clear hE
      by_cases hz : E = 0
      · have q : (E != 0) = false := by simpa using hz
        have HRR : Hid (Ps.read s.data.toList = .ok ⟨gs, fs⟩ ∧ Pg.wrong ⟨gs, fs⟩ = 0) := by
          have h1 : Pg.wrong ⟨gs, fs⟩ = 0 := by rw [← HE.out]; exact hz
          exact ⟨by rw [HRO.out _ HRK.out, if_neg (fun h => h h1)], h1⟩
        clear hz
        go_upto_region 22 with (first | (refine wpList_load_row rfl 26 _ rfl bp rfl 26 (qrow a0 gs.length c0 a1 fs.length c1) (0, 0) _ HA.out.hp Try.underlying26 rfl (by kernel_rfl) ?_) | (go_at_call 12; refine (HWR.out).mono ?_; rintro e w5 ⟨rfl, hb5⟩; have HB5 := Lib.hid hb5; clear hb5))
        have HS5 : Hid (Ct bp bf wr w5 ∧ Blk w5 bp 26 (qrow a0 gs.length c0 a1 fs.length c1) ∧ Blk w5 bf 29 #[.int .i64 0, .int .i64 0]) := ⟨(Ct.refl bp bf wr).keep HB5.out, HA.out.hp.keep HB5.out, HA.out.hf.keep HB5.out⟩
        clear p0 q
        apply Iy.wp_region 3 [2] (fun _ => []) (Ix.Rb) (fun nn vs wi => Hid (Ct bp bf wr wi ∧ Blk wi bp 26 (qrow a0 gs.length c0 a1 fs.length c1) ∧ Blk wi bf 29 #[.int .i64 0, .int .i64 0])) (Iy.vp [(Iy.is (.agg (qrow a0 gs.length c0 a1 fs.length c1))), (Iy.is (.agg #[.int .i64 0, .int .i64 0])), (fun _ => True)]) (fun _ => false) (by kernel_rfl) (by kernel_rfl) (by kernel_rfl) (by kernel_rfl) (by kernel_rfl) (fun _ _ _ _ _ h => h) (fun _ => Below.refl _ _) (fun nn vs _ _ h hb => ⟨h.out.1.keep hb, h.out.2.1.keep hb, h.out.2.2.keep hb⟩) (fun _ _ => Iy.vp_keeps _ _ _ _) (Ix.not_al _) (fun vs => ⟨HS5.out.1.keep (Ext.drew (Below.refl _ _)), HS5.out.2.1.keep (Ext.drew (Below.refl _ _)), HS5.out.2.2.keep (Ext.drew (Below.refl _ _))⟩)
        case step =>
          refine zys 2 0 1 [] (fun _ _ wi HB => ?_) <| zys 1 1 2 [] (fun _ _ wi HB => ?_) <| zyc 0 2 3 0 [(0, some 97)] (fun vsp wi HB => ?_) <| Iy.steps_nil
          iterate 2 (· (have e0 := HB.out.2.1.cell 0; have e1 := HB.out.2.1.cell 1; have g0 := HB.out.2.2.cell 0; have g1 := HB.out.2.2.cell 1; have f0 := HB.out.2.1.frozen 0; have f1 := HB.out.2.1.frozen 1; (repeat (refine zya ?_; rintro _ rfl)); refine zye ?_; (try simp only [zyp]); refine Iy.goI_yes rfl rfl fun K hK => ?_; (try simp only [zyp] at hK); go_wp2_with (first | fail); exact hK _ _ (Below.refl _ _) rfl))
          (· (have e0 := HB.out.2.1.cell 0; have e1 := HB.out.2.1.cell 1; have f0 := HB.out.2.1.frozen 0; have f1 := HB.out.2.1.frozen 1; refine zya ?_; rintro _ ⟨rfl, ev0⟩; refine zye ?_; (try simp only [zyp]); refine Iy.goI_yes rfl rfl fun K hK => ?_; (try simp only [zyp] at hK); go_wp2_with (first | fail); exact hK undef _ ⟨⟨(HB.out.1.setP 0 _).setP 1 _, by simpa using (HB.out.2.1.set_ 0 (.slice a0 gs.length c0)).set_ 1 (.slice a1 fs.length c1), (HB.out.2.2.far (by exact fun e => HNE.out.1 e.symm) _).far (by exact fun e => HNE.out.1 e.symm) _⟩, fun _ _ h => h⟩ trivial))
        intro vsf wf HF hdf
        refine zyv 2 0 1 ?_; rintro _ _ rfl; refine zyv 1 1 2 ?_; rintro _ _ rfl; refine zyv 0 2 3 ?_; rintro _ _ _
        refine Ix.allV_nil ?_
        have g0 := HF.out.2.2.cell 0; have g1 := HF.out.2.2.cell 1; have f0 := HF.out.2.2.frozen 0; have f1 := HF.out.2.2.frozen 1
        (try simp only [Act.put, List.setIfInBounds_toArray, List.set_cons_zero, List.set_cons_succ, List.drop_succ_cons, List.drop_zero])
        go_wp2_with (first | fail)
        all_goals (first | refine Ix.only ?_ | (refine Ix.onlyP fun tz => ?_))
        generalize hw7 : World.setCell (World.setCell wf _ _) _ _ = w7
        have HS7 : Hid (Ct bp bf wr w7 ∧ Blk w7 bp 26 (qrow a0 gs.length c0 a1 fs.length c1) ∧ Blk w7 bf 29 #[.int .i64 0, .int .i64 0]) := by
          show _ ∧ _ ∧ _
          rw [← hw7]
          exact ⟨(HF.out.1.setF 0 _).setF 1 _, (HF.out.2.1.far (by exact HNE.out.1) _).far (by exact HNE.out.1) _, by simpa using (HF.out.2.2.set_ 0 (.int .i64 0)).set_ 1 (.int .i64 0)⟩
        clear hw7 g0 g1 f0 f1
        go_wp2_with (fail)
        exact rd_ok rfl rfl rfl (HA.out.belct HS7.out.1) HS7.out.2.1 HS7.out.2.2 HRR.out.1 (HA.out.pg HS7.out.1) HWG.out HRR.out.2 rfl
      · have q : (E != 0) = true := by simpa using hz
        have HRR : Hid (Ps.read s.data.toList = .error (4, 0)) := by
          show _ = _
          rw [HRO.out _ HRK.out, if_pos (by rw [← HE.out]; exact hz)]
        clear hz
        go_wp2_with (first | (refine wpList_load_row rfl 26 _ rfl bp rfl 26 (qrow a0 gs.length c0 a1 fs.length c1) (0, 0) _ HA.out.hp Try.underlying26 rfl (by kernel_rfl) ?_) | (go_at_call 12; refine (HWR.out).mono ?_; rintro e w5 ⟨rfl, hb5⟩; have HB5 := Lib.hid hb5; clear hb5) | (go_at_call 22; refine (pfail_ok _ _ _ _).mono ?_; rintro e w' ⟨rfl, rfl⟩))
        exact rd_err (a := 0) rfl rfl rfl (HA.out.belc (Chg.of_below HB5.out)) (HA.out.hpc (Chg.of_below HB5.out)) (HA.out.hfc (Chg.of_below HB5.out)) HNE.out.1 HNE.out.2.1 HNE.out.2.2 HRR.out (by decide) rfl
    | cons t l0 =>
      obtain ⟨tq, off, tc, htq, rfl, hlc, hcm, _⟩ := ht.hd
      have ql : decide ((l0.length : Int) + 1 > 0) = true := decide_eq_true (by omega)
      clear hb ht
      obtain ⟨nF, hnF⟩ : ∃ nF, nF = fs.length := ⟨_, rfl⟩
      obtain ⟨nG, hnG⟩ : ∃ nG, nG = gs.length := ⟨_, rfl⟩
      have HNF := Lib.hid hnF
      have HNG := Lib.hid hnG
      have h8 : nF ≤ 100 := by rw [hnF]; exact HA.out.most
      have h9 : nG ≤ 70000 := by have h1 := HA.out.few; have h2 := HN7.out; omega
      clear hnF hnG
      obtain ⟨lt, hlt⟩ : ∃ lt, lt = (t :: l0).tail := ⟨_, rfl⟩
      have HLT : Hid (lt.length < (t :: l0).length) := by show lt.length < (t :: l0).length; rw [hlt]; simp
      have HAT := Lib.hid (pat_ok wr g fin 0 (t :: l0) HA.out.pb)
      obtain ⟨at0, hat0⟩ : ∃ at0 : Nat, at0 = Ps.pos fin (t :: l0) := ⟨_, rfl⟩
      rw [← hat0] at HAT
      have hRP : R = Ps.progS (Ps.at' fin m) fin ⟨gs, fs⟩ (t :: l0) := HA.out.is
      have HTY := Lib.hid (ptyped_ok wr g fin 0 (t :: l0) HA.out.pb)
      have hlv : (t :: l0).tail = lt := hlt.symm
      cases hty : Ps.typed (t :: l0) with
      | some tt =>
        obtain ⟨tb, tsg⟩ := tt
        rw [hty] at HTY
        have HRW : Hid (R = Ps.seqP (Ps.name fin lt) fun n l1 => if Ps.sees [40] l1 = true then (if fs.length = 100 then .error (5, at0) else Ps.seqP (Ps.fnS (Ps.at' fin m) fin tb tsg n l1.tail) fun f l2 => (Ps.at' fin m).prog ⟨gs, fs ++ [f]⟩ l2) else Ps.seqP (Ps.glS (Ps.at' fin m) fin tb tsg n l1) fun f l2 => (Ps.at' fin m).prog ⟨gs ++ [f], fs⟩ l2) := by
          show R = _
          rw [hRP, Ps.progA (by simp) (show Ps.headS (t :: l0) = some (some (tb, tsg)) by unfold Ps.headS; rw [hty]), ← hlt, ← hat0]
        clear hRP hty hat0
        go_upto_region 12 with (first | (go_at_call 19; refine HAT.out.mono ?_; rintro e w' ⟨rfl, rfl⟩) | (go_at_call 20; refine (HTY.out).mono ?_; rintro e w4 ⟨hc4, rfl, hpb⟩; have HC4 := Lib.hid hc4; have HPB4 := Lib.hid hpb; clear hc4 hpb))
        generalize hwa : World.alloc w4 _ = wa
        obtain ⟨b7, hb7⟩ : ∃ b7, b7 = w4.heap.size := ⟨_, rfl⟩
        rw [← hb7]
        have HBA : Hid (Below w4.heap.size w4 wa) := by show Below _ _ _; rw [← hwa]; exact Ext.alloc (Below.refl _ _) _
        have HCA : Hid (Chg g wr wa) := HC4.out.trans (Chg.of_below HBA.out)
        have HPA : Hid (Pb wa g fin 0 lt) := by rw [hlt]; exact HPB4.out.keep HBA.out
        have HTA : Hid (∀ wi, Chg g wa wi → Blk wi b7 38 #[.int .i64 tb, .bool tsg]) := by
          have h1 : Blk wa b7 38 #[.int .i64 tb, .bool tsg] := by rw [← hwa, hb7]; exact Blk.new _ _ _
          have h2 : b7 ≠ g := by have h3 := HPB4.out.lt; omega
          exact fun wi hc => (hc.block b7 h1.lt (fun e => by injection e with e; exact h2 e)).trans h1
        clear hwa hb7 HBA HC4 HPB4 HTY HAT hlt hlv p0 ql
        have HN := Lib.hid (pname_ok wa g fin 0 lt HPA.out)
        obtain ⟨rn, hrn⟩ : ∃ rn, rn = Ps.name fin lt := ⟨_, rfl⟩
        have HLN : Hid (∀ x l', rn = .ok (x, l') → l'.length < lt.length) := fun x l' h => Ps.name_lt (fin := fin) (hrn ▸ h)
        have HRA : Hid (R = Ps.seqP rn fun n l1 => if Ps.sees [40] l1 = true then (if fs.length = 100 then .error (5, at0) else Ps.seqP (Ps.fnS (Ps.at' fin m) fin tb tsg n l1.tail) fun f l2 => (Ps.at' fin m).prog ⟨gs, fs ++ [f]⟩ l2) else Ps.seqP (Ps.glS (Ps.at' fin m) fin tb tsg n l1) fun f l2 => (Ps.at' fin m).prog ⟨gs ++ [f], fs⟩ l2) := by show R = _; rw [hrn]; exact HRW.out
        rw [← hrn] at HN
        clear hrn HRW
        go_upto_region 14 with (first | (go_at_call 23; refine (HN.out).mono ?_; rintro e wn ⟨hc6, hp6, hr6⟩; have HCn := Lib.hid hc6; have HPn := Lib.hid hp6; clear hc6 hp6; rcases rn with z | ⟨n, l1⟩; (obtain rfl := hr6); rotate_left; (obtain ⟨rfl, hpb⟩ := hr6; have HPN := Lib.hid hpb; clear hpb); rotate_left))
        · exact rd_err rfl rfl rfl (HA.out.belc (HCA.out.trans HCn.out)) (HA.out.hpc (HCA.out.trans HCn.out)) (HA.out.hfc (HCA.out.trans HCn.out)) HNE.out.1 HNE.out.2.1 HNE.out.2.2 (HRE.out _ HRA.out) (HNZ.out _ HRA.out) rfl
        have HL1 : Hid (l1.length < lt.length) := HLN.out _ _ rfl
        have HRB : Hid (R = if Ps.sees [40] l1 = true then (if fs.length = 100 then .error (5, at0) else Ps.seqP (Ps.fnS (Ps.at' fin m) fin tb tsg n l1.tail) fun f l2 => (Ps.at' fin m).prog ⟨gs, fs ++ [f]⟩ l2) else Ps.seqP (Ps.glS (Ps.at' fin m) fin tb tsg n l1) fun f l2 => (Ps.at' fin m).prog ⟨gs ++ [f], fs⟩ l2) := HRA.out
        clear HRA HLN HN
        cases hs40 : Ps.sees [40] l1 with
        | true =>
          have HI := Lib.hid (pis_yes wn g fin 0 l1 [40] HPN.out hs40)
          have HL2 : Hid (l1.tail.length < l1.length) := Ps.sees_lt hs40
          have HRC : Hid (R = if fs.length = 100 then .error (5, at0) else Ps.seqP (Ps.fnS (Ps.at' fin m) fin tb tsg n l1.tail) fun f l2 => (Ps.at' fin m).prog ⟨gs, fs ++ [f]⟩ l2) := by show R = _; rw [HRB.out, if_pos hs40]
          clear hs40 HRB
          go_upto_region 15 with (first | (go_at_call_of 21 (Value.string ⟨#[40]⟩); refine (HI.out).mono ?_; rintro e wb ⟨rfl, hc1, hb1⟩; have HCwb := Lib.hid hc1; have HBwb := Lib.hid hb1; clear hc1 hb1))
          obtain ⟨l3, hl3⟩ : ∃ l3, l3 = l1.tail := ⟨_, rfl⟩
          have HPB : Hid (Pb wb g fin 0 l3) := by rw [hl3]; exact HBwb.out
          have HL3 : Hid (l3.length < (t :: l0).length) := by rw [hl3]; have h1 := HL1.out; have h2 := HL2.out; have h3 := HLT.out; exact Nat.lt_trans (Nat.lt_trans h2 h1) h3
          rw [← hl3] at HRC
          clear hl3
          have HCB : Hid (Chg g wr wb) := (HCA.out.trans HCn.out).trans HCwb.out
          have HPI : Hid (∀ wi, Chg g wb wi → wi.cell? ⟨bp, 1, none⟩ = some (.slice a1 nF c1)) := fun wi hc => by rw [HNF.out]; exact (HA.out.hpc (HCB.out.trans hc)).cell 1
          have e2 := HPI.out wb (Chg.of_below (Below.refl _ _))
          by_cases h100 : nF = 100
          · have q9 : ((nF : Int) == 100) = true := by simp [h100]
            have HRZ : Hid (R = .error (5, at0)) := by show R = _; rw [HRC.out, if_pos (HNF.out ▸ h100)]
            clear h100
            go_wp2_with (first | (go_at_call 22; refine (pfail_ok _ _ _ _).mono ?_; rintro e w' ⟨rfl, rfl⟩))
            exact rd_err rfl rfl rfl (HA.out.belc (HCB.out)) (HA.out.hpc (HCB.out)) (HA.out.hfc (HCB.out)) HNE.out.1 HNE.out.2.1 HNE.out.2.2 (HRE.out _ HRZ.out) (HNZ.out _ HRZ.out) rfl
          have q9 : ((nF : Int) == 100) = false := by simp; omega
          have HN100 : Hid (¬ fs.length = 100) := fun h => h100 (HNF.out.trans h)
          have HRD : Hid (R = Ps.seqP (Ps.fnS (Ps.at' fin m) fin tb tsg n l3) fun f l2 => (Ps.at' fin m).prog ⟨gs, fs ++ [f]⟩ l2) := by show R = _; rw [HRC.out, if_neg HN100.out]
          clear h100 HRC
          go_upto_region 17 with (fail)
          clear e2 q9
          have HTI : Hid (∀ wi, Chg g wb wi → Blk wi b7 38 #[.int .i64 tb, .bool tsg]) := fun wi hc => HTA.out wi ((HCn.out.trans HCwb.out).trans hc)
          have HGB : Hid (g < wb.heap.size) := HPB.out.lt
          have HC := Lib.hid (fun wi (hp : Pb wi g fin 0 l3) => pfunc_ok wi g fin m tb tsg n l3 hp (by have h1 := HL3.out; have h2 := HA.out.few; have h3 := HN7.out; omega) (by have h1 := HL3.out; have h2 := HA.out.fuel; omega))
          obtain ⟨rq, hrq⟩ : ∃ rq, rq = Ps.fnS (Ps.at' fin m) fin tb tsg n l3 := ⟨_, rfl⟩
          have HLQ : Hid (∀ x l', rq = .ok (x, l') → l'.length ≤ l3.length) := fun x l' h => Nat.le_of_lt (Ps.fnS_lt (Ps.less_at fin m) (hrq ▸ h))
          have HRQ : Hid (R = Ps.seqP rq fun f l2 => (Ps.at' fin m).prog ⟨gs, fs ++ [f]⟩ l2) := by show R = _; rw [hrq]; exact HRD.out
          rw [← hrq] at HC
          clear hrq HRD
          cases rq with
          | error z =>
            have HRZ : Hid (R = .error z) := HRQ.out
            apply Iy.wp_regionF [2, 3] (by kernel_rfl) 7 [5] (fun n => []) (Ix.Rb) (fun mm vs wi => Hid (Chg g wb wi) ∧ (match mm with | 0 => Pb wi g fin 0 l3 | _ + 1 => True)) (Ix.vk [(Ix.kis _), (Ix.kis (.slice a1 nF c1)), (Ix.kis _), (Ix.kis (.agg #[.int .i64 tb, .bool tsg])), (Ix.kis _), (Ix.ksat (fun _ => False)), (Ix.ksat (fun _ => False))]) (fun _ => false) (by kernel_rfl) (by kernel_rfl) (by kernel_rfl) (by kernel_rfl) (by kernel_rfl) (fun n vs vs' w hk h => h) (fun _ => Below.refl _ _) (fun n vs _ _ h hb => ⟨h.1.out.trans (Chg.of_below hb), by cases n with | zero => exact h.2.keep hb | succ n => trivial⟩) (Ix.vk_keeps _) (Ix.not_al _) (fun vs => ⟨Chg.of_below (Ext.drew (Below.refl _ _)), HPB.out.keep (Ext.drew (Below.refl _ _))⟩)
            case step =>
              refine zys 6 0 1 [] (fun _ _ wi HB => ?_) <| zys 5 1 2 [(0, some 76)] (fun _ _ wi HB => ?_) <| zys 4 2 3 [] (fun _ _ wi HB => ?_) <| zys 3 3 4 [] (fun _ _ wi HB => ?_) <| zys 2 4 5 [] (fun _ _ wi HB => ?_) <| zyc 1 5 6 0 [(2, some 78), (3, some 79), (4, some 80)] (fun vsp wi HB => ?_) <| zys 0 6 7 [(5, some 81)] (fun _ _ wi HB => ?_) <| Iy.steps_nil
              (· ((repeat (refine zya ?_; rintro _ rfl)); refine zye ?_; (try simp only [zyp]); refine Iy.goI_yes rfl rfl fun K hK => ?_; (try simp only [zyp] at hK); go_wp2_with (first | fail); exact hK _ _ (Below.refl _ _) rfl))
              (· (obtain ⟨HM, _⟩ := HB; have hz := HTI.out _ HM.out; have e0 := hz.cell 0; have e1 := hz.cell 1; have e2 := HPI.out _ HM.out; (repeat (refine zya ?_; rintro _ rfl)); refine zye ?_; (try simp only [zyp]); refine Iy.goI_yes rfl rfl fun K hK => ?_; (try simp only [zyp] at hK); go_wp2_with (first | fail); exact hK _ _ (Below.refl _ _) rfl))
              (· ((repeat (refine zya ?_; rintro _ rfl)); refine zye ?_; (try simp only [zyp]); refine Iy.goI_yes rfl rfl fun K hK => ?_; (try simp only [zyp] at hK); go_wp2_with (first | fail); exact hK _ _ (Below.refl _ _) rfl))
              (· (obtain ⟨HM, _⟩ := HB; have hz := HTI.out _ HM.out; have e0 := hz.cell 0; have e1 := hz.cell 1; have e2 := HPI.out _ HM.out; (repeat (refine zya ?_; rintro _ rfl)); refine zye ?_; (try simp only [zyp]); refine Iy.goI_yes rfl rfl fun K hK => ?_; (try simp only [zyp] at hK); go_wp2_with (first | fail); exact hK _ _ (Below.refl _ _) rfl))
              (· ((repeat (refine zya ?_; rintro _ rfl)); refine zye ?_; (try simp only [zyp]); refine Iy.goI_yes rfl rfl fun K hK => ?_; (try simp only [zyp] at hK); go_wp2_with (first | fail); exact hK _ _ (Below.refl _ _) rfl))
              (· (obtain ⟨HM, hpb⟩ := HB; refine zya ?_; rintro _ ⟨rfl, ev2⟩; refine zya ?_; rintro _ ⟨rfl, ev3⟩; refine zya ?_; rintro _ ⟨rfl, ev4⟩; refine zye ?_; (try simp only [zyp]); refine Iy.goI_yes rfl rfl fun K hK => ?_; (try simp only [zyp] at hK); go_wp2_with (first | (go_at_call 24; refine (HC.out _ hpb).mono ?_; rintro e wc ⟨hca, hpa, rfl⟩)); refine Ix.onlyP fun tz hag => ?_; go_wp2_with (fail); exact rd_err rfl (Iy.agr_getD hag (by decide) rfl) (Iy.agr_getD hag (by decide) rfl) (HA.out.belc ((HCB.out.trans HM.out).trans hca)) (HA.out.hpc ((HCB.out.trans HM.out).trans hca)) (HA.out.hfc ((HCB.out.trans HM.out).trans hca)) HNE.out.1 HNE.out.2.1 HNE.out.2.2 (HRE.out _ HRZ.out) (HNZ.out _ HRZ.out) rfl))
              (· (obtain ⟨HM, _⟩ := HB; have hz := HTI.out _ HM.out; have e0 := hz.cell 0; have e1 := hz.cell 1; have e2 := HPI.out _ HM.out; refine zya ?_; rintro _ hf5; refine zye ?_; (try simp only [zyp]); refine Iy.goI_yes rfl rfl fun K hK => ?_; (try simp only [zyp] at hK); exact hf5.elim; skip))
            intro vsf wf HF hdf
            refine zyv 6 0 1 ?_; rintro _ _ rfl; refine zyv 5 1 2 ?_; rintro _ _ rfl; refine zyv 4 2 3 ?_; rintro _ _ rfl; refine zyv 3 3 4 ?_; rintro _ _ rfl; refine zyv 2 4 5 ?_; rintro _ _ rfl; refine zyv 1 5 6 ?_; rintro _ _ hf5; refine zyv 0 6 7 ?_; rintro _ _ hf6
            refine Ix.allV_nil ?_
            (try simp only [Act.put, List.setIfInBounds_toArray, List.set_cons_zero, List.set_cons_succ, List.drop_succ_cons, List.drop_zero])
            go_wp2_with (first | fail)
            all_goals (first | refine Ix.only ?_ | (refine Ix.onlyP fun tz => ?_))
            all_goals exact hf5.elim
          | ok pf =>
            obtain ⟨q, l4⟩ := pf
            apply Iy.wp_region 7 [5] (fun n => []) (Ix.Rb) (fun mm vs wi => Hid (Chg g wb wi) ∧ (match mm with | 0 => Pb wi g fin 0 l3 | _ + 1 => Pb wi g fin 0 l4)) (Ix.vk [(Ix.kis _), (Ix.kis (.slice a1 nF c1)), (Ix.kis _), (Ix.kis (.agg #[.int .i64 tb, .bool tsg])), (Ix.kis _), (Ix.kwld (fun v w' => ∃ va vb, v = Value.agg #[.string q.nm, .int .i64 q.b, .bool q.s, va, vb] ∧ FnIn w' (fun k => wb.heap.size ≤ k) q [.string q.nm, .int .i64 q.b, .bool q.s, va, vb]) (fun v w1 w2 h hb => by obtain ⟨va, vb, e, hi⟩ := h; exact ⟨va, vb, e, hi.move fun k hk hl => ⟨hk, hb.block k hl⟩⟩)), (Ix.kwld (fun v w' => ∃ t va vb, v = Value.slice (some ⟨t, 0, none⟩) 1 1 ∧ wb.heap.size ≤ t ∧ Blk w' t 45 #[.string q.nm, .int .i64 q.b, .bool q.s, va, vb] ∧ FnIn w' (fun k => wb.heap.size ≤ k) q [.string q.nm, .int .i64 q.b, .bool q.s, va, vb]) (fun v w1 w2 h hb => by obtain ⟨t, va, vb, e, hl, hi, hx⟩ := h; exact ⟨t, va, vb, e, hl, hi.keep hb, hx.move fun k hk hl => ⟨hk, hb.block k hl⟩⟩))]) (fun _ => false) (by kernel_rfl) (by kernel_rfl) (by kernel_rfl) (by kernel_rfl) (by kernel_rfl) (fun n vs vs' w hk h => h) (fun _ => Below.refl _ _) (fun n vs _ _ h hb => ⟨h.1.out.trans (Chg.of_below hb), by cases n with | zero => exact h.2.keep hb | succ n => exact h.2.keep hb⟩) (Ix.vk_keeps _) (Ix.not_al _) (fun vs => ⟨Chg.of_below (Ext.drew (Below.refl _ _)), HPB.out.keep (Ext.drew (Below.refl _ _))⟩)
            case step =>
              refine zys 6 0 1 [] (fun _ _ wi HB => ?_) <| zys 5 1 2 [(0, some 76)] (fun _ _ wi HB => ?_) <| zys 4 2 3 [] (fun _ _ wi HB => ?_) <| zys 3 3 4 [] (fun _ _ wi HB => ?_) <| zys 2 4 5 [] (fun _ _ wi HB => ?_) <| zyc 1 5 6 0 [(2, some 78), (3, some 79), (4, some 80)] (fun vsp wi HB => ?_) <| zys 0 6 7 [(5, some 81)] (fun _ _ wi HB => ?_) <| Iy.steps_nil
              (· ((repeat (refine zya ?_; rintro _ rfl)); refine zye ?_; (try simp only [zyp]); refine Iy.goI_yes rfl rfl fun K hK => ?_; (try simp only [zyp] at hK); go_wp2_with (first | fail); exact hK _ _ (Below.refl _ _) rfl))
              (· (obtain ⟨HM, _⟩ := HB; have hz := HTI.out _ HM.out; have e0 := hz.cell 0; have e1 := hz.cell 1; have e2 := HPI.out _ HM.out; (repeat (refine zya ?_; rintro _ rfl)); refine zye ?_; (try simp only [zyp]); refine Iy.goI_yes rfl rfl fun K hK => ?_; (try simp only [zyp] at hK); go_wp2_with (first | fail); exact hK _ _ (Below.refl _ _) rfl))
              (· ((repeat (refine zya ?_; rintro _ rfl)); refine zye ?_; (try simp only [zyp]); refine Iy.goI_yes rfl rfl fun K hK => ?_; (try simp only [zyp] at hK); go_wp2_with (first | fail); exact hK _ _ (Below.refl _ _) rfl))
              (· (obtain ⟨HM, _⟩ := HB; have hz := HTI.out _ HM.out; have e0 := hz.cell 0; have e1 := hz.cell 1; have e2 := HPI.out _ HM.out; (repeat (refine zya ?_; rintro _ rfl)); refine zye ?_; (try simp only [zyp]); refine Iy.goI_yes rfl rfl fun K hK => ?_; (try simp only [zyp] at hK); go_wp2_with (first | fail); exact hK _ _ (Below.refl _ _) rfl))
              (· ((repeat (refine zya ?_; rintro _ rfl)); refine zye ?_; (try simp only [zyp]); refine Iy.goI_yes rfl rfl fun K hK => ?_; (try simp only [zyp] at hK); go_wp2_with (first | fail); exact hK _ _ (Below.refl _ _) rfl))
              (· (obtain ⟨HM, hpb⟩ := HB; refine zya ?_; rintro _ ⟨rfl, ev2⟩; refine zya ?_; rintro _ ⟨rfl, ev3⟩; refine zya ?_; rintro _ ⟨rfl, ev4⟩; refine zye ?_; (try simp only [zyp]); refine Iy.goI_yes rfl rfl fun K hK => ?_; (try simp only [zyp] at hK); go_wp2_with (first | (go_at_call 24; refine (HC.out _ hpb).mono ?_; rintro e wc ⟨hca, hpa, cs, rfl, hin, hpb2⟩; obtain ⟨va, vb, rfl⟩ := Pw.formF hin)); exact hK _ _ ⟨⟨HM.out.trans hca, hpb2⟩, Iy.vk_turn (by repeat (first | exact True.intro | refine And.intro (fun _ h => h) ?_ | refine And.intro (fun hne => absurd rfl hne) ?_ | refine And.intro (fun _ h => (by obtain ⟨t9, va, vb, e9, h9, h10, h11⟩ := h; exact ⟨t9, va, vb, e9, h9, (hca.block t9 h10.lt (fun e => by injection e with e; have := HGB.out; omega)).trans h10, h11.move fun k hk hl => ⟨hk, hca.block k hl (fun e => by injection e with e; have hk : wb.heap.size ≤ k := hk; have := HGB.out; omega)⟩⟩)) ?_))⟩ ⟨va, vb, rfl, hin.move fun k hk hl => ⟨Nat.le_trans HM.out.size hk, rfl⟩⟩))
              (· (obtain ⟨HM, _⟩ := HB; have hz := HTI.out _ HM.out; have e0 := hz.cell 0; have e1 := hz.cell 1; have e2 := HPI.out _ HM.out; refine zya ?_; rintro _ ⟨va, vb, rfl, hyi⟩; refine zye ?_; (try simp only [zyp]); refine Iy.goI_yes rfl rfl fun K hK => ?_; (try simp only [zyp] at hK); go_wp2_with (first | fail); exact hK _ _ (Ext.alloc (Below.refl _ _) _) ⟨_, va, vb, rfl, HM.out.size, Blk.new _ _ _, hyi.move fun k hk hl => ⟨hk, (Ext.alloc (Below.refl _ _) _ : Below wi.heap.size wi _).block k hl⟩⟩))
            intro vsf wf HF hdf
            refine zyv 6 0 1 ?_; rintro _ _ rfl; refine zyv 5 1 2 ?_; rintro _ _ rfl; refine zyv 4 2 3 ?_; rintro _ _ rfl; refine zyv 3 3 4 ?_; rintro _ _ rfl; refine zyv 2 4 5 ?_; rintro _ _ rfl; refine zyv 1 5 6 ?_; rintro _ _ ⟨va, vb, rfl, hyi⟩; refine zyv 0 6 7 ?_; rintro _ _ ⟨tf, va, vb, rfl, htlf, htbf, hyif⟩
            refine Ix.allV_nil ?_
            obtain ⟨HMF, hpbf⟩ := HF; have e2f := HPI.out _ HMF.out; obtain ⟨f0, f1, ht0⟩ := HA.out.two; have htf := ht0.chg layG layF (Nat.lt_succ_self g) (HCB.out.trans HMF.out); have hofn : wf.ownsRow (g + 1) 45 5 (.slice a1 nF c1) nF (flat f1 fs.length) := (by rw [HNF.out]; exact htf.own1)
            (try simp only [Act.put, List.setIfInBounds_toArray, List.set_cons_zero, List.set_cons_succ, List.drop_succ_cons, List.drop_zero])
            go_wp2_with (first | (refine wpList_app_row rfl _ _ 24 45 5 80 (.agg Pw.zF) rfl Try.underlying24 (by kernel_rfl) rfl (by decide) (by decide) (g + 1) (.slice a1 nF c1) nF (flat f1 fs.length) tf [.string q.nm, .int .i64 q.b, .bool q.s, va, vb] rfl rfl hofn rfl (bcell_of htbf) (layF.one (show LF wf _ q _ from hyif)) (by omega) (by have h1 := HGB.out; have h2 := HMF.out.size; omega) ?_; intro a9 c9 w9 ho9 hg9 hat9; have hx9 : Blk w9 bp 26 _ := (hg9.block bp (HA.out.hpc (HCB.out.trans HMF.out)).lt (fun e => by have h1 := (own_lowR hofn bp e.symm).1; have h2 := HA.out.lpf; have h3 := HA.out.lfg; omega)).trans (HA.out.hpc (HCB.out.trans HMF.out)); have e2 := hx9.cell 1; have f2 := hx9.frozen 1; clear hx9))
            all_goals (first | refine Ix.only ?_ | (refine Ix.onlyP fun tz => ?_))
            have HLT4 : Hid (l4.length < (t :: l0).length) := by have h1 := HLQ.out _ _ rfl; have h2 := HL3.out; exact Nat.lt_of_le_of_lt h1 h2
            have HNX : Hid (RdL w bp bf g fin ts.length R (w9.setCell ⟨bp, 1, none⟩ (.slice a9 (nF + 1) c9)) m gs (fs ++ [q]) l4 a0 c0 a9 c9 ∧ tkL (w9.setCell ⟨bp, 1, none⟩ (.slice a9 (nF + 1) c9)) g = l4.length) := by
              have e9 := HNF.out
              subst e9
              exact HA.out.nextF HRQ.out HLT4.out (by have h1 : l4.length < l0.length + 1 := HLT4.out; have h2 : 32 * (l0.length + 1) + 26 ≤ m + 1 := HA.out.fuel; show 32 * l4.length + 26 ≤ m; omega) HN100.out (HCB.out.trans HMF.out) hpbf htf (hyif.move fun k hk hl => ⟨Nat.le_trans HCB.out.size hk, rfl⟩) ho9 hg9 hat9
            have HM9 : Hid (tkL (w9.setCell ⟨bp, 1, none⟩ (.slice a9 (nF + 1) c9)) g < tkL wr g) := by
              show tkL _ g < tkL wr g
              rw [HNX.out.2, HA.out.pb.tkL]
              exact HLT4.out
            clear hofn htf ht0 htbf hyif ho9 hg9 hat9 e2 f2 e2f hpbf HMF HRQ HC HPI HTI h8 h9
            go_wp2_with (fail)
            go_round
            case rel => exact ⟨m, gs, fs ++ [q], l4, a0, c0, a9, c9, HNX.out.1⟩
            case measure => exact HM9.out
        | false =>
          have HI := Lib.hid (pis_no wn g fin 0 l1 [40] HPN.out hs40)
          have HRD : Hid (R = Ps.seqP (Ps.glS (Ps.at' fin m) fin tb tsg n l1) fun f l2 => (Ps.at' fin m).prog ⟨gs ++ [f], fs⟩ l2) := by show R = _; rw [HRB.out, if_neg (by rw [hs40]; decide)]
          clear hs40 HRB
          go_upto_region 13 with (first | (go_at_call_of 21 (Value.string ⟨#[40]⟩); refine (HI.out).mono ?_; rintro e w' ⟨rfl, rfl⟩))
          obtain ⟨wb, hwb⟩ : ∃ wb, wb = wn := ⟨_, rfl⟩
          have HPB : Hid (Pb wb g fin 0 l1) := by rw [hwb]; exact HPN.out
          have HCB : Hid (Chg g wr wb) := by rw [hwb]; exact HCA.out.trans HCn.out
          have HTI : Hid (∀ wi, Chg g wb wi → Blk wi b7 38 #[.int .i64 tb, .bool tsg]) := fun wi hc => HTA.out wi (HCn.out.trans (hwb ▸ hc))
          rw [← hwb]
          clear hwb
          obtain ⟨l3, hl3⟩ : ∃ l3, l3 = l1 := ⟨_, rfl⟩
          rw [← hl3] at HPB HRD
          have HL3 : Hid (l3.length < (t :: l0).length) := by rw [hl3]; have h1 := HL1.out; have h3 := HLT.out; exact Nat.lt_trans h1 h3
          clear hl3
          have HPI : Hid (∀ wi, Chg g wb wi → wi.cell? ⟨bp, 0, none⟩ = some (.slice a0 nG c0)) := fun wi hc => by rw [HNG.out]; exact (HA.out.hpc (HCB.out.trans hc)).cell 0
          have HGB : Hid (g < wb.heap.size) := HPB.out.lt
          have HC := Lib.hid (fun wi (hp : Pb wi g fin 0 l3) => pglob_ok wi g fin m tb tsg n l3 hp (by have h1 := HL3.out; have h2 := HA.out.fuel; omega))
          obtain ⟨rq, hrq⟩ : ∃ rq, rq = Ps.glS (Ps.at' fin m) fin tb tsg n l3 := ⟨_, rfl⟩
          have HLQ : Hid (∀ x l', rq = .ok (x, l') → l'.length ≤ l3.length) := fun x l' h => Nat.le_of_lt (Ps.glS_lt (Ps.less_at fin m) (hrq ▸ h))
          have HRQ : Hid (R = Ps.seqP rq fun f l2 => (Ps.at' fin m).prog ⟨gs ++ [f], fs⟩ l2) := by show R = _; rw [hrq]; exact HRD.out
          rw [← hrq] at HC
          clear hrq HRD
          cases rq with
          | error z =>
            have HRZ : Hid (R = .error z) := HRQ.out
            apply Iy.wp_regionF [2, 3] (by kernel_rfl) 7 [5] (fun n => []) (Ix.Rb) (fun mm vs wi => Hid (Chg g wb wi) ∧ (match mm with | 0 => Pb wi g fin 0 l3 | _ + 1 => True)) (Ix.vk [(Ix.kis _), (Ix.kis (.slice a0 nG c0)), (Ix.kis _), (Ix.kis (.agg #[.int .i64 tb, .bool tsg])), (Ix.kis _), (Ix.ksat (fun _ => False)), (Ix.ksat (fun _ => False))]) (fun _ => false) (by kernel_rfl) (by kernel_rfl) (by kernel_rfl) (by kernel_rfl) (by kernel_rfl) (fun n vs vs' w hk h => h) (fun _ => Below.refl _ _) (fun n vs _ _ h hb => ⟨h.1.out.trans (Chg.of_below hb), by cases n with | zero => exact h.2.keep hb | succ n => trivial⟩) (Ix.vk_keeps _) (Ix.not_al _) (fun vs => ⟨Chg.of_below (Ext.drew (Below.refl _ _)), HPB.out.keep (Ext.drew (Below.refl _ _))⟩)
            case step =>
              refine zys 6 0 1 [] (fun _ _ wi HB => ?_) <| zys 5 1 2 [(0, some 57)] (fun _ _ wi HB => ?_) <| zys 4 2 3 [] (fun _ _ wi HB => ?_) <| zys 3 3 4 [] (fun _ _ wi HB => ?_) <| zys 2 4 5 [] (fun _ _ wi HB => ?_) <| zyc 1 5 6 0 [(2, some 59), (3, some 60), (4, some 61)] (fun vsp wi HB => ?_) <| zys 0 6 7 [(5, some 62)] (fun _ _ wi HB => ?_) <| Iy.steps_nil
              (· ((repeat (refine zya ?_; rintro _ rfl)); refine zye ?_; (try simp only [zyp]); refine Iy.goI_yes rfl rfl fun K hK => ?_; (try simp only [zyp] at hK); go_wp2_with (first | fail); exact hK _ _ (Below.refl _ _) rfl))
              (· (obtain ⟨HM, _⟩ := HB; have hz := HTI.out _ HM.out; have e0 := hz.cell 0; have e1 := hz.cell 1; have e2 := HPI.out _ HM.out; (repeat (refine zya ?_; rintro _ rfl)); refine zye ?_; (try simp only [zyp]); refine Iy.goI_yes rfl rfl fun K hK => ?_; (try simp only [zyp] at hK); go_wp2_with (first | fail); exact hK _ _ (Below.refl _ _) rfl))
              (· ((repeat (refine zya ?_; rintro _ rfl)); refine zye ?_; (try simp only [zyp]); refine Iy.goI_yes rfl rfl fun K hK => ?_; (try simp only [zyp] at hK); go_wp2_with (first | fail); exact hK _ _ (Below.refl _ _) rfl))
              (· (obtain ⟨HM, _⟩ := HB; have hz := HTI.out _ HM.out; have e0 := hz.cell 0; have e1 := hz.cell 1; have e2 := HPI.out _ HM.out; (repeat (refine zya ?_; rintro _ rfl)); refine zye ?_; (try simp only [zyp]); refine Iy.goI_yes rfl rfl fun K hK => ?_; (try simp only [zyp] at hK); go_wp2_with (first | fail); exact hK _ _ (Below.refl _ _) rfl))
              (· ((repeat (refine zya ?_; rintro _ rfl)); refine zye ?_; (try simp only [zyp]); refine Iy.goI_yes rfl rfl fun K hK => ?_; (try simp only [zyp] at hK); go_wp2_with (first | fail); exact hK _ _ (Below.refl _ _) rfl))
              (· (obtain ⟨HM, hpb⟩ := HB; refine zya ?_; rintro _ ⟨rfl, ev2⟩; refine zya ?_; rintro _ ⟨rfl, ev3⟩; refine zya ?_; rintro _ ⟨rfl, ev4⟩; refine zye ?_; (try simp only [zyp]); refine Iy.goI_yes rfl rfl fun K hK => ?_; (try simp only [zyp] at hK); go_wp2_with (first | (go_at_call 25; refine (HC.out _ hpb).mono ?_; rintro e wc ⟨hca, hpa, rfl⟩)); refine Ix.onlyP fun tz hag => ?_; go_wp2_with (fail); exact rd_err rfl (Iy.agr_getD hag (by decide) rfl) (Iy.agr_getD hag (by decide) rfl) (HA.out.belc ((HCB.out.trans HM.out).trans hca)) (HA.out.hpc ((HCB.out.trans HM.out).trans hca)) (HA.out.hfc ((HCB.out.trans HM.out).trans hca)) HNE.out.1 HNE.out.2.1 HNE.out.2.2 (HRE.out _ HRZ.out) (HNZ.out _ HRZ.out) rfl))
              (· (obtain ⟨HM, _⟩ := HB; have hz := HTI.out _ HM.out; have e0 := hz.cell 0; have e1 := hz.cell 1; have e2 := HPI.out _ HM.out; refine zya ?_; rintro _ hf5; refine zye ?_; (try simp only [zyp]); refine Iy.goI_yes rfl rfl fun K hK => ?_; (try simp only [zyp] at hK); exact hf5.elim; skip))
            intro vsf wf HF hdf
            refine zyv 6 0 1 ?_; rintro _ _ rfl; refine zyv 5 1 2 ?_; rintro _ _ rfl; refine zyv 4 2 3 ?_; rintro _ _ rfl; refine zyv 3 3 4 ?_; rintro _ _ rfl; refine zyv 2 4 5 ?_; rintro _ _ rfl; refine zyv 1 5 6 ?_; rintro _ _ hf5; refine zyv 0 6 7 ?_; rintro _ _ hf6
            refine Ix.allV_nil ?_
            (try simp only [Act.put, List.setIfInBounds_toArray, List.set_cons_zero, List.set_cons_succ, List.drop_succ_cons, List.drop_zero])
            go_wp2_with (first | fail)
            all_goals (first | refine Ix.only ?_ | (refine Ix.onlyP fun tz => ?_))
            all_goals exact hf5.elim
          | ok pf =>
            obtain ⟨q, l4⟩ := pf
            apply Iy.wp_region 7 [5] (fun n => []) (Ix.Rb) (fun mm vs wi => Hid (Chg g wb wi) ∧ (match mm with | 0 => Pb wi g fin 0 l3 | _ + 1 => Pb wi g fin 0 l4)) (Ix.vk [(Ix.kis _), (Ix.kis (.slice a0 nG c0)), (Ix.kis _), (Ix.kis (.agg #[.int .i64 tb, .bool tsg])), (Ix.kis _), (Ix.kwld (fun v w' => ∃ va, v = Value.agg #[.int .i64 q.b, .bool q.s, .string q.nm, .int .i64 q.size, va] ∧ GlIn w' (fun k => wb.heap.size ≤ k) q [.int .i64 q.b, .bool q.s, .string q.nm, .int .i64 q.size, va]) (fun v w1 w2 h hb => by obtain ⟨va, e, hi⟩ := h; exact ⟨va, e, hi.move fun k hk hl => ⟨hk, hb.block k hl⟩⟩)), (Ix.kwld (fun v w' => ∃ t va, v = Value.slice (some ⟨t, 0, none⟩) 1 1 ∧ wb.heap.size ≤ t ∧ Blk w' t 41 #[.int .i64 q.b, .bool q.s, .string q.nm, .int .i64 q.size, va] ∧ GlIn w' (fun k => wb.heap.size ≤ k) q [.int .i64 q.b, .bool q.s, .string q.nm, .int .i64 q.size, va]) (fun v w1 w2 h hb => by obtain ⟨t, va, e, hl, hi, hx⟩ := h; exact ⟨t, va, e, hl, hi.keep hb, hx.move fun k hk hl => ⟨hk, hb.block k hl⟩⟩))]) (fun _ => false) (by kernel_rfl) (by kernel_rfl) (by kernel_rfl) (by kernel_rfl) (by kernel_rfl) (fun n vs vs' w hk h => h) (fun _ => Below.refl _ _) (fun n vs _ _ h hb => ⟨h.1.out.trans (Chg.of_below hb), by cases n with | zero => exact h.2.keep hb | succ n => exact h.2.keep hb⟩) (Ix.vk_keeps _) (Ix.not_al _) (fun vs => ⟨Chg.of_below (Ext.drew (Below.refl _ _)), HPB.out.keep (Ext.drew (Below.refl _ _))⟩)
            case step =>
              refine zys 6 0 1 [] (fun _ _ wi HB => ?_) <| zys 5 1 2 [(0, some 57)] (fun _ _ wi HB => ?_) <| zys 4 2 3 [] (fun _ _ wi HB => ?_) <| zys 3 3 4 [] (fun _ _ wi HB => ?_) <| zys 2 4 5 [] (fun _ _ wi HB => ?_) <| zyc 1 5 6 0 [(2, some 59), (3, some 60), (4, some 61)] (fun vsp wi HB => ?_) <| zys 0 6 7 [(5, some 62)] (fun _ _ wi HB => ?_) <| Iy.steps_nil
              (· ((repeat (refine zya ?_; rintro _ rfl)); refine zye ?_; (try simp only [zyp]); refine Iy.goI_yes rfl rfl fun K hK => ?_; (try simp only [zyp] at hK); go_wp2_with (first | fail); exact hK _ _ (Below.refl _ _) rfl))
              (· (obtain ⟨HM, _⟩ := HB; have hz := HTI.out _ HM.out; have e0 := hz.cell 0; have e1 := hz.cell 1; have e2 := HPI.out _ HM.out; (repeat (refine zya ?_; rintro _ rfl)); refine zye ?_; (try simp only [zyp]); refine Iy.goI_yes rfl rfl fun K hK => ?_; (try simp only [zyp] at hK); go_wp2_with (first | fail); exact hK _ _ (Below.refl _ _) rfl))
              (· ((repeat (refine zya ?_; rintro _ rfl)); refine zye ?_; (try simp only [zyp]); refine Iy.goI_yes rfl rfl fun K hK => ?_; (try simp only [zyp] at hK); go_wp2_with (first | fail); exact hK _ _ (Below.refl _ _) rfl))
              (· (obtain ⟨HM, _⟩ := HB; have hz := HTI.out _ HM.out; have e0 := hz.cell 0; have e1 := hz.cell 1; have e2 := HPI.out _ HM.out; (repeat (refine zya ?_; rintro _ rfl)); refine zye ?_; (try simp only [zyp]); refine Iy.goI_yes rfl rfl fun K hK => ?_; (try simp only [zyp] at hK); go_wp2_with (first | fail); exact hK _ _ (Below.refl _ _) rfl))
              (· ((repeat (refine zya ?_; rintro _ rfl)); refine zye ?_; (try simp only [zyp]); refine Iy.goI_yes rfl rfl fun K hK => ?_; (try simp only [zyp] at hK); go_wp2_with (first | fail); exact hK _ _ (Below.refl _ _) rfl))
              (· (obtain ⟨HM, hpb⟩ := HB; refine zya ?_; rintro _ ⟨rfl, ev2⟩; refine zya ?_; rintro _ ⟨rfl, ev3⟩; refine zya ?_; rintro _ ⟨rfl, ev4⟩; refine zye ?_; (try simp only [zyp]); refine Iy.goI_yes rfl rfl fun K hK => ?_; (try simp only [zyp] at hK); go_wp2_with (first | (go_at_call 25; refine (HC.out _ hpb).mono ?_; rintro e wc ⟨hca, hpa, cs, rfl, hin, hpb2⟩; obtain ⟨va, rfl⟩ := Pw.formG hin)); exact hK _ _ ⟨⟨HM.out.trans hca, hpb2⟩, Iy.vk_turn (by repeat (first | exact True.intro | refine And.intro (fun _ h => h) ?_ | refine And.intro (fun hne => absurd rfl hne) ?_ | refine And.intro (fun _ h => (by obtain ⟨t9, va, e9, h9, h10, h11⟩ := h; exact ⟨t9, va, e9, h9, (hca.block t9 h10.lt (fun e => by injection e with e; have := HGB.out; omega)).trans h10, h11.move fun k hk hl => ⟨hk, hca.block k hl (fun e => by injection e with e; have hk : wb.heap.size ≤ k := hk; have := HGB.out; omega)⟩⟩)) ?_))⟩ ⟨va, rfl, hin.move fun k hk hl => ⟨Nat.le_trans HM.out.size hk, rfl⟩⟩))
              (· (obtain ⟨HM, _⟩ := HB; have hz := HTI.out _ HM.out; have e0 := hz.cell 0; have e1 := hz.cell 1; have e2 := HPI.out _ HM.out; refine zya ?_; rintro _ ⟨va, rfl, hyi⟩; refine zye ?_; (try simp only [zyp]); refine Iy.goI_yes rfl rfl fun K hK => ?_; (try simp only [zyp] at hK); go_wp2_with (first | fail); exact hK _ _ (Ext.alloc (Below.refl _ _) _) ⟨_, va, rfl, HM.out.size, Blk.new _ _ _, hyi.move fun k hk hl => ⟨hk, (Ext.alloc (Below.refl _ _) _ : Below wi.heap.size wi _).block k hl⟩⟩))
            intro vsf wf HF hdf
            refine zyv 6 0 1 ?_; rintro _ _ rfl; refine zyv 5 1 2 ?_; rintro _ _ rfl; refine zyv 4 2 3 ?_; rintro _ _ rfl; refine zyv 3 3 4 ?_; rintro _ _ rfl; refine zyv 2 4 5 ?_; rintro _ _ rfl; refine zyv 1 5 6 ?_; rintro _ _ ⟨va, rfl, hyi⟩; refine zyv 0 6 7 ?_; rintro _ _ ⟨tf, va, rfl, htlf, htbf, hyif⟩
            refine Ix.allV_nil ?_
            obtain ⟨HMF, hpbf⟩ := HF; have e2f := HPI.out _ HMF.out; obtain ⟨f0, f1, ht0⟩ := HA.out.two; have htf := ht0.chg layG layF (Nat.lt_succ_self g) (HCB.out.trans HMF.out); have hofn : wf.ownsRow (g + 1) 41 5 (.slice a0 nG c0) nG (flat f0 gs.length) := (by rw [HNG.out]; exact htf.own0)
            (try simp only [Act.put, List.setIfInBounds_toArray, List.set_cons_zero, List.set_cons_succ, List.drop_succ_cons, List.drop_zero])
            go_wp2_with (first | (refine wpList_app_row rfl _ _ 23 41 5 64 (.agg Pw.zG) rfl Try.underlying23 (by kernel_rfl) rfl (by decide) (by decide) (g + 1) (.slice a0 nG c0) nG (flat f0 gs.length) tf [.int .i64 q.b, .bool q.s, .string q.nm, .int .i64 q.size, va] rfl rfl hofn rfl (bcell_of htbf) (layG.one (show LG wf _ q _ from hyif)) (by omega) (by have h1 := HGB.out; have h2 := HMF.out.size; omega) ?_; intro a9 c9 w9 ho9 hg9 hat9; have hx9 : Blk w9 bp 26 _ := (hg9.block bp (HA.out.hpc (HCB.out.trans HMF.out)).lt (fun e => by have h1 := (own_lowR hofn bp e.symm).1; have h2 := HA.out.lpf; have h3 := HA.out.lfg; omega)).trans (HA.out.hpc (HCB.out.trans HMF.out)); have e2 := hx9.cell 0; have f2 := hx9.frozen 0; clear hx9))
            all_goals (first | refine Ix.only ?_ | (refine Ix.onlyP fun tz => ?_))
            have HLT4 : Hid (l4.length < (t :: l0).length) := by have h1 := HLQ.out _ _ rfl; have h2 := HL3.out; exact Nat.lt_of_le_of_lt h1 h2
            have HNX : Hid (RdL w bp bf g fin ts.length R (w9.setCell ⟨bp, 0, none⟩ (.slice a9 (nG + 1) c9)) m (gs ++ [q]) fs l4 a9 c9 a1 c1 ∧ tkL (w9.setCell ⟨bp, 0, none⟩ (.slice a9 (nG + 1) c9)) g = l4.length) := by
              have e9 := HNG.out
              subst e9
              exact HA.out.nextG HRQ.out HLT4.out (by have h1 : l4.length < l0.length + 1 := HLT4.out; have h2 : 32 * (l0.length + 1) + 26 ≤ m + 1 := HA.out.fuel; show 32 * l4.length + 26 ≤ m; omega) (HCB.out.trans HMF.out) hpbf htf (hyif.move fun k hk hl => ⟨Nat.le_trans HCB.out.size hk, rfl⟩) ho9 hg9 hat9
            have HM9 : Hid (tkL (w9.setCell ⟨bp, 0, none⟩ (.slice a9 (nG + 1) c9)) g < tkL wr g) := by
              show tkL _ g < tkL wr g
              rw [HNX.out.2, HA.out.pb.tkL]
              exact HLT4.out
            clear hofn htf ht0 htbf hyif ho9 hg9 hat9 e2 f2 e2f hpbf HMF HRQ HC HPI HTI h8 h9
            go_wp2_with (fail)
            go_round
            case rel => exact ⟨m, gs ++ [q], fs, l4, a9, c9, a1, c1, HNX.out.1⟩
            case measure => exact HM9.out
      | none =>
        rw [hty] at HTY
        cases hv : Ps.sees [118, 111, 105, 100] (t :: l0) with
        | false =>
          have HRZ : Hid (R = .error (2, at0)) := by
            show R = _
            rw [hRP, Ps.progS, if_neg (by simp), show Ps.headS (t :: l0) = none by unfold Ps.headS; rw [hty]; show (if Ps.sees _ _ = true then _ else _) = _; rw [hv, if_neg (by decide)], ← hat0]
          have HVO := Lib.hid (fun wi (hp : Pb wi g fin 0 (t :: l0)) => pis_no wi g fin 0 (t :: l0) [118, 111, 105, 100] hp hv)
          clear hRP hty hv hlt hlv hat0
          go_upto_region 9 with (first | (go_at_call 19; refine HAT.out.mono ?_; rintro e w' ⟨rfl, rfl⟩) | (go_at_call 20; refine (HTY.out).mono ?_; rintro e w4 ⟨hc4, rfl, hpb⟩; have HC4 := Lib.hid hc4; have HPB4 := Lib.hid hpb; clear hc4 hpb))
          generalize hwa : World.alloc w4 _ = wa
          have HBA : Hid (Below w4.heap.size w4 wa) := by show Below _ _ _; rw [← hwa]; exact Ext.alloc (Below.refl _ _) _
          have HCA : Hid (Chg g wr wa) := HC4.out.trans (Chg.of_below HBA.out)
          have HV := Lib.hid (HVO.out wa (HPB4.out.keep HBA.out))
          clear hwa HVO HPB4 HBA
          go_wp2_with (first | (go_at_call_of 21 (Value.string ⟨#[118, 111, 105, 100]⟩); refine (HV.out).mono ?_; rintro e w' ⟨rfl, rfl⟩) | (go_at_call 22; refine (pfail_ok _ _ _ _).mono ?_; rintro e w' ⟨rfl, rfl⟩))
          exact rd_err rfl rfl rfl (HA.out.belc HCA.out) (HA.out.hpc HCA.out) (HA.out.hfc HCA.out) HNE.out.1 HNE.out.2.1 HNE.out.2.2 (HRE.out _ HRZ.out) (HNZ.out _ HRZ.out) rfl
        | true =>
          have HRW : Hid (R = Ps.seqP (Ps.name fin lt) fun n l1 => if Ps.sees [40] l1 = true then (if fs.length = 100 then .error (5, at0) else Ps.seqP (Ps.fnS (Ps.at' fin m) fin 0 false n l1.tail) fun f l2 => (Ps.at' fin m).prog ⟨gs, fs ++ [f]⟩ l2) else .error (2, Ps.pos fin l1)) := by
            show R = _
            rw [hRP, Ps.progB (by simp) (show Ps.headS (t :: l0) = some none by unfold Ps.headS; rw [hty]; show (if Ps.sees _ _ = true then _ else _) = _; rw [hv, if_pos rfl]), ← hlt, ← hat0]
          have HVO := Lib.hid (fun wi (hp : Pb wi g fin 0 (t :: l0)) => pis_yes wi g fin 0 (t :: l0) [118, 111, 105, 100] hp hv)
          clear hRP hty hv hat0
          go_upto_region 9 with (first | (go_at_call 19; refine HAT.out.mono ?_; rintro e w' ⟨rfl, rfl⟩) | (go_at_call 20; refine (HTY.out).mono ?_; rintro e w4 ⟨hc4, rfl, hpb⟩; have HC4 := Lib.hid hc4; have HPB4 := Lib.hid hpb; clear hc4 hpb))
          generalize hw5 : World.alloc w4 _ = w5
          obtain ⟨b7, hb7⟩ : ∃ b7, b7 = w4.heap.size := ⟨_, rfl⟩
          rw [← hb7]
          have HB5 : Hid (Below w4.heap.size w4 w5) := by show Below _ _ _; rw [← hw5]; exact Ext.alloc (Below.refl _ _) _
          have HT5 : Hid (∀ wi, Chg g w5 wi → Blk wi b7 38 #[.int .i64 0, .bool false]) := by
            have h1 : Blk w5 b7 38 #[.int .i64 0, .bool false] := by rw [← hw5, hb7]; exact Blk.new _ _ _
            have h2 : b7 ≠ g := by have h3 := HPB4.out.lt; omega
            exact fun wi hc => (hc.block b7 h1.lt (fun e => by injection e with e; exact h2 e)).trans h1
          have HV := Lib.hid (HVO.out w5 (HPB4.out.keep HB5.out))
          clear hw5 hb7 HVO HPB4
          go_upto_region 12 with (first | (go_at_call_of 21 (Value.string ⟨#[118, 111, 105, 100]⟩); refine (HV.out).mono ?_; rintro e wa ⟨rfl, hc1, hb1⟩; have HCV := Lib.hid hc1; have HBV := Lib.hid hb1; clear hc1 hb1))
          have HCA : Hid (Chg g wr wa) := (HC4.out.trans (Chg.of_below HB5.out)).trans HCV.out
          have HPA : Hid (Pb wa g fin 0 lt) := by rw [hlt]; exact HBV.out
          have HTA : Hid (∀ wi, Chg g wa wi → Blk wi b7 38 #[.int .i64 0, .bool false]) := fun wi hc => HT5.out wi (HCV.out.trans hc)
          clear HB5 HT5 HV HC4 HCV HBV HTY HAT hlt hlv p0 ql
          have HN := Lib.hid (pname_ok wa g fin 0 lt HPA.out)
          obtain ⟨rn, hrn⟩ : ∃ rn, rn = Ps.name fin lt := ⟨_, rfl⟩
          have HLN : Hid (∀ x l', rn = .ok (x, l') → l'.length < lt.length) := fun x l' h => Ps.name_lt (fin := fin) (hrn ▸ h)
          have HRA : Hid (R = Ps.seqP rn fun n l1 => if Ps.sees [40] l1 = true then (if fs.length = 100 then .error (5, at0) else Ps.seqP (Ps.fnS (Ps.at' fin m) fin 0 false n l1.tail) fun f l2 => (Ps.at' fin m).prog ⟨gs, fs ++ [f]⟩ l2) else .error (2, Ps.pos fin l1)) := by show R = _; rw [hrn]; exact HRW.out
          rw [← hrn] at HN
          clear hrn HRW
          go_upto_region 14 with (first | (go_at_call 23; refine (HN.out).mono ?_; rintro e wn ⟨hc6, hp6, hr6⟩; have HCn := Lib.hid hc6; have HPn := Lib.hid hp6; clear hc6 hp6; rcases rn with z | ⟨n, l1⟩; (obtain rfl := hr6); rotate_left; (obtain ⟨rfl, hpb⟩ := hr6; have HPN := Lib.hid hpb; clear hpb); rotate_left))
          · exact rd_err rfl rfl rfl (HA.out.belc (HCA.out.trans HCn.out)) (HA.out.hpc (HCA.out.trans HCn.out)) (HA.out.hfc (HCA.out.trans HCn.out)) HNE.out.1 HNE.out.2.1 HNE.out.2.2 (HRE.out _ HRA.out) (HNZ.out _ HRA.out) rfl
          have HL1 : Hid (l1.length < lt.length) := HLN.out _ _ rfl
          have HRB : Hid (R = if Ps.sees [40] l1 = true then (if fs.length = 100 then .error (5, at0) else Ps.seqP (Ps.fnS (Ps.at' fin m) fin 0 false n l1.tail) fun f l2 => (Ps.at' fin m).prog ⟨gs, fs ++ [f]⟩ l2) else .error (2, Ps.pos fin l1)) := HRA.out
          clear HRA HLN HN
          cases hs40 : Ps.sees [40] l1 with
          | true =>
            have HI := Lib.hid (pis_yes wn g fin 0 l1 [40] HPN.out hs40)
            have HL2 : Hid (l1.tail.length < l1.length) := Ps.sees_lt hs40
            have HRC : Hid (R = if fs.length = 100 then .error (5, at0) else Ps.seqP (Ps.fnS (Ps.at' fin m) fin 0 false n l1.tail) fun f l2 => (Ps.at' fin m).prog ⟨gs, fs ++ [f]⟩ l2) := by show R = _; rw [HRB.out, if_pos hs40]
            clear hs40 HRB
            go_upto_region 15 with (first | (go_at_call_of 21 (Value.string ⟨#[40]⟩); refine (HI.out).mono ?_; rintro e wb ⟨rfl, hc1, hb1⟩; have HCwb := Lib.hid hc1; have HBwb := Lib.hid hb1; clear hc1 hb1))
            obtain ⟨l3, hl3⟩ : ∃ l3, l3 = l1.tail := ⟨_, rfl⟩
            have HPB : Hid (Pb wb g fin 0 l3) := by rw [hl3]; exact HBwb.out
            have HL3 : Hid (l3.length < (t :: l0).length) := by rw [hl3]; have h1 := HL1.out; have h2 := HL2.out; have h3 := HLT.out; exact Nat.lt_trans (Nat.lt_trans h2 h1) h3
            rw [← hl3] at HRC
            clear hl3
            have HCB : Hid (Chg g wr wb) := (HCA.out.trans HCn.out).trans HCwb.out
            have HPI : Hid (∀ wi, Chg g wb wi → wi.cell? ⟨bp, 1, none⟩ = some (.slice a1 nF c1)) := fun wi hc => by rw [HNF.out]; exact (HA.out.hpc (HCB.out.trans hc)).cell 1
            have e2 := HPI.out wb (Chg.of_below (Below.refl _ _))
            by_cases h100 : nF = 100
            · have q9 : ((nF : Int) == 100) = true := by simp [h100]
              have HRZ : Hid (R = .error (5, at0)) := by show R = _; rw [HRC.out, if_pos (HNF.out ▸ h100)]
              clear h100
              go_wp2_with (first | (go_at_call 22; refine (pfail_ok _ _ _ _).mono ?_; rintro e w' ⟨rfl, rfl⟩))
              exact rd_err rfl rfl rfl (HA.out.belc (HCB.out)) (HA.out.hpc (HCB.out)) (HA.out.hfc (HCB.out)) HNE.out.1 HNE.out.2.1 HNE.out.2.2 (HRE.out _ HRZ.out) (HNZ.out _ HRZ.out) rfl
            have q9 : ((nF : Int) == 100) = false := by simp; omega
            have HN100 : Hid (¬ fs.length = 100) := fun h => h100 (HNF.out.trans h)
            have HRD : Hid (R = Ps.seqP (Ps.fnS (Ps.at' fin m) fin 0 false n l3) fun f l2 => (Ps.at' fin m).prog ⟨gs, fs ++ [f]⟩ l2) := by show R = _; rw [HRC.out, if_neg HN100.out]
            clear h100 HRC
            go_upto_region 17 with (fail)
            clear e2 q9
            have HTI : Hid (∀ wi, Chg g wb wi → Blk wi b7 38 #[.int .i64 0, .bool false]) := fun wi hc => HTA.out wi ((HCn.out.trans HCwb.out).trans hc)
            have HGB : Hid (g < wb.heap.size) := HPB.out.lt
            have HC := Lib.hid (fun wi (hp : Pb wi g fin 0 l3) => pfunc_ok wi g fin m 0 false n l3 hp (by have h1 := HL3.out; have h2 := HA.out.few; have h3 := HN7.out; omega) (by have h1 := HL3.out; have h2 := HA.out.fuel; omega))
            obtain ⟨rq, hrq⟩ : ∃ rq, rq = Ps.fnS (Ps.at' fin m) fin 0 false n l3 := ⟨_, rfl⟩
            have HLQ : Hid (∀ x l', rq = .ok (x, l') → l'.length ≤ l3.length) := fun x l' h => Nat.le_of_lt (Ps.fnS_lt (Ps.less_at fin m) (hrq ▸ h))
            have HRQ : Hid (R = Ps.seqP rq fun f l2 => (Ps.at' fin m).prog ⟨gs, fs ++ [f]⟩ l2) := by show R = _; rw [hrq]; exact HRD.out
            rw [← hrq] at HC
            clear hrq HRD
            cases rq with
            | error z =>
              have HRZ : Hid (R = .error z) := HRQ.out
              apply Iy.wp_regionF [2, 3] (by kernel_rfl) 7 [5] (fun n => []) (Ix.Rb) (fun mm vs wi => Hid (Chg g wb wi) ∧ (match mm with | 0 => Pb wi g fin 0 l3 | _ + 1 => True)) (Ix.vk [(Ix.kis _), (Ix.kis (.slice a1 nF c1)), (Ix.kis _), (Ix.kis (.agg #[.int .i64 0, .bool false])), (Ix.kis _), (Ix.ksat (fun _ => False)), (Ix.ksat (fun _ => False))]) (fun _ => false) (by kernel_rfl) (by kernel_rfl) (by kernel_rfl) (by kernel_rfl) (by kernel_rfl) (fun n vs vs' w hk h => h) (fun _ => Below.refl _ _) (fun n vs _ _ h hb => ⟨h.1.out.trans (Chg.of_below hb), by cases n with | zero => exact h.2.keep hb | succ n => trivial⟩) (Ix.vk_keeps _) (Ix.not_al _) (fun vs => ⟨Chg.of_below (Ext.drew (Below.refl _ _)), HPB.out.keep (Ext.drew (Below.refl _ _))⟩)
              case step =>
                refine zys 6 0 1 [] (fun _ _ wi HB => ?_) <| zys 5 1 2 [(0, some 76)] (fun _ _ wi HB => ?_) <| zys 4 2 3 [] (fun _ _ wi HB => ?_) <| zys 3 3 4 [] (fun _ _ wi HB => ?_) <| zys 2 4 5 [] (fun _ _ wi HB => ?_) <| zyc 1 5 6 0 [(2, some 78), (3, some 79), (4, some 80)] (fun vsp wi HB => ?_) <| zys 0 6 7 [(5, some 81)] (fun _ _ wi HB => ?_) <| Iy.steps_nil
                (· ((repeat (refine zya ?_; rintro _ rfl)); refine zye ?_; (try simp only [zyp]); refine Iy.goI_yes rfl rfl fun K hK => ?_; (try simp only [zyp] at hK); go_wp2_with (first | fail); exact hK _ _ (Below.refl _ _) rfl))
                (· (obtain ⟨HM, _⟩ := HB; have hz := HTI.out _ HM.out; have e0 := hz.cell 0; have e1 := hz.cell 1; have e2 := HPI.out _ HM.out; (repeat (refine zya ?_; rintro _ rfl)); refine zye ?_; (try simp only [zyp]); refine Iy.goI_yes rfl rfl fun K hK => ?_; (try simp only [zyp] at hK); go_wp2_with (first | fail); exact hK _ _ (Below.refl _ _) rfl))
                (· ((repeat (refine zya ?_; rintro _ rfl)); refine zye ?_; (try simp only [zyp]); refine Iy.goI_yes rfl rfl fun K hK => ?_; (try simp only [zyp] at hK); go_wp2_with (first | fail); exact hK _ _ (Below.refl _ _) rfl))
                (· (obtain ⟨HM, _⟩ := HB; have hz := HTI.out _ HM.out; have e0 := hz.cell 0; have e1 := hz.cell 1; have e2 := HPI.out _ HM.out; (repeat (refine zya ?_; rintro _ rfl)); refine zye ?_; (try simp only [zyp]); refine Iy.goI_yes rfl rfl fun K hK => ?_; (try simp only [zyp] at hK); go_wp2_with (first | fail); exact hK _ _ (Below.refl _ _) rfl))
                (· ((repeat (refine zya ?_; rintro _ rfl)); refine zye ?_; (try simp only [zyp]); refine Iy.goI_yes rfl rfl fun K hK => ?_; (try simp only [zyp] at hK); go_wp2_with (first | fail); exact hK _ _ (Below.refl _ _) rfl))
                (· (obtain ⟨HM, hpb⟩ := HB; refine zya ?_; rintro _ ⟨rfl, ev2⟩; refine zya ?_; rintro _ ⟨rfl, ev3⟩; refine zya ?_; rintro _ ⟨rfl, ev4⟩; refine zye ?_; (try simp only [zyp]); refine Iy.goI_yes rfl rfl fun K hK => ?_; (try simp only [zyp] at hK); go_wp2_with (first | (go_at_call 24; refine (HC.out _ hpb).mono ?_; rintro e wc ⟨hca, hpa, rfl⟩)); refine Ix.onlyP fun tz hag => ?_; go_wp2_with (fail); exact rd_err rfl (Iy.agr_getD hag (by decide) rfl) (Iy.agr_getD hag (by decide) rfl) (HA.out.belc ((HCB.out.trans HM.out).trans hca)) (HA.out.hpc ((HCB.out.trans HM.out).trans hca)) (HA.out.hfc ((HCB.out.trans HM.out).trans hca)) HNE.out.1 HNE.out.2.1 HNE.out.2.2 (HRE.out _ HRZ.out) (HNZ.out _ HRZ.out) rfl))
                (· (obtain ⟨HM, _⟩ := HB; have hz := HTI.out _ HM.out; have e0 := hz.cell 0; have e1 := hz.cell 1; have e2 := HPI.out _ HM.out; refine zya ?_; rintro _ hf5; refine zye ?_; (try simp only [zyp]); refine Iy.goI_yes rfl rfl fun K hK => ?_; (try simp only [zyp] at hK); exact hf5.elim; skip))
              intro vsf wf HF hdf
              refine zyv 6 0 1 ?_; rintro _ _ rfl; refine zyv 5 1 2 ?_; rintro _ _ rfl; refine zyv 4 2 3 ?_; rintro _ _ rfl; refine zyv 3 3 4 ?_; rintro _ _ rfl; refine zyv 2 4 5 ?_; rintro _ _ rfl; refine zyv 1 5 6 ?_; rintro _ _ hf5; refine zyv 0 6 7 ?_; rintro _ _ hf6
              refine Ix.allV_nil ?_
              (try simp only [Act.put, List.setIfInBounds_toArray, List.set_cons_zero, List.set_cons_succ, List.drop_succ_cons, List.drop_zero])
              go_wp2_with (first | fail)
              all_goals (first | refine Ix.only ?_ | (refine Ix.onlyP fun tz => ?_))
              all_goals exact hf5.elim
            | ok pf =>
              obtain ⟨q, l4⟩ := pf
              apply Iy.wp_region 7 [5] (fun n => []) (Ix.Rb) (fun mm vs wi => Hid (Chg g wb wi) ∧ (match mm with | 0 => Pb wi g fin 0 l3 | _ + 1 => Pb wi g fin 0 l4)) (Ix.vk [(Ix.kis _), (Ix.kis (.slice a1 nF c1)), (Ix.kis _), (Ix.kis (.agg #[.int .i64 0, .bool false])), (Ix.kis _), (Ix.kwld (fun v w' => ∃ va vb, v = Value.agg #[.string q.nm, .int .i64 q.b, .bool q.s, va, vb] ∧ FnIn w' (fun k => wb.heap.size ≤ k) q [.string q.nm, .int .i64 q.b, .bool q.s, va, vb]) (fun v w1 w2 h hb => by obtain ⟨va, vb, e, hi⟩ := h; exact ⟨va, vb, e, hi.move fun k hk hl => ⟨hk, hb.block k hl⟩⟩)), (Ix.kwld (fun v w' => ∃ t va vb, v = Value.slice (some ⟨t, 0, none⟩) 1 1 ∧ wb.heap.size ≤ t ∧ Blk w' t 45 #[.string q.nm, .int .i64 q.b, .bool q.s, va, vb] ∧ FnIn w' (fun k => wb.heap.size ≤ k) q [.string q.nm, .int .i64 q.b, .bool q.s, va, vb]) (fun v w1 w2 h hb => by obtain ⟨t, va, vb, e, hl, hi, hx⟩ := h; exact ⟨t, va, vb, e, hl, hi.keep hb, hx.move fun k hk hl => ⟨hk, hb.block k hl⟩⟩))]) (fun _ => false) (by kernel_rfl) (by kernel_rfl) (by kernel_rfl) (by kernel_rfl) (by kernel_rfl) (fun n vs vs' w hk h => h) (fun _ => Below.refl _ _) (fun n vs _ _ h hb => ⟨h.1.out.trans (Chg.of_below hb), by cases n with | zero => exact h.2.keep hb | succ n => exact h.2.keep hb⟩) (Ix.vk_keeps _) (Ix.not_al _) (fun vs => ⟨Chg.of_below (Ext.drew (Below.refl _ _)), HPB.out.keep (Ext.drew (Below.refl _ _))⟩)
              case step =>
                refine zys 6 0 1 [] (fun _ _ wi HB => ?_) <| zys 5 1 2 [(0, some 76)] (fun _ _ wi HB => ?_) <| zys 4 2 3 [] (fun _ _ wi HB => ?_) <| zys 3 3 4 [] (fun _ _ wi HB => ?_) <| zys 2 4 5 [] (fun _ _ wi HB => ?_) <| zyc 1 5 6 0 [(2, some 78), (3, some 79), (4, some 80)] (fun vsp wi HB => ?_) <| zys 0 6 7 [(5, some 81)] (fun _ _ wi HB => ?_) <| Iy.steps_nil
                (· ((repeat (refine zya ?_; rintro _ rfl)); refine zye ?_; (try simp only [zyp]); refine Iy.goI_yes rfl rfl fun K hK => ?_; (try simp only [zyp] at hK); go_wp2_with (first | fail); exact hK _ _ (Below.refl _ _) rfl))
                (· (obtain ⟨HM, _⟩ := HB; have hz := HTI.out _ HM.out; have e0 := hz.cell 0; have e1 := hz.cell 1; have e2 := HPI.out _ HM.out; (repeat (refine zya ?_; rintro _ rfl)); refine zye ?_; (try simp only [zyp]); refine Iy.goI_yes rfl rfl fun K hK => ?_; (try simp only [zyp] at hK); go_wp2_with (first | fail); exact hK _ _ (Below.refl _ _) rfl))
                (· ((repeat (refine zya ?_; rintro _ rfl)); refine zye ?_; (try simp only [zyp]); refine Iy.goI_yes rfl rfl fun K hK => ?_; (try simp only [zyp] at hK); go_wp2_with (first | fail); exact hK _ _ (Below.refl _ _) rfl))
                (· (obtain ⟨HM, _⟩ := HB; have hz := HTI.out _ HM.out; have e0 := hz.cell 0; have e1 := hz.cell 1; have e2 := HPI.out _ HM.out; (repeat (refine zya ?_; rintro _ rfl)); refine zye ?_; (try simp only [zyp]); refine Iy.goI_yes rfl rfl fun K hK => ?_; (try simp only [zyp] at hK); go_wp2_with (first | fail); exact hK _ _ (Below.refl _ _) rfl))
                (· ((repeat (refine zya ?_; rintro _ rfl)); refine zye ?_; (try simp only [zyp]); refine Iy.goI_yes rfl rfl fun K hK => ?_; (try simp only [zyp] at hK); go_wp2_with (first | fail); exact hK _ _ (Below.refl _ _) rfl))
                (· (obtain ⟨HM, hpb⟩ := HB; refine zya ?_; rintro _ ⟨rfl, ev2⟩; refine zya ?_; rintro _ ⟨rfl, ev3⟩; refine zya ?_; rintro _ ⟨rfl, ev4⟩; refine zye ?_; (try simp only [zyp]); refine Iy.goI_yes rfl rfl fun K hK => ?_; (try simp only [zyp] at hK); go_wp2_with (first | (go_at_call 24; refine (HC.out _ hpb).mono ?_; rintro e wc ⟨hca, hpa, cs, rfl, hin, hpb2⟩; obtain ⟨va, vb, rfl⟩ := Pw.formF hin)); exact hK _ _ ⟨⟨HM.out.trans hca, hpb2⟩, Iy.vk_turn (by repeat (first | exact True.intro | refine And.intro (fun _ h => h) ?_ | refine And.intro (fun hne => absurd rfl hne) ?_ | refine And.intro (fun _ h => (by obtain ⟨t9, va, vb, e9, h9, h10, h11⟩ := h; exact ⟨t9, va, vb, e9, h9, (hca.block t9 h10.lt (fun e => by injection e with e; have := HGB.out; omega)).trans h10, h11.move fun k hk hl => ⟨hk, hca.block k hl (fun e => by injection e with e; have hk : wb.heap.size ≤ k := hk; have := HGB.out; omega)⟩⟩)) ?_))⟩ ⟨va, vb, rfl, hin.move fun k hk hl => ⟨Nat.le_trans HM.out.size hk, rfl⟩⟩))
                (· (obtain ⟨HM, _⟩ := HB; have hz := HTI.out _ HM.out; have e0 := hz.cell 0; have e1 := hz.cell 1; have e2 := HPI.out _ HM.out; refine zya ?_; rintro _ ⟨va, vb, rfl, hyi⟩; refine zye ?_; (try simp only [zyp]); refine Iy.goI_yes rfl rfl fun K hK => ?_; (try simp only [zyp] at hK); go_wp2_with (first | fail); exact hK _ _ (Ext.alloc (Below.refl _ _) _) ⟨_, va, vb, rfl, HM.out.size, Blk.new _ _ _, hyi.move fun k hk hl => ⟨hk, (Ext.alloc (Below.refl _ _) _ : Below wi.heap.size wi _).block k hl⟩⟩))
              intro vsf wf HF hdf
              refine zyv 6 0 1 ?_; rintro _ _ rfl; refine zyv 5 1 2 ?_; rintro _ _ rfl; refine zyv 4 2 3 ?_; rintro _ _ rfl; refine zyv 3 3 4 ?_; rintro _ _ rfl; refine zyv 2 4 5 ?_; rintro _ _ rfl; refine zyv 1 5 6 ?_; rintro _ _ ⟨va, vb, rfl, hyi⟩; refine zyv 0 6 7 ?_; rintro _ _ ⟨tf, va, vb, rfl, htlf, htbf, hyif⟩
              refine Ix.allV_nil ?_
              obtain ⟨HMF, hpbf⟩ := HF; have e2f := HPI.out _ HMF.out; obtain ⟨f0, f1, ht0⟩ := HA.out.two; have htf := ht0.chg layG layF (Nat.lt_succ_self g) (HCB.out.trans HMF.out); have hofn : wf.ownsRow (g + 1) 45 5 (.slice a1 nF c1) nF (flat f1 fs.length) := (by rw [HNF.out]; exact htf.own1)
              (try simp only [Act.put, List.setIfInBounds_toArray, List.set_cons_zero, List.set_cons_succ, List.drop_succ_cons, List.drop_zero])
              go_wp2_with (first | (refine wpList_app_row rfl _ _ 24 45 5 80 (.agg Pw.zF) rfl Try.underlying24 (by kernel_rfl) rfl (by decide) (by decide) (g + 1) (.slice a1 nF c1) nF (flat f1 fs.length) tf [.string q.nm, .int .i64 q.b, .bool q.s, va, vb] rfl rfl hofn rfl (bcell_of htbf) (layF.one (show LF wf _ q _ from hyif)) (by omega) (by have h1 := HGB.out; have h2 := HMF.out.size; omega) ?_; intro a9 c9 w9 ho9 hg9 hat9; have hx9 : Blk w9 bp 26 _ := (hg9.block bp (HA.out.hpc (HCB.out.trans HMF.out)).lt (fun e => by have h1 := (own_lowR hofn bp e.symm).1; have h2 := HA.out.lpf; have h3 := HA.out.lfg; omega)).trans (HA.out.hpc (HCB.out.trans HMF.out)); have e2 := hx9.cell 1; have f2 := hx9.frozen 1; clear hx9))
              all_goals (first | refine Ix.only ?_ | (refine Ix.onlyP fun tz => ?_))
              have HLT4 : Hid (l4.length < (t :: l0).length) := by have h1 := HLQ.out _ _ rfl; have h2 := HL3.out; exact Nat.lt_of_le_of_lt h1 h2
              have HNX : Hid (RdL w bp bf g fin ts.length R (w9.setCell ⟨bp, 1, none⟩ (.slice a9 (nF + 1) c9)) m gs (fs ++ [q]) l4 a0 c0 a9 c9 ∧ tkL (w9.setCell ⟨bp, 1, none⟩ (.slice a9 (nF + 1) c9)) g = l4.length) := by
                have e9 := HNF.out
                subst e9
                exact HA.out.nextF HRQ.out HLT4.out (by have h1 : l4.length < l0.length + 1 := HLT4.out; have h2 : 32 * (l0.length + 1) + 26 ≤ m + 1 := HA.out.fuel; show 32 * l4.length + 26 ≤ m; omega) HN100.out (HCB.out.trans HMF.out) hpbf htf (hyif.move fun k hk hl => ⟨Nat.le_trans HCB.out.size hk, rfl⟩) ho9 hg9 hat9
              have HM9 : Hid (tkL (w9.setCell ⟨bp, 1, none⟩ (.slice a9 (nF + 1) c9)) g < tkL wr g) := by
                show tkL _ g < tkL wr g
                rw [HNX.out.2, HA.out.pb.tkL]
                exact HLT4.out
              clear hofn htf ht0 htbf hyif ho9 hg9 hat9 e2 f2 e2f hpbf HMF HRQ HC HPI HTI h8 h9
              go_wp2_with (fail)
              go_round
              case rel => exact ⟨m, gs, fs ++ [q], l4, a0, c0, a9, c9, HNX.out.1⟩
              case measure => exact HM9.out
          | false =>
            have HI := Lib.hid (pis_no wn g fin 0 l1 [40] HPN.out hs40)
            have HRD : Hid (R = .error (2, Ps.pos fin l1)) := by show R = _; rw [HRB.out, if_neg (by rw [hs40]; decide)]
            clear hs40 HRB
            have HAT := Lib.hid (pat_ok wn g fin 0 l1 HPN.out)
            go_wp2_with (first | (go_at_call_of 21 (Value.string ⟨#[40]⟩); refine (HI.out).mono ?_; rintro e w' ⟨rfl, rfl⟩) | (go_at_call 19; refine HAT.out.mono ?_; rintro e w' ⟨rfl, rfl⟩) | (go_at_call 22; refine (pfail_ok _ _ _ _).mono ?_; rintro e w' ⟨rfl, rfl⟩))
            exact rd_err rfl rfl rfl (HA.out.belc (HCA.out.trans HCn.out)) (HA.out.hpc (HCA.out.trans HCn.out)) (HA.out.hfc (HCA.out.trans HCn.out)) HNE.out.1 HNE.out.2.1 HNE.out.2.2 (HRE.out _ HRD.out) (HNZ.out _ HRD.out) rfl
end Go.Proofs.Ytfkndjifhmkojaa
