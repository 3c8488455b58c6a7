/- Walk of parser.function. No condition. -/
import Derived.Test.YtfkndjifhmkojaaPt2
import Derived.Test.YtfkndjifhmkojaaP19
import Derived.LoopTactic
import Derived.Deep.Cut
import Derived.Deep.CutRange
import Derived.Deep.DeepCutAuto
namespace Go.Proofs.Ytfkndjifhmkojaa
open Go.RowKit
set_option linter.unusedVariables false
set_option linter.unusedSimpArgs false
set_option maxRecDepth 100000
abbrev Pw.zF : Array Value := #[.string ⟨#[]⟩, .int .i64 0, .bool false, .slice none 0 0, .slice none 0 0]
theorem Pw.one5 (nm : ByteArray) (b : Int) (s : Bool) (a a2 : Option Addr) (l c l2 c2 : Nat) : (#[.string nm, .int .i64 b, .bool s, .slice a l c, .slice a2 l2 c2] : Array Value).all (·.oneCell') = true := by simp [Value.oneCell']
theorem pcell {w : World} {tb : Nat} {b : Int} {s : Bool} {nm : ByteArray} (h : Blk w tb 75 #[.int .i64 b, .bool s, .string nm]) : ∀ j u, [.int .i64 b, .bool s, Value.string nm][j]? = some u → w.cell? ⟨tb, j, none⟩ = some u := fun j u hu => by rw [h.cell]; simpa using hu
/-- What stands at the head of the loop over parameters. -/
structure FnL (w : World) (g fin n sb : Nat) (nm : ByteArray) (b : Int) (s : Bool) (R : Ps.Res Fn) (K : List Pm → List Tk.Tok → Ps.Res Fn) (N : Nat) (wr : World) (m : Nat) (acc : List Pm) (l : List Tk.Tok) (a : Option Addr) (c : Nat) : Prop where
  fz : Fz w g 45 Pw.zF wr
  lb : w.heap.size < sb
  xb : Blk wr sb 45 #[.string nm, .int .i64 b, .bool s, .slice a acc.length c, .slice none 0 0]
  own : OwnR wr (sb + 1) 75 3 LP acc a c
  pb : Pb wr g fin 0 l
  is : R = Ps.seq ((Ps.at' fin m).params acc l) K
  fuel : l.length + 1 ≤ m
  le : m ≤ n
  lt : l.length ≤ N
  few : acc.length ≤ 8
/-- And where the sign between them has come. -/
structure FnS (w : World) (g fin n sb : Nat) (nm : ByteArray) (b : Int) (s : Bool) (R : Ps.Res Fn) (K : List Pm → List Tk.Tok → Ps.Res Fn) (N L0 : Nat) (wr : World) (m : Nat) (acc : List Pm) (l : List Tk.Tok) (a : Option Addr) (c : Nat) : Prop where
  fz : Fz w g 45 Pw.zF wr
  lb : w.heap.size < sb
  xb : Blk wr sb 45 #[.string nm, .int .i64 b, .bool s, .slice a acc.length c, .slice none 0 0]
  own : OwnR wr (sb + 1) 75 3 LP acc a c
  pb : Pb wr g fin 0 l
  is : R = if acc.length = 8 then .error (5, Ps.pos fin l) else match Ps.typed l with
    | none => .error (2, Ps.pos fin l)
    | some t => Ps.seq (Ps.name fin l.tail) fun q l => Ps.seq ((Ps.at' fin m).params (acc ++ [⟨t.1, t.2, Ps.nm q⟩]) l) K
  fuel : l.length ≤ m
  le : m ≤ n
  lt : l.length ≤ N
  l0 : l.length ≤ L0
  few : acc.length ≤ 8
section
variable {w wr wi : World} {g fin n sb N m L0 : Nat} {nm : ByteArray} {b : Int} {s : Bool} {R : Ps.Res Fn} {K : List Pm → List Tk.Tok → Ps.Res Fn} {acc : List Pm} {l l1 : List Tk.Tok} {a : Option Addr} {c : Nat}
theorem FnL.sep (h : FnL w g fin n sb nm b s R K N wr (m + 1) acc l a c) (hg : g < w.heap.size) (hs : Ps.sees [41] l = false) (hc : Chg g wr wi) (hp : Pb wi g fin 0 l1) (hl : l1.length ≤ l.length)
    (h1 : (if acc = [] then (.ok ((), l) : Ps.Res Unit) else Ps.need fin [44] l) = .ok ((), l1)) : FnS w g fin n sb nm b s R K N l.length wi m acc l1 a c := by
  have hb := h.lb
  refine ⟨h.fz.step hg hc, hb, (hc.block sb h.xb.lt (fun e => by injection e with e; omega)).trans h.xb, h.own.chg layP (by omega) hc, hp, ?_, ?_, ?_, ?_, hl, h.few⟩
  · rw [h.is]
    show Ps.seq (Ps.paramsS (Ps.at' fin m) fin acc l) _ = _
    unfold Ps.paramsS
    rw [hs, if_neg (by decide), h1]
    show Ps.seq (if acc.length = 8 then _ else _) _ = _
    split
    · rfl
    · cases Ps.typed l1 with
      | none => rfl
      | some t => show Ps.seq (Ps.seq _ _) _ = _; rw [Ps.seq_seq]
  · have := h.fuel; omega
  · have := h.le; omega
  · have := h.lt; omega
/-- The next one has come. -/
theorem FnS.next {wx w' : World} {l2 : List Tk.Tok} {q : List UInt8} {t : Int × Bool} {cs : Nat → List Value} {a' : Option Addr} {c' : Nat} (h : FnS w g fin n sb nm b s R K N L0 wr m acc l a c) (hg : g < w.heap.size) (h8 : ¬ acc.length = 8) (ht : Ps.typed l = some t) (hr : Ps.name fin l.tail = .ok (q, l2))
    (hc : Chg g wr wx) (hp : Pb wx g fin 0 l2) (ho : wx.ownsRow (sb + 1) 75 3 (.slice a acc.length c) acc.length (flat cs acc.length)) (hk : ∀ i y, acc[i]? = some y → LP wx (fun k => sb + 1 ≤ k ∧ (Value.slice a acc.length c).ownBlock ≠ some k) y (cs i))
    (ho' : w'.ownsRow (sb + 1) 75 3 (.slice a' (acc.length + 1) c') (acc.length + 1) (flat cs acc.length ++ [.int .i64 t.1, .bool t.2, .string ⟨q.toArray⟩])) (hgr : wx.grownBy w' (Value.slice a acc.length c).ownBlock)
    (hat : (Value.slice a' (acc.length + 1) c').ownBlock = (Value.slice a acc.length c).ownBlock ∨ (Value.slice a' (acc.length + 1) c').ownBlock = some wx.heap.size) :
    FnL w g fin n sb nm b s R K N (w'.setCell ⟨sb, 3, none⟩ (.slice a' (acc.length + 1) c')) m (acc ++ [⟨t.1, t.2, Ps.nm q⟩]) l2 a' c' ∧ tkL (w'.setCell ⟨sb, 3, none⟩ (.slice a' (acc.length + 1) c')) g = l2.length ∧ l2.length < l.length := by
  have hb := h.lb
  have hlo := own_lowR ho
  have hlo2 := h.own.low
  have hx := h.xb
  have hlt : l2.length < l.length := Nat.lt_trans (Ps.name_lt hr) (Ps.typed_lt ht)
  have hnb : some sb ≠ (Value.slice a acc.length c).ownBlock := fun e => by have := (hlo sb e.symm).1; omega
  have hx2 : Blk wx sb 45 _ := (hc.block sb hx.lt (fun e => by injection e with e; omega)).trans hx
  have hx' : Blk w' sb 45 _ := (hgr.block sb hx2.lt hnb).trans hx2
  have hfar : ∀ k, k ≠ sb → (w'.setCell ⟨sb, 3, none⟩ (.slice a' (acc.length + 1) c')).heap[k]? = w'.heap[k]? := fun k hk => Below.heap_setCell w' ⟨sb, 3, none⟩ _ k hk
  have hf1 := h.fz.step hg hc
  have hchg : Chg g w (w'.setCell ⟨sb, 3, none⟩ (.slice a' (acc.length + 1) c')) := (hf1.chg.grown hgr (fun k hk => by have := (hlo k hk).1; omega)).setNew (by show w.heap.size ≤ sb; omega) _
  have hown := OwnR.app (y := (⟨t.1, t.2, Ps.nm q⟩ : Pm)) layP ho hk (N := wr.heap.size) (fun k hk => (hlo2 k hk).2) hx.lt (show PmAt _ _ from rfl) ho' hgr hat
  have hpb : Pb (w'.setCell ⟨sb, 3, none⟩ (.slice a' (acc.length + 1) c')) g fin 0 l2 := hp.same fun k hk hl => (hfar k (by omega)).trans (hgr.block k hl (fun e => by have := (hlo k e.symm).1; omega))
  have hl9 : (acc ++ [(⟨t.1, t.2, Ps.nm q⟩ : Pm)]).length = acc.length + 1 := by simp
  refine ⟨⟨⟨hchg, ?_⟩, hb, ?_, hown.same layP fun k hk hl => hfar k (by omega), hpb, ?_, ?_, h.le, ?_, ?_⟩, hpb.tkL, hlt⟩
  · have hz := hf1.z
    exact (hfar w.heap.size (by omega)).trans ((hgr.block w.heap.size hz.lt (fun e => by have := (hlo _ e.symm).1; omega)).trans hz)
  · rw [hl9]
    have := hx'.set_ 3 (.slice a' (acc.length + 1) c')
    simpa using this
  · rw [h.is, if_neg h8, ht]
    show Ps.seq (Ps.name fin l.tail) _ = _
    rw [hr]; rfl
  · have := h.fuel; omega
  · have := h.lt; omega
  · rw [hl9]; have := h.few; omega
/-- All have come. -/
theorem FnL.end_ (h : FnL w g fin n sb nm b s R K N wr (m + 1) acc l a c) (hg : g < w.heap.size) (hs : Ps.sees [41] l = true) (hc : Chg g wr wi) :
    R = K acc l.tail ∧ Fz w g 45 Pw.zF wi ∧ Blk wi sb 45 #[.string nm, .int .i64 b, .bool s, .slice a acc.length c, .slice none 0 0] ∧ Row wi (fun k => sb < k) 3 PmAt acc (.slice a acc.length c) := by
  have hb := h.lb
  refine ⟨?_, h.fz.step hg hc, (hc.block sb h.xb.lt (fun e => by injection e with e; omega)).trans h.xb, (h.own.chg layP (show g < sb + 1 by omega) hc).row layP⟩
  rw [h.is]
  show Ps.seq (Ps.paramsS (Ps.at' fin m) fin acc l) _ = _
  unfold Ps.paramsS
  rw [hs, if_pos rfl]; rfl
end
/-- What comes of reading a function. -/
def PfR (g fin d : Nat) (w : World) (r : Ps.Res Fn) (e : Ending) (w' : World) : Prop := Chg g w w' ∧ ParA w' g ∧ match r with
  | .ok p => ∃ cs, e = .returned (.agg cs.toArray) ∧ FnIn w' (fun b => w.heap.size ≤ b) p.1 cs ∧ Pb w' g fin d p.2
  | .error z => e = Oops z.1 z.2
set_option maxHeartbeats 16000000 in
theorem pfunc_ok (w0 : World) (g fin n : Nat) (b : Int) (s : Bool) (nm : List UInt8) (l : List Tk.Tok) (h : Pb w0 g fin 0 l) (hN : l.length ≤ 70000) (hn : 32 * l.length + 25 ≤ n) :
    Calls Try.prog 24 #[P g, W.ty b s, .string ⟨nm.toArray⟩] w0 (PfR g fin 0 w0 (Ps.fnS (Ps.at' fin n) fin b s nm l)) := by
  obtain ⟨w, hw⟩ : ∃ w, w = w0.alloc (.cells #[.int .i64 b, .bool s] 38) := ⟨_, rfl⟩
  obtain ⟨w1, hw1⟩ : ∃ w1, w1 = w.alloc (.cells Pw.zF 45) := ⟨_, rfl⟩
  obtain ⟨bt, hbt⟩ : ∃ bt, bt = w0.heap.size := ⟨_, rfl⟩
  have HB0 : Hid (Below w0.heap.size w0 w) := by show Below _ _ _; rw [hw]; exact Ext.alloc (Below.refl _ _) _
  have HT0 : Hid (Blk w bt 38 #[.int .i64 b, .bool s]) := by show Blk _ _ _ _; rw [hw, hbt]; exact Blk.new _ _ _
  have HF1 : Hid (Fz w g 45 Pw.zF w1) := by show Fz _ _ _ _ _; rw [hw1]; exact Fz.new ..
  have hp : Pb w g fin 0 l := h.keep HB0.out
  have hgl : g < w.heap.size := hp.lt
  have HG := Lib.hid hgl
  have HP1 : Hid (Pb w1 g fin 0 l) := by show Pb _ _ _ _ _; rw [hw1]; exact hp.keep (Ext.alloc (Below.refl _ _) _)
  have HT1 : Hid (Blk w1 bt 38 #[.int .i64 b, .bool s]) := by show Blk _ _ _ _; rw [hw1]; exact HT0.out.keep (Ext.alloc (Below.refl _ _) _)
  have hsz : w0.heap.size + 1 = w.heap.size := by rw [hw]; simp
  obtain ⟨R, hR⟩ : ∃ R, R = Ps.fnS (Ps.at' fin n) fin b s nm l := ⟨_, rfl⟩
  rw [← hR]
  obtain ⟨K, hK⟩ : ∃ K : List Pm → List Tk.Tok → Ps.Res Fn, K = fun ps l => Ps.seq (Ps.need fin [123] l) fun _ l => Ps.seq ((Ps.at' fin n).block 0 [] l) fun bd l => .ok (⟨Ps.nm nm, b, s, ps, bd⟩, l) := ⟨_, rfl⟩
  have HR : Hid (R = Ps.seq ((Ps.at' fin n).params [] l) K) := by show R = _; rw [hR, hK]; rfl
  have HK := Lib.hid hK
  have HNN := Lib.hid hN
  have HNF := Lib.hid hn
  have h0 := HT1.out.cell 0
  have h1 := HT1.out.cell 1
  have HW := Lib.hid hw
  have HW1 := Lib.hid hw1
  have HBT := Lib.hid hbt
  have HSZ : Hid (bt + 1 = w.heap.size) := by rw [hbt]; exact hsz
  clear h hp hgl hR hK hN hn hw hw1 hbt hsz
  go_enter Try.func24, Try.ntmps24
  go_upto_region 1 with (fail)
  rw [← HW.out, ← HBT.out, ← HW1.out, HSZ.out]
  clear HW HW1 HBT HSZ
  have hsz1 : w.heap.size < w1.heap.size := HF1.out.lt
  go_upto_region 2 with (first | (refine wpList_store_row rfl 45 _ _ rfl w1.heap.size #[.string ⟨nm.toArray⟩, .int .i64 b, .bool s, .slice none 0 0, .slice none 0 0] rfl rfl 45 Pw.zF (Blk.new _ _ _) (by kernel_rfl) rfl (Pw.one5 _ _ _ _ _ _ _ _ _) ?_))
  obtain ⟨sb, hsb⟩ : ∃ sb, sb = w1.heap.size := ⟨_, rfl⟩
  rw [← hsb]
  generalize hw2 : World.setRow _ _ _ = w2
  have H0 : Hid (FnL w g fin n sb ⟨nm.toArray⟩ b s R K l.length w2 n [] l none 0) := by
    have hb : Below w1.heap.size w1 w2 := by rw [← hw2, hsb]; exact Pw.rowBel (Ext.alloc (Below.refl _ _) _) (Nat.le_refl _) _
    refine ⟨HF1.out.below hb, by rw [hsb]; exact hsz1, ?_, OwnR.nil .., HP1.out.keep hb, HR.out, by have := HNF.out; omega, Nat.le_refl _, Nat.le_refl _, Nat.zero_le _⟩
    rw [← hw2, hsb]; exact Pw.rowB (Blk.new _ _ _) _
  clear hw2 hsb hsz1 h0 h1 HT0 HT1 HF1 HP1 HR
  simp only [Act.put]
  go_loopw [8, 9, 10] (fun _ _ _ wr => ∃ (m : Nat) (acc : List Pm) (lr : List Tk.Tok) (ar : Option Addr) (cr : Nat), Hid (FnL w g fin n sb ⟨nm.toArray⟩ b s R K l.length wr m acc lr ar cr)) (fun _ _ _ wr => tkL wr g)
  case atStart => exact ⟨_, _, _, _, _, H0.out⟩
  case round =>
    obtain ⟨m, acc, lr, ar, cr, HA⟩ := hrel
    obtain ⟨m, rfl⟩ : ∃ m', m = m' + 1 := ⟨m - 1, by have := HA.out.fuel; omega⟩
    clear H0
    have HGS : Hid (g < sb ∧ w.heap.size < sb) := ⟨by have h1 := HA.out.lb; have h2 := HG.out; omega, HA.out.lb⟩
    cases hs41 : Ps.sees [41] lr with
    | true =>
      have HI := Lib.hid (pis_yes wr g fin 0 lr [41] HA.out.pb hs41)
      have HEN := Lib.hid (fun wi hc => HA.out.end_ (wi := wi) HG.out hs41 hc)
      have HLT : Hid (lr.tail.length < l.length) := by have h1 := Ps.sees_lt hs41; have h2 := HA.out.lt; exact Nat.lt_of_lt_of_le h1 h2
      clear hs41
      go_upto_region 12 with (first | (go_at_call_of 21 (Value.string ⟨#[41]⟩); refine (HI.out).mono ?_; rintro e w5 ⟨rfl, hc1, hb1⟩; have HCw5 := Lib.hid hc1; have HBw5 := Lib.hid hb1; clear hc1 hb1))
      obtain ⟨hR9, hz9, hb9, hr9⟩ := HEN.out w5 HCw5.out
      have HR1 : Hid (R = Ps.seq (Ps.need fin [123] lr.tail) fun _ l => Ps.seq ((Ps.at' fin n).block 0 [] l) fun bd l => .ok (⟨Ps.nm nm, b, s, acc, bd⟩, l)) := by show R = _; rw [hR9, HK.out]
      have HZ9 := Lib.hid hz9
      have HX9 := Lib.hid hb9
      have HRW := Lib.hid hr9
      clear hR9 hz9 hb9 hr9 HEN HA
      have HN := Lib.hid (pneed_ok w5 g fin 0 lr.tail [123] HBw5.out)
      obtain ⟨rn, hrn⟩ : ∃ rn, rn = Ps.need fin [123] lr.tail := ⟨_, rfl⟩
      have HLA : Hid (∀ x l', rn = .ok (x, l') → l'.length < lr.tail.length) := fun x l' h => Ps.need_lt (fin := fin) (s := [123]) (u := x) (hrn ▸ h)
      rw [← hrn] at HN HR1
      clear hrn
      go_upto_region 13 with (first | (go_at_call_of 44 (Value.string ⟨#[123]⟩); refine (HN.out).mono ?_; rintro e w6 ⟨hc6, hp6, hr6⟩; have HCw6 := Lib.hid hc6; have HPw6 := Lib.hid hp6; clear hc6 hp6; rcases rn with z | ⟨y0, l6⟩; (obtain rfl := hr6); rotate_left; (obtain ⟨rfl, hpb⟩ := hr6; have HPN := Lib.hid hpb; clear hpb); rotate_left))
      · obtain rfl : R = .error z := HR1.out
        exact ⟨rfl, (Chg.of_below HB0.out).trans (HZ9.out.chg.trans HCw6.out), HPw6.out, rfl⟩
      have HR2 : Hid (R = Ps.seq ((Ps.at' fin n).block 0 [] l6) fun bd l => .ok (⟨Ps.nm nm, b, s, acc, bd⟩, l)) := HR1.out
      have HL6 := Lib.hid (Nat.lt_trans (HLA.out _ _ rfl) HLT.out)
      have HE := Lib.hid ((ps_all g fin n).block 0 w6 l6 (by omega) (by have h1 := HL6.out; have h2 := HNN.out; omega) HPN.out (by have h1 := HL6.out; have h2 := HNF.out; omega))
      have HX6 : Hid (∀ wi, Chg g w6 wi → Blk wi sb 45 #[.string ⟨nm.toArray⟩, .int .i64 b, .bool s, .slice ar acc.length cr, .slice none 0 0]) := fun wi hc => ((HCw6.out.trans hc).block sb HX9.out.lt (fun e => by injection e with e; have := HGS.out; omega)).trans HX9.out
      obtain ⟨rb, hrb⟩ : ∃ rb, rb = (Ps.at' fin n).block 0 [] l6 := ⟨_, rfl⟩
      rw [← hrb] at HE HR2
      clear hrb HR1 HLA HN
      go_upto_region 14 with (first | (go_at_call 45; refine (HE.out).mono ?_; rintro e w7 ⟨hc4, hp4, hr4⟩; have HCw7 := Lib.hid hc4; have HPw7 := Lib.hid hp4; clear hc4 hp4; rcases rb with z | ⟨bd, l7⟩; (obtain rfl := hr4); rotate_left; (obtain ⟨vv, rfl, hin, hpb⟩ := hr4; obtain ⟨ab, cb, rfl⟩ := Pw.formL hin; have HIB := Lib.hid hin; have HPB := Lib.hid hpb; have hx7 := HX6.out w7 HCw7.out; have e4 := hx7.cell 4; have f4 := hx7.frozen 4; clear hin hpb hx7); rotate_left))
      · obtain rfl : R = .error z := HR2.out
        exact ⟨rfl, (Chg.of_below HB0.out).trans ((HZ9.out.chg.trans HCw6.out).trans HCw7.out), HPw7.out, rfl⟩
      obtain rfl : R = .ok (⟨Ps.nm nm, b, s, acc, bd⟩, l7) := HR2.out
      generalize hw8 : World.setCell w7 _ _ = w8
      have HFAR : Hid (∀ k, k ≠ sb → w8.heap[k]? = w7.heap[k]?) := fun k hk => by rw [← hw8]; exact Below.heap_setCell w7 ⟨sb, 4, none⟩ _ k hk
      have HZ7 : Hid (Fz w g 45 Pw.zF w7) := (HZ9.out.step HG.out HCw6.out).step HG.out HCw7.out
      have HZ8 : Hid (Fz w g 45 Pw.zF w8) := ⟨by rw [← hw8]; exact HZ7.out.chg.setNew (by show w.heap.size ≤ sb; have := HGS.out; omega) _, (HFAR.out _ (by have := HGS.out; omega)).trans HZ7.out.z⟩
      have HX8 : Hid (Blk w8 sb 45 #[.string ⟨nm.toArray⟩, .int .i64 b, .bool s, .slice ar acc.length cr, .slice ab bd.length cb]) := by
        have h1 := (HX6.out w7 HCw7.out).set_ 4 (.slice ab bd.length cb)
        show Blk _ _ _ _
        rw [← hw8]
        simpa using h1
      have HP8 : Hid (Pb w8 g fin 0 l7) := HPB.out.same fun k hk hl => HFAR.out k (by have := HGS.out; omega)
      clear hw8 e4 f4
      go_wp2_with (first | (refine wpList_load_row rfl 45 _ rfl sb rfl 45 #[.string ⟨nm.toArray⟩, .int .i64 b, .bool s, .slice ar acc.length cr, .slice ab bd.length cb] (0, 0) _ HX8.out Try.underlying45 rfl (by kernel_rfl) ?_) | (refine wpList_store_row rfl 45 _ _ rfl w.heap.size #[.string ⟨nm.toArray⟩, .int .i64 b, .bool s, .slice ar acc.length cr, .slice ab bd.length cb] rfl rfl 45 Pw.zF HZ8.out.z (by kernel_rfl) rfl (Pw.one5 _ _ _ _ _ _ _ _ _) ?_))
      (obtain ⟨row, hrow⟩ : ∃ row : Array Value, row = #[.string ⟨nm.toArray⟩, .int .i64 b, .bool s, .slice ar acc.length cr, .slice ab bd.length cb] := ⟨_, rfl⟩; rw [← hrow])
      have hx : LF w8 (fun k => w.heap.size < k) ⟨Ps.nm nm, b, s, acc, bd⟩ [.string ⟨nm.toArray⟩, .int .i64 b, .bool s, .slice ar acc.length cr, .slice ab bd.length cb] := by
        refine ⟨_, _, rfl, ?_, ?_⟩
        · refine HRW.out.move (fun _ _ _ h => h) (fun x _ cs h => by rw [h]; simp) fun k hk hl => ⟨by have hk : sb < k := hk; have := HGS.out; omega, ?_⟩
          have hk : sb < k := hk
          have h1 := HGS.out
          exact (HFAR.out k (by omega)).trans ((HCw6.out.trans HCw7.out).block k hl (fun e => by injection e with e; omega))
        · exact HIB.out.move fun k hk hl => ⟨by have hk : w6.heap.size ≤ k := hk; have h1 := (HX6.out w6 (Chg.of_below (Below.refl _ _))).lt; have h2 := HGS.out; omega, HFAR.out k (by have hk : w6.heap.size ≤ k := hk; have h1 := (HX6.out w6 (Chg.of_below (Below.refl _ _))).lt; omega)⟩
      have hz := (Fz.rw HZ8.out HG.out HP8.out row).2.2.1
      have hi : (Try.prog.info? 45).map (·.size) = some row.size := by subst hrow; kernel_rfl
      have post : PfR g fin 0 w0 (.ok (⟨Ps.nm nm, b, s, acc, bd⟩, l7)) (.returned (.agg row)) (w8.setRow w.heap.size row) := by
        obtain ⟨p1, p2, cs, p3, p4, p5⟩ := Fz.rowL layF HZ8.out HG.out HP8.out hx row hrow
        exact ⟨(Chg.of_below HB0.out).trans p1, p2, cs, p3, layF.move p4 fun k hk hl => ⟨Nat.le_trans HB0.out.size hk, rfl⟩, p5⟩
      exact bodyPost_ret (Pw.res_cell rfl _ _ w.heap.size 45 row (0, 0) _ rfl hz Try.underlying45 rfl hi) rfl post
    | false =>
      have HI := Lib.hid (pis_no wr g fin 0 lr [41] HA.out.pb hs41)
      have HS41 := Lib.hid hs41
      clear hs41
      have hxb := HA.out.xb
      obtain ⟨nA, hnA⟩ : ∃ nA, nA = acc.length := ⟨_, rfl⟩
      have e3 : wr.cell? ⟨sb, 3, none⟩ = some (.slice ar nA cr) := by rw [hnA]; exact hxb.cell 3
      have h8 : (nA : Int) ≤ 8 := by have := HA.out.few; omega
      have HNA := Lib.hid hnA
      clear hxb hnA
      go_upto_if 20 with (first | (go_at_call_of 21 (Value.string ⟨#[41]⟩); refine (HI.out).mono ?_; rintro e w' ⟨rfl, rfl⟩))
      go_cut [] from 14 to 51 (fun wx => ∃ l2, Hid (FnS w g fin n sb ⟨nm.toArray⟩ b s R K l.length lr.length wx m acc l2 ar cr))
      case first =>
        by_cases ha : acc = []
        · obtain rfl : nA = 0 := by rw [HNA.out, ha]; rfl
          have HX9 : Hid (FnS w g fin n sb ⟨nm.toArray⟩ b s R K l.length lr.length wr m acc lr ar cr) := HA.out.sep HG.out HS41.out (Chg.of_below (Below.refl _ _)) HA.out.pb (Nat.le_refl _) (if_pos ha)
          clear ha
          go_wp2_with (fail)
          go_meet
          case rel => exact ⟨lr, HX9.out⟩
        · have hn0 : 0 < nA := by rw [HNA.out]; exact List.length_pos_iff.2 ha
          have q1 : decide ((nA : Int) > 0) = true := decide_eq_true (by omega)
          have HN := Lib.hid (pneed_ok wr g fin 0 lr [44] HA.out.pb)
          have HRE : Hid (∀ z, Ps.need fin [44] lr = .error z → R = .error z) := fun z hz => by
            rw [HA.out.is]
            show Ps.seq (Ps.paramsS (Ps.at' fin m) fin acc lr) _ = _
            unfold Ps.paramsS
            rw [HS41.out, if_neg (by decide), if_neg ha, hz]; rfl
          obtain ⟨rn, hrn⟩ : ∃ rn, rn = Ps.need fin [44] lr := ⟨_, rfl⟩
          have HNL : Hid (∀ x l', rn = .ok (x, l') → l'.length ≤ lr.length ∧ (if acc = [] then (.ok ((), lr) : Ps.Res Unit) else Ps.need fin [44] lr) = .ok ((), l')) := fun x l' hz => ⟨Nat.le_of_lt (Ps.need_lt (hrn ▸ hz)), by rw [if_neg ha]; exact hrn ▸ hz⟩
          rw [← hrn] at HN HRE
          clear ha hrn
          go_wp2_with (first | (go_at_call_of 44 (Value.string ⟨#[44]⟩); refine (HN.out).mono ?_; rintro e w6 ⟨hc6, hp6, hr6⟩; have HCw6 := Lib.hid hc6; have HPw6 := Lib.hid hp6; clear hc6 hp6; rcases rn with z | ⟨y0, l4⟩; (obtain rfl := hr6); rotate_left; (obtain ⟨rfl, hpb⟩ := hr6; have HPN := Lib.hid hpb; clear hpb); rotate_left))
          · obtain rfl : R = .error z := HRE.out z rfl
            exact ⟨rfl, (Chg.of_below HB0.out).trans (HA.out.fz.chg.trans HCw6.out), HPw6.out, rfl⟩
          · go_meet
            case rel => exact ⟨l4, HA.out.sep HG.out HS41.out HCw6.out HPN.out (HNL.out _ _ rfl).1 (HNL.out _ _ rfl).2⟩
      case rest =>
        obtain ⟨wa, hwa⟩ : ∃ wa, wa = wc := ⟨_, rfl⟩
        rw [← hwa] at hcut ⊢
        clear hwa e3
        obtain ⟨l3, HS⟩ := hcut
        have e3 : wa.cell? ⟨sb, 3, none⟩ = some (.slice ar nA cr) := by rw [HNA.out]; exact HS.out.xb.cell 3
        have HAT := Lib.hid (pat_ok wa g fin 0 l3 HS.out.pb)
        by_cases hn8 : nA = 8
        · obtain rfl : R = .error (5, Ps.pos fin l3) := by rw [HS.out.is, if_pos (HNA.out ▸ hn8)]
          have q8 : ((nA : Int) == 8) = true := by simp [hn8]
          clear hn8
          go_wp2_with (first | (go_at_call 19; refine HAT.out.mono ?_; rintro e w' ⟨rfl, rfl⟩) | (go_at_call 22; refine (pfail_ok _ _ _ _).mono ?_; rintro e w' ⟨rfl, rfl⟩))
          exact ⟨rfl, (Chg.of_below HB0.out).trans HS.out.fz.chg, HS.out.pb.par, rfl⟩
        have q8 : ((nA : Int) == 8) = false := by simp; omega
        have HN8 : Hid (¬ acc.length = 8) := fun h => hn8 (HNA.out.trans h)
        have HTY := Lib.hid (ptyped_ok wa g fin 0 l3 HS.out.pb)
        have HRS : Hid (R = match Ps.typed l3 with | none => .error (2, Ps.pos fin l3) | some t => Ps.seq (Ps.name fin l3.tail) fun q l => Ps.seq ((Ps.at' fin m).params (acc ++ [⟨t.1, t.2, Ps.nm q⟩]) l) K) := by show R = _; rw [HS.out.is, if_neg HN8.out]
        obtain ⟨ty, hty⟩ : ∃ ty, ty = Ps.typed l3 := ⟨_, rfl⟩
        have HTE := Lib.hid hty
        rw [← hty] at HTY HRS
        clear hn8 hty
        cases ty with
        | none =>
          obtain rfl : R = .error (2, Ps.pos fin l3) := HRS.out
          go_wp2_with (first | (go_at_call 19; refine HAT.out.mono ?_; rintro e w' ⟨rfl, rfl⟩) | (go_at_call 20; refine (HTY.out).mono ?_; rintro e w4 ⟨hc4, rfl, hpb⟩; have HC4 := Lib.hid hc4; have HPB := Lib.hid hpb; clear hc4 hpb) | (go_at_call 22; refine (pfail_ok _ _ _ _).mono ?_; rintro e w' ⟨rfl, rfl⟩))
          exact ⟨rfl, (Chg.of_below HB0.out).trans ((HS.out.fz.chg.trans HC4.out).trans (Chg.of_below (Ext.alloc (Below.refl _ _) _))), (HPB.out.keep (Ext.alloc (Below.refl _ _) _)).par, rfl⟩
        | some t =>
          obtain ⟨tb, ts⟩ := t
          go_upto_region 11 with (first | (go_at_call 19; refine HAT.out.mono ?_; rintro e w' ⟨rfl, rfl⟩) | (go_at_call 20; refine (HTY.out).mono ?_; rintro e w4 ⟨hc4, rfl, hpb⟩; have HC4 := Lib.hid hc4; have HPB := Lib.hid hpb; clear hc4 hpb))
          generalize hw5 : World.alloc w4 _ = w5
          obtain ⟨b9, hb9⟩ : ∃ b9, b9 = w4.heap.size := ⟨_, rfl⟩
          rw [← hb9]
          have HB5 : Hid (Below w4.heap.size w4 w5) := by show Below _ _ _; rw [← hw5]; exact Ext.alloc (Below.refl _ _) _
          have HT5 : Hid (Blk w5 b9 38 #[.int .i64 tb, .bool ts]) := by show Blk _ _ _ _; rw [← hw5, hb9]; exact Blk.new _ _ _
          have HC5 : Hid (Chg g wa w5) := HC4.out.trans (Chg.of_below HB5.out)
          have HP5 := Lib.hid (HPB.out.keep HB5.out)
          have HGA : Hid (g < wa.heap.size ∧ wa.heap.size ≤ b9) := by have h1 := HS.out.fz.lt; have h2 := HG.out; have h3 := HC4.out.size; exact ⟨by omega, by rw [hb9]; exact h3⟩
          have HTI : Hid (∀ wi, Chg g w5 wi → Blk wi b9 38 #[.int .i64 tb, .bool ts]) := fun wi hc => (hc.block b9 HT5.out.lt (fun e => by injection e with e; have := HGA.out; omega)).trans HT5.out
          have HXI : Hid (∀ wi, Chg g w5 wi → Blk wi sb 45 #[.string ⟨nm.toArray⟩, .int .i64 b, .bool s, .slice ar nA cr, .slice none 0 0]) := fun wi hc => by
            rw [HNA.out]
            exact ((HC5.out.trans hc).block sb HS.out.xb.lt (fun e => by injection e with e; have := HGS.out; omega)).trans HS.out.xb
          have HG5 : Hid (g < w5.heap.size) := by have h1 := HC5.out.size; have h2 := HGA.out; show g < _; omega
          clear hw5 hb9 e3 q8 HAT HTY HB5 HT5 HC4 HPB
          have HR9 : Hid (R = Ps.seq (Ps.name fin l3.tail) fun q l => Ps.seq ((Ps.at' fin m).params (acc ++ [⟨tb, ts, Ps.nm q⟩]) l) K) := HRS.out
          have HN := Lib.hid (fun wi (hp : Pb wi g fin 0 l3.tail) => pname_ok wi g fin 0 l3.tail hp)
          obtain ⟨rn, hrn⟩ : ∃ rn, rn = Ps.name fin l3.tail := ⟨_, rfl⟩
          have HNE := Lib.hid hrn
          rw [← hrn] at HN HR9
          clear hrn HRS
          cases rn with
          | error z =>
            have HRZ : Hid (R = .error z) := HR9.out
            apply Iy.wp_region 7 [4] (fun n => []) (Ix.Rb) (fun mm vs wi => Hid (Chg g w5 wi) ∧ (match mm with | 0 => Pb wi g fin 0 l3.tail | _ + 1 => True)) (Ix.vk [(Ix.kis _), (Ix.kis (.slice ar nA cr)), (Ix.kis (.agg #[.int .i64 tb, .bool ts])), (Ix.kis _), (Ix.ksat (fun _ => False)), (Ix.ksat (fun _ => False)), (Ix.ksat (fun _ => False))]) (fun _ => false) (by kernel_rfl) (by kernel_rfl) (by kernel_rfl) (by kernel_rfl) (by kernel_rfl) (fun n vs vs' w hk h => h) (fun _ => Below.refl _ _) (fun n vs _ _ h hb => ⟨h.1.out.trans (Chg.of_below hb), by cases n with | zero => exact h.2.keep hb | succ n => trivial⟩) (Ix.vk_keeps _) (Ix.not_al _) (fun vs => ⟨Chg.of_below (Ext.drew (Below.refl _ _)), HP5.out.keep (Ext.drew (Below.refl _ _))⟩)
            case step =>
              refine zys 6 0 1 [] (fun _ _ wi HB => ?_) <| zys 5 1 2 [(0, some 43)] (fun _ _ wi HB => ?_) <| zys 4 2 3 [] (fun _ _ wi HB => ?_) <| zys 3 3 4 [] (fun _ _ wi HB => ?_) <| zyc 2 4 5 0 [(3, some 46)] (fun vsp wi HB => ?_) <| zys 1 5 6 [(2, some 45), (4, some 47)] (fun _ _ wi HB => ?_) <| zys 0 6 7 [(5, some 48)] (fun _ _ wi HB => ?_) <| Iy.steps_nil
              (· ((repeat (refine zya ?_; rintro _ rfl)); refine zye ?_; (try simp only [zyp]); refine Iy.goI_yes rfl rfl fun K hK => ?_; (try simp only [zyp] at hK); go_wp2_with (first | fail); exact hK _ _ (Below.refl _ _) rfl))
              iterate 2 (· (obtain ⟨HM, _⟩ := HB; have hz := HTI.out _ HM.out; have e0 := hz.cell 0; have e1 := hz.cell 1; have hx := HXI.out _ HM.out; have e3 := hx.cell 3; (repeat (refine zya ?_; rintro _ rfl)); refine zye ?_; (try simp only [zyp]); refine Iy.goI_yes rfl rfl fun K hK => ?_; (try simp only [zyp] at hK); go_wp2_with (first | fail); exact hK _ _ (Below.refl _ _) rfl))
              (· ((repeat (refine zya ?_; rintro _ rfl)); refine zye ?_; (try simp only [zyp]); refine Iy.goI_yes rfl rfl fun K hK => ?_; (try simp only [zyp] at hK); go_wp2_with (first | fail); exact hK _ _ (Below.refl _ _) rfl))
              (· (obtain ⟨HM, hpb⟩ := HB; refine zya ?_; rintro _ ⟨rfl, ev3⟩; refine zye ?_; (try simp only [zyp]); refine Iy.goI_yes rfl rfl fun K hK => ?_; (try simp only [zyp] at hK); go_wp2_with (first | (go_at_call 23; refine (HN.out _ hpb).mono ?_; rintro e wb ⟨hca, hpa, rfl⟩)); refine Ix.onlyP fun tz => ?_; go_wp2_with (fail); have e9 := HRZ.out; subst e9; exact ⟨rfl, (Chg.of_below HB0.out).trans ((HS.out.fz.chg.trans (HC5.out.trans HM.out)).trans hca), hpa, rfl⟩))
              (· (obtain ⟨HM, _⟩ := HB; have hz := HTI.out _ HM.out; have e0 := hz.cell 0; have e1 := hz.cell 1; have hx := HXI.out _ HM.out; have e3 := hx.cell 3; refine zya ?_; rintro _ rfl; refine zya ?_; rintro _ hf4; refine zye ?_; (try simp only [zyp]); refine Iy.goI_yes rfl rfl fun K hK => ?_; (try simp only [zyp] at hK); exact hf4.elim; skip))
              (· (obtain ⟨HM, _⟩ := HB; have hz := HTI.out _ HM.out; have e0 := hz.cell 0; have e1 := hz.cell 1; have hx := HXI.out _ HM.out; have e3 := hx.cell 3; refine zya ?_; rintro _ hf5; refine zye ?_; (try simp only [zyp]); refine Iy.goI_yes rfl rfl fun K hK => ?_; (try simp only [zyp] at hK); exact hf5.elim; skip))
            intro vsf wf HF hdf
            refine zyv 6 0 1 ?_; rintro _ _ rfl; refine zyv 5 1 2 ?_; rintro _ _ rfl; refine zyv 4 2 3 ?_; rintro _ _ rfl; refine zyv 3 3 4 ?_; rintro _ _ rfl; refine zyv 2 4 5 ?_; rintro _ _ hf4; refine zyv 1 5 6 ?_; rintro _ _ hf5; refine zyv 0 6 7 ?_; rintro _ _ hf6
            refine Ix.allV_nil ?_
            (try simp only [Act.put, List.setIfInBounds_toArray, List.set_cons_zero, List.set_cons_succ, List.drop_succ_cons, List.drop_zero])
            go_wp2_with (first | fail)
            all_goals (first | refine Ix.only ?_ | (refine Ix.onlyP fun tz => ?_))
            all_goals exact hf4.elim
          | ok pf =>
            obtain ⟨q, l4⟩ := pf
            apply Iy.wp_region 7 [4] (fun n => []) (Ix.Rb) (fun mm vs wi => Hid (Chg g w5 wi) ∧ (match mm with | 0 => Pb wi g fin 0 l3.tail | _ + 1 => Pb wi g fin 0 l4)) (Ix.vk [(Ix.kis _), (Ix.kis (.slice ar nA cr)), (Ix.kis (.agg #[.int .i64 tb, .bool ts])), (Ix.kis _), (Ix.kis (.string ⟨q.toArray⟩)), (Ix.kis (.agg #[.int .i64 tb, .bool ts, .string ⟨q.toArray⟩])), (Ix.kwld (fun v w' => ∃ t, v = Value.slice (some ⟨t, 0, none⟩) 1 1 ∧ w5.heap.size ≤ t ∧ Blk w' t 75 #[.int .i64 tb, .bool ts, .string ⟨q.toArray⟩]) (fun v w1 w2 h hb => by obtain ⟨t, e, hl, hi⟩ := h; exact ⟨t, e, hl, hi.keep hb⟩))]) (fun _ => false) (by kernel_rfl) (by kernel_rfl) (by kernel_rfl) (by kernel_rfl) (by kernel_rfl) (fun n vs vs' w hk h => h) (fun _ => Below.refl _ _) (fun n vs _ _ h hb => ⟨h.1.out.trans (Chg.of_below hb), by cases n with | zero => exact h.2.keep hb | succ n => exact h.2.keep hb⟩) (Ix.vk_keeps _) (Ix.not_al _) (fun vs => ⟨Chg.of_below (Ext.drew (Below.refl _ _)), HP5.out.keep (Ext.drew (Below.refl _ _))⟩)
            case step =>
              refine zys 6 0 1 [] (fun _ _ wi HB => ?_) <| zys 5 1 2 [(0, some 43)] (fun _ _ wi HB => ?_) <| zys 4 2 3 [] (fun _ _ wi HB => ?_) <| zys 3 3 4 [] (fun _ _ wi HB => ?_) <| zyc 2 4 5 0 [(3, some 46)] (fun vsp wi HB => ?_) <| zys 1 5 6 [(2, some 45), (4, some 47)] (fun _ _ wi HB => ?_) <| zys 0 6 7 [(5, some 48)] (fun _ _ wi HB => ?_) <| Iy.steps_nil
              (· ((repeat (refine zya ?_; rintro _ rfl)); refine zye ?_; (try simp only [zyp]); refine Iy.goI_yes rfl rfl fun K hK => ?_; (try simp only [zyp] at hK); go_wp2_with (first | fail); exact hK _ _ (Below.refl _ _) rfl))
              iterate 2 (· (obtain ⟨HM, _⟩ := HB; have hz := HTI.out _ HM.out; have e0 := hz.cell 0; have e1 := hz.cell 1; have hx := HXI.out _ HM.out; have e3 := hx.cell 3; (repeat (refine zya ?_; rintro _ rfl)); refine zye ?_; (try simp only [zyp]); refine Iy.goI_yes rfl rfl fun K hK => ?_; (try simp only [zyp] at hK); go_wp2_with (first | fail); exact hK _ _ (Below.refl _ _) rfl))
              (· ((repeat (refine zya ?_; rintro _ rfl)); refine zye ?_; (try simp only [zyp]); refine Iy.goI_yes rfl rfl fun K hK => ?_; (try simp only [zyp] at hK); go_wp2_with (first | fail); exact hK _ _ (Below.refl _ _) rfl))
              (· (obtain ⟨HM, hpb⟩ := HB; refine zya ?_; rintro _ ⟨rfl, ev3⟩; refine zye ?_; (try simp only [zyp]); refine Iy.goI_yes rfl rfl fun K hK => ?_; (try simp only [zyp] at hK); go_wp2_with (first | (go_at_call 23; refine (HN.out _ hpb).mono ?_; rintro e wb ⟨hca, hpa, rfl, hpb2⟩)); exact hK _ _ ⟨⟨HM.out.trans hca, hpb2⟩, Iy.vk_turn (by repeat (first | exact True.intro | refine And.intro (fun _ h => h) ?_ | refine And.intro (fun hne => absurd rfl hne) ?_ | refine And.intro (fun _ h => (by obtain ⟨t9, e9, h9, h10⟩ := h; exact ⟨t9, e9, h9, (hca.block t9 h10.lt (fun e => by injection e with e; have := HG5.out; omega)).trans h10⟩)) ?_))⟩ rfl))
              (· ((repeat (refine zya ?_; rintro _ rfl)); refine zye ?_; (try simp only [zyp]); refine Iy.goI_yes rfl rfl fun K hK => ?_; (try simp only [zyp] at hK); go_wp2_with (first | fail); exact hK _ _ (Below.refl _ _) rfl))
              (· (obtain ⟨HM, _⟩ := HB; have hz := HTI.out _ HM.out; have e0 := hz.cell 0; have e1 := hz.cell 1; have hx := HXI.out _ HM.out; have e3 := hx.cell 3; (repeat (refine zya ?_; rintro _ rfl)); refine zye ?_; (try simp only [zyp]); refine Iy.goI_yes rfl rfl fun K hK => ?_; (try simp only [zyp] at hK); go_wp2_with (first | fail); exact hK _ _ (Ext.alloc (Below.refl _ _) _) ⟨_, rfl, HM.out.size, Blk.new _ _ _⟩))
            intro vsf wf HF hdf
            refine zyv 6 0 1 ?_; rintro _ _ rfl; refine zyv 5 1 2 ?_; rintro _ _ rfl; refine zyv 4 2 3 ?_; rintro _ _ rfl; refine zyv 3 3 4 ?_; rintro _ _ rfl; refine zyv 2 4 5 ?_; rintro _ _ rfl; refine zyv 1 5 6 ?_; rintro _ _ rfl; refine zyv 0 6 7 ?_; rintro _ _ ⟨tf, rfl, htlf, htbf⟩
            refine Ix.allV_nil ?_
            obtain ⟨HMF, hpbf⟩ := HF; have hxbf := HXI.out _ HMF.out; obtain ⟨csf, hof, hkf⟩ := HS.out.own.chg layP (show g < sb + 1 by have := HGS.out.1; omega) (HC5.out.trans HMF.out); have hofn : wf.ownsRow (sb + 1) 75 3 (.slice ar nA cr) nA (flat csf acc.length) := (by rw [HNA.out]; exact hof)
            (try simp only [Act.put, List.setIfInBounds_toArray, List.set_cons_zero, List.set_cons_succ, List.drop_succ_cons, List.drop_zero])
            go_wp2_with (first | (refine wpList_app_row rfl _ _ 42 75 3 32 (.agg #[.int .i64 0, .bool false, .string ⟨#[]⟩]) rfl Try.underlying42 (by kernel_rfl) rfl (by decide) (by decide) (sb + 1) (.slice ar nA cr) nA (flat csf acc.length) tf [.int .i64 tb, .bool ts, .string ⟨q.toArray⟩] rfl rfl hofn rfl (pcell htbf) (layP.one (show LP wf (fun _ => True) ⟨tb, ts, ⟨q.toArray⟩⟩ _ from rfl)) (by omega) (by have := hxbf.lt; omega) ?_; intro a9 c9 w9 ho9 hg9 hat9; have hx9 : Blk w9 sb 45 _ := (hg9.block sb hxbf.lt (fun e => by have := (own_lowR hofn sb e.symm).1; omega)).trans hxbf; have e3 := hx9.cell 3; have f3 := hx9.frozen 3; clear hx9))
            all_goals (first | refine Ix.only ?_ | (refine Ix.onlyP fun tz => ?_))
            have HNX : Hid (FnL w g fin n sb ⟨nm.toArray⟩ b s R K l.length (w9.setCell ⟨sb, 3, none⟩ (.slice a9 (nA + 1) c9)) m (acc ++ [⟨tb, ts, Ps.nm q⟩]) l4 a9 c9 ∧ tkL (w9.setCell ⟨sb, 3, none⟩ (.slice a9 (nA + 1) c9)) g = l4.length ∧ l4.length < l3.length) := by
              have e9 := HNA.out
              subst e9
              exact HS.out.next HG.out HN8.out HTE.out.symm HNE.out.symm (HC5.out.trans HMF.out) hpbf hof hkf ho9 hg9 hat9
            have HM9 : Hid (tkL (w9.setCell ⟨sb, 3, none⟩ (.slice a9 (nA + 1) c9)) g < tkL wr g) := by
              show tkL _ g < tkL wr g
              rw [HNX.out.2.1, HA.out.pb.tkL]
              have h1 := HNX.out.2.2; have h2 := HS.out.l0; omega
            clear hxbf hof hkf hofn htbf ho9 hg9 hat9 e3 f3 hpbf HMF HR9 HN HXI HTI h8
            go_wp2_with (fail)
            go_round
            case rel => exact ⟨m, acc ++ [(⟨tb, ts, Ps.nm q⟩ : Pm)], l4, a9, c9, Lib.hid HNX.out.1⟩
            case measure => exact HM9.out
end Go.Proofs.Ytfkndjifhmkojaa
/- Walk of parser.global. No condition. -/
namespace Go.Proofs.Ytfkndjifhmkojaa
open Go.RowKit
set_option linter.unusedVariables false
set_option linter.unusedSimpArgs false
set_option maxRecDepth 100000
abbrev Pw.zG : Array Value := #[.int .i64 0, .bool false, .string ⟨#[]⟩, .int .i64 0, .slice none 0 0]
theorem Pw.oneG (nm : ByteArray) (b z : Int) (s : Bool) (a : Option Addr) (l c : Nat) : (#[.int .i64 b, .bool s, .string nm, .int .i64 z, .slice a l c] : Array Value).all (·.oneCell') = true := by simp [Value.oneCell']
/-- What stands at the head of the loop over a variable's numbers. -/
structure GlL (w : World) (g fin n sb N : Nat) (gb : Int) (gs : Bool) (gz : Int) (nm : List UInt8) (R : Ps.Res Gl) (K : List X → List Tk.Tok → Ps.Res Gl) (wr : World) (m : Nat) (acc : List X) (l : List Tk.Tok) (a : Option Addr) (c : Nat) : Prop where
  fz : Fz w g 41 Pw.zG wr
  lb : w.heap.size < sb
  xb : Blk wr sb 41 #[.int .i64 gb, .bool gs, .string ⟨nm.toArray⟩, .int .i64 gz, .slice a acc.length c]
  own : OwnR wr (sb + 1) 54 6 LX acc a c
  pb : Pb wr g fin 0 l
  is : R = Ps.seq ((Ps.at' fin m).inits gz acc l) K
  fuel : 32 * l.length + 21 ≤ m
  le : m ≤ n
  lt : l.length < N
  few : (acc.length : Int) ≤ gz
/-- And where the sign between them has come. -/
structure GlS (w : World) (g fin n sb N : Nat) (gb : Int) (gs : Bool) (gz : Int) (nm : List UInt8) (R : Ps.Res Gl) (K : List X → List Tk.Tok → Ps.Res Gl) (L0 : Nat) (wr : World) (m : Nat) (acc : List X) (l : List Tk.Tok) (a : Option Addr) (c : Nat) : Prop where
  fz : Fz w g 41 Pw.zG wr
  lb : w.heap.size < sb
  xb : Blk wr sb 41 #[.int .i64 gb, .bool gs, .string ⟨nm.toArray⟩, .int .i64 gz, .slice a acc.length c]
  own : OwnR wr (sb + 1) 54 6 LX acc a c
  pb : Pb wr g fin 0 l
  is : R = if (acc.length : Int) = gz then .error (5, Ps.pos fin l) else Ps.seq ((Ps.at' fin m).expr 0 l) fun x l => Ps.seq ((Ps.at' fin m).inits gz (acc ++ [x]) l) K
  fuel : 32 * l.length + 20 ≤ m
  le : m ≤ n
  lt : l.length < N
  l0 : l.length ≤ L0
  few : (acc.length : Int) ≤ gz
section
variable {w wr wi : World} {g fin n sb N m L0 : Nat} {gb : Int} {gs : Bool} {gz : Int} {nm : List UInt8} {R : Ps.Res Gl} {K : List X → List Tk.Tok → Ps.Res Gl} {acc : List X} {l l1 : List Tk.Tok} {a : Option Addr} {c : Nat}
theorem GlL.sep (h : GlL w g fin n sb N gb gs gz nm R K wr (m + 1) acc l a c) (hg : g < w.heap.size) (hs : Ps.sees [125] l = false) (hc : Chg g wr wi) (hp : Pb wi g fin 0 l1) (hl : l1.length ≤ l.length)
    (h1 : (if acc = [] then (.ok ((), l) : Ps.Res Unit) else Ps.need fin [44] l) = .ok ((), l1)) : GlS w g fin n sb N gb gs gz nm R K l.length wi m acc l1 a c := by
  have hb := h.lb
  refine ⟨h.fz.step hg hc, hb, (hc.block sb h.xb.lt (fun e => by injection e with e; omega)).trans h.xb, h.own.chg layX (by omega) hc, hp, ?_, ?_, ?_, ?_, hl, h.few⟩
  · rw [h.is]
    show Ps.seq (Ps.initsS (Ps.at' fin m) fin gz acc l) _ = _
    unfold Ps.initsS
    rw [hs, if_neg (by decide), h1]
    show Ps.seq (if (acc.length : Int) = gz then _ else _) _ = _
    split
    · rfl
    · cases (Ps.at' fin m).expr 0 l1 <;> rfl
  · have := h.fuel; omega
  · have := h.le; omega
  · have := h.lt; omega
theorem GlS.keep (h : GlS w g fin n sb N gb gs gz nm R K L0 wr m acc l a c) (hb : Below wr.heap.size wr wi) : GlS w g fin n sb N gb gs gz nm R K L0 wi m acc l a c :=
  ⟨h.fz.below hb, h.lb, h.xb.keep hb, h.own.keep layX hb, h.pb.keep hb, h.is, h.fuel, h.le, h.lt, h.l0, h.few⟩
/-- The next one has come. -/
theorem GlS.next {wx w' : World} {y : X} {l2 : List Tk.Tok} {ys : List Value} {cs : Nat → List Value} {a' : Option Addr} {c' : Nat} (h : GlS w g fin n sb N gb gs gz nm R K L0 wr m acc l a c) (hg : g < w.heap.size) (h8 : ¬ (acc.length : Int) = gz) (hr : (Ps.at' fin m).expr 0 l = .ok (y, l2)) (hlt : l2.length < l.length)
    (hc : Chg g wr wx) (hp : Pb wx g fin 0 l2) (ho : wx.ownsRow (sb + 1) 54 6 (.slice a acc.length c) acc.length (flat cs acc.length)) (hk : ∀ i y, acc[i]? = some y → LX wx (fun k => sb + 1 ≤ k ∧ (Value.slice a acc.length c).ownBlock ≠ some k) y (cs i))
    (hy : XIn wx (fun k => wr.heap.size ≤ k) y ys) (ho' : w'.ownsRow (sb + 1) 54 6 (.slice a' (acc.length + 1) c') (acc.length + 1) (flat cs acc.length ++ ys)) (hgr : wx.grownBy w' (Value.slice a acc.length c).ownBlock)
    (hat : (Value.slice a' (acc.length + 1) c').ownBlock = (Value.slice a acc.length c).ownBlock ∨ (Value.slice a' (acc.length + 1) c').ownBlock = some wx.heap.size) :
    GlL w g fin n sb N gb gs gz nm R K (w'.setCell ⟨sb, 4, none⟩ (.slice a' (acc.length + 1) c')) m (acc ++ [y]) l2 a' c' ∧ tkL (w'.setCell ⟨sb, 4, none⟩ (.slice a' (acc.length + 1) c')) g = l2.length := by
  have hb := h.lb
  have hlo := own_lowR ho
  have hlo2 := h.own.low
  have hx := h.xb
  have hnb : some sb ≠ (Value.slice a acc.length c).ownBlock := fun e => by have := (hlo sb e.symm).1; omega
  have hx2 : Blk wx sb 41 _ := (hc.block sb hx.lt (fun e => by injection e with e; omega)).trans hx
  have hx' : Blk w' sb 41 _ := (hgr.block sb hx2.lt hnb).trans hx2
  have hfar : ∀ k, k ≠ sb → (w'.setCell ⟨sb, 4, none⟩ (.slice a' (acc.length + 1) c')).heap[k]? = w'.heap[k]? := fun k hk => Below.heap_setCell w' ⟨sb, 4, none⟩ _ k hk
  have hf1 := h.fz.step hg hc
  have hchg : Chg g w (w'.setCell ⟨sb, 4, none⟩ (.slice a' (acc.length + 1) c')) := (hf1.chg.grown hgr (fun k hk => by have := (hlo k hk).1; omega)).setNew (by show w.heap.size ≤ sb; omega) _
  have hown := OwnR.app layX ho hk (N := wr.heap.size) (fun k hk => (hlo2 k hk).2) hx.lt hy ho' hgr hat
  have hpb : Pb (w'.setCell ⟨sb, 4, none⟩ (.slice a' (acc.length + 1) c')) g fin 0 l2 := hp.same fun k hk hl => (hfar k (by omega)).trans (hgr.block k hl (fun e => by have := (hlo k e.symm).1; omega))
  have hl9 : (acc ++ [y]).length = acc.length + 1 := by simp
  refine ⟨⟨⟨hchg, ?_⟩, hb, ?_, hown.same layX fun k hk hl => hfar k (by omega), hpb, ?_, ?_, h.le, ?_, ?_⟩, hpb.tkL⟩
  · have hz := hf1.z
    exact (hfar w.heap.size (by omega)).trans ((hgr.block w.heap.size hz.lt (fun e => by have := (hlo _ e.symm).1; omega)).trans hz)
  · rw [hl9]
    have := hx'.set_ 4 (.slice a' (acc.length + 1) c')
    simpa using this
  · rw [h.is, if_neg h8, hr]; rfl
  · have := h.fuel; omega
  · have := h.lt; omega
  · rw [hl9]; have := h.few; omega
/-- All have come. -/
theorem GlL.end_ (h : GlL w g fin n sb N gb gs gz nm R K wr (m + 1) acc l a c) (hg : g < w.heap.size) (hs : Ps.sees [125] l = true) (hc : Chg g wr wi) :
    R = K acc l.tail ∧ Fz w g 41 Pw.zG wi ∧ Blk wi sb 41 #[.int .i64 gb, .bool gs, .string ⟨nm.toArray⟩, .int .i64 gz, .slice a acc.length c] ∧ Row wi (fun k => sb < k) 6 (LX wi (fun k => sb < k)) acc (.slice a acc.length c) := by
  have hb := h.lb
  refine ⟨?_, h.fz.step hg hc, (hc.block sb h.xb.lt (fun e => by injection e with e; omega)).trans h.xb, (h.own.chg layX (show g < sb + 1 by omega) hc).row layX⟩
  rw [h.is]
  show Ps.seq (Ps.initsS (Ps.at' fin m) fin gz acc l) _ = _
  unfold Ps.initsS
  rw [hs, if_pos rfl]; rfl
end
/-- Where only the last sign is left to come. -/
structure GlE (w : World) (g fin sb : Nat) (gb : Int) (gs : Bool) (gz : Int) (nm : List UInt8) (R : Ps.Res Gl) (wx : World) (ini : List X) (l : List Tk.Tok) (a : Option Addr) (c : Nat) : Prop where
  fz : Fz w g 41 Pw.zG wx
  lb : w.heap.size < sb
  xb : Blk wx sb 41 #[.int .i64 gb, .bool gs, .string ⟨nm.toArray⟩, .int .i64 gz, .slice a ini.length c]
  row : Row wx (fun k => sb < k) 6 (LX wx (fun k => sb < k)) ini (.slice a ini.length c)
  pb : Pb wx g fin 0 l
  is : R = Ps.seq (Ps.need fin [59] l) fun _ l => .ok (⟨gb, gs, Ps.nm nm, gz, ini⟩, l)
end Go.Proofs.Ytfkndjifhmkojaa
