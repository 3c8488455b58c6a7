/- Maps of names, told as functions. No condition. -/
import Derived.Test.YthdckndjggljpaaTA
import Derived.Test.YthdckndjggljpaaB0
import Derived.Test.YthdckndjggljpaaY5
import Derived.Test.YthdckndjggljpaaXR
import Derived.Test.YthdckndjggljpaaYA
namespace Go.Proofs.Ythdckndjggljpaa
open Go.RowKit Go.Maps
set_option linter.unusedVariables false
set_option linter.unusedSimpArgs false
set_option maxRecDepth 100000
/-- What a map of names has. -/
def SMap {V : Type} (elem : Value → Option (DataW Unit × List MemPlace)) (d : V → DataW Unit) (w : World) (B n : Nat) (f : List UInt8 → Option V) : Prop :=
  ∃ D : DataW Unit, w.ownsMap Try.prog 9 elem B n D ∧ IsMap D ∧ ∀ l, Maps.has D (.string l) = (f l).isSome ∧ ∀ zd, D.atKey (.string l) zd = match f l with | some v => d v | none => zd
namespace SMap
variable {V : Type} {elem : Value → Option (DataW Unit × List MemPlace)} {d : V → DataW Unit} {w w' : World} {B n : Nat} {f f' : List UInt8 → Option V}
theorem made (w : World) : SMap elem d (w.alloc (.map #[] 0)) w.heap.size 0 (fun _ => none) :=
  ⟨_, World.ownsMap_made (H := Unit) w _ _ elem, isMap_empty, fun l => ⟨rfl, fun zd => rfl⟩⟩
theorem lt (h : SMap elem d w B n f) : B < w.heap.size := by obtain ⟨D, h, _⟩ := h; exact h.lt
theorem mono (h : SMap elem d w B n f) {m : Nat} (hm : n ≤ m) : SMap elem d w B m f := by obtain ⟨D, h, r⟩ := h; exact ⟨D, h.mono hm, r⟩
theorem congr (h : SMap elem d w B n f) (e : ∀ l, f l = f' l) : SMap elem d w B n f' := by rw [← funext e]; exact h
theorem same (h : SMap elem d w B n f) (hb : w'.heap[B]? = w.heap[B]?) : SMap elem d w' B n f := by
  obtain ⟨D, ⟨es, clock, h, r⟩, q⟩ := h
  exact ⟨D, ⟨es, clock, hb.trans h, r⟩, q⟩
theorem keep (h : SMap elem d w B n f) (hb : Below w.heap.size w w') : SMap elem d w' B n f := h.same (hb.block B h.lt)
theorem put (h : SMap elem d w B n f) {t e : TypeId} (ht : Try.prog.underlying t = some (.map 9 e)) (hn : n < maxLen) {s : ByteArray} (hs : s.size ≤ maxLen) {v : V} {val : Value} (hv : elem val = some (d v, [])) :
    ∃ w', (Instr.mapUpdate t (.map (some B)) (.string s) val).run Try.prog w = .ok () w' ∧ SMap elem d w' B (n + 1) (fun l => if l = s.data.toList then some v else f l) ∧ w.grownBy w' (some B) := by
  obtain ⟨D, ho, hi, hf⟩ := h
  have hkey : keyOf Try.prog 9 (.string s) = some (.string s.data.toList) := WideMaps.keyOf_string_mk Try.underlying9 hs
  obtain ⟨w', hr, ho', hg⟩ := ho.update law9 ht hn hkey hv
  refine ⟨w', hr, ⟨_, ho', hi.put _ _, fun l => ?_⟩, hg⟩
  by_cases e : l = s.data.toList
  · subst e
    simp only [if_pos]
    exact ⟨has_put_same hi (show WideAt.IsKeyLit (.string _) from trivial) _, fun zd => atKey_put_same hi (show WideAt.IsKeyLit (.string _) from trivial) _ _⟩
  · simp only [if_neg e]
    have hne : Lit.string l ≠ .string s.data.toList := by intro h2; injection h2 with h2; exact e h2
    exact ⟨(has_put_other hne _).trans (hf l).1, fun zd => (atKey_put_other hne _ _).trans ((hf l).2 zd)⟩
theorem look_ok (h : SMap elem d w B n f) {t e : TypeId} (ht : Try.prog.underlying t = some (.map 9 e)) {z : Value} (hz : (zeroValue e).run Try.prog w = .ok z w) {zd : DataW Unit} {zp : List MemPlace} (hzd : elem z = some (zd, zp)) {s : ByteArray} (hs : s.size ≤ maxLen) :
    ∃ v ps, (Instr.lookup t (.map (some B)) (.string s) true).run Try.prog w = .ok (.tuple #[v, .bool (f s.data.toList).isSome]) w ∧ elem v = some (match f s.data.toList with | some v => d v | none => zd, ps) := by
  obtain ⟨D, ho, hi, hf⟩ := h
  obtain ⟨v, ps, hr, hv⟩ := ho.look_ok law9 ht hz hzd (WideMaps.keyOf_string_mk Try.underlying9 hs)
  rw [(hf _).1] at hr
  rw [(hf _).2] at hv
  exact ⟨v, ps, hr, hv⟩
theorem look (h : SMap elem d w B n f) {t e : TypeId} (ht : Try.prog.underlying t = some (.map 9 e)) {z : Value} (hz : (zeroValue e).run Try.prog w = .ok z w) {zd : DataW Unit} {zp : List MemPlace} (hzd : elem z = some (zd, zp)) {s : ByteArray} (hs : s.size ≤ maxLen) :
    ∃ v ps, (Instr.lookup t (.map (some B)) (.string s) false).run Try.prog w = .ok v w ∧ elem v = some (match f s.data.toList with | some v => d v | none => zd, ps) := by
  obtain ⟨D, ho, hi, hf⟩ := h
  obtain ⟨v, ps, hr, hv⟩ := ho.lookup law9 ht hz hzd (WideMaps.keyOf_string_mk Try.underlying9 hs)
  rw [(hf _).2] at hv
  exact ⟨v, ps, hr, hv⟩
end SMap
/-- A place, as a map's element. -/
abbrev plV (b : Int) (s l : Bool) (n z : Int) : Value := .agg #[.int .i64 b, .bool s, .bool l, .int .i64 n, .int .i64 z]
def plD (b : Int) (s l : Bool) (n z : Int) : DataW Unit := .agg [.lit (.int .i64 b), .lit (.bool s), .lit (.bool l), .lit (.int .i64 n), .lit (.int .i64 z)]
def plE : Value → Option (DataW Unit × List MemPlace)
  | .agg cs => match cs.toList with
    | [.int .i64 b, .bool s, .bool l, .int .i64 n, .int .i64 z] => some (plD b s l n z, [])
    | _ => none
  | _ => none
theorem plE_mk (b : Int) (s l : Bool) (n z : Int) : plE (plV b s l n z) = some (plD b s l n z, []) := rfl
theorem plE_inv {v : Value} {b : Int} {s l : Bool} {n z : Int} {ps : List MemPlace} (h : plE v = some (plD b s l n z, ps)) : v = plV b s l n z := by
  unfold plE at h
  split at h
  · rename_i cs
    split at h
    · rename_i b' s' l' n' z' he
      injection h with h
      injection h with h _
      unfold plD at h
      simp at h
      obtain ⟨rfl, rfl, rfl, rfl, rfl⟩ := h
      obtain ⟨c⟩ := cs
      simp at he
      rw [he]
    · cases h
  · cases h
noncomputable abbrev boE : Value → Option (DataW Unit × List MemPlace) := plainElem Try.prog 4
noncomputable abbrev inE : Value → Option (DataW Unit × List MemPlace) := plainElem Try.prog 3
theorem boE_inv {v : Value} {x : Bool} {ps : List MemPlace} (h : boE v = some (.lit (.bool x), ps)) : v = .bool x := by
  unfold boE plainElem at h
  rw [Try.underlying4] at h
  cases v <;> simp at h
  exact congrArg _ h.1
theorem inE_inv {v : Value} {x : Int} {ps : List MemPlace} (h : inE v = some (.lit (.int .i64 x), ps)) : v = .int .i64 x := by
  obtain ⟨a, rfl, h2, _⟩ := plainElem_int_inv Try.underlying3 h
  injection h2 with h2 _
  injection h2 with h2
  injection h2 with _ h2
  rw [h2]
end Go.Proofs.Ythdckndjggljpaa
/- Check's scope: how it lies in memory, and what is found in it. No condition. -/
namespace Go.Proofs.Ythdckndjggljpaa
open Go.RowKit Go.Maps
set_option linter.unusedVariables false
set_option linter.unusedSimpArgs false
set_option maxRecDepth 100000
namespace Ck
/-- What a level says of a name. -/
def lfn (l : List Loc) (n : Nm) : Option Loc := l.reverse.find? (fun x => x.nm == n)
theorem lfn_nil (n : Nm) : lfn [] n = none := rfl
theorem lfn_snoc (l : List Loc) (x : Loc) (n : Nm) : lfn (l ++ [x]) n = if n = x.nm then some x else lfn l n := by
  unfold lfn
  rw [List.reverse_append, List.reverse_singleton, List.singleton_append, List.find?_cons]
  by_cases h : n = x.nm
  · rw [if_pos h, show (x.nm == n) = true by simpa using h.symm]
  · rw [if_neg h, show (x.nm == n) = false by simpa using fun e => h e.symm]
/-- What some levels say of a name. -/
def lfs (lv : List (List Loc)) (n : Nm) : Option Loc := lv.flatten.reverse.find? (fun x => x.nm == n)
theorem lfs_nil (n : Nm) : lfs [] n = none := rfl
theorem lfs_snoc (lv : List (List Loc)) (x : List Loc) (n : Nm) : lfs (lv ++ [x]) n = (lfn x n).or (lfs lv n) := by
  unfold lfs lfn
  rw [List.flatten_append, List.reverse_append, List.find?_append]
  simp
theorem lfs_take {lv : List (List Loc)} {i : Nat} (hi : i < lv.length) (n : Nm) : lfs (lv.take (i + 1)) n = (lfn (lv.getD i []) n).or (lfs (lv.take i) n) := by
  rw [List.take_succ_eq_append_getElem hi, lfs_snoc]
  simp [List.getD_eq_getElem?_getD, hi]
theorem local_eq (e : Env) (n : Nm) : e.local? n = lfs e.lv n := rfl
def locD (l : Loc) : DataW Unit := plD l.b l.s true l.slot 0
def usf (l : List Nm) (n : Nm) : Option Unit := if l.contains n then some () else none
theorem usf_snoc (l : List Nm) (x n : Nm) : usf (l ++ [x]) n = if n = x then some () else usf l n := by
  unfold usf
  by_cases h : n = x
  · subst h; simp
  · have : (l ++ [x]).contains n = l.contains n := by simp [h]
    rw [this, if_neg h]
def slc (l : List (Int × Bool)) : List Value := l.flatMap fun t => [.int .i64 t.1, .bool t.2]
theorem slc_snoc (l : List (Int × Bool)) (t : Int × Bool) : slc (l ++ [t]) = slc l ++ [.int .i64 t.1, .bool t.2] := by unfold slc; simp
theorem slc_len (l : List (Int × Bool)) : (slc l).length = l.length * 2 := by
  induction l with
  | nil => rfl
  | cons t l ih => unfold slc at *; rw [List.flatMap_cons, List.length_append, ih]; simp; omega
theorem slc_at {l : List (Int × Bool)} {i : Nat} {t : Int × Bool} (h : l[i]? = some t) : (slc l)[i * 2]? = some (.int .i64 t.1) ∧ (slc l)[i * 2 + 1]? = some (.bool t.2) := by
  induction l generalizing i with
  | nil => simp at h
  | cons x l ih =>
    have e : slc (x :: l) = .int .i64 x.1 :: .bool x.2 :: slc l := rfl
    rw [e]
    cases i with
    | zero => simp at h; subst h; exact ⟨rfl, rfl⟩
    | succ i =>
      rw [show (i + 1) * 2 = i * 2 + 1 + 1 by omega, show i * 2 + 1 + 1 + 1 = (i * 2 + 1) + 1 + 1 by omega]
      simp only [List.getElem?_cons_succ]
      exact ih (by simpa using h)
/-- Which one of some it is. -/
def idx {α : Type} (nm : α → Nm) (l : List α) (n : Nm) : Option Nat := l.findIdx? (fun x => nm x == n)
end Ck
/-- A scope lies at g, its own blocks from B on. -/
structure Sc (w : World) (B g tb fq fo : Nat) (e : Ck.Env) (la : Option Addr) (lc ub : Nat) (sa : Option Addr) (sc : Nat) (bs : List Nat) : Prop where
  blk : Blk w g 87 #[P tb, .slice la e.lv.length lc, .map (some ub), .slice sa e.slots.length sc, .int .i64 (e.loops : Int), .pointer (some ⟨fq, fo, none⟩)]
  hB : B ≤ g
  lv : w.ownsRow B 135 1 (.slice la e.lv.length lc) e.lv.length (bs.map fun b => Value.map (some b))
  sl : w.ownsRow B 33 2 (.slice sa e.slots.length sc) e.slots.length (Ck.slc e.slots)
  us : SMap boE (fun _ : Unit => .lit (.bool true)) w ub e.slots.length (Ck.usf e.used)
  len : bs.length = e.lv.length
  ge : B ≤ ub
  maps : ∀ i b, bs[i]? = some b → B ≤ b ∧ SMap plE Ck.locD w b e.slots.length (Ck.lfn (e.lv.getD i []))
  nd : (ub :: bs).Nodup
theorem Sc.same {w w' : World} {B g tb fq fo : Nat} {e : Ck.Env} {la : Option Addr} {lc ub : Nat} {sa : Option Addr} {sc : Nat} {bs : List Nat} (h : Sc w B g tb fq fo e la lc ub sa sc bs) (hs : ∀ k, B ≤ k → k < w.heap.size → w'.heap[k]? = w.heap[k]?) :
    Sc w' B g tb fq fo e la lc ub sa sc bs :=
  ⟨(hs g h.hB h.blk.lt).trans h.blk, h.hB, own_heapR h.lv fun b hb => hs b (own_lowR h.lv b hb).1 (own_lowR h.lv b hb).2, own_heapR h.sl fun b hb => hs b (own_lowR h.sl b hb).1 (own_lowR h.sl b hb).2,
    h.us.same (hs ub h.ge h.us.lt), h.len, h.ge, fun i b hb => ⟨(h.maps i b hb).1, (h.maps i b hb).2.same (hs b (h.maps i b hb).1 (h.maps i b hb).2.lt)⟩, h.nd⟩
theorem Sc.keep {w w' : World} {B g tb fq fo : Nat} {e : Ck.Env} {la : Option Addr} {lc ub : Nat} {sa : Option Addr} {sc : Nat} {bs : List Nat} (h : Sc w B g tb fq fo e la lc ub sa sc bs) (hb : Below w.heap.size w w') :
    Sc w' B g tb fq fo e la lc ub sa sc bs := h.same fun k _ hk => hb.block k hk
/-- .. whatever its rows. -/
def Scp (w : World) (B g tb fq fo : Nat) (e : Ck.Env) : Prop := ∃ la lc ub sa sc bs, Sc w B g tb fq fo e la lc ub sa sc bs
theorem Scp.keep {w w' : World} {B g tb fq fo : Nat} {e : Ck.Env} (h : Scp w B g tb fq fo e) (hb : Below w.heap.size w w') : Scp w' B g tb fq fo e := by
  obtain ⟨la, lc, ub, sa, sc, bs, h⟩ := h; exact ⟨la, lc, ub, sa, sc, bs, h.keep hb⟩
/-- What a right program's names stand for lies at tb, all of it below B. -/
structure Tb (w : World) (B tb : Nat) (P0 : Pg) (v0 v1 : Value) (gb fb : Nat) : Prop where
  blk : Blk w tb 71 #[v0, v1, .map (some gb), .map (some fb)]
  lt : tb < B ∧ gb < B ∧ fb < B
  le : B ≤ w.heap.size
  pg : PgIn w (· < B) P0 v0 v1
  gm : SMap inE (fun i : Nat => .lit (.int .i64 (i : Int))) w gb P0.gs.length (Ck.idx (fun g : Gl => g.nm.data.toList) P0.gs)
  fm : SMap inE (fun i : Nat => .lit (.int .i64 (i : Int))) w fb P0.fs.length (Ck.idx (fun f : Fn => f.nm.data.toList) P0.fs)
theorem Tb.below {w w' : World} {B tb gb fb : Nat} {P0 : Pg} {v0 v1 : Value} (h : Tb w B tb P0 v0 v1 gb fb) (hb : Below B w w') : Tb w' B tb P0 v0 v1 gb fb :=
  ⟨h.blk.below hb h.lt.1, h.lt, Nat.le_trans h.le hb.size, h.pg.move fun g hg _ => ⟨hg, hb.block g hg⟩, h.gm.same (hb.block gb h.lt.2.1), h.fm.same (hb.block fb h.lt.2.2)⟩
end Go.Proofs.Ythdckndjggljpaa

/- Expressions and statements that are pointed to, all of them below a bound. No condition. -/
namespace Go.Proofs.Ythdckndjggljpaa
open Go.RowKit
set_option linter.unusedVariables false
set_option linter.unusedSimpArgs false
set_option maxRecDepth 100000
/-- Cells lie there. -/
def Lie (w : World) (q off : Nat) (cs : List Value) : Prop := ∀ j u, cs[j]? = some u → w.cell? ⟨q, off + j, none⟩ = some u
theorem Lie.below {w w' : World} {q off B : Nat} {cs : List Value} (h : Lie w q off cs) (hq : q < B) (hb : Below B w w') : Lie w' q off cs := fun j u hu => by
  rw [Below.cell (p := ⟨q, off + j, none⟩) hb hq]; exact h j u hu
/-- An expression is pointed to. -/
def XPB (w : World) (B : Nat) (x : X) (q off : Nat) : Prop := q < B ∧ ∃ cs, XIn w (· < B) x cs ∧ Lie w q off cs
def SPB (w : World) (B : Nat) (x : S) (q off : Nat) : Prop := q < B ∧ ∃ cs, SIn w (· < B) x cs ∧ Lie w q off cs
theorem XIn.lowr {w w' : World} {B : Nat} {x : X} {cs : List Value} (h : XIn w (· < B) x cs) (hb : Below B w w') : XIn w' (· < B) x cs := h.move fun g hg _ => ⟨hg, hb.block g hg⟩
theorem SIn.lowr {w w' : World} {B : Nat} {x : S} {cs : List Value} (h : SIn w (· < B) x cs) (hb : Below B w w') : SIn w' (· < B) x cs := SIn.move (fun g hg _ => ⟨hg, hb.block g hg⟩) x cs h
theorem SsIn.lowr {w w' : World} {B : Nat} {l : List S} {v : Value} (h : SsIn w (· < B) l v) (hb : Below B w w') : SsIn w' (· < B) l v := h.move fun g hg _ => ⟨hg, hb.block g hg⟩
section
variable {w w' : World} {B q off : Nat}
theorem XPB.below {x : X} (h : XPB w B x q off) (hb : Below B w w') : XPB w' B x q off := by
  obtain ⟨h1, cs, h2, h3⟩ := h; exact ⟨h1, cs, h2.lowr hb, h3.below h1 hb⟩
theorem SPB.below {x : S} (h : SPB w B x q off) (hb : Below B w w') : SPB w' B x q off := by
  obtain ⟨h1, cs, h2, h3⟩ := h; exact ⟨h1, cs, h2.lowr hb, h3.below h1 hb⟩
/-- Its cells, and its kids. -/
structure XC (w : World) (B : Nat) (k n b : Int) (s : Bool) (nm : ByteArray) (ks : List X) (a : Option Addr) (L c q off : Nat) : Prop where
  lt : q < B
  len : ks.length = L
  le : L ≤ c
  lm : c ≤ maxLen
  c0 : w.cell? ⟨q, off, none⟩ = some (.int .i64 k)
  c1 : w.cell? ⟨q, off + 1, none⟩ = some (.int .u64 n)
  c2 : w.cell? ⟨q, off + 2, none⟩ = some (.int .i64 b)
  c3 : w.cell? ⟨q, off + 3, none⟩ = some (.bool s)
  c4 : w.cell? ⟨q, off + 4, none⟩ = some (.string nm)
  c5 : w.cell? ⟨q, off + 5, none⟩ = some (.slice a L c)
  kid : ∀ i y, ks[i]? = some y → ∃ gk ok, a = some ⟨gk, ok, none⟩ ∧ XPB w B y gk (ok + i * 6)
theorem XPB.parts {k n b : Int} {s : Bool} {nm : ByteArray} {ks : List X} (h : XPB w B (.mk k n b s nm ks) q off) : ∃ a c, XC w B k n b s nm ks a ks.length c q off := by
  obtain ⟨hq, cs, hx, hc⟩ := h
  cases hx with | mk k n b s nm ks a c cs' hc1 hm hk ha =>
  refine ⟨a, c, hq, rfl, hc1, hm, hc 0 _ rfl, hc 1 _ rfl, hc 2 _ rfl, hc 3 _ rfl, hc 4 _ rfl, hc 5 _ rfl, fun i y hy => ?_⟩
  have hi : i < ks.length := (List.getElem?_eq_some_iff.1 hy).1
  obtain ⟨gk, ok, hp, e, h2⟩ := ha (by omega)
  exact ⟨gk, ok, e, hp, cs' i, hk i y hy, fun j u hu => h2 i j u hi hu⟩
theorem XC.below {k n b : Int} {s : Bool} {nm : ByteArray} {ks : List X} {a : Option Addr} {L c : Nat} (h : XC w B k n b s nm ks a L c q off) (hb : Below B w w') : XC w' B k n b s nm ks a L c q off := by
  obtain ⟨h0, h1, h2, h3, c0, c1, c2, c3, c4, c5, h4⟩ := h
  refine ⟨h0, h1, h2, h3, ?_, ?_, ?_, ?_, ?_, ?_, fun i y hy => by obtain ⟨gk, ok, e, hx⟩ := h4 i y hy; exact ⟨gk, ok, e, hx.below hb⟩⟩ <;> (rw [Below.cell hb (by exact h0)]; assumption)
/-- The statements of a list, each pointed to. -/
def SsB (w : World) (B : Nat) (l : List S) (a : Option Addr) (c : Nat) : Prop := l.length ≤ c ∧ c ≤ maxLen ∧ ∀ i y, l[i]? = some y → ∃ gk ok, a = some ⟨gk, ok, none⟩ ∧ SPB w B y gk (ok + i * 21)
theorem SsB.below {l : List S} {a : Option Addr} {c : Nat} (h : SsB w B l a c) (hb : Below B w w') : SsB w' B l a c :=
  ⟨h.1, h.2.1, fun i y hy => by obtain ⟨gk, ok, e, hx⟩ := h.2.2 i y hy; exact ⟨gk, ok, e, hx.below hb⟩⟩
theorem SsIn.rows {l : List S} {v : Value} (h : SsIn w (· < B) l v) : ∃ a c, v = .slice a l.length c ∧ SsB w B l a c := by
  obtain ⟨a, c, e, h1, h2, h3⟩ := h.parts
  refine ⟨a, c, e, h1, h2, fun i y hy => ?_⟩
  obtain ⟨g, o, cs, hp, ea, hs, hc⟩ := h3 i y hy
  exact ⟨g, o, ea, hp, cs, hs, hc⟩
/-- A statement's cells, and what is within. -/
structure SC (w : World) (B : Nat) (k b : Int) (s : Bool) (nm : ByteArray) (has : Bool) (x i : X) (l0 l1 l2 l3 : List S) (a0 : Option Addr) (n0 z0 : Nat) (a1 : Option Addr) (n1 z1 : Nat) (a2 : Option Addr) (n2 z2 : Nat) (a3 : Option Addr) (n3 z3 : Nat) (q off : Nat) : Prop where
  lt : q < B
  c0 : w.cell? ⟨q, off, none⟩ = some (.int .i64 k)
  c1 : w.cell? ⟨q, off + 1, none⟩ = some (.int .i64 b)
  c2 : w.cell? ⟨q, off + 2, none⟩ = some (.bool s)
  c3 : w.cell? ⟨q, off + 3, none⟩ = some (.string nm)
  c4 : w.cell? ⟨q, off + 4, none⟩ = some (.bool has)
  x : XPB w B x q (off + 5)
  i : XPB w B i q (off + 11)
  v0 : w.cell? ⟨q, off + 17, none⟩ = some (.slice a0 n0 z0)
  v1 : w.cell? ⟨q, off + 18, none⟩ = some (.slice a1 n1 z1)
  v2 : w.cell? ⟨q, off + 19, none⟩ = some (.slice a2 n2 z2)
  v3 : w.cell? ⟨q, off + 20, none⟩ = some (.slice a3 n3 z3)
  s0 : l0.length = n0 ∧ SsB w B l0 a0 z0
  s1 : l1.length = n1 ∧ SsB w B l1 a1 z1
  s2 : l2.length = n2 ∧ SsB w B l2 a2 z2
  s3 : l3.length = n3 ∧ SsB w B l3 a3 z3
theorem SPB.parts {k b : Int} {s : Bool} {nm : ByteArray} {has : Bool} {x i : X} {l0 l1 l2 l3 : List S} (h : SPB w B (.mk k b s nm has x i l0 l1 l2 l3) q off) :
    ∃ a0 z0 a1 z1 a2 z2 a3 z3, SC w B k b s nm has x i l0 l1 l2 l3 a0 l0.length z0 a1 l1.length z1 a2 l2.length z2 a3 l3.length z3 q off := by
  obtain ⟨hq, cs, hx, hc⟩ := h
  cases hx with | mk k b s nm has x i l0 l1 l2 l3 xs is v0 v1 v2 v3 hx hi h0 h1 h2 h3 =>
  obtain ⟨a0, z0, rfl, r0⟩ := h0.rows
  obtain ⟨a1, z1, rfl, r1⟩ := h1.rows
  obtain ⟨a2, z2, rfl, r2⟩ := h2.rows
  obtain ⟨a3, z3, rfl, r3⟩ := h3.rows
  have e6 := hx.six
  have f6 := hi.six
  obtain ⟨x0, x1, x2, x3, x4, x5, rfl⟩ : ∃ x0 x1 x2 x3 x4 x5, xs = [x0, x1, x2, x3, x4, x5] := by
    match xs, e6 with
    | [x0, x1, x2, x3, x4, x5], _ => exact ⟨x0, x1, x2, x3, x4, x5, rfl⟩
  obtain ⟨y0, y1, y2, y3, y4, y5, rfl⟩ : ∃ x0 x1 x2 x3 x4 x5, is = [x0, x1, x2, x3, x4, x5] := by
    match is, f6 with
    | [x0, x1, x2, x3, x4, x5], _ => exact ⟨x0, x1, x2, x3, x4, x5, rfl⟩
  have lx : Lie w q (off + 5) [x0, x1, x2, x3, x4, x5] := fun j u hu => by
    have hj : j < 6 := (List.getElem?_eq_some_iff.1 hu).1
    have := hc (5 + j) u (by
      rw [← hu]
      rcases (show j = 0 ∨ j = 1 ∨ j = 2 ∨ j = 3 ∨ j = 4 ∨ j = 5 by omega) with rfl | rfl | rfl | rfl | rfl | rfl <;> rfl)
    rw [← Nat.add_assoc] at this; exact this
  have li : Lie w q (off + 11) [y0, y1, y2, y3, y4, y5] := fun j u hu => by
    have hj : j < 6 := (List.getElem?_eq_some_iff.1 hu).1
    have := hc (11 + j) u (by
      rw [← hu]
      rcases (show j = 0 ∨ j = 1 ∨ j = 2 ∨ j = 3 ∨ j = 4 ∨ j = 5 by omega) with rfl | rfl | rfl | rfl | rfl | rfl <;> rfl)
    rw [← Nat.add_assoc] at this; exact this
  exact ⟨a0, z0, a1, z1, a2, z2, a3, z3, hq, hc 0 _ rfl, hc 1 _ rfl, hc 2 _ rfl, hc 3 _ rfl, hc 4 _ rfl, ⟨hq, _, hx, lx⟩, ⟨hq, _, hi, li⟩, hc 17 _ rfl, hc 18 _ rfl, hc 19 _ rfl, hc 20 _ rfl, ⟨rfl, r0⟩, ⟨rfl, r1⟩, ⟨rfl, r2⟩, ⟨rfl, r3⟩⟩
theorem SC.below {k b : Int} {s : Bool} {nm : ByteArray} {has : Bool} {x i : X} {l0 l1 l2 l3 : List S} {a0 a1 a2 a3 : Option Addr} {n0 z0 n1 z1 n2 z2 n3 z3 : Nat} (h : SC w B k b s nm has x i l0 l1 l2 l3 a0 n0 z0 a1 n1 z1 a2 n2 z2 a3 n3 z3 q off) (hb : Below B w w') :
    SC w' B k b s nm has x i l0 l1 l2 l3 a0 n0 z0 a1 n1 z1 a2 n2 z2 a3 n3 z3 q off := by
  obtain ⟨hq, c0, c1, c2, c3, c4, hx, hi, v0, v1, v2, v3, s0, s1, s2, s3⟩ := h
  refine ⟨hq, ?_, ?_, ?_, ?_, ?_, hx.below hb, hi.below hb, ?_, ?_, ?_, ?_, ⟨s0.1, s0.2.below hb⟩, ⟨s1.1, s1.2.below hb⟩, ⟨s2.1, s2.2.below hb⟩, ⟨s3.1, s3.2.below hb⟩⟩ <;> (rw [Below.cell hb (by exact hq)]; assumption)
end
end Go.Proofs.Ythdckndjggljpaa
