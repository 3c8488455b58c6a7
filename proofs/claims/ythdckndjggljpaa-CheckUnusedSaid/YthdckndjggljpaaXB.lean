/- Expressions: how one lies in memory. No condition. -/
import Derived.Test.YthdckndjggljpaaB0
import Derived.Test.YthdckndjggljpaaK8
import Derived.Test.YthdckndjggljpaaM2p
import Derived.Lib.SmallJoins
namespace Go.Proofs.Ythdckndjggljpaa
open Go.RowKit
set_option linter.unusedVariables false
set_option linter.unusedSimpArgs false
set_option maxRecDepth 100000
/-- An expression: kind, number, type, name, kids. -/
inductive X where
  | mk (k : Int) (n : Int) (b : Int) (s : Bool) (nm : ByteArray) (ks : List X)
namespace X
def kind : X → Int | mk k _ _ _ _ _ => k
def num : X → Int | mk _ n _ _ _ _ => n
def bits : X → Int | mk _ _ b _ _ _ => b
def sg : X → Bool | mk _ _ _ s _ _ => s
def name : X → ByteArray | mk _ _ _ _ nm _ => nm
def kids : X → List X | mk _ _ _ _ _ ks => ks
theorem kid_lt {x y : X} (h : y ∈ x.kids) : SizeOf.sizeOf y < SizeOf.sizeOf x := by
  obtain ⟨k, n, b, s, nm, ks⟩ := x
  have := List.sizeOf_lt_of_mem (show y ∈ ks from h)
  simp only [mk.sizeOf_spec]
  omega
/-- Along the tree. -/
theorem up {M : X → Prop} (h : ∀ x, (∀ y ∈ x.kids, M y) → M x) (x : X) : M x := by
  have : ∀ n, ∀ x : X, SizeOf.sizeOf x < n → M x := by
    intro n
    induction n with
    | zero => intro x hx; omega
    | succ n ih => intro x hx; exact h x (fun y hy => ih y (by have := kid_lt hy; omega))
  exact this _ x (Nat.lt_succ_self _)
end X
/-- The cells of an expression whose kids lie at a slice. -/
abbrev X.cells (k n b : Int) (s : Bool) (nm : ByteArray) (v : Value) : List Value := [.int .i64 k, .int .u64 n, .int .i64 b, .bool s, .string nm, v]
/-- An expression lies in these cells, and its kids in memory. -/
inductive XAt (w : World) : X → List Value → Prop
  | mk (k n b : Int) (s : Bool) (nm : ByteArray) (ks : List X) (a : Option Addr) (c : Nat) (cs : Nat → List Value) (hc : ks.length ≤ c) (hm : c ≤ maxLen) (hk : ∀ i x, ks[i]? = some x → XAt w x (cs i))
      (ha : 0 < ks.length → ∃ b off, a = some ⟨b, off, none⟩ ∧ ∀ i j u, i < ks.length → (cs i)[j]? = some u → w.cell? ⟨b, off + i * 6 + j, none⟩ = some u) :
      XAt w (.mk k n b s nm ks) (X.cells k n b s nm (.slice a ks.length c))
/-- Numbers are in their ranges. -/
inductive X.Wf : X → Prop
  | mk (k n b : Int) (s : Bool) (nm : ByteArray) (ks : List X) (hk : W.I k) (hn : W.U n) (hb : W.I b) (hs : nm.size ≤ maxLen) (h : ∀ x ∈ ks, X.Wf x) : X.Wf (.mk k n b s nm ks)
theorem XAt.keep {w w' : World} {x : X} {cs : List Value} (h : XAt w x cs) (hb : Below w.heap.size w w') : XAt w' x cs := by
  induction h with
  | mk k n b s nm ks a c cs hc hm hk ha ih =>
    refine .mk k n b s nm ks a c cs hc hm ih (fun h0 => ?_)
    obtain ⟨g, off, e, hcell⟩ := ha h0
    refine ⟨g, off, e, fun i j u hi hu => ?_⟩
    have := hcell i j u hi hu
    rw [Below.cell (p := ⟨g, off + i * 6 + j, none⟩) hb (World.block_lt_of_cell? _ _ this)]
    exact this
/-- The parts of it. -/
theorem XAt.open {w : World} {x : X} {cs : List Value} (h : XAt w x cs) : ∃ a c, cs = X.cells x.kind x.num x.bits x.sg x.name (.slice a x.kids.length c) ∧ x.kids.length ≤ c ∧ c ≤ maxLen ∧
    ∀ i y, x.kids[i]? = some y → ∃ g off ys, a = some ⟨g, off, none⟩ ∧ XAt w y ys ∧ ∀ j u, ys[j]? = some u → w.cell? ⟨g, off + i * 6 + j, none⟩ = some u := by
  cases h with
  | mk k n b s nm ks a c cs hc hm hk ha =>
    refine ⟨a, c, rfl, hc, hm, fun i y hy => ?_⟩
    have hi : i < ks.length := (List.getElem?_eq_some_iff.1 hy).1
    obtain ⟨g, off, e, hcell⟩ := ha (by omega)
    exact ⟨g, off, cs i, e, hk i y hy, fun j u hu => hcell i j u hi hu⟩
theorem XAt.six {w : World} {x : X} {cs : List Value} (h : XAt w x cs) : cs.length = 6 := by cases h; rfl
end Go.Proofs.Ythdckndjggljpaa
/- Expressions, plain: what is wrong with one's shape, and how many nodes were counted. No condition. -/
namespace Go.Proofs.Ythdckndjggljpaa
open Go.RowKit
set_option linter.unusedVariables false
set_option linter.unusedSimpArgs false
set_option maxRecDepth 100000
namespace X
/-- How many kids a kind has. -/
def kidsOf (k : Int) : Int := if k < 1 ∨ 26 < k then -2 else if k ≤ 2 then 0 else if k = 4 then -1 else if k ≤ 8 then 1 else 2
/-- What is wrong with a node itself. -/
def own (k n b : Int) (s : Bool) (nm : List UInt8) (c : Nat) : Int :=
  if k < 1 ∨ 26 < k then 1
  else if k = 1 ∧ ¬ W.lit n (!s) = (b, s, 0) then 9
  else if (k = 2 ∨ k = 3 ∨ k = 4) ∧ Tk.nmd nm = false then 7
  else if k = 5 ∧ W.okB b = false then 9
  else if (kidsOf k = -1 ∧ 8 < c) ∨ (0 ≤ kidsOf k ∧ kidsOf k ≠ (c : Int)) then 5
  else 0
mutual
/-- What is wrong, and the nodes counted so far. -/
def cnt : X → Nat → Int → Int × Nat
  | .mk k n b s nm ks, N, d => if 20000 ≤ N ∨ 100 < d then (4, N + 1) else if own k n b s nm.data.toList ks.length = 0 then cnts ks (N + 1) (d + 1) else (own k n b s nm.data.toList ks.length, N + 1)
def cnts : List X → Nat → Int → Int × Nat
  | [], N, _ => (0, N)
  | x :: xs, N, d => if (cnt x N d).1 = 0 then cnts xs (cnt x N d).2 d else cnt x N d
end
theorem cnt_eq (x : X) (N : Nat) (d : Int) : cnt x N d = if 20000 ≤ N ∨ 100 < d then (4, N + 1) else if own x.kind x.num x.bits x.sg x.name.data.toList x.kids.length = 0 then cnts x.kids (N + 1) (d + 1) else (own x.kind x.num x.bits x.sg x.name.data.toList x.kids.length, N + 1) := by
  cases x; rw [cnt]; rfl
/-- Its shape is right. -/
inductive Shp : X → Prop
  | mk (k n b : Int) (s : Bool) (nm : ByteArray) (ks : List X) (h : own k n b s nm.data.toList ks.length = 0) (hk : ∀ x ∈ ks, Shp x) : Shp (.mk k n b s nm ks)
theorem Shp.own {x : X} (h : Shp x) : X.own x.kind x.num x.bits x.sg x.name.data.toList x.kids.length = 0 := by cases h; assumption
theorem Shp.kid {x y : X} (h : Shp x) (hy : y ∈ x.kids) : Shp y := by cases h with | mk _ _ _ _ _ _ _ hk => exact hk y hy
theorem shp_of {x : X} (h : X.own x.kind x.num x.bits x.sg x.name.data.toList x.kids.length = 0) (hk : ∀ y ∈ x.kids, Shp y) : Shp x := by cases x; exact .mk _ _ _ _ _ _ h hk
/-- So many at most. -/
theorem cnts_all {xs : List X} (ih : ∀ y ∈ xs, ∀ N d, (cnt y N d).1 = 0 → Shp y) : ∀ N d, (cnts xs N d).1 = 0 → ∀ y ∈ xs, Shp y := by
  induction xs with
  | nil => intro _ _ _ y hy; simp at hy
  | cons x xs ih2 =>
    intro N d h y hy
    rw [cnts] at h
    split at h
    · rename_i h1
      rcases List.mem_cons.1 hy with rfl | hy
      · exact ih _ (List.mem_cons_self ..) N d h1
      · exact ih2 (fun z hz => ih z (List.mem_cons_of_mem _ hz)) _ _ h y hy
    · rename_i h1; exact absurd h h1
theorem cnt_shp (x : X) : ∀ N d, (cnt x N d).1 = 0 → Shp x := by
  induction x using X.up with
  | _ x ih =>
    intro N d h
    rw [cnt_eq] at h
    split at h
    · simp at h
    · split at h
      · rename_i h1; exact shp_of h1 (cnts_all ih _ _ h)
      · rename_i h1; exact absurd h h1
theorem cnts_snoc (xs : List X) (y : X) : ∀ (N : Nat) (d : Int), (cnts xs N d).1 = 0 → cnts (xs ++ [y]) N d = cnt y (cnts xs N d).2 d := by
  induction xs with
  | nil => intro N d h; rw [List.nil_append, cnts, cnts, cnts]; split
           · rename_i h1; rw [Prod.ext_iff]; exact ⟨h1.symm, rfl⟩
           · rfl
  | cons x xs ih =>
    intro N d h
    rw [List.cons_append, cnts]
    rw [cnts] at h
    split at h
    · rename_i h1; rw [if_pos h1, ih _ _ h, cnts, if_pos h1]
    · rename_i h1; exact absurd h h1
/-- Once something is wrong, the rest is not looked at. -/
theorem cnts_stop (xs zs : List X) : ∀ (N : Nat) (d : Int), (cnts xs N d).1 ≠ 0 → cnts (xs ++ zs) N d = cnts xs N d := by
  induction xs with
  | nil => intro N d h; exact absurd rfl h
  | cons x xs ih =>
    intro N d h
    rw [cnts] at h
    rw [List.cons_append, cnts, cnts]
    split at h
    · rename_i h1; rw [if_pos h1, if_pos h1]; exact ih _ _ h
    · rename_i h1; rw [if_neg h1, if_neg h1]
theorem Wf.num {x : X} (h : Wf x) : W.U x.num := by cases h; assumption
theorem Wf.kid {x y : X} (h : Wf x) (hy : y ∈ x.kids) : Wf y := by cases h with | mk _ _ _ _ _ _ _ _ _ _ h => exact h y hy
theorem Wf.knd {x : X} (h : Wf x) : W.I x.kind := by cases h; assumption
theorem Wf.bts {x : X} (h : Wf x) : W.I x.bits := by cases h; assumption
theorem Wf.nms {x : X} (h : Wf x) : x.name.size ≤ maxLen := by cases h; assumption
end X
namespace X
theorem cnt_small (x : X) : ∀ N d, N ≤ 20000 → (cnt x N d).1 = 0 → (cnt x N d).2 ≤ 20000 := by
  have all : ∀ xs : List X, (∀ y ∈ xs, ∀ N d, N ≤ 20000 → (cnt y N d).1 = 0 → (cnt y N d).2 ≤ 20000) → ∀ N d, N ≤ 20000 → (cnts xs N d).1 = 0 → (cnts xs N d).2 ≤ 20000 := by
    intro xs
    induction xs with
    | nil => intro _ N d hN _; exact hN
    | cons x xs ih =>
      intro hx N d hN h
      rw [cnts] at h ⊢
      split at h
      · rename_i h1; rw [if_pos h1]; exact ih (fun z hz => hx z (List.mem_cons_of_mem _ hz)) _ _ (hx x (List.mem_cons_self ..) N d hN h1) h
      · rename_i h1; exact absurd h h1
  induction x using X.up with
  | _ x ih =>
    intro N d hN h
    rw [cnt_eq] at h ⊢
    split at h
    · simp at h
    · rename_i h0
      rw [if_neg h0]
      split at h
      · rename_i h1; rw [if_pos h1]; exact all _ ih _ _ (by omega) h
      · rename_i h1; exact absurd h h1
theorem cnts_take {x : X} {i : Nat} {y : X} (hy : x.kids[i]? = some y) (N : Nat) (d : Int) (h : (cnts (x.kids.take i) N d).1 = 0) : cnts (x.kids.take (i + 1)) N d = cnt y (cnts (x.kids.take i) N d).2 d := by
  rw [List.take_add_one, hy]; exact cnts_snoc _ _ _ _ h
theorem cnts_bad {x : X} {i : Nat} {y : X} (hy : x.kids[i]? = some y) (N : Nat) (d : Int) (h : (cnts (x.kids.take i) N d).1 = 0) (hb : (cnt y (cnts (x.kids.take i) N d).2 d).1 ≠ 0) : cnts x.kids N d = cnt y (cnts (x.kids.take i) N d).2 d := by
  rw [← cnts_take hy N d h] at hb ⊢
  have := cnts_stop (x.kids.take (i + 1)) (x.kids.drop (i + 1)) N d hb
  rw [List.take_append_drop] at this
  exact this
theorem cnts_small {xs : List X} : ∀ N d, N ≤ 20000 → (cnts xs N d).1 = 0 → (cnts xs N d).2 ≤ 20000 := by
  induction xs with
  | nil => intro N d hN _; exact hN
  | cons x xs ih =>
    intro N d hN h
    rw [cnts] at h ⊢
    split at h
    · rename_i h1; rw [if_pos h1]; exact ih _ _ (cnt_small x N d hN h1) h
    · rename_i h1; exact absurd h h1
end X
namespace X
theorem own_bad {k n b : Int} {s : Bool} {nm : List UInt8} {c : Nat} (h : k < 1 ∨ 26 < k) : own k n b s nm c = 1 := by unfold own; rw [if_pos h]
theorem own_lit {n b : Int} {s : Bool} {nm : List UInt8} {c : Nat} (h : ¬ W.lit n (!s) = (b, s, 0)) : own 1 n b s nm c = 9 := by unfold own; rw [if_neg (by omega), if_pos ⟨rfl, h⟩]
theorem own_nm {k n b : Int} {s : Bool} {nm : List UInt8} {c : Nat} (hk : k = 2 ∨ k = 3 ∨ k = 4) (h : Tk.nmd nm = false) : own k n b s nm c = 7 := by unfold own; rw [if_neg (by omega), if_neg (by omega), if_pos ⟨hk, h⟩]
theorem own_cast {n b : Int} {s : Bool} {nm : List UInt8} {c : Nat} (h : W.okB b = false) : own 5 n b s nm c = 9 := by unfold own; rw [if_neg (by omega), if_neg (by omega), if_neg (by omega), if_pos ⟨rfl, h⟩]
/-- Nothing but the kids' number can be wrong. -/
def Thru (k n b : Int) (s : Bool) (nm : List UInt8) : Prop := (1 ≤ k ∧ k ≤ 26) ∧ (k = 1 → W.lit n (!s) = (b, s, 0)) ∧ (k = 2 ∨ k = 3 ∨ k = 4 → Tk.nmd nm = true) ∧ (k = 5 → W.okB b = true)
theorem own_thru {k n b : Int} {s : Bool} {nm : List UInt8} {c : Nat} (h : Thru k n b s nm) : own k n b s nm c = if (kidsOf k = -1 ∧ 8 < c) ∨ (0 ≤ kidsOf k ∧ kidsOf k ≠ (c : Int)) then 5 else 0 := by
  obtain ⟨h1, h2, h3, h4⟩ := h
  unfold own
  rw [if_neg (by omega), if_neg (fun h => h.2 (h2 h.1)), if_neg (fun h => by rw [h3 h.1] at h; exact absurd h.2 (by decide)), if_neg (fun h => by rw [h4 h.1] at h; exact absurd h.2 (by decide))]
end X
namespace X
theorem cnt_thru {k n b : Int} {s : Bool} {nm : ByteArray} {ks : List X} {N : Nat} {d : Int} (hm : ¬ (20000 ≤ N ∨ 100 < d)) (h : Thru k n b s nm.data.toList) :
    cnt (.mk k n b s nm ks) N d = if (kidsOf k = -1 ∧ 8 < ks.length) ∨ (0 ≤ kidsOf k ∧ kidsOf k ≠ (ks.length : Int)) then (5, N + 1) else cnts ks (N + 1) (d + 1) := by
  rw [cnt_eq, if_neg hm]
  show (if own k n b s nm.data.toList ks.length = 0 then cnts ks (N + 1) (d + 1) else (own k n b s nm.data.toList ks.length, N + 1)) = _
  rw [own_thru h]
  split
  · rename_i h1; rw [if_neg (by decide)]
  · rfl
end X
end Go.Proofs.Ythdckndjggljpaa

/- Where an expression lies, in blocks of a kind. No condition. -/
namespace Go.Proofs.Ythdckndjggljpaa
open Go.RowKit
set_option linter.unusedVariables false
set_option linter.unusedSimpArgs false
set_option maxRecDepth 100000
/-- An expression lies in these cells, its kids in blocks of this kind. -/
inductive XIn (w : World) (p : Nat → Prop) : X → List Value → Prop
  | mk (k n b : Int) (s : Bool) (nm : ByteArray) (ks : List X) (a : Option Addr) (c : Nat) (cs : Nat → List Value) (hc : ks.length ≤ c) (hm : c ≤ maxLen) (hk : ∀ i x, ks[i]? = some x → XIn w p x (cs i))
      (ha : 0 < ks.length → ∃ b off, p b ∧ a = some ⟨b, off, none⟩ ∧ ∀ i j u, i < ks.length → (cs i)[j]? = some u → w.cell? ⟨b, off + i * 6 + j, none⟩ = some u) :
      XIn w p (.mk k n b s nm ks) (X.cells k n b s nm (.slice a ks.length c))
theorem XIn.at {w : World} {p : Nat → Prop} {x : X} {cs : List Value} (h : XIn w p x cs) : XAt w x cs := by
  induction h with
  | mk k n b s nm ks a c cs hc hm hk ha ih =>
    exact .mk k n b s nm ks a c cs hc hm ih (fun h0 => by obtain ⟨g, off, _, e, h⟩ := ha h0; exact ⟨g, off, e, h⟩)
theorem XAt.xin {w : World} {x : X} {cs : List Value} (h : XAt w x cs) : XIn w (fun _ => True) x cs := by
  induction h with
  | mk k n b s nm ks a c cs hc hm hk ha ih =>
    exact .mk k n b s nm ks a c cs hc hm ih (fun h0 => by obtain ⟨g, off, e, h⟩ := ha h0; exact ⟨g, off, trivial, e, h⟩)
theorem XIn.six {w : World} {p : Nat → Prop} {x : X} {cs : List Value} (h : XIn w p x cs) : cs.length = 6 := by cases h; rfl
/-- Where those blocks are as they were it lies there still. -/
theorem XIn.move {w w' : World} {p q : Nat → Prop} {x : X} {cs : List Value} (h : XIn w p x cs) (hf : ∀ g, p g → g < w.heap.size → q g ∧ w'.heap[g]? = w.heap[g]?) : XIn w' q x cs := by
  induction h with
  | mk k n b s nm ks a c cs hc hm hk ha ih =>
    refine .mk k n b s nm ks a c cs hc hm ih (fun h0 => ?_)
    obtain ⟨g, off, hp, e, hcell⟩ := ha h0
    have hx := hk 0 ks[0] (List.getElem?_eq_getElem h0)
    have hl := hx.six
    have h00 : (cs 0)[0]? = some (cs 0)[0] := List.getElem?_eq_getElem (by omega)
    have hlt : g < w.heap.size := World.block_lt_of_cell? _ _ (hcell 0 0 _ h0 h00)
    obtain ⟨hq, hh⟩ := hf g hp hlt
    refine ⟨g, off, hq, e, fun i j u hi hu => ?_⟩
    rw [World.cell?_of_block (w := w) hh]
    exact hcell i j u hi hu
theorem XIn.keep {w w' : World} {p : Nat → Prop} {x : X} {cs : List Value} (h : XIn w p x cs) (hb : Below w.heap.size w w') : XIn w' p x cs := h.move fun g hp hg => ⟨hp, hb.block g hg⟩
end Go.Proofs.Ythdckndjggljpaa

/- Where an expression lies, and one block changed. No condition. -/
namespace Go.Proofs.Ythdckndjggljpaa
open Go.RowKit
set_option linter.unusedVariables false
set_option linter.unusedSimpArgs false
set_option maxRecDepth 100000
/-- Where an expression's rows are untouched it lies as it did. -/
theorem XAt.frame {w w' : World} {x : X} {cs : List Value} (h : XAt w x cs) (hf : ∀ b o v, w.cell? ⟨b, o + 5, none⟩ = some v → w'.heap[b]? = w.heap[b]?) : XAt w' x cs := by
  induction h with
  | mk k n b s nm ks a c cs hc hm hk ha ih =>
    refine .mk k n b s nm ks a c cs hc hm ih (fun h0 => ?_)
    obtain ⟨g, off, e, hcell⟩ := ha h0
    refine ⟨g, off, e, fun i j u hi hu => ?_⟩
    have hx := hk i ks[i] (List.getElem?_eq_getElem hi)
    obtain ⟨a2, c2, e2, _⟩ := hx.open
    have h5 := hcell i 5 (.slice a2 (ks[i]).kids.length c2) hi (by rw [e2]; rfl)
    have := hcell i j u hi hu
    rw [World.cell?_of_block (w := w) (hf g (off + i * 6) _ h5)]
    exact this
/-- A block of one cell moves nothing of it. -/
theorem XAt.chg1 {w w' : World} {x : X} {cs : List Value} {g : Nat} {t : TypeId} {v : Value} (h : XAt w x cs) (hg : Blk w g t #[v]) (hc : Chg g w w') : XAt w' x cs :=
  h.frame fun b o u hu => by
    refine hc.block b (World.block_lt_of_cell? _ _ hu) ?_
    rintro ⟨rfl⟩
    rw [hg.cell] at hu
    simp at hu
end Go.Proofs.Ythdckndjggljpaa

/- Opening a law's argument that is an expression. No condition. -/
namespace Go.Proofs.Ythdckndjggljpaa
open Go.ChangeShapes Go.WideShapes Go.ChangeAt Go.RowKit
set_option linter.unusedVariables false
set_option linter.unusedSimpArgs false
set_option maxRecDepth 100000
theorem X.array6 {α : Type} {cs : List α} (h : cs.length = 6) : ∃ c0 c1 c2 c3 c4 c5, cs = [c0, c1, c2, c3, c4, c5] := by
  match cs, h with
  | [c0, c1, c2, c3, c4, c5], _ => exact ⟨c0, c1, c2, c3, c4, c5, rfl⟩
theorem X.op_at {α : Type} {o : Option α} {xs : List α} {i : Nat} (h : o = xs[i]?) (hi : i < xs.length) : ∃ y, o = some y := ⟨_, h.trans (List.getElem?_eq_getElem hi)⟩
theorem X.add_addr (b off j : Nat) : (⟨b, off, none⟩ : Addr).add j = ⟨b, off + j, none⟩ := by rcases j with _ | j <;> simp [Addr.add]
section
variable {H : Type} {enc : TypeId × Value → H} {ww : World}
theorem op_type2 {m : Nat} {c0 c1 : Value} {x : DataW H × List MemPlace} (h : DataW.trod enc Try.prog ww 0 (fun _ => true) true m 33 [c0, c1] = some x) :
    ∃ (b : Int) (s : Bool), c0 = .int .i64 b ∧ c1 = .bool s ∧ (Lit.int .i64 b).wf = true := by
  obtain ⟨xs, n, _, _, _, hn, hf⟩ := DataW.trod_struct Try.underlying33 h
  have hn' : xs.length = 2 := hn
  have k0 : Try.prog.cellsOf 3 = 1 := by kernel_rfl
  have k1 : Try.prog.cellsOf 4 = 1 := by kernel_rfl
  obtain ⟨_, h0⟩ := X.op_at (show DataW.trod enc Try.prog ww 0 (fun _ => true) true n 3 (List.take (Try.prog.cellsOf 3) (List.drop 0 [c0, c1])) = xs[0]? from hf 0 _ rfl) (by omega)
  obtain ⟨_, h1⟩ := X.op_at (show DataW.trod enc Try.prog ww 0 (fun _ => true) true n 4 (List.take (Try.prog.cellsOf 4) (List.drop 1 [c0, c1])) = xs[1]? from hf 1 _ rfl) (by omega)
  rw [k0] at h0; rw [k1] at h1
  obtain ⟨b, e0, _, wb⟩ := DataW.trod_int Try.underlying3 h0
  obtain ⟨s, e1, _⟩ := DataW.trod_bool Try.underlying4 h1
  simp at e0 e1
  exact ⟨b, s, e0, e1, wb⟩
theorem op_expr_cells : ∀ (n : Nat) (cs : List Value) (x : DataW H × List MemPlace), DataW.trod enc Try.prog ww 0 (fun _ => true) true n 62 cs = some x → ∃ e : X, XAt ww e cs ∧ X.Wf e := by
  intro n
  induction n using Nat.strongRecOn with
  | _ n ih =>
    intro cs x h
    obtain ⟨xs, m, hm, _, hl, hn, hf⟩ := DataW.trod_struct Try.underlying62 h
    have h6 : Try.prog.cellsOf 62 = 6 := by kernel_rfl
    rw [h6] at hl
    obtain ⟨c0, c1, c2, c3, c4, c5, rfl⟩ := X.array6 hl
    have hn' : xs.length = 5 := hn
    have k0 : Try.prog.cellsOf 3 = 1 := by kernel_rfl
    have k1 : Try.prog.cellsOf 60 = 1 := by kernel_rfl
    have k2 : Try.prog.cellsOf 33 = 2 := by kernel_rfl
    have k3 : Try.prog.cellsOf 9 = 1 := by kernel_rfl
    have k4 : Try.prog.cellsOf 34 = 1 := by kernel_rfl
    obtain ⟨_, h0⟩ := X.op_at (show DataW.trod enc Try.prog ww 0 (fun _ => true) true m 3 (List.take (Try.prog.cellsOf 3) (List.drop 0 [c0, c1, c2, c3, c4, c5])) = xs[0]? from hf 0 _ rfl) (by omega)
    obtain ⟨_, h1⟩ := X.op_at (show DataW.trod enc Try.prog ww 0 (fun _ => true) true m 60 (List.take (Try.prog.cellsOf 60) (List.drop 1 [c0, c1, c2, c3, c4, c5])) = xs[1]? from hf 1 _ rfl) (by omega)
    obtain ⟨_, h2⟩ := X.op_at (show DataW.trod enc Try.prog ww 0 (fun _ => true) true m 33 (List.take (Try.prog.cellsOf 33) (List.drop 2 [c0, c1, c2, c3, c4, c5])) = xs[2]? from hf 2 _ rfl) (by omega)
    obtain ⟨_, h3⟩ := X.op_at (show DataW.trod enc Try.prog ww 0 (fun _ => true) true m 9 (List.take (Try.prog.cellsOf 9) (List.drop 4 [c0, c1, c2, c3, c4, c5])) = xs[3]? from hf 3 _ rfl) (by omega)
    obtain ⟨_, h4⟩ := X.op_at (show DataW.trod enc Try.prog ww 0 (fun _ => true) true m 34 (List.take (Try.prog.cellsOf 34) (List.drop 5 [c0, c1, c2, c3, c4, c5])) = xs[4]? from hf 4 _ rfl) (by omega)
    rw [k0] at h0; rw [k1] at h1; rw [k2] at h2; rw [k3] at h3; rw [k4] at h4
    obtain ⟨k, e0, _, wk⟩ := DataW.trod_int Try.underlying3 h0
    obtain ⟨nn, e1, _, wn⟩ := DataW.trod_int Try.underlying60 h1
    obtain ⟨b, s, e2, e3, wb⟩ := op_type2 h2
    obtain ⟨nm, e4, _, ws⟩ := DataW.trod_string Try.underlying9 h3
    simp at e0 e1 e4
    subst e0 e1 e2 e3 e4
    rcases DataW.trod_slice Try.underlying34 h4 with ⟨e5, _⟩ | ⟨a, len, cap, elems, rest, m2, hm2, e5, _, _, hlc, hcm, hel, hks, _, _⟩
    · simp at e5; subst e5
      exact ⟨.mk k nn b s nm [], .mk k nn b s nm [] none 0 (fun _ => []) (Nat.le_refl _) (Nat.zero_le _) (fun i x hx => by simp at hx) (fun h0 => absurd h0 (Nat.lt_irrefl _)), .mk _ _ _ _ _ _ (W.I_wf wk) (W.U_wf wn) (W.I_wf wb) ws (fun x hx => by simp at hx)⟩
    · simp at e5; subst e5
      rw [h6] at hks
      have each : ∀ i, i < len → ∃ (y : X) (ys : List Value), XAt ww y ys ∧ X.Wf y ∧ ww.cells? 0 (a.add (i * 6)) 6 = some ys := fun i hi => by
        obtain ⟨z, hz⟩ := X.op_at (hks i hi) (by omega)
        obtain ⟨ys, hys, hz2⟩ := Option.bind_eq_some_iff.1 hz
        obtain ⟨y, hy, hw⟩ := ih m2 (by omega) ys z hz2
        exact ⟨y, ys, hy, hw, hys⟩
      have each2 : ∃ (Y : Nat → X) (C : Nat → List Value), ∀ i, i < len → XAt ww (Y i) (C i) ∧ X.Wf (Y i) ∧ ww.cells? 0 (a.add (i * 6)) 6 = some (C i) := by
        refine ⟨fun i => if h : i < len then (each i h).choose else .mk 0 0 0 false nm [], fun i => if h : i < len then (each i h).choose_spec.choose else [], fun i hi => ?_⟩
        simp only [dif_pos hi]
        exact (each i hi).choose_spec.choose_spec
      obtain ⟨Y, C, hYC⟩ := each2
      have hgi : ∀ i x, ((List.range len).map Y)[i]? = some x → i < len ∧ x = Y i := fun i x hx => by
        rw [List.getElem?_map] at hx
        rcases Nat.lt_or_ge i len with h | h
        · rw [List.getElem?_eq_getElem (by simpa using h)] at hx
          simp at hx; exact ⟨h, hx.symm⟩
        · rw [List.getElem?_eq_none (by simpa using h)] at hx; simp at hx
      have hlen : ((List.range len).map Y).length = len := by simp
      refine ⟨.mk k nn b s nm ((List.range len).map Y), ?_, .mk _ _ _ _ _ _ (W.I_wf wk) (W.U_wf wn) (W.I_wf wb) ws (fun x hx => ?_)⟩
      · have hx := XAt.mk (w := ww) k nn b s nm ((List.range len).map Y) (some a) cap C (by rw [hlen]; exact hlc) hcm (fun i x hx => by obtain ⟨h1, rfl⟩ := hgi i x hx; exact (hYC i h1).1) (fun hz0 => by
          rw [hlen] at hz0
          obtain ⟨ab, off, spot⟩ := a
          have hc0 := (World.cells?_some (hYC 0 hz0).2.2).2.2 0 (by omega)
          have h00 : (C 0)[0]? = some (C 0)[0]! := by
            have := (hYC 0 hz0).1.six
            rw [List.getElem?_eq_getElem (by omega)]; simp [List.getElem!_eq_getElem?_getD, List.getElem?_eq_getElem (show 0 < (C 0).length by omega)]
          rw [h00] at hc0
          have hs : spot = none := by simpa [Addr.add] using World.cell?_spot hc0
          subst hs
          refine ⟨ab, off, rfl, fun i j u hi hu => ?_⟩
          rw [hlen] at hi
          have hj : j < 6 := by
            have := (hYC i hi).1.six
            have := (List.getElem?_eq_some_iff.1 hu).1
            omega
          have := (World.cells?_some (hYC i hi).2.2).2.2 j hj
          rw [X.add_addr, X.add_addr] at this
          rw [this, hu])
        rw [hlen] at hx
        exact hx
      · obtain ⟨i, hi, rfl⟩ := List.mem_map.1 hx
        exact (hYC i (by simpa using hi)).2.1
theorem op_expr {base : Nat} {v : Value} {d : DataW H} {p : List MemPlace} (hv : Value.okWide Try.prog ww .any base 62 v)
    (h : DataW.Trod enc Try.prog ww 0 (fun _ => true) true 62 v d p) : ∃ (e : X) (cs : List Value), v = .agg cs.toArray ∧ XAt ww e cs ∧ X.Wf e := by
  obtain ⟨cs, rfl, hsz⟩ := okWide_struct Try.underlying62 hv
  obtain ⟨fuel, hf⟩ := h
  obtain ⟨e, h1, h2⟩ := op_expr_cells fuel _ _ hf
  exact ⟨e, _, by simp [Value.cells], h1, h2⟩
end
end Go.Proofs.Ythdckndjggljpaa
