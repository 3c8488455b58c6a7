/- Statements: how they lie in memory. No condition. -/
import Derived.Test.YthdckndjggljpaaXB
import Derived.Test.YthdckndjggljpaaB0
import Derived.Lib.SmallJoins
namespace Go.Proofs.Ythdckndjggljpaa
open Go.RowKit
set_option linter.unusedVariables false
set_option linter.unusedSimpArgs false
set_option maxRecDepth 100000
/-- A statement: kind, type, name, has, X, I, Init, Step, Body, Else. -/
inductive S where
  | mk (k : Int) (b : Int) (s : Bool) (nm : ByteArray) (has : Bool) (x i : X) (ini step body els : List S)
namespace S
def kind : S → Int | mk k _ _ _ _ _ _ _ _ _ _ => k
def bits : S → Int | mk _ b _ _ _ _ _ _ _ _ _ => b
def sg : S → Bool | mk _ _ s _ _ _ _ _ _ _ _ => s
def name : S → ByteArray | mk _ _ _ nm _ _ _ _ _ _ _ => nm
def has : S → Bool | mk _ _ _ _ h _ _ _ _ _ _ => h
def xx : S → X | mk _ _ _ _ _ x _ _ _ _ _ => x
def ii : S → X | mk _ _ _ _ _ _ i _ _ _ _ => i
def ini : S → List S | mk _ _ _ _ _ _ _ l _ _ _ => l
def step : S → List S | mk _ _ _ _ _ _ _ _ l _ _ => l
def body : S → List S | mk _ _ _ _ _ _ _ _ _ l _ => l
def els : S → List S | mk _ _ _ _ _ _ _ _ _ _ l => l
/-- It stands within. -/
def Sub (y x : S) : Prop := y ∈ x.ini ∨ y ∈ x.step ∨ y ∈ x.body ∨ y ∈ x.els
theorem sub_lt {x y : S} (h : Sub y x) : SizeOf.sizeOf y < SizeOf.sizeOf x := by
  obtain ⟨k, b, s, nm, hs, xx, ii, l0, l1, l2, l3⟩ := x
  simp only [mk.sizeOf_spec]
  rcases h with h | h | h | h
  · have := List.sizeOf_lt_of_mem (show y ∈ l0 from h); omega
  · have := List.sizeOf_lt_of_mem (show y ∈ l1 from h); omega
  · have := List.sizeOf_lt_of_mem (show y ∈ l2 from h); omega
  · have := List.sizeOf_lt_of_mem (show y ∈ l3 from h); omega
/-- Along the tree. -/
theorem up {M : S → Prop} (h : ∀ x, (∀ y, Sub y x → M y) → M x) (x : S) : M x := by
  have : ∀ n, ∀ x : S, SizeOf.sizeOf x < n → M x := by
    intro n
    induction n with
    | zero => intro x hx; omega
    | succ n ih => intro x hx; exact h x (fun y hy => ih y (by have := sub_lt hy; omega))
  exact this _ x (Nat.lt_succ_self _)
end S
/-- The 21 cells of a statement. -/
abbrev S.cells (k b : Int) (s : Bool) (nm : ByteArray) (h : Bool) (xs is : List Value) (v0 v1 v2 v3 : Value) : List Value := [.int .i64 k, .int .i64 b, .bool s, .string nm, .bool h] ++ xs ++ is ++ [v0, v1, v2, v3]
mutual
/-- A list of statements lies at a slice. -/
inductive SsIn (w : World) (p : Nat → Prop) : List S → Value → Prop
  | mk (l : List S) (a : Option Addr) (c : Nat) (cs : Nat → List Value) (hc : l.length ≤ c) (hm : c ≤ maxLen) (hk : ∀ i x, l[i]? = some x → SIn w p x (cs i))
      (ha : 0 < l.length → ∃ b off, p b ∧ a = some ⟨b, off, none⟩ ∧ ∀ i j u, i < l.length → (cs i)[j]? = some u → w.cell? ⟨b, off + i * 21 + j, none⟩ = some u) : SsIn w p l (.slice a l.length c)
/-- A statement lies in these cells, what is within in blocks of this kind. -/
inductive SIn (w : World) (p : Nat → Prop) : S → List Value → Prop
  | mk (k b : Int) (s : Bool) (nm : ByteArray) (h : Bool) (x i : X) (l0 l1 l2 l3 : List S) (xs is : List Value) (v0 v1 v2 v3 : Value) (hx : XIn w p x xs) (hi : XIn w p i is)
      (h0 : SsIn w p l0 v0) (h1 : SsIn w p l1 v1) (h2 : SsIn w p l2 v2) (h3 : SsIn w p l3 v3) :
      SIn w p (.mk k b s nm h x i l0 l1 l2 l3) (S.cells k b s nm h xs is v0 v1 v2 v3)
end
/-- The parts of it. -/
theorem SIn.parts {w : World} {p : Nat → Prop} {x : S} {cs : List Value} (h : SIn w p x cs) : ∃ xs is v0 v1 v2 v3, cs = S.cells x.kind x.bits x.sg x.name x.has xs is v0 v1 v2 v3 ∧ XIn w p x.xx xs ∧ XIn w p x.ii is ∧ SsIn w p x.ini v0 ∧ SsIn w p x.step v1 ∧ SsIn w p x.body v2 ∧ SsIn w p x.els v3 := by
  cases h with | mk k b s nm h x i l0 l1 l2 l3 xs is v0 v1 v2 v3 hx hi h0 h1 h2 h3 => exact ⟨xs, is, v0, v1, v2, v3, rfl, hx, hi, h0, h1, h2, h3⟩
theorem SsIn.parts {w : World} {p : Nat → Prop} {l : List S} {v : Value} (h : SsIn w p l v) : ∃ a c, v = .slice a l.length c ∧ l.length ≤ c ∧ c ≤ maxLen ∧ ∀ i x, l[i]? = some x → ∃ g off cs, p g ∧ a = some ⟨g, off, none⟩ ∧ SIn w p x cs ∧ ∀ j u, cs[j]? = some u → w.cell? ⟨g, off + i * 21 + j, none⟩ = some u := by
  cases h with | mk l a c cs hc hm hk ha =>
  refine ⟨a, c, rfl, hc, hm, fun i x hx => ?_⟩
  have hi : i < l.length := (List.getElem?_eq_some_iff.1 hx).1
  obtain ⟨g, off, hp, e, hcell⟩ := ha (by omega)
  exact ⟨g, off, cs i, hp, e, hk i x hx, fun j u hu => hcell i j u hi hu⟩
theorem SIn.len {w : World} {p : Nat → Prop} {x : S} {cs : List Value} (h : SIn w p x cs) : cs.length = 21 := by
  obtain ⟨xs, is, v0, v1, v2, v3, e, hx, hi, _⟩ := h.parts
  subst e
  simp [S.cells, hx.six, hi.six]
theorem SsIn.move_of {w w' : World} {p q : Nat → Prop} {l : List S} {v : Value} (h : SsIn w p l v) (ih : ∀ x ∈ l, ∀ cs, SIn w p x cs → SIn w' q x cs) (hf : ∀ g, p g → g < w.heap.size → q g ∧ w'.heap[g]? = w.heap[g]?) : SsIn w' q l v := by
  cases h with | mk l a c cs hc hm hk ha =>
  refine .mk l a c cs hc hm (fun i x hx => ih x (List.mem_of_getElem? hx) _ (hk i x hx)) (fun h0 => ?_)
  obtain ⟨g, off, hp, e, hcell⟩ := ha h0
  have hx := hk 0 l[0] (List.getElem?_eq_getElem h0)
  have hl := hx.len
  have h00 : (cs 0)[0]? = some (cs 0)[0] := List.getElem?_eq_getElem (by omega)
  have hlt : g < w.heap.size := World.block_lt_of_cell? _ _ (hcell 0 0 _ h0 h00)
  obtain ⟨hq, hh⟩ := hf g hp hlt
  refine ⟨g, off, hq, e, fun i j u hi hu => ?_⟩
  rw [World.cell?_of_block (w := w) hh]
  exact hcell i j u hi hu
/-- Where those blocks are as they were it lies there still. -/
theorem SIn.move {w w' : World} {p q : Nat → Prop} (hf : ∀ g, p g → g < w.heap.size → q g ∧ w'.heap[g]? = w.heap[g]?) (x : S) : ∀ cs, SIn w p x cs → SIn w' q x cs := by
  induction x using S.up with
  | _ x ih =>
    intro cs h
    cases h with | mk k b s nm h x i l0 l1 l2 l3 xs is v0 v1 v2 v3 hx hi h0 h1 h2 h3 =>
    exact .mk k b s nm h x i l0 l1 l2 l3 xs is v0 v1 v2 v3 (hx.move hf) (hi.move hf) (h0.move_of (fun y hy => ih y (.inl hy)) hf) (h1.move_of (fun y hy => ih y (.inr (.inl hy))) hf)
      (h2.move_of (fun y hy => ih y (.inr (.inr (.inl hy)))) hf) (h3.move_of (fun y hy => ih y (.inr (.inr (.inr hy)))) hf)
theorem SsIn.move {w w' : World} {p q : Nat → Prop} (hf : ∀ g, p g → g < w.heap.size → q g ∧ w'.heap[g]? = w.heap[g]?) {l : List S} {v : Value} (h : SsIn w p l v) : SsIn w' q l v :=
  h.move_of (fun x _ cs => SIn.move hf x cs) hf
theorem SIn.keep {w w' : World} {p : Nat → Prop} {x : S} {cs : List Value} (h : SIn w p x cs) (hb : Below w.heap.size w w') : SIn w' p x cs := h.move (fun g hp hg => ⟨hp, hb.block g hg⟩) x cs
theorem SsIn.keep {w w' : World} {p : Nat → Prop} {l : List S} {v : Value} (h : SsIn w p l v) (hb : Below w.heap.size w w') : SsIn w' p l v := h.move fun g hp hg => ⟨hp, hb.block g hg⟩
/-- Numbers are in their ranges. -/
inductive S.Wf : S → Prop
  | mk (k b : Int) (s : Bool) (nm : ByteArray) (h : Bool) (x i : X) (l0 l1 l2 l3 : List S) (hk : W.I k) (hb : W.I b) (hs : nm.size ≤ maxLen) (hx : X.Wf x) (hi : X.Wf i) (h0 : ∀ y ∈ l0, S.Wf y) (h1 : ∀ y ∈ l1, S.Wf y) (h2 : ∀ y ∈ l2, S.Wf y) (h3 : ∀ y ∈ l3, S.Wf y) :
      S.Wf (.mk k b s nm h x i l0 l1 l2 l3)
/-- A list of things of z cells lies at a slice. -/
def Row {α : Type} (w : World) (p : Nat → Prop) (z : Nat) (At : α → List Value → Prop) (l : List α) (v : Value) : Prop :=
  ∃ (a : Option Addr) (c : Nat) (cs : Nat → List Value), v = .slice a l.length c ∧ l.length ≤ c ∧ c ≤ maxLen ∧ (∀ i x, l[i]? = some x → At x (cs i)) ∧
    (0 < l.length → ∃ b off, p b ∧ a = some ⟨b, off, none⟩ ∧ ∀ i j u, i < l.length → (cs i)[j]? = some u → w.cell? ⟨b, off + i * z + j, none⟩ = some u)
theorem Row.parts {α : Type} {w : World} {p : Nat → Prop} {z : Nat} {At : α → List Value → Prop} {l : List α} {v : Value} (h : Row w p z At l v) : ∃ a c, v = .slice a l.length c ∧ l.length ≤ c ∧ c ≤ maxLen ∧ ∀ i x, l[i]? = some x → ∃ g off cs, p g ∧ a = some ⟨g, off, none⟩ ∧ At x cs ∧ ∀ j u, cs[j]? = some u → w.cell? ⟨g, off + i * z + j, none⟩ = some u := by
  obtain ⟨a, c, cs, e, hc, hm, hk, ha⟩ := h
  refine ⟨a, c, e, hc, hm, fun i x hx => ?_⟩
  have hi : i < l.length := (List.getElem?_eq_some_iff.1 hx).1
  obtain ⟨g, off, hp, e, hcell⟩ := ha (by omega)
  exact ⟨g, off, cs i, hp, e, hk i x hx, fun j u hu => hcell i j u hi hu⟩
theorem Row.nil {α : Type} (w : World) (p : Nat → Prop) (z : Nat) (At : α → List Value → Prop) : Row w p z At [] (.slice none 0 0) :=
  ⟨none, 0, fun _ => [], rfl, Nat.le_refl _, Nat.zero_le _, fun i x h => by simp at h, fun h => absurd h (Nat.lt_irrefl _)⟩
theorem Row.move {α : Type} {w w' : World} {p q : Nat → Prop} {z : Nat} {At At' : α → List Value → Prop} {l : List α} {v : Value} (h : Row w p z At l v) (hat : ∀ x ∈ l, ∀ cs, At x cs → At' x cs) (hne : ∀ x ∈ l, ∀ cs, At x cs → cs ≠ []) (hf : ∀ g, p g → g < w.heap.size → q g ∧ w'.heap[g]? = w.heap[g]?) : Row w' q z At' l v := by
  obtain ⟨a, c, cs, e, hc, hm, hk, ha⟩ := h
  refine ⟨a, c, cs, e, hc, hm, fun i x hx => hat x (List.mem_of_getElem? hx) _ (hk i x hx), fun h0 => ?_⟩
  obtain ⟨g, off, hp, e, hcell⟩ := ha h0
  have hx := hk 0 l[0] (List.getElem?_eq_getElem h0)
  have hn := hne _ (List.getElem_mem h0) _ hx
  have h1 : 0 < (cs 0).length := List.length_pos_iff.2 hn
  have hlt : g < w.heap.size := World.block_lt_of_cell? _ _ (hcell 0 0 _ h0 (List.getElem?_eq_getElem h1))
  obtain ⟨hq, hh⟩ := hf g hp hlt
  refine ⟨g, off, hq, e, fun i j u hi hu => ?_⟩
  rw [World.cell?_of_block (w := w) hh]
  exact hcell i j u hi hu
/-- A parameter, a function, a variable of all, a program. -/
structure Pm where
  b : Int
  s : Bool
  nm : ByteArray
structure Fn where
  nm : ByteArray
  b : Int
  s : Bool
  ps : List Pm
  body : List S
structure Gl where
  b : Int
  s : Bool
  nm : ByteArray
  size : Int
  ini : List X
structure Pg where
  gs : List Gl
  fs : List Fn
def PmAt (x : Pm) (cs : List Value) : Prop := cs = [.int .i64 x.b, .bool x.s, .string x.nm]
def FnIn (w : World) (p : Nat → Prop) (f : Fn) (cs : List Value) : Prop := ∃ v0 v1, cs = [.string f.nm, .int .i64 f.b, .bool f.s, v0, v1] ∧ Row w p 3 PmAt f.ps v0 ∧ SsIn w p f.body v1
def GlIn (w : World) (p : Nat → Prop) (g : Gl) (cs : List Value) : Prop := ∃ v, cs = [.int .i64 g.b, .bool g.s, .string g.nm, .int .i64 g.size, v] ∧ Row w p 6 (XIn w p) g.ini v
def PgIn (w : World) (p : Nat → Prop) (x : Pg) (v0 v1 : Value) : Prop := Row w p 5 (GlIn w p) x.gs v0 ∧ Row w p 5 (FnIn w p) x.fs v1
structure Pm.Wf (x : Pm) : Prop where
  b : W.I x.b
  nm : x.nm.size ≤ maxLen
structure Fn.Wf (x : Fn) : Prop where
  nm : x.nm.size ≤ maxLen
  b : W.I x.b
  ps : ∀ y ∈ x.ps, Pm.Wf y
  body : ∀ y ∈ x.body, S.Wf y
structure Gl.Wf (x : Gl) : Prop where
  b : W.I x.b
  nm : x.nm.size ≤ maxLen
  size : W.I x.size
  ini : ∀ y ∈ x.ini, X.Wf y
structure Pg.Wf (x : Pg) : Prop where
  gs : ∀ y ∈ x.gs, Gl.Wf y
  fs : ∀ y ∈ x.fs, Fn.Wf y
section
variable {w w' : World} {p q : Nat → Prop}
theorem FnIn.move {f : Fn} {cs : List Value} (h : FnIn w p f cs) (hf : ∀ g, p g → g < w.heap.size → q g ∧ w'.heap[g]? = w.heap[g]?) : FnIn w' q f cs := by
  obtain ⟨v0, v1, e, h0, h1⟩ := h
  exact ⟨v0, v1, e, h0.move (fun _ _ _ h => h) (fun x _ cs h => by rw [h]; simp) hf, h1.move hf⟩
theorem GlIn.move {f : Gl} {cs : List Value} (h : GlIn w p f cs) (hf : ∀ g, p g → g < w.heap.size → q g ∧ w'.heap[g]? = w.heap[g]?) : GlIn w' q f cs := by
  obtain ⟨v, e, h0⟩ := h
  exact ⟨v, e, h0.move (fun _ _ _ h => h.move hf) (fun x _ cs h e => by have := h.six; rw [e] at this; cases this) hf⟩
theorem PgIn.move {x : Pg} {v0 v1 : Value} (h : PgIn w p x v0 v1) (hf : ∀ g, p g → g < w.heap.size → q g ∧ w'.heap[g]? = w.heap[g]?) : PgIn w' q x v0 v1 :=
  ⟨h.1.move (fun _ _ _ h => h.move hf) (fun x _ cs h => by obtain ⟨v, e, _⟩ := h; rw [e]; simp) hf, h.2.move (fun _ _ _ h => h.move hf) (fun x _ cs h => by obtain ⟨v0, v1, e, _⟩ := h; rw [e]; simp) hf⟩
theorem PgIn.keep {x : Pg} {v0 v1 : Value} (h : PgIn w p x v0 v1) (hb : Below w.heap.size w w') : PgIn w' p x v0 v1 := h.move fun g hp hg => ⟨hp, hb.block g hg⟩
end
end Go.Proofs.Ythdckndjggljpaa
/- Programs, plain: what is wrong with one's shape, and how many nodes were counted. No condition. -/
namespace Go.Proofs.Ythdckndjggljpaa
open Go.RowKit
set_option linter.unusedVariables false
set_option linter.unusedSimpArgs false
set_option maxRecDepth 100000
/-- On, if nothing was wrong. -/
def thn (r : Int × Nat) (f : Nat → Int × Nat) : Int × Nat := if r.1 = 0 then f r.2 else r
theorem thn_ok {r : Int × Nat} {f : Nat → Int × Nat} (h : r.1 = 0) : thn r f = f r.2 := if_pos h
theorem thn_bad {r : Int × Nat} {f : Nat → Int × Nat} (h : r.1 ≠ 0) : thn r f = r := if_neg h
/-- What is wrong with a type and a name. -/
def tyName (b : Int) (nm : List UInt8) : Int := if W.okB b = false then 9 else if Tk.nmd nm = false then 7 else 0
namespace S
/-- Up to its lists, a statement's own look: what is wrong ahead of what is within. -/
def own (k b : Int) (nm : List UInt8) : Int := if k < 1 ∨ 11 < k then 1 else if k = 2 then tyName b nm else if k = 3 ∧ Tk.nmd nm = false then 7 else 0
/-- What may stand in for's brackets. -/
def brk (l : List S) : Int := if 1 < l.length then 5 else if l.any (fun s => s.kind != 3 && s.kind != 4) then 8 else 0
/-- Is X looked at? -/
def looks (k : Int) (has : Bool) : Bool := (k == 3 || k == 4 || k == 5 || k == 6) || (has && (k == 2 || k == 8 || k == 7))
mutual
/-- What is wrong with a statement, and the nodes counted so far. -/
def cnt : S → Nat → Int → Int × Nat
  | .mk k b s nm has x i l0 l1 l2 l3, N, d =>
    if 20000 ≤ N ∨ 100 < d then (4, N + 1)
    else if own k b nm.data.toList ≠ 0 then (own k b nm.data.toList, N + 1)
    else thn (if k = 3 ∧ has = true then X.cnt i (N + 1) (d + 1) else (0, N + 1)) fun N =>
      thn (if k = 7 then (if brk l0 ≠ 0 then (brk l0, N) else cnts l0 N (d + 1)) else (0, N)) fun N =>
      thn (if looks k has = true then X.cnt x N (d + 1) else (0, N)) fun N =>
      thn (if k = 7 then (if brk l1 ≠ 0 then (brk l1, N) else cnts l1 N (d + 1)) else (0, N)) fun N =>
      thn (if k = 5 ∨ k = 6 ∨ k = 7 ∨ k = 11 then cnts l2 N (d + 1) else (0, N)) fun N =>
      if k = 5 then cnts l3 N (d + 1) else (0, N)
def cnts : List S → Nat → Int → Int × Nat
  | [], N, _ => (0, N)
  | x :: xs, N, d => if (cnt x N d).1 = 0 then cnts xs (cnt x N d).2 d else cnt x N d
end
end S
/-- Expressions, one behind the other. -/
def X.row (l : List X) (N : Nat) (d : Int) : Int × Nat := X.cnts l N d
namespace Pg
def gl (g : Gl) (N : Nat) : Int × Nat :=
  if tyName g.b g.nm.data.toList ≠ 0 then (tyName g.b g.nm.data.toList, N)
  else if g.size < 0 ∨ 8000 < g.size then (3, N)
  else if 1 < g.ini.length ∧ g.size < (g.ini.length : Int) then (5, N)
  else if 20000 ≤ N then (4, N + 1)
  else X.cnts g.ini (N + 1) 2
def gls : List Gl → Nat → Int × Nat
  | [], N => (0, N)
  | g :: gs, N => if (gl g N).1 = 0 then gls gs (gl g N).2 else gl g N
def pms : List Pm → Int
  | [] => 0
  | x :: xs => if tyName x.b x.nm.data.toList = 0 then pms xs else tyName x.b x.nm.data.toList
def fn (f : Fn) (N : Nat) : Int × Nat :=
  if Tk.nmd f.nm.data.toList = false then (7, N)
  else if ¬ (f.b = 0 ∧ f.s = false) ∧ W.okB f.b = false then (9, N)
  else if 8 < f.ps.length then (5, N)
  else if pms f.ps ≠ 0 then (pms f.ps, N)
  else if 20000 ≤ N then (4, N + 1)
  else S.cnts f.body (N + 1) 2
def fns : List Fn → Nat → Int × Nat
  | [], N => (0, N)
  | g :: gs, N => if (fn g N).1 = 0 then fns gs (fn g N).2 else fn g N
/-- What is wrong with a program's shape. -/
def wrong (x : Pg) : Int := if 100 < x.fs.length then 5 else (thn (gls x.gs 0) (fns x.fs)).1
end Pg
namespace S
theorem cnts_eq (l : List S) (N : Nat) (d : Int) : cnts l N d = match l with | [] => (0, N) | x :: xs => thn (cnt x N d) fun N => cnts xs N d := by
  cases l with
  | nil => rw [cnts]
  | cons x xs => rw [cnts]; rfl
theorem cnts_snoc (xs : List S) (y : S) : ∀ (N : Nat) (d : Int), (cnts xs N d).1 = 0 → cnts (xs ++ [y]) N d = cnt y (cnts xs N d).2 d := by
  induction xs with
  | nil => intro N d h; rw [List.nil_append, cnts, cnts, cnts]; split
           · rename_i h1; rw [Prod.ext_iff]; exact ⟨h1.symm, rfl⟩
           · rfl
  | cons x xs ih =>
    intro N d h
    rw [List.cons_append, cnts]
    rw [cnts] at h
    split at h
    · rename_i h1; rw [if_pos h1, ih _ _ h, cnts, if_pos h1]
    · rename_i h1; exact absurd h h1
theorem cnts_stop (xs zs : List S) : ∀ (N : Nat) (d : Int), (cnts xs N d).1 ≠ 0 → cnts (xs ++ zs) N d = cnts xs N d := by
  induction xs with
  | nil => intro N d h; exact absurd rfl h
  | cons x xs ih =>
    intro N d h
    rw [cnts] at h
    rw [List.cons_append, cnts, cnts]
    split at h
    · rename_i h1; rw [if_pos h1, if_pos h1]; exact ih _ _ h
    · rename_i h1; rw [if_neg h1, if_neg h1]
theorem cnts_take {l : List S} {i : Nat} {y : S} (hy : l[i]? = some y) (N : Nat) (d : Int) (h : (cnts (l.take i) N d).1 = 0) : cnts (l.take (i + 1)) N d = cnt y (cnts (l.take i) N d).2 d := by
  rw [List.take_add_one, hy]; exact cnts_snoc _ _ _ _ h
theorem cnts_bad {l : List S} {i : Nat} {y : S} (hy : l[i]? = some y) (N : Nat) (d : Int) (h : (cnts (l.take i) N d).1 = 0) (hb : (cnt y (cnts (l.take i) N d).2 d).1 ≠ 0) : cnts l N d = cnt y (cnts (l.take i) N d).2 d := by
  rw [← cnts_take hy N d h] at hb ⊢
  have := cnts_stop (l.take (i + 1)) (l.drop (i + 1)) N d hb
  rw [List.take_append_drop] at this
  exact this
end S
end Go.Proofs.Ythdckndjggljpaa

/- Programs in memory: apart from blocks of one cell; counting stays small. No condition. -/
namespace Go.Proofs.Ythdckndjggljpaa
open Go.RowKit
set_option linter.unusedVariables false
set_option linter.unusedSimpArgs false
set_option maxRecDepth 100000
section
variable {w w' : World} {p : Nat → Prop} {g : Nat} {t : TypeId} {v : Value}
theorem one_far (hg : Blk w g t #[v]) {b o : Nat} {u : Value} (h : w.cell? ⟨b, o + 1, none⟩ = some u) : b ≠ g := by
  rintro rfl
  rw [hg.cell] at h
  simp at h
theorem XIn.not1 {x : X} {cs : List Value} (h : XIn w p x cs) (hg : Blk w g t #[v]) : XIn w (fun q => p q ∧ q ≠ g) x cs := by
  induction h with
  | mk k n b s nm ks a c cs hc hm hk ha ih =>
    refine .mk k n b s nm ks a c cs hc hm ih (fun h0 => ?_)
    obtain ⟨q, off, hp, e, hcell⟩ := ha h0
    have hx := hk 0 ks[0] (List.getElem?_eq_getElem h0)
    have hl := hx.six
    have h1 : (cs 0)[1]? = some (cs 0)[1] := List.getElem?_eq_getElem (by omega)
    exact ⟨q, off, ⟨hp, one_far hg (hcell 0 1 _ h0 h1)⟩, e, hcell⟩
theorem SsIn.not1_of {l : List S} {u : Value} (h : SsIn w p l u) (hg : Blk w g t #[v]) (ih : ∀ x ∈ l, ∀ cs, SIn w p x cs → SIn w (fun q => p q ∧ q ≠ g) x cs) : SsIn w (fun q => p q ∧ q ≠ g) l u := by
  cases h with | mk l a c cs hc hm hk ha =>
  refine .mk l a c cs hc hm (fun i x hx => ih x (List.mem_of_getElem? hx) _ (hk i x hx)) (fun h0 => ?_)
  obtain ⟨q, off, hp, e, hcell⟩ := ha h0
  have hx := hk 0 l[0] (List.getElem?_eq_getElem h0)
  have hl := hx.len
  have h1 : (cs 0)[1]? = some (cs 0)[1] := List.getElem?_eq_getElem (by omega)
  exact ⟨q, off, ⟨hp, one_far hg (hcell 0 1 _ h0 h1)⟩, e, hcell⟩
theorem SIn.not1 (hg : Blk w g t #[v]) (x : S) : ∀ cs, SIn w p x cs → SIn w (fun q => p q ∧ q ≠ g) x cs := by
  induction x using S.up with
  | _ x ih =>
    intro cs h
    cases h with | mk k b s nm h x i l0 l1 l2 l3 xs is v0 v1 v2 v3 hx hi h0 h1 h2 h3 =>
    exact .mk k b s nm h x i l0 l1 l2 l3 xs is v0 v1 v2 v3 (hx.not1 hg) (hi.not1 hg) (h0.not1_of hg (fun y hy => ih y (.inl hy))) (h1.not1_of hg (fun y hy => ih y (.inr (.inl hy))))
      (h2.not1_of hg (fun y hy => ih y (.inr (.inr (.inl hy))))) (h3.not1_of hg (fun y hy => ih y (.inr (.inr (.inr hy)))))
theorem SsIn.not1 (hg : Blk w g t #[v]) {l : List S} {u : Value} (h : SsIn w p l u) : SsIn w (fun q => p q ∧ q ≠ g) l u := h.not1_of hg fun x _ cs => SIn.not1 hg x cs
theorem Row.not1 {α : Type} {z : Nat} {At At' : α → List Value → Prop} {l : List α} {u : Value} (hg : Blk w g t #[v]) (h : Row w p z At l u) (hat : ∀ x ∈ l, ∀ cs, At x cs → At' x cs) (hlen : ∀ x ∈ l, ∀ cs, At x cs → 2 ≤ cs.length) : Row w (fun q => p q ∧ q ≠ g) z At' l u := by
  obtain ⟨a, c, cs, e, hc, hm, hk, ha⟩ := h
  refine ⟨a, c, cs, e, hc, hm, fun i x hx => hat x (List.mem_of_getElem? hx) _ (hk i x hx), fun h0 => ?_⟩
  obtain ⟨q, off, hp, e, hcell⟩ := ha h0
  have hl := hlen _ (List.getElem_mem h0) _ (hk 0 l[0] (List.getElem?_eq_getElem h0))
  have h1 : (cs 0)[1]? = some (cs 0)[1] := List.getElem?_eq_getElem (by omega)
  exact ⟨q, off, ⟨hp, one_far hg (hcell 0 1 _ h0 h1)⟩, e, hcell⟩
theorem FnIn.not1 (hg : Blk w g t #[v]) {f : Fn} {cs : List Value} (h : FnIn w p f cs) : FnIn w (fun q => p q ∧ q ≠ g) f cs := by
  obtain ⟨v0, v1, e, h0, h1⟩ := h
  exact ⟨v0, v1, e, h0.not1 hg (fun _ _ _ h => h) (fun x _ cs h => by rw [h]; simp), h1.not1 hg⟩
theorem GlIn.not1 (hg : Blk w g t #[v]) {f : Gl} {cs : List Value} (h : GlIn w p f cs) : GlIn w (fun q => p q ∧ q ≠ g) f cs := by
  obtain ⟨v0, e, h0⟩ := h
  exact ⟨v0, e, h0.not1 hg (fun _ _ _ h => h.not1 hg) (fun x _ cs h => by rw [h.six]; omega)⟩
theorem PgIn.not1 (hg : Blk w g t #[v]) {x : Pg} {v0 v1 : Value} (h : PgIn w p x v0 v1) : PgIn w (fun q => p q ∧ q ≠ g) x v0 v1 :=
  ⟨h.1.not1 hg (fun _ _ _ h => h.not1 hg) (fun x _ cs h => by obtain ⟨v, e, _⟩ := h; rw [e]; simp), h.2.not1 hg (fun _ _ _ h => h.not1 hg) (fun x _ cs h => by obtain ⟨v0, v1, e, _⟩ := h; rw [e]; simp)⟩
theorem chg_far (hc : Chg g w w') : ∀ q, (p q ∧ q ≠ g) → q < w.heap.size → (fun _ => True) q ∧ w'.heap[q]? = w.heap[q]? := fun q hq hlt => ⟨trivial, hc.block q hlt (fun e => by injection e with e; exact hq.2 e)⟩
/-- What a counter moves is no part of a program. -/
theorem SIn.chg (hg : Blk w g t #[v]) (hc : Chg g w w') {x : S} {cs : List Value} (h : SIn w p x cs) : SIn w' (fun _ => True) x cs := SIn.move (chg_far hc) x cs (SIn.not1 hg x cs h)
theorem SsIn.chg (hg : Blk w g t #[v]) (hc : Chg g w w') {l : List S} {u : Value} (h : SsIn w p l u) : SsIn w' (fun _ => True) l u := (h.not1 hg).move (chg_far hc)
theorem XIn.chg (hg : Blk w g t #[v]) (hc : Chg g w w') {x : X} {cs : List Value} (h : XIn w p x cs) : XIn w' (fun _ => True) x cs := (h.not1 hg).move (chg_far hc)
theorem FnIn.chg (hg : Blk w g t #[v]) (hc : Chg g w w') {f : Fn} {cs : List Value} (h : FnIn w p f cs) : FnIn w' (fun _ => True) f cs := (h.not1 hg).move (chg_far hc)
theorem GlIn.chg (hg : Blk w g t #[v]) (hc : Chg g w w') {f : Gl} {cs : List Value} (h : GlIn w p f cs) : GlIn w' (fun _ => True) f cs := (h.not1 hg).move (chg_far hc)
theorem PgIn.chg (hg : Blk w g t #[v]) (hc : Chg g w w') {x : Pg} {v0 v1 : Value} (h : PgIn w p x v0 v1) : PgIn w' (fun _ => True) x v0 v1 := (h.not1 hg).move (chg_far hc)
end
/-- Counting stays within its bound. -/
def Little (r : Int × Nat) : Prop := r.1 = 0 → r.2 ≤ 20000
theorem thn_little {r : Int × Nat} {f : Nat → Int × Nat} (hr : Little r) (hf : ∀ N, N ≤ 20000 → Little (f N)) : Little (thn r f) := by
  unfold thn
  split
  · rename_i h; exact hf _ (hr h)
  · rename_i h; exact fun h2 => absurd h2 h
theorem little_if {c : Prop} [Decidable c] {r : Int × Nat} {N : Nat} (hN : N ≤ 20000) (hr : Little r) : Little (if c then r else (0, N)) := by
  split
  · exact hr
  · exact fun _ => hN
theorem S.cnt_little (x : S) : ∀ N d, N ≤ 20000 → Little (S.cnt x N d) := by
  have all : ∀ l : List S, (∀ y ∈ l, ∀ N d, N ≤ 20000 → Little (S.cnt y N d)) → ∀ N d, N ≤ 20000 → Little (S.cnts l N d) := by
    intro l
    induction l with
    | nil => intro _ N d hN; rw [S.cnts]; exact fun _ => hN
    | cons x xs ih =>
      intro h N d hN
      rw [S.cnts_eq]
      exact thn_little (h x (List.mem_cons_self ..) N d hN) (fun N hN => ih (fun y hy => h y (List.mem_cons_of_mem _ hy)) N d hN)
  induction x using S.up with
  | _ x ih =>
    intro N d hN
    obtain ⟨k, b, s, nm, has, x, i, l0, l1, l2, l3⟩ := x
    have i0 := all l0 (fun y hy => ih y (.inl hy))
    have i1 := all l1 (fun y hy => ih y (.inr (.inl hy)))
    have i2 := all l2 (fun y hy => ih y (.inr (.inr (.inl hy))))
    have i3 := all l3 (fun y hy => ih y (.inr (.inr (.inr hy))))
    have brk : ∀ (l : List S), (∀ N d, N ≤ 20000 → Little (S.cnts l N d)) → ∀ N, N ≤ 20000 → Little (if S.brk l ≠ 0 then (S.brk l, N) else S.cnts l N (d + 1)) := fun l hl N hN => by
      split
      · rename_i h; exact fun h2 => absurd h2 h
      · exact hl N _ hN
    rw [S.cnt]
    split
    · exact fun h => absurd (show (4 : Int) = 0 from h) (by decide)
    rename_i h0
    split
    · rename_i h; exact fun h2 => absurd h2 h
    refine thn_little (little_if (by omega) (fun h => X.cnt_small i _ _ (by omega) h)) (fun N hN => ?_)
    refine thn_little (little_if hN (brk l0 i0 N hN)) (fun N hN => ?_)
    refine thn_little (little_if hN (fun h => X.cnt_small x _ _ hN h)) (fun N hN => ?_)
    refine thn_little (little_if hN (brk l1 i1 N hN)) (fun N hN => ?_)
    refine thn_little (little_if hN (i2 N _ hN)) (fun N hN => ?_)
    exact little_if hN (i3 N _ hN)
theorem S.cnts_little (l : List S) : ∀ N d, N ≤ 20000 → Little (S.cnts l N d) := by
  induction l with
  | nil => intro N d hN; rw [S.cnts]; exact fun _ => hN
  | cons x xs ih => intro N d hN; rw [S.cnts_eq]; exact thn_little (S.cnt_little x N d hN) (fun N hN => ih N d hN)
end Go.Proofs.Ythdckndjggljpaa

/- Programs: how one lies in memory; opening a law's argument that is one. No condition. -/
namespace Go.Proofs.Ythdckndjggljpaa
open Go.ChangeShapes Go.WideShapes Go.ChangeAt Go.RowKit
set_option linter.unusedVariables false
set_option linter.unusedSimpArgs false
set_option maxRecDepth 100000
section
variable {H : Type} {enc : TypeId × Value → H} {ww : World}
/-- Opening a slice. -/
theorem op_row {α : Type} {t e : TypeId} {z n : Nat} {v : Value} {x : DataW H × List MemPlace} (At : α → List Value → Prop) (G : α → Prop) (dflt : α) (ht : Try.prog.underlying t = some (.slice e)) (hz : Try.prog.cellsOf e = z) (hz0 : 0 < z)
    (each : ∀ m, m < n → ∀ cs y, DataW.trod enc Try.prog ww 0 (fun _ => true) true m e cs = some y → ∃ a, At a cs ∧ G a)
    (h : DataW.trod enc Try.prog ww 0 (fun _ => true) true n t [v] = some x) : ∃ l : List α, Row ww (fun _ => True) z At l v ∧ ∀ y ∈ l, G y := by
  rcases DataW.trod_slice ht h with ⟨e5, _⟩ | ⟨a, len, cap, elems, rest, m2, hm2, e5, _, _, hlc, hcm, hel, hks, _, _⟩
  · simp at e5; subst e5
    exact ⟨[], Row.nil _ _ _ _, fun y hy => by simp at hy⟩
  · simp at e5; subst e5
    rw [hz] at hks
    have one : ∀ i, i < len → ∃ (y : α) (ys : List Value), At y ys ∧ G y ∧ ww.cells? 0 (a.add (i * z)) z = some ys := fun i hi => by
      obtain ⟨q, hq⟩ := X.op_at (hks i hi) (by omega)
      obtain ⟨ys, hys, hz2⟩ := Option.bind_eq_some_iff.1 hq
      obtain ⟨y, hy, hw⟩ := each m2 (by omega) ys q hz2
      exact ⟨y, ys, hy, hw, hys⟩
    have two : ∃ (Y : Nat → α) (C : Nat → List Value), ∀ i, i < len → At (Y i) (C i) ∧ G (Y i) ∧ ww.cells? 0 (a.add (i * z)) z = some (C i) := by
      refine ⟨fun i => if h : i < len then (one i h).choose else dflt, fun i => if h : i < len then (one i h).choose_spec.choose else [], fun i hi => ?_⟩
      simp only [dif_pos hi]
      exact (one i hi).choose_spec.choose_spec
    obtain ⟨Y, C, hYC⟩ := two
    have hgi : ∀ i x, ((List.range len).map Y)[i]? = some x → i < len ∧ x = Y i := fun i x hx => by
      rw [List.getElem?_map] at hx
      rcases Nat.lt_or_ge i len with h | h
      · rw [List.getElem?_eq_getElem (by simpa using h)] at hx
        simp at hx; exact ⟨h, hx.symm⟩
      · rw [List.getElem?_eq_none (by simpa using h)] at hx; simp at hx
    have hlen : ((List.range len).map Y).length = len := by simp
    refine ⟨(List.range len).map Y, ⟨some a, cap, C, by rw [hlen], by rw [hlen]; exact hlc, hcm, fun i x hx => ?_, fun hz1 => ?_⟩, fun y hy => ?_⟩
    · obtain ⟨h1, rfl⟩ := hgi i x hx; exact (hYC i h1).1
    · rw [hlen] at hz1
      obtain ⟨ab, off, spot⟩ := a
      have hl0 := (World.cells?_some (hYC 0 hz1).2.2).2.1
      have hc0 := (World.cells?_some (hYC 0 hz1).2.2).2.2 0 hz0
      have h00 : (C 0)[0]? = some ((C 0)[0]'(by omega)) := List.getElem?_eq_getElem (by omega)
      rw [h00] at hc0
      have hs : spot = none := by simpa [Addr.add] using World.cell?_spot hc0
      subst hs
      refine ⟨ab, off, trivial, rfl, fun i j u hi hu => ?_⟩
      rw [hlen] at hi
      have hj : j < z := by
        have := (World.cells?_some (hYC i hi).2.2).2.1
        have := (List.getElem?_eq_some_iff.1 hu).1
        omega
      have := (World.cells?_some (hYC i hi).2.2).2.2 j hj
      rw [X.add_addr, X.add_addr] at this
      rw [this, hu]
    · obtain ⟨i, hi, rfl⟩ := List.mem_map.1 hy
      exact (hYC i (by simpa using hi)).2.1
theorem SsIn.of_row {w : World} {p : Nat → Prop} {l : List S} {v : Value} (h : Row w p 21 (SIn w p) l v) : SsIn w p l v := by
  obtain ⟨a, c, cs, rfl, hc, hm, hk, ha⟩ := h
  exact .mk l a c cs hc hm hk ha
theorem S.array21 {cs : List Value} (h : cs.length = 21) : ∃ c0 c1 c2 c3 c4 x0 x1 x2 x3 x4 x5 i0 i1 i2 i3 i4 i5 v0 v1 v2 v3, cs = [c0, c1, c2, c3, c4, x0, x1, x2, x3, x4, x5, i0, i1, i2, i3, i4, i5, v0, v1, v2, v3] := by
  match cs, h with
  | [c0, c1, c2, c3, c4, x0, x1, x2, x3, x4, x5, i0, i1, i2, i3, i4, i5, v0, v1, v2, v3], _ => exact ⟨c0, c1, c2, c3, c4, x0, x1, x2, x3, x4, x5, i0, i1, i2, i3, i4, i5, v0, v1, v2, v3, rfl⟩
def X.zero : X := .mk 0 0 0 false ⟨#[]⟩ []
def S.zero : S := .mk 0 0 false ⟨#[]⟩ false X.zero X.zero [] [] [] []
theorem op_stat_cells : ∀ (n : Nat) (cs : List Value) (x : DataW H × List MemPlace), DataW.trod enc Try.prog ww 0 (fun _ => true) true n 102 cs = some x → ∃ e : S, SIn ww (fun _ => True) e cs ∧ S.Wf e := by
  intro n
  induction n using Nat.strongRecOn with
  | _ n ih =>
    intro cs x h
    obtain ⟨xs, m, hm, _, hl, hn, hf⟩ := DataW.trod_struct Try.underlying102 h
    have h21 : Try.prog.cellsOf 102 = 21 := by kernel_rfl
    rw [h21] at hl
    obtain ⟨c0, c1, c2, c3, c4, x0, x1, x2, x3, x4, x5, i0, i1, i2, i3, i4, i5, v0, v1, v2, v3, rfl⟩ := S.array21 hl
    have hn' : xs.length = 10 := hn
    have k0 : Try.prog.cellsOf 3 = 1 := by kernel_rfl
    have k1 : Try.prog.cellsOf 33 = 2 := by kernel_rfl
    have k2 : Try.prog.cellsOf 9 = 1 := by kernel_rfl
    have k3 : Try.prog.cellsOf 4 = 1 := by kernel_rfl
    have k4 : Try.prog.cellsOf 62 = 6 := by kernel_rfl
    have k5 : Try.prog.cellsOf 38 = 1 := by kernel_rfl
    obtain ⟨_, h0⟩ := X.op_at (show DataW.trod enc Try.prog ww 0 (fun _ => true) true m 3 (List.take (Try.prog.cellsOf 3) (List.drop 0 [c0, c1, c2, c3, c4, x0, x1, x2, x3, x4, x5, i0, i1, i2, i3, i4, i5, v0, v1, v2, v3])) = xs[0]? from hf 0 _ rfl) (by omega)
    obtain ⟨_, h1⟩ := X.op_at (show DataW.trod enc Try.prog ww 0 (fun _ => true) true m 33 (List.take (Try.prog.cellsOf 33) (List.drop 1 [c0, c1, c2, c3, c4, x0, x1, x2, x3, x4, x5, i0, i1, i2, i3, i4, i5, v0, v1, v2, v3])) = xs[1]? from hf 1 _ rfl) (by omega)
    obtain ⟨_, h2⟩ := X.op_at (show DataW.trod enc Try.prog ww 0 (fun _ => true) true m 9 (List.take (Try.prog.cellsOf 9) (List.drop 3 [c0, c1, c2, c3, c4, x0, x1, x2, x3, x4, x5, i0, i1, i2, i3, i4, i5, v0, v1, v2, v3])) = xs[2]? from hf 2 _ rfl) (by omega)
    obtain ⟨_, h3⟩ := X.op_at (show DataW.trod enc Try.prog ww 0 (fun _ => true) true m 4 (List.take (Try.prog.cellsOf 4) (List.drop 4 [c0, c1, c2, c3, c4, x0, x1, x2, x3, x4, x5, i0, i1, i2, i3, i4, i5, v0, v1, v2, v3])) = xs[3]? from hf 3 _ rfl) (by omega)
    obtain ⟨_, h4⟩ := X.op_at (show DataW.trod enc Try.prog ww 0 (fun _ => true) true m 62 (List.take (Try.prog.cellsOf 62) (List.drop 5 [c0, c1, c2, c3, c4, x0, x1, x2, x3, x4, x5, i0, i1, i2, i3, i4, i5, v0, v1, v2, v3])) = xs[4]? from hf 4 _ rfl) (by omega)
    obtain ⟨_, h5⟩ := X.op_at (show DataW.trod enc Try.prog ww 0 (fun _ => true) true m 62 (List.take (Try.prog.cellsOf 62) (List.drop 11 [c0, c1, c2, c3, c4, x0, x1, x2, x3, x4, x5, i0, i1, i2, i3, i4, i5, v0, v1, v2, v3])) = xs[5]? from hf 5 _ rfl) (by omega)
    obtain ⟨_, h6⟩ := X.op_at (show DataW.trod enc Try.prog ww 0 (fun _ => true) true m 38 (List.take (Try.prog.cellsOf 38) (List.drop 17 [c0, c1, c2, c3, c4, x0, x1, x2, x3, x4, x5, i0, i1, i2, i3, i4, i5, v0, v1, v2, v3])) = xs[6]? from hf 6 _ rfl) (by omega)
    obtain ⟨_, h7⟩ := X.op_at (show DataW.trod enc Try.prog ww 0 (fun _ => true) true m 38 (List.take (Try.prog.cellsOf 38) (List.drop 18 [c0, c1, c2, c3, c4, x0, x1, x2, x3, x4, x5, i0, i1, i2, i3, i4, i5, v0, v1, v2, v3])) = xs[7]? from hf 7 _ rfl) (by omega)
    obtain ⟨_, h8⟩ := X.op_at (show DataW.trod enc Try.prog ww 0 (fun _ => true) true m 38 (List.take (Try.prog.cellsOf 38) (List.drop 19 [c0, c1, c2, c3, c4, x0, x1, x2, x3, x4, x5, i0, i1, i2, i3, i4, i5, v0, v1, v2, v3])) = xs[8]? from hf 8 _ rfl) (by omega)
    obtain ⟨_, h9⟩ := X.op_at (show DataW.trod enc Try.prog ww 0 (fun _ => true) true m 38 (List.take (Try.prog.cellsOf 38) (List.drop 20 [c0, c1, c2, c3, c4, x0, x1, x2, x3, x4, x5, i0, i1, i2, i3, i4, i5, v0, v1, v2, v3])) = xs[9]? from hf 9 _ rfl) (by omega)
    rw [k0] at h0; rw [k1] at h1; rw [k2] at h2; rw [k3] at h3; rw [k4] at h4 h5; rw [k5] at h6 h7 h8 h9
    obtain ⟨k, e0, _, wk⟩ := DataW.trod_int Try.underlying3 h0
    obtain ⟨b, s, e1, e2, wb⟩ := op_type2 h1
    obtain ⟨nm, e3, _, ws⟩ := DataW.trod_string Try.underlying9 h2
    obtain ⟨hs, e4, _⟩ := DataW.trod_bool Try.underlying4 h3
    simp at e0 e3 e4
    subst e0 e1 e2 e3 e4
    obtain ⟨X1, hx1, wx1⟩ := op_expr_cells _ _ _ h4
    obtain ⟨X2, hx2, wx2⟩ := op_expr_cells _ _ _ h5
    have each : ∀ m2, m2 < m → ∀ cs y, DataW.trod enc Try.prog ww 0 (fun _ => true) true m2 102 cs = some y → ∃ a, SIn ww (fun _ => True) a cs ∧ S.Wf a := fun m2 h cs y hy => ih m2 (by omega) cs y hy
    obtain ⟨l0, hr0, w0⟩ := op_row (SIn ww (fun _ => True)) S.Wf S.zero Try.underlying38 h21 (by decide) each h6
    obtain ⟨l1, hr1, w1⟩ := op_row (SIn ww (fun _ => True)) S.Wf S.zero Try.underlying38 h21 (by decide) each h7
    obtain ⟨l2, hr2, w2⟩ := op_row (SIn ww (fun _ => True)) S.Wf S.zero Try.underlying38 h21 (by decide) each h8
    obtain ⟨l3, hr3, w3⟩ := op_row (SIn ww (fun _ => True)) S.Wf S.zero Try.underlying38 h21 (by decide) each h9
    exact ⟨.mk k b s nm hs X1 X2 l0 l1 l2 l3, SIn.mk k b s nm hs X1 X2 l0 l1 l2 l3 [x0, x1, x2, x3, x4, x5] [i0, i1, i2, i3, i4, i5] v0 v1 v2 v3 hx1.xin hx2.xin (.of_row hr0) (.of_row hr1) (.of_row hr2) (.of_row hr3),
      .mk _ _ _ _ _ _ _ _ _ _ _ (W.I_wf wk) (W.I_wf wb) ws wx1 wx2 w0 w1 w2 w3⟩
theorem op_str1 {m : Nat} {c : Value} {x : DataW H × List MemPlace} (h : DataW.trod enc Try.prog ww 0 (fun _ => true) true m 9 [c] = some x) : ∃ s : ByteArray, c = .string s ∧ s.size ≤ maxLen := by
  obtain ⟨s, e, _, w⟩ := DataW.trod_string Try.underlying9 h
  simp at e; exact ⟨s, e, w⟩
theorem op_param_cells (n : Nat) (cs : List Value) (x : DataW H × List MemPlace) (h : DataW.trod enc Try.prog ww 0 (fun _ => true) true n 68 cs = some x) : ∃ e : Pm, PmAt e cs ∧ Pm.Wf e := by
  obtain ⟨xs, m, hm, _, hl, hn, hf⟩ := DataW.trod_struct Try.underlying68 h
  rw [show Try.prog.cellsOf 68 = 3 by kernel_rfl] at hl
  obtain ⟨c0, c1, c2, rfl⟩ : ∃ c0 c1 c2, cs = [c0, c1, c2] := by
    match cs, hl with
    | [c0, c1, c2], _ => exact ⟨c0, c1, c2, rfl⟩
  have hn' : xs.length = 2 := hn
  obtain ⟨_, h0⟩ := X.op_at (show DataW.trod enc Try.prog ww 0 (fun _ => true) true m 33 (List.take (Try.prog.cellsOf 33) (List.drop 0 [c0, c1, c2])) = xs[0]? from hf 0 _ rfl) (by omega)
  obtain ⟨_, h1⟩ := X.op_at (show DataW.trod enc Try.prog ww 0 (fun _ => true) true m 9 (List.take (Try.prog.cellsOf 9) (List.drop 2 [c0, c1, c2])) = xs[1]? from hf 1 _ rfl) (by omega)
  rw [show Try.prog.cellsOf 33 = 2 by kernel_rfl] at h0
  rw [show Try.prog.cellsOf 9 = 1 by kernel_rfl] at h1
  obtain ⟨b, s, e1, e2, wb⟩ := op_type2 h0
  obtain ⟨nm, e3, ws⟩ := op_str1 h1
  subst e1 e2 e3
  exact ⟨⟨b, s, nm⟩, rfl, W.I_wf wb, ws⟩
theorem op_func_cells (n : Nat) (cs : List Value) (x : DataW H × List MemPlace) (h : DataW.trod enc Try.prog ww 0 (fun _ => true) true n 40 cs = some x) : ∃ e : Fn, FnIn ww (fun _ => True) e cs ∧ Fn.Wf e := by
  obtain ⟨xs, m, hm, _, hl, hn, hf⟩ := DataW.trod_struct Try.underlying40 h
  rw [show Try.prog.cellsOf 40 = 5 by kernel_rfl] at hl
  obtain ⟨c0, c1, c2, c3, c4, rfl⟩ : ∃ c0 c1 c2 c3 c4, cs = [c0, c1, c2, c3, c4] := by
    match cs, hl with
    | [c0, c1, c2, c3, c4], _ => exact ⟨c0, c1, c2, c3, c4, rfl⟩
  have hn' : xs.length = 4 := hn
  obtain ⟨_, h0⟩ := X.op_at (show DataW.trod enc Try.prog ww 0 (fun _ => true) true m 9 (List.take (Try.prog.cellsOf 9) (List.drop 0 [c0, c1, c2, c3, c4])) = xs[0]? from hf 0 _ rfl) (by omega)
  obtain ⟨_, h1⟩ := X.op_at (show DataW.trod enc Try.prog ww 0 (fun _ => true) true m 33 (List.take (Try.prog.cellsOf 33) (List.drop 1 [c0, c1, c2, c3, c4])) = xs[1]? from hf 1 _ rfl) (by omega)
  obtain ⟨_, h2⟩ := X.op_at (show DataW.trod enc Try.prog ww 0 (fun _ => true) true m 37 (List.take (Try.prog.cellsOf 37) (List.drop 3 [c0, c1, c2, c3, c4])) = xs[2]? from hf 2 _ rfl) (by omega)
  obtain ⟨_, h3⟩ := X.op_at (show DataW.trod enc Try.prog ww 0 (fun _ => true) true m 38 (List.take (Try.prog.cellsOf 38) (List.drop 4 [c0, c1, c2, c3, c4])) = xs[3]? from hf 3 _ rfl) (by omega)
  rw [show Try.prog.cellsOf 9 = 1 by kernel_rfl] at h0
  rw [show Try.prog.cellsOf 33 = 2 by kernel_rfl] at h1
  rw [show Try.prog.cellsOf 37 = 1 by kernel_rfl] at h2
  rw [show Try.prog.cellsOf 38 = 1 by kernel_rfl] at h3
  obtain ⟨nm, e0, ws⟩ := op_str1 h0
  obtain ⟨b, s, e1, e2, wb⟩ := op_type2 h1
  subst e0 e1 e2
  obtain ⟨ps, hp, wp⟩ := op_row PmAt Pm.Wf ⟨0, false, ⟨#[]⟩⟩ Try.underlying37 (by kernel_rfl) (show 0 < 3 by decide) (fun m2 _ cs y hy => op_param_cells m2 cs y hy) h2
  obtain ⟨bd, hb, wbd⟩ := op_row (SIn ww (fun _ => True)) S.Wf S.zero Try.underlying38 (by kernel_rfl) (show 0 < 21 by decide) (fun m2 _ cs y hy => op_stat_cells m2 cs y hy) h3
  exact ⟨⟨nm, b, s, ps, bd⟩, ⟨c3, c4, rfl, hp, .of_row hb⟩, ws, W.I_wf wb, wp, wbd⟩
theorem op_global_cells (n : Nat) (cs : List Value) (x : DataW H × List MemPlace) (h : DataW.trod enc Try.prog ww 0 (fun _ => true) true n 36 cs = some x) : ∃ e : Gl, GlIn ww (fun _ => True) e cs ∧ Gl.Wf e := by
  obtain ⟨xs, m, hm, _, hl, hn, hf⟩ := DataW.trod_struct Try.underlying36 h
  rw [show Try.prog.cellsOf 36 = 5 by kernel_rfl] at hl
  obtain ⟨c0, c1, c2, c3, c4, rfl⟩ : ∃ c0 c1 c2 c3 c4, cs = [c0, c1, c2, c3, c4] := by
    match cs, hl with
    | [c0, c1, c2, c3, c4], _ => exact ⟨c0, c1, c2, c3, c4, rfl⟩
  have hn' : xs.length = 4 := hn
  obtain ⟨_, h0⟩ := X.op_at (show DataW.trod enc Try.prog ww 0 (fun _ => true) true m 33 (List.take (Try.prog.cellsOf 33) (List.drop 0 [c0, c1, c2, c3, c4])) = xs[0]? from hf 0 _ rfl) (by omega)
  obtain ⟨_, h1⟩ := X.op_at (show DataW.trod enc Try.prog ww 0 (fun _ => true) true m 9 (List.take (Try.prog.cellsOf 9) (List.drop 2 [c0, c1, c2, c3, c4])) = xs[1]? from hf 1 _ rfl) (by omega)
  obtain ⟨_, h2⟩ := X.op_at (show DataW.trod enc Try.prog ww 0 (fun _ => true) true m 3 (List.take (Try.prog.cellsOf 3) (List.drop 3 [c0, c1, c2, c3, c4])) = xs[2]? from hf 2 _ rfl) (by omega)
  obtain ⟨_, h3⟩ := X.op_at (show DataW.trod enc Try.prog ww 0 (fun _ => true) true m 34 (List.take (Try.prog.cellsOf 34) (List.drop 4 [c0, c1, c2, c3, c4])) = xs[3]? from hf 3 _ rfl) (by omega)
  rw [show Try.prog.cellsOf 33 = 2 by kernel_rfl] at h0
  rw [show Try.prog.cellsOf 9 = 1 by kernel_rfl] at h1
  rw [show Try.prog.cellsOf 3 = 1 by kernel_rfl] at h2
  rw [show Try.prog.cellsOf 34 = 1 by kernel_rfl] at h3
  obtain ⟨b, s, e1, e2, wb⟩ := op_type2 h0
  obtain ⟨nm, e0, ws⟩ := op_str1 h1
  obtain ⟨sz, e3, _, wz⟩ := DataW.trod_int Try.underlying3 h2
  simp at e3
  subst e0 e1 e2 e3
  obtain ⟨ks, hk, wk⟩ := op_row (XIn ww (fun _ => True)) X.Wf X.zero Try.underlying34 (by kernel_rfl) (show 0 < 6 by decide) (fun m2 _ cs y hy => by obtain ⟨e, h1, h2⟩ := op_expr_cells m2 cs y hy; exact ⟨e, h1.xin, h2⟩) h3
  exact ⟨⟨b, s, nm, sz, ks⟩, ⟨c4, rfl, hk⟩, W.I_wf wb, ws, W.I_wf wz, wk⟩
/-- Opening a law's argument that is a program. -/
theorem op_program {base : Nat} {v : Value} {d : DataW H} {p : List MemPlace} (hv : Value.okWide Try.prog ww .any base 25 v)
    (h : DataW.Trod enc Try.prog ww 0 (fun _ => true) true 25 v d p) : ∃ (e : Pg) (v0 v1 : Value), v = .agg #[v0, v1] ∧ PgIn ww (fun _ => True) e v0 v1 ∧ Pg.Wf e := by
  obtain ⟨cs, rfl, hsz⟩ := okWide_struct Try.underlying25 hv
  obtain ⟨fuel, hf0⟩ := h
  obtain ⟨xs, m, hm, _, hl, hn, hf⟩ := DataW.trod_struct Try.underlying25 hf0
  obtain ⟨l⟩ := cs
  rw [show Try.prog.cellsOf 25 = 2 by kernel_rfl] at hsz
  obtain ⟨c0, c1, rfl⟩ : ∃ c0 c1, l = [c0, c1] := by
    match l, hsz with
    | [c0, c1], _ => exact ⟨c0, c1, rfl⟩
  have hn' : xs.length = 2 := hn
  obtain ⟨_, h0⟩ := X.op_at (show DataW.trod enc Try.prog ww 0 (fun _ => true) true m 22 (List.take (Try.prog.cellsOf 22) (List.drop 0 [c0, c1])) = xs[0]? from hf 0 _ rfl) (by omega)
  obtain ⟨_, h1⟩ := X.op_at (show DataW.trod enc Try.prog ww 0 (fun _ => true) true m 23 (List.take (Try.prog.cellsOf 23) (List.drop 1 [c0, c1])) = xs[1]? from hf 1 _ rfl) (by omega)
  rw [show Try.prog.cellsOf 22 = 1 by kernel_rfl] at h0
  rw [show Try.prog.cellsOf 23 = 1 by kernel_rfl] at h1
  obtain ⟨gs, hg, wg⟩ := op_row (GlIn ww (fun _ => True)) Gl.Wf ⟨0, false, ⟨#[]⟩, 0, []⟩ Try.underlying22 (by kernel_rfl) (show 0 < 5 by decide) (fun m2 _ cs y hy => op_global_cells m2 cs y hy) h0
  obtain ⟨fs, hq, wf⟩ := op_row (FnIn ww (fun _ => True)) Fn.Wf ⟨⟨#[]⟩, 0, false, [], []⟩ Try.underlying23 (by kernel_rfl) (show 0 < 5 by decide) (fun m2 _ cs y hy => op_func_cells m2 cs y hy) h1
  exact ⟨⟨gs, fs⟩, c0, c1, rfl, ⟨hg, hq⟩, wg, wf⟩
end
end Go.Proofs.Ythdckndjggljpaa
