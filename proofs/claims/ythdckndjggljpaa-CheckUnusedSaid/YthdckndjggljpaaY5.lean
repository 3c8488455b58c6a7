/- Programs, plain: names, types, and what is the first thing wrong with one. No condition. -/
import Derived.Test.YthdckndjggljpaaYA
import Derived.Test.YthdckndjggljpaaXC
namespace Go.Proofs.Ythdckndjggljpaa
open Go.RowKit
set_option linter.unusedVariables false
set_option linter.unusedSimpArgs false
set_option maxRecDepth 100000
namespace Ck
abbrev Nm := List UInt8
/-- What a local name stands for: its type, and its slot. -/
structure Loc where
  nm : Nm
  b : Int
  s : Bool
  slot : Nat
/-- Within a function: levels (the innermost last), names had, slots, loops open. -/
structure Env where
  lv : List (List Loc)
  used : List Nm
  slots : List (Int × Bool)
  loops : Nat
/-- What is found: type, local, slot, size. -/
structure Pl where
  b : Int
  s : Bool
  loc : Bool
  slot : Nat
  size : Int
def Env.local? (e : Env) (n : Nm) : Option Loc := (e.lv.flatten.reverse).find? (fun l => l.nm == n)
def glob? (gs : List Gl) (n : Nm) : Option (Nat × Gl) := (gs.zipIdx.find? (fun g => g.1.nm.data.toList == n)).map fun g => (g.2, g.1)
def find (P : Pg) (e : Env) (n : Nm) : Option Pl :=
  match e.local? n with
  | some l => some ⟨l.b, l.s, true, l.slot, 0⟩
  | none => (glob? P.gs n).map fun g => ⟨g.2.b, g.2.s, false, g.1, g.2.size⟩
def put : Nm := [112, 117, 116]
def get : Nm := [103, 101, 116]
/-- What a function tells, and what it takes. -/
def called (P : Pg) (n : Nm) : Option ((Int × Bool) × List (Int × Bool)) :=
  if n = put then some ((0, false), [(16, true)]) else if n = get then some ((16, true), [])
  else (P.fs.find? (fun f => f.nm.data.toList == n)).map fun f => ((f.b, f.s), f.ps.map fun p => (p.b, p.s))
/-- A type, or what is wrong. -/
structure Ty where
  b : Int
  s : Bool
  e : Int
/-- The type of one that must tell something. -/
def Ty.val (t : Ty) : Ty := if t.e = 0 ∧ t.b = 0 then ⟨t.b, t.s, 9⟩ else t
def first : List Ty → Int
  | [] => 0
  | t :: ts => if t.e = 0 then first ts else t.e
/-- The type of a node whose kids have these. -/
def tyOf (P : Pg) (e : Env) (k b : Int) (s : Bool) (n : Nm) (ts : List Ty) : Ty :=
  if k = 4 then
    match called P n with
    | none => ⟨0, false, 7⟩
    | some (r, ps) => if ps.length ≠ ts.length then ⟨0, false, 5⟩ else if first ts ≠ 0 then ⟨0, false, first ts⟩ else ⟨r.1, r.2, 0⟩
  else if first ts ≠ 0 then ⟨0, false, first ts⟩
  else if k = 1 ∨ k = 5 then ⟨b, s, 0⟩
  else if k = 2 ∨ k = 3 then
    match find P e n with
    | none => ⟨0, false, 7⟩
    | some p => if (decide (0 < p.size)) != (k == 3) then ⟨0, false, 9⟩ else ⟨p.b, p.s, 0⟩
  else if k = 6 ∨ k = 7 then ⟨W.pb (ts.headD ⟨0, false, 0⟩).b, W.ps (ts.headD ⟨0, false, 0⟩).b (ts.headD ⟨0, false, 0⟩).s, 0⟩
  else if k = 8 ∨ k = 25 ∨ k = 26 then ⟨16, true, 0⟩
  else ⟨W.rb k (ts.getD 0 ⟨0, false, 0⟩).b (ts.getD 1 ⟨0, false, 0⟩).b, W.rs k (ts.getD 0 ⟨0, false, 0⟩).b (ts.getD 0 ⟨0, false, 0⟩).s (ts.getD 1 ⟨0, false, 0⟩).b (ts.getD 1 ⟨0, false, 0⟩).s, 0⟩
mutual
def ty (P : Pg) (e : Env) : X → Ty
  | .mk k _ b s nm ks => tyOf P e k b s nm.data.toList (tys P e ks)
/-- Of each kid, as one that must tell something. -/
def tys (P : Pg) (e : Env) : List X → List Ty
  | [] => []
  | x :: xs => (ty P e x).val :: tys P e xs
end
def Env.open (e : Env) : Env := { e with lv := e.lv ++ [[]] }
def Env.close (e : Env) : Env := { e with lv := e.lv.dropLast }
/-- A name is given a place; none: it had one. -/
def Env.declare (e : Env) (b : Int) (s : Bool) (n : Nm) : Option Env :=
  if e.used.contains n then none else some { e with lv := e.lv.dropLast ++ [(e.lv.getLastD []) ++ [⟨n, b, s, e.slots.length⟩]], used := e.used ++ [n], slots := e.slots ++ [(b, s)] }
/-- On, if nothing was wrong. -/
def on (r : Int × Env) (f : Env → Int × Env) : Int × Env := if r.1 = 0 then f r.2 else r
def vals (P : Pg) (x : X) (e : Env) : Int × Env := ((ty P e x).val.e, e)
def may (P : Pg) (has : Bool) (x : X) (e : Env) : Int × Env := if has = true then vals P x e else (0, e)
def shut (r : Int × Env) : Int × Env := (r.1, r.2.close)
def more (e : Env) : Env := { e with loops := e.loops + 1 }
def less (r : Int × Env) : Int × Env := (r.1, { r.2 with loops := r.2.loops - 1 })
mutual
/-- A statement: what is wrong, and the scope behind it. -/
def stat (P : Pg) (rb : Int) : S → Env → Int × Env
  | .mk k b s nm has x i l0 l1 l2 l3, e =>
    if k = 2 then on (may P has x e) fun e => match e.declare b s nm.data.toList with | none => (7, e) | some e => (0, e)
    else if k = 3 then
      on (may P has i e) fun e => match find P e nm.data.toList with
        | none => (7, e)
        | some p => if (decide (0 < p.size)) != has then (9, e) else vals P x e
    else if k = 4 then ((ty P e x).e, e)
    else if k = 8 then (if has != (decide (0 < rb)) then (9, e) else may P has x e)
    else if k = 9 ∨ k = 10 then (if e.loops = 0 then 8 else 0, e)
    else if k = 5 then on (vals P x e) fun e => on (shut (stats P rb l2 e.open)) fun e => shut (stats P rb l3 e.open)
    else if k = 6 then on (vals P x e) fun e => less (shut (stats P rb l2 (more e).open))
    else if k = 7 then on (shut (stats P rb l0 e.open)) fun e => on (may P has x e) fun e => on (shut (stats P rb l1 e.open)) fun e => less (shut (stats P rb l2 (more e).open))
    else if k = 11 then shut (stats P rb l2 e.open)
    else (0, e)
def stats (P : Pg) (rb : Int) : List S → Env → Int × Env
  | [], e => (0, e)
  | x :: xs, e => on (stat P rb x e) fun e => stats P rb xs e
end
/-- A function's parameters are declared. -/
def enter : List Pm → Env → Option Env
  | [], e => some e
  | p :: ps, e => match e.declare p.b p.s p.nm.data.toList with | none => none | some e => enter ps e
def Env.new : Env := ⟨[[]], [], [], 0⟩
def wrd (b : Int) : Int := if b = 8 then 1 else b / 16
def words (l : List (Int × Bool)) : Int := (l.map fun t => wrd t.1).sum
/-- What is wrong with a function. -/
def func (P : Pg) (f : Fn) : Int := match enter f.ps Env.new with
  | none => 7
  | some e => if (stats P f.b f.body e.open).1 ≠ 0 then (stats P f.b f.body e.open).1 else if 200 < words (stats P f.b f.body e.open).2.slots then 4 else 0
noncomputable def inits : List X → Int
  | [] => 0
  | x :: xs => if (X.cst x).e = 0 then inits xs else (X.cst x).e
/-- The variables of all, from the i-th one on: names taken, words so far. -/
noncomputable def globs : Nat → List Nm → Int → List Gl → (Int × Nat) × List Nm
  | i, tk, all, [] => ((0, i), tk)
  | i, tk, all, g :: gs =>
    if tk.contains g.nm.data.toList then ((7, i), tk)
    else if 8000 < all + (if g.size < 1 then 1 else g.size) * wrd g.b then ((4, i), tk)
    else if inits g.ini ≠ 0 then ((inits g.ini, i), tk)
    else globs (i + 1) (tk ++ [g.nm.data.toList]) (all + (if g.size < 1 then 1 else g.size) * wrd g.b) gs
def names : Nat → List Nm → List Fn → Int × Nat
  | i, tk, [] => (0, i)
  | i, tk, f :: fs => if tk.contains f.nm.data.toList then (7, i) else names (i + 1) (tk ++ [f.nm.data.toList]) fs
def funcs (P : Pg) : Nat → List Fn → Int × Nat
  | i, [] => (0, i)
  | i, f :: fs => if func P f = 0 then funcs P (i + 1) fs else (func P f, i)
def main : Nm := [109, 97, 105, 110]
def hasMain (P : Pg) : Bool := P.fs.any fun f => f.nm.data.toList == main && f.ps.isEmpty
/-- The first thing that is wrong with a program, and where. -/
noncomputable def check (P : Pg) : Int × Nat :=
  if Pg.wrong P ≠ 0 then (Pg.wrong P, 0)
  else if (globs 0 [put, get] 0 P.gs).1.1 ≠ 0 then (globs 0 [put, get] 0 P.gs).1
  else if (names P.gs.length (globs 0 [put, get] 0 P.gs).2 P.fs).1 ≠ 0 then names P.gs.length (globs 0 [put, get] 0 P.gs).2 P.fs
  else if (funcs P P.gs.length P.fs).1 ≠ 0 then funcs P P.gs.length P.fs
  else if hasMain P = false then (6, P.gs.length + P.fs.length)
  else (0, 0)
end Ck
end Go.Proofs.Ythdckndjggljpaa
