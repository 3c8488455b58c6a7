/- Reading a program, plain: what tokens say. No condition. -/
import Derived.Test.YtfkndjifhmkojaaYA
namespace Go.Proofs.Ytfkndjifhmkojaa
open Go.RowKit
set_option linter.unusedVariables false
set_option linter.unusedSimpArgs false
set_option maxRecDepth 100000
namespace Ps
abbrev Tok := Tk.Tok
abbrev Bs := List UInt8
/-- What comes, and what is left; or what is wrong, and where. -/
abbrev Res (α : Type) := Except (Int × Nat) (α × List Tok)
def seq {α β : Type} (r : Res α) (f : α → List Tok → Res β) : Res β := match r with
  | .error e => .error e
  | .ok p => f p.1 p.2
def pos (fin : Nat) : List Tok → Nat
  | [] => fin
  | t :: _ => t.pos
def sees (s : Bs) : List Tok → Bool
  | [] => false
  | t :: _ => t.kind != 2 && t.text == s
def need (fin : Nat) (s : Bs) (l : List Tok) : Res Unit := if sees s l = true then .ok ((), l.tail) else .error (2, pos fin l)
def name (fin : Nat) : List Tok → Res Bs
  | [] => .error (2, fin)
  | t :: l => if t.kind ≠ 1 then .error (2, t.pos) else if Tk.nmd t.text = false then .error (7, t.pos) else .ok (t.text, l)
/-- The type that comes. -/
def typed : List Tok → Option (Int × Bool)
  | [] => none
  | t :: _ => if t.kind = 1 ∧ (W.nt t.text).2.2 = true then some ((W.nt t.text).1, (W.nt t.text).2.1) else none
def binK (s : Bs) : Int :=
  if s = [124, 124] then 26 else if s = [38, 38] then 25 else if s = [124] then 24 else if s = [94] then 23 else if s = [38] then 22 else if s = [33, 61] then 21 else if s = [61, 61] then 20 else if s = [62, 61] then 19 else if s = [62] then 18 else if s = [60, 61] then 17 else if s = [60] then 16 else if s = [62, 62] then 15 else if s = [60, 60] then 14 else if s = [45] then 13 else if s = [43] then 12 else if s = [37] then 11 else if s = [47] then 10 else if s = [42] then 9 else 0
def lev (k : Int) : Nat :=
  if k = 26 then 1 else if k = 25 then 2 else if k = 24 then 3 else if k = 23 then 4 else if k = 22 then 5 else if k = 20 ∨ k = 21 then 6 else if 16 ≤ k ∧ k ≤ 19 then 7
  else if k = 14 ∨ k = 15 then 8 else if k = 12 ∨ k = 13 then 9 else if 9 ≤ k ∧ k ≤ 11 then 10 else 0
/-- The kind of a sign at a level (0: it is none there). -/
def bin (i : Nat) (s : Bs) : Int := if i = lev (binK s) then binK s else 0
def un (s : Bs) : Int := if s = [33] then 8 else if s = [126] then 7 else if s = [45] then 6 else 0
abbrev nm (s : Bs) : ByteArray := ⟨s.toArray⟩
def xz : X := .mk 0 0 0 false ⟨#[]⟩ []
def xk (k : Int) (ks : List X) : X := .mk k 0 0 false ⟨#[]⟩ ks
def xn (k : Int) (s : Bs) (ks : List X) : X := .mk k 0 0 false (nm s) ks
def sk (k : Int) : S := .mk k 0 false ⟨#[]⟩ false xz xz [] [] [] []
/-- What the readers of parts do, so deep as they are known. -/
structure F where
  expr : Nat → List Tok → Res X
  level : Nat → Nat → List Tok → Res X
  tail : Nat → Nat → X → List Tok → Res X
  unary : Nat → List Tok → Res X
  args : Nat → List X → List Tok → Res (List X)
  stat : Nat → List Tok → Res S
  block : Nat → List S → List Tok → Res (List S)
  params : List Pm → List Tok → Res (List Pm)
  inits : Int → List X → List Tok → Res (List X)
  prog : Pg → List Tok → Except (Int × Nat) Pg
section
variable (P : F) (fin : Nat)
def exprS (d : Nat) (l : List Tok) : Res X := if 400 ≤ d then .error (4, pos fin l) else P.level 1 (d + 1) l
def levelS (i d : Nat) (l : List Tok) : Res X := if 11 ≤ i then P.unary d l else seq (P.level (i + 1) d l) fun x l => P.tail i d x l
def tailS (i d : Nat) (x : X) : List Tok → Res X
  | [] => .ok (x, [])
  | t :: l => if t.kind = 3 ∧ 0 < bin i t.text then seq (P.level (i + 1) d l) fun y l => P.tail i d (xk (bin i t.text) [x, y]) l else .ok (x, t :: l)
def idS (d : Nat) (l : List Tok) : Res X := seq (name fin l) fun s l =>
  if sees [91] l = true then seq (P.expr d l.tail) fun x l => seq (need fin [93] l) fun _ l => .ok (xn 3 s [x], l)
  else if sees [40] l = true then seq (P.args d [] l.tail) fun ks l => .ok (xn 4 s ks, l)
  else .ok (xn 2 s [], l)
def primS (d : Nat) (l : List Tok) : Res X :=
  if sees [40] l = true then seq (P.expr d l.tail) fun x l => seq (need fin [41] l) fun _ l => .ok (x, l)
  else match l with
    | [] => idS P fin d []
    | t :: l' => if t.kind = 2 then .ok (.mk 1 t.n t.bits t.sg ⟨#[]⟩ [], l') else idS P fin d (t :: l')
/-- The type that stands in brackets ahead. -/
def casts : List Tok → Option (Int × Bool)
  | [] => none
  | t :: l => if t.kind ≠ 2 ∧ t.text = [40] then typed l else none
def unaryS (d : Nat) : List Tok → Res X
  | [] => primS P fin d []
  | t :: l => if t.kind = 3 ∧ 0 < un t.text then (if 400 ≤ d then .error (4, t.pos) else seq (P.unary (d + 1) l) fun y l => .ok (xk (un t.text) [y], l))
    else match casts (t :: l) with
      | some ty => if 400 ≤ d then .error (4, t.pos) else seq (need fin [41] l.tail) fun _ l => seq (P.unary (d + 1) l) fun y l => .ok (.mk 5 0 ty.1 ty.2 ⟨#[]⟩ [y], l)
      | none => primS P fin d (t :: l)
def argsS (d : Nat) (acc : List X) (l : List Tok) : Res (List X) :=
  if sees [41] l = true then .ok (acc, l.tail)
  else seq (if acc = [] then .ok ((), l) else need fin [44] l) fun _ l => if acc.length = 8 then .error (5, pos fin l) else seq (P.expr d l) fun x l => P.args d (acc ++ [x]) l
def setS (d : Nat) (l : List Tok) : Res S := seq (P.expr d l) fun x l1 =>
  if sees [61] l1 = true then
    (if x.kind = 2 ∨ x.kind = 3 then seq (P.expr d l1.tail) fun y l2 => .ok (.mk 3 0 false x.name (x.kind == 3) y (if x.kind = 3 then x.kids.headD xz else xz) [] [] [] [], l2) else .error (8, pos fin l))
  else .ok (.mk 4 0 false ⟨#[]⟩ false x xz [] [] [] [], l1)
def setsS (s : Bs) (d : Nat) (l : List Tok) : Res (List S) := if sees s l = true then .ok ([], l) else seq (setS P fin d l) fun x l => .ok ([x], l)
def bodyS (d : Nat) (l : List Tok) : Res (List S) := seq (P.stat d l) fun x l => .ok (if x.kind = 11 then x.body else [x], l)
def condS (d : Nat) (l : List Tok) : Res X := seq (need fin [40] l) fun _ l => seq (P.expr d l) fun x l => seq (need fin [41] l) fun _ l => .ok (x, l)
/-- An expression, where no such sign comes. -/
def mayS (s : Bs) (d : Nat) (l : List Tok) : Res (Bool × X) := if sees s l = true then .ok ((false, xz), l) else seq (P.expr d l) fun x l => .ok ((true, x), l)
def endS (x : S) (l : List Tok) : Res S := seq (need fin [59] l) fun _ l => .ok (x, l)
def declS (b : Int) (s : Bool) (d : Nat) (l : List Tok) : Res S := seq (name fin l) fun n l =>
  if sees [61] l = true then seq (P.expr d l.tail) fun x l => endS fin (.mk 2 b s (nm n) true x xz [] [] [] []) l else endS fin (.mk 2 b s (nm n) false xz xz [] [] [] []) l
def ifS (d : Nat) (l : List Tok) : Res S := seq (condS P fin d l) fun x l => seq (bodyS P d l) fun b l =>
  if sees [101, 108, 115, 101] l = true then seq (bodyS P d l.tail) fun e l => .ok (.mk 5 0 false ⟨#[]⟩ false x xz [] [] b e, l) else .ok (.mk 5 0 false ⟨#[]⟩ false x xz [] [] b [], l)
def whileS (d : Nat) (l : List Tok) : Res S := seq (condS P fin d l) fun x l => seq (bodyS P d l) fun b l => .ok (.mk 6 0 false ⟨#[]⟩ false x xz [] [] b [], l)
def forS (d : Nat) (l : List Tok) : Res S := seq (need fin [40] l) fun _ l => seq (setsS P fin [59] d l) fun i l => seq (need fin [59] l) fun _ l => seq (mayS P [59] d l) fun x l => seq (need fin [59] l) fun _ l =>
  seq (setsS P fin [41] d l) fun st l => seq (need fin [41] l) fun _ l => seq (bodyS P d l) fun b l => .ok (.mk 7 0 false ⟨#[]⟩ x.1 x.2 xz i st b [], l)
def retS (d : Nat) (l : List Tok) : Res S := seq (mayS P [59] d l) fun x l => endS fin (.mk 8 0 false ⟨#[]⟩ x.1 x.2 xz [] [] [] []) l
def innerS (d : Nat) (l : List Tok) : Res S :=
  if sees [59] l = true then .ok (sk 1, l.tail)
  else if sees [123] l = true then seq (P.block d [] l.tail) fun b l => .ok (.mk 11 0 false ⟨#[]⟩ false xz xz [] [] b [], l)
  else if sees [105, 102] l = true then ifS P fin d l.tail
  else if sees [119, 104, 105, 108, 101] l = true then whileS P fin d l.tail
  else if sees [102, 111, 114] l = true then forS P fin d l.tail
  else if sees [114, 101, 116, 117, 114, 110] l = true then retS P fin d l.tail
  else if sees [98, 114, 101, 97, 107] l = true then endS fin (sk 9) l.tail
  else if sees [99, 111, 110, 116, 105, 110, 117, 101] l = true then endS fin (sk 10) l.tail
  else match typed l with
    | some t => declS P fin t.1 t.2 d l.tail
    | none => seq (setS P fin d l) fun x l => endS fin x l
def statS (d : Nat) (l : List Tok) : Res S := if 400 ≤ d then .error (4, pos fin l) else innerS P fin (d + 1) l
def blockS (d : Nat) (acc : List S) (l : List Tok) : Res (List S) :=
  if sees [125] l = true then .ok (acc, l.tail) else if l = [] then .error (2, fin) else seq (P.stat d l) fun x l => P.block d (acc ++ [x]) l
def paramsS (acc : List Pm) (l : List Tok) : Res (List Pm) :=
  if sees [41] l = true then .ok (acc, l.tail)
  else seq (if acc = [] then .ok ((), l) else need fin [44] l) fun _ l => if acc.length = 8 then .error (5, pos fin l) else
    match typed l with
    | none => .error (2, pos fin l)
    | some t => seq (name fin l.tail) fun n l => P.params (acc ++ [⟨t.1, t.2, nm n⟩]) l
def fnS (b : Int) (s : Bool) (n : Bs) (l : List Tok) : Res Fn := seq (P.params [] l) fun ps l => seq (need fin [123] l) fun _ l => seq (P.block 0 [] l) fun bd l => .ok (⟨nm n, b, s, ps, bd⟩, l)
def initsS (z : Int) (acc : List X) (l : List Tok) : Res (List X) :=
  if sees [125] l = true then .ok (acc, l.tail)
  else seq (if acc = [] then .ok ((), l) else need fin [44] l) fun _ l => if (acc.length : Int) = z then .error (5, pos fin l) else seq (P.expr 0 l) fun x l => P.inits z (acc ++ [x]) l
def sizeS (l : List Tok) : Res Int :=
  if sees [91] l = true then match l.tail with
    | [] => .error (2, fin)
    | t :: l => if t.kind ≠ 2 then .error (2, t.pos) else if t.n < 1 ∨ 8000 < t.n then .error (3, t.pos) else seq (need fin [93] l) fun _ l => .ok (t.n, l)
  else .ok (0, l)
def glS (b : Int) (s : Bool) (n : Bs) (l : List Tok) : Res Gl := seq (sizeS fin l) fun z l =>
  if sees [61] l = true then
    (if z = 0 then seq (P.expr 0 l.tail) fun x l => seq (need fin [59] l) fun _ l => .ok (⟨b, s, nm n, z, [x]⟩, l)
     else seq (need fin [123] l.tail) fun _ l => seq (P.inits z [] l) fun xs l => seq (need fin [59] l) fun _ l => .ok (⟨b, s, nm n, z, xs⟩, l))
  else seq (need fin [59] l) fun _ l => .ok (⟨b, s, nm n, z, []⟩, l)
/-- A type, or none: void. -/
def headS (l : List Tok) : Option (Option (Int × Bool)) := match typed l with
  | some t => some (some t)
  | none => if sees [118, 111, 105, 100] l = true then some none else none
def progS (g : Pg) (l : List Tok) : Except (Int × Nat) Pg :=
  if l = [] then .ok g
  else match headS l with
    | none => .error (2, pos fin l)
    | some h => match name fin l.tail with
      | .error e => .error e
      | .ok (n, l1) =>
        if sees [40] l1 = true then (if g.fs.length = 100 then .error (5, pos fin l) else match fnS P fin (h.getD (0, false)).1 (h.getD (0, false)).2 n l1.tail with
          | .error e => .error e
          | .ok (f, l2) => P.prog ⟨g.gs, g.fs ++ [f]⟩ l2)
        else match h with
          | none => .error (2, pos fin l1)
          | some t => match glS P fin t.1 t.2 n l1 with
            | .error e => .error e
            | .ok (x, l2) => P.prog ⟨g.gs ++ [x], g.fs⟩ l2
end
/-- Readers, so deep. -/
def at' (fin : Nat) : Nat → F
  | 0 => ⟨fun _ _ => .error (1, 0), fun _ _ _ => .error (1, 0), fun _ _ _ _ => .error (1, 0), fun _ _ => .error (1, 0), fun _ _ _ => .error (1, 0), fun _ _ => .error (1, 0), fun _ _ _ => .error (1, 0), fun _ _ => .error (1, 0), fun _ _ _ => .error (1, 0), fun _ _ => .error (1, 0)⟩
  | n + 1 => ⟨exprS (at' fin n) fin, levelS (at' fin n), tailS (at' fin n), unaryS (at' fin n) fin, argsS (at' fin n) fin, statS (at' fin n) fin, blockS (at' fin n) fin, paramsS (at' fin n) fin, initsS (at' fin n) fin, progS (at' fin n) fin⟩
/-- What a text says. -/
def read (s : Bs) : Except (Int × Nat) Pg :=
  if 65536 < s.length then .error (4, 0)
  else match Tk.frm s 0 with
    | .error e => .error e
    | .ok ts => match (at' s.length (32 * ts.length + 32)).prog ⟨[], []⟩ ts with
      | .error e => .error e
      | .ok g => if Pg.wrong g ≠ 0 then .error (4, 0) else .ok g
end Ps
end Go.Proofs.Ytfkndjifhmkojaa
/- Reading a program, plain: each reader takes tokens away. No condition. -/
namespace Go.Proofs.Ytfkndjifhmkojaa
open Go.RowKit
set_option linter.unusedVariables false
set_option linter.unusedSimpArgs false
set_option maxRecDepth 100000
namespace Ps
theorem seq_ok {α β : Type} {r : Res α} {f : α → List Tok → Res β} {q : β × List Tok} (h : seq r f = .ok q) : ∃ x l, r = .ok (x, l) ∧ f x l = .ok q := by
  unfold seq at h
  split at h
  · cases h
  · rename_i p; exact ⟨p.1, p.2, rfl, h⟩
theorem sees_lt {s : Bs} {l : List Tok} (h : sees s l = true) : l.tail.length < l.length := by
  cases l with
  | nil => cases h
  | cons t l => simp
theorem need_lt {fin : Nat} {s : Bs} {l l' : List Tok} {u : Unit} (h : need fin s l = .ok (u, l')) : l'.length < l.length := by
  unfold need at h
  split at h
  · rename_i h1; injection h with h; injection h with _ h; subst h; exact sees_lt h1
  · cases h
theorem name_lt {fin : Nat} {s : Bs} {l l' : List Tok} (h : name fin l = .ok (s, l')) : l'.length < l.length := by
  cases l with
  | nil => cases h
  | cons t l =>
    rw [name] at h
    split at h
    · cases h
    split at h
    · cases h
    · injection h with h; injection h with _ h; subst h; simp
theorem typed_lt {l : List Tok} {t : Int × Bool} (h : typed l = some t) : l.tail.length < l.length := by
  cases l with
  | nil => cases h
  | cons t l => simp
/-- Each reader takes tokens away. -/
structure Less (P : F) : Prop where
  expr : ∀ {d l x l'}, P.expr d l = .ok (x, l') → l'.length < l.length
  level : ∀ {i d l x l'}, P.level i d l = .ok (x, l') → l'.length < l.length
  tail : ∀ {i d x0 l x l'}, P.tail i d x0 l = .ok (x, l') → l'.length ≤ l.length
  unary : ∀ {d l x l'}, P.unary d l = .ok (x, l') → l'.length < l.length
  args : ∀ {d acc l x l'}, P.args d acc l = .ok (x, l') → l'.length < l.length
  stat : ∀ {d l x l'}, P.stat d l = .ok (x, l') → l'.length < l.length
  block : ∀ {d acc l x l'}, P.block d acc l = .ok (x, l') → l'.length < l.length
  params : ∀ {acc l x l'}, P.params acc l = .ok (x, l') → l'.length < l.length
  inits : ∀ {z acc l x l'}, P.inits z acc l = .ok (x, l') → l'.length < l.length
section
variable {P : F} {fin : Nat}
theorem okp {α : Type} {x y : α} {l l' : List Tok} (h : (Except.ok (x, l) : Res α) = .ok (y, l')) : x = y ∧ l = l' := by injection h with h; injection h with h1 h2; exact ⟨h1, h2⟩
theorem first_lt {α : Type} {acc : List α} {s : Bs} {l l' : List Tok} {u : Unit} (h : (if acc = [] then (.ok ((), l) : Res Unit) else need fin s l) = .ok (u, l')) : l'.length ≤ l.length := by
  split at h
  · obtain ⟨_, rfl⟩ := okp h; exact Nat.le_refl _
  · exact Nat.le_of_lt (need_lt h)
theorem idS_lt (H : Less P) {d : Nat} {l l' : List Tok} {x : X} (h : idS P fin d l = .ok (x, l')) : l'.length < l.length := by
  obtain ⟨s, l1, h1, h⟩ := seq_ok h
  have := name_lt h1
  split at h
  · rename_i hs
    have := sees_lt hs
    obtain ⟨_, l2, h2, h⟩ := seq_ok h
    have := H.expr h2
    obtain ⟨_, l3, h3, h⟩ := seq_ok h
    have := need_lt h3
    obtain ⟨_, rfl⟩ := okp h
    omega
  split at h
  · rename_i hs
    have := sees_lt hs
    obtain ⟨_, l2, h2, h⟩ := seq_ok h
    have := H.args h2
    obtain ⟨_, rfl⟩ := okp h
    omega
  · obtain ⟨_, rfl⟩ := okp h
    omega
theorem primS_lt (H : Less P) {d : Nat} {l l' : List Tok} {x : X} (h : primS P fin d l = .ok (x, l')) : l'.length < l.length := by
  unfold primS at h
  split at h
  · rename_i hs
    have := sees_lt hs
    obtain ⟨_, l2, h2, h⟩ := seq_ok h
    have := H.expr h2
    obtain ⟨_, l3, h3, h⟩ := seq_ok h
    have := need_lt h3
    obtain ⟨_, rfl⟩ := okp h
    omega
  · split at h
    · exact idS_lt H h
    · split at h
      · obtain ⟨_, rfl⟩ := okp h; simp
      · exact idS_lt H h
theorem casts_lt {l : List Tok} {t : Int × Bool} (h : casts l = some t) : l.tail.tail.length < l.tail.length := by
  cases l with
  | nil => cases h
  | cons t l =>
    rw [casts] at h
    split at h
    · exact typed_lt (l := l) h
    · cases h
theorem unaryS_lt (H : Less P) {d : Nat} {l l' : List Tok} {x : X} (h : unaryS P fin d l = .ok (x, l')) : l'.length < l.length := by
  cases l with
  | nil => exact primS_lt H h
  | cons t l =>
    rw [unaryS] at h
    split at h
    · split at h
      · cases h
      obtain ⟨_, l2, h2, h⟩ := seq_ok h
      have := H.unary h2
      obtain ⟨_, rfl⟩ := okp h
      simp; omega
    · split at h
      · rename_i ty hc
        have := casts_lt hc
        split at h
        · cases h
        obtain ⟨_, l2, h2, h⟩ := seq_ok h
        have := need_lt h2
        obtain ⟨_, l3, h3, h⟩ := seq_ok h
        have := H.unary h3
        obtain ⟨_, rfl⟩ := okp h
        simp at *; omega
      · exact primS_lt H h
theorem setS_lt (H : Less P) {d : Nat} {l l' : List Tok} {x : S} (h : setS P fin d l = .ok (x, l')) : l'.length < l.length := by
  obtain ⟨y, l1, h1, h⟩ := seq_ok h
  have := H.expr h1
  split at h
  · rename_i hs
    have := sees_lt hs
    split at h
    · obtain ⟨_, l2, h2, h⟩ := seq_ok h
      have := H.expr h2
      obtain ⟨_, rfl⟩ := okp h
      omega
    · cases h
  · obtain ⟨_, rfl⟩ := okp h
    omega
theorem setsS_lt (H : Less P) {s : Bs} {d : Nat} {l l' : List Tok} {x : List S} (h : setsS P fin s d l = .ok (x, l')) : l'.length ≤ l.length := by
  unfold setsS at h
  split at h
  · obtain ⟨_, rfl⟩ := okp h; exact Nat.le_refl _
  · obtain ⟨_, l2, h2, h⟩ := seq_ok h
    have := setS_lt H h2
    obtain ⟨_, rfl⟩ := okp h
    omega
theorem bodyS_lt (H : Less P) {d : Nat} {l l' : List Tok} {x : List S} (h : bodyS P d l = .ok (x, l')) : l'.length < l.length := by
  obtain ⟨_, l2, h2, h⟩ := seq_ok h
  have := H.stat h2
  obtain ⟨_, rfl⟩ := okp h
  omega
theorem condS_lt (H : Less P) {d : Nat} {l l' : List Tok} {x : X} (h : condS P fin d l = .ok (x, l')) : l'.length < l.length := by
  obtain ⟨_, l1, h1, h⟩ := seq_ok h
  have := need_lt h1
  obtain ⟨_, l2, h2, h⟩ := seq_ok h
  have := H.expr h2
  obtain ⟨_, l3, h3, h⟩ := seq_ok h
  have := need_lt h3
  obtain ⟨_, rfl⟩ := okp h
  omega
theorem mayS_lt (H : Less P) {s : Bs} {d : Nat} {l l' : List Tok} {x : Bool × X} (h : mayS P s d l = .ok (x, l')) : l'.length ≤ l.length := by
  unfold mayS at h
  split at h
  · obtain ⟨_, rfl⟩ := okp h; exact Nat.le_refl _
  · obtain ⟨_, l2, h2, h⟩ := seq_ok h
    have := H.expr h2
    obtain ⟨_, rfl⟩ := okp h
    omega
theorem endS_lt {x y : S} {l l' : List Tok} (h : endS fin x l = .ok (y, l')) : l'.length < l.length := by
  obtain ⟨_, l1, h1, h⟩ := seq_ok h
  have := need_lt h1
  obtain ⟨_, rfl⟩ := okp h
  omega
theorem declS_lt (H : Less P) {b : Int} {s : Bool} {d : Nat} {l l' : List Tok} {x : S} (h : declS P fin b s d l = .ok (x, l')) : l'.length < l.length := by
  obtain ⟨n, l1, h1, h⟩ := seq_ok h
  have := name_lt h1
  split at h
  · rename_i hs
    have := sees_lt hs
    obtain ⟨_, l2, h2, h⟩ := seq_ok h
    have := H.expr h2
    have := endS_lt h
    omega
  · have := endS_lt h
    omega
theorem ifS_lt (H : Less P) {d : Nat} {l l' : List Tok} {x : S} (h : ifS P fin d l = .ok (x, l')) : l'.length < l.length := by
  obtain ⟨_, l1, h1, h⟩ := seq_ok h
  have := condS_lt H h1
  obtain ⟨_, l2, h2, h⟩ := seq_ok h
  have := bodyS_lt H h2
  split at h
  · rename_i hs
    have := sees_lt hs
    obtain ⟨_, l3, h3, h⟩ := seq_ok h
    have := bodyS_lt H h3
    obtain ⟨_, rfl⟩ := okp h
    omega
  · obtain ⟨_, rfl⟩ := okp h
    omega
theorem whileS_lt (H : Less P) {d : Nat} {l l' : List Tok} {x : S} (h : whileS P fin d l = .ok (x, l')) : l'.length < l.length := by
  obtain ⟨_, l1, h1, h⟩ := seq_ok h
  have := condS_lt H h1
  obtain ⟨_, l2, h2, h⟩ := seq_ok h
  have := bodyS_lt H h2
  obtain ⟨_, rfl⟩ := okp h
  omega
theorem forS_lt (H : Less P) {d : Nat} {l l' : List Tok} {x : S} (h : forS P fin d l = .ok (x, l')) : l'.length < l.length := by
  obtain ⟨_, l1, h1, h⟩ := seq_ok h
  have := need_lt h1
  obtain ⟨_, l2, h2, h⟩ := seq_ok h
  have := setsS_lt H h2
  obtain ⟨_, l3, h3, h⟩ := seq_ok h
  have := need_lt h3
  obtain ⟨_, l4, h4, h⟩ := seq_ok h
  have := mayS_lt H h4
  obtain ⟨_, l5, h5, h⟩ := seq_ok h
  have := need_lt h5
  obtain ⟨_, l6, h6, h⟩ := seq_ok h
  have := setsS_lt H h6
  obtain ⟨_, l7, h7, h⟩ := seq_ok h
  have := need_lt h7
  obtain ⟨_, l8, h8, h⟩ := seq_ok h
  have := bodyS_lt H h8
  obtain ⟨_, rfl⟩ := okp h
  omega
theorem retS_lt (H : Less P) {d : Nat} {l l' : List Tok} {x : S} (h : retS P fin d l = .ok (x, l')) : l'.length < l.length := by
  obtain ⟨_, l1, h1, h⟩ := seq_ok h
  have := mayS_lt H h1
  have := endS_lt h
  omega
theorem innerS_lt (H : Less P) {d : Nat} {l l' : List Tok} {x : S} (h : innerS P fin d l = .ok (x, l')) : l'.length < l.length := by
  unfold innerS at h
  split at h
  · rename_i hs; have := sees_lt hs; obtain ⟨_, rfl⟩ := okp h; omega
  split at h
  · rename_i hs; have := sees_lt hs
    obtain ⟨_, l2, h2, h⟩ := seq_ok h
    have := H.block h2
    obtain ⟨_, rfl⟩ := okp h; omega
  split at h
  · rename_i hs; have := sees_lt hs; have := ifS_lt H h; omega
  split at h
  · rename_i hs; have := sees_lt hs; have := whileS_lt H h; omega
  split at h
  · rename_i hs; have := sees_lt hs; have := forS_lt H h; omega
  split at h
  · rename_i hs; have := sees_lt hs; have := retS_lt H h; omega
  split at h
  · rename_i hs; have := sees_lt hs; have := endS_lt h; omega
  split at h
  · rename_i hs; have := sees_lt hs; have := endS_lt h; omega
  split at h
  · rename_i t ht; have := typed_lt ht; have := declS_lt H h; omega
  · obtain ⟨_, l2, h2, h⟩ := seq_ok h
    have := setS_lt H h2
    have := endS_lt h
    omega
theorem less_step (H : Less P) : Less ⟨exprS P fin, levelS P, tailS P, unaryS P fin, argsS P fin, statS P fin, blockS P fin, paramsS P fin, initsS P fin, progS P fin⟩ where
  expr := fun {d l x l'} h => by
    have h : exprS P fin d l = .ok (x, l') := h
    unfold exprS at h
    split at h
    · cases h
    · exact H.level h
  level := fun {i d l x l'} h => by
    have h : levelS P i d l = .ok (x, l') := h
    unfold levelS at h
    split at h
    · exact H.unary h
    · obtain ⟨_, l1, h1, h⟩ := seq_ok h
      have := H.level h1
      have := H.tail h
      omega
  tail := fun {i d x0 l x l'} h => by
    have h : tailS P i d x0 l = .ok (x, l') := h
    cases l with
    | nil => obtain ⟨_, rfl⟩ := okp h; exact Nat.le_refl _
    | cons t l =>
      rw [tailS] at h
      split at h
      · obtain ⟨_, l1, h1, h⟩ := seq_ok h
        have := H.level h1
        have := H.tail h
        simp; omega
      · obtain ⟨_, rfl⟩ := okp h; exact Nat.le_refl _
  unary := fun h => unaryS_lt H h
  args := fun {d acc l x l'} h => by
    have h : argsS P fin d acc l = .ok (x, l') := h
    unfold argsS at h
    split at h
    · rename_i hs; have := sees_lt hs; obtain ⟨_, rfl⟩ := okp h; omega
    · obtain ⟨_, l1, h1, h⟩ := seq_ok h
      have := first_lt h1
      split at h
      · cases h
      · obtain ⟨_, l2, h2, h⟩ := seq_ok h
        have := H.expr h2
        have := H.args h
        omega
  stat := fun {d l x l'} h => by
    have h : statS P fin d l = .ok (x, l') := h
    unfold statS at h
    split at h
    · cases h
    · exact innerS_lt H h
  block := fun {d acc l x l'} h => by
    have h : blockS P fin d acc l = .ok (x, l') := h
    unfold blockS at h
    split at h
    · rename_i hs; have := sees_lt hs; obtain ⟨_, rfl⟩ := okp h; omega
    split at h
    · cases h
    · obtain ⟨_, l2, h2, h⟩ := seq_ok h
      have := H.stat h2
      have := H.block h
      omega
  params := fun {acc l x l'} h => by
    have h : paramsS P fin acc l = .ok (x, l') := h
    unfold paramsS at h
    split at h
    · rename_i hs; have := sees_lt hs; obtain ⟨_, rfl⟩ := okp h; omega
    · obtain ⟨_, l1, h1, h⟩ := seq_ok h
      have := first_lt h1
      split at h
      · cases h
      · split at h
        · cases h
        · rename_i t ht
          have := typed_lt ht
          obtain ⟨_, l2, h2, h⟩ := seq_ok h
          have := name_lt h2
          have := H.params h
          omega
  inits := fun {z acc l x l'} h => by
    have h : initsS P fin z acc l = .ok (x, l') := h
    unfold initsS at h
    split at h
    · rename_i hs; have := sees_lt hs; obtain ⟨_, rfl⟩ := okp h; omega
    · obtain ⟨_, l1, h1, h⟩ := seq_ok h
      have := first_lt h1
      split at h
      · cases h
      · obtain ⟨_, l2, h2, h⟩ := seq_ok h
        have := H.expr h2
        have := H.inits h
        omega
end
theorem less_at (fin : Nat) : ∀ n, Less (at' fin n)
  | 0 => ⟨(fun h => by cases h), (fun h => by cases h), (fun h => by cases h), (fun h => by cases h), (fun h => by cases h), (fun h => by cases h), (fun h => by cases h), (fun h => by cases h), (fun h => by cases h)⟩
  | n + 1 => less_step (less_at fin n)
end Ps
end Go.Proofs.Ytfkndjifhmkojaa
