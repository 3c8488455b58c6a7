/- Reading a program, plain: a place of an array has one kid. No condition. -/
import Derived.Test.YtfkndjifhmkojaaPA
import Derived.Test.YtfkndjifhmkojaaP14
namespace Go.Proofs.Ytfkndjifhmkojaa
open Go.RowKit
set_option linter.unusedVariables false
set_option linter.unusedSimpArgs false
set_option maxRecDepth 100000
namespace Ps
def Ka (x : X) : Prop := x.kind = 3 → x.kids.length = 1
def Hk {α : Type} (Q : α → Prop) (r : Res α) : Prop := ∀ x l, r = .ok (x, l) → Q x
section
variable {fin : Nat} {α β : Type}
theorem Hk.ok {Q : α → Prop} {x : α} {l : List Tok} (hx : Q x) : Hk Q (.ok (x, l)) := fun y l' h => by obtain ⟨rfl, rfl⟩ := okp h; exact hx
theorem Hk.err {Q : α → Prop} {z : Int × Nat} : Hk Q (.error z : Res α) := fun _ _ h => by cases h
theorem Hk.seq {Q : α → Prop} {R : β → Prop} {r : Res α} {f : α → List Tok → Res β} (h : Hk Q r) (hf : ∀ x l, Q x → Hk R (f x l)) : Hk R (Ps.seq r f) := fun y l' e => by
  obtain ⟨x, l, h1, h2⟩ := seq_ok e
  exact hf x l (h _ _ h1) _ _ h2
theorem Hk.ite {Q : α → Prop} {c : Prop} [Decidable c] {a b : Res α} (h1 : c → Hk Q a) (h2 : ¬ c → Hk Q b) : Hk Q (if c then a else b) := by
  by_cases h : c
  · rw [if_pos h]; exact h1 h
  · rw [if_neg h]; exact h2 h
theorem Hk.any {r : Res α} : Hk (fun _ => True) r := fun _ _ _ => trivial
theorem ka_k {k : Int} {ks : List X} (h : k ≠ 3) : Ka (xk k ks) := fun e => absurd e h
theorem ne_ite {c : Prop} [Decidable c] {a b : Int} (h1 : a ≠ 3) (h2 : b ≠ 3) : (if c then a else b) ≠ 3 := by
  by_cases h : c
  · rw [if_pos h]; exact h1
  · rw [if_neg h]; exact h2
theorem binK_3 (s : Bs) : binK s ≠ 3 := by
  unfold binK
  repeat' (refine ne_ite (by decide) ?_)
  decide
theorem bin_3 (i : Nat) (s : Bs) : bin i s ≠ 3 := by
  unfold bin
  split
  · exact binK_3 s
  · decide
theorem un_3 (s : Bs) : un s ≠ 3 := by
  unfold un
  repeat' (refine ne_ite (by decide) ?_)
  decide
structure KaF (P : F) : Prop where
  expr : ∀ d l, Hk Ka (P.expr d l)
  level : ∀ i d l, Hk Ka (P.level i d l)
  tail : ∀ i d x l, Ka x → Hk Ka (P.tail i d x l)
  unary : ∀ d l, Hk Ka (P.unary d l)
variable {P : F}
theorem ka_id (H : KaF P) (d : Nat) (l : List Tok) : Hk Ka (idS P fin d l) := by
  unfold idS
  refine .seq .any fun s l _ => .ite (fun _ => .seq (H.expr _ _) fun x l _ => .seq .any fun _ l _ => .ok fun _ => rfl) fun _ => .ite (fun _ => .seq .any fun ks l _ => .ok fun e => ?_) fun _ => .ok fun e => ?_
  · exact absurd (show (4 : Int) = 3 from e) (by decide)
  · exact absurd (show (2 : Int) = 3 from e) (by decide)
theorem ka_prim (H : KaF P) (d : Nat) (l : List Tok) : Hk Ka (primS P fin d l) := by
  unfold primS
  refine .ite (fun _ => .seq (H.expr _ _) fun x l hx => .seq .any fun _ l _ => .ok hx) fun _ => ?_
  cases l with
  | nil => exact ka_id H d []
  | cons t l => exact .ite (fun _ => .ok fun e => absurd (show (1 : Int) = 3 from e) (by decide)) fun _ => ka_id H d (t :: l)
theorem ka_unary (H : KaF P) (d : Nat) (l : List Tok) : Hk Ka (unaryS P fin d l) := by
  cases l with
  | nil => exact ka_prim H d []
  | cons t l =>
    rw [unaryS]
    refine .ite (fun _ => .ite (fun _ => .err) fun _ => .seq .any fun x l _ => .ok (ka_k (un_3 _))) fun _ => ?_
    cases casts (t :: l) with
    | none => exact ka_prim H d (t :: l)
    | some ty => exact .ite (fun _ => .err) fun _ => .seq .any fun _ l _ => .seq .any fun x l _ => .ok fun e => absurd (show (5 : Int) = 3 from e) (by decide)
theorem ka_at (fin : Nat) : ∀ n, KaF (at' fin n)
  | 0 => ⟨fun _ _ => .err, fun _ _ _ => .err, fun _ _ _ _ _ => .err, fun _ _ => .err⟩
  | n + 1 => by
    have H := ka_at fin n
    refine ⟨fun d l => .ite (fun _ => .err) fun _ => H.level _ _ _, fun i d l => .ite (fun _ => H.unary _ _) fun _ => .seq (H.level _ _ _) fun x l hx => H.tail _ _ _ _ hx, fun i d x l hx => ?_, ka_unary H⟩
    cases l with
    | nil => exact .ok hx
    | cons t l => exact .ite (fun _ => .seq .any fun y l _ => H.tail _ _ _ _ (ka_k (bin_3 _ _))) fun _ => .ok hx
end
end Ps
end Go.Proofs.Ytfkndjifhmkojaa
/- Reading expressions: all together. No condition. -/
namespace Go.Proofs.Ytfkndjifhmkojaa
open Go.RowKit
set_option linter.unusedVariables false
set_option linter.unusedSimpArgs false
set_option maxRecDepth 100000
/-- The readers of expressions do what is said, so deep. -/
structure PE (g fin n : Nat) : Prop where
  expr : ∀ (d : Nat) (w : World) (l : List Tk.Tok), d ≤ 400 → Pb w g fin d l → 32 * l.length + 20 ≤ n → Calls Try.prog 46 #[P g] w (PxR g fin d w ((Ps.at' fin n).expr d l))
  level : ∀ (j d q : Nat) (w : World) (l : List Tk.Tok), j ≤ 10 → d ≤ 400 → Pb w g fin d l → LvAt w (fun k => k ≠ g) q → 32 * l.length + 19 ≤ n + j → Calls Try.prog 69 #[P g, lvV q j] w (PxR g fin d w ((Ps.at' fin n).level (j + 1) d l))
  unary : ∀ (d : Nat) (w : World) (l : List Tk.Tok), d ≤ 400 → Pb w g fin d l → 32 * l.length + 7 ≤ n → Calls Try.prog 90 #[P g] w (PxR g fin d w ((Ps.at' fin n).unary d l))
theorem pprim_all (g fin n d : Nat) (H : ∀ m, m ≤ n → PE g fin m) (hd : d ≤ 400) (w : World) (l : List Tk.Tok) (h : Pb w g fin d l) (hn : 32 * l.length + 6 ≤ n) :
    Calls Try.prog 123 #[P g] w (PxR g fin d w (Ps.primS (Ps.at' fin n) fin d l)) := by
  have hex : ∀ (m : Nat) (w1 : World) (l1 : List Tk.Tok), m ≤ n → l1.length < l.length → 32 * l1.length + 20 ≤ m → Pb w1 g fin d l1 → Calls Try.prog 46 #[P g] w1 (PxR g fin d w1 ((Ps.at' fin m).expr d l1)) :=
    fun m w1 l1 hm hl hf hp => (H m hm).expr d w1 l1 hd hp hf
  unfold Ps.primS
  by_cases hs : Ps.sees [40] l = true
  · rw [if_pos hs]
    exact pprim_par w g fin d l h hs (fun l1 => (Ps.at' fin n).expr d l1) fun w1 l1 hl hp => hex n w1 l1 (Nat.le_refl _) hl (by omega) hp
  · rw [if_neg hs]
    have hs' : Ps.sees [40] l = false := by simpa using hs
    cases l with
    | nil => exact pprim_none w g fin d n h
    | cons t l =>
      show Calls _ _ _ _ (PxR g fin d w (if t.kind = 2 then _ else _))
      by_cases hk : t.kind = 2
      · rw [if_pos hk]; exact pprim_num w g fin d t l h hk
      · rw [if_neg hk]; exact pprim_id w g fin d n t l h hs' hk hn hex
theorem un_pos (s : List UInt8) : 0 ≤ Ps.un s := by
  unfold Ps.un
  repeat' (first | (split; · decide) | decide)
theorem punary_all (g fin n d : Nat) (H : ∀ m, m ≤ n → PE g fin m) (hd : d ≤ 400) (w : World) (l : List Tk.Tok) (h : Pb w g fin d l) (hn : 32 * l.length + 6 ≤ n) :
    Calls Try.prog 90 #[P g] w (PxR g fin d w (Ps.unaryS (Ps.at' fin n) fin d l)) := by
  cases l with
  | nil => exact punary_nil w g fin d h _ fun w1 hp => pprim_all g fin n d H hd w1 [] hp hn
  | cons t l =>
    have hlen : (t :: l).length = l.length + 1 := rfl
    rw [Ps.unaryS]
    by_cases hu : t.kind = 3 ∧ 0 < Ps.un t.text
    · rw [if_pos hu]
      by_cases hd4 : 400 ≤ d
      · rw [if_pos hd4]; exact punary_signNo w g fin d t l h hu.1 hu.2 hd4 (by omega)
      · rw [if_neg hd4]
        exact punary_sign w g fin d t l h hu.1 hu.2 (by omega) _ fun w1 hp => (H n (Nat.le_refl _)).unary (d + 1) w1 l (by omega) hp (by omega)
    · rw [if_neg hu]
      cases hc : Ps.casts (t :: l) with
      | none => exact punary_prim w g fin d t l h hu hc _ fun w1 hp => pprim_all g fin n d H hd w1 (t :: l) hp hn
      | some ty =>
        rw [Ps.casts] at hc
        split at hc
        · rename_i h2
          cases l with
          | nil => cases hc
          | cons u l =>
            rw [Ps.typed] at hc
            split at hc
            · rename_i h3
              injection hc with hc
              have hnt : W.nt u.text = (ty.1, ty.2, true) := by rw [← hc, ← h3.2]
              have hl2 : (u :: l).length = l.length + 1 := rfl
              exact punary_cast w g fin d t u l h hu h2.1 h2.2 h3.1 ty.1 ty.2 hnt (by omega) (fun l1 => (Ps.at' fin n).unary (d + 1) l1) fun hd4 w1 l1 hl hp => (H n (Nat.le_refl _)).unary (d + 1) w1 l1 (by omega) hp (by omega)
            · cases hc
        · cases hc
theorem pe_all (g fin : Nat) : ∀ n, PE g fin n := by
  intro n
  induction n using Nat.strongRecOn with
  | _ n ih =>
    cases n with
    | zero => exact ⟨fun d w l _ _ h => by omega, fun j d q w l hj _ _ _ h => by omega, fun d w l _ _ h => by omega⟩
    | succ n =>
      have H : ∀ m, m ≤ n → PE g fin m := fun m hm => ih m (by omega)
      refine ⟨fun d w l hd h hn => ?_, fun j d q w l hj hd h hq hn => ?_, fun d w l hd h hn => punary_all g fin n d H hd w l h (by omega)⟩
      · show Calls _ _ _ _ (PxR g fin d w (if 400 ≤ d then _ else _))
        by_cases hd4 : 400 ≤ d
        · rw [if_pos hd4]; exact pexpr_no w g fin d l h hd4 (by omega)
        · rw [if_neg hd4]
          exact pexpr_yes w g fin d l h (by omega) _ fun w1 q hp hq => (H n (Nat.le_refl _)).level 0 (d + 1) q w1 l (by omega) (by omega) hp hq (by omega)
      · by_cases h10 : j = 10
        · subst h10
          have e : (Ps.at' fin (n + 1)).level (10 + 1) d l = (Ps.at' fin n).unary d l := rfl
          rw [e]
          exact pbin_last w g fin d q l h _ fun w1 hp => (H n (Nat.le_refl _)).unary d w1 l hd hp (by omega)
        · have := pbin_mid w g fin d j n q (10 - j) l (by omega) (by omega) h hq (by omega) fun m w1 l1 hm hp hq hf => (H m hm).level (j + 1) d q w1 l1 (by omega) hd hp hq hf
          unfold lvV
          rw [if_pos (by omega)]
          exact this
end Go.Proofs.Ytfkndjifhmkojaa
