/- Reading a program, plain: tokens that stand further on say the same. No condition. -/
import Derived.Test.YtfkndjifhmkojaaPA
import Derived.Test.YtfkndjifhmkojaaKB
namespace Go.Proofs.Ytfkndjifhmkojaa
open Go.RowKit
set_option linter.unusedVariables false
set_option linter.unusedSimpArgs false
set_option maxRecDepth 100000
namespace Ps
def up (k : Nat) (t : Tok) : Tok := { t with pos := t.pos + k }
def ups (k : Nat) (l : List Tok) : List Tok := l.map (up k)
section
variable {k fin fin' : Nat} {α β : Type}
theorem ups_tail (l : List Tok) : (ups k l).tail = ups k l.tail := by cases l <;> rfl
theorem ups_nil {l : List Tok} : ups k l = [] ↔ l = [] := by unfold ups; simp
theorem sees_ups (s : Bs) (l : List Tok) : sees s (ups k l) = sees s l := by cases l <;> rfl
theorem typed_ups (l : List Tok) : typed (ups k l) = typed l := by cases l <;> rfl
theorem casts_ups (l : List Tok) : casts (ups k l) = casts l := by
  cases l with
  | nil => rfl
  | cons t l => show casts (up k t :: ups k l) = _; rw [casts, casts, typed_ups]; rfl
theorem headS_ups (l : List Tok) : headS (ups k l) = headS l := by unfold headS; rw [typed_ups, sees_ups]
/-- What came comes further on. -/
def Same (k : Nat) (r r' : Res α) : Prop := ∀ x l, r = .ok (x, l) → r' = .ok (x, ups k l)
theorem Same.ok (x : α) (l : List Tok) : Same k (.ok (x, l)) (.ok (x, ups k l)) := fun y l' h => by obtain ⟨rfl, rfl⟩ := okp h; rfl
theorem Same.err {z : Int × Nat} {r' : Res α} : Same k (.error z) r' := fun _ _ h => by cases h
theorem Same.seq {r r' : Res α} {f f' : α → List Tok → Res β} (h : Same k r r') (hf : ∀ x l, Same k (f x l) (f' x (ups k l))) : Same k (Ps.seq r f) (Ps.seq r' f') := fun y l' e => by
  obtain ⟨x, l, h1, h2⟩ := seq_ok e
  rw [h _ _ h1]; exact hf x l _ _ h2
theorem Same.ite {c c' : Prop} [Decidable c] [Decidable c'] {a b a' b' : Res α} (hc : c ↔ c') (h1 : Same k a a') (h2 : Same k b b') : Same k (if c then a else b) (if c' then a' else b') := by
  by_cases h : c
  · rw [if_pos h, if_pos (hc.1 h)]; exact h1
  · rw [if_neg h, if_neg (fun g => h (hc.2 g))]; exact h2
theorem Same.iff_sees (s : Bs) (l : List Tok) : (sees s l = true) ↔ (sees s (ups k l) = true) := by rw [sees_ups]
theorem Same.need (s : Bs) (l : List Tok) : Same k (Ps.need fin s l) (Ps.need fin' s (ups k l)) := by
  unfold Ps.need
  refine .ite (iff_sees s l) ?_ .err
  rw [ups_tail]; exact .ok _ _
theorem Same.name (l : List Tok) : Same k (Ps.name fin l) (Ps.name fin' (ups k l)) := by
  cases l with
  | nil => exact .err
  | cons t l => exact .ite Iff.rfl .err (.ite Iff.rfl .err (.ok _ _))
/-- Readers that read the same further on. -/
structure Sh (k : Nat) (P P' : F) : Prop where
  expr : ∀ d l, Same k (P.expr d l) (P'.expr d (ups k l))
  level : ∀ i d l, Same k (P.level i d l) (P'.level i d (ups k l))
  tail : ∀ i d x l, Same k (P.tail i d x l) (P'.tail i d x (ups k l))
  unary : ∀ d l, Same k (P.unary d l) (P'.unary d (ups k l))
  args : ∀ d acc l, Same k (P.args d acc l) (P'.args d acc (ups k l))
  stat : ∀ d l, Same k (P.stat d l) (P'.stat d (ups k l))
  block : ∀ d acc l, Same k (P.block d acc l) (P'.block d acc (ups k l))
  params : ∀ acc l, Same k (P.params acc l) (P'.params acc (ups k l))
  inits : ∀ z acc l, Same k (P.inits z acc l) (P'.inits z acc (ups k l))
  prog : ∀ g l x, P.prog g l = .ok x → P'.prog g (ups k l) = .ok x
variable {P P' : F}
theorem sh_id (H : Sh k P P') (d : Nat) (l : List Tok) : Same k (idS P fin d l) (idS P' fin' d (ups k l)) := by
  unfold idS
  refine .seq (.name l) fun s l => .ite (Same.iff_sees _ _) ?_ (.ite (Same.iff_sees _ _) ?_ (.ok _ _))
  · rw [ups_tail]; exact .seq (H.expr _ _) fun x l => .seq (.need _ _) fun _ l => .ok _ _
  · rw [ups_tail]; exact .seq (H.args _ _ _) fun x l => .ok _ _
theorem sh_prim (H : Sh k P P') (d : Nat) (l : List Tok) : Same k (primS P fin d l) (primS P' fin' d (ups k l)) := by
  unfold primS
  refine .ite (Same.iff_sees _ _) ?_ ?_
  · rw [ups_tail]; exact .seq (H.expr _ _) fun x l => .seq (.need _ _) fun _ l => .ok _ _
  · cases l with
    | nil => exact sh_id H d []
    | cons t l => exact .ite Iff.rfl (.ok _ _) (sh_id H d (t :: l))
theorem sh_unary (H : Sh k P P') (d : Nat) (l : List Tok) : Same k (unaryS P fin d l) (unaryS P' fin' d (ups k l)) := by
  cases l with
  | nil => exact sh_prim H d []
  | cons t l =>
    show Same k (unaryS P fin d (t :: l)) (unaryS P' fin' d (up k t :: ups k l))
    rw [unaryS, unaryS, show casts (up k t :: ups k l) = casts (t :: l) from casts_ups (t :: l)]
    refine .ite Iff.rfl (.ite Iff.rfl .err (.seq (H.unary _ _) fun x l => .ok _ _)) ?_
    cases casts (t :: l) with
    | none => exact sh_prim H d (t :: l)
    | some ty =>
      refine .ite Iff.rfl .err (.seq ?_ fun _ l => .seq (H.unary _ _) fun x l => .ok _ _)
      rw [ups_tail]; exact .need _ _
theorem first_ups (acc : List α) (s : Bs) (l : List Tok) : Same k (if acc = [] then (.ok ((), l) : Res Unit) else Ps.need fin s l) (if acc = [] then (.ok ((), ups k l) : Res Unit) else Ps.need fin' s (ups k l)) := by
  split
  · exact .ok _ _
  · exact .need _ _
theorem sh_set (H : Sh k P P') (d : Nat) (l : List Tok) : Same k (setS P fin d l) (setS P' fin' d (ups k l)) := by
  unfold setS
  refine .seq (H.expr _ _) fun x l => .ite (Same.iff_sees _ _) (.ite Iff.rfl ?_ .err) (.ok _ _)
  rw [ups_tail]; exact .seq (H.expr _ _) fun y l => .ok _ _
theorem sh_sets (H : Sh k P P') (s : Bs) (d : Nat) (l : List Tok) : Same k (setsS P fin s d l) (setsS P' fin' s d (ups k l)) := by
  unfold setsS
  exact .ite (Same.iff_sees _ _) (.ok _ _) (.seq (sh_set H _ _) fun x l => .ok _ _)
theorem sh_body (H : Sh k P P') (d : Nat) (l : List Tok) : Same k (bodyS P d l) (bodyS P' d (ups k l)) := .seq (H.stat _ _) fun x l => .ok _ _
theorem sh_cond (H : Sh k P P') (d : Nat) (l : List Tok) : Same k (condS P fin d l) (condS P' fin' d (ups k l)) := .seq (.need _ _) fun _ l => .seq (H.expr _ _) fun x l => .seq (.need _ _) fun _ l => .ok _ _
theorem sh_may (H : Sh k P P') (s : Bs) (d : Nat) (l : List Tok) : Same k (mayS P s d l) (mayS P' s d (ups k l)) := by
  unfold mayS
  exact .ite (Same.iff_sees _ _) (.ok _ _) (.seq (H.expr _ _) fun x l => .ok _ _)
theorem sh_end (x : S) (l : List Tok) : Same k (endS fin x l) (endS fin' x (ups k l)) := .seq (.need _ _) fun _ l => .ok _ _
theorem sh_decl (H : Sh k P P') (b : Int) (s : Bool) (d : Nat) (l : List Tok) : Same k (declS P fin b s d l) (declS P' fin' b s d (ups k l)) := by
  unfold declS
  refine .seq (.name l) fun n l => .ite (Same.iff_sees _ _) ?_ (sh_end _ _)
  rw [ups_tail]; exact .seq (H.expr _ _) fun x l => sh_end _ _
theorem sh_if (H : Sh k P P') (d : Nat) (l : List Tok) : Same k (ifS P fin d l) (ifS P' fin' d (ups k l)) := by
  unfold ifS
  refine .seq (sh_cond H _ _) fun x l => .seq (sh_body H _ _) fun b l => .ite (Same.iff_sees _ _) ?_ (.ok _ _)
  rw [ups_tail]; exact .seq (sh_body H _ _) fun x l => .ok _ _
theorem sh_while (H : Sh k P P') (d : Nat) (l : List Tok) : Same k (whileS P fin d l) (whileS P' fin' d (ups k l)) := .seq (sh_cond H _ _) fun x l => .seq (sh_body H _ _) fun b l => .ok _ _
theorem sh_for (H : Sh k P P') (d : Nat) (l : List Tok) : Same k (forS P fin d l) (forS P' fin' d (ups k l)) :=
  .seq (.need _ _) fun _ l => .seq (sh_sets H _ _ _) fun i l => .seq (.need _ _) fun _ l => .seq (sh_may H _ _ _) fun x l => .seq (.need _ _) fun _ l => .seq (sh_sets H _ _ _) fun st l => .seq (.need _ _) fun _ l => .seq (sh_body H _ _) fun b l => .ok _ _
theorem sh_ret (H : Sh k P P') (d : Nat) (l : List Tok) : Same k (retS P fin d l) (retS P' fin' d (ups k l)) := .seq (sh_may H _ _ _) fun x l => sh_end _ _
theorem sh_inner (H : Sh k P P') (d : Nat) (l : List Tok) : Same k (innerS P fin d l) (innerS P' fin' d (ups k l)) := by
  unfold innerS
  rw [ups_tail, typed_ups]
  refine .ite (Same.iff_sees _ _) (.ok _ _) (.ite (Same.iff_sees _ _) (.seq (H.block _ _ _) fun x l => .ok _ _) (.ite (Same.iff_sees _ _) (sh_if H _ _) (.ite (Same.iff_sees _ _) (sh_while H _ _) (.ite (Same.iff_sees _ _) (sh_for H _ _) (.ite (Same.iff_sees _ _) (sh_ret H _ _) (.ite (Same.iff_sees _ _) (sh_end _ _) (.ite (Same.iff_sees _ _) (sh_end _ _) ?_)))))))
  cases typed l with
  | none => exact .seq (sh_set H _ _) fun x l => sh_end _ _
  | some t => exact sh_decl H _ _ _ _
theorem sh_fn (H : Sh k P P') (b : Int) (s : Bool) (n : Bs) (l : List Tok) : Same k (fnS P fin b s n l) (fnS P' fin' b s n (ups k l)) := .seq (H.params _ _) fun ps l => .seq (.need _ _) fun _ l => .seq (H.block _ _ _) fun bd l => .ok _ _
theorem sh_size (l : List Tok) : Same k (sizeS fin l) (sizeS fin' (ups k l)) := by
  unfold sizeS
  refine .ite (Same.iff_sees _ _) ?_ (.ok _ _)
  rw [ups_tail]
  cases l.tail with
  | nil => exact .err
  | cons t l => exact .ite Iff.rfl .err (.ite Iff.rfl .err (.seq (.need _ _) fun _ l => .ok _ _))
theorem sh_gl (H : Sh k P P') (b : Int) (s : Bool) (n : Bs) (l : List Tok) : Same k (glS P fin b s n l) (glS P' fin' b s n (ups k l)) := by
  unfold glS
  refine .seq (sh_size l) fun z l => .ite (Same.iff_sees _ _) ?_ (.seq (.need _ _) fun _ l => .ok _ _)
  rw [ups_tail]
  exact .ite Iff.rfl (.seq (H.expr _ _) fun x l => .seq (.need _ _) fun _ l => .ok _ _) (.seq (.need _ _) fun _ l => .seq (H.inits _ _ _) fun xs l => .seq (.need _ _) fun _ l => .ok _ _)
theorem sh_prog (H : Sh k P P') (g : Pg) (l : List Tok) (x : Pg) (h : progS P fin g l = .ok x) : progS P' fin' g (ups k l) = .ok x := by
  unfold progS at h ⊢
  rw [headS_ups, ups_tail]
  by_cases hl : l = []
  · rw [if_pos hl] at h; rw [if_pos (ups_nil.2 hl)]; exact h
  rw [if_neg hl] at h; rw [if_neg (fun e => hl (ups_nil.1 e))]
  cases hh : headS l with
  | none => rw [hh] at h; cases h
  | some hd =>
    rw [hh] at h
    simp only at h ⊢
    cases hn : name fin l.tail with
    | error e => rw [hn] at h; cases h
    | ok p =>
      obtain ⟨n, l1⟩ := p
      rw [hn] at h
      rw [Same.name (fin := fin) (fin' := fin') l.tail _ _ hn]
      simp only at h ⊢
      rw [sees_ups, ups_tail]
      by_cases hs : sees [40] l1 = true
      · rw [if_pos hs] at h ⊢
        by_cases h1 : g.fs.length = 100
        · rw [if_pos h1] at h; cases h
        rw [if_neg h1] at h ⊢
        cases hf : fnS P fin (hd.getD (0, false)).1 (hd.getD (0, false)).2 n l1.tail with
        | error e => rw [hf] at h; cases h
        | ok q =>
          obtain ⟨f, l2⟩ := q
          rw [hf] at h
          rw [sh_fn (fin := fin) (fin' := fin') H _ _ _ _ _ _ hf]
          exact H.prog _ _ _ h
      · rw [if_neg hs] at h ⊢
        cases hd with
        | none => cases h
        | some t =>
          simp only at h ⊢
          cases hf : glS P fin t.1 t.2 n l1 with
          | error e => rw [hf] at h; cases h
          | ok q =>
            obtain ⟨f, l2⟩ := q
            rw [hf] at h
            rw [sh_gl (fin := fin) (fin' := fin') H _ _ _ _ _ _ hf]
            exact H.prog _ _ _ h
theorem sh_args (H : Sh k P P') (d : Nat) (acc : List X) (l : List Tok) : Same k (argsS P fin d acc l) (argsS P' fin' d acc (ups k l)) := by
  unfold argsS
  rw [ups_tail]
  exact .ite (Same.iff_sees _ _) (.ok _ _) (.seq (first_ups _ _ _) fun _ l => .ite Iff.rfl .err (.seq (H.expr _ _) fun x l => H.args _ _ _))
theorem sh_inits (H : Sh k P P') (z : Int) (acc : List X) (l : List Tok) : Same k (initsS P fin z acc l) (initsS P' fin' z acc (ups k l)) := by
  unfold initsS
  rw [ups_tail]
  exact .ite (Same.iff_sees _ _) (.ok _ _) (.seq (first_ups _ _ _) fun _ l => .ite Iff.rfl .err (.seq (H.expr _ _) fun x l => H.inits _ _ _))
theorem sh_params (H : Sh k P P') (acc : List Pm) (l : List Tok) : Same k (paramsS P fin acc l) (paramsS P' fin' acc (ups k l)) := by
  unfold paramsS
  rw [ups_tail]
  refine .ite (Same.iff_sees _ _) (.ok _ _) (.seq (first_ups _ _ _) fun _ l => .ite Iff.rfl .err ?_)
  rw [typed_ups, ups_tail]
  cases typed l with
  | none => exact .err
  | some t => exact .seq (.name _) fun n l => H.params _ _
theorem sh_block (H : Sh k P P') (d : Nat) (acc : List S) (l : List Tok) : Same k (blockS P fin d acc l) (blockS P' fin' d acc (ups k l)) := by
  unfold blockS
  rw [ups_tail]
  exact .ite (Same.iff_sees _ _) (.ok _ _) (.ite ups_nil.symm .err (.seq (H.stat _ _) fun x l => H.block _ _ _))
theorem sh_tail (H : Sh k P P') (i d : Nat) (x : X) (l : List Tok) : Same k (tailS P i d x l) (tailS P' i d x (ups k l)) := by
  cases l with
  | nil => exact .ok _ _
  | cons t l => exact .ite Iff.rfl (.seq (H.level _ _ _) fun y l => H.tail _ _ _ _) (.ok _ (t :: l))
theorem sh_at (k fin fin' : Nat) : ∀ n, Sh k (at' fin n) (at' fin' n)
  | 0 => ⟨fun _ _ => .err, fun _ _ _ => .err, fun _ _ _ _ => .err, fun _ _ => .err, fun _ _ _ => .err, fun _ _ => .err, fun _ _ _ => .err, fun _ _ => .err, fun _ _ _ => .err, fun _ _ _ h => by cases h⟩
  | n + 1 => by
    have H := sh_at k fin fin' n
    exact ⟨fun d l => .ite Iff.rfl .err (H.level _ _ _), fun i d l => .ite Iff.rfl (H.unary _ _) (.seq (H.level _ _ _) fun x l => H.tail _ _ _ _), sh_tail H, sh_unary H, sh_args H, fun d l => .ite Iff.rfl .err (sh_inner H _ _), sh_block H, sh_params H, sh_inits H, sh_prog H⟩
end
end Ps
namespace Tk
theorem step_up (a k : Nat) (c : UInt8) (r : List UInt8) : step (a + k) c r = match step a c r with
    | .skip j => .skip j
    | .tok t j => .tok (Ps.up k t) j
    | .err e => .err e := by
  unfold step
  split
  · rfl
  split
  · rfl
  split
  · rfl
  split
  · split
    · rfl
    · split
      · rfl
      · rfl
  · split
    · rfl
    · rfl
/-- Tokens of a text that stands further on. -/
theorem frm_up (pre L : List UInt8) : ∀ (n a : Nat) (ts : List Tok), L.length - a ≤ n → frm L a = .ok ts → frm (pre ++ L) (a + pre.length) = .ok (Ps.ups pre.length ts) := by
  intro n
  induction n with
  | zero =>
    intro a ts hn h
    rw [frm_end L a (by omega)] at h
    injection h with h
    subst h
    rw [frm_end _ _ (by rw [List.length_append]; omega)]
    rfl
  | succ n ih =>
    intro a ts hn h
    cases hd : L.drop a with
    | nil =>
      have hl : L.length ≤ a := by have := congrArg List.length hd; rw [List.length_drop] at this; simp at this; omega
      rw [frm_end L a hl] at h
      injection h with h
      subst h
      rw [frm_end _ _ (by rw [List.length_append]; omega)]
      rfl
    | cons c r =>
      have hl : a < L.length := by have := congrArg List.length hd; rw [List.length_drop] at this; simp at this; omega
      have hd2 : (pre ++ L).drop (a + pre.length) = c :: r := by
        rw [Nat.add_comm, ← List.drop_drop, List.drop_left]; exact hd
      rw [frm_step _ _ c r hd] at h
      rw [frm_step _ _ c r hd2, step_up]
      cases hs : step a c r with
      | skip k =>
        rw [hs] at h
        have := step_long a c r k (by rw [hs]; rfl)
        show frm (pre ++ L) (a + pre.length + k) = _
        rw [show a + pre.length + k = a + k + pre.length by omega]
        exact ih (a + k) ts (by omega) h
      | tok t k =>
        rw [hs] at h
        have := step_long a c r k (by rw [hs]; rfl)
        have h : cons t (frm L (a + k)) = .ok ts := h
        show cons (Ps.up pre.length t) (frm (pre ++ L) (a + pre.length + k)) = _
        rw [show a + pre.length + k = a + k + pre.length by omega]
        cases hf : frm L (a + k) with
        | error e => rw [hf] at h; cases h
        | ok l =>
          rw [hf] at h
          injection h with h
          subst h
          rw [ih (a + k) l (by omega) hf]
          rfl
      | err e => rw [hs] at h; cases h
theorem run_nl (r s : List UInt8) (h : ∀ b ∈ r, b.toNat ≠ 10) : run nl (r ++ 10 :: s) = r.length := by
  induction r with
  | nil => rfl
  | cons b r ih =>
    rw [List.cons_append, run, if_pos (by unfold nl; simpa using h b (List.mem_cons_self ..)), ih fun b hb => h b (List.mem_cons_of_mem _ hb)]
    simp
/-- Blanks and a remark ahead. -/
theorem frm_ahead (r s : List UInt8) (ts : List Tok) (h : ∀ b ∈ r, b.toNat ≠ 10) (hs : frm s 0 = .ok ts) : frm (32 :: 9 :: 47 :: 47 :: 32 :: (r ++ 10 :: s)) 0 = .ok (Ps.ups (r.length + 6) ts) := by
  have e0 : 32 :: 9 :: 47 :: 47 :: 32 :: (r ++ 10 :: s) = (32 :: 9 :: 47 :: 47 :: 32 :: (r ++ [10])) ++ s := by simp
  rw [frm_step _ 0 32 (9 :: 47 :: 47 :: 32 :: (r ++ 10 :: s)) rfl, step_blank 0 32 _ (by decide)]
  show frm _ (0 + 1) = _
  rw [frm_step _ (0 + 1) 9 (47 :: 47 :: 32 :: (r ++ 10 :: s)) rfl, step_blank _ 9 _ (by decide)]
  show frm _ (0 + 1 + 1) = _
  rw [frm_step _ (0 + 1 + 1) 47 (47 :: 32 :: (r ++ 10 :: s)) rfl, step_remark _ 47 _ (by decide) (by constructor <;> rfl)]
  have er : run nl (47 :: 47 :: 32 :: (r ++ 10 :: s)) = r.length + 3 := by
    have := run_nl (47 :: 47 :: 32 :: r) s (by
      intro b hb
      simp only [List.mem_cons] at hb
      rcases hb with rfl | rfl | rfl | hb
      · decide
      · decide
      · decide
      · exact h b hb)
    simpa using this
  show frm _ (0 + 1 + 1 + run nl (47 :: 47 :: 32 :: (r ++ 10 :: s))) = _
  rw [er, e0]
  have hd : ((32 :: 9 :: 47 :: 47 :: 32 :: (r ++ [10])) ++ s).drop (0 + 1 + 1 + (r.length + 3)) = 10 :: s := by
    rw [show 0 + 1 + 1 + (r.length + 3) = (32 :: 9 :: 47 :: 47 :: 32 :: r).length by simp; omega, show (32 :: 9 :: 47 :: 47 :: 32 :: (r ++ [10])) ++ s = (32 :: 9 :: 47 :: 47 :: 32 :: r) ++ 10 :: s by simp, List.drop_left]
  rw [frm_step _ _ 10 s hd, step_blank _ 10 _ (by decide)]
  have := frm_up (32 :: 9 :: 47 :: 47 :: 32 :: (r ++ [10])) s s.length 0 ts (by omega) hs
  have el : (32 :: 9 :: 47 :: 47 :: 32 :: (r ++ [10])).length = r.length + 6 := by simp
  rw [el] at this
  show frm _ (0 + 1 + 1 + (r.length + 3) + 1) = _
  rw [show 0 + 1 + 1 + (r.length + 3) + 1 = 0 + (r.length + 6) by omega]
  exact this
end Tk
namespace Ps
theorem ups_len (k : Nat) (l : List Tok) : (ups k l).length = l.length := by unfold ups; simp
/-- A text's program is what it was with blanks and a remark ahead. -/
theorem read_ahead (r s : List UInt8) (g : Pg) (h : ∀ b ∈ r, b.toNat ≠ 10) (hs : read s = .ok g) : read (32 :: 9 :: 47 :: 47 :: 32 :: (r ++ 10 :: s)) = .ok g ∨ read (32 :: 9 :: 47 :: 47 :: 32 :: (r ++ 10 :: s)) = .error (4, 0) := by
  unfold read at hs
  split at hs
  · cases hs
  split at hs
  · cases hs
  rename_i ts hts
  split at hs
  · cases hs
  rename_i g' hg
  split at hs
  · cases hs
  rename_i hw
  injection hs with hs
  subst hs
  by_cases hl : 65536 < (32 :: 9 :: 47 :: 47 :: 32 :: (r ++ 10 :: s)).length
  · right; unfold read; rw [if_pos hl]
  · left
    unfold read
    rw [if_neg hl, Tk.frm_ahead r s ts h hts]
    show (match (at' _ (32 * (ups (r.length + 6) ts).length + 32)).prog ⟨[], []⟩ (ups (r.length + 6) ts) with | .error e => .error e | .ok g => if Pg.wrong g ≠ 0 then .error (4, 0) else .ok g : Except (Int × Nat) Pg) = _
    rw [ups_len, (sh_at (r.length + 6) s.length _ (32 * ts.length + 32)).prog _ _ _ hg]
    exact if_neg hw
end Ps
end Go.Proofs.Ytfkndjifhmkojaa
