/- Reading a program, plain: what is read has numbers in their ranges. No condition. -/
import Derived.Test.YtfkndjifhmkojaaP3
namespace Go.Proofs.Ytfkndjifhmkojaa
open Go.RowKit
set_option linter.unusedVariables false
set_option linter.unusedSimpArgs false
set_option maxRecDepth 100000
namespace Ps
abbrev Oks (l : List Tok) : Prop := ∀ t ∈ l, TokOk t
/-- What came is good, and so is what is left. -/
def Good {α : Type} (Q : α → Prop) (r : Res α) : Prop := ∀ x l, r = .ok (x, l) → Q x ∧ Oks l
section
variable {fin : Nat} {α β : Type}
theorem Oks.tl {l : List Tok} (h : Oks l) : Oks l.tail := fun t ht => h t (List.mem_of_mem_tail ht)
theorem Good.ok {Q : α → Prop} {x : α} {l : List Tok} (hx : Q x) (hl : Oks l) : Good Q (.ok (x, l)) := fun y l' h => by obtain ⟨rfl, rfl⟩ := okp h; exact ⟨hx, hl⟩
theorem Good.err {Q : α → Prop} {z : Int × Nat} : Good Q (.error z : Res α) := fun _ _ h => by cases h
theorem Good.seq {Q : α → Prop} {R : β → Prop} {r : Res α} {f : α → List Tok → Res β} (h : Good Q r) (hf : ∀ x l, Q x → Oks l → Good R (f x l)) : Good R (Ps.seq r f) := fun y l' e => by
  obtain ⟨x, l, h1, h2⟩ := seq_ok e
  obtain ⟨hx, hl⟩ := h _ _ h1
  exact hf x l hx hl _ _ h2
theorem Good.ite {Q : α → Prop} {c : Prop} [Decidable c] {a b : Res α} (h1 : c → Good Q a) (h2 : ¬ c → Good Q b) : Good Q (if c then a else b) := by
  by_cases h : c
  · rw [if_pos h]; exact h1 h
  · rw [if_neg h]; exact h2 h
abbrev Tr : Unit → Prop := fun _ => True
abbrev NmOk (s : Bs) : Prop := s.length ≤ 65536
theorem Good.need (s : Bs) {l : List Tok} (h : Oks l) : Good Tr (Ps.need fin s l) := by
  unfold Ps.need
  exact .ite (fun _ => .ok trivial h.tl) (fun _ => .err)
theorem Good.name {l : List Tok} (h : Oks l) : Good NmOk (Ps.name fin l) := by
  cases l with
  | nil => exact .err
  | cons t l => exact .ite (fun _ => .err) fun _ => .ite (fun _ => .err) fun _ => .ok (h t (List.mem_cons_self ..)).len (fun u hu => h u (List.mem_cons_of_mem _ hu))
theorem nm_size {s : Bs} (h : NmOk s) : (nm s).size ≤ maxLen := by
  have : (nm s).size = s.length := rfl
  rw [this]; unfold maxLen; have h : s.length ≤ 65536 := h; omega
theorem nt_I (l : List UInt8) : W.I (W.nt l).1 := by
  unfold W.nt
  repeat' (split; · constructor <;> decide)
  constructor <;> decide
theorem typed_I {l : List Tok} {t : Int × Bool} (h : typed l = some t) : W.I t.1 := by
  cases l with
  | nil => cases h
  | cons u l =>
    rw [typed] at h
    split at h
    · injection h with h; subst h; exact nt_I _
    · cases h
theorem casts_I {l : List Tok} {t : Int × Bool} (h : casts l = some t) : W.I t.1 := by
  cases l with
  | nil => cases h
  | cons u l =>
    rw [casts] at h
    split at h
    · exact typed_I h
    · cases h
theorem I_ite {c : Prop} [Decidable c] {a b : Int} (h1 : W.I a) (h2 : W.I b) : W.I (if c then a else b) := by
  by_cases h : c
  · rw [if_pos h]; exact h1
  · rw [if_neg h]; exact h2
theorem binK_I (s : Bs) : W.I (binK s) := by
  unfold binK
  repeat' (refine I_ite (by constructor <;> decide) ?_)
  constructor <;> decide
theorem bin_I (i : Nat) (s : Bs) : W.I (bin i s) := by
  unfold bin
  split
  · exact binK_I s
  · constructor <;> decide
theorem un_I (s : Bs) : W.I (un s) := by
  unfold un
  repeat' (refine I_ite (by constructor <;> decide) ?_)
  constructor <;> decide
theorem I0 : W.I 0 := by constructor <;> decide
theorem U0 : W.U 0 := by constructor <;> decide
theorem e0 : (⟨#[]⟩ : ByteArray).size ≤ maxLen := by decide
theorem wz : X.Wf xz := .mk _ _ _ _ _ _ I0 U0 I0 e0 (fun _ h => by cases h)
theorem wk {k : Int} {ks : List X} (hk : W.I k) (h : ∀ x ∈ ks, X.Wf x) : X.Wf (xk k ks) := .mk _ _ _ _ _ _ hk U0 I0 e0 h
theorem wn {k : Int} {s : Bs} {ks : List X} (hk : W.I k) (hs : NmOk s) (h : ∀ x ∈ ks, X.Wf x) : X.Wf (xn k s ks) := .mk _ _ _ _ _ _ hk U0 I0 (nm_size hs) h
theorem w1 {x : X} (h : X.Wf x) : ∀ y ∈ [x], X.Wf y := fun y hy => by simp at hy; subst hy; exact h
theorem w2 {x y : X} (h : X.Wf x) (h' : X.Wf y) : ∀ z ∈ [x, y], X.Wf z := fun z hz => by simp at hz; rcases hz with rfl | rfl <;> assumption
theorem wa {A : α → Prop} {l : List α} {x : α} (h : ∀ y ∈ l, A y) (hx : A x) : ∀ y ∈ l ++ [x], A y := fun y hy => by simp at hy; rcases hy with hy | rfl; exact h y hy; exact hx
/-- Readers of good things. -/
structure Gd (P : F) : Prop where
  expr : ∀ d l, Oks l → Good X.Wf (P.expr d l)
  level : ∀ i d l, Oks l → Good X.Wf (P.level i d l)
  tail : ∀ i d x l, X.Wf x → Oks l → Good X.Wf (P.tail i d x l)
  unary : ∀ d l, Oks l → Good X.Wf (P.unary d l)
  args : ∀ d acc l, (∀ y ∈ acc, X.Wf y) → Oks l → Good (fun ks => ∀ y ∈ ks, X.Wf y) (P.args d acc l)
  stat : ∀ d l, Oks l → Good S.Wf (P.stat d l)
  block : ∀ d acc l, (∀ y ∈ acc, S.Wf y) → Oks l → Good (fun ks => ∀ y ∈ ks, S.Wf y) (P.block d acc l)
  params : ∀ acc l, (∀ y ∈ acc, Pm.Wf y) → Oks l → Good (fun ks => ∀ y ∈ ks, Pm.Wf y) (P.params acc l)
  inits : ∀ z acc l, (∀ y ∈ acc, X.Wf y) → Oks l → Good (fun ks => ∀ y ∈ ks, X.Wf y) (P.inits z acc l)
  prog : ∀ g l x, Pg.Wf g → Oks l → P.prog g l = .ok x → Pg.Wf x
variable {P : F}
theorem gd_id (H : Gd P) (d : Nat) (l : List Tok) (h : Oks l) : Good X.Wf (idS P fin d l) := by
  unfold idS
  refine .seq (.name h) fun s l hs hl => .ite (fun _ => ?_) fun _ => .ite (fun _ => ?_) fun _ => .ok (wn (by constructor <;> decide) hs (fun _ h => by cases h)) hl
  · exact .seq (H.expr _ _ hl.tl) fun x l hx hl => .seq (.need _ hl) fun _ l _ hl => .ok (wn (by constructor <;> decide) hs (w1 hx)) hl
  · exact .seq (H.args _ _ _ (fun _ h => by cases h) hl.tl) fun x l hx hl => .ok (wn (by constructor <;> decide) hs hx) hl
theorem gd_prim (H : Gd P) (d : Nat) (l : List Tok) (h : Oks l) : Good X.Wf (primS P fin d l) := by
  unfold primS
  refine .ite (fun _ => .seq (H.expr _ _ h.tl) fun x l hx hl => .seq (.need _ hl) fun _ l _ hl => .ok hx hl) fun _ => ?_
  cases l with
  | nil => exact gd_id H d [] h
  | cons t l =>
    have ht := h t (List.mem_cons_self ..)
    exact .ite (fun _ => .ok (.mk _ _ _ _ _ _ (by constructor <;> decide) ht.n ht.b e0 (fun _ h => by cases h)) h.tl) fun _ => gd_id H d (t :: l) h
theorem gd_unary (H : Gd P) (d : Nat) (l : List Tok) (h : Oks l) : Good X.Wf (unaryS P fin d l) := by
  cases l with
  | nil => exact gd_prim H d [] h
  | cons t l =>
    rw [unaryS]
    refine .ite (fun _ => .ite (fun _ => .err) fun _ => .seq (H.unary _ _ h.tl) fun x l hx hl => .ok (wk (un_I _) (w1 hx)) hl) fun _ => ?_
    cases hc : casts (t :: l) with
    | none => exact gd_prim H d (t :: l) h
    | some ty => exact .ite (fun _ => .err) fun _ => .seq (.need _ h.tl.tl) fun _ l _ hl => .seq (H.unary _ _ hl) fun x l hx hl => .ok (.mk _ _ _ _ _ _ (by constructor <;> decide) U0 (casts_I hc) e0 (w1 hx)) hl
theorem first_good (acc : List α) (s : Bs) {l : List Tok} (h : Oks l) : Good Tr (if acc = [] then (.ok ((), l) : Res Unit) else Ps.need fin s l) := .ite (fun _ => .ok trivial h) fun _ => .need _ h
theorem Wf.nm {x : X} (h : X.Wf x) : x.name.size ≤ maxLen := by cases h; assumption
theorem Wf.kids {x : X} (h : X.Wf x) : ∀ y ∈ x.kids, X.Wf y := by cases h; assumption
theorem nl {α : Type} {A : α → Prop} : ∀ y ∈ ([] : List α), A y := fun _ h => by cases h
theorem gd_set (H : Gd P) (d : Nat) (l : List Tok) (h : Oks l) : Good S.Wf (setS P fin d l) := by
  unfold setS
  refine .seq (H.expr _ _ h) fun x l hx hl => .ite (fun _ => .ite (fun _ => .seq (H.expr _ _ hl.tl) fun y l hy hl => .ok ?_ hl) fun _ => .err) fun _ => .ok ?_ hl
  · refine .mk _ _ _ _ _ _ _ _ _ _ _ (by constructor <;> decide) I0 (Wf.nm hx) hy ?_ nl nl nl nl
    split
    · cases hk : x.kids with
      | nil => exact wz
      | cons k ks => exact Wf.kids hx k (by rw [hk]; exact List.mem_cons_self ..)
    · exact wz
  · exact .mk _ _ _ _ _ _ _ _ _ _ _ (by constructor <;> decide) I0 e0 hx wz nl nl nl nl
abbrev Sf (l : List S) : Prop := ∀ y ∈ l, S.Wf y
theorem gd_sets (H : Gd P) (s : Bs) (d : Nat) (l : List Tok) (h : Oks l) : Good Sf (setsS P fin s d l) := by
  unfold setsS
  exact .ite (fun _ => .ok nl h) fun _ => .seq (gd_set H _ _ h) fun x l hx hl => .ok (fun y hy => by simp at hy; subst hy; exact hx) hl
theorem Wf.body {x : S} (h : S.Wf x) : ∀ y ∈ x.body, S.Wf y := by cases h; assumption
theorem gd_body (H : Gd P) (d : Nat) (l : List Tok) (h : Oks l) : Good Sf (bodyS P d l) := .seq (H.stat _ _ h) fun x l hx hl => .ok (by
  show Sf (if x.kind = 11 then x.body else [x])
  split
  · exact Wf.body hx
  · exact fun y hy => by simp at hy; subst hy; exact hx) hl
theorem gd_cond (H : Gd P) (d : Nat) (l : List Tok) (h : Oks l) : Good X.Wf (condS P fin d l) := .seq (.need _ h) fun _ l _ hl => .seq (H.expr _ _ hl) fun x l hx hl => .seq (.need _ hl) fun _ l _ hl => .ok hx hl
theorem gd_may (H : Gd P) (s : Bs) (d : Nat) (l : List Tok) (h : Oks l) : Good (fun p : Bool × X => X.Wf p.2) (mayS P s d l) := by
  unfold mayS
  exact .ite (fun _ => .ok wz h) fun _ => .seq (H.expr _ _ h) fun x l hx hl => .ok hx hl
theorem gd_end {x : S} {l : List Tok} (hx : S.Wf x) (h : Oks l) : Good S.Wf (endS fin x l) := .seq (.need _ h) fun _ l _ hl => .ok hx hl
theorem sk_wf {k : Int} (h : W.I k) : S.Wf (sk k) := .mk _ _ _ _ _ _ _ _ _ _ _ h I0 e0 wz wz nl nl nl nl
theorem gd_decl (H : Gd P) {b : Int} {s : Bool} (hb : W.I b) (d : Nat) (l : List Tok) (h : Oks l) : Good S.Wf (declS P fin b s d l) := by
  unfold declS
  refine .seq (.name h) fun n l hn hl => .ite (fun _ => .seq (H.expr _ _ hl.tl) fun x l hx hl => gd_end ?_ hl) fun _ => gd_end ?_ hl
  · exact .mk _ _ _ _ _ _ _ _ _ _ _ (by constructor <;> decide) hb (nm_size hn) hx wz nl nl nl nl
  · exact .mk _ _ _ _ _ _ _ _ _ _ _ (by constructor <;> decide) hb (nm_size hn) wz wz nl nl nl nl
theorem gd_if (H : Gd P) (d : Nat) (l : List Tok) (h : Oks l) : Good S.Wf (ifS P fin d l) := by
  unfold ifS
  refine .seq (gd_cond H _ _ h) fun x l hx hl => .seq (gd_body H _ _ hl) fun b l hb hl => .ite (fun _ => .seq (gd_body H _ _ hl.tl) fun e l he hl => .ok ?_ hl) fun _ => .ok ?_ hl
  · exact .mk _ _ _ _ _ _ _ _ _ _ _ (by constructor <;> decide) I0 e0 hx wz nl nl hb he
  · exact .mk _ _ _ _ _ _ _ _ _ _ _ (by constructor <;> decide) I0 e0 hx wz nl nl hb nl
theorem gd_while (H : Gd P) (d : Nat) (l : List Tok) (h : Oks l) : Good S.Wf (whileS P fin d l) := .seq (gd_cond H _ _ h) fun x l hx hl => .seq (gd_body H _ _ hl) fun b l hb hl => .ok (.mk _ _ _ _ _ _ _ _ _ _ _ (by constructor <;> decide) I0 e0 hx wz nl nl hb nl) hl
theorem gd_for (H : Gd P) (d : Nat) (l : List Tok) (h : Oks l) : Good S.Wf (forS P fin d l) :=
  .seq (.need _ h) fun _ l _ h => .seq (gd_sets H _ _ _ h) fun i l hi h => .seq (.need _ h) fun _ l _ h => .seq (gd_may H _ _ _ h) fun x l hx h => .seq (.need _ h) fun _ l _ h => .seq (gd_sets H _ _ _ h) fun st l hst h => .seq (.need _ h) fun _ l _ h => .seq (gd_body H _ _ h) fun b l hb h =>
    .ok (.mk _ _ _ _ _ _ _ _ _ _ _ (by constructor <;> decide) I0 e0 hx wz hi hst hb nl) h
theorem gd_ret (H : Gd P) (d : Nat) (l : List Tok) (h : Oks l) : Good S.Wf (retS P fin d l) := .seq (gd_may H _ _ _ h) fun x l hx hl => gd_end (.mk _ _ _ _ _ _ _ _ _ _ _ (by constructor <;> decide) I0 e0 hx wz nl nl nl nl) hl
theorem gd_inner (H : Gd P) (d : Nat) (l : List Tok) (h : Oks l) : Good S.Wf (innerS P fin d l) := by
  unfold innerS
  refine .ite (fun _ => .ok (sk_wf (by constructor <;> decide)) h.tl) fun _ => .ite (fun _ => .seq (H.block _ _ _ nl h.tl) fun b l hb hl => .ok (.mk _ _ _ _ _ _ _ _ _ _ _ (by constructor <;> decide) I0 e0 wz wz nl nl hb nl) hl) fun _ => .ite (fun _ => gd_if H _ _ h.tl) fun _ => .ite (fun _ => gd_while H _ _ h.tl) fun _ => .ite (fun _ => gd_for H _ _ h.tl) fun _ => .ite (fun _ => gd_ret H _ _ h.tl) fun _ => .ite (fun _ => gd_end (sk_wf (by constructor <;> decide)) h.tl) fun _ => .ite (fun _ => gd_end (sk_wf (by constructor <;> decide)) h.tl) fun _ => ?_
  cases ht : typed l with
  | none => exact .seq (gd_set H _ _ h) fun x l hx hl => gd_end hx hl
  | some t => exact gd_decl H (typed_I ht) _ _ h.tl
theorem gd_fn (H : Gd P) {b : Int} {s : Bool} {n : Bs} (hb : W.I b) (hn : NmOk n) (l : List Tok) (h : Oks l) : Good Fn.Wf (fnS P fin b s n l) := .seq (H.params _ _ nl h) fun ps l hp h => .seq (.need _ h) fun _ l _ h => .seq (H.block _ _ _ nl h) fun bd l hbd h => .ok ⟨nm_size hn, hb, hp, hbd⟩ h
theorem gd_size (l : List Tok) (h : Oks l) : Good W.I (sizeS fin l) := by
  unfold sizeS
  refine .ite (fun _ => ?_) fun _ => .ok I0 h
  have h := h.tl
  revert h
  generalize l.tail = l2
  intro h
  cases l2 with
  | nil => exact .err
  | cons t l => exact .ite (fun _ => .err) fun _ => .ite (fun _ => .err) fun hz => .seq (.need _ h.tl) fun _ l _ h => .ok (by constructor <;> omega) h
theorem gd_gl (H : Gd P) {b : Int} {s : Bool} {n : Bs} (hb : W.I b) (hn : NmOk n) (l : List Tok) (h : Oks l) : Good Gl.Wf (glS P fin b s n l) := by
  unfold glS
  refine .seq (gd_size l h) fun z l hz h => .ite (fun _ => .ite (fun _ => .seq (H.expr _ _ h.tl) fun x l hx h => .seq (.need _ h) fun _ l _ h => .ok ⟨hb, nm_size hn, hz, w1 hx⟩ h) fun _ => ?_) fun _ => .seq (.need _ h) fun _ l _ h => .ok ⟨hb, nm_size hn, hz, nl⟩ h
  exact .seq (.need _ h.tl) fun _ l _ h => .seq (H.inits _ _ _ nl h) fun xs l hx h => .seq (.need _ h) fun _ l _ h => .ok ⟨hb, nm_size hn, hz, hx⟩ h
theorem head_I {l : List Tok} {hd : Option (Int × Bool)} (h : headS l = some hd) : W.I (hd.getD (0, false)).1 := by
  unfold headS at h
  cases ht : typed l with
  | none =>
    rw [ht] at h
    simp only at h
    split at h
    · injection h with h; subst h; exact I0
    · cases h
  | some t => rw [ht] at h; injection h with h; subst h; exact typed_I ht
theorem gd_prog (H : Gd P) (g : Pg) (l : List Tok) (x : Pg) (hg : Pg.Wf g) (hl : Oks l) (h : progS P fin g l = .ok x) : Pg.Wf x := by
  unfold progS at h
  split at h
  · injection h with h; subst h; exact hg
  cases hh : headS l with
  | none => rw [hh] at h; cases h
  | some hd =>
    rw [hh] at h
    simp only at h
    have hI := head_I hh
    cases hn : name fin l.tail with
    | error e => rw [hn] at h; cases h
    | ok p =>
      obtain ⟨n, l1⟩ := p
      rw [hn] at h
      simp only at h
      obtain ⟨hnm, hl1⟩ := Good.name hl.tl _ _ hn
      split at h
      · split at h
        · cases h
        cases hf : fnS P fin (hd.getD (0, false)).1 (hd.getD (0, false)).2 n l1.tail with
        | error e => rw [hf] at h; cases h
        | ok q =>
          obtain ⟨f, l2⟩ := q
          rw [hf] at h
          obtain ⟨hw, hl2⟩ := gd_fn (fin := fin) H hI hnm _ hl1.tl _ _ hf
          exact H.prog ⟨g.gs, g.fs ++ [f]⟩ _ _ ⟨hg.gs, wa hg.fs hw⟩ hl2 h
      · cases hd with
        | none => cases h
        | some t =>
          simp only at h
          cases hf : glS P fin t.1 t.2 n l1 with
          | error e => rw [hf] at h; cases h
          | ok q =>
            obtain ⟨f, l2⟩ := q
            rw [hf] at h
            obtain ⟨hw, hl2⟩ := gd_gl (fin := fin) H hI hnm _ hl1 _ _ hf
            exact H.prog ⟨g.gs ++ [f], g.fs⟩ _ _ ⟨wa hg.gs hw, hg.fs⟩ hl2 h
theorem gd_at (fin : Nat) : ∀ n, Gd (at' fin n)
  | 0 => ⟨fun _ _ _ => .err, fun _ _ _ _ => .err, fun _ _ _ _ _ _ => .err, fun _ _ _ => .err, fun _ _ _ _ _ => .err, fun _ _ _ => .err, fun _ _ _ _ _ => .err, fun _ _ _ _ => .err, fun _ _ _ _ _ => .err, fun _ _ _ _ _ h => by cases h⟩
  | n + 1 => by
    have H := gd_at fin n
    refine ⟨fun d l h => .ite (fun _ => .err) fun _ => H.level _ _ _ h, fun i d l h => .ite (fun _ => H.unary _ _ h) fun _ => .seq (H.level _ _ _ h) fun x l hx hl => H.tail _ _ _ _ hx hl, fun i d x l hx hl => ?_, gd_unary H, fun d acc l ha hl => ?_, fun d l h => .ite (fun _ => .err) fun _ => gd_inner H _ _ h, fun d acc l ha hl => ?_, fun acc l ha hl => ?_, fun z acc l ha hl => ?_, gd_prog H⟩
    · cases l with
      | nil => exact .ok hx hl
      | cons t l => exact .ite (fun _ => .seq (H.level _ _ _ hl.tl) fun y l hy hl => H.tail _ _ _ _ (wk (bin_I _ _) (w2 hx hy)) hl) fun _ => .ok hx hl
    · exact .ite (fun _ => .ok ha hl.tl) fun _ => .seq (first_good _ _ hl) fun _ l _ hl => .ite (fun _ => .err) fun _ => .seq (H.expr _ _ hl) fun x l hx hl => H.args _ _ _ (wa ha hx) hl
    · exact .ite (fun _ => .ok ha hl.tl) fun _ => .ite (fun _ => .err) fun _ => .seq (H.stat _ _ hl) fun x l hx hl => H.block _ _ _ (wa ha hx) hl
    · refine .ite (fun _ => .ok ha hl.tl) fun _ => .seq (first_good _ _ hl) fun _ l _ hl => .ite (fun _ => .err) fun _ => ?_
      cases ht : typed l with
      | none => exact .err
      | some t => exact .seq (.name hl.tl) fun n l hn hl => H.params _ _ (wa ha ⟨typed_I ht, nm_size hn⟩) hl
    · exact .ite (fun _ => .ok ha hl.tl) fun _ => .seq (first_good _ _ hl) fun _ l _ hl => .ite (fun _ => .err) fun _ => .seq (H.expr _ _ hl) fun x l hx hl => H.inits _ _ _ (wa ha hx) hl
end
end Ps
end Go.Proofs.Ytfkndjifhmkojaa
