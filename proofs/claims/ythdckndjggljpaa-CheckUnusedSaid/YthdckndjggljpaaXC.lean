/- Constant expressions, plain: what one has, and its type. No condition. -/
import Derived.Test.YthdckndjggljpaaXB
import Derived.Test.YthdckndjggljpaaX5m
namespace Go.Proofs.Ythdckndjggljpaa
open Go.RowKit
set_option linter.unusedVariables false
set_option linter.unusedSimpArgs false
set_option maxRecDepth 100000
theorem bin_ex (k a b xb yb : Int) (xs ys : Bool) : ∃ r : Int × Int, W.U a → W.U b → Gives 46 #[.int .i64 k, .int .u64 a, .int .u64 b, W.ty xb xs, W.ty yb ys] (.tuple #[.int .u64 r.1, .int .i64 r.2]) ∧ Gives 46 #[.int .i64 k, .int .u64 a, .int .u64 b, W.ty xb xs, W.ty yb ys] (.tuple #[.int .u64 r.1, .int .i64 r.2]) ∧ (r.2 = 0 → (W.ok xb ∧ W.ok yb) ∧ 0 ≤ r.1 ∧ r.1 < W.md (W.rb k xb yb)) := by
  by_cases h : W.U a ∧ W.U b
  · obtain ⟨r, e, h1, h2, h3⟩ := both_bin3 k a b xb yb xs ys h.1 h.2
    exact ⟨(r, e), fun _ _ => ⟨h1, h2, h3⟩⟩
  · exact ⟨(0, 0), fun ha hb => absurd ⟨ha, hb⟩ h⟩
/-- What an operator makes of two numbers, and what is wrong. -/
noncomputable def W.bin (k a b xb yb : Int) (xs ys : Bool) : Int × Int := (bin_ex k a b xb yb xs ys).choose
theorem un_ex (k a xb : Int) (xs : Bool) : ∃ r : Int × Int × Bool × Int, W.U a → (∀ w : World, Calls Try.prog 45 #[.int .i64 k, .int .u64 a, W.ty xb xs] w (UnR r.1 r.2.1 r.2.2.1 r.2.2.2 w)) ∧ (∀ w : World, Calls Try.prog 45 #[.int .i64 k, .int .u64 a, W.ty xb xs] w (UnR r.1 r.2.1 r.2.2.1 r.2.2.2 w)) ∧ (r.2.2.2 = 0 → W.ok xb ∧ W.ok r.2.1 ∧ 0 ≤ r.1 ∧ r.1 < W.md r.2.1) ∧ (k = 6 → W.ok xb → r = (W.sub (W.pb xb) 0 (W.conv xb xs (W.pb xb) a), W.pb xb, W.ps xb xs, 0)) := by
  by_cases h : W.U a
  · obtain ⟨r, b, s, e, h1, h2, h3, h4⟩ := both_un3 k a xb xs h
    exact ⟨(r, b, s, e), fun _ => ⟨h1, h2, h3, fun hk hx => by obtain ⟨rfl, rfl, rfl, rfl⟩ := h4 hk hx; rfl⟩⟩
  · exact ⟨(0, 0, false, 0), fun ha => absurd ha h⟩
noncomputable def W.un (k a xb : Int) (xs : Bool) : Int × Int × Bool × Int := (un_ex k a xb xs).choose
/-- What came of a constant: the number, its type, and what is wrong. -/
structure Cst where
  n : Int
  b : Int
  s : Bool
  e : Int
noncomputable def Cst.of (k n b : Int) (s : Bool) (r0 r1 : Cst) : Cst :=
  if k = 1 then ⟨n, b, s, 0⟩
  else if k < 5 ∨ 26 < k then ⟨0, 0, false, 8⟩
  else if r0.e ≠ 0 then ⟨0, r0.b, r0.s, r0.e⟩
  else if k = 5 then ⟨W.conv r0.b r0.s b r0.n, b, s, 0⟩
  else if k < 9 then ⟨(W.un k r0.n r0.b r0.s).1, (W.un k r0.n r0.b r0.s).2.1, (W.un k r0.n r0.b r0.s).2.2.1, (W.un k r0.n r0.b r0.s).2.2.2⟩
  else if r1.e ≠ 0 then ⟨0, r1.b, r1.s, r1.e⟩
  else if k = 25 ∨ k = 26 then ⟨if ((r0.n != 0) && (r1.n != 0)) || ((k == 26) && ((r0.n != 0) || (r1.n != 0))) then 1 else 0, 16, true, 0⟩
  else ⟨(W.bin k r0.n r1.n r0.b r1.b r0.s r1.s).1, W.rb k r0.b r1.b, W.rs k r0.b r0.s r1.b r1.s, (W.bin k r0.n r1.n r0.b r1.b r0.s r1.s).2⟩
namespace X
mutual
noncomputable def cst : X → Cst
  | .mk k n b s nm ks => Cst.of k n b s ((csts ks).getD 0 ⟨0, 0, false, 0⟩) ((csts ks).getD 1 ⟨0, 0, false, 0⟩)
noncomputable def csts : List X → List Cst
  | [] => []
  | x :: xs => cst x :: csts xs
end
theorem csts_eq (xs : List X) : csts xs = xs.map cst := by
  induction xs with
  | nil => rw [csts]; rfl
  | cons x xs ih => rw [csts, ih]; rfl
theorem cst_eq (x : X) : cst x = Cst.of x.kind x.num x.bits x.sg ((x.kids.map cst).getD 0 ⟨0, 0, false, 0⟩) ((x.kids.map cst).getD 1 ⟨0, 0, false, 0⟩) := by
  cases x with | mk k n b s nm ks => rw [cst, csts_eq]; rfl
theorem kid_cst {x y : X} {i : Nat} (h : x.kids[i]? = some y) : (x.kids.map cst).getD i ⟨0, 0, false, 0⟩ = cst y := by
  rw [List.getD_eq_getElem?_getD, List.getElem?_map, h]; rfl
end X
/-- Within bounds, of a right type, if it is one. -/
def Cst.Fine (c : Cst) : Prop := c.e = 0 → W.ok c.b ∧ 0 ≤ c.n ∧ c.n < W.md c.b
theorem Cst.Fine.U {c : Cst} (h : Cst.Fine c) (he : c.e = 0) : W.U c.n := ⟨(h he).2.1, Int.lt_of_lt_of_le (h he).2.2 (W.md_le _)⟩
theorem W.lit_rng {n : Int} {u : Bool} {b : Int} {s : Bool} (hn : W.U n) (h : W.lit n u = (b, s, 0)) : W.ok b ∧ n < W.md b := by
  have h0 := hn.1; have h1 := hn.2
  unfold W.lit at h
  cases u
  · simp only [Bool.false_eq_true, if_false] at h
    split at h
    · simp only [Prod.mk.injEq] at h; obtain ⟨rfl, _, _⟩ := h; exact ⟨by simp [W.ok], by rw [W.md16]; omega⟩
    split at h
    · simp only [Prod.mk.injEq] at h; obtain ⟨rfl, _, _⟩ := h; exact ⟨by simp [W.ok], by rw [W.md32]; omega⟩
    split at h
    · simp only [Prod.mk.injEq] at h; obtain ⟨rfl, _, _⟩ := h; exact ⟨by simp [W.ok], by rw [W.md64]; omega⟩
    · simp at h
  · simp only [if_true] at h
    split at h
    · simp only [Prod.mk.injEq] at h; obtain ⟨rfl, _, _⟩ := h; exact ⟨by simp [W.ok], by rw [W.md16]; omega⟩
    split at h
    · simp only [Prod.mk.injEq] at h; obtain ⟨rfl, _, _⟩ := h; exact ⟨by simp [W.ok], by rw [W.md32]; omega⟩
    · simp only [Prod.mk.injEq] at h; obtain ⟨rfl, _, _⟩ := h; exact ⟨by simp [W.ok], by rw [W.md64]; omega⟩
theorem W.okB_ok {b : Int} (h : W.okB b ≠ false) : W.ok b := Classical.byContradiction fun h2 => h (W.okB_f h2)
theorem W.rb_ok {k a b : Int} (ha : W.ok a) (hb : W.ok b) : W.ok (W.rb k a b) := by
  unfold W.rb
  split
  · exact W.pb_ok ha
  · split
    · simp [W.ok]
    · exact W.cb_ok ha hb
theorem W.lt_U {n b : Int} (h0 : 0 ≤ n) (h : n < W.md b) : W.U n := ⟨h0, Int.lt_of_lt_of_le h (W.md_le b)⟩
namespace X
/-- How many kids a right one has. -/
theorem own_kids {k n b : Int} {s : Bool} {nm : List UInt8} {c : Nat} (h : own k n b s nm c = 0) : 1 ≤ k ∧ k ≤ 26 ∧ (k = 1 → W.lit n (!s) = (b, s, 0)) ∧ (k = 5 → W.ok b) ∧ ((kidsOf k = -1 ∧ c ≤ 8) ∨ (0 ≤ kidsOf k ∧ kidsOf k = (c : Int))) := by
  unfold own at h
  split at h
  · exact absurd h (by decide)
  rename_i h1
  split at h
  · exact absurd h (by decide)
  rename_i h2
  split at h
  · exact absurd h (by decide)
  split at h
  · exact absurd h (by decide)
  rename_i h4
  split at h
  · exact absurd h (by decide)
  rename_i h5
  refine ⟨by omega, by omega, fun hk => Classical.byContradiction fun h => h2 ⟨hk, h⟩, fun hk => W.okB_ok (fun h => h4 ⟨hk, h⟩), ?_⟩
  have hm : kidsOf k = 0 ∨ kidsOf k = -1 ∨ kidsOf k = 1 ∨ kidsOf k = 2 := by
    unfold kidsOf; rw [if_neg h1]; split
    · exact .inl rfl
    split
    · exact .inr (.inl rfl)
    split
    · exact .inr (.inr (.inl rfl))
    · exact .inr (.inr (.inr rfl))
  rcases hm with hm | hm | hm | hm <;> rw [hm] at h5 ⊢ <;> omega
theorem Shp.two {x : X} (h : Shp x) (hk : 9 ≤ x.kind) : ∃ y z, x.kids = [y, z] := by
  have := own_kids h.own
  have e : kidsOf x.kind = 2 := by unfold kidsOf; rw [if_neg (by omega), if_neg (by omega), if_neg (by omega), if_neg (by omega)]
  have hl : x.kids.length = 2 := by omega
  match hx : x.kids, hl with
  | [y, z], _ => exact ⟨y, z, rfl⟩
theorem Shp.one {x : X} (h : Shp x) (hk : 5 ≤ x.kind) (hk2 : x.kind < 9) : ∃ y, x.kids = [y] := by
  have := own_kids h.own
  have e : kidsOf x.kind = 1 := by unfold kidsOf; rw [if_neg (by omega), if_neg (by omega), if_neg (by omega), if_pos (by omega)]
  have hl : x.kids.length = 1 := by omega
  match hx : x.kids, hl with
  | [y], _ => exact ⟨y, rfl⟩
theorem cst_fine (x : X) : Shp x → Wf x → Cst.Fine (cst x) := by
  induction x using X.up with
  | _ x ih =>
    intro hs hw
    have ho := own_kids hs.own
    rw [cst_eq]
    unfold Cst.of
    split
    · rename_i h1
      have := W.lit_rng hw.num (ho.2.2.1 h1)
      exact fun _ => ⟨this.1, hw.num.1, this.2⟩
    split
    · exact fun h => absurd h (by decide)
    rename_i h1 h2
    have h5 : 5 ≤ x.kind := by omega
    have hy : ∃ y, x.kids[0]? = some y := by
      rcases Int.lt_or_le x.kind 9 with h | h
      · obtain ⟨y, hy⟩ := hs.one h5 h; exact ⟨y, by rw [hy]; rfl⟩
      · obtain ⟨y, z, hy⟩ := hs.two h; exact ⟨y, by rw [hy]; rfl⟩
    obtain ⟨y, hy⟩ := hy
    rw [kid_cst hy]
    have hym := List.mem_of_getElem? hy
    have fy := ih y hym (hs.kid hym) (hw.kid hym)
    split
    · rename_i he; exact fun h => absurd h he
    rename_i he
    have he : (cst y).e = 0 := by omega
    have uy := fy.U he
    split
    · rename_i hk
      exact fun _ => ⟨ho.2.2.2.1 hk, W.mod_lo _ _, W.mod_hi _ _⟩
    split
    · have := ((un_ex x.kind (cst y).n (cst y).b (cst y).s).choose_spec uy).2.2.1
      exact fun h => (this h).2
    rename_i h6 h7
    obtain ⟨y2, z, hyz⟩ := hs.two (by omega)
    have hz : x.kids[1]? = some z := by rw [hyz]; rfl
    rw [kid_cst hz]
    have hzm := List.mem_of_getElem? hz
    have fz := ih z hzm (hs.kid hzm) (hw.kid hzm)
    split
    · rename_i he2; exact fun h => absurd h he2
    rename_i he2
    have he2 : (cst z).e = 0 := by omega
    split
    · intro _; refine ⟨by simp [W.ok], ?_⟩
      show 0 ≤ (if _ then (1 : Int) else 0) ∧ (if _ then (1 : Int) else 0) < W.md 16
      split <;> decide
    · have := ((bin_ex x.kind (cst y).n (cst z).n (cst y).b (cst z).b (cst y).s (cst z).s).choose_spec uy (fz.U he2)).2.2
      intro h
      exact ⟨W.rb_ok (this h).1.1 (this h).1.2, (this h).2.1, (this h).2.2⟩
end X
end Go.Proofs.Ythdckndjggljpaa
/- Expressions whose known parts are worked out, plain; and where an expression lies. No condition. -/
namespace Go.Proofs.Ythdckndjggljpaa
open Go.RowKit
set_option linter.unusedVariables false
set_option linter.unusedSimpArgs false
set_option maxRecDepth 100000
namespace X
/-- A number written with its type. -/
def lit (n b : Int) (s : Bool) : X := if W.lit n (!s) = (b, s, 0) then .mk 1 n b s ⟨#[]⟩ [] else .mk 5 0 b s ⟨#[]⟩ [.mk 1 n (W.lit n true).1 (W.lit n true).2.1 ⟨#[]⟩ []]
/-- It is a number, perhaps with a type ahead. -/
def known (x : X) : Bool := x.kind == 1 || (x.kind == 5 && (x.kids.map X.kind).getD 0 0 == 1)
noncomputable def foldOf (k n b : Int) (s : Bool) (nm : ByteArray) (fs : List X) : X :=
  if (decide (5 ≤ k) && fs.all known) = true ∧ (cst (.mk k n b s nm fs)).e = 0 then lit (cst (.mk k n b s nm fs)).n (cst (.mk k n b s nm fs)).b (cst (.mk k n b s nm fs)).s else .mk k n b s nm fs
mutual
noncomputable def fold : X → X
  | .mk k n b s nm ks => foldOf k n b s nm (folds ks)
noncomputable def folds : List X → List X
  | [] => []
  | x :: xs => fold x :: folds xs
end
theorem folds_eq (xs : List X) : folds xs = xs.map fold := by
  induction xs with
  | nil => rw [folds]; rfl
  | cons x xs ih => rw [folds, ih]; rfl
theorem fold_eq (x : X) : fold x = foldOf x.kind x.num x.bits x.sg x.name (x.kids.map fold) := by
  cases x with | mk k n b s nm ks => rw [fold, folds_eq]; rfl
theorem lit_true (n : Int) (hn : W.U n) : (W.lit n true).2.2 = 0 ∧ (W.lit n true).2.1 = false := by
  unfold W.lit; rw [if_pos rfl]
  split
  · exact ⟨rfl, rfl⟩
  split
  · exact ⟨rfl, rfl⟩
  · exact ⟨rfl, rfl⟩
theorem lit_true_eq (n : Int) (hn : W.U n) : W.lit n (!(W.lit n true).2.1) = ((W.lit n true).1, (W.lit n true).2.1, 0) := by
  obtain ⟨h1, h2⟩ := lit_true n hn
  rw [h2]
  show W.lit n true = _
  rw [Prod.ext_iff, Prod.ext_iff]; exact ⟨rfl, h2, h1⟩
theorem W_I_of_ok {b : Int} (h : W.ok b) : W.I b := by rcases h with rfl | rfl | rfl | rfl <;> constructor <;> decide
theorem cst_one (n b : Int) (s : Bool) (nm : ByteArray) (ks : List X) : cst (.mk 1 n b s nm ks) = ⟨n, b, s, 0⟩ := by rw [cst_eq]; exact if_pos rfl
/-- What is written of a number has it. -/
theorem lit_good (n b : Int) (s : Bool) (hn : W.U n) (hb : W.ok b) (hlt : n < W.md b) : Shp (lit n b s) ∧ Wf (lit n b s) ∧ cst (lit n b s) = ⟨n, b, s, 0⟩ ∧ known (lit n b s) = true := by
  unfold lit
  split
  · rename_i h
    refine ⟨.mk _ _ _ _ _ _ ?_ (fun x hx => by simp at hx), .mk _ _ _ _ _ _ ⟨by decide, by decide⟩ hn (W_I_of_ok hb) (Nat.zero_le _) (fun x hx => by simp at hx), ?_, rfl⟩
    · unfold own; rw [if_neg (by omega), if_neg (fun hh => hh.2 h), if_neg (by omega), if_neg (by omega), if_neg (by simp [kidsOf])]
    · exact cst_one _ _ _ _ _
  · have h1 := lit_true n hn
    have h2 := lit_true_eq n hn
    have hlb := W.lit_rng hn (show W.lit n true = ((W.lit n true).1, (W.lit n true).2.1, 0) by rw [Prod.ext_iff, Prod.ext_iff]; exact ⟨rfl, rfl, h1.1⟩)
    refine ⟨.mk _ _ _ _ _ _ ?_ (fun x hx => ?_), .mk _ _ _ _ _ _ ⟨by decide, by decide⟩ ⟨by decide, by decide⟩ (W_I_of_ok hb) (Nat.zero_le _) (fun x hx => ?_), ?_, rfl⟩
    · unfold own; rw [if_neg (by omega), if_neg (by omega), if_neg (by omega), if_neg (fun hh => by rw [W.okB_t hb] at hh; exact absurd hh.2 (by decide)), if_neg (by simp [kidsOf])]
    · rw [List.mem_singleton] at hx; subst hx
      refine .mk _ _ _ _ _ _ ?_ (fun x hx => by simp at hx)
      unfold own; rw [if_neg (by omega), if_neg (fun hh => hh.2 h2), if_neg (by omega), if_neg (by omega), if_neg (by simp [kidsOf])]
    · rw [List.mem_singleton] at hx; subst hx
      exact .mk _ _ _ _ _ _ ⟨by decide, by decide⟩ hn (W_I_of_ok hlb.1) (Nat.zero_le _) (fun x hx => by simp at hx)
    · have ek : cst (.mk 1 n (W.lit n true).1 (W.lit n true).2.1 ⟨#[]⟩ []) = ⟨n, (W.lit n true).1, (W.lit n true).2.1, 0⟩ := by exact cst_one _ _ _ _ _
      rw [cst_eq]
      show Cst.of 5 0 b s (([X.mk 1 n (W.lit n true).1 (W.lit n true).2.1 ⟨#[]⟩ []].map cst).getD 0 _) _ = _
      rw [show ([X.mk 1 n (W.lit n true).1 (W.lit n true).2.1 ⟨#[]⟩ []].map cst).getD 0 ⟨0, 0, false, 0⟩ = cst (.mk 1 n (W.lit n true).1 (W.lit n true).2.1 ⟨#[]⟩ []) from rfl, ek]
      unfold Cst.of
      rw [if_neg (by omega), if_neg (by omega), if_neg (by simp), if_pos rfl]
      have : W.conv (W.lit n true).1 (W.lit n true).2.1 b n = n := by
        unfold W.conv; rw [h1.2]
        show W.cut (W.lit n true).1 n % W.md b = n
        unfold W.cut
        rw [Int.emod_eq_of_lt hn.1 hlb.2, Int.emod_eq_of_lt hn.1 hlt]
      rw [this]
theorem own_len {k n b : Int} {s : Bool} {nm : List UInt8} {c c' : Nat} (h : c = c') : own k n b s nm c = own k n b s nm c' := by rw [h]
/-- The whole law: shape, ranges, and what it has stay. -/
theorem fold_good (x : X) : Shp x → Wf x → Shp (fold x) ∧ Wf (fold x) ∧ cst (fold x) = cst x ∧ ((cst x).e = 0 → known (fold x) = true) := by
  induction x using X.up with
  | _ x ih =>
    intro hs hw
    obtain ⟨k, n, b, s, nm, ks⟩ := x
    have IH : ∀ y ∈ ks, Shp (fold y) ∧ Wf (fold y) ∧ cst (fold y) = cst y ∧ ((cst y).e = 0 → known (fold y) = true) := fun y hy => ih y hy (hs.kid hy) (hw.kid hy)
    have hso : Shp (.mk k n b s nm (ks.map fold)) := by
      refine .mk _ _ _ _ _ _ ?_ (fun y hy => ?_)
      · rw [List.length_map]; exact hs.own
      · obtain ⟨z, hz, rfl⟩ := List.mem_map.1 hy; exact (IH z hz).1
    have hwo : Wf (.mk k n b s nm (ks.map fold)) := by
      cases hw with | mk _ _ _ _ _ _ hk hn hb hs2 h =>
      refine .mk _ _ _ _ _ _ hk hn hb hs2 (fun y hy => ?_)
      obtain ⟨z, hz, rfl⟩ := List.mem_map.1 hy; exact (IH z hz).2.1
    have hco : cst (.mk k n b s nm (ks.map fold)) = cst (.mk k n b s nm ks) := by
      rw [cst_eq, cst_eq]
      show Cst.of k n b s (((ks.map fold).map cst).getD 0 _) (((ks.map fold).map cst).getD 1 _) = Cst.of k n b s ((ks.map cst).getD 0 _) ((ks.map cst).getD 1 _)
      have : (ks.map fold).map cst = ks.map cst := by
        rw [List.map_map]; exact List.map_congr_left (fun y hy => (IH y hy).2.2.1)
      rw [this]
    rw [fold_eq]
    show Shp (foldOf k n b s nm (ks.map fold)) ∧ Wf (foldOf k n b s nm (ks.map fold)) ∧ cst (foldOf k n b s nm (ks.map fold)) = _ ∧ (_ → known (foldOf k n b s nm (ks.map fold)) = true)
    unfold foldOf
    split
    · rename_i h
      have hf : Cst.Fine (cst (.mk k n b s nm (ks.map fold))) := cst_fine _ hso hwo
      have := hf h.2
      obtain ⟨h1, h2, h3, h4⟩ := lit_good (cst (.mk k n b s nm (ks.map fold))).n (cst (.mk k n b s nm (ks.map fold))).b (cst (.mk k n b s nm (ks.map fold))).s (hf.U h.2) this.1 this.2.2
      refine ⟨h1, h2, ?_, fun _ => h4⟩
      rw [h3, ← hco]
      rw [← h.2]
    · rename_i h
      refine ⟨hso, hwo, hco, fun he => ?_⟩
      rw [← hco] at he
      -- what is not worked out is a number already
      have hk1 : k = 1 := Classical.byContradiction fun hk1 => by
        apply h
        refine ⟨?_, he⟩
        rw [cst_eq] at he
        have he : (Cst.of k n b s (((ks.map fold).map cst).getD 0 ⟨0, 0, false, 0⟩) (((ks.map fold).map cst).getD 1 ⟨0, 0, false, 0⟩)).e = 0 := he
        unfold Cst.of at he
        rw [if_neg hk1] at he
        split at he
        · exact absurd he (by decide)
        rename_i hk5
        have hk5 : 5 ≤ k ∧ k ≤ 26 := by omega
        have all : ∀ y ∈ ks, (cst y).e = 0 := by
          have ek : (ks.map fold).map cst = ks.map cst := by
            rw [List.map_map]; exact List.map_congr_left (fun y hy => (IH y hy).2.2.1)
          rw [ek] at he
          rcases Int.lt_or_le k 9 with h9 | h9
          · obtain ⟨y, hy⟩ := hs.one hk5.1 h9
            have hy : ks = [y] := hy
            subst hy
            have e0 : ([y].map cst).getD 0 ⟨0, 0, false, 0⟩ = cst y := rfl
            rw [e0] at he
            intro z hz
            rw [List.mem_singleton] at hz; subst hz
            split at he
            · rename_i h; exact he
            · rename_i h; omega
          · obtain ⟨y, z, hy⟩ := hs.two h9
            have hy : ks = [y, z] := hy
            subst hy
            have e0 : ([y, z].map cst).getD 0 ⟨0, 0, false, 0⟩ = cst y := rfl
            have e1 : ([y, z].map cst).getD 1 ⟨0, 0, false, 0⟩ = cst z := rfl
            rw [e0, e1] at he
            have hy0 : (cst y).e = 0 := by
              split at he
              · exact he
              · rename_i h; omega
            have hz0 : (cst z).e = 0 := by
              rw [if_neg (by omega), if_neg (by omega), if_neg (by omega)] at he
              split at he
              · exact he
              · rename_i h; omega
            intro q hq
            simp only [List.mem_cons, List.mem_singleton, List.not_mem_nil, or_false] at hq
            rcases hq with rfl | rfl
            · exact hy0
            · exact hz0
        rw [decide_eq_true hk5.1, Bool.true_and, List.all_eq_true]
        intro y hy
        obtain ⟨z, hz, rfl⟩ := List.mem_map.1 hy
        exact (IH z hz).2.2.2 (all z hz)
      subst hk1
      rfl
end X
end Go.Proofs.Ythdckndjggljpaa
