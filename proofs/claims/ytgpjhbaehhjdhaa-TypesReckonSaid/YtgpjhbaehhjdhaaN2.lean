/- Walks of the reckoner with numbers of any size: lists of words: trim, twin, plain, cmp. -/
import Derived.Test.YtgpjhbaehhjdhaaNw
import Derived.Test.YtgpjhbaehhjdhaaSm
import Derived.Test.YtgpjhbaehhjdhaaRg
import Derived.Test.YtgpjhbaehhjdhaaChecked
import Derived.Deep.OwnRows
import Derived.Deep.AppendLies
import Derived.WalkSpells
import Derived.WalkLawsBesides
namespace Go.Proofs.Ytgpjhbaehhjdhaa
open Go.RowKit
set_option linter.unusedVariables false
set_option linter.unusedSimpArgs false
set_option maxRecDepth 100000

/-- The slice's block is one of words. -/
def Tp (w : World) (v : Value) : Prop := ∀ b off l c, v = .slice (some ⟨b, off, none⟩) l c → l ≠ 0 → ∃ cur fr, w.heap[b]? = some (.cells cur 124 fr)
theorem Tp.below {w w' : World} {v : Value} (h : Tp w v) (hb : Below w.heap.size w w') : Tp w' v := fun b off l c e h0 => by
  obtain ⟨cur, fr, hh⟩ := h b off l c e h0
  have hlt : b < w.heap.size := by
    rcases Nat.lt_or_ge b w.heap.size with hlt | hge
    · exact hlt
    · rw [Array.getElem?_eq_none hge] at hh; cases hh
  exact ⟨cur, fr, (hb.block b hlt).trans hh⟩
theorem Tp.alloc (w : World) (cs : Array Value) (fr : Nat × Nat) (off l c : Nat) : Tp (w.alloc (.cells cs 124 fr)) (.slice (some ⟨w.heap.size, off, none⟩) l c) := by
  intro b off' l' c' e _
  injection e with e1 _ _
  injection e1 with e1
  injection e1 with e1 _ _
  subst e1
  exact ⟨cs, fr, heap_alloc_new w _⟩
theorem Tp.none (w : World) (l c : Nat) : Tp w (.slice none l c) := by intro b off l' c' e; cases e
theorem Tp.of_owns {w : World} {base size n : Nat} {v : Value} {xs : List Value} (h : w.ownsRow base 124 size v n xs) : Tp w v := by
  intro b off l c e _
  rcases h.2 with ⟨rfl, _⟩ | ⟨g, cap, cur, rfl, _, hg, _⟩
  · cases e
  · injection e with e1 _ _
    injection e1 with e1
    injection e1 with e1 _ _
    subst e1
    exact ⟨cur, _, hg⟩
/-- The slice v holds the number n: its words, the lowest first, without noughts at the end. -/
def Nm (w : World) (v : Value) (n : Nat) : Prop := Rd w 1 v (N.ln n) ((N.lv n (N.ln n)).map (Value.int .u32)) ∧ Tp w v
theorem Nm.below {w w' : World} {v : Value} {n : Nat} (h : Nm w v n) (hb : Below w.heap.size w w') : Nm w' v n := ⟨Rd.below h.1 hb, h.2.below hb⟩
/-- It is not larger than any that comes up. -/
def Sm (n : Nat) : Prop := N.ln n ≤ 30
theorem Sm.of_lt {n : Nat} (h : n < N.B ^ 30) : Sm n := N.ln_le h

set_option maxHeartbeats 2000000 in
theorem trim_raw (A : Option Addr) (L cap n : Nat) (hL : L ≤ cap) (hm : L ≤ 9223372036854775807) (hn : Hid (n < N.B ^ L)) (w : World)
    (hr : Hid (0 < L → ∃ b off, A = some ⟨b, off, none⟩ ∧ ∀ j, j < L → w.cell? ⟨b, off + j, none⟩ = some (.int .u32 (N.wd n j : Nat)))) :
    Calls Try.prog 134 #[.slice A L cap] w fun e w' => e = .returned (.slice A (N.ln n) cap) ∧ w = w' := by
  go_enter Try.func134, Try.ntmps134
  go_wp2
  go_loop [3] (fun i => ∃ k : Nat, k ≤ L ∧ i = .int .i64 k ∧ Hid (n < N.B ^ k)) (fun i => (intOf i).toNat)
  case atStart => exact ⟨L, Nat.le_refl _, rfl, hn⟩
  case round =>
    obtain ⟨k, hk, rfl, hnk⟩ := hrel
    by_cases h0 : k = 0
    · subst h0
      have e : Hid (N.ln n = 0) := N.ln_of hnk.out (.inl rfl)
      go_wp2
      go_ret
      exact ⟨by rw [e.out]; rfl, rfl⟩
    · have hk1 : 1 ≤ k := by omega
      clear h0
      obtain ⟨b, off, rfl, hc⟩ := hr.out (by omega)
      obtain ⟨X, hX⟩ : ∃ X : Int, X = (N.wd n (k - 1) : Nat) := ⟨_, rfl⟩
      have c1 : w.cell? ⟨b, off + (k - 1), none⟩ = some (.int .u32 X) := by rw [hX]; exact hc _ (by omega)
      have HX := Lib.hid hX; have HC := Lib.hid hc; clear hX hc
      by_cases hz : (X == 0) = true
      · go_wp2
        go_round
        case rel => exact ⟨k - 1, by omega, by go_num, by
          have h1 : N.wd n (k - 1) = 0 := by have := HX.out; simp at hz; omega
          have h2 := N.mod_succ n (k - 1)
          rw [show k - 1 + 1 = k from by omega, Nat.mod_eq_of_lt hnk.out, h1, Nat.zero_mul, Nat.add_zero] at h2
          rw [h2]; exact Nat.mod_lt _ (N.Bk_pos _)⟩
        case measure => simp [intOf]; omega
      · have hz' : (X == 0) = false := by simpa using hz
        clear hz
        have e : Hid (N.ln n = k) := N.ln_of hnk.out (.inr (by have := HX.out; simp at hz'; omega))
        go_wp2
        go_ret
        exact ⟨by rw [e.out]; rfl, rfl⟩

/-- THE CONTRACT OF trim: of L words that read as n's. -/
theorem trim_ok (v : Value) (L n : Nat) (hn : n < N.B ^ L) (w : World) (hvt : Rd w 1 v L ((N.lv n L).map (Value.int .u32)) ∧ Tp w v) :
    Calls Try.prog 134 #[v] w fun e w' => ∃ u, e = .returned u ∧ w = w' ∧ Nm w u n := by
  obtain ⟨hv, htp⟩ := hvt
  obtain ⟨hl, hm, A, cap, rfl, hc, ha⟩ := hv.ints
  refine (trim_raw A L cap n hc (by unfold maxLen at hm; omega) hn w (fun h0 => ?_)).mono ?_
  · obtain ⟨b, off, hA, hcell⟩ := ha h0
    exact ⟨b, off, hA, fun j hj => by rw [hcell j hj, N.lv_getD hj]⟩
  · rintro e w' ⟨rfl, rfl⟩
    refine ⟨_, rfl, rfl, ?_⟩
    have hle := N.ln_le hn
    refine ⟨⟨by simp [N.lv_length], by unfold maxLen at hm ⊢; omega, A, cap, rfl, by omega, fun hne => ?_⟩, fun b off l c e h0 => ?_⟩
    rotate_left
    · injection e with e1 e2 e3
      subst e1
      exact htp b off L cap rfl (by omega)
    have h0 : 0 < N.ln n := by
      rcases Nat.eq_zero_or_pos (N.ln n) with h | h
      · exfalso; apply hne; rw [h]; rfl
      · exact h
    obtain ⟨b, off, hA, hcell⟩ := ha (by omega)
    refine ⟨b, off, hA, fun j u hu => ?_⟩
    rw [List.getElem?_map] at hu
    by_cases hj : j < N.ln n
    · rw [N.lv_get hj] at hu
      simp only [Option.map_some, Option.some.injEq] at hu
      subst hu
      rw [hcell j (by omega), N.lv_getD (by omega)]
    · rw [List.getElem?_eq_none (by rw [N.lv_length]; omega)] at hu
      cases hu

section
variable {P : Program} (w : World)
theorem run_append_of_nil' (base : Nat) (t ty e : TypeId) (i : TypeInfo) (size : Nat) (ht : P.underlying t = some (.slice e)) (hi : P.info? e = some i)
    (v : Value) (n : Nat) (xs : List Value) (hown : w.ownsRow base e size v n xs) (c : Nat) : (Builtin.append_ #[t, t] ty #[v, .slice none 0 c]).run P w = .ok v w := by
  rcases hown.2 with ⟨rfl, rfl⟩ | ⟨g, cap, cur, rfl, _, _, hnc, _⟩
  · simp [Builtin.append_, run_underlying ht, sizeOf, typeInfo, hi, Builtin.lenOf, Builtin.firstCells]
  · simp [Builtin.append_, run_underlying ht, sizeOf, typeInfo, hi, Builtin.lenOf, Builtin.firstCells, hnc, storeCells]
/-- 'append(v, u...)' of a slice that reads, nil let in. -/
theorem run_append_rd (base : Nat) (t ty e : TypeId) (i : TypeInfo) (z : Value) (size bytes : Nat) (ht : P.underlying t = some (.slice e)) (hi : P.info? e = some i) (hz : i.zero = some z)
    (hsize : i.size = size) (hby : i.bytes = bytes) (hzs : z.cells.size = size) (hsz : 0 < size)
    (v : Value) (n : Nat) (xs : List Value) (hown : w.ownsRow base e size v n xs)
    (u : Value) (m : Nat) (news : List Value) (hr : Rd w size u m news) (h1 : ∀ u ∈ news, u.oneCell' = true)
    (h63 : n + m ≤ maxLen) (hbytes : (n + m) * bytes ≤ 140737488355328) (hbase : base ≤ w.heap.size) :
    ∃ v' w', (Builtin.append_ #[t, t] ty #[v, u]).run P w = .ok v' w' ∧ w'.ownsRow base e size v' (n + m) (xs ++ news) ∧ w.grownBy w' v.ownBlock ∧
      (v'.ownBlock = v.ownBlock ∨ v'.ownBlock = some w.heap.size) := by
  obtain ⟨hl, hmm, A, c, rfl, hc, hA⟩ := hr
  by_cases hnil : news = []
  · have hm : m = 0 := by
      subst hnil
      rcases Nat.mul_eq_zero.1 (show m * size = 0 from hl.symm) with h | h
      · exact h
      · omega
    subst hm; subst hnil
    rcases A with _ | ad
    · exact ⟨v, w, run_append_of_nil' w base t ty e i size ht hi v n xs hown c, by simpa using hown, World.grownBy.refl w _, .inl rfl⟩
    · obtain ⟨v', w', hrun, h2, h3, _, h5⟩ := run_append_own_at (P := P) w base t ty e i z size bytes ht hi hz hsize hby hzs hsz v n xs hown ad 0 c [] (by simp) (by simp) (by simp) h63 hbytes hbase
      exact ⟨v', w', hrun, h2, h3, h5⟩
  · obtain ⟨b, off, rfl, hcell⟩ := hA hnil
    obtain ⟨v', w', hrun, h2, h3, _, h5⟩ := run_append_own_at (P := P) w base t ty e i z size bytes ht hi hz hsize hby hzs hsz v n xs hown ⟨b, off, none⟩ m c news hl (fun j u hu => by
      rcases j with _ | j
      · simpa [Addr.add] using hcell 0 u hu
      · simpa [Addr.add] using hcell (j + 1) u hu) h1 h63 hbytes hbase
    exact ⟨v', w', hrun, h2, h3, h5⟩
theorem wpList_append_rd {ops : Array Oper} {rest : List Oper} {o : Oper} {a : Act} {Q : Exit → Act → World → Prop} (hgd : o.guard = none) (s x : Operand) (t : TypeId)
    (ho : o.op = .call { callee := .builtin .append, args := #[s, x], argTypes := #[t, t] })
    (base : Nat) (e : TypeId) (i : TypeInfo) (z : Value) (size bytes : Nat) (ht : P.underlying t = some (.slice e)) (hi : P.info? e = some i) (hz : i.zero = some z)
    (hsize : i.size = size) (hby : i.bytes = bytes) (hzs : z.cells.size = size) (hsz : 0 < size)
    (v : Value) (n : Nat) (xs : List Value) (hs : a.eval s = v) (hown : w.ownsRow base e size v n xs)
    (u : Value) (m : Nat) (news : List Value) (hx : a.eval x = u) (hr : Rd w size u m news) (h1 : ∀ u ∈ news, u.oneCell' = true)
    (h63 : n + m ≤ maxLen) (hbytes : (n + m) * bytes ≤ 140737488355328) (hbase : base ≤ w.heap.size)
    (h : ∀ v' w', w'.ownsRow base e size v' (n + m) (xs ++ news) → w.grownBy w' v.ownBlock → (v'.ownBlock = v.ownBlock ∨ v'.ownBlock = some w.heap.size) → wpList P ops Q rest (a.put o.dst v') w') : wpList P ops Q (o :: rest) a w :=
  wpList_plain hgd fun K hK => by
    obtain ⟨v', w', hrun, h2, h3, h4⟩ := run_append_rd (P := P) w base t o.type e i z size bytes ht hi hz hsize hby hzs hsz v n xs hown u m news hr h1 h63 hbytes hbase
    unfold Oper.wp execOp
    simp only [ho, resolve, invoke, builtin, Sem.run_bind, Sem.run_pure, Result.andThen_ok, List.map_toArray, List.map_cons, List.map_nil, hs, hx, hrun]
    exact hK _ _ (h v' w' h2 h3 h4)
end
theorem Try.infoU32 : (Try.prog.info? 124).map (fun i => (i.zero, i.size, i.bytes)) = some (some (.int .u32 0), 1, 4) := by kernel_rfl
theorem one_words (n L : Nat) : ∀ u ∈ (N.lv n L).map (Value.int .u32), u.oneCell' = true := by
  intro u hu
  obtain ⟨x, _, rfl⟩ := List.mem_map.1 hu
  rfl
set_option maxHeartbeats 2000000 in
theorem twin_ok (v : Value) (n : Nat) (hs : Sm n) (w : World) (hv : Nm w v n) :
    Calls Try.prog 133 #[v] w fun e w' => ∃ u, e = .returned u ∧ Below w.heap.size w w' ∧ Nm w' u n := by
  obtain ⟨i0, hi, hz0, hz1, hz2⟩ := info_parts Try.infoU32
  have HS : Hid (N.ln n ≤ 30) := hs
  have HN := Lib.hid hv; clear hv hs
  go_enter Try.func133, Try.ntmps133
  go_wp2_with (first | (at_builtin; refine wpList_append_rd _ rfl _ _ 90 rfl w.heap.size 124 i0 (.int .u32 0) 1 4 Try.underlying90 hi hz0 hz1 hz2 rfl (by decide) (.slice none 0 0) 0 [] rfl ⟨by simp, .inl ⟨rfl, rfl⟩⟩ v (N.ln n) _ rfl HN.out.1 (one_words _ _) (by have := HS.out; unfold maxLen; omega) (by have := HS.out; omega) (Nat.le_refl _) ?_; intro v1 w1 hown1 hg1 hat1; have HO := Lib.hid hown1; have HG := Lib.hid hg1; clear hown1 hg1 hat1))
  go_ret
  have HO2 := HO.out
  rw [Nat.zero_add, List.nil_append] at HO2
  exact ⟨_, rfl, (Below.refl _ _).grown HG.out (Nat.le_refl _) (by simp [Value.ownBlock]), Rd.of_owns HO2 (by have := HS.out; unfold maxLen; omega), Tp.of_owns HO2⟩
end Go.Proofs.Ytgpjhbaehhjdhaa
