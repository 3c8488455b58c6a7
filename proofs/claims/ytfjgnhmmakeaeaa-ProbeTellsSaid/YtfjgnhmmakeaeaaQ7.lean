/- The document's run with places to stop at: plain; how it lies in memory. No condition. -/
import Derived.Test.YtfjgnhmmakeaeaaBA
import Derived.Test.YtfjgnhmmakeaeaaE63
namespace Go.Proofs.Ytfjgnhmmakeaeaa
open Go.RowKit Go.Maps
set_option linter.unusedVariables false
set_option linter.unusedSimpArgs false
set_option maxRecDepth 100000
namespace Mc
abbrev GR := Bool × List (Int × St) × (Nat → Int)
/-- Who stops, tells and counts. -/
def envR (nC : Nat) (cd : List Int) (most : Int) (ps : List Int) : Env GR :=
  ⟨fun g a => g.1 && ps.contains a, fun g _ => (true, g.2), fun g a s => (g.1, (if 0 < (U.one cd a).n ∧ (g.2.1.length : Int) < most then g.2.1 ++ [(a, s)] else g.2.1), (if a < (nC : Int) then upd g.2.2 a.toNat (g.2.2 a.toNat + 1) else g.2.2))⟩
theorem go_R1 (nC : Nat) (cd : List Int) (most : Int) (ps inp : List Int) : ∀ (n : Nat) (s : St) (g : GR), (go (envR nC cd most ps) cd inp n s g).1 = (go (envU ps) cd inp n s g.1).1
  | 0, s, g => by
    show (if (g.1 && ps.contains s.pc) = true then _ else _ : St × GR).1 = (if (g.1 && ps.contains s.pc) = true then _ else _ : St × Bool).1
    split <;> rfl
  | n + 1, s, g => by
    show (if (g.1 && ps.contains s.pc) = true then _ else if (tick cd inp s).how = 0 then go (envR nC cd most ps) cd inp n (tick cd inp s) _ else _ : St × GR).1 = (if (g.1 && ps.contains s.pc) = true then _ else if (tick cd inp s).how = 0 then go (envU ps) cd inp n (tick cd inp s) _ else _ : St × Bool).1
    split
    · rfl
    · split
      · exact go_R1 nC cd most ps inp n _ _
      · rfl
theorem no_place (b : Bool) (a : Int) : (b && ([] : List Int).contains a) = false := by cases b <;> rfl
theorem go_R0 (nC : Nat) (cd : List Int) (most : Int) (inp : List Int) (s : St) (g : GR) : go (envR nC cd most []) cd inp 0 s g = ({ s with how := 3 }, (true, g.2)) := by
  show (if (g.1 && ([] : List Int).contains s.pc) = true then _ else _ : St × GR) = _
  rw [no_place, if_neg (by decide)]; rfl
theorem go_Rn (nC : Nat) (cd : List Int) (most : Int) (inp : List Int) (n : Nat) (s : St) (g : GR) : go (envR nC cd most []) cd inp (n + 1) s g = (if (tick cd inp s).how = 0 then go (envR nC cd most []) cd inp n (tick cd inp s) ((envR nC cd most []).dG (true, g.2) s.pc (tick cd inp s)) else (tick cd inp s, (envR nC cd most []).dG (true, g.2) s.pc (tick cd inp s))) := by
  show (if (g.1 && ([] : List Int).contains s.pc) = true then _ else _ : St × GR) = _
  rw [no_place, if_neg (by decide)]; rfl
theorem go_RT (nC : Nat) (cd : List Int) (most : Int) (inp : List Int) : ∀ (n : Nat) (s : St) (g : GR), (go (envR nC cd most []) cd inp n s g).2.2.1 = (go (envT cd most) cd inp n s g.2.1).2 := by
  have hE : ∀ g x, (envT cd most).sB g x = false ∧ (envT cd most).sG g x = g := fun _ _ => ⟨rfl, rfl⟩
  intro n
  induction n with
  | zero => intro s g; rw [go_R0, go_zero _ hE]
  | succ n ih =>
    intro s g
    rw [go_Rn]
    by_cases h : (tick cd inp s).how = 0
    · rw [if_pos h, ih, go_on _ hE _ _ _ _ _ h]; rfl
    · rw [if_neg h, go_end _ hE _ _ _ _ _ h]; rfl
theorem go_RH (nC : Nat) (cd : List Int) (most : Int) (inp : List Int) : ∀ (n : Nat) (s : St) (g : GR), (go (envR nC cd most []) cd inp n s g).2.2.2 = (go (envH nC) cd inp n s g.2.2).2 := by
  have hE : ∀ g x, (envH nC).sB g x = false ∧ (envH nC).sG g x = g := fun _ _ => ⟨rfl, rfl⟩
  intro n
  induction n with
  | zero => intro s g; rw [go_R0, go_zero _ hE]
  | succ n ih =>
    intro s g
    rw [go_Rn]
    by_cases h : (tick cd inp s).how = 0
    · rw [if_pos h, ih, go_on _ hE _ _ _ _ _ h]; rfl
    · rw [if_neg h, go_end _ hE _ _ _ _ _ h]; rfl
theorem go_RA (nC : Nat) (cd : List Int) (most : Int) (inp : List Int) : ∀ (n : Nat) (s : St) (g : GR), (go (envR nC cd most []) cd inp n s g).1 = goA cd inp n s := by
  intro n
  induction n with
  | zero => intro s g; rw [go_R0]; rfl
  | succ n ih =>
    intro s g
    rw [go_Rn]
    by_cases h : (tick cd inp s).how = 0
    · rw [if_pos h, ih]; exact (if_pos h).symm
    · rw [if_neg h]; exact (if_neg h).symm
theorem contains_next (ps : List Int) (P : Int) (j : Nat) (hj : j < ps.length) : (ps.take (j + 1)).contains P = ((ps.take j).contains P || (ps.getD j 0 == P)) := by
  rw [List.take_add_one, List.getElem?_eq_getElem hj, List.getD_eq_getElem?_getD, List.getElem?_eq_getElem hj]
  simp only [List.contains_eq_any_beq, Option.toList_some, List.any_append, List.any_cons, List.any_nil, Bool.or_false, Option.getD_some]
  rw [show (P == ps[j]) = (ps[j] == P) from by rw [Bool.eq_iff_iff, beq_iff_eq, beq_iff_eq]; exact eq_comm]
end Mc
open Mc
/-- How often a run came to each word. -/
def HitIs (w : World) (g nC : Nat) (h : Nat → Int) : Prop := ∃ arr, Blk w g 3 arr ∧ ∀ j, j < nC → arr[j]? = some (.int .i64 (h j))
theorem HitIs.keep {w w' : World} {g nC : Nat} {h : Nat → Int} (hh : HitIs w g nC h) (hb : Below w.heap.size w w') : HitIs w' g nC h := by
  obtain ⟨arr, h1, h2⟩ := hh; exact ⟨arr, h1.keep hb, h2⟩
theorem HitIs.frm {w w' : World} {B N g nC : Nat} {L : Lay3} {ms : List Int} {s : St} {ov : Value} {h : Nat → Int} (hh : HitIs w g nC h) (k : Frm3 L ov w w') (hm : Box3 w B L N ms s ov) : HitIs w' g nC h := by
  obtain ⟨arr, h1, h2⟩ := hh; exact ⟨arr, h1.frm3 k hm (h1.ne_ hm.blk (by decide)) (by decide), h2⟩
theorem HitIs.at_ {w : World} {g nC : Nat} {h : Nat → Int} (hh : HitIs w g nC h) (j : Nat) (hj : j < nC) : w.cell? ⟨g, j, none⟩ = some (.int .i64 (h j)) ∧ w.frozen? ⟨g, j, none⟩ = false := by
  obtain ⟨arr, h1, h2⟩ := hh; exact ⟨by rw [h1.cell]; exact h2 j hj, h1.frozen j⟩
theorem HitIs.put {w : World} {g nC : Nat} {h : Nat → Int} (hh : HitIs w g nC h) (j : Nat) (hj : j < nC) (x : Int) : HitIs (w.setCell ⟨g, j, none⟩ (.int .i64 x)) g nC (upd h j x) := by
  obtain ⟨arr, h1, h2⟩ := hh
  refine ⟨_, h1.set_ j _, fun i hi => ?_⟩
  have hs : j < arr.size := by
    rcases Nat.lt_or_ge j arr.size with h | h
    · exact h
    · have := h2 j hj; rw [Array.getElem?_eq_none h] at this; cases this
  rw [Array.getElem?_setIfInBounds]
  by_cases e : j = i
  · subst e; rw [if_pos rfl, if_pos hs]; unfold upd; rw [if_pos rfl]
  · rw [if_neg e, h2 i hi]; unfold upd; rw [if_neg (fun e' => e e'.symm)]
theorem HitIs.ne3 {w : World} {B N g nC : Nat} {L : Lay3} {ms : List Int} {s : St} {ov : Value} {h : Nat → Int} (hh : HitIs w g nC h) (hm : Box3 w B L N ms s ov) : L.bb ≠ g := by
  obtain ⟨arr, h1, _⟩ := hh; exact hm.blk.ne_ h1 (by decide)
theorem HitIs.box {w : World} {B N g nC : Nat} {L : Lay3} {ms : List Int} {s : St} {ov : Value} {h : Nat → Int} (hh : HitIs w g nC h) (hm : Box3 w B L N ms s ov) (j : Nat) (x : Int) : Box3 (w.setCell ⟨g, j, none⟩ (.int .i64 x)) B L N ms s ov := by
  obtain ⟨arr, h1, _⟩ := hh; exact hm.other h1 (hm.blk.ne_ h1 (by decide)) (by decide) j _
theorem HitIs.row {w : World} {B g nC n : Nat} {v : Value} {xs : List Value} {h : Nat → Int} (hh : HitIs w g nC h) (ho : w.ownsRow B 80 17 v n xs) (j : Nat) (x : Int) : (w.setCell ⟨g, j, none⟩ (.int .i64 x)).ownsRow B 80 17 v n xs := by
  obtain ⟨arr, h1, _⟩ := hh; exact own_elsewhere2 ho (p := ⟨g, j, none⟩) (fun e => own_ne ho h1 (by decide) e.symm) _
theorem HitIs.grown {w w' : World} {B g nC n : Nat} {v : Value} {xs : List Value} {h : Nat → Int} (hh : HitIs w g nC h) (ho : w.ownsRow B 80 17 v n xs) (hg : w.grownBy w' v.ownBlock) : HitIs w' g nC h := by
  obtain ⟨arr, h1, h2⟩ := hh; exact ⟨arr, h1.grown hg (own_ne ho h1 (by decide)), h2⟩
theorem own_frm3 {w w' : World} {B B' N e sz n : Nat} {L : Lay3} {ms : List Int} {s : St} {ov v : Value} {xs : List Value} (h : w.ownsRow B' e sz v n xs) (k : Frm3 L ov w w') (hm : Box3 w B L N ms s ov) (h1 : e ≠ 88) (h2 : 5 ≠ e) : w'.ownsRow B' e sz v n xs := by
  obtain ⟨hl, h3⟩ := h
  refine ⟨hl, ?_⟩
  rcases h3 with h4 | ⟨g', cap, cur, hv, hbb, hg', hr⟩
  · exact .inl h4
  · have hb : Blk w g' e cur := hg'
    exact .inr ⟨g', cap, cur, hv, hbb, hb.frm3 k hm (hb.ne_ hm.blk h1) h2, hr⟩
theorem own_apart3 {w : World} {B B' e e' s s' n n' : Nat} {v v' : Value} {xs xs' : List Value} (h : w.ownsRow B e s v n xs) (h' : w.ownsRow B' e' s' v' n' xs') (hne : e ≠ e') : v.ownBlock = none ∨ v.ownBlock ≠ v'.ownBlock := by
  rcases h.2 with ⟨rfl, _⟩ | ⟨g, cap, cur, rfl, hbg, hg, _⟩
  · exact .inl rfl
  · refine .inr (fun e => ?_)
    have hb : Blk w g _ cur := hg
    exact own_ne h' hb (fun e2 => hne e2.symm) e
theorem Box3.grown {w w' : World} {B N n : Nat} {L : Lay3} {ms : List Int} {s : St} {ov v : Value} {xs : List Value} (h : Box3 w B L N ms s ov) (ho : w.ownsRow B 80 17 v n xs) (hg : w.grownBy w' v.ownBlock) : Box3 w' B L N ms s ov := by
  refine ⟨h.blk.grown hg (own_ne ho h.blk (by decide)), h.put.keep hg (fun e => ?_), h.lo1, h.lo2, h.out.kept hg (own_apart3 h.out ho (by decide))⟩
  rcases ho.2 with ⟨rfl, _⟩ | ⟨g, cap, cur, rfl, hbg, hg', _⟩
  · cases e
  · have hb : Blk w g _ cur := hg'
    have : L.mp = g := by injection e
    exact h.put.ne_ hb this
/-- 'append(s, x)' to an own slice of steps. -/
theorem wpList_app_shot2 {wv : World} {ops : Array Oper} {rest : List Oper} {o : Oper} {a : Act} {Q : Exit → Act → World → Prop} (hgd : o.guard = none) (s x : Operand) (ho : o.op = .call { callee := .builtin .append, args := #[s, x], argTypes := #[70, 70] })
    (B : Nat) (lv : Value) (m : Nat) (cd : List Int) (l : List (Int × St)) (b : Nat) (y : Int × St) (cs : Array Value) (hs : a.eval s = lv) (hx : a.eval x = .slice (some ⟨b, 0, none⟩) 1 1) (hown : wv.ownsRow B 80 17 lv m (shR cd l)) (hb : Blk wv b 80 cs) (hcs : cs = (shR cd [y]).toArray) (hm : m + 1 ≤ 10000000) (hB : B ≤ wv.heap.size)
    (h : ∀ a' c' w', w'.ownsRow B 80 17 (.slice a' (m + 1) c') (m + 1) (shR cd (l ++ [y])) → wv.grownBy w' lv.ownBlock → wpList Try.prog ops Q rest (a.put o.dst (.slice a' (m + 1) c')) w') :
    wpList Try.prog ops Q (o :: rest) a wv := by
  obtain ⟨iI, hi, hz0, hz1, hz2⟩ := info_parts Try.infoShot
  refine wpList_append_own_at _ hgd s x 70 ho B 80 iI (.agg #[.int .i64 0, .int .i64 0, .int .i64 0, .int .i64 0, .int .i64 0, .int .i64 0, .int .i64 0, .int .i64 0, .int .i64 0, .int .i64 0, .int .i64 0, .int .i64 0, .int .i64 0, .bool false, .bool false, .bool false, .bool false]) 17 112 Try.underlying70 hi hz0 hz1 hz2 rfl (by decide) lv m (shR cd l) hs hown ⟨b, 0, none⟩ 1 1 (shR cd [y]) hx (by rw [shR_len]; rfl) (fun j u hj => blk_nth hb _ hcs j u hj) (shR_one _ _) (by unfold maxLen; omega) (by omega) hB ?_
  intro v' w' ho' hg' _ hat
  obtain ⟨a', c', hv, _⟩ := own_slice ho'
  subst hv
  rw [← shR_append] at ho'
  exact h a' c' w' ho' hg'
theorem rd_counts2 {w : World} {g n : Nat} {G : Nat → Int} {arr : Array Value} (hb : Blk w g 3 arr) (ha : ∀ j, j < n → arr[j]? = some (.int .i64 (G j))) (hn : n ≤ maxLen) : Rd w 1 (.slice (some ⟨g, 0, none⟩) n n) n (((List.range n).map G).map (Value.int .i64)) := by
  refine ⟨by simp, hn, _, n, rfl, Nat.le_refl _, fun _ => ⟨g, 0, rfl, fun j u hu => ?_⟩⟩
  rw [Nat.zero_add, hb.cell]
  rw [List.map_map, List.getElem?_map] at hu
  rcases Nat.lt_or_ge j n with hj | hj
  · rw [List.getElem?_range hj] at hu
    simp at hu; subst hu
    exact ha j hj
  · rw [List.getElem?_eq_none (by simpa using hj)] at hu; cases hu
/-- The loop of a run with places to stop at, at its head. -/
structure LoopR (cd inp : List Int) (nI nC : Nat) (fuel most : Int) (ps ms : List Int) (w3 : World) (B : Nat) (L : Lay3) (gh : Nat) (fin : St × GR) (i sv : Value) (wr : World) : Prop where
  of ::
  get : ∃ (s : St) (n N : Nat) (ov : Value) (l : List (Int × St)) (h : Nat → Int), i = .int .i64 s.how ∧ Box3 wr B L N ms s ov ∧ HitIs wr gh nC h ∧ wr.ownsRow B 80 17 sv l.length (shR cd l) ∧ Below B w3 wr ∧ Fine nI s ∧ s.steps + n = fuel ∧ (N : Int) ≤ s.steps ∧ (l.length : Int) ≤ s.steps ∧ (∀ j, 0 ≤ h j ∧ h j ≤ s.steps) ∧
    (s.how = 0 → go (envR nC cd most ps) cd inp n s (decide (0 < s.steps), l, h) = fin) ∧ (s.how ≠ 0 → fin.1 = s ∧ fin.2.2 = (l, h))
theorem LoopR.next {cd inp : List Int} {nI nC : Nat} {fuel most : Int} {ps ms : List Int} {w3 wr : World} {B : Nat} {L : Lay3} {gh : Nat} {fin : St × GR} {sv : Value} {s : St} {n N N' : Nat} {ov' : Value} {l l' : List (Int × St)} {h h' : Nat → Int} {R : St × Int}
    (hn : inp.length = nI) (hby : ∀ x ∈ inp, 0 ≤ x ∧ x < 256) (hR : R = Mc.step cd inp { s with steps := s.steps + 1 }) (hF : Fine nI s) (hst : s.steps + ((n + 1 : Nat) : Int) = fuel) (hN : (N : Int) ≤ s.steps) (hl : (l.length : Int) ≤ s.steps) (hh : ∀ j, 0 ≤ h j ∧ h j ≤ s.steps)
    (hgo : go (envR nC cd most ps) cd inp (n + 1) s (decide (0 < s.steps), l, h) = fin) (hsb : (decide (0 < s.steps) && ps.contains s.pc) = false)
    (hm : Box3 wr B L N' ms R.1 ov') (hN' : N' ≤ N + 1) (hhi : HitIs wr gh nC h') (ho : wr.ownsRow B 80 17 sv l'.length (shR cd l')) (hb : Below B w3 wr)
    (el : l' = if 0 < (U.one cd s.pc).n ∧ (l.length : Int) < most then l ++ [(s.pc, Mc.tick cd inp s)] else l) (eh : h' = if s.pc < (nC : Int) then upd h s.pc.toNat (h s.pc.toNat + 1) else h) :
    LoopR cd inp nI nC fuel most ps ms w3 B L gh fin (.int .i64 R.2) sv wr := by
  have hT : Mc.tick cd inp s = { R.1 with how := R.2 } := by unfold Mc.tick; rw [← hR]
  have hst2 := Mc.tick_steps cd inp s
  have hs0 : 0 ≤ s.steps := by omega
  have e1 : go (envR nC cd most ps) cd inp (n + 1) s (decide (0 < s.steps), l, h) = (if (tick cd inp s).how = 0 then go (envR nC cd most ps) cd inp n (tick cd inp s) (true, l', h') else (tick cd inp s, (true, l', h'))) := by
    show (if (decide (0 < s.steps) && ps.contains s.pc) = true then _ else _ : St × GR) = _
    rw [hsb, if_neg (by decide), el, eh]; rfl
  rw [e1] at hgo
  refine .of ⟨Mc.tick cd inp s, n, N', ov', l', h', by rw [hT], by rw [hT]; exact hm.setHow _, hhi, ho, hb, Mc.tick_fine (cd := cd) hn hby s hF, ?_, ?_, ?_, ?_, ?_, ?_⟩
  · rw [hst2]; omega
  · rw [hst2]; omega
  · rw [hst2, el]; split
    · rw [List.length_append]; simp; omega
    · omega
  · intro j
    rw [hst2, eh]
    have := hh j
    split
    · unfold upd; split
      · rename_i e; have := hh s.pc.toNat; omega
      · omega
    · omega
  · intro h0
    rw [if_pos h0] at hgo
    rw [show decide (0 < (tick cd inp s).steps) = true from by rw [hst2]; simp; omega]
    exact hgo
  · intro h0
    rw [if_neg h0] at hgo
    rw [← hgo]; exact ⟨rfl, rfl⟩
end Go.Proofs.Ytfjgnhmmakeaeaa
