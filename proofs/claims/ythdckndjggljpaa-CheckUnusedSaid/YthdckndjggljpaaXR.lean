/- Rows that a call makes: elements of several cells. No condition. -/
import Derived.Test.YthdckndjggljpaaXB
import Derived.Test.YthdckndjggljpaaYA
import Derived.Maps.AppendAt
namespace Go.Proofs.Ythdckndjggljpaa
open Go.RowKit
set_option linter.unusedVariables false
set_option linter.unusedSimpArgs false
set_option maxRecDepth 100000
/-- Elements' cells, one behind the other. -/
def flat (cs : Nat → List Value) (j : Nat) : List Value := (List.range j).flatMap cs
theorem flat_succ (cs : Nat → List Value) (j : Nat) : flat cs (j + 1) = flat cs j ++ cs j := by unfold flat; rw [List.range_succ, List.flatMap_append]; simp
theorem flat_len (cs : Nat → List Value) (z : Nat) : ∀ j, (∀ i, i < j → (cs i).length = z) → (flat cs j).length = j * z
  | 0, _ => by simp [flat]
  | j + 1, h => by rw [flat_succ, List.length_append, flat_len cs z j (fun i hi => h i (by omega)), h j (by omega), Nat.succ_mul]
theorem flat_at (cs : Nat → List Value) (z : Nat) : ∀ j, (∀ i, i < j → (cs i).length = z) → ∀ i q, i < j → q < z → (flat cs j)[i * z + q]? = (cs i)[q]?
  | 0, _, i, q, hi, _ => absurd hi (Nat.not_lt_zero _)
  | j + 1, h, i, q, hi, hq => by
    have hl := flat_len cs z j (fun i hi => h i (by omega))
    rw [flat_succ]
    rcases Nat.lt_or_ge i j with h1 | h1
    · have : i * z + q < j * z := by
        have : (i + 1) * z ≤ j * z := Nat.mul_le_mul_right z h1
        rw [Nat.succ_mul] at this; omega
      rw [List.getElem?_append_left (by omega)]
      exact flat_at cs z j (fun i hi => h i (by omega)) i q h1 hq
    · obtain rfl : i = j := by omega
      rw [List.getElem?_append_right (by omega), hl, show i * z + q - i * z = q by omega]
theorem flat_congr {cs ds : Nat → List Value} {j : Nat} (h : ∀ i, i < j → cs i = ds i) : flat cs j = flat ds j := by
  unfold flat
  have : ∀ l : List Nat, (∀ i ∈ l, i < j) → l.flatMap cs = l.flatMap ds := by
    intro l hl
    induction l with
    | nil => rfl
    | cons x l ih => rw [List.flatMap_cons, List.flatMap_cons, h x (hl x (List.mem_cons_self ..)), ih (fun i hi => hl i (List.mem_cons_of_mem _ hi))]
  exact this _ (fun i hi => by simpa using hi)
theorem own_sliceX {w : World} {base e size n : Nat} {v : Value} {xs : List Value} (h : w.ownsRow base e size v n xs) : ∃ a c, v = .slice a n c ∧ n ≤ c ∧ c ≤ maxLen := by
  obtain ⟨_, ⟨rfl, rfl⟩ | ⟨g', cap, cur, rfl, hbb, hg, hc, hm, hsz, htake⟩⟩ := h
  · exact ⟨_, _, rfl, Nat.le_refl _, Nat.zero_le _⟩
  · exact ⟨_, _, rfl, hc, hm⟩
/-- What lies in an own row lies there as an expression's kids. -/
theorem XIn.row {w : World} {p : Nat → Prop} {B : Nat} {k n b : Int} {s : Bool} {nm : ByteArray} {fs : List X} {av : Option Addr} {cv : Nat} {cs : Nat → List Value} (ho : w.ownsRow B 62 6 (.slice av fs.length cv) fs.length (flat cs fs.length)) (hk : ∀ i y, fs[i]? = some y → XIn w p y (cs i)) (hp : ∀ g, (Value.slice av fs.length cv).ownBlock = some g → p g) :
    XIn w p (.mk k n b s nm fs) (X.cells k n b s nm (.slice av fs.length cv)) := by
  obtain ⟨_, _, e, h1, h2⟩ := own_sliceX ho
  injection e with _ _ e
  subst e
  refine .mk k n b s nm fs av cv cs h1 h2 hk (fun h0 => ?_)
  have h6 : ∀ i, i < fs.length → (cs i).length = 6 := fun i hi => (hk i fs[i] (List.getElem?_eq_getElem hi)).six
  rcases ho.2 with ⟨_, hz⟩ | ⟨g, cap, cur, ev, hbb, hg, hc, hm, hsz, htake⟩
  · omega
  · injection ev with ea _ _
    subst ea
    refine ⟨g, 0, hp g rfl, rfl, fun i j u hi hu => ?_⟩
    have hj : j < 6 := by
      have := h6 i hi
      have := (List.getElem?_eq_some_iff.1 hu).1
      omega
    have := ho.cells (g := g) rfl (i * 6 + j) u (by rw [flat_at cs 6 fs.length h6 i j hi hj]; exact hu)
    rw [X.add_addr] at this
    rw [Nat.zero_add] at this ⊢
    exact this
/-- 'append(s, x)' of an element of z cells to an own row. -/
theorem wpList_app_row {wv : World} {ops : Array Oper} {rest : List Oper} {o : Oper} {a : Act} {Q : Exit → Act → World → Prop} (hgd : o.guard = none) (s x : Operand) (ST T z bytes : Nat) (zv : Value) (ho : o.op = .call { callee := .builtin .append, args := #[s, x], argTypes := #[ST, ST] })
    (hu : Try.prog.underlying ST = some (.slice T)) (hin : (Try.prog.info? T).map (fun i => (i.zero, i.size, i.bytes)) = some (some zv, z, bytes)) (hzv : zv.cells.size = z) (hz : 0 < z) (hby : bytes ≤ 1000)
    (B : Nat) (lv : Value) (m : Nat) (xs : List Value) (g : Nat) (cs : List Value) (hs : a.eval s = lv) (hx : a.eval x = .slice (some ⟨g, 0, none⟩) 1 1) (hown : wv.ownsRow B T z lv m xs) (hl : cs.length = z) (hb : ∀ j u, cs[j]? = some u → wv.cell? ⟨g, j, none⟩ = some u) (h1 : ∀ u ∈ cs, u.oneCell' = true) (hm : m + 1 ≤ 100000000) (hB : B ≤ wv.heap.size)
    (h : ∀ a' c' w', w'.ownsRow B T z (.slice a' (m + 1) c') (m + 1) (xs ++ cs) → wv.grownBy w' lv.ownBlock → ((Value.slice a' (m + 1) c').ownBlock = lv.ownBlock ∨ (Value.slice a' (m + 1) c').ownBlock = some wv.heap.size) → wpList Try.prog ops Q rest (a.put o.dst (.slice a' (m + 1) c')) w') :
    wpList Try.prog ops Q (o :: rest) a wv := by
  obtain ⟨iI, hi, hz0, hz1, hz2⟩ := info_parts hin
  refine wpList_append_own_at _ hgd s x ST ho B T iI zv z bytes hu hi hz0 hz1 hz2 hzv hz lv m xs hs hown ⟨g, 0, none⟩ 1 1 cs hx (by rw [hl, Nat.one_mul]) (fun j u hj => ?_) h1 (by unfold maxLen; omega) (by have : (m + 1) * bytes ≤ 100000000 * 1000 := Nat.mul_le_mul hm hby; omega) hB ?_
  · rw [X.add_addr, Nat.zero_add]; exact hb j u hj
  · intro v' w' ho' hg' _ hat
    obtain ⟨a', c', hv, _⟩ := own_sliceX ho'
    subst hv
    exact h a' c' w' ho' hg' hat
theorem own_heapR {w w' : World} {base e size : Nat} {v : Value} {n : Nat} {xs : List Value} (h : w.ownsRow base e size v n xs) (hb : ∀ b, v.ownBlock = some b → w'.heap[b]? = w.heap[b]?) : w'.ownsRow base e size v n xs := by
  obtain ⟨hl, h2⟩ := h
  refine ⟨hl, ?_⟩
  rcases h2 with ⟨rfl, rfl⟩ | ⟨g', cap, cur, rfl, hbb, hg', hc, hm, hsz, htake⟩
  · exact .inl ⟨rfl, rfl⟩
  · exact .inr ⟨g', cap, cur, rfl, hbb, (hb g' rfl).trans hg', hc, hm, hsz, htake⟩
theorem own_lowR {w : World} {base e size n : Nat} {v : Value} {xs : List Value} (h : w.ownsRow base e size v n xs) : ∀ k, v.ownBlock = some k → base ≤ k ∧ k < w.heap.size := by
  obtain ⟨hl, h2⟩ := h
  rcases h2 with ⟨rfl, rfl⟩ | ⟨g', cap, cur, rfl, hbb, hg, hc, hm, hsz, htake⟩
  · intro k hk; simp [Value.ownBlock] at hk
  · intro k hk; simp [Value.ownBlock] at hk; subst hk; exact ⟨hbb, lt_of_block hg⟩
/-- How things of z cells lie: where their blocks are untouched they lie as they did. -/
structure Lay {α : Type} (z : Nat) (L : World → (Nat → Prop) → α → List Value → Prop) : Prop where
  move : ∀ {w w' : World} {p q : Nat → Prop} {x : α} {cs : List Value}, L w p x cs → (∀ g, p g → g < w.heap.size → q g ∧ w'.heap[g]? = w.heap[g]?) → L w' q x cs
  len : ∀ {w : World} {p : Nat → Prop} {x : α} {cs : List Value}, L w p x cs → cs.length = z
  one : ∀ {w : World} {p : Nat → Prop} {x : α} {cs : List Value}, L w p x cs → ∀ u ∈ cs, u.oneCell' = true
def LX (w : World) (p : Nat → Prop) (x : X) (cs : List Value) : Prop := XIn w p x cs
def LS (w : World) (p : Nat → Prop) (x : S) (cs : List Value) : Prop := SIn w p x cs
def LP (w : World) (p : Nat → Prop) (x : Pm) (cs : List Value) : Prop := PmAt x cs
def LF (w : World) (p : Nat → Prop) (x : Fn) (cs : List Value) : Prop := FnIn w p x cs
def LG (w : World) (p : Nat → Prop) (x : Gl) (cs : List Value) : Prop := GlIn w p x cs
theorem XIn.ones {w : World} {p : Nat → Prop} {x : X} {cs : List Value} (h : XIn w p x cs) : ∀ u ∈ cs, u.oneCell' = true := by
  cases h
  intro u hu
  simp only [X.cells, List.mem_cons, List.not_mem_nil, or_false] at hu
  rcases hu with rfl | rfl | rfl | rfl | rfl | rfl <;> rfl
theorem SsIn.ones {w : World} {p : Nat → Prop} {l : List S} {v : Value} (h : SsIn w p l v) : v.oneCell' = true := by cases h; rfl
theorem Row.ones {α : Type} {w : World} {p : Nat → Prop} {z : Nat} {At : α → List Value → Prop} {l : List α} {v : Value} (h : Row w p z At l v) : v.oneCell' = true := by obtain ⟨a, c, cs, rfl, _⟩ := h; rfl
theorem layX : Lay 6 LX := ⟨fun h hf => XIn.move h hf, fun h => XIn.six h, fun h => XIn.ones h⟩
theorem layS : Lay 21 LS := ⟨fun h hf => SIn.move hf _ _ h, fun h => SIn.len h, fun {w p x cs} h u hu => by
  obtain ⟨xs, is, v0, v1, v2, v3, rfl, hx, hi, h0, h1, h2, h3⟩ := SIn.parts h
  simp only [S.cells, List.mem_append, List.mem_cons, List.not_mem_nil, or_false] at hu
  rcases hu with ((hu | hu) | hu) | hu
  · rcases hu with rfl | rfl | rfl | rfl | rfl <;> rfl
  · exact hx.ones u hu
  · exact hi.ones u hu
  · rcases hu with rfl | rfl | rfl | rfl
    · exact h0.ones
    · exact h1.ones
    · exact h2.ones
    · exact h3.ones⟩
theorem layP : Lay 3 LP := ⟨fun h _ => h, fun {w p x cs} h => by have h : PmAt x cs := h; rw [h]; rfl, fun {w p x cs} h u hu => by
  have h : PmAt x cs := h
  rw [h] at hu
  simp only [List.mem_cons, List.not_mem_nil, or_false] at hu
  rcases hu with rfl | rfl | rfl <;> rfl⟩
theorem layF : Lay 5 LF := ⟨fun h hf => FnIn.move h hf, fun {w p x cs} h => by obtain ⟨v0, v1, e, _⟩ := h; rw [e]; rfl, fun {w p x cs} h u hu => by
  obtain ⟨v0, v1, e, h0, h1⟩ := h
  rw [e] at hu
  simp only [List.mem_cons, List.not_mem_nil, or_false] at hu
  rcases hu with rfl | rfl | rfl | rfl | rfl
  · rfl
  · rfl
  · rfl
  · exact h0.ones
  · exact h1.ones⟩
theorem layG : Lay 5 LG := ⟨fun h hf => GlIn.move h hf, fun {w p x cs} h => by obtain ⟨v0, e, _⟩ := h; rw [e]; rfl, fun {w p x cs} h u hu => by
  obtain ⟨v0, e, h0⟩ := h
  rw [e] at hu
  simp only [List.mem_cons, List.not_mem_nil, or_false] at hu
  rcases hu with rfl | rfl | rfl | rfl | rfl
  · rfl
  · rfl
  · rfl
  · rfl
  · exact h0.ones⟩
/-- An own row of things that were made. -/
def OwnR {α : Type} (w : World) (B T z : Nat) (L : World → (Nat → Prop) → α → List Value → Prop) (acc : List α) (a : Option Addr) (c : Nat) : Prop :=
  ∃ cs : Nat → List Value, w.ownsRow B T z (.slice a acc.length c) acc.length (flat cs acc.length) ∧ ∀ i y, acc[i]? = some y → L w (fun k => B ≤ k ∧ (Value.slice a acc.length c).ownBlock ≠ some k) y (cs i)
section
variable {α : Type} {w w' : World} {B T z : Nat} {L : World → (Nat → Prop) → α → List Value → Prop} {acc : List α} {a : Option Addr} {c : Nat}
theorem OwnR.nil (w : World) (B T z : Nat) (L : World → (Nat → Prop) → α → List Value → Prop) : OwnR w B T z L [] none 0 :=
  ⟨fun _ => [], ⟨by simp [flat], .inl ⟨rfl, rfl⟩⟩, fun i y h => by simp at h⟩
theorem OwnR.same (hL : Lay z L) (h : OwnR w B T z L acc a c) (hs : ∀ k, B ≤ k → k < w.heap.size → w'.heap[k]? = w.heap[k]?) : OwnR w' B T z L acc a c := by
  obtain ⟨cs, ho, hk⟩ := h
  exact ⟨cs, own_heapR ho fun b hb => hs b (own_lowR ho b hb).1 (own_lowR ho b hb).2, fun i y hy => hL.move (hk i y hy) fun g hg hl => ⟨hg, hs g hg.1 hl⟩⟩
theorem OwnR.chg {g : Nat} (hL : Lay z L) (h : OwnR w B T z L acc a c) (hg : g < B) (hc : Chg g w w') : OwnR w' B T z L acc a c :=
  h.same hL fun k hk hl => hc.block k hl (fun e => by injection e with e; omega)
theorem OwnR.keep (hL : Lay z L) (h : OwnR w B T z L acc a c) (hb : Below w.heap.size w w') : OwnR w' B T z L acc a c := h.same hL fun k _ hl => hb.block k hl
theorem OwnR.low (h : OwnR w B T z L acc a c) : ∀ k, (Value.slice a acc.length c).ownBlock = some k → B ≤ k ∧ k < w.heap.size := by
  obtain ⟨cs, ho, _⟩ := h; exact own_lowR ho
/-- One more. -/
theorem OwnR.app {y : α} {ys : List Value} {cs : Nat → List Value} {a' : Option Addr} {c' N : Nat} (hL : Lay z L) (ho : w.ownsRow B T z (.slice a acc.length c) acc.length (flat cs acc.length)) (hk : ∀ i y, acc[i]? = some y → L w (fun k => B ≤ k ∧ (Value.slice a acc.length c).ownBlock ≠ some k) y (cs i))
    (hN : ∀ k, (Value.slice a acc.length c).ownBlock = some k → k < N) (hBN : B ≤ N)
    (hy : L w (fun k => N ≤ k) y ys) (ho' : w'.ownsRow B T z (.slice a' (acc.length + 1) c') (acc.length + 1) (flat cs acc.length ++ ys)) (hg : w.grownBy w' (Value.slice a acc.length c).ownBlock)
    (hat : (Value.slice a' (acc.length + 1) c').ownBlock = (Value.slice a acc.length c).ownBlock ∨ (Value.slice a' (acc.length + 1) c').ownBlock = some w.heap.size) : OwnR w' B T z L (acc ++ [y]) a' c' := by
  have hl : (acc ++ [y]).length = acc.length + 1 := by simp
  have hlo := own_lowR ho
  unfold OwnR
  rw [hl]
  refine ⟨fun i => if i < acc.length then cs i else ys, ?_, fun i x hx => ?_⟩
  · rw [flat_succ]
    have e1 : flat (fun i => if i < acc.length then cs i else ys) acc.length = flat cs acc.length := flat_congr fun i hi => if_pos hi
    rw [e1]
    simpa using ho'
  · rcases Nat.lt_or_ge i acc.length with hi | hi
    · rw [List.getElem?_append_left hi] at hx
      simp only [if_pos hi]
      refine hL.move (hk i x hx) fun g hg' hgl => ⟨⟨hg'.1, fun e => ?_⟩, ?_⟩
      · rcases hat with h1 | h1
        · exact hg'.2 (h1 ▸ e)
        · rw [h1] at e; injection e with e; omega
      · exact hg.block g hgl (fun e => hg'.2 e.symm)
    · have hi2 : i = acc.length := by have := (List.getElem?_eq_some_iff.1 hx).1; rw [hl] at this; omega
      subst hi2
      rw [List.getElem?_append_right (Nat.le_refl _), Nat.sub_self] at hx
      injection hx with hx
      subst hx
      simp only [if_neg (Nat.lt_irrefl _)]
      refine hL.move hy fun g hg' hgl => ⟨⟨by omega, fun e => ?_⟩, ?_⟩
      · rcases hat with h1 | h1
        · rw [h1] at e; have := hN g e; omega
        · rw [h1] at e; injection e with e; omega
      · exact hg.block g hgl (fun e => by have := hN g e.symm; omega)
/-- The row lies there. -/
theorem OwnR.row (hL : Lay z L) (h : OwnR w B T z L acc a c) : Row w (fun k => B ≤ k) z (L w (fun k => B ≤ k)) acc (.slice a acc.length c) := by
  obtain ⟨cs, ho, hk⟩ := h
  obtain ⟨_, _, e, h1, h2⟩ := own_sliceX ho
  injection e with _ _ e
  subst e
  have hk' : ∀ i y, acc[i]? = some y → L w (fun k => B ≤ k) y (cs i) := fun i y hy => hL.move (hk i y hy) fun g hg _ => ⟨hg.1, rfl⟩
  refine ⟨a, c, cs, rfl, h1, h2, hk', fun h0 => ?_⟩
  have hz : ∀ i, i < acc.length → (cs i).length = z := fun i hi => hL.len (hk i acc[i] (List.getElem?_eq_getElem hi))
  have hlo := own_lowR ho
  rcases ho.2 with ⟨_, hz⟩ | ⟨g, cap, cur, ev, hbb, hg, hc, hm, hsz, htake⟩
  · omega
  · injection ev with ea _ _
    subst ea
    refine ⟨g, 0, hbb, rfl, fun i j u hi hu => ?_⟩
    have hj : j < z := by
      have := hz i hi
      have := (List.getElem?_eq_some_iff.1 hu).1
      omega
    have := ho.cells (g := g) rfl (i * z + j) u (by rw [flat_at cs z acc.length hz i j hi hj]; exact hu)
    rw [X.add_addr] at this
    rw [Nat.zero_add] at this ⊢
    exact this
end
end Go.Proofs.Ythdckndjggljpaa
