/- Walk of instr.Encode, of instructions that are right. -/
import Derived.Test.YtfjgnhmmakeaeaaE31
import Derived.Test.YtfjgnhmmakeaeaaB1
namespace Go.Proofs.Ytfjgnhmmakeaeaa
open Go.RowKit
set_option linter.unusedVariables false
set_option linter.unusedSimpArgs false
set_option maxRecDepth 100000

def U.encs (l : List U.In) : List Int := l.flatMap U.enc
def U.inL (i : U.In) : List Int := [i.op, i.d, i.s, i.imm]
theorem U.enc_len (i : U.In) : 1 ≤ (U.enc i).length ∧ (U.enc i).length ≤ 2 := by unfold U.enc; split <;> simp
theorem U.encs_next (l : List U.In) (k : Nat) (h : k < l.length) : U.encs (l.take (k + 1)) = U.encs (l.take k) ++ U.enc l[k] := by
  unfold U.encs; rw [List.take_add_one, List.getElem?_eq_getElem h, List.flatMap_append]; simp
theorem U.encs_le (l : List U.In) (k : Nat) : (U.encs (l.take k)).length ≤ (U.encs l).length := by
  conv => rhs; rw [← List.take_append_drop k l]
  unfold U.encs; rw [List.flatMap_append, List.length_append]; omega
/-- An element's cells in a slice of instructions. -/
theorem ins_at {w : World} {b off : Nat} {l : List U.In} (h : ∀ j u, ((l.flatMap U.inL).map (Value.int .i64))[j]? = some u → w.cell? ⟨b, off + j, none⟩ = some u) (k : Nat) (hk : k < l.length) :
    w.cell? ⟨b, off + k * 4, none⟩ = some (.int .i64 l[k].op) ∧ w.cell? ⟨b, off + k * 4 + 1, none⟩ = some (.int .i64 l[k].d) ∧ w.cell? ⟨b, off + k * 4 + 2, none⟩ = some (.int .i64 l[k].s) ∧ w.cell? ⟨b, off + k * 4 + 3, none⟩ = some (.int .i64 l[k].imm) := by
  have key : ∀ (l : List U.In) (k : Nat) (hk : k < l.length) (j : Nat), j < 4 → (l.flatMap U.inL)[k * 4 + j]? = (U.inL l[k])[j]? := by
    intro l
    induction l with
    | nil => intro k hk; simp at hk
    | cons x l ih =>
      intro k hk j hj
      rw [List.flatMap_cons]
      cases k with
      | zero => rw [List.getElem?_append_left (by simp [U.inL]; omega)]; simp
      | succ k =>
        have hx : (U.inL x).length = 4 := rfl
        rw [List.getElem?_append_right (by rw [hx]; omega), hx, show (k + 1) * 4 + j - 4 = k * 4 + j by omega, ih k (by simpa using hk) j hj]; simp
  have at_ : ∀ j, j < 4 → ∀ x, (U.inL l[k])[j]? = some x → w.cell? ⟨b, off + k * 4 + j, none⟩ = some (.int .i64 x) := fun j hj x hx => by
    rw [Nat.add_assoc]
    refine h _ _ ?_
    rw [List.getElem?_map, key l k hk j hj, hx]; rfl
  exact ⟨at_ 0 (by omega) _ rfl, at_ 1 (by omega) _ rfl, at_ 2 (by omega) _ rfl, at_ 3 (by omega) _ rfl⟩
theorem enc_fin {w : World} {B k m : Nat} {l : List U.In} {v : Value} {zs : List Value} {ws : List Int} {i : U.In} (hq : U.encs (l.take (k + 1)) = U.encs (l.take k) ++ U.enc i) (he : U.enc i = ws) (hm : m = (U.encs (l.take k)).length) (hz : zs = (U.encs (l.take k)).map (Value.int .i64))
    (h : w.ownsRow B 3 1 v (m + ws.length) (zs ++ ws.map (Value.int .i64))) : w.ownsRow B 3 1 v (U.encs (l.take (k + 1))).length ((U.encs (l.take (k + 1))).map (Value.int .i64)) := by
  rw [hq, he, List.length_append, List.map_append, ← hm, ← hz]; exact h
theorem enc_below {C : Nat} {W0 wr w1 w2 : World} {o u : Obj} (h0 : Below C W0 wr) (hC : C ≤ wr.heap.size) (hb1 : Below (wr.alloc o).heap.size (wr.alloc o) w1) (hb2 : Below w1.heap.size w1 w2) : Below C W0 (w2.alloc u) ∧ C ≤ (w2.alloc u).heap.size := by
  have s1 := hb1.size; have s2 := hb2.size
  simp at s1
  exact ⟨Below.trans h0 (Below.alloc (Below.trans (Below.alloc (Below.refl _ _) hC o) (Below.trans (hb1.mono (by simp; omega)) (hb2.mono (by omega)))) (by omega) u), by simp; omega⟩
theorem ne_ins : (3 : Nat) ≠ 43 := by decide
theorem ne_uses : (3 : Nat) ≠ 93 := by decide
theorem app_keep {wv w' : World} {B m g : Nat} {v : Value} {zs : List Value} {t : TypeId} {cs : Array Value} (own : wv.ownsRow B 3 1 v m zs) (hg : wv.grownBy w' v.ownBlock) (hb : Blk wv g t cs) (hne : (3 : Nat) ≠ t) : Blk w' g t cs := hb.grown hg (own_ne own hb hne)
theorem uses_two {w : World} {g : Nat} {t : TypeId} {a b c d : Bool} (h : Blk w g t #[.bool a, .bool b, .bool c, .bool d]) : w.cell? ⟨g, 2, none⟩ = some (.bool c) := by rw [h.cell]; rfl
theorem lt_alloc (w : World) (o : Obj) : w.heap.size < (w.alloc o).heap.size := by simp
theorem size_one (w : World) (o : Obj) : w.heap.size + 1 = (w.alloc o).heap.size := by simp
/-- 'append(s, x)' to an own slice of numbers, x in the block just laid. -/
theorem wpList_app_int {wv : World} {ops : Array Oper} {rest : List Oper} {o : Oper} {a : Act} {Q : Exit → Act → World → Prop} (hgd : o.guard = none) (s x : Operand) (ho : o.op = .call { callee := .builtin .append, args := #[s, x], argTypes := #[22, 22] })
    (B : Nat) (oa : Option Addr) (m oc : Nat) (zs : List Value) (b : Nat) (y : Int) (hs : a.eval s = .slice oa m oc) (hx : a.eval x = .slice (some ⟨b, 0, none⟩) 1 1) (hown : wv.ownsRow B 3 1 (.slice oa m oc) m zs) (hb : b = wv.heap.size) (hm : m ≤ 100000000) (hB : B ≤ wv.heap.size)
    (h : ∀ a' c' w', w'.ownsRow B 3 1 (.slice a' (m + 1) c') (m + 1) (zs ++ [.int .i64 y]) → wv.grownBy w' (Value.slice oa m oc).ownBlock → wpList Try.prog ops Q rest (a.put o.dst (.slice a' (m + 1) c')) w') :
    wpList Try.prog ops Q (o :: rest) a (wv.alloc (.cells #[.int .i64 y] 3)) := by
  obtain ⟨iI, hi, hz0, hz1, hz2⟩ := info_parts Try.infoI64
  refine wpList_append_own _ hgd s x 22 ho B 3 iI (.int .i64 0) 1 8 Try.underlying22 hi hz0 hz1 hz2 rfl (by decide) _ m zs hs (hown.alloc _) ⟨b, 0, none⟩ 1 1 [.int .i64 y] hx rfl (one_new hb _ _) (one_cell (x := .int .i64 y) rfl) (by unfold maxLen; omega) (by omega) (by simp; omega) ?_
  intro v' w' ho' hg' _
  obtain ⟨a', c', hv, _⟩ := own_slice ho'
  subst hv
  exact h a' c' w' ho' ((World.grownBy_alloc _ _ _).trans hg')
theorem In4.of_blk' {w : World} {g : Nat} {t : TypeId} {a b c d : Int} (h : Blk w g t #[.int .i64 a, .int .i64 b, .int .i64 c, .int .i64 d]) : In4 w g a b c d :=
  ⟨by rw [h.cell]; rfl, by rw [h.cell]; rfl, by rw [h.cell]; rfl, by rw [h.cell]; rfl, h.frozen 0, h.frozen 1, h.frozen 2, h.frozen 3⟩
/-- How the word is put together. -/
theorem enc_or {op d s imm : Int} (h : U.In.Ok ⟨op, d, s, imm⟩) :
    (if U.hd op = true then (if U.hs op = true then bits .or .i64 (op * 1024) (d * 128) = op * 1024 + d * 128 ∧ bits .or .i64 (op * 1024 + d * 128) (s * 16) = U.word ⟨op, d, s, imm⟩ else bits .or .i64 (op * 1024) (d * 128) = U.word ⟨op, d, s, imm⟩)
      else if U.hs op = true then bits .or .i64 (op * 1024) (s * 16) = U.word ⟨op, d, s, imm⟩ else op * 1024 = U.word ⟨op, d, s, imm⟩) := by
  obtain ⟨n, hn⟩ : ∃ n : Nat, op = n := ⟨op.toNat, by have := h.op; simp at this; omega⟩
  subst hn
  have hn : n < 33 := by have := h.op; simp at this; omega
  unfold U.word
  by_cases hd : U.hd (n : Int) = true
  · obtain ⟨e, he⟩ : ∃ e : Nat, d = e := ⟨d.toNat, by have := h.d hd; simp at this; omega⟩
    subst he
    have he : e < 8 := by have := h.d hd; simp at this; omega
    rw [if_pos hd]
    by_cases hs : U.hs (n : Int) = true
    · obtain ⟨f, hf⟩ : ∃ f : Nat, s = f := ⟨s.toNat, by have := h.s hs; simp at this; omega⟩
      subst hf
      have hf : f < 8 := by have := h.s hs; simp at this; omega
      rw [if_pos hs, if_pos hd, if_pos hs]
      exact ⟨or_d ⟨n, hn⟩ ⟨e, he⟩, or_s ⟨n, hn⟩ ⟨e, he⟩ ⟨f, hf⟩⟩
    · rw [if_neg hs, if_pos hd, if_neg hs, Int.add_zero]
      exact or_d ⟨n, hn⟩ ⟨e, he⟩
  · rw [if_neg hd]
    by_cases hs : U.hs (n : Int) = true
    · obtain ⟨f, hf⟩ : ∃ f : Nat, s = f := ⟨s.toNat, by have := h.s hs; simp at this; omega⟩
      subst hf
      have hf : f < 8 := by have := h.s hs; simp at this; omega
      rw [if_pos hs, if_neg hd, if_pos hs, Int.add_zero]
      have := or_s ⟨n, hn⟩ ⟨0, by omega⟩ ⟨f, hf⟩
      simpa using this
    · rw [if_neg hs, if_neg hd, if_neg hs]; simp
set_option maxHeartbeats 16000000 in
theorem encode_some (b off n cap : Nat) (l : List U.In) (hl : l.length = n) (hall : ∀ i ∈ l, i.Ok) (hsz : (U.encs l).length ≤ 65536) (hn : n ≤ 70000) (w : World)
    (hc : ∀ j u, ((l.flatMap U.inL).map (Value.int .i64))[j]? = some u → w.cell? ⟨b, off + j, none⟩ = some u) (hb : b < w.heap.size) :
    Calls Try.prog 25 #[.slice (some ⟨b, off, none⟩) n cap] w fun e w' => ∃ v', e = .returned (.tuple #[v', .agg #[.int .i64 0, .int .i64 0]]) ∧ w'.ownsRow (w.heap.size + 1) 3 1 v' (U.encs l).length ((U.encs l).map (Value.int .i64)) ∧ Below w.heap.size w w' := by
  obtain ⟨iI, hi, hz0, hz1, hz2⟩ := info_parts Try.infoI64
  have HL := Lib.hid hl; have HALL := Lib.hid hall; have HSZ := Lib.hid hsz; have HC := Lib.hid hc; have HB := Lib.hid hb
  clear hl hall hsz hc hb
  go_enter Try.func25, Try.ntmps25
  go_wp2
  go_loopw [4, 12] (fun o i wr => ∃ k : Nat, k ≤ n ∧ i = .int .i64 k ∧ wr.ownsRow (w.heap.size + 1) 3 1 o (U.encs (l.take k)).length ((U.encs (l.take k)).map (Value.int .i64)) ∧ Hid (Below (w.heap.size + 1) (w.alloc (.cells #[.int .i64 0, .int .i64 0] 50)) wr)) (fun _ i _ => n - (intOf i).toNat)
  case atStart => exact ⟨0, Nat.zero_le _, rfl, World.ownsRow_nil _ _ _ _, Below.refl _ _⟩
  case round =>
    obtain ⟨k, hk, rfl, hown, hbw⟩ := hrel
    obtain ⟨oa, oc, hov, _⟩ := own_slice hown
    subst hov
    have HO := Lib.hid hown
    clear hown
    by_cases hlt : k < n
    · obtain ⟨i, hI⟩ : ∃ i, i = l[k]'(by rw [HL.out]; exact hlt) := ⟨_, rfl⟩
      obtain ⟨x0, x1, x2, x3⟩ := ins_at HC.out k (by rw [HL.out]; exact hlt)
      rw [← hI] at x0 x1 x2 x3
      obtain ⟨op, d, s, imm⟩ := i
      have hOk : U.In.Ok ⟨op, d, s, imm⟩ := by rw [hI]; exact HALL.out _ (List.getElem_mem _)
      have hnext := U.encs_next l k (by rw [HL.out]; exact hlt)
      rw [← hI] at hnext
      have hle := U.encs_le l (k + 1)
      rw [hnext, List.length_append] at hle
      obtain ⟨m, hm⟩ : ∃ m, m = (U.encs (l.take k)).length := ⟨_, rfl⟩
      obtain ⟨zs, hzs⟩ : ∃ zs, zs = (U.encs (l.take k)).map (Value.int .i64) := ⟨_, rfl⟩
      rw [← hm, ← hzs] at HO
      rw [← hm] at hle ⊢
      have hz : w.heap.size + 1 ≤ wr.heap.size := by have := hbw.out.size; simpa using this
      have hbB := HB.out
      have hbw0 := Lib.hid (Below.trans (Ext.alloc (Below.refl w.heap.size w) (.cells #[.int .i64 0, .int .i64 0] 50)) (hbw.out.mono (Nat.le_succ _)))
      have y0 : wr.cell? ⟨b, off + k * 4, none⟩ = some (.int .i64 op) := by rw [Below.cell (p := ⟨b, off + k * 4, none⟩) hbw0.out hbB]; exact x0
      have y1 : wr.cell? ⟨b, off + k * 4 + 1, none⟩ = some (.int .i64 d) := by rw [Below.cell (p := ⟨b, off + k * 4 + 1, none⟩) hbw0.out hbB]; exact x1
      have y2 : wr.cell? ⟨b, off + k * 4 + 2, none⟩ = some (.int .i64 s) := by rw [Below.cell (p := ⟨b, off + k * 4 + 2, none⟩) hbw0.out hbB]; exact x2
      have y3 : wr.cell? ⟨b, off + k * 4 + 3, none⟩ = some (.int .i64 imm) := by rw [Below.cell (p := ⟨b, off + k * 4 + 3, none⟩) hbw0.out hbB]; exact x3
      have CW : Hid (∀ w1 : World, Calls Try.prog 46 #[insV op d s imm] w1 fun e w' => e = .returned (.int .i64 0) ∧ Below w1.heap.size w1 w') := fun w1 => iwrong_ok ⟨op, d, s, imm⟩ hOk w1
      obtain ⟨db, hdb⟩ : ∃ db, db = U.hd op := ⟨_, rfl⟩
      obtain ⟨sb, hsb⟩ : ∃ sb, sb = U.hs op := ⟨_, rfl⟩
      obtain ⟨ib, hib⟩ : ∃ ib, ib = U.hi op := ⟨_, rfl⟩
      have CO : Hid (∀ w1 : World, Calls Try.prog 47 #[.int .i64 op] w1 fun e w' => e = .returned (usV db sb ib true) ∧ Below w1.heap.size w1 w') := fun w1 => by
        have := of_any op w1
        rw [show U.hk op = true by have := hOk.op; simp [U.hk]; simpa using this] at this
        rw [hdb, hsb, hib]; exact this
      obtain ⟨o0, o1⟩ : 0 ≤ op ∧ op ≤ 32 := hOk.op
      obtain ⟨X, hX⟩ : ∃ X, X = U.word ⟨op, d, s, imm⟩ := ⟨_, rfl⟩
      have hEnc : Hid (U.enc ⟨op, d, s, imm⟩ = X :: (if ib = true then [imm] else [])) := by show U.enc _ = _; unfold U.enc; rw [hX, hib]
      have hel : (U.enc ⟨op, d, s, imm⟩).length = if ib = true then 2 else 1 := by rw [hEnc.out]; cases ib <;> rfl
      rw [hel] at hle
      have hXX := enc_or hOk
      rw [← hdb, ← hsb, ← hX] at hXX
      have hdr : db = true → 0 ≤ d ∧ d ≤ 7 := fun h => hOk.d (by rw [← hdb]; exact h)
      have hsr : sb = true → 0 ≤ s ∧ s ≤ 7 := fun h => hOk.s (by rw [← hsb]; exact h)
      have HNX := Lib.hid hnext; have HZS := Lib.hid hzs; have HM := Lib.hid hm; have HLE := Lib.hid hle
      clear x0 x1 x2 x3 hOk hnext hm hzs hdb hsb hib hX hel hI
      have BI0 := Lib.hid (Blk.new wr 43 #[.int .i64 op, .int .i64 d, .int .i64 s, .int .i64 imm])
      cases db <;> cases sb <;> cases ib
      case false.false.false =>
        clear hdr hsr
        simp only [if_true, if_false, Bool.false_eq_true, reduceCtorEq] at hXX hle hEnc
        have HLEB : Hid (m + 1 ≤ 65536) := by show m + 1 ≤ 65536; have := HSZ.out; omega
        have HMM : Hid (m ≤ 100000000) := by show m ≤ 100000000; have := HLEB.out; omega
        have hmb : m + 1 ≤ 65536 := HLEB.out
        have hgt : decide ((m : Int) + 1 > 65536) = false := by simp; omega
        go_wp2_with (first | (go_at_call 46; refine (CW.out _).mono ?_; rintro e w1 ⟨rfl, hb1⟩; obtain ⟨i0, i1, i2, i3, j0, j1, j2, j3⟩ := (In4.new wr op d s imm 43).below hb1; have HB1 := Lib.hid hb1; have hq1 : wr.heap.size < w1.heap.size := (by have := hb1.size; simp at this; omega); have BI1 := Lib.hid (BI0.out.keep hb1); have HO1 := Lib.hid (ownsRow_below (HO.out.alloc (.cells #[.int .i64 op, .int .i64 d, .int .i64 s, .int .i64 imm] 43)) hb1); clear hb1) | (go_at_call 47; refine (CO.out _).mono ?_; rintro e w2 ⟨rfl, hb2⟩; obtain ⟨p0, p1, p2, p3, q0, q1, q2, q3⟩ := (((In4.new wr op d s imm 43).below HB1.out).below hb2); have HB2 := Lib.hid hb2; have hq2 : wr.heap.size < w2.heap.size := (by have := hb2.size; omega); have HZ2 : Hid (w.heap.size + 1 ≤ w2.heap.size) := (Nat.le_trans hz (Nat.le_of_lt hq2)); have BI2 := Lib.hid (BI1.out.keep hb2); have HO2 := Lib.hid (ownsRow_below HO1.out hb2); clear hb2) | (at_builtin; refine wpList_app_int rfl _ _ rfl (w.heap.size + 1) _ _ _ _ _ _ rfl rfl (HO2.out.alloc _) (size_one _ _) HMM.out (Nat.le_trans HZ2.out (Nat.le_of_lt (lt_alloc _ _))) ?_; intro aA cA wA ho hg; have BIA := Lib.hid (app_keep (HO2.out.alloc _) hg (BI2.out.alloc _) ne_ins); have BUA := Lib.hid (app_keep (HO2.out.alloc _) hg (Blk.new w2 93 #[.bool false, .bool false, .bool false, .bool true]) ne_uses); obtain ⟨rA0, rA1, rA2, rA3, tA0, tA1, tA2, tA3⟩ := In4.of_blk' BIA.out; have kA := uses_two BUA.out; have HOA := Lib.hid ho; have HGA := Lib.hid hg; have HZA : Hid (w2.heap.size ≤ wA.heap.size) := (Nat.le_trans (Nat.le_of_lt (lt_alloc _ _)) hg.size); clear ho hg))
        exact ⟨⟨k + 1, by omega, by go_num, enc_fin HNX.out hEnc.out HM.out HZS.out (by have := HOA.out; simpa using this), by
          obtain ⟨q1, q2⟩ := enc_below (u := (.cells #[.bool false, .bool false, .bool false, .bool true] 93)) hbw.out hz HB1.out HB2.out
          exact Below.trans q1 (grown_below HGA.out q2 (own_low (HO2.out.alloc _)))⟩, by simp [intOf]; omega⟩
      case false.false.true =>
        clear hdr hsr
        simp only [if_true, if_false, Bool.false_eq_true, reduceCtorEq] at hXX hle hEnc
        have HLEB : Hid (m + 2 ≤ 65536) := by show m + 2 ≤ 65536; have := HSZ.out; omega
        have HMM : Hid (m ≤ 100000000) := by show m ≤ 100000000; have := HLEB.out; omega
        have HMM1 : Hid (m + 1 ≤ 100000000) := by show m + 1 ≤ 100000000; have := HLEB.out; omega
        have hmb : m + 2 ≤ 65536 := HLEB.out
        have hgt : decide ((m : Int) + 1 + 1 > 65536) = false := by simp; omega
        go_wp2_with (first | (go_at_call 46; refine (CW.out _).mono ?_; rintro e w1 ⟨rfl, hb1⟩; obtain ⟨i0, i1, i2, i3, j0, j1, j2, j3⟩ := (In4.new wr op d s imm 43).below hb1; have HB1 := Lib.hid hb1; have hq1 : wr.heap.size < w1.heap.size := (by have := hb1.size; simp at this; omega); have BI1 := Lib.hid (BI0.out.keep hb1); have HO1 := Lib.hid (ownsRow_below (HO.out.alloc (.cells #[.int .i64 op, .int .i64 d, .int .i64 s, .int .i64 imm] 43)) hb1); clear hb1) | (go_at_call 47; refine (CO.out _).mono ?_; rintro e w2 ⟨rfl, hb2⟩; obtain ⟨p0, p1, p2, p3, q0, q1, q2, q3⟩ := (((In4.new wr op d s imm 43).below HB1.out).below hb2); have HB2 := Lib.hid hb2; have hq2 : wr.heap.size < w2.heap.size := (by have := hb2.size; omega); have HZ2 : Hid (w.heap.size + 1 ≤ w2.heap.size) := (Nat.le_trans hz (Nat.le_of_lt hq2)); have BI2 := Lib.hid (BI1.out.keep hb2); have HO2 := Lib.hid (ownsRow_below HO1.out hb2); clear hb2) | (at_builtin; refine wpList_app_int rfl _ _ rfl (w.heap.size + 1) _ _ _ _ _ _ rfl rfl (HOA.out) (rfl) HMM1.out (Nat.le_trans HZ2.out HZA.out) ?_; intro aB cB wB ho hg; have BIB := Lib.hid (app_keep (HOA.out) hg (BIA.out) ne_ins); have BUB := Lib.hid (app_keep (HOA.out) hg (BUA.out) ne_uses); obtain ⟨rB0, rB1, rB2, rB3, tB0, tB1, tB2, tB3⟩ := In4.of_blk' BIB.out; have kB := uses_two BUB.out; have HOB := Lib.hid ho; have HGB := Lib.hid hg; have HZB : Hid (w2.heap.size ≤ wB.heap.size) := (Nat.le_trans HZA.out hg.size); clear ho hg) | (at_builtin; refine wpList_app_int rfl _ _ rfl (w.heap.size + 1) _ _ _ _ _ _ rfl rfl (HO2.out.alloc _) (size_one _ _) HMM.out (Nat.le_trans HZ2.out (Nat.le_of_lt (lt_alloc _ _))) ?_; intro aA cA wA ho hg; have BIA := Lib.hid (app_keep (HO2.out.alloc _) hg (BI2.out.alloc _) ne_ins); have BUA := Lib.hid (app_keep (HO2.out.alloc _) hg (Blk.new w2 93 #[.bool false, .bool false, .bool true, .bool true]) ne_uses); obtain ⟨rA0, rA1, rA2, rA3, tA0, tA1, tA2, tA3⟩ := In4.of_blk' BIA.out; have kA := uses_two BUA.out; have HOA := Lib.hid ho; have HGA := Lib.hid hg; have HZA : Hid (w2.heap.size ≤ wA.heap.size) := (Nat.le_trans (Nat.le_of_lt (lt_alloc _ _)) hg.size); clear ho hg))
        exact ⟨⟨k + 1, by omega, by go_num, enc_fin HNX.out hEnc.out HM.out HZS.out (by have := HOB.out; simpa [Nat.add_assoc] using this), by
          obtain ⟨q1, q2⟩ := enc_below (u := (.cells #[.bool false, .bool false, .bool true, .bool true] 93)) hbw.out hz HB1.out HB2.out
          have q3 := grown_below HGA.out q2 (own_low (HO2.out.alloc _))
          exact Below.trans q1 (Below.trans q3 (grown_below HGB.out (Nat.le_trans q2 HGA.out.size) (own_low HOA.out)))⟩, by simp [intOf]; omega⟩
      case false.true.false =>
        obtain ⟨s0, s1⟩ := hsr rfl
        clear hdr hsr
        simp only [if_true, if_false, Bool.false_eq_true, reduceCtorEq] at hXX hle hEnc
        have HLEB : Hid (m + 1 ≤ 65536) := by show m + 1 ≤ 65536; have := HSZ.out; omega
        have HMM : Hid (m ≤ 100000000) := by show m ≤ 100000000; have := HLEB.out; omega
        have hmb : m + 1 ≤ 65536 := HLEB.out
        have hgt : decide ((m : Int) + 1 > 65536) = false := by simp; omega
        go_wp2_with (first | (go_at_call 46; refine (CW.out _).mono ?_; rintro e w1 ⟨rfl, hb1⟩; obtain ⟨i0, i1, i2, i3, j0, j1, j2, j3⟩ := (In4.new wr op d s imm 43).below hb1; have HB1 := Lib.hid hb1; have hq1 : wr.heap.size < w1.heap.size := (by have := hb1.size; simp at this; omega); have BI1 := Lib.hid (BI0.out.keep hb1); have HO1 := Lib.hid (ownsRow_below (HO.out.alloc (.cells #[.int .i64 op, .int .i64 d, .int .i64 s, .int .i64 imm] 43)) hb1); clear hb1) | (go_at_call 47; refine (CO.out _).mono ?_; rintro e w2 ⟨rfl, hb2⟩; obtain ⟨p0, p1, p2, p3, q0, q1, q2, q3⟩ := (((In4.new wr op d s imm 43).below HB1.out).below hb2); have HB2 := Lib.hid hb2; have hq2 : wr.heap.size < w2.heap.size := (by have := hb2.size; omega); have HZ2 : Hid (w.heap.size + 1 ≤ w2.heap.size) := (Nat.le_trans hz (Nat.le_of_lt hq2)); have BI2 := Lib.hid (BI1.out.keep hb2); have HO2 := Lib.hid (ownsRow_below HO1.out hb2); clear hb2) | (at_builtin; refine wpList_app_int rfl _ _ rfl (w.heap.size + 1) _ _ _ _ _ _ rfl rfl (HO2.out.alloc _) (size_one _ _) HMM.out (Nat.le_trans HZ2.out (Nat.le_of_lt (lt_alloc _ _))) ?_; intro aA cA wA ho hg; have BIA := Lib.hid (app_keep (HO2.out.alloc _) hg (BI2.out.alloc _) ne_ins); have BUA := Lib.hid (app_keep (HO2.out.alloc _) hg (Blk.new w2 93 #[.bool false, .bool true, .bool false, .bool true]) ne_uses); obtain ⟨rA0, rA1, rA2, rA3, tA0, tA1, tA2, tA3⟩ := In4.of_blk' BIA.out; have kA := uses_two BUA.out; have HOA := Lib.hid ho; have HGA := Lib.hid hg; have HZA : Hid (w2.heap.size ≤ wA.heap.size) := (Nat.le_trans (Nat.le_of_lt (lt_alloc _ _)) hg.size); clear ho hg))
        exact ⟨⟨k + 1, by omega, by go_num, enc_fin HNX.out hEnc.out HM.out HZS.out (by have := HOA.out; simpa using this), by
          obtain ⟨q1, q2⟩ := enc_below (u := (.cells #[.bool false, .bool true, .bool false, .bool true] 93)) hbw.out hz HB1.out HB2.out
          exact Below.trans q1 (grown_below HGA.out q2 (own_low (HO2.out.alloc _)))⟩, by simp [intOf]; omega⟩
      case false.true.true =>
        obtain ⟨s0, s1⟩ := hsr rfl
        clear hdr hsr
        simp only [if_true, if_false, Bool.false_eq_true, reduceCtorEq] at hXX hle hEnc
        have HLEB : Hid (m + 2 ≤ 65536) := by show m + 2 ≤ 65536; have := HSZ.out; omega
        have HMM : Hid (m ≤ 100000000) := by show m ≤ 100000000; have := HLEB.out; omega
        have HMM1 : Hid (m + 1 ≤ 100000000) := by show m + 1 ≤ 100000000; have := HLEB.out; omega
        have hmb : m + 2 ≤ 65536 := HLEB.out
        have hgt : decide ((m : Int) + 1 + 1 > 65536) = false := by simp; omega
        go_wp2_with (first | (go_at_call 46; refine (CW.out _).mono ?_; rintro e w1 ⟨rfl, hb1⟩; obtain ⟨i0, i1, i2, i3, j0, j1, j2, j3⟩ := (In4.new wr op d s imm 43).below hb1; have HB1 := Lib.hid hb1; have hq1 : wr.heap.size < w1.heap.size := (by have := hb1.size; simp at this; omega); have BI1 := Lib.hid (BI0.out.keep hb1); have HO1 := Lib.hid (ownsRow_below (HO.out.alloc (.cells #[.int .i64 op, .int .i64 d, .int .i64 s, .int .i64 imm] 43)) hb1); clear hb1) | (go_at_call 47; refine (CO.out _).mono ?_; rintro e w2 ⟨rfl, hb2⟩; obtain ⟨p0, p1, p2, p3, q0, q1, q2, q3⟩ := (((In4.new wr op d s imm 43).below HB1.out).below hb2); have HB2 := Lib.hid hb2; have hq2 : wr.heap.size < w2.heap.size := (by have := hb2.size; omega); have HZ2 : Hid (w.heap.size + 1 ≤ w2.heap.size) := (Nat.le_trans hz (Nat.le_of_lt hq2)); have BI2 := Lib.hid (BI1.out.keep hb2); have HO2 := Lib.hid (ownsRow_below HO1.out hb2); clear hb2) | (at_builtin; refine wpList_app_int rfl _ _ rfl (w.heap.size + 1) _ _ _ _ _ _ rfl rfl (HOA.out) (rfl) HMM1.out (Nat.le_trans HZ2.out HZA.out) ?_; intro aB cB wB ho hg; have BIB := Lib.hid (app_keep (HOA.out) hg (BIA.out) ne_ins); have BUB := Lib.hid (app_keep (HOA.out) hg (BUA.out) ne_uses); obtain ⟨rB0, rB1, rB2, rB3, tB0, tB1, tB2, tB3⟩ := In4.of_blk' BIB.out; have kB := uses_two BUB.out; have HOB := Lib.hid ho; have HGB := Lib.hid hg; have HZB : Hid (w2.heap.size ≤ wB.heap.size) := (Nat.le_trans HZA.out hg.size); clear ho hg) | (at_builtin; refine wpList_app_int rfl _ _ rfl (w.heap.size + 1) _ _ _ _ _ _ rfl rfl (HO2.out.alloc _) (size_one _ _) HMM.out (Nat.le_trans HZ2.out (Nat.le_of_lt (lt_alloc _ _))) ?_; intro aA cA wA ho hg; have BIA := Lib.hid (app_keep (HO2.out.alloc _) hg (BI2.out.alloc _) ne_ins); have BUA := Lib.hid (app_keep (HO2.out.alloc _) hg (Blk.new w2 93 #[.bool false, .bool true, .bool true, .bool true]) ne_uses); obtain ⟨rA0, rA1, rA2, rA3, tA0, tA1, tA2, tA3⟩ := In4.of_blk' BIA.out; have kA := uses_two BUA.out; have HOA := Lib.hid ho; have HGA := Lib.hid hg; have HZA : Hid (w2.heap.size ≤ wA.heap.size) := (Nat.le_trans (Nat.le_of_lt (lt_alloc _ _)) hg.size); clear ho hg))
        exact ⟨⟨k + 1, by omega, by go_num, enc_fin HNX.out hEnc.out HM.out HZS.out (by have := HOB.out; simpa [Nat.add_assoc] using this), by
          obtain ⟨q1, q2⟩ := enc_below (u := (.cells #[.bool false, .bool true, .bool true, .bool true] 93)) hbw.out hz HB1.out HB2.out
          have q3 := grown_below HGA.out q2 (own_low (HO2.out.alloc _))
          exact Below.trans q1 (Below.trans q3 (grown_below HGB.out (Nat.le_trans q2 HGA.out.size) (own_low HOA.out)))⟩, by simp [intOf]; omega⟩
      case true.false.false =>
        obtain ⟨d0, d1⟩ := hdr rfl
        clear hdr hsr
        simp only [if_true, if_false, Bool.false_eq_true, reduceCtorEq] at hXX hle hEnc
        have HLEB : Hid (m + 1 ≤ 65536) := by show m + 1 ≤ 65536; have := HSZ.out; omega
        have HMM : Hid (m ≤ 100000000) := by show m ≤ 100000000; have := HLEB.out; omega
        have hmb : m + 1 ≤ 65536 := HLEB.out
        have hgt : decide ((m : Int) + 1 > 65536) = false := by simp; omega
        go_wp2_with (first | (go_at_call 46; refine (CW.out _).mono ?_; rintro e w1 ⟨rfl, hb1⟩; obtain ⟨i0, i1, i2, i3, j0, j1, j2, j3⟩ := (In4.new wr op d s imm 43).below hb1; have HB1 := Lib.hid hb1; have hq1 : wr.heap.size < w1.heap.size := (by have := hb1.size; simp at this; omega); have BI1 := Lib.hid (BI0.out.keep hb1); have HO1 := Lib.hid (ownsRow_below (HO.out.alloc (.cells #[.int .i64 op, .int .i64 d, .int .i64 s, .int .i64 imm] 43)) hb1); clear hb1) | (go_at_call 47; refine (CO.out _).mono ?_; rintro e w2 ⟨rfl, hb2⟩; obtain ⟨p0, p1, p2, p3, q0, q1, q2, q3⟩ := (((In4.new wr op d s imm 43).below HB1.out).below hb2); have HB2 := Lib.hid hb2; have hq2 : wr.heap.size < w2.heap.size := (by have := hb2.size; omega); have HZ2 : Hid (w.heap.size + 1 ≤ w2.heap.size) := (Nat.le_trans hz (Nat.le_of_lt hq2)); have BI2 := Lib.hid (BI1.out.keep hb2); have HO2 := Lib.hid (ownsRow_below HO1.out hb2); clear hb2) | (at_builtin; refine wpList_app_int rfl _ _ rfl (w.heap.size + 1) _ _ _ _ _ _ rfl rfl (HO2.out.alloc _) (size_one _ _) HMM.out (Nat.le_trans HZ2.out (Nat.le_of_lt (lt_alloc _ _))) ?_; intro aA cA wA ho hg; have BIA := Lib.hid (app_keep (HO2.out.alloc _) hg (BI2.out.alloc _) ne_ins); have BUA := Lib.hid (app_keep (HO2.out.alloc _) hg (Blk.new w2 93 #[.bool true, .bool false, .bool false, .bool true]) ne_uses); obtain ⟨rA0, rA1, rA2, rA3, tA0, tA1, tA2, tA3⟩ := In4.of_blk' BIA.out; have kA := uses_two BUA.out; have HOA := Lib.hid ho; have HGA := Lib.hid hg; have HZA : Hid (w2.heap.size ≤ wA.heap.size) := (Nat.le_trans (Nat.le_of_lt (lt_alloc _ _)) hg.size); clear ho hg))
        exact ⟨⟨k + 1, by omega, by go_num, enc_fin HNX.out hEnc.out HM.out HZS.out (by have := HOA.out; simpa using this), by
          obtain ⟨q1, q2⟩ := enc_below (u := (.cells #[.bool true, .bool false, .bool false, .bool true] 93)) hbw.out hz HB1.out HB2.out
          exact Below.trans q1 (grown_below HGA.out q2 (own_low (HO2.out.alloc _)))⟩, by simp [intOf]; omega⟩
      case true.false.true =>
        obtain ⟨d0, d1⟩ := hdr rfl
        clear hdr hsr
        simp only [if_true, if_false, Bool.false_eq_true, reduceCtorEq] at hXX hle hEnc
        have HLEB : Hid (m + 2 ≤ 65536) := by show m + 2 ≤ 65536; have := HSZ.out; omega
        have HMM : Hid (m ≤ 100000000) := by show m ≤ 100000000; have := HLEB.out; omega
        have HMM1 : Hid (m + 1 ≤ 100000000) := by show m + 1 ≤ 100000000; have := HLEB.out; omega
        have hmb : m + 2 ≤ 65536 := HLEB.out
        have hgt : decide ((m : Int) + 1 + 1 > 65536) = false := by simp; omega
        go_wp2_with (first | (go_at_call 46; refine (CW.out _).mono ?_; rintro e w1 ⟨rfl, hb1⟩; obtain ⟨i0, i1, i2, i3, j0, j1, j2, j3⟩ := (In4.new wr op d s imm 43).below hb1; have HB1 := Lib.hid hb1; have hq1 : wr.heap.size < w1.heap.size := (by have := hb1.size; simp at this; omega); have BI1 := Lib.hid (BI0.out.keep hb1); have HO1 := Lib.hid (ownsRow_below (HO.out.alloc (.cells #[.int .i64 op, .int .i64 d, .int .i64 s, .int .i64 imm] 43)) hb1); clear hb1) | (go_at_call 47; refine (CO.out _).mono ?_; rintro e w2 ⟨rfl, hb2⟩; obtain ⟨p0, p1, p2, p3, q0, q1, q2, q3⟩ := (((In4.new wr op d s imm 43).below HB1.out).below hb2); have HB2 := Lib.hid hb2; have hq2 : wr.heap.size < w2.heap.size := (by have := hb2.size; omega); have HZ2 : Hid (w.heap.size + 1 ≤ w2.heap.size) := (Nat.le_trans hz (Nat.le_of_lt hq2)); have BI2 := Lib.hid (BI1.out.keep hb2); have HO2 := Lib.hid (ownsRow_below HO1.out hb2); clear hb2) | (at_builtin; refine wpList_app_int rfl _ _ rfl (w.heap.size + 1) _ _ _ _ _ _ rfl rfl (HOA.out) (rfl) HMM1.out (Nat.le_trans HZ2.out HZA.out) ?_; intro aB cB wB ho hg; have BIB := Lib.hid (app_keep (HOA.out) hg (BIA.out) ne_ins); have BUB := Lib.hid (app_keep (HOA.out) hg (BUA.out) ne_uses); obtain ⟨rB0, rB1, rB2, rB3, tB0, tB1, tB2, tB3⟩ := In4.of_blk' BIB.out; have kB := uses_two BUB.out; have HOB := Lib.hid ho; have HGB := Lib.hid hg; have HZB : Hid (w2.heap.size ≤ wB.heap.size) := (Nat.le_trans HZA.out hg.size); clear ho hg) | (at_builtin; refine wpList_app_int rfl _ _ rfl (w.heap.size + 1) _ _ _ _ _ _ rfl rfl (HO2.out.alloc _) (size_one _ _) HMM.out (Nat.le_trans HZ2.out (Nat.le_of_lt (lt_alloc _ _))) ?_; intro aA cA wA ho hg; have BIA := Lib.hid (app_keep (HO2.out.alloc _) hg (BI2.out.alloc _) ne_ins); have BUA := Lib.hid (app_keep (HO2.out.alloc _) hg (Blk.new w2 93 #[.bool true, .bool false, .bool true, .bool true]) ne_uses); obtain ⟨rA0, rA1, rA2, rA3, tA0, tA1, tA2, tA3⟩ := In4.of_blk' BIA.out; have kA := uses_two BUA.out; have HOA := Lib.hid ho; have HGA := Lib.hid hg; have HZA : Hid (w2.heap.size ≤ wA.heap.size) := (Nat.le_trans (Nat.le_of_lt (lt_alloc _ _)) hg.size); clear ho hg))
        exact ⟨⟨k + 1, by omega, by go_num, enc_fin HNX.out hEnc.out HM.out HZS.out (by have := HOB.out; simpa [Nat.add_assoc] using this), by
          obtain ⟨q1, q2⟩ := enc_below (u := (.cells #[.bool true, .bool false, .bool true, .bool true] 93)) hbw.out hz HB1.out HB2.out
          have q3 := grown_below HGA.out q2 (own_low (HO2.out.alloc _))
          exact Below.trans q1 (Below.trans q3 (grown_below HGB.out (Nat.le_trans q2 HGA.out.size) (own_low HOA.out)))⟩, by simp [intOf]; omega⟩
      case true.true.false =>
        obtain ⟨d0, d1⟩ := hdr rfl
        obtain ⟨s0, s1⟩ := hsr rfl
        clear hdr hsr
        simp only [if_true, if_false, Bool.false_eq_true, reduceCtorEq] at hXX hle hEnc
        have HLEB : Hid (m + 1 ≤ 65536) := by show m + 1 ≤ 65536; have := HSZ.out; omega
        have HMM : Hid (m ≤ 100000000) := by show m ≤ 100000000; have := HLEB.out; omega
        have hmb : m + 1 ≤ 65536 := HLEB.out
        have hgt : decide ((m : Int) + 1 > 65536) = false := by simp; omega
        go_wp2_with (first | (go_at_call 46; refine (CW.out _).mono ?_; rintro e w1 ⟨rfl, hb1⟩; obtain ⟨i0, i1, i2, i3, j0, j1, j2, j3⟩ := (In4.new wr op d s imm 43).below hb1; have HB1 := Lib.hid hb1; have hq1 : wr.heap.size < w1.heap.size := (by have := hb1.size; simp at this; omega); have BI1 := Lib.hid (BI0.out.keep hb1); have HO1 := Lib.hid (ownsRow_below (HO.out.alloc (.cells #[.int .i64 op, .int .i64 d, .int .i64 s, .int .i64 imm] 43)) hb1); clear hb1) | (go_at_call 47; refine (CO.out _).mono ?_; rintro e w2 ⟨rfl, hb2⟩; obtain ⟨p0, p1, p2, p3, q0, q1, q2, q3⟩ := (((In4.new wr op d s imm 43).below HB1.out).below hb2); have HB2 := Lib.hid hb2; have hq2 : wr.heap.size < w2.heap.size := (by have := hb2.size; omega); have HZ2 : Hid (w.heap.size + 1 ≤ w2.heap.size) := (Nat.le_trans hz (Nat.le_of_lt hq2)); have BI2 := Lib.hid (BI1.out.keep hb2); have HO2 := Lib.hid (ownsRow_below HO1.out hb2); clear hb2) | (at_builtin; refine wpList_app_int rfl _ _ rfl (w.heap.size + 1) _ _ _ _ _ _ rfl rfl (HO2.out.alloc _) (size_one _ _) HMM.out (Nat.le_trans HZ2.out (Nat.le_of_lt (lt_alloc _ _))) ?_; intro aA cA wA ho hg; have BIA := Lib.hid (app_keep (HO2.out.alloc _) hg (BI2.out.alloc _) ne_ins); have BUA := Lib.hid (app_keep (HO2.out.alloc _) hg (Blk.new w2 93 #[.bool true, .bool true, .bool false, .bool true]) ne_uses); obtain ⟨rA0, rA1, rA2, rA3, tA0, tA1, tA2, tA3⟩ := In4.of_blk' BIA.out; have kA := uses_two BUA.out; have HOA := Lib.hid ho; have HGA := Lib.hid hg; have HZA : Hid (w2.heap.size ≤ wA.heap.size) := (Nat.le_trans (Nat.le_of_lt (lt_alloc _ _)) hg.size); clear ho hg))
        exact ⟨⟨k + 1, by omega, by go_num, enc_fin HNX.out hEnc.out HM.out HZS.out (by have := HOA.out; simpa using this), by
          obtain ⟨q1, q2⟩ := enc_below (u := (.cells #[.bool true, .bool true, .bool false, .bool true] 93)) hbw.out hz HB1.out HB2.out
          exact Below.trans q1 (grown_below HGA.out q2 (own_low (HO2.out.alloc _)))⟩, by simp [intOf]; omega⟩
      case true.true.true =>
        obtain ⟨d0, d1⟩ := hdr rfl
        obtain ⟨s0, s1⟩ := hsr rfl
        clear hdr hsr
        simp only [if_true, if_false, Bool.false_eq_true, reduceCtorEq] at hXX hle hEnc
        have HLEB : Hid (m + 2 ≤ 65536) := by show m + 2 ≤ 65536; have := HSZ.out; omega
        have HMM : Hid (m ≤ 100000000) := by show m ≤ 100000000; have := HLEB.out; omega
        have HMM1 : Hid (m + 1 ≤ 100000000) := by show m + 1 ≤ 100000000; have := HLEB.out; omega
        have hmb : m + 2 ≤ 65536 := HLEB.out
        have hgt : decide ((m : Int) + 1 + 1 > 65536) = false := by simp; omega
        go_wp2_with (first | (go_at_call 46; refine (CW.out _).mono ?_; rintro e w1 ⟨rfl, hb1⟩; obtain ⟨i0, i1, i2, i3, j0, j1, j2, j3⟩ := (In4.new wr op d s imm 43).below hb1; have HB1 := Lib.hid hb1; have hq1 : wr.heap.size < w1.heap.size := (by have := hb1.size; simp at this; omega); have BI1 := Lib.hid (BI0.out.keep hb1); have HO1 := Lib.hid (ownsRow_below (HO.out.alloc (.cells #[.int .i64 op, .int .i64 d, .int .i64 s, .int .i64 imm] 43)) hb1); clear hb1) | (go_at_call 47; refine (CO.out _).mono ?_; rintro e w2 ⟨rfl, hb2⟩; obtain ⟨p0, p1, p2, p3, q0, q1, q2, q3⟩ := (((In4.new wr op d s imm 43).below HB1.out).below hb2); have HB2 := Lib.hid hb2; have hq2 : wr.heap.size < w2.heap.size := (by have := hb2.size; omega); have HZ2 : Hid (w.heap.size + 1 ≤ w2.heap.size) := (Nat.le_trans hz (Nat.le_of_lt hq2)); have BI2 := Lib.hid (BI1.out.keep hb2); have HO2 := Lib.hid (ownsRow_below HO1.out hb2); clear hb2) | (at_builtin; refine wpList_app_int rfl _ _ rfl (w.heap.size + 1) _ _ _ _ _ _ rfl rfl (HOA.out) (rfl) HMM1.out (Nat.le_trans HZ2.out HZA.out) ?_; intro aB cB wB ho hg; have BIB := Lib.hid (app_keep (HOA.out) hg (BIA.out) ne_ins); have BUB := Lib.hid (app_keep (HOA.out) hg (BUA.out) ne_uses); obtain ⟨rB0, rB1, rB2, rB3, tB0, tB1, tB2, tB3⟩ := In4.of_blk' BIB.out; have kB := uses_two BUB.out; have HOB := Lib.hid ho; have HGB := Lib.hid hg; have HZB : Hid (w2.heap.size ≤ wB.heap.size) := (Nat.le_trans HZA.out hg.size); clear ho hg) | (at_builtin; refine wpList_app_int rfl _ _ rfl (w.heap.size + 1) _ _ _ _ _ _ rfl rfl (HO2.out.alloc _) (size_one _ _) HMM.out (Nat.le_trans HZ2.out (Nat.le_of_lt (lt_alloc _ _))) ?_; intro aA cA wA ho hg; have BIA := Lib.hid (app_keep (HO2.out.alloc _) hg (BI2.out.alloc _) ne_ins); have BUA := Lib.hid (app_keep (HO2.out.alloc _) hg (Blk.new w2 93 #[.bool true, .bool true, .bool true, .bool true]) ne_uses); obtain ⟨rA0, rA1, rA2, rA3, tA0, tA1, tA2, tA3⟩ := In4.of_blk' BIA.out; have kA := uses_two BUA.out; have HOA := Lib.hid ho; have HGA := Lib.hid hg; have HZA : Hid (w2.heap.size ≤ wA.heap.size) := (Nat.le_trans (Nat.le_of_lt (lt_alloc _ _)) hg.size); clear ho hg))
        exact ⟨⟨k + 1, by omega, by go_num, enc_fin HNX.out hEnc.out HM.out HZS.out (by have := HOB.out; simpa [Nat.add_assoc] using this), by
          obtain ⟨q1, q2⟩ := enc_below (u := (.cells #[.bool true, .bool true, .bool true, .bool true] 93)) hbw.out hz HB1.out HB2.out
          have q3 := grown_below HGA.out q2 (own_low (HO2.out.alloc _))
          exact Below.trans q1 (Below.trans q3 (grown_below HGB.out (Nat.le_trans q2 HGA.out.size) (own_low HOA.out)))⟩, by simp [intOf]; omega⟩
    · obtain rfl : k = n := by omega
      have e : l.take k = l := List.take_of_length_le (by rw [HL.out]; exact Nat.le_refl _)
      obtain ⟨m, hm⟩ : ∃ m, m = (U.encs (l.take k)).length := ⟨_, rfl⟩
      rw [← hm] at HO ⊢
      have HEE : Hid (U.encs (l.take k) = U.encs l) := by show U.encs (l.take k) = _; rw [e]
      have HMM := Lib.hid hm
      clear hm
      have hz : w.heap.size < wr.heap.size := by have := hbw.out.size; simp at this; omega
      have f0 : wr.cell? ⟨w.heap.size, 0, none⟩ = some (.int .i64 0) := by rw [Below.cell (p := ⟨w.heap.size, 0, none⟩) hbw.out (Nat.lt_succ_self _)]; simp [go_sem]
      have f1 : wr.cell? ⟨w.heap.size, 1, none⟩ = some (.int .i64 0) := by rw [Below.cell (p := ⟨w.heap.size, 1, none⟩) hbw.out (Nat.lt_succ_self _)]; simp [go_sem]
      have g0 : wr.frozen? ⟨w.heap.size, 0, none⟩ = false := by rw [Below.frozen (p := ⟨w.heap.size, 0, none⟩) hbw.out (Nat.lt_succ_self _)]; simp [go_sem]
      have g1 : wr.frozen? ⟨w.heap.size, 1, none⟩ = false := by rw [Below.frozen (p := ⟨w.heap.size, 1, none⟩) hbw.out (Nat.lt_succ_self _)]; simp [go_sem]
      clear e
      go_wp2
      have hb0 := Below.trans (Ext.alloc (Below.refl w.heap.size w) (.cells #[.int .i64 0, .int .i64 0] 50)) (hbw.out.mono (Nat.le_succ _))
      exact bodyPost_ret (v := .tuple #[.slice oa m oc, .agg #[.int .i64 0, .int .i64 0]]) (by simp [results, Try.results25, go_sem, f0, f1, g0, g1, hz]) rfl ⟨_, rfl, by rw [← HEE.out, ← HMM.out]; exact ownsRow_setCell_below (ownsRow_setCell_below HO.out (a := ⟨w.heap.size, 0, none⟩) (Nat.lt_succ_self _) _) (a := ⟨w.heap.size, 1, none⟩) (Nat.lt_succ_self _) _, Below.setCell (Below.setCell hb0 (p := ⟨w.heap.size, 0, none⟩) (Nat.le_refl _) _) (p := ⟨w.heap.size, 1, none⟩) (Nat.le_refl _) _⟩
end Go.Proofs.Ytfjgnhmmakeaeaa
