/- Check's scope: what its blocks do to memory. No condition. -/
import Derived.Test.YthdckndjggljpaaDA
namespace Go.Proofs.Ythdckndjggljpaa
open Go.RowKit Go.Maps
set_option linter.unusedVariables false
set_option linter.unusedSimpArgs false
set_option maxRecDepth 100000
section
variable {w w' : World} {B e size n : Nat} {v : Value} {xs : List Value}
theorem own_ne_blk {g : Nat} {t : TypeId} {cs : Array Value} (h : w.ownsRow B e size v n xs) (hb : Blk w g t cs) (hne : e ≠ t) : some g ≠ v.ownBlock := by
  rcases h.2 with ⟨rfl, _⟩ | ⟨g', cap, cur, rfl, _, hg, _⟩
  · intro e; cases e
  · intro e2
    simp only [Value.ownBlock, Option.some.injEq] at e2
    subst e2
    have : w.heap[g]? = some (.cells cs t (0, 0)) := hb
    rw [hg] at this
    injection this with this
    injection this with _ this
    exact hne this
theorem own_ne_own {e' size' n' : Nat} {v' : Value} {xs' : List Value} (h : w.ownsRow B e size v n xs) (h' : w.ownsRow B e' size' v' n' xs') (hne : e ≠ e') {k : Nat} (hk : v'.ownBlock = some k) : some k ≠ v.ownBlock := by
  rcases h'.2 with ⟨rfl, _⟩ | ⟨g', cap, cur, rfl, _, hg, _⟩
  · cases hk
  · simp only [Value.ownBlock, Option.some.injEq] at hk
    subst hk
    rcases h.2 with ⟨rfl, _⟩ | ⟨g2, cap2, cur2, rfl, _, hg2, _⟩
    · intro e; cases e
    · intro e2
      simp only [Value.ownBlock, Option.some.injEq] at e2
      subst e2
      rw [hg] at hg2
      injection hg2 with this
      injection this with _ this
      exact hne this.symm
theorem smap_obj {V : Type} {elem : Value → Option (DataW Unit × List MemPlace)} {d : V → DataW Unit} {b m : Nat} {f : List UInt8 → Option V} (h : SMap elem d w b m f) : ∃ es c, w.heap[b]? = some (.map es c) := by
  obtain ⟨D, ⟨es, c, h, _⟩, _⟩ := h; exact ⟨es, c, h⟩
theorem own_ne_map {V : Type} {elem : Value → Option (DataW Unit × List MemPlace)} {d : V → DataW Unit} {b m : Nat} {f : List UInt8 → Option V} (h : w.ownsRow B e size v n xs) (hm : SMap elem d w b m f) : some b ≠ v.ownBlock := by
  obtain ⟨es, c, hm⟩ := smap_obj hm
  rcases h.2 with ⟨rfl, _⟩ | ⟨g', cap, cur, rfl, _, hg, _⟩
  · intro e; cases e
  · intro e2
    simp only [Value.ownBlock, Option.some.injEq] at e2
    subst e2
    rw [hm] at hg; cases hg
theorem blk_ne_map {V : Type} {elem : Value → Option (DataW Unit × List MemPlace)} {d : V → DataW Unit} {b m g : Nat} {f : List UInt8 → Option V} {t : TypeId} {cs : Array Value} (h : Blk w g t cs) (hm : SMap elem d w b m f) : b ≠ g := by
  rintro rfl
  obtain ⟨es, c, hm⟩ := smap_obj hm
  have : w.heap[b]? = some (.cells cs t (0, 0)) := h
  rw [hm] at this; cases this
/-- A row cut shorter is still one's own. -/
theorem own_short {g c : Nat} (h : w.ownsRow B e 1 (.slice (some ⟨g, 0, none⟩) n c) n xs) : w.ownsRow B e 1 (.slice (some ⟨g, 0, none⟩) (n - 1) c) (n - 1) xs.dropLast := by
  obtain ⟨hl, h⟩ := h
  rcases h with ⟨h, _⟩ | ⟨g', cap, cur, ev, hb, hg, hn, hm, hs, ht⟩
  · cases h
  · injection ev with e1 _ e3
    injection e1 with e1
    injection e1 with e1
    subst e1 e3
    refine ⟨by rw [List.length_dropLast]; omega, .inr ⟨g, c, cur, rfl, hb, hg, by omega, hm, hs, ?_⟩⟩
    rw [← ht, List.dropLast_eq_take, List.length_take, List.take_take]
    congr 1
    have : cur.toList.length = c * 1 := by simpa using hs
    omega
end
/-- Variables that hold the scope's address, and those that hold a place, are as they were. -/
def Kx (w w' : World) : Prop := ∀ k t cs, t = 78 ∨ t = 112 → Blk w k t cs → Blk w' k t cs
theorem Kx.refl (w : World) : Kx w w := fun _ _ _ _ h => h
theorem Kx.trans {a b c : World} (h : Kx a b) (k : Kx b c) : Kx a c := fun i t cs ht hb => k i t cs ht (h i t cs ht hb)
theorem Kx.below {w w' : World} (h : Below w.heap.size w w') : Kx w w' := fun k t cs _ hb => hb.keep h
theorem Kx.setCell {w : World} {g : Nat} {t : TypeId} {cs : Array Value} (hg : Blk w g t cs) (h1 : t ≠ 78) (h2 : t ≠ 112) (o : Nat) (u : Value) : Kx w (w.setCell ⟨g, o, none⟩ u) := fun k t' cs' ht hb => hb.far (fun e2 => hb.ne_ hg (by rcases ht with rfl | rfl; exact Ne.symm h1; exact Ne.symm h2) e2) u
theorem Kx.row {w w' : World} {B e size n : Nat} {v : Value} {xs : List Value} (ho : w.ownsRow B e size v n xs) (h1 : e ≠ 78) (h2 : e ≠ 112) (hg : w.grownBy w' v.ownBlock) : Kx w w' := fun k t cs ht hb => hb.grown hg (own_ne_blk ho hb (by rcases ht with rfl | rfl; exact h1; exact h2))
theorem Kx.map {w w' : World} {V : Type} {elem : Value → Option (DataW Unit × List MemPlace)} {d : V → DataW Unit} {b m : Nat} {f : List UInt8 → Option V} (hm : SMap elem d w b m f) (hg : w.grownBy w' (some b)) : Kx w w' := fun k t cs _ hb => hb.grown hg (fun e2 => by injection e2 with e2; exact blk_ne_map hb hm e2.symm)
theorem Kx.res {w w1 w' : World} {r : Nat} (h : Kx w w1) (hr : w.heap.size ≤ r) (hs : ∀ k, k ≠ r → w'.heap[k]? = w1.heap[k]?) : Kx w w' := fun k t cs ht hb => (hs k (by have := hb.lt; omega)).trans (h k t cs ht hb)
section
variable {w w2 w3 : World} {B g tb fq fo : Nat} {e : Ck.Env} {la : Option Addr} {lc ub : Nat} {sa : Option Addr} {sc : Nat} {bs : List Nat}
theorem ne_pl_ty : 135 ≠ 33 := by decide
theorem ne_pl_sc : 135 ≠ 87 := by decide
theorem ne_ty_sc : 33 ≠ 87 := by decide
/-- A block is opened: the map is in place, then the row is longer, then the scope says so. -/
theorem Sc.opened {a' : Option Addr} {c' mb : Nat} (h : Sc w B g tb fq fo e la lc ub sa sc bs) (hmb : w.heap.size ≤ mb) (hB : B ≤ w.heap.size) (hb2 : Below w.heap.size w w2) (hm : SMap plE Ck.locD w2 mb 0 (fun _ => none))
    (ho : w3.ownsRow B 135 1 (.slice a' (e.lv.length + 1) c') (e.lv.length + 1) (bs.map (fun b => Value.map (some b)) ++ [.map (some mb)])) (hg : w2.grownBy w3 (Value.slice la e.lv.length lc).ownBlock) :
    Sc (w3.setCell ⟨g, 1, none⟩ (.slice a' (e.lv.length + 1) c')) B g tb fq fo e.open a' c' ub sa sc (bs ++ [mb]) ∧ Below B w (w3.setCell ⟨g, 1, none⟩ (.slice a' (e.lv.length + 1) c')) ∧ Kx w (w3.setCell ⟨g, 1, none⟩ (.slice a' (e.lv.length + 1) c')) := by
  have h2 := h.keep hb2
  have hgk : some g ≠ (Value.slice la e.lv.length lc).ownBlock := own_ne_blk h2.lv h2.blk ne_pl_sc
  have hblk3 : Blk w3 g _ _ := h2.blk.grown hg hgk
  have hlen : e.open.lv.length = e.lv.length + 1 := by simp [Ck.Env.open]
  have far : ∀ k, k ≠ g → (w3.setCell ⟨g, 1, none⟩ (.slice a' (e.lv.length + 1) c')).heap[k]? = w3.heap[k]? := fun k hk => Below.heap_setCell w3 ⟨g, 1, none⟩ _ k hk
  have old : ∀ k, k < w2.heap.size → some k ≠ (Value.slice la e.lv.length lc).ownBlock → k ≠ g → (w3.setCell ⟨g, 1, none⟩ (.slice a' (e.lv.length + 1) c')).heap[k]? = w2.heap[k]? := fun k hk h1 h2 => (far k h2).trans (hg.block k hk h1)
  refine ⟨⟨?_, h.hB, ?_, ?_, ?_, ?_, h.ge, fun i b hb => ?_, ?_⟩, ?_, (Kx.below hb2).trans ((Kx.row h2.lv (by decide) (by decide) hg).trans (Kx.setCell hblk3 (by decide) (by decide) _ _))⟩
  · have := hblk3.set_ 1 (.slice a' (e.lv.length + 1) c')
    rw [hlen]
    simpa [Ck.Env.open] using this
  · rw [hlen]
    have hne := own_ne_blk ho hblk3 ne_pl_sc
    rw [List.map_append]
    exact own_heapR ho fun k hk => far k (fun e => hne (by rw [hk, e]))
  · have hs2 := h2.sl
    exact own_heapR hs2 fun k hk => old k (own_lowR hs2 k hk).2 (own_ne_own h2.lv hs2 ne_pl_ty hk) (fun e2 => own_ne_blk hs2 h2.blk ne_ty_sc (by rw [← e2]; exact hk.symm))
  · exact h2.us.same (old ub h2.us.lt (own_ne_map h2.lv h2.us) (blk_ne_map h2.blk h2.us))
  · rw [hlen, List.length_append, h.len]; rfl
  · rcases Nat.lt_or_ge i bs.length with hi | hi
    · rw [List.getElem?_append_left hi] at hb
      obtain ⟨h5, h6⟩ := h2.maps i b hb
      refine ⟨h5, ?_⟩
      have e1 : e.open.lv.getD i [] = e.lv.getD i [] := by
        show (e.lv ++ [[]]).getD i [] = _
        rw [List.getD_eq_getElem?_getD, List.getD_eq_getElem?_getD, List.getElem?_append_left (by rw [← h.len]; exact hi)]
      rw [e1]
      exact h6.same (old b h6.lt (own_ne_map h2.lv h6) (blk_ne_map h2.blk h6))
    · have hi2 : i = bs.length := by have := (List.getElem?_eq_some_iff.1 hb).1; rw [List.length_append] at this; simp at this; omega
      subst hi2
      rw [List.getElem?_append_right (Nat.le_refl _), Nat.sub_self] at hb
      simp only [List.getElem?_cons_zero, Option.some.injEq] at hb
      subst hb
      refine ⟨Nat.le_trans hB hmb, ?_⟩
      have e1 : e.open.lv.getD bs.length [] = [] := by
        show (e.lv ++ [[]]).getD bs.length [] = _
        rw [List.getD_eq_getElem?_getD, h.len, List.getElem?_append_right (Nat.le_refl _), Nat.sub_self]; rfl
      rw [e1]
      exact ((hm.same (old mb hm.lt (own_ne_map h2.lv hm) (blk_ne_map h2.blk hm))).mono (Nat.zero_le _)).congr fun l => rfl
  · have hu : ub < w.heap.size := h.us.lt
    rw [← List.cons_append]
    refine List.nodup_append.2 ⟨h.nd, List.pairwise_singleton _ _, fun a ha b hb => ?_⟩
    rw [List.mem_singleton] at hb
    subst hb
    rcases List.mem_cons.1 ha with rfl | ha
    · omega
    · obtain ⟨i, hi⟩ := List.getElem?_of_mem ha
      have := (h.maps i a hi).2.lt
      omega
  · have hlow := own_lowR h2.lv
    refine ⟨?_, ?_, ?_, ?_, fun k hk => ?_⟩
    · exact (show _ = w3.os from rfl).trans (hg.os.trans hb2.os)
    · exact (show _ = w3.tape from rfl).trans (hg.tape.trans hb2.tape)
    · exact (show _ = w3.output from rfl).trans (hg.output.trans hb2.output)
    · simpa using Nat.le_trans hb2.size hg.size
    · have h1 : k < w.heap.size := Nat.lt_of_lt_of_le hk hB
      refine (old k (Nat.lt_of_lt_of_le h1 hb2.size) (fun e2 => ?_) (by have := h.hB; omega)).trans (hb2.block k h1)
      have := (hlow k e2.symm).1; omega
/-- The innermost block is closed. -/
theorem Sc.closed {lb : Nat} (h : Sc w B g tb fq fo e (some ⟨lb, 0, none⟩) lc ub sa sc bs) :
    Sc (w.setCell ⟨g, 1, none⟩ (.slice (some ⟨lb, 0, none⟩) (e.lv.length - 1) lc)) B g tb fq fo e.close (some ⟨lb, 0, none⟩) lc ub sa sc bs.dropLast ∧ Below B w (w.setCell ⟨g, 1, none⟩ (.slice (some ⟨lb, 0, none⟩) (e.lv.length - 1) lc)) ∧ Kx w (w.setCell ⟨g, 1, none⟩ (.slice (some ⟨lb, 0, none⟩) (e.lv.length - 1) lc)) := by
  have hlen : e.close.lv.length = e.lv.length - 1 := by show e.lv.dropLast.length = _; rw [List.length_dropLast]
  have far : ∀ k, k ≠ g → (w.setCell ⟨g, 1, none⟩ (.slice (some ⟨lb, 0, none⟩) (e.lv.length - 1) lc)).heap[k]? = w.heap[k]? := fun k hk => Below.heap_setCell w ⟨g, 1, none⟩ _ k hk
  refine ⟨⟨?_, h.hB, ?_, ?_, ?_, ?_, h.ge, fun i b hb => ?_, ?_⟩, (Below.refl _ _).setCell h.hB _, Kx.setCell h.blk (by decide) (by decide) _ _⟩
  · have := h.blk.set_ 1 (.slice (some ⟨lb, 0, none⟩) (e.lv.length - 1) lc)
    rw [hlen]
    simpa [Ck.Env.close] using this
  · rw [hlen, List.map_dropLast]
    have ho := own_short h.lv
    exact own_heapR ho fun k hk => far k (fun e => own_ne_blk ho h.blk ne_pl_sc (by rw [hk, e]))
  · exact own_heapR h.sl fun k hk => far k (fun e2 => own_ne_blk h.sl h.blk ne_ty_sc (by rw [← e2]; exact hk.symm))
  · exact h.us.same (far ub (blk_ne_map h.blk h.us))
  · rw [hlen, List.length_dropLast, h.len]
  · have hi : i < bs.length - 1 := by have := (List.getElem?_eq_some_iff.1 hb).1; rw [List.length_dropLast] at this; exact this
    rw [List.getElem?_dropLast, if_pos hi] at hb
    obtain ⟨h5, h6⟩ := h.maps i b hb
    have e1 : e.close.lv.getD i [] = e.lv.getD i [] := by
      show (e.lv.dropLast).getD i [] = _
      rw [List.getD_eq_getElem?_getD, List.getD_eq_getElem?_getD, List.getElem?_dropLast, if_pos (by rw [← h.len]; exact hi)]
    rw [e1]
    exact ⟨h5, h6.same (far b (blk_ne_map h.blk h6))⟩
  · exact h.nd.sublist ((List.dropLast_sublist bs).cons_cons ub)
/-- Slots' row, one longer. -/
theorem Sc.last {b : Nat} (h : Sc w B g tb fq fo e la lc ub sa sc bs) (h1 : 1 ≤ e.lv.length) (hb : bs[e.lv.length - 1]? = some b) : SMap plE Ck.locD w b e.slots.length (Ck.lfn (e.lv.getLastD [])) := by
  have := (h.maps _ b hb).2
  rw [List.getLastD_eq_getLast?, List.getLast?_eq_getElem?, ← List.getD_eq_getElem?_getD]
  exact this
/-- A name has been given a place: what it was had, its slot, the innermost level. -/
theorem Sc.declared {b : Nat} {s : Bool} {nm : ByteArray} {wa wb wc wd : World} {a' : Option Addr} {c' mb : Nat} (h : Sc w B g tb fq fo e la lc ub sa sc bs) (hB : B ≤ w.heap.size) (h1 : 1 ≤ e.lv.length) (hmb : bs[e.lv.length - 1]? = some mb) (bt : Int)
    (ha : w.grownBy wa (some ub)) (hua : SMap boE (fun _ : Unit => .lit (.bool true)) wa ub (e.slots.length + 1) (fun l => if l = nm.data.toList then some () else Ck.usf e.used l))
    (hab : Below wa.heap.size wa wb)
    (ho : wc.ownsRow B 33 2 (.slice a' (e.slots.length + 1) c') (e.slots.length + 1) (Ck.slc e.slots ++ [.int .i64 bt, .bool s])) (hbc : wb.grownBy wc (Value.slice sa e.slots.length sc).ownBlock)
    (hcd : (wc.setCell ⟨g, 3, none⟩ (.slice a' (e.slots.length + 1) c')).grownBy wd (some mb)) (hmd : SMap plE Ck.locD wd mb (e.slots.length + 1) (fun l => if l = nm.data.toList then some ⟨nm.data.toList, bt, s, e.slots.length⟩ else Ck.lfn (e.lv.getLastD []) l)) :
    Sc wd B g tb fq fo { e with lv := e.lv.dropLast ++ [(e.lv.getLastD []) ++ [⟨nm.data.toList, bt, s, e.slots.length⟩]], used := e.used ++ [nm.data.toList], slots := e.slots ++ [(bt, s)] } la lc ub a' c' bs ∧ Below B w wd ∧ Kx w wd := by
  have hmbm := h.maps _ mb hmb
  have hmbl := (List.getElem?_eq_some_iff.1 hmb).1
  have mnu : mb ≠ ub := fun e2 => (List.nodup_cons.1 h.nd).1 (e2 ▸ List.mem_of_getElem? hmb)
  have nua : ∀ k, some k ≠ some ub → k < w.heap.size → wa.heap[k]? = w.heap[k]? := fun k hk hl => ha.block k hl hk
  have gu : ub ≠ g := blk_ne_map h.blk h.us
  have gm : mb ≠ g := blk_ne_map h.blk hmbm.2
  -- the slots' row in w, wa, wb
  have sA : wa.ownsRow B _ 2 _ _ _ := own_heapR h.sl fun k hk => nua k (fun e => by injection e with e; exact own_ne_map h.sl h.us (by rw [hk, e])) (own_lowR h.sl k hk).2
  have gA : Blk wa g _ _ := (nua g (fun e => by injection e with e; exact gu e.symm) h.blk.lt).trans h.blk
  have sB := own_heapR sA fun k hk => hab.block k (own_lowR sA k hk).2
  have gB : Blk wb g _ _ := gA.keep hab
  have gC : Blk wc g _ _ := gB.grown hbc (own_ne_blk sB gB ne_ty_sc)
  have szA := ha.size; have szB := hab.size; have szC := hbc.size
  have slow := own_lowR sB
  -- what stays from w to wd
  have stay : ∀ k, k < w.heap.size → k ≠ ub → k ≠ mb → k ≠ g → some k ≠ (Value.slice sa e.slots.length sc).ownBlock → wd.heap[k]? = w.heap[k]? := fun k hk k1 k2 k3 k4 => by
    have q1 : k < (wc.setCell ⟨g, 3, none⟩ (.slice a' (e.slots.length + 1) c')).heap.size := by simp; omega
    refine (hcd.block k q1 (fun e => by injection e with e; exact k2 e)).trans ((Below.heap_setCell wc ⟨g, 3, none⟩ _ k k3).trans ((hbc.block k (by omega) k4).trans ((hab.block k (by omega)).trans (nua k (fun e => by injection e with e; exact k1 e) hk))))
  have stayU : ∀ k, k < wa.heap.size → k ≠ mb → k ≠ g → some k ≠ (Value.slice sa e.slots.length sc).ownBlock → wd.heap[k]? = wa.heap[k]? := fun k hk k2 k3 k4 => by
    have q1 : k < (wc.setCell ⟨g, 3, none⟩ (.slice a' (e.slots.length + 1) c')).heap.size := by simp; omega
    exact (hcd.block k q1 (fun e => by injection e with e; exact k2 e)).trans ((Below.heap_setCell wc ⟨g, 3, none⟩ _ k k3).trans ((hbc.block k (by omega) k4).trans (hab.block k (by omega))))
  have stayC : ∀ k, k < wc.heap.size → k ≠ mb → k ≠ g → wd.heap[k]? = wc.heap[k]? := fun k hk k2 k3 => by
    have q1 : k < (wc.setCell ⟨g, 3, none⟩ (.slice a' (e.slots.length + 1) c')).heap.size := by simpa using hk
    exact (hcd.block k q1 (fun e => by injection e with e; exact k2 e)).trans (Below.heap_setCell wc ⟨g, 3, none⟩ _ k k3)
  have hlen : (e.lv.dropLast ++ [(e.lv.getLastD []) ++ [(⟨nm.data.toList, bt, s, e.slots.length⟩ : Ck.Loc)]]).length = e.lv.length := by rw [List.length_append, List.length_dropLast]; simp; omega
  have hsl : (e.slots ++ [(bt, s)]).length = e.slots.length + 1 := by simp
  have hmc0 : SMap plE Ck.locD (wc.setCell ⟨g, 3, none⟩ (.slice a' (e.slots.length + 1) c')) mb e.slots.length (Ck.lfn (e.lv.getD (e.lv.length - 1) [])) := by
    have m1 := hmbm.2.same (nua mb (fun e => by injection e with e; exact mnu e) hmbm.2.lt)
    have m2 := m1.keep hab
    exact (m2.same (hbc.block mb m2.lt (own_ne_map sB m2))).same (Below.heap_setCell wc ⟨g, 3, none⟩ _ mb gm)
  refine ⟨⟨?_, h.hB, ?_, ?_, ?_, ?_, h.ge, fun i b hb => ?_, h.nd⟩, ?_, (Kx.map h.us ha).trans ((Kx.below hab).trans ((Kx.row sB (by decide) (by decide) hbc).trans ((Kx.setCell gC (by decide) (by decide) _ _).trans (Kx.map hmc0 hcd))))⟩
  · have h3 := gC.set_ 3 (.slice a' (e.slots.length + 1) c')
    have h4 : Blk wd g _ _ := h3.grown hcd (fun e => by injection e with e; exact gm e.symm)
    simp only [hlen, hsl]
    simpa using h4
  · simp only [hlen]
    exact own_heapR h.lv fun k hk => stay k (own_lowR h.lv k hk).2 (fun e => own_ne_map h.lv h.us (by rw [hk, e])) (fun e => own_ne_map h.lv hmbm.2 (by rw [hk, e])) (fun e => own_ne_blk h.lv h.blk ne_pl_sc (by rw [hk, e])) (own_ne_own h.sl h.lv (Ne.symm ne_pl_ty) hk)
  · simp only [hsl]
    rw [Ck.slc_snoc]
    refine own_heapR ho fun k hk => stayC k (own_lowR ho k hk).2 (fun e2 => ?_) (fun e2 => own_ne_blk ho gC ne_ty_sc (by rw [hk, e2]))
    have hmc : SMap plE Ck.locD wc mb e.slots.length (Ck.lfn (e.lv.getD (e.lv.length - 1) [])) := by
      have m1 := hmbm.2.same (nua mb (fun e => by injection e with e; exact mnu e) hmbm.2.lt)
      have m2 := m1.keep hab
      exact m2.same (hbc.block mb m2.lt (own_ne_map sB m2))
    exact own_ne_map ho hmc (by rw [hk, e2])
  · simp only [hsl]
    have := hua.same (stayU ub hua.lt mnu.symm gu (own_ne_map sA hua))
    exact this.congr fun l => (Ck.usf_snoc e.used nm.data.toList l).symm
  · simp only [hlen]; exact h.len
  · simp only [hsl]
    obtain ⟨h5, h6⟩ := h.maps i b hb
    have hi : i < e.lv.length := by have := (List.getElem?_eq_some_iff.1 hb).1; rw [h.len] at this; exact this
    refine ⟨h5, ?_⟩
    by_cases hl : i = e.lv.length - 1
    · subst hl
      rw [hmb] at hb
      injection hb with hb
      subst hb
      have e1 : (e.lv.dropLast ++ [(e.lv.getLastD []) ++ [(⟨nm.data.toList, bt, s, e.slots.length⟩ : Ck.Loc)]]).getD (e.lv.length - 1) [] = (e.lv.getLastD []) ++ [⟨nm.data.toList, bt, s, e.slots.length⟩] := by
        rw [List.getD_eq_getElem?_getD, List.getElem?_append_right (by rw [List.length_dropLast]; exact Nat.le_refl _), List.length_dropLast, Nat.sub_self]; rfl
      simp only [e1]
      exact hmd.congr fun l => (Ck.lfn_snoc (e.lv.getLastD []) ⟨nm.data.toList, bt, s, e.slots.length⟩ l).symm
    · have e1 : (e.lv.dropLast ++ [(e.lv.getLastD []) ++ [(⟨nm.data.toList, bt, s, e.slots.length⟩ : Ck.Loc)]]).getD i [] = e.lv.getD i [] := by
        rw [List.getD_eq_getElem?_getD, List.getD_eq_getElem?_getD, List.getElem?_append_left (by rw [List.length_dropLast]; omega), List.getElem?_dropLast, if_pos (by omega)]
      simp only [e1]
      have bnm : b ≠ mb := fun e2 => by
        subst e2
        have hnd := (List.nodup_cons.1 h.nd).2
        have := (List.getElem?_inj (by have := (List.getElem?_eq_some_iff.1 hb).1; exact this) hnd).1 (hb.trans hmb.symm)
        exact hl this
      have bnu : b ≠ ub := fun e2 => (List.nodup_cons.1 h.nd).1 (e2 ▸ List.mem_of_getElem? hb)
      exact (h6.same (stay b h6.lt bnu bnm (blk_ne_map h.blk h6) (own_ne_map h.sl h6))).mono (Nat.le_succ _)
  · refine ⟨?_, ?_, ?_, ?_, fun k hk => ?_⟩
    · exact hcd.os.trans ((show (wc.setCell _ _).os = wc.os from rfl).trans (hbc.os.trans (hab.os.trans ha.os)))
    · exact hcd.tape.trans ((show (wc.setCell _ _).tape = wc.tape from rfl).trans (hbc.tape.trans (hab.tape.trans ha.tape)))
    · exact hcd.output.trans ((show (wc.setCell _ _).output = wc.output from rfl).trans (hbc.output.trans (hab.output.trans ha.output)))
    · have := hcd.size
      have e2 : (wc.setCell ⟨g, 3, none⟩ (.slice a' (e.slots.length + 1) c')).heap.size = wc.heap.size := by simp
      omega
    · have hgB := h.hB; have huB := h.ge; have hmB := hmbm.1
      exact stay k (by omega) (by omega) (by omega) (by omega) (fun e2 => by have := (own_lowR h.sl k e2.symm).1; omega)
/-- What stays until the slots' row is in its place again. -/
theorem Sc.stay {wa wb wc : World} {u : Value} (h : Sc w B g tb fq fo e la lc ub sa sc bs) (ha : w.grownBy wa (some ub)) (hab : Below wa.heap.size wa wb) (hbc : wb.grownBy wc (Value.slice sa e.slots.length sc).ownBlock) (k : Nat) (hk : k < w.heap.size) (k1 : k ≠ ub) (k3 : k ≠ g)
    (k4 : some k ≠ (Value.slice sa e.slots.length sc).ownBlock) : (wc.setCell ⟨g, 3, none⟩ u).heap[k]? = w.heap[k]? := by
  have szA := ha.size; have szB := hab.size
  exact (Below.heap_setCell wc ⟨g, 3, none⟩ _ k k3).trans ((hbc.block k (by omega) k4).trans ((hab.block k (by omega)).trans (ha.block k hk (fun e => by injection e with e; exact k1 e))))
/-- .. and the scope's own block. -/
theorem Sc.stayG {wa wb wc : World} (h : Sc w B g tb fq fo e la lc ub sa sc bs) (ha : w.grownBy wa (some ub)) (hab : Below wa.heap.size wa wb) (hbc : wb.grownBy wc (Value.slice sa e.slots.length sc).ownBlock) :
    Blk wa g 87 #[P tb, .slice la e.lv.length lc, .map (some ub), .slice sa e.slots.length sc, .int .i64 (e.loops : Int), .pointer (some ⟨fq, fo, none⟩)] ∧ wa.ownsRow B 33 2 (.slice sa e.slots.length sc) e.slots.length (Ck.slc e.slots) ∧
      wb.ownsRow B 33 2 (.slice sa e.slots.length sc) e.slots.length (Ck.slc e.slots) ∧
      Blk wc g 87 #[P tb, .slice la e.lv.length lc, .map (some ub), .slice sa e.slots.length sc, .int .i64 (e.loops : Int), .pointer (some ⟨fq, fo, none⟩)] := by
  have gu : ub ≠ g := blk_ne_map h.blk h.us
  have nua : ∀ k, some k ≠ some ub → k < w.heap.size → wa.heap[k]? = w.heap[k]? := fun k hk hl => ha.block k hl hk
  have sA : wa.ownsRow B 33 2 (.slice sa e.slots.length sc) e.slots.length (Ck.slc e.slots) := own_heapR h.sl fun k hk => nua k (fun e2 => by injection e2 with e2; exact own_ne_map h.sl h.us (by rw [hk, e2])) (own_lowR h.sl k hk).2
  have gA : Blk wa g _ _ := (nua g (fun e => by injection e with e; exact gu e.symm) h.blk.lt).trans h.blk
  have sB := own_heapR sA fun k hk => hab.block k (own_lowR sA k hk).2
  have gB : Blk wb g _ _ := gA.keep hab
  exact ⟨gA, sA, sB, gB.grown hbc (own_ne_blk sB gB ne_ty_sc)⟩
/-- The innermost level's map, in the row. -/
theorem Sc.top {lb mb : Nat} (h : Sc w B g tb fq fo e (some ⟨lb, 0, none⟩) lc ub sa sc bs) (hmb : bs[e.lv.length - 1]? = some mb) : w.cell? ⟨lb, e.lv.length - 1, none⟩ = some (.map (some mb)) ∧ lb < w.heap.size ∧ lb ≠ ub ∧ lb ≠ g ∧ some lb ≠ (Value.slice sa e.slots.length sc).ownBlock := by
  have hc := h.lv.cells (g := lb) rfl (e.lv.length - 1) (.map (some mb)) (by rw [List.getElem?_map, hmb]; rfl)
  rw [X.add_addr, Nat.zero_add] at hc
  refine ⟨hc, (own_lowR h.lv lb rfl).2, fun e2 => ?_, fun e2 => ?_, ?_⟩
  · exact own_ne_map h.lv h.us (by rw [← e2]; rfl)
  · exact own_ne_blk h.lv h.blk ne_pl_sc (by rw [← e2]; rfl)
  · exact own_ne_own h.sl h.lv (Ne.symm ne_pl_ty) rfl
/-- A block of another type was written. -/
theorem Sc.other {r : Nat} {t : TypeId} {cs : Array Value} {w' : World} (h : Sc w B g tb fq fo e la lc ub sa sc bs) (hr : Blk w r t cs) (h1 : 87 ≠ t) (h2 : 135 ≠ t) (h3 : 33 ≠ t) (hw : ∀ k, k ≠ r → w'.heap[k]? = w.heap[k]?) : Sc w' B g tb fq fo e la lc ub sa sc bs :=
  ⟨(hw g (h.blk.ne_ hr h1)).trans h.blk, h.hB, own_heapR h.lv fun b hb => hw b (fun e2 => own_ne_blk h.lv hr h2 (by rw [hb, e2])), own_heapR h.sl fun b hb => hw b (fun e2 => own_ne_blk h.sl hr h3 (by rw [hb, e2])),
    h.us.same (hw ub (blk_ne_map hr h.us)), h.len, h.ge, fun i b hb => ⟨(h.maps i b hb).1, (h.maps i b hb).2.same (hw b (blk_ne_map hr (h.maps i b hb).2))⟩, h.nd⟩
end
end Go.Proofs.Ythdckndjggljpaa
