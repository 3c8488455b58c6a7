/- Walk of probe.Trace. -/
import Derived.Test.YtfjgnhmmakeaeaaE61
import Derived.Test.YtfjgnhmmakeaeaaE63
import Derived.Test.YtfjgnhmmakeaeaaE59
namespace Go.Proofs.Ytfjgnhmmakeaeaa
open Go.RowKit
set_option linter.unusedVariables false
set_option linter.unusedSimpArgs false
set_option maxRecDepth 100000
open Mc
theorem RdB.heap {w w' : World} {B : Nat} {v : Value} {n : Nat} {cs : List Value} (h : RdB w B v n cs) (hb : ∀ b, b < B → w'.heap[b]? = w.heap[b]?) : RdB w' B v n cs := by
  obtain ⟨⟨h1, h2, a, cap, hv, hc, hr⟩, hB⟩ := h
  refine ⟨⟨h1, h2, a, cap, hv, hc, fun hne => ?_⟩, hB⟩
  obtain ⟨b, off, ha, hj⟩ := hr hne
  have hn : 0 < n := (by rcases Nat.eq_zero_or_pos n with h | h; exact absurd (List.eq_nil_of_length_eq_zero (by omega)) hne; exact h)
  have hlt : b < B := hB hn ⟨b, off, none⟩ n cap (by rw [hv, ha])
  exact ⟨b, off, ha, fun j u hu => by rw [← hj j u hu]; simp only [World.cell?]; rw [hb b hlt]⟩
theorem ownsRow_heap {w w' : World} {base e size : Nat} {v : Value} {n : Nat} {xs : List Value} (h : w.ownsRow base e size v n xs) (hb : ∀ b, v.ownBlock = some b → w'.heap[b]? = w.heap[b]?) : w'.ownsRow base e size v n xs := by
  obtain ⟨hl, h2⟩ := h
  refine ⟨hl, ?_⟩
  rcases h2 with ⟨rfl, rfl⟩ | ⟨g', cap, cur, rfl, hbb, hg', hc, hm, hsz, htake⟩
  · exact .inl ⟨rfl, rfl⟩
  · exact .inr ⟨g', cap, cur, rfl, hbb, (hb g' rfl).trans hg', hc, hm, hsz, htake⟩
theorem own_blk {w : World} {base e size : Nat} {v : Value} {n : Nat} {xs : List Value} (h : w.ownsRow base e size v n xs) {b : Nat} (hb : v.ownBlock = some b) : ∃ cs, Blk w b e cs := by
  rcases h.2 with ⟨rfl, _⟩ | ⟨g', cap, cur, rfl, hbb, hg', _⟩
  · cases hb
  · have : g' = b := by simpa [Value.ownBlock] using hb
    subst this; exact ⟨_, hg'⟩
/-- What it holds: the steps told so far. -/
def eyT (cd : List Int) (most : Int) (bc bo bm B0 N : Nat) (cv : Value) (nC : Nat) (h1 : bc < B0) (h2 : bm < B0) (h3 : bo < B0) (h4 : N ≤ bc) (h5 : bc < bo) (h6 : bm < bo) : Eyes (envT cd most) B0 (fun b => b = bo) where
  Look w l g := Blk w bc 22 #[cv] ∧ Blk w bm 3 #[.int .i64 most] ∧ RdB w N cv nC (cd.map (Value.int .i64)) ∧ ∃ lv, Blk w bo 70 #[lv] ∧ w.ownsRow B0 80 17 lv g.length (shR cd g) ∧ (∀ b, l b ↔ (b = bo ∨ lv.ownBlock = some b)) ∧ g.length ≤ 10000
  keep := by
    rintro w w' l g ⟨q1, q2, q3, lv, q4, q5, q6, q7⟩ hs hb
    refine ⟨(hb bc (.inr ⟨h1, by omega⟩)).trans q1, (hb bm (.inr ⟨h2, by omega⟩)).trans q2, q3.heap (fun b hbN => hb b (.inr ⟨by omega, by omega⟩)), lv, (hb bo (.inl ((q6 bo).2 (.inl rfl)))).trans q4, ownsRow_heap q5 (fun b hlb => hb b (.inl ((q6 b).2 (.inr hlb)))), q6, q7⟩
  nb := by
    rintro w l g b ⟨q1, q2, q3, lv, q4, q5, q6, q7⟩ hb
    rcases (q6 b).1 hb with rfl | hb
    · exact ⟨_, _, q4, by decide, by decide, by decide⟩
    · obtain ⟨cs, hc⟩ := own_blk q5 hb
      exact ⟨_, cs, hc, by decide, by decide, by decide⟩
theorem doneT (cd inp : List Int) (most : Int) (hmo : most ≤ 10000) (bc bo bm B0 N : Nat) (cv : Value) (nC : Nat) (hnC : nC ≤ 70000) (h1 : bc < B0) (h2 : bm < B0) (h3 : bo < B0) (h4 : N ≤ bc) (h5 : bc < bo) (h6 : bm < bo) :
    Dones (eyT cd most bc bo bm B0 N cv nC h1 h2 h3 h4 h5 h6) cd inp (fun _ _ => True) 55 (fun a mb => #[.int .i64 a, .pointer (some ⟨mb, 0, none⟩)] ++ #[pz bc, pz bo, pz bm]) := by
  intro L s s' ov l g wx hs hm hB hok hwd hs0 hs1 _ hlk hgm hl
  obtain ⟨q1, q2, q3, lv, q4, q5, q6, q7⟩ := hlk
  have C1 := one_ok cv nC cd hnC s'.pc wx q3.1
  have c1 : wx.cell? ⟨bc, 0, none⟩ = some cv := by rw [q1.cell]; rfl
  have c2 : wx.cell? ⟨bm, 0, none⟩ = some (.int .i64 most) := by rw [q2.cell]; rfl
  have c3 : wx.cell? ⟨bo, 0, none⟩ = some lv := by rw [q4.cell]; rfl
  have hBw : B0 ≤ wx.heap.size := by have := hm.lt; omega
  obtain ⟨la, lc, rfl, hlo⟩ := own_slice q5
  have hsame : ∀ w', Below wx.heap.size wx w' → ∃ l', (eyT cd most bc bo bm B0 N cv nC h1 h2 h3 h4 h5 h6).Look w' l' g ∧ Bel wx.heap.size l wx w' ∧ ∀ b, l' b → l b ∨ wx.heap.size ≤ b := fun w' hb =>
    ⟨l, Eyes.below _ (⟨q1, q2, q3, _, q4, q5, q6, q7⟩ : (eyT cd most bc bo bm B0 N cv nC h1 h2 h3 h4 h5 h6).Look wx l g) hBw hb, Bel.of hb, fun b hb => .inl hb⟩
  by_cases hn0 : 0 < (U.one cd s'.pc).n
  · by_cases hk : (g.length : Int) < most
    · refine (shot_more s'.pc most g.length B0 la lc cv L.mb bc bo bm cd L s ov g wx c1 c2 q4 hm.blk q5 hBw C1 hn0 hk (by omega)).mono ?_
      rintro e w' ⟨he, a', c', r1, r2, r3, r4⟩
      have hd : (envT cd most).dG g s'.pc s = g ++ [(s'.pc, s)] := if_pos ⟨hn0, hk⟩
      have hlen : (g ++ [(s'.pc, s)]).length = g.length + 1 := by simp
      have nb : ∀ b, b < wx.heap.size → b ≠ bo → (∀ cs, ¬ Blk wx b 80 cs) → w'.heap[b]? = wx.heap[b]? := fun b hb hne hc => r4.block b hb (fun k => by
        rcases k with k | k
        · exact hne k
        · obtain ⟨cs, h⟩ := own_blk q5 k; exact hc cs h)
      have tne : ∀ {b t cs cs'}, Blk wx b t cs → t ≠ 80 → ¬ Blk wx b 80 cs' := fun h hne h' => h.ne_ h' hne rfl
      refine ⟨he, fun b => b = bo ∨ (Value.slice a' (g.length + 1) c').ownBlock = some b, ?_, r4.mono (Nat.le_refl _) (fun b _ k => (q6 b).2 k), ?_⟩
      · rw [hd]
        refine ⟨(nb bc q1.lt (by omega) (fun cs => tne q1 (by decide))).trans q1, (nb bm q2.lt (by omega) (fun cs => tne q2 (by decide))).trans q2, q3.heap (fun b hb => ?_), _, r1, by rw [hlen]; exact r2, fun b => Iff.rfl, by rw [hlen]; omega⟩
        refine r4.block b (by have := q1.lt; omega) (fun k => ?_)
        rcases k with k | k
        · omega
        · have := (hlo b k).1; omega
      · rintro b (hb | hb)
        · exact .inl ((q6 b).2 (.inl hb))
        · rcases r3 with r3 | ⟨g', r3, hg'⟩
          · exact .inl ((q6 b).2 (.inr (by rw [← r3]; exact hb)))
          · rw [r3] at hb; injection hb with hb; subst hb; exact .inr hg'
    · refine (shot_full s'.pc most _ _ _ _ _ g.length la lc cv L.mb bc bo bm wx c1 c2 c3 C1 hn0 hk q7).mono ?_
      rintro e w' ⟨he, hb⟩
      have hd : (envT cd most).dG g s'.pc s = g := if_neg (fun k => hk k.2)
      rw [hd]
      exact ⟨he, hsame w' hb⟩
  · refine (shot_none s'.pc most _ _ _ _ _ g.length la lc cv L.mb bc bo bm wx c1 C1 hn0).mono ?_
    rintro e w' ⟨he, hb⟩
    have hd : (envT cd most).dG g s'.pc s = g := if_neg (fun k => hn0 k.1)
    rw [hd]
    exact ⟨he, hsame w' hb⟩
theorem results_3 {P : Program} {fn : Func} {p q r : Tmp} {ty : TypeId} (h : fn.results = #[.tmp r, .cell p ty, .tmp q]) (tmps : Array Value) (w : World) (g : Nat) (t : TypeId) (cs : Array Value) (fr : Nat × Nat) (d : TypeDesc)
    (hp : tmps.getD p undef = .pointer (some ⟨g, 0, none⟩)) (hg : w.heap[g]? = some (.cells cs t fr))
    (hu : P.underlying ty = some d) (hd : (match d with | .struct _ | .array _ _ => true | _ => false) = true) (hi : (P.info? ty).map (·.size) = some cs.size) :
    (results fn tmps).run P w = .ok (.tuple #[tmps.getD r undef, .agg cs, tmps.getD q undef]) w := by
  have hp' : tmps[p]?.getD undef = .pointer (some ⟨g, 0, none⟩) := by simpa using hp
  simp [results, h, hp', asAddr, run_loadVar_row w g t ty cs fr d hg hu hd hi]
/-- Where a trace begins. -/
abbrev trW (w : World) (cv : Value) (o1 : Obj) (most : Int) : World := ((((w.alloc (.cells #[cv] 22)).alloc o1).alloc (.cells #[.int .i64 most] 3)).alloc (.cells ranZc 30)).alloc (.cells #[.slice none 0 0] 70)
theorem Blk.new_at {w : World} {n : Nat} (t : TypeId) (cs : Array Value) (h : w.heap.size = n) : Blk (w.alloc (.cells cs t)) n t cs := by subst h; exact Blk.new w t cs
theorem tr_start (w : World) (cv : Value) (o1 : Obj) (most : Int) : (trW w cv o1 most).heap.size = w.heap.size + 5 ∧ Below w.heap.size w (trW w cv o1 most) ∧ Blk (trW w cv o1 most) w.heap.size 22 #[cv] ∧ Blk (trW w cv o1 most) (w.heap.size + 2) 3 #[.int .i64 most] ∧ Blk (trW w cv o1 most) (w.heap.size + 3) 30 ranZc ∧ Blk (trW w cv o1 most) (w.heap.size + 4) 70 #[.slice none 0 0] :=
  ⟨by simp, Ext.alloc (Ext.alloc (Ext.alloc (Ext.alloc (Ext.alloc (Below.refl _ _) _) _) _) _) _, ((((Blk.new w _ _).alloc _).alloc _).alloc _).alloc _, ((Blk.new_at _ _ (by simp)).alloc _).alloc _, (Blk.new_at _ _ (by simp)).alloc _, Blk.new_at _ _ (by simp)⟩
theorem tr_state (w : World) (cv : Value) (st : Array Value) (most : Int) : Blk (trW w cv (.cells st 27) most) (w.heap.size + 1) 27 st := (((Blk.new_at _ _ (by simp)).alloc _).alloc _).alloc _
/-- What a trace leaves in memory behind its run. -/
structure TrEnd (w : World) (cd : List Int) (G : List (Int × St)) (F : St) (ov mv lv : Value) (w' : World) : Prop where
  o : w'.ownsRow (w.heap.size + 5) 5 1 ov F.out.length (F.out.map (Value.int .u8))
  m : w'.ownsRow (w.heap.size + 5) 3 1 mv (top F.mem MS) ((left F.mem).map (Value.int .i64))
  l : F.out.length ≤ 65536
  b : Blk w' (w.heap.size + 4) 70 #[lv]
  s : w'.ownsRow (w.heap.size + 5) 80 17 lv G.length (shR cd G)
  z : Blk w' (w.heap.size + 3) 30 ranZc
  h : Below w.heap.size w w'
theorem tr_last {w wx w4 wf : World} {cd : List Int} {G : List (Int × St)} {F : St} {ov mv lv : Value} (h : TrEnd w cd G F ov mv lv wx) (h4 : Below wx.heap.size wx w4) (hf : Below w4.heap.size w4 wf) (cs : Array Value) :
    (wf.setRow (w.heap.size + 3) cs).ownsRow w.heap.size 5 1 ov F.out.length (F.out.map (Value.int .u8)) ∧ (wf.setRow (w.heap.size + 3) cs).ownsRow w.heap.size 3 1 mv (top F.mem MS) ((left F.mem).map (Value.int .i64)) ∧
    (wf.setRow (w.heap.size + 3) cs).ownsRow w.heap.size 80 17 lv G.length (shR cd G) ∧ Below w.heap.size w (wf.setRow (w.heap.size + 3) cs) := by
  have hb : Below wx.heap.size wx wf := Ext.trans h4 hf
  refine ⟨own_mono (by omega) (own_lowRow (ownsRow_below h.o hb) (by omega) cs), own_mono (by omega) (own_lowRow (ownsRow_below h.m hb) (by omega) cs), own_mono (by omega) (own_lowRow (ownsRow_below h.s hb) (by omega) cs), Below.row (Ext.trans h.h hb) (by omega) _⟩
set_option maxHeartbeats 8000000 in
theorem trace_run (ca ia ma : Option Addr) (nC cc nI ic mn mc : Nat) (r0 r1 r2 r3 r4 r5 r6 r7 pc fuel most : Int) (c z n v : Bool) (cd : List Int) (G : List (Int × St)) (F : St) (w : World) (hm0 : 0 ≤ most) (hm1 : most ≤ 10000)
    (CW : ∀ wW : World, wW.heap.size = w.heap.size + 5 → Below w.heap.size w wW → Blk wW w.heap.size 22 #[.slice ca nC cc] → Blk wW (w.heap.size + 2) 3 #[.int .i64 most] → Blk wW (w.heap.size + 3) 30 ranZc → Blk wW (w.heap.size + 4) 70 #[.slice none 0 0] →
      Calls Try.prog 43 #[.slice ca nC cc, stV r0 r1 r2 r3 r4 r5 r6 r7 c z n v pc (.slice ma mn mc), .slice ia nI ic, .int .i64 fuel, .nilFunc, .func (.func 55) #[] #[pz w.heap.size, pz (w.heap.size + 4), pz (w.heap.size + 2)]] wW fun e w' => ∃ oa oc xa xc la lc, e = .returned (.tuple #[ranV F (.slice oa F.out.length oc) (.slice xa (top F.mem MS) xc), .int .i64 0]) ∧ TrEnd w cd G F (.slice oa F.out.length oc) (.slice xa (top F.mem MS) xc) (.slice la G.length lc) w') :
    Calls Try.prog 36 #[.slice ca nC cc, stV r0 r1 r2 r3 r4 r5 r6 r7 c z n v pc (.slice ma mn mc), .slice ia nI ic, .int .i64 fuel, .int .i64 most] w fun e w' => ∃ lv ov mv, e = .returned (.tuple #[lv, ranV F ov mv, .int .i64 0]) ∧ w'.ownsRow w.heap.size 5 1 ov F.out.length (F.out.map (Value.int .u8)) ∧ w'.ownsRow w.heap.size 3 1 mv (top F.mem MS) ((left F.mem).map (Value.int .i64)) ∧ w'.ownsRow w.heap.size 80 17 lv G.length (shR cd G) ∧ Below w.heap.size w w' := by
  have HCW := Lib.hid CW
  have HT := Lib.hid (tr_start w (.slice ca nC cc) (.cells (stC r0 r1 r2 r3 r4 r5 r6 r7 c z n v pc (.slice ma mn mc)) 27) most)
  have HTS := Lib.hid (tr_state w (.slice ca nC cc) (stC r0 r1 r2 r3 r4 r5 r6 r7 c z n v pc (.slice ma mn mc)) most)
  obtain ⟨NO, hNO⟩ : ∃ NO, NO = F.out.length := ⟨_, rfl⟩
  obtain ⟨NX, hNX⟩ : ∃ NX, NX = top F.mem MS := ⟨_, rfl⟩
  obtain ⟨NG, hNG⟩ : ∃ NG, NG = G.length := ⟨_, rfl⟩
  rw [← hNO, ← hNX, ← hNG] at HCW
  have HNO := Lib.hid hNO; have HNX := Lib.hid hNX; have HNG := Lib.hid hNG
  clear CW hNO hNX hNG
  go_enter Try.func36, Try.ntmps36
  go_wp2_with (first | (go_at_call 43; refine (HCW.out _ HT.out.1 HT.out.2.1 HT.out.2.2.1 HT.out.2.2.2.1 HT.out.2.2.2.2.1 HT.out.2.2.2.2.2).mono ?_; rintro e wx ⟨oa, oc, xa, xc, la, lc, rfl, hte⟩; have HTE := Lib.hid hte; clear hte) | (refine wpList_load_row rfl 27 _ rfl (w.heap.size + 1) rfl 27 (stC r0 r1 r2 r3 r4 r5 r6 r7 c z n v pc (.slice ma mn mc)) (0, 0) _ HTS.out Try.underlying27 rfl (by kernel_rfl) ?_) | (refine wpList_store_row rfl 30 _ _ rfl wx.heap.size (ranL F (.slice oa NO oc) (.slice xa NX xc)).toArray rfl rfl 30 ranZc (Blk.new _ _ _) (by kernel_rfl) rfl (ranL_one _ _ _ _ _ _ _) ?_; generalize hw4 : (wx.alloc (Obj.cells ranZc 30)).setRow wx.heap.size (ranL F (.slice oa NO oc) (.slice xa NX xc)).toArray = w4; have HB4 := Lib.hid ((by rw [← hw4]; exact Below.row (Ext.alloc (Below.refl _ _) _) (Nat.le_refl _) _ : Below wx.heap.size wx w4)); have HA4 := Lib.hid ((by rw [← hw4]; exact (Blk.new wx _ _).row _ : Blk w4 wx.heap.size 30 (ranL F (.slice oa NO oc) (.slice xa NX xc)).toArray)); clear hw4))
  apply Ix.wp_region 3 (fun wi => Hid (Below w4.heap.size w4 wi)) (Ix.vk [(Ix.kis (.slice la NG lc)), (Ix.kis (ranV F (.slice oa NO oc) (.slice xa NX xc))), (Ix.kis (.slice la NG lc))]) (fun _ => false) (by kernel_rfl) (by kernel_rfl) (by kernel_rfl) (fun _ _ h hb => Ext.trans h.out hb) (Ix.vk_keeps _) (Ix.not_al _) (Below.refl _ _)
  case step =>
    refine Ix.steps_cons (n := 2) (i := 0) (j := 1) rfl rfl (Ix.stepI_ofN [] (by kernel_rfl) (fun wi HB => ?_)) ?_
    (· (have k4 : wi.cell? ⟨w.heap.size + 4, 0, none⟩ = some (.slice la NG lc) := (by rw [((HTE.out.b.keep HB4.out).keep HB.out).cell]; rfl); refine Iv.askN_nil ?_; (try simp only [Act.put, List.setIfInBounds_toArray, List.set_cons_zero, List.set_cons_succ]); refine Ix.goI_yes rfl rfl ?_; intro K hK; (try simp only [Act.put, List.setIfInBounds_toArray, List.set_cons_zero, List.set_cons_succ] at hK); go_wp2_with (first | fail); exact hK _ _ (Below.refl _ _) rfl))
    refine Ix.steps_cons (n := 1) (i := 1) (j := 2) rfl rfl (Ix.stepI_ofN [] (by kernel_rfl) (fun wi HB => ?_)) ?_
    (· (have k4 : wi.cell? ⟨w.heap.size + 4, 0, none⟩ = some (.slice la NG lc) := (by rw [((HTE.out.b.keep HB4.out).keep HB.out).cell]; rfl); refine Iv.askN_nil ?_; (try simp only [Act.put, List.setIfInBounds_toArray, List.set_cons_zero, List.set_cons_succ]); refine Ix.goI_yes rfl rfl ?_; intro K hK; (try simp only [Act.put, List.setIfInBounds_toArray, List.set_cons_zero, List.set_cons_succ] at hK); refine wp_load_row 30 _ rfl wx.heap.size rfl 30 (ranL F (.slice oa NO oc) (.slice xa NX xc)).toArray (0, 0) _ (HA4.out.keep HB.out) Try.underlying30 rfl (by kernel_rfl) ?_; exact hK _ _ (Below.refl _ _) rfl))
    refine Ix.steps_cons (n := 0) (i := 2) (j := 3) rfl rfl (Ix.stepI_ofN [(0, some 36)] (by kernel_rfl) (fun wi HB => ?_)) ?_
    (· (have k4 : wi.cell? ⟨w.heap.size + 4, 0, none⟩ = some (.slice la NG lc) := (by rw [((HTE.out.b.keep HB4.out).keep HB.out).cell]; rfl); refine Iv.askN_cons ?_; rintro _ rfl; refine Iv.askN_nil ?_; (try simp only [Act.put, List.setIfInBounds_toArray, List.set_cons_zero, List.set_cons_succ]); refine Ix.goI_yes rfl rfl ?_; intro K hK; (try simp only [Act.put, List.setIfInBounds_toArray, List.set_cons_zero, List.set_cons_succ] at hK); go_wp2_with (first | fail); exact hK _ _ (Below.refl _ _) rfl))
    exact Ix.steps_nil
  intro vsf wf HF hdf
  refine Ix.allV_cons (n := 2) (j := 0) (k := 1) rfl rfl ?_; rintro _ _ rfl; refine Ix.allV_cons (n := 1) (j := 1) (k := 2) rfl rfl ?_; rintro _ _ rfl; refine Ix.allV_cons (n := 0) (j := 2) (k := 3) rfl rfl ?_; rintro _ _ rfl
  refine Ix.allV_nil ?_
  have HZf := Lib.hid ((HTE.out.z.keep HB4.out).keep HF.out)
  (try simp only [Act.put, List.setIfInBounds_toArray, List.set_cons_zero, List.set_cons_succ, List.drop_succ_cons, List.drop_zero])
  go_wp2_with (first | (refine wpList_store_row rfl 30 _ _ rfl (w.heap.size + 3) (ranL F (.slice oa NO oc) (.slice xa NX xc)).toArray rfl rfl 30 ranZc HZf.out (by kernel_rfl) rfl (ranL_one _ _ _ _ _ _ _) ?_))
  refine Ix.only ?_
  go_wp2
  have HL := Lib.hid (tr_last HTE.out HB4.out HF.out (ranL F (.slice oa NO oc) (.slice xa NX xc)).toArray)
  exact bodyPost_ret (results_3 rfl _ _ (w.heap.size + 3) 30 (ranL F (.slice oa NO oc) (.slice xa NX xc)).toArray (0, 0) _ rfl (HZf.out.row _) Try.underlying30 rfl (by kernel_rfl)) rfl ⟨_, _, _, rfl, HL.out⟩
end Go.Proofs.Ytfjgnhmmakeaeaa
