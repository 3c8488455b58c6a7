/- Walk of probe.Trace. -/
import Derived.Test.YtfjgnhmmakeaeaaPt2
import Derived.Test.YtfjgnhmmakeaeaaBH
import Derived.Test.YtfjgnhmmakeaeaaE63
import Derived.Test.YtfjgnhmmakeaeaaBB
namespace Go.Proofs.Ytfjgnhmmakeaeaa
open Go.RowKit
set_option linter.unusedVariables false
set_option linter.unusedSimpArgs false
set_option maxRecDepth 100000
open Mc
theorem RdB.heap {w w' : World} {B : Nat} {v : Value} {n : Nat} {cs : List Value} (h : RdB w B v n cs) (hb : ∀ b, b < B → w'.heap[b]? = w.heap[b]?) : RdB w' B v n cs := by
  obtain ⟨⟨h1, h2, a, cap, hv, hc, hr⟩, hB⟩ := h
  refine ⟨⟨h1, h2, a, cap, hv, hc, fun hne => ?_⟩, hB⟩
  obtain ⟨b, off, ha, hj⟩ := hr hne
  have hn : 0 < n := (by rcases Nat.eq_zero_or_pos n with h | h; exact absurd (List.eq_nil_of_length_eq_zero (by omega)) hne; exact h)
  have hlt : b < B := hB hn ⟨b, off, none⟩ n cap (by rw [hv, ha])
  exact ⟨b, off, ha, fun j u hu => by rw [← hj j u hu]; simp only [World.cell?]; rw [hb b hlt]⟩
theorem ownsRow_heap {w w' : World} {base e size : Nat} {v : Value} {n : Nat} {xs : List Value} (h : w.ownsRow base e size v n xs) (hb : ∀ b, v.ownBlock = some b → w'.heap[b]? = w.heap[b]?) : w'.ownsRow base e size v n xs := by
  obtain ⟨hl, h2⟩ := h
  refine ⟨hl, ?_⟩
  rcases h2 with ⟨rfl, rfl⟩ | ⟨g', cap, cur, rfl, hbb, hg', hc, hm, hsz, htake⟩
  · exact .inl ⟨rfl, rfl⟩
  · exact .inr ⟨g', cap, cur, rfl, hbb, (hb g' rfl).trans hg', hc, hm, hsz, htake⟩
theorem own_blk {w : World} {base e size : Nat} {v : Value} {n : Nat} {xs : List Value} (h : w.ownsRow base e size v n xs) {b : Nat} (hb : v.ownBlock = some b) : ∃ cs, Blk w b e cs := by
  rcases h.2 with ⟨rfl, _⟩ | ⟨g', cap, cur, rfl, hbb, hg', _⟩
  · cases hb
  · have : g' = b := by simpa [Value.ownBlock] using hb
    subst this; exact ⟨_, hg'⟩
/-- What it holds: the steps told so far. -/
def eyT (cd : List Int) (most : Int) (bc bo bm B0 N : Nat) (cv : Value) (nC : Nat) (h1 : bc < B0) (h2 : bm < B0) (h3 : bo < B0) (h4 : N ≤ bc) (h5 : bc < bo) (h6 : bm < bo) : Eyes (envT cd most) B0 (fun b => b = bo) where
  Look w l g := Blk w bc 22 #[cv] ∧ Blk w bm 3 #[.int .i64 most] ∧ RdB w N cv nC (cd.map (Value.int .i64)) ∧ ∃ lv, Blk w bo 70 #[lv] ∧ w.ownsRow B0 80 17 lv g.length (shR cd g) ∧ (∀ b, l b ↔ (b = bo ∨ lv.ownBlock = some b)) ∧ g.length ≤ 10000
  keep := by
    rintro w w' l g ⟨q1, q2, q3, lv, q4, q5, q6, q7⟩ hs hb
    refine ⟨(hb bc (.inr ⟨h1, by omega⟩)).trans q1, (hb bm (.inr ⟨h2, by omega⟩)).trans q2, q3.heap (fun b hbN => hb b (.inr ⟨by omega, by omega⟩)), lv, (hb bo (.inl ((q6 bo).2 (.inl rfl)))).trans q4, ownsRow_heap q5 (fun b hlb => hb b (.inl ((q6 b).2 (.inr hlb)))), q6, q7⟩
  nb := by
    rintro w l g b ⟨q1, q2, q3, lv, q4, q5, q6, q7⟩ hb
    rcases (q6 b).1 hb with rfl | hb
    · exact ⟨_, _, q4, by decide, by decide, by decide⟩
    · obtain ⟨cs, hc⟩ := own_blk q5 hb
      exact ⟨_, cs, hc, by decide, by decide, by decide⟩
theorem doneT (cd inp : List Int) (most : Int) (hmo : most ≤ 10000) (bc bo bm B0 N : Nat) (cv : Value) (nC : Nat) (hnC : nC ≤ 70000) (h1 : bc < B0) (h2 : bm < B0) (h3 : bo < B0) (h4 : N ≤ bc) (h5 : bc < bo) (h6 : bm < bo) :
    Dones (eyT cd most bc bo bm B0 N cv nC h1 h2 h3 h4 h5 h6) cd inp (fun _ _ => True) 55 (fun a mb => #[.int .i64 a, .pointer (some ⟨mb, 0, none⟩)] ++ #[pz bc, pz bo, pz bm]) := by
  intro L s s' ov l g wx hs hm hB hok hwd hs0 hs1 _ hlk hgm hl
  obtain ⟨q1, q2, q3, lv, q4, q5, q6, q7⟩ := hlk
  have C1 := one_ok cv nC cd hnC s'.pc wx q3.1
  have c1 : wx.cell? ⟨bc, 0, none⟩ = some cv := by rw [q1.cell]; rfl
  have c2 : wx.cell? ⟨bm, 0, none⟩ = some (.int .i64 most) := by rw [q2.cell]; rfl
  have c3 : wx.cell? ⟨bo, 0, none⟩ = some lv := by rw [q4.cell]; rfl
  have hBw : B0 ≤ wx.heap.size := by have := hm.lt; omega
  obtain ⟨la, lc, rfl, hlo⟩ := own_slice q5
  have hsame : ∀ w', Below wx.heap.size wx w' → ∃ l', (eyT cd most bc bo bm B0 N cv nC h1 h2 h3 h4 h5 h6).Look w' l' g ∧ Bel wx.heap.size l wx w' ∧ ∀ b, l' b → l b ∨ wx.heap.size ≤ b := fun w' hb =>
    ⟨l, Eyes.below _ (⟨q1, q2, q3, _, q4, q5, q6, q7⟩ : (eyT cd most bc bo bm B0 N cv nC h1 h2 h3 h4 h5 h6).Look wx l g) hBw hb, Bel.of hb, fun b hb => .inl hb⟩
  by_cases hn0 : 0 < (U.one cd s'.pc).n
  · by_cases hk : (g.length : Int) < most
    · refine (shot_more s'.pc most g.length B0 la lc cv L.mb bc bo bm cd L s ov g wx c1 c2 q4 hm.blk q5 hBw C1 hn0 hk (by omega)).mono ?_
      rintro e w' ⟨he, a', c', r1, r2, r3, r4⟩
      have hd : (envT cd most).dG g s'.pc s = g ++ [(s'.pc, s)] := if_pos ⟨hn0, hk⟩
      have hlen : (g ++ [(s'.pc, s)]).length = g.length + 1 := by simp
      have nb : ∀ b, b < wx.heap.size → b ≠ bo → (∀ cs, ¬ Blk wx b 80 cs) → w'.heap[b]? = wx.heap[b]? := fun b hb hne hc => r4.block b hb (fun k => by
        rcases k with k | k
        · exact hne k
        · obtain ⟨cs, h⟩ := own_blk q5 k; exact hc cs h)
      have tne : ∀ {b t cs cs'}, Blk wx b t cs → t ≠ 80 → ¬ Blk wx b 80 cs' := fun h hne h' => h.ne_ h' hne rfl
      refine ⟨he, fun b => b = bo ∨ (Value.slice a' (g.length + 1) c').ownBlock = some b, ?_, r4.mono (Nat.le_refl _) (fun b _ k => (q6 b).2 k), ?_⟩
      · rw [hd]
        refine ⟨(nb bc q1.lt (by omega) (fun cs => tne q1 (by decide))).trans q1, (nb bm q2.lt (by omega) (fun cs => tne q2 (by decide))).trans q2, q3.heap (fun b hb => ?_), _, r1, by rw [hlen]; exact r2, fun b => Iff.rfl, by rw [hlen]; omega⟩
        refine r4.block b (by have := q1.lt; omega) (fun k => ?_)
        rcases k with k | k
        · omega
        · have := (hlo b k).1; omega
      · rintro b (hb | hb)
        · exact .inl ((q6 b).2 (.inl hb))
        · rcases r3 with r3 | ⟨g', r3, hg'⟩
          · exact .inl ((q6 b).2 (.inr (by rw [← r3]; exact hb)))
          · rw [r3] at hb; injection hb with hb; subst hb; exact .inr hg'
    · refine (shot_full s'.pc most _ _ _ _ _ g.length la lc cv L.mb bc bo bm wx c1 c2 c3 C1 hn0 hk q7).mono ?_
      rintro e w' ⟨he, hb⟩
      have hd : (envT cd most).dG g s'.pc s = g := if_neg (fun k => hk k.2)
      rw [hd]
      exact ⟨he, hsame w' hb⟩
  · refine (shot_none s'.pc most _ _ _ _ _ g.length la lc cv L.mb bc bo bm wx c1 C1 hn0).mono ?_
    rintro e w' ⟨he, hb⟩
    have hd : (envT cd most).dG g s'.pc s = g := if_neg (fun k => hn0 k.1)
    rw [hd]
    exact ⟨he, hsame w' hb⟩
theorem results_3 {P : Program} {fn : Func} {p q r : Tmp} {ty : TypeId} (h : fn.results = #[.tmp r, .cell p ty, .tmp q]) (tmps : Array Value) (w : World) (g : Nat) (t : TypeId) (cs : Array Value) (fr : Nat × Nat) (d : TypeDesc)
    (hp : tmps.getD p undef = .pointer (some ⟨g, 0, none⟩)) (hg : w.heap[g]? = some (.cells cs t fr))
    (hu : P.underlying ty = some d) (hd : (match d with | .struct _ | .array _ _ => true | _ => false) = true) (hi : (P.info? ty).map (·.size) = some cs.size) :
    (results fn tmps).run P w = .ok (.tuple #[tmps.getD r undef, .agg cs, tmps.getD q undef]) w := by
  have hp' : tmps[p]?.getD undef = .pointer (some ⟨g, 0, none⟩) := by simpa using hp
  simp [results, h, hp', asAddr, run_loadVar_row w g t ty cs fr d hg hu hd hi]
/-- Where a trace begins. -/
abbrev trW (w : World) (cv : Value) (o1 : Obj) (most : Int) : World := ((((w.alloc (.cells #[cv] 22)).alloc o1).alloc (.cells #[.int .i64 most] 3)).alloc (.cells ranZc 30)).alloc (.cells #[.slice none 0 0] 70)
theorem Blk.new_at {w : World} {n : Nat} (t : TypeId) (cs : Array Value) (h : w.heap.size = n) : Blk (w.alloc (.cells cs t)) n t cs := by subst h; exact Blk.new w t cs
theorem tr_start (w : World) (cv : Value) (o1 : Obj) (most : Int) : (trW w cv o1 most).heap.size = w.heap.size + 5 ∧ Below w.heap.size w (trW w cv o1 most) ∧ Blk (trW w cv o1 most) w.heap.size 22 #[cv] ∧ Blk (trW w cv o1 most) (w.heap.size + 2) 3 #[.int .i64 most] ∧ Blk (trW w cv o1 most) (w.heap.size + 3) 30 ranZc ∧ Blk (trW w cv o1 most) (w.heap.size + 4) 70 #[.slice none 0 0] :=
  ⟨by simp, Ext.alloc (Ext.alloc (Ext.alloc (Ext.alloc (Ext.alloc (Below.refl _ _) _) _) _) _) _, ((((Blk.new w _ _).alloc _).alloc _).alloc _).alloc _, ((Blk.new_at _ _ (by simp)).alloc _).alloc _, (Blk.new_at _ _ (by simp)).alloc _, Blk.new_at _ _ (by simp)⟩
theorem tr_state (w : World) (cv : Value) (st : Array Value) (most : Int) : Blk (trW w cv (.cells st 27) most) (w.heap.size + 1) 27 st := (((Blk.new_at _ _ (by simp)).alloc _).alloc _).alloc _
/-- What a trace leaves in memory behind its run. -/
structure TrEnd (w : World) (cd : List Int) (G : List (Int × St)) (F : St) (ov mv lv : Value) (w' : World) : Prop where
  o : w'.ownsRow (w.heap.size + 5) 5 1 ov F.out.length (F.out.map (Value.int .u8))
  m : w'.ownsRow (w.heap.size + 5) 3 1 mv (top F.mem MS) ((left F.mem).map (Value.int .i64))
  l : F.out.length ≤ 65536
  b : Blk w' (w.heap.size + 4) 70 #[lv]
  s : w'.ownsRow (w.heap.size + 5) 80 17 lv G.length (shR cd G)
  z : Blk w' (w.heap.size + 3) 30 ranZc
  h : Below w.heap.size w w'
theorem tr_last {w wx w4 wf : World} {cd : List Int} {G : List (Int × St)} {F : St} {ov mv lv : Value} (h : TrEnd w cd G F ov mv lv wx) (h4 : Below wx.heap.size wx w4) (hf : Below w4.heap.size w4 wf) (cs : Array Value) :
    (wf.setRow (w.heap.size + 3) cs).ownsRow w.heap.size 5 1 ov F.out.length (F.out.map (Value.int .u8)) ∧ (wf.setRow (w.heap.size + 3) cs).ownsRow w.heap.size 3 1 mv (top F.mem MS) ((left F.mem).map (Value.int .i64)) ∧
    (wf.setRow (w.heap.size + 3) cs).ownsRow w.heap.size 80 17 lv G.length (shR cd G) ∧ Below w.heap.size w (wf.setRow (w.heap.size + 3) cs) := by
  have hb : Below wx.heap.size wx wf := Ext.trans h4 hf
  refine ⟨own_mono (by omega) (own_lowRow (ownsRow_below h.o hb) (by omega) cs), own_mono (by omega) (own_lowRow (ownsRow_below h.m hb) (by omega) cs), own_mono (by omega) (own_lowRow (ownsRow_below h.s hb) (by omega) cs), Below.row (Ext.trans h.h hb) (by omega) _⟩
set_option maxHeartbeats 8000000 in
theorem trace_run (ca ia ma : Option Addr) (nC cc nI ic mn mc : Nat) (r0 r1 r2 r3 r4 r5 r6 r7 pc fuel most : Int) (c z n v : Bool) (cd : List Int) (G : List (Int × St)) (F : St) (w : World) (hm0 : 0 ≤ most) (hm1 : most ≤ 10000)
    (CW : ∀ wW : World, wW.heap.size = w.heap.size + 5 → Below w.heap.size w wW → Blk wW w.heap.size 22 #[.slice ca nC cc] → Blk wW (w.heap.size + 2) 3 #[.int .i64 most] → Blk wW (w.heap.size + 3) 30 ranZc → Blk wW (w.heap.size + 4) 70 #[.slice none 0 0] →
      Calls Try.prog 43 #[.slice ca nC cc, stV r0 r1 r2 r3 r4 r5 r6 r7 c z n v pc (.slice ma mn mc), .slice ia nI ic, .int .i64 fuel, .nilFunc, .func (.func 55) #[] #[pz w.heap.size, pz (w.heap.size + 4), pz (w.heap.size + 2)]] wW fun e w' => ∃ oa oc xa xc la lc, e = .returned (.tuple #[ranV F (.slice oa F.out.length oc) (.slice xa (top F.mem MS) xc), .int .i64 0]) ∧ TrEnd w cd G F (.slice oa F.out.length oc) (.slice xa (top F.mem MS) xc) (.slice la G.length lc) w') :
    Calls Try.prog 36 #[.slice ca nC cc, stV r0 r1 r2 r3 r4 r5 r6 r7 c z n v pc (.slice ma mn mc), .slice ia nI ic, .int .i64 fuel, .int .i64 most] w fun e w' => ∃ lv ov mv, e = .returned (.tuple #[lv, ranV F ov mv, .int .i64 0]) ∧ w'.ownsRow w.heap.size 5 1 ov F.out.length (F.out.map (Value.int .u8)) ∧ w'.ownsRow w.heap.size 3 1 mv (top F.mem MS) ((left F.mem).map (Value.int .i64)) ∧ w'.ownsRow w.heap.size 80 17 lv G.length (shR cd G) ∧ Below w.heap.size w w' := by
  have HCW := Lib.hid CW
  have HT := Lib.hid (tr_start w (.slice ca nC cc) (.cells (stC r0 r1 r2 r3 r4 r5 r6 r7 c z n v pc (.slice ma mn mc)) 27) most)
  have HTS := Lib.hid (tr_state w (.slice ca nC cc) (stC r0 r1 r2 r3 r4 r5 r6 r7 c z n v pc (.slice ma mn mc)) most)
  obtain ⟨NO, hNO⟩ : ∃ NO, NO = F.out.length := ⟨_, rfl⟩
  obtain ⟨NX, hNX⟩ : ∃ NX, NX = top F.mem MS := ⟨_, rfl⟩
  obtain ⟨NG, hNG⟩ : ∃ NG, NG = G.length := ⟨_, rfl⟩
  rw [← hNO, ← hNX, ← hNG] at HCW
  have HNO := Lib.hid hNO; have HNX := Lib.hid hNX; have HNG := Lib.hid hNG
  clear CW hNO hNX hNG
  go_enter Try.func36, Try.ntmps36
  go_wp2_with (first | (go_at_call 43; refine (HCW.out _ HT.out.1 HT.out.2.1 HT.out.2.2.1 HT.out.2.2.2.1 HT.out.2.2.2.2.1 HT.out.2.2.2.2.2).mono ?_; rintro e wx ⟨oa, oc, xa, xc, la, lc, rfl, hte⟩; have HTE := Lib.hid hte; clear hte) | (refine wpList_load_row rfl 27 _ rfl (w.heap.size + 1) rfl 27 (stC r0 r1 r2 r3 r4 r5 r6 r7 c z n v pc (.slice ma mn mc)) (0, 0) _ HTS.out Try.underlying27 rfl (by kernel_rfl) ?_) | (refine wpList_store_row rfl 30 _ _ rfl wx.heap.size (ranL F (.slice oa NO oc) (.slice xa NX xc)).toArray rfl rfl 30 ranZc (Blk.new _ _ _) (by kernel_rfl) rfl (ranL_one _ _ _ _ _ _ _) ?_; generalize hw4 : (wx.alloc (Obj.cells ranZc 30)).setRow wx.heap.size (ranL F (.slice oa NO oc) (.slice xa NX xc)).toArray = w4; have HB4 := Lib.hid ((by rw [← hw4]; exact Below.row (Ext.alloc (Below.refl _ _) _) (Nat.le_refl _) _ : Below wx.heap.size wx w4)); have HA4 := Lib.hid ((by rw [← hw4]; exact (Blk.new wx _ _).row _ : Blk w4 wx.heap.size 30 (ranL F (.slice oa NO oc) (.slice xa NX xc)).toArray)); clear hw4))
  apply Ix.wp_region 3 (fun wi => Hid (Below w4.heap.size w4 wi)) (Ix.vk [(Ix.kis (.slice la NG lc)), (Ix.kis (ranV F (.slice oa NO oc) (.slice xa NX xc))), (Ix.kis (.slice la NG lc))]) (fun _ => false) (by kernel_rfl) (by kernel_rfl) (by kernel_rfl) (fun _ _ h hb => Ext.trans h.out hb) (Ix.vk_keeps _) (Ix.not_al _) (Below.refl _ _)
  case step =>
    refine zyx 2 0 1 [] (fun wi HB => ?_) <| zyx 1 1 2 [] (fun wi HB => ?_) <| zyx 0 2 3 [(0, some 36)] (fun wi HB => ?_) <| Ix.steps_nil
    (· (have k4 : wi.cell? ⟨w.heap.size + 4, 0, none⟩ = some (.slice la NG lc) := (by rw [((HTE.out.b.keep HB4.out).keep HB.out).cell]; rfl); (repeat (refine zya ?_; rintro _ rfl)); refine zye ?_; (try simp only [zyp]); refine Ix.goI_yes rfl rfl fun K hK => ?_; (try simp only [zyp] at hK); go_wp2_with (first | fail); exact hK _ _ (Below.refl _ _) rfl))
    (· (have k4 : wi.cell? ⟨w.heap.size + 4, 0, none⟩ = some (.slice la NG lc) := (by rw [((HTE.out.b.keep HB4.out).keep HB.out).cell]; rfl); (repeat (refine zya ?_; rintro _ rfl)); refine zye ?_; (try simp only [zyp]); refine Ix.goI_yes rfl rfl fun K hK => ?_; (try simp only [zyp] at hK); refine wp_load_row 30 _ rfl wx.heap.size rfl 30 (ranL F (.slice oa NO oc) (.slice xa NX xc)).toArray (0, 0) _ (HA4.out.keep HB.out) Try.underlying30 rfl (by kernel_rfl) ?_; exact hK _ _ (Below.refl _ _) rfl))
    (· ((repeat (refine zya ?_; rintro _ rfl)); refine zye ?_; (try simp only [zyp]); refine Ix.goI_yes rfl rfl fun K hK => ?_; (try simp only [zyp] at hK); go_wp2_with (first | fail); exact hK _ _ (Below.refl _ _) rfl))
  intro vsf wf HF hdf
  refine zyv 2 0 1 ?_; rintro _ _ rfl; refine zyv 1 1 2 ?_; rintro _ _ rfl; refine zyv 0 2 3 ?_; rintro _ _ rfl
  refine Ix.allV_nil ?_
  have HZf := Lib.hid ((HTE.out.z.keep HB4.out).keep HF.out)
  (try simp only [Act.put, List.setIfInBounds_toArray, List.set_cons_zero, List.set_cons_succ, List.drop_succ_cons, List.drop_zero])
  go_wp2_with (first | (refine wpList_store_row rfl 30 _ _ rfl (w.heap.size + 3) (ranL F (.slice oa NO oc) (.slice xa NX xc)).toArray rfl rfl 30 ranZc HZf.out (by kernel_rfl) rfl (ranL_one _ _ _ _ _ _ _) ?_))
  refine Ix.only ?_
  go_wp2
  have HL := Lib.hid (tr_last HTE.out HB4.out HF.out (ranL F (.slice oa NO oc) (.slice xa NX xc)).toArray)
  exact bodyPost_ret (results_3 rfl _ _ (w.heap.size + 3) 30 (ranL F (.slice oa NO oc) (.slice xa NX xc)).toArray (0, 0) _ rfl (HZf.out.row _) Try.underlying30 rfl (by kernel_rfl)) rfl ⟨_, _, _, rfl, HL.out⟩
end Go.Proofs.Ytfjgnhmmakeaeaa
/- probe.Trace, whole. -/
namespace Go.Proofs.Ytfjgnhmmakeaeaa
open Go.RowKit
set_option linter.unusedVariables false
set_option linter.unusedSimpArgs false
set_option maxRecDepth 100000
open Mc
set_option maxHeartbeats 8000000 in
theorem trace_wrong (ca ia ma : Option Addr) (nC cc nI ic mn mc : Nat) (r0 r1 r2 r3 r4 r5 r6 r7 pc fuel most E1 : Int) (c z n v : Bool) (w : World) (hm0 : 0 ≤ most) (hm1 : most ≤ 10000) (h0 : E1 ≠ 0)
    (CW : ∀ wW : World, Below w.heap.size w wW → Calls Try.prog 43 #[.slice ca nC cc, stV r0 r1 r2 r3 r4 r5 r6 r7 c z n v pc (.slice ma mn mc), .slice ia nI ic, .int .i64 fuel, .nilFunc, .func (.func 55) #[] #[pz w.heap.size, pz (w.heap.size + 4), pz (w.heap.size + 2)]] wW fun e w' => e = .returned (.tuple #[ranZ, .int .i64 E1]) ∧ Below wW.heap.size wW w') :
    Calls Try.prog 36 #[.slice ca nC cc, stV r0 r1 r2 r3 r4 r5 r6 r7 c z n v pc (.slice ma mn mc), .slice ia nI ic, .int .i64 fuel, .int .i64 most] w fun e w' => e = .returned (.tuple #[.slice none 0 0, ranZ, .int .i64 E1]) ∧ Below w.heap.size w w' := by
  have HCW := Lib.hid CW
  have HT := Lib.hid (tr_start w (.slice ca nC cc) (.cells (stC r0 r1 r2 r3 r4 r5 r6 r7 c z n v pc (.slice ma mn mc)) 27) most)
  have HTS := Lib.hid (tr_state w (.slice ca nC cc) (stC r0 r1 r2 r3 r4 r5 r6 r7 c z n v pc (.slice ma mn mc)) most)
  have e0 : (E1 != 0) = true := by simpa using h0
  clear CW h0
  go_enter Try.func36, Try.ntmps36
  go_wp2_with (first | (go_at_call 43; refine (HCW.out _ HT.out.2.1).mono ?_; rintro e wx ⟨rfl, hb⟩; have HB := Lib.hid hb; have HZ := Lib.hid (HT.out.2.2.2.2.1.keep hb); have HBW := Lib.hid (Ext.trans HT.out.2.1 hb); clear hb) | (refine wpList_load_row rfl 27 _ rfl (w.heap.size + 1) rfl 27 (stC r0 r1 r2 r3 r4 r5 r6 r7 c z n v pc (.slice ma mn mc)) (0, 0) _ HTS.out Try.underlying27 rfl (by kernel_rfl) ?_) | (refine wpList_store_row rfl 30 _ _ rfl wx.heap.size ranZc rfl rfl 30 ranZc (Blk.new _ _ _) (by kernel_rfl) rfl ranZ_one ?_; generalize hw4 : (wx.alloc (Obj.cells ranZc 30)).setRow wx.heap.size ranZc = w4; have HB4 := Lib.hid ((by rw [← hw4]; exact Below.row (Ext.alloc (Below.refl _ _) _) (Nat.le_refl _) _ : Below wx.heap.size wx w4)); have HZ4 := Lib.hid (HZ.out.keep HB4.out); clear hw4) | (refine wpList_store_row rfl 30 _ _ rfl (w.heap.size + 3) ranZc rfl rfl 30 ranZc HZ4.out (by kernel_rfl) rfl ranZ_one ?_))
  exact bodyPost_ret (results_3 rfl _ _ (w.heap.size + 3) 30 ranZc (0, 0) _ rfl (HZ4.out.row _) Try.underlying30 rfl (by kernel_rfl)) rfl ⟨rfl, Below.row (Ext.trans HBW.out HB4.out) (by omega) _⟩
theorem tr_start4 (w : World) (cv : Value) (o1 : Obj) (most : Int) : Blk ((((w.alloc (.cells #[cv] 22)).alloc o1).alloc (.cells #[.int .i64 most] 3)).alloc (.cells ranZc 30)) (w.heap.size + 3) 30 ranZc ∧ Below w.heap.size w ((((w.alloc (.cells #[cv] 22)).alloc o1).alloc (.cells #[.int .i64 most] 3)).alloc (.cells ranZc 30)) :=
  ⟨Blk.new_at _ _ (by simp), Ext.alloc (Ext.alloc (Ext.alloc (Ext.alloc (Below.refl _ _) _) _) _) _⟩
set_option maxHeartbeats 8000000 in
theorem trace_range (ca ia ma : Option Addr) (nC cc nI ic mn mc : Nat) (r0 r1 r2 r3 r4 r5 r6 r7 pc fuel most : Int) (c z n v : Bool) (w : World) (h0 : most < 0 ∨ most > 10000) :
    Calls Try.prog 36 #[.slice ca nC cc, stV r0 r1 r2 r3 r4 r5 r6 r7 c z n v pc (.slice ma mn mc), .slice ia nI ic, .int .i64 fuel, .int .i64 most] w fun e w' => e = .returned (.tuple #[.slice none 0 0, ranZ, .int .i64 3]) ∧ Below w.heap.size w w' := by
  have HT := Lib.hid (tr_start4 w (.slice ca nC cc) (.cells (stC r0 r1 r2 r3 r4 r5 r6 r7 c z n v pc (.slice ma mn mc)) 27) most)
  rcases h0 with h0 | h0
  · go_enter Try.func36, Try.ntmps36
    go_wp2_with (first | (refine wpList_store_row rfl 30 _ _ rfl (w.heap.size + 3) ranZc rfl rfl 30 ranZc HT.out.1 (by kernel_rfl) rfl ranZ_one ?_))
    exact bodyPost_ret (results_3 rfl _ _ (w.heap.size + 3) 30 ranZc (0, 0) _ rfl (HT.out.1.row _) Try.underlying30 rfl (by kernel_rfl)) rfl ⟨rfl, Below.row HT.out.2 (by omega) _⟩
  · have h1 : ¬ most < 0 := by omega
    go_enter Try.func36, Try.ntmps36
    go_wp2_with (first | (refine wpList_store_row rfl 30 _ _ rfl (w.heap.size + 3) ranZc rfl rfl 30 ranZc HT.out.1 (by kernel_rfl) rfl ranZ_one ?_))
    exact bodyPost_ret (results_3 rfl _ _ (w.heap.size + 3) 30 ranZc (0, 0) _ rfl (HT.out.1.row _) Try.underlying30 rfl (by kernel_rfl)) rfl ⟨rfl, Below.row HT.out.2 (by omega) _⟩
theorem goA_fine' {cd inp : List Int} {nI : Nat} (hn : inp.length = nI) (hby : ∀ x ∈ inp, 0 ≤ x ∧ x < 256) : ∀ (n : Nat) (s : St), Fine nI s → Fine nI (goA cd inp n s)
  | 0, s, h => h
  | n + 1, s, h => by
    unfold goA; split
    · exact goA_fine' hn hby n _ (tick_fine hn hby s h)
    · exact tick_fine hn hby s h
/-- What a trace gives. -/
def TraceR (E1 : Int) (F : St) (cd : List Int) (G : List (Int × St)) (w : World) (e : Ending) (w' : World) : Prop :=
  (E1 ≠ 0 ∧ e = .returned (.tuple #[.slice none 0 0, ranZ, .int .i64 E1]) ∧ Below w.heap.size w w') ∨
  (E1 = 0 ∧ ∃ lv ov mv, e = .returned (.tuple #[lv, ranV F ov mv, .int .i64 0]) ∧ w'.ownsRow w.heap.size 5 1 ov F.out.length (F.out.map (Value.int .u8)) ∧ w'.ownsRow w.heap.size 3 1 mv (top F.mem MS) ((left F.mem).map (Value.int .i64)) ∧ w'.ownsRow w.heap.size 80 17 lv G.length (shR cd G) ∧ F.out.length ≤ 65536 ∧ G.length ≤ 10000 ∧ Below w.heap.size w w')
theorem trace_ok (cv iv mv : Value) (nC nI mn : Nat) (r0 r1 r2 r3 r4 r5 r6 r7 pc fuel most : Int) (c z n v : Bool) (cd inp ms : List Int) (w : World)
    (hc : Rd w 1 cv nC (cd.map (Value.int .i64))) (hi : Rd w 1 iv nI (inp.map (Value.int .u8))) (hm : Rd w 1 mv mn (ms.map (Value.int .i64))) (hby : ∀ x ∈ inp, 0 ≤ x ∧ x < 256) :
    Calls Try.prog 36 #[cv, stV r0 r1 r2 r3 r4 r5 r6 r7 c z n v pc mv, iv, .int .i64 fuel, .int .i64 most] w (TraceR (if most < 0 ∨ most > 10000 then 3 else Mc.wary nC nI (Mc.wr [r0, r1, r2, r3, r4, r5, r6, r7] pc ms) fuel) (Mc.ends cd inp fuel r0 r1 r2 r3 r4 r5 r6 r7 c z n v pc ms) cd ((trL cd inp fuel.toNat (Mc.begin (reg8 r0 r1 r2 r3 r4 r5 r6 r7) c z n v pc ms)).take most.toNat) w) := by
  obtain ⟨_, hmC, ca, cc, rfl, _, _⟩ := hc.ints
  obtain ⟨_, hmI, ia, ic, rfl, _, _⟩ := hi.ints
  obtain ⟨hml, hmM, ma, mc, rfl, _, _⟩ := hm.ints
  by_cases hr : most < 0 ∨ most > 10000
  · rw [if_pos hr]
    refine (trace_range ca ia ma nC cc nI ic mn mc r0 r1 r2 r3 r4 r5 r6 r7 pc fuel most c z n v w hr).mono ?_
    rintro e w' ⟨he, hb⟩
    exact .inl ⟨by decide, he, hb⟩
  rw [if_neg hr]
  have hmo0 : 0 ≤ most := by omega
  have hmo1 : most ≤ 10000 := by omega
  have hw : ∀ w0 : World, Below w.heap.size w w0 → ∀ w1 : World, Below w0.heap.size w0 w1 → Calls Try.prog 61 #[.slice ca nC cc, stV r0 r1 r2 r3 r4 r5 r6 r7 c z n v pc (.slice ma mn mc), .slice ia nI ic, .int .i64 fuel] w1 fun e w' => e = .returned (.int .i64 (Mc.wary nC nI (Mc.wr [r0, r1, r2, r3, r4, r5, r6, r7] pc ms) fuel)) ∧ Below w1.heap.size w1 w' := fun w0 hb0 w1 hb =>
    wary_ok _ _ nC nI ca ia cc ic rfl rfl (by unfold maxLen at hmC; omega) (by unfold maxLen at hmI; omega) r0 r1 r2 r3 r4 r5 r6 r7 pc fuel c z n v _ mn ms w1 (hm.below (Ext.trans hb0 hb))
  by_cases h0 : Mc.wary nC nI (Mc.wr [r0, r1, r2, r3, r4, r5, r6, r7] pc ms) fuel = 0
  · obtain ⟨h1, h2, h3, h4, h5, h6, h7⟩ := wary_zero h0
    rw [h0] at hw ⊢
    have hE : ∀ (g : List (Int × St)) (x : Int), (envT cd most).sB g x = false ∧ (envT cd most).sG g x = g := fun _ _ => ⟨rfl, rfl⟩
    have hFe : (go (envT cd most) cd inp fuel.toNat (Mc.begin (reg8 r0 r1 r2 r3 r4 r5 r6 r7) c z n v pc ms) []).1 = Mc.ends cd inp fuel r0 r1 r2 r3 r4 r5 r6 r7 c z n v pc ms := by
      rw [go_dG _ hE]; unfold Mc.ends; rw [go_alone _ (fun _ _ => rfl)]
    have hGe : (go (envT cd most) cd inp fuel.toNat (Mc.begin (reg8 r0 r1 r2 r3 r4 r5 r6 r7) c z n v pc ms) []).2 = (trL cd inp fuel.toNat (Mc.begin (reg8 r0 r1 r2 r3 r4 r5 r6 r7) c z n v pc ms)).take most.toNat := by
      rw [go_tr cd inp most hmo0]; simp
    have hFG : (Mc.ends cd inp fuel r0 r1 r2 r3 r4 r5 r6 r7 c z n v pc ms, (trL cd inp fuel.toNat (Mc.begin (reg8 r0 r1 r2 r3 r4 r5 r6 r7) c z n v pc ms)).take most.toNat) = go (envT cd most) cd inp fuel.toNat (Mc.begin (reg8 r0 r1 r2 r3 r4 r5 r6 r7) c z n v pc ms) [] := by rw [← hFe, ← hGe]
    generalize Mc.ends cd inp fuel r0 r1 r2 r3 r4 r5 r6 r7 c z n v pc ms = F at hFG ⊢
    generalize hG : (trL cd inp fuel.toNat (Mc.begin (reg8 r0 r1 r2 r3 r4 r5 r6 r7) c z n v pc ms)).take most.toNat = G at hFG ⊢
    have hGl : G.length ≤ 10000 := by rw [← hG, List.length_take]; omega
    clear hFe hGe hG
    refine (trace_run ca ia ma nC cc nI ic mn mc r0 r1 r2 r3 r4 r5 r6 r7 pc fuel most c z n v cd G F w hmo0 hmo1 ?_).mono ?_
    · intro wW hs hb q1 q2 q3 q4
      have a1 : w.heap.size < wW.heap.size := by omega
      have a2 : w.heap.size + 2 < wW.heap.size := by omega
      have a3 : w.heap.size + 4 < wW.heap.size := by omega
      have hRd : ∀ (xv : Value) (m : Nat) (cs : List Value), Rd w 1 xv m cs → ∀ wx, Bel wW.heap.size (fun b => b = w.heap.size + 4) wW wx → RdB wx w.heap.size xv m cs := fun xv m cs hx wx hbx =>
        ((RdB.of hx).below hb).heap (fun b hbb => hbx.block b (by omega) (fun (k : b = w.heap.size + 4) => by omega))
      refine (watchT_run (E := envT cd most) (l0 := fun b => b = w.heap.size + 4) #[pz w.heap.size, pz (w.heap.size + 4), pz (w.heap.size + 2)] ca ia ma nC cc nI ic mn mc r0 r1 r2 r3 r4 r5 r6 r7 pc fuel c z n v cd inp ms wW
        (eyT cd most w.heap.size (w.heap.size + 4) (w.heap.size + 2) wW.heap.size w.heap.size (.slice ca nC cc) nC a1 a2 a3 (Nat.le_refl _) (by omega) (by omega)) [] (fun _ _ => True) trivial (fun _ _ _ => trivial) hE
        (doneT cd inp most hmo1 _ _ _ _ _ _ nC (by omega) _ _ _ _ _ _) ?_ (hw wW hb) (fun wx hbx => (hRd _ _ _ hc wx hbx).up (by omega)) (fun wx hbx => (hRd _ _ _ hi wx hbx).up (by omega)) (hm.below hb) h1 h2 (by omega) hby h4 (begin_fine h5 h6 h7) F G hFG).mono ?_
      · exact ⟨q1, q2, hRd _ _ _ hc wW (Bel.refl _ _ _), _, q4, World.ownsRow_nil _ _ _ _, fun b => ⟨fun h => .inl h, fun h => by rcases h with h | h; exact h; cases h⟩, Nat.zero_le _⟩
      · rintro e w' ⟨ov, mv, l, he, p1, p2, p3, ⟨k1, k2, k3, lv, k4, k5, k6, k7⟩, p5, p6⟩
        obtain ⟨oa, oc, rfl, _⟩ := own_slice p1
        obtain ⟨xa, xc, rfl, _⟩ := own_slice p2
        obtain ⟨la, lc, rfl, _⟩ := own_slice k5
        rw [hs] at p1 p2 k5
        exact ⟨oa, oc, xa, xc, la, lc, he, p1, p2, p3, k4, k5, q3.bel p6 (by omega) (fun (k : w.heap.size + 3 = w.heap.size + 4) => by omega), hb.trans (p6.mono (by omega) (l' := fun _ => False) (fun b hbb (k : b = w.heap.size + 4) => by omega)).below⟩
    · rintro e w' ⟨lv, ov, mv, he, p1, p2, p3, p4⟩
      have hlen : Fine nI F := by
        have := goA_fine' (cd := cd) (by have := hi.1; simpa using this) hby fuel.toNat _ (begin_fine (nI := nI) (c := c) (z := z) (n := n) (v := v) h5 h6 h7)
        rw [← go_dG _ hE cd inp fuel.toNat _ [], ← hFG] at this; exact this
      exact .inr ⟨rfl, lv, ov, mv, he, p1, p2, p3, hlen.2.1, hGl, p4⟩
  · refine (trace_wrong ca ia ma nC cc nI ic mn mc r0 r1 r2 r3 r4 r5 r6 r7 pc fuel most _ c z n v w hmo0 hmo1 h0 (fun wW hb => watch_wrong _ _ _ h0 r0 r1 r2 r3 r4 r5 r6 r7 pc fuel c z n v _ .nilFunc _ wW (hw wW hb) ⟨_, _, _, rfl⟩)).mono ?_
    rintro e w' ⟨he, hb⟩
    exact .inl ⟨h0, he, hb⟩
end Go.Proofs.Ytfjgnhmmakeaeaa
