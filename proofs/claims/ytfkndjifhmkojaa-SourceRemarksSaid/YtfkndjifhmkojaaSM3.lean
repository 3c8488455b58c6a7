/- Walk of ref8.Same where both lie alike. No condition. -/
import Derived.Test.YtfkndjifhmkojaaPt2
import Derived.Test.YtfkndjifhmkojaaSMA
namespace Go.Proofs.Ytfkndjifhmkojaa
open Go.RowKit
set_option linter.unusedVariables false
set_option linter.unusedSimpArgs false
set_option maxRecDepth 100000
theorem gl_size {n : Nat} (h : n = 5) : (Try.prog.info? 41).map (·.size) = some n := by subst h; kernel_rfl
theorem fn_size {n : Nat} (h : n = 5) : (Try.prog.info? 45).map (·.size) = some n := by subst h; kernel_rfl
theorem blk_turnG {w : World} {T : TypeId} {n g8 t B : Nat} {v : Value} {z8 zs : Array Value} {cs : List Value} (h8 : Blk w g8 T z8) (hc : cs.length = n) (e : v = Value.pointer (some ⟨t, 0, none⟩)) (hl : B ≤ t) (hz : zs.size = n) (hb : Blk w t T zs) :
    ∃ g, v = Value.pointer (some ⟨g, 0, none⟩) ∧ B ≤ g ∧ ∃ zs : Array Value, zs.size = n ∧ Blk (w.setRow g8 cs.toArray) g T zs := by
  refine ⟨t, e, hl, ?_⟩
  by_cases h : t = g8
  · subst h; exact ⟨cs.toArray, by simpa using hc, setRow_heap _ _ _ _ _ _ h8⟩
  · exact ⟨zs, hz, (setRow_other _ _ _ _ h).trans hb⟩
section
variable {α : Type} {w : World} {p : Nat → Prop} {z : Nat} {At : α → List Value → Prop} {l : List α}
theorem Row.at' {a : Option Addr} {L c i : Nat} {y : α} (h : Row w p z At l (.slice a L c)) (hy : l[i]? = some y) : ∃ g off cs, a = some ⟨g, off, none⟩ ∧ At y cs ∧ ∀ j u, cs[j]? = some u → w.cell? ⟨g, off + i * z + j, none⟩ = some u := by
  obtain ⟨a2, c2, e, _, _, h⟩ := h.parts
  injection e with e1 e2 e3
  subst e1
  obtain ⟨g, off, cs, _, ha, hx, hc⟩ := h i y hy
  exact ⟨g, off, cs, ha, hx, hc⟩
theorem Row.sl {v : Value} (h : Row w p z At l v) : ∃ a c, v = .slice a l.length c ∧ l.length ≤ c ∧ c ≤ maxLen := by obtain ⟨a, c, e, h1, h2, _⟩ := h.parts; exact ⟨a, c, e, h1, h2⟩
theorem Row.one' {v : Value} (h : Row w p z At l v) : v.oneCell' = true := by obtain ⟨a, c, rfl, _⟩ := h.sl; rfl
end
theorem GlIn.five {w : World} {p : Nat → Prop} {x : Gl} {cs : List Value} (h : GlIn w p x cs) : cs.length = 5 ∧ cs.toArray.all (·.oneCell') = true := by
  obtain ⟨v, rfl, h⟩ := h
  obtain ⟨_, _, rfl, _⟩ := h.sl
  exact ⟨rfl, by simp [Value.oneCell']⟩
theorem FnIn.five {w : World} {p : Nat → Prop} {x : Fn} {cs : List Value} (h : FnIn w p x cs) : cs.length = 5 ∧ cs.toArray.all (·.oneCell') = true := by
  obtain ⟨v, u, rfl, h, h2⟩ := h
  obtain ⟨_, _, rfl, _⟩ := h2.parts
  obtain ⟨_, _, rfl, _⟩ := h.sl
  exact ⟨rfl, by simp [Value.oneCell']⟩
set_option maxHeartbeats 32000000 in
theorem psame_ok (x : Pg) (w : World) (v0 v1 u0 u1 : Value) (h1 : PgIn w (fun _ => True) x v0 v1) (h2 : PgIn w (fun _ => True) x u0 u1) : Calls Try.prog 8 #[.agg #[v0, v1], .agg #[u0, u1]] w (SmR w) := by
  obtain ⟨a0, c0, rfl, hl0, hm0⟩ := h1.1.sl
  obtain ⟨a1, c1, rfl, hl1, hm1⟩ := h1.2.sl
  obtain ⟨b0, d0, rfl, hk0, hn0⟩ := h2.1.sl
  obtain ⟨b1, d1, rfl, hk1, hn1⟩ := h2.2.sl
  have HX := Lib.hid h1
  have HY := Lib.hid h2
  obtain ⟨G, hG⟩ : ∃ G, x.gs.length = G := ⟨_, rfl⟩
  obtain ⟨F, hF⟩ : ∃ F, x.fs.length = F := ⟨_, rfl⟩
  rw [hG] at hl0 hk0 HX HY ⊢
  rw [hF] at hl1 hk1 HX HY ⊢
  have HG := Lib.hid hG
  have HFL := Lib.hid hF
  have hG9 : (G : Int) ≤ 9223372036854775807 := by unfold maxLen at hm0; omega
  have hF9 : (F : Int) ≤ 9223372036854775807 := by unfold maxLen at hm1; omega
  obtain ⟨r1, hr1⟩ : ∃ r1 : Array Value, r1 = #[.slice a0 G c0, .slice a1 F c1] := ⟨_, rfl⟩
  obtain ⟨r2, hr2⟩ : ∃ r2 : Array Value, r2 = #[.slice b0 G d0, .slice b1 F d1] := ⟨_, rfl⟩
  rw [← hr1, ← hr2]
  obtain ⟨w2, hw2⟩ : ∃ w2, w2 = (w.alloc (.cells r1 26)).alloc (.cells r2 26) := ⟨_, rfl⟩
  have HS2 : Hid (Below w.heap.size w w2 ∧ Blk w2 w.heap.size 26 #[.slice a0 G c0, .slice a1 F c1] ∧ Blk w2 (w.heap.size + 1) 26 #[.slice b0 G d0, .slice b1 F d1]) := by
    rw [← hr1, ← hr2]
    have h1 : Blk (w.alloc (.cells r1 26)) w.heap.size 26 r1 := Blk.new _ _ _
    have h2 := Blk.new (w.alloc (.cells r1 26)) 26 r2
    have hs : (w.alloc (.cells r1 26)).heap.size = w.heap.size + 1 := by show (w.heap.push _).size = _; simp
    rw [hs] at h2
    refine ⟨?_, ?_, ?_⟩
    · rw [hw2]; exact Ext.alloc (Ext.alloc (Below.refl _ _) _) _
    · rw [hw2]; exact h1.alloc _
    · rw [hw2]; exact h2
  have HW2 := Lib.hid hw2
  have HBX : Hid (∀ wi, Below w2.heap.size w2 wi → wi.cell? ⟨w.heap.size, 0, none⟩ = some (.slice a0 G c0) ∧ wi.cell? ⟨w.heap.size, 1, none⟩ = some (.slice a1 F c1)) := fun wi hw => ⟨(HS2.out.2.1.keep hw).cell 0, (HS2.out.2.1.keep hw).cell 1⟩
  have HBY : Hid (∀ wi, Below w2.heap.size w2 wi → wi.cell? ⟨w.heap.size + 1, 0, none⟩ = some (.slice b0 G d0) ∧ wi.cell? ⟨w.heap.size + 1, 1, none⟩ = some (.slice b1 F d1)) := fun wi hw => ⟨(HS2.out.2.2.keep hw).cell 0, (HS2.out.2.2.keep hw).cell 1⟩
  clear h1 h2 hr1 hr2 hw2 hG hF
  go_enter Try.func8, Try.ntmps8
  go_upto_region 1 with (fail)
  rw [← HW2.out]
  obtain ⟨k1, k3⟩ := HBX.out _ (Below.refl _ _)
  obtain ⟨k2, k4⟩ := HBY.out _ (Below.refl _ _)
  go_upto_region 4 with (fail)
  clear k1 k2 k3 k4
  go_loopw [32] (fun i wr => ∃ j : Nat, j ≤ G ∧ i = .int .i64 (j : Int) ∧ Hid (Below w2.heap.size w2 wr)) (fun i wr => G - (intOf i).toNat)
  case atStart => exact ⟨0, Nat.zero_le _, rfl, Below.refl _ _⟩
  case round =>
    obtain ⟨j, hj, rfl, HR⟩ := hrel
    obtain ⟨W0, hW0⟩ : ∃ W0, W0 = wr := ⟨_, rfl⟩
    rw [← hW0] at HR ⊢
    clear hW0
    have HXW := Lib.hid (HX.out.keep (Ext.trans HS2.out.1 HR.out))
    have HYW := Lib.hid (HY.out.keep (Ext.trans HS2.out.1 HR.out))
    by_cases hlt : j < G
    · obtain ⟨y, hy⟩ : ∃ y, x.gs[j]? = some y := ⟨_, List.getElem?_eq_getElem (by rw [HG.out]; exact hlt)⟩
      obtain ⟨ga, oa, cs, hae, hcs, kcs⟩ := HXW.out.1.at' hy
      obtain ⟨gb, ob, ds, hbe, hds, kds⟩ := HYW.out.1.at' hy
      subst hae; subst hbe
      have HCS : Hid (∀ wi, Below W0.heap.size W0 wi → ∀ i u, cs[i]? = some u → wi.cell? ⟨ga, oa + j * 5 + i, none⟩ = some u) := fun wi hw i u hu => cell_keep hw (kcs i u hu)
      have HDS : Hid (∀ wi, Below W0.heap.size W0 wi → ∀ i u, ds[i]? = some u → wi.cell? ⟨gb, ob + j * 5 + i, none⟩ = some u) := fun wi hw i u hu => cell_keep hw (kds i u hu)
      have HC5 := Lib.hid hcs.five.1
      have HD5 := Lib.hid hds.five.1
      have HC1 := Lib.hid hcs.five.2
      have HD1 := Lib.hid hds.five.2
      have HCI := Lib.hid hcs
      have HDI := Lib.hid hds
      have HLT := Lib.hid hlt
      have HBX0 := HBX
      have HBY0 := HBY
      replace HBX := Lib.hid (fun wi (hw : Below W0.heap.size W0 wi) => (HBX0.out wi (Ext.trans HR.out hw)).1)
      replace HBY := Lib.hid (fun wi (hw : Below W0.heap.size W0 wi) => (HBY0.out wi (Ext.trans HR.out hw)).1)
      clear kcs kds hcs hds hy
      go_upto_region 6 with (fail)
      apply Iy.wp_region 13 [12] (fun n => if n = 0 then [] else [10]) (Ix.Rb) (fun n vs wi => Hid (Below W0.heap.size W0 wi) ∧ (match n with | 0 => True | _ + 1 => ∀ g, vs 10 = Value.pointer (some ⟨g, 0, none⟩) → Blk wi g 41 cs.toArray)) (Ix.vk [(Ix.kis _), (Ix.kis _), (Ix.kis _), (Ix.kis _), (Ix.kis (.agg cs.toArray)), (Ix.kis _), (Ix.kis _), (Ix.kis _), (Ix.kis _), (Ix.kis (.agg ds.toArray)), (Ix.kwld (fun v w' => ∃ g, v = Value.pointer (some ⟨g, 0, none⟩) ∧ W0.heap.size ≤ g ∧ ∃ zs : Array Value, zs.size = 5 ∧ Blk w' g 41 zs) (fun v w1 w2 h hb => by obtain ⟨g, e, hl, zs, hz, hi⟩ := h; exact ⟨g, e, hl, zs, hz, hi.keep hb⟩)), (Ix.kwld (fun v w' => ∃ g, v = Value.pointer (some ⟨g, 0, none⟩) ∧ W0.heap.size ≤ g ∧ ∃ zs : Array Value, zs.size = 5 ∧ Blk w' g 41 zs) (fun v w1 w2 h hb => by obtain ⟨g, e, hl, zs, hz, hi⟩ := h; exact ⟨g, e, hl, zs, hz, hi.keep hb⟩)), (Ix.ksat (fun _ => True))]) (fun k => k == 10 || k == 11) (by kernel_rfl) (by kernel_rfl) (by kernel_rfl) (by kernel_rfl) (by kernel_rfl) (fun n vs vs' w hk h => by cases n with | zero => exact h | succ n => exact ⟨h.1, fun g e => h.2 g ((hk 10 (by simp)).trans e)⟩) (fun _ => Below.refl _ _) (fun n vs _ _ h hb => ⟨Ext.trans h.1.out hb, by cases n with | zero => trivial | succ n => exact fun g e => (h.2 g e).keep hb⟩) (Ix.vk_keeps _) (fun j v w hj hv => by simp only [Bool.or_eq_true, beq_iff_eq] at hj; rcases hj with rfl | rfl <;> (obtain ⟨g, e, _, _, _, hg⟩ := hv; exact ⟨g, e, hg.lt⟩)) (fun vs => ⟨Ext.drew (Below.refl _ _), trivial⟩)
      case step =>
        refine zys 12 0 1 [] (fun _ _ wi HB => ?_) <| zys 11 1 2 [(0, some 35)] (fun _ _ wi HB => ?_) <| zys 10 2 3 [] (fun _ _ wi HB => ?_) <| zys 9 3 4 [(1, some 36), (2, some 37)] (fun _ _ wi HB => ?_) <| zys 8 4 5 [(3, some 38)] (fun _ _ wi HB => ?_) <| zys 7 5 6 [] (fun _ _ wi HB => ?_) <| zys 6 6 7 [(5, some 40)] (fun _ _ wi HB => ?_) <| zys 5 7 8 [] (fun _ _ wi HB => ?_) <| zys 4 8 9 [(6, some 41), (7, some 42)] (fun _ _ wi HB => ?_) <| zys 3 9 10 [(8, some 43)] (fun _ _ wi HB => ?_) <| zys 2 10 11 [] (fun _ _ wi HB => ?_) <| zys 1 11 12 [] (fun _ _ wi HB => ?_) <| zyc 0 12 13 0 [(4, some 39), (10, some 6)] (fun vsp wi HB => ?_) <| Iy.steps_nil
        (· ((repeat (refine zya ?_; rintro _ rfl)); refine zye ?_; (try simp only [zyp]); refine Iy.goI_yes rfl rfl fun K hK => ?_; (try simp only [zyp] at hK); go_wp2_with (first | fail); exact hK _ _ (Below.refl _ _) rfl))
        (· (obtain ⟨HBB, _⟩ := HB; have k1 := HBX.out _ HBB.out; have k2 := HBY.out _ HBB.out; (repeat (refine zya ?_; rintro _ rfl)); refine zye ?_; (try simp only [zyp]); refine Iy.goI_yes rfl rfl fun K hK => ?_; (try simp only [zyp] at hK); go_wp2_with (first | fail); exact hK _ _ (Below.refl _ _) rfl))
        iterate 2 (· ((repeat (refine zya ?_; rintro _ rfl)); refine zye ?_; (try simp only [zyp]); refine Iy.goI_yes rfl rfl fun K hK => ?_; (try simp only [zyp] at hK); go_wp2_with (first | fail); exact hK _ _ (Below.refl _ _) rfl))
        (· (obtain ⟨HBB, _⟩ := HB; have k1 := HBX.out _ HBB.out; have k2 := HBY.out _ HBB.out; (repeat (refine zya ?_; rintro _ rfl)); refine zye ?_; (try simp only [zyp]); refine Iy.goI_yes rfl rfl fun K hK => ?_; (try simp only [zyp] at hK); refine wpO_load_at 41 _ rfl ga (oa + j * 5) rfl cs _ (HCS.out _ HBB.out) Try.underlying41 rfl (gl_size HC5.out) ?_; exact hK _ _ (Below.refl _ _) rfl))
        (· ((repeat (refine zya ?_; rintro _ rfl)); refine zye ?_; (try simp only [zyp]); refine Iy.goI_yes rfl rfl fun K hK => ?_; (try simp only [zyp] at hK); go_wp2_with (first | fail); exact hK _ _ (Below.refl _ _) rfl))
        (· (obtain ⟨HBB, _⟩ := HB; have k1 := HBX.out _ HBB.out; have k2 := HBY.out _ HBB.out; (repeat (refine zya ?_; rintro _ rfl)); refine zye ?_; (try simp only [zyp]); refine Iy.goI_yes rfl rfl fun K hK => ?_; (try simp only [zyp] at hK); go_wp2_with (first | fail); exact hK _ _ (Below.refl _ _) rfl))
        iterate 2 (· ((repeat (refine zya ?_; rintro _ rfl)); refine zye ?_; (try simp only [zyp]); refine Iy.goI_yes rfl rfl fun K hK => ?_; (try simp only [zyp] at hK); go_wp2_with (first | fail); exact hK _ _ (Below.refl _ _) rfl))
        (· (obtain ⟨HBB, _⟩ := HB; have k1 := HBX.out _ HBB.out; have k2 := HBY.out _ HBB.out; (repeat (refine zya ?_; rintro _ rfl)); refine zye ?_; (try simp only [zyp]); refine Iy.goI_yes rfl rfl fun K hK => ?_; (try simp only [zyp] at hK); refine wpO_load_at 41 _ rfl gb (ob + j * 5) rfl ds _ (HDS.out _ HBB.out) Try.underlying41 rfl (gl_size HD5.out) ?_; exact hK _ _ (Below.refl _ _) rfl))
        iterate 2 (· (obtain ⟨HBB, _⟩ := HB; have k1 := HBX.out _ HBB.out; have k2 := HBY.out _ HBB.out; (repeat (refine zya ?_; rintro _ rfl)); refine zye ?_; (try simp only [zyp]); refine Iy.goI_new rfl fun K hK => ?_; (try simp only [zyp] at hK); go_wp2_with (first | fail); exact hK _ (Ext.alloc (Below.refl _ _) _) ⟨_, rfl, HBB.out.size, _, rfl, Blk.new _ _ _⟩))
        (· (obtain ⟨HBB, _⟩ := HB; refine zya ?_; rintro _ ⟨rfl, ev4⟩; refine zya ?_; rintro _ ⟨⟨g8, rfl, hl8, z8, hz8, hg8⟩, ev10⟩; refine zye ?_; (try simp only [zyp]); refine Iy.goI_yes rfl rfl fun K hK => ?_; (try simp only [zyp] at hK); refine wp_store_row 41 _ _ rfl g8 cs.toArray rfl rfl 41 z8 hg8 (gl_size HC5.out) (hz8.trans HC5.out.symm) HC1.out ?_; exact hK undef _ ⟨⟨Below.setR' HBB.out hl8 _, fun g e => (by rw [ev10] at e; injection e with e; injection e with e; injection e with e; subst e; exact setRow_heap _ _ _ _ _ _ hg8)⟩, Iy.vk_turn (by repeat (first | exact True.intro | refine And.intro (fun _ h => h) ?_ | refine And.intro (fun hne => absurd rfl hne) ?_ | refine And.intro (fun _ h => (by obtain ⟨t9, e9, h9, z9, hz9, h10⟩ := h; exact blk_turnG hg8 HC5.out e9 h9 hz9 h10)) ?_))⟩ trivial))
      intro vsf wf HF hdf
      refine zyv 12 0 1 ?_; rintro _ _ rfl; refine zyv 11 1 2 ?_; rintro _ _ rfl; refine zyv 10 2 3 ?_; rintro _ _ rfl; refine zyv 9 3 4 ?_; rintro _ _ rfl; refine zyv 8 4 5 ?_; rintro _ _ rfl; refine zyv 7 5 6 ?_; rintro _ _ rfl; refine zyv 6 6 7 ?_; rintro _ _ rfl; refine zyv 5 7 8 ?_; rintro _ _ rfl; refine zyv 4 8 9 ?_; rintro _ _ rfl; refine zyv 3 9 10 ?_; rintro _ _ rfl; refine zyv 2 10 11 ?_; rintro _ ev10 ⟨g8, rfl, hl8, z8, hz8, hg8⟩; refine zyv 1 11 12 ?_; rintro _ ev11 ⟨g9, rfl, hl9, z9, hz9, hg9⟩; refine zyv 0 12 13 ?_; rintro _ _ _
      refine Ix.allV_nil ?_
      obtain ⟨HFB, hf8⟩ := HF; have hg8' := hf8 _ ev10; have hne : g8 ≠ g9 := fun e => hdf 10 11 (by decide) (by decide) rfl rfl (by decide) (by rw [ev10, ev11, e])
      (try simp only [Act.put, List.setIfInBounds_toArray, List.set_cons_zero, List.set_cons_succ, List.drop_succ_cons, List.drop_zero])
      go_wp2_with (first | (refine wpList_store_row rfl 41 _ _ rfl g9 ds.toArray rfl rfl 41 z9 hg9 (gl_size HD5.out) (hz9.trans HD5.out.symm) HD1.out ?_; generalize hw7 : World.setRow _ _ _ = w7))
      all_goals (first | refine Ix.only ?_ | (refine Ix.onlyP fun tz => ?_))
      have HS7 : Hid (Below W0.heap.size W0 w7 ∧ Blk w7 g8 41 cs.toArray ∧ Blk w7 g9 41 ds.toArray) := by
        show _ ∧ _ ∧ _
        rw [← hw7]
        exact ⟨Below.setR' HFB.out hl9 _, (setRow_other _ _ _ _ hne).trans hg8', setRow_heap _ _ _ _ _ _ hg9⟩
      clear hw7 hg8 hg9 hg8' hf8 hdf hz8 hz9 HCS HDS HC5 HD5 HC1 HD1
      obtain ⟨vv, e1, hx⟩ := HCI.out
      obtain ⟨uu, e2, hx'⟩ := HDI.out
      obtain ⟨va, vc, rfl, hvl, hvm⟩ := hx.sl
      obtain ⟨ua, uc, rfl, hul, hum⟩ := hx'.sl
      clear HCI HDI
      subst e1; subst e2
      obtain ⟨I, hI⟩ : ∃ I, y.ini.length = I := ⟨_, rfl⟩
      rw [hI] at hx hx' hvl hul HS7
      have H8 : Hid (∀ wi, Below w7.heap.size w7 wi → Blk wi g8 41 #[.int .i64 y.b, .bool y.s, .string y.nm, .int .i64 y.size, .slice va I vc]) := fun wi hw => (show Blk w7 g8 41 #[.int .i64 y.b, .bool y.s, .string y.nm, .int .i64 y.size, .slice va I vc] from HS7.out.2.1).keep hw
      have H9 : Hid (∀ wi, Below w7.heap.size w7 wi → Blk wi g9 41 #[.int .i64 y.b, .bool y.s, .string y.nm, .int .i64 y.size, .slice ua I uc]) := fun wi hw => (show Blk w7 g9 41 #[.int .i64 y.b, .bool y.s, .string y.nm, .int .i64 y.size, .slice ua I uc] from HS7.out.2.2).keep hw
      have HB7 := Lib.hid HS7.out.1
      have HXI := Lib.hid hx
      have HYI := Lib.hid hx'
      have HI := Lib.hid hI
      have hI9 : (I : Int) ≤ 9223372036854775807 := by unfold maxLen at hvm; omega
      clear HS7 hx hx' hI
      have p0 := (H8.out _ (Below.refl _ _)).cell 0; have p1 := (H8.out _ (Below.refl _ _)).cell 1; have p2 := (H8.out _ (Below.refl _ _)).cell 2; have p3 := (H8.out _ (Below.refl _ _)).cell 3; have p4 := (H8.out _ (Below.refl _ _)).cell 4
      have q0 := (H9.out _ (Below.refl _ _)).cell 0; have q1 := (H9.out _ (Below.refl _ _)).cell 1; have q2 := (H9.out _ (Below.refl _ _)).cell 2; have q3 := (H9.out _ (Below.refl _ _)).cell 3; have q4 := (H9.out _ (Below.refl _ _)).cell 4
      go_upto_region 10 with (fail)
      clear p0 p1 p2 p3 p4 q0 q1 q2 q3 q4
      go_loopw [76] (fun i wr => ∃ k : Nat, k ≤ I ∧ i = .int .i64 (k : Int) ∧ Hid (Below w7.heap.size w7 wr)) (fun i wr => I - (intOf i).toNat)
      case atStart => exact ⟨0, Nat.zero_le _, rfl, Below.refl _ _⟩
      case round =>
        obtain ⟨k, hk, rfl, HRI⟩ := hrel
        by_cases hlt2 : k < I
        · obtain ⟨t, ht⟩ : ∃ t, y.ini[k]? = some t := ⟨_, List.getElem?_eq_getElem (by rw [HI.out]; exact hlt2)⟩
          obtain ⟨gx, ox, xs, hxe, hxs, kxs⟩ := HXI.out.at' ht
          obtain ⟨gy, oy, ys, hye, hys, kys⟩ := HYI.out.at' ht
          subst hxe; subst hye
          obtain ⟨xa, xc, rfl, _⟩ := hxs.at.open
          obtain ⟨ya, yc, rfl, _⟩ := hys.at.open
          have HWT : Hid (∀ wi, Below wr.heap.size wr wi → Below W0.heap.size W0 wi) := fun wi hw => Ext.trans HB7.out (Ext.trans HRI.out hw)
          have HKA : Hid (∀ wi, Below wr.heap.size wr wi → wi.cell? ⟨gx, ox + k * 6, none⟩ = some (.int .i64 t.kind) ∧ wi.cell? ⟨gx, ox + k * 6 + 1, none⟩ = some (.int .u64 t.num) ∧ wi.cell? ⟨gx, ox + k * 6 + 2, none⟩ = some (.int .i64 t.bits) ∧ wi.cell? ⟨gx, ox + k * 6 + 3, none⟩ = some (.bool t.sg) ∧ wi.cell? ⟨gx, ox + k * 6 + 4, none⟩ = some (.string t.name) ∧ wi.cell? ⟨gx, ox + k * 6 + 5, none⟩ = some (.slice xa t.kids.length xc)) := fun wi hw => ⟨cell_keep (HWT.out wi hw) (kxs 0 _ rfl), cell_keep (HWT.out wi hw) (kxs 1 _ rfl), cell_keep (HWT.out wi hw) (kxs 2 _ rfl), cell_keep (HWT.out wi hw) (kxs 3 _ rfl), cell_keep (HWT.out wi hw) (kxs 4 _ rfl), cell_keep (HWT.out wi hw) (kxs 5 _ rfl)⟩
          have HKB : Hid (∀ wi, Below wr.heap.size wr wi → wi.cell? ⟨gy, oy + k * 6, none⟩ = some (.int .i64 t.kind) ∧ wi.cell? ⟨gy, oy + k * 6 + 1, none⟩ = some (.int .u64 t.num) ∧ wi.cell? ⟨gy, oy + k * 6 + 2, none⟩ = some (.int .i64 t.bits) ∧ wi.cell? ⟨gy, oy + k * 6 + 3, none⟩ = some (.bool t.sg) ∧ wi.cell? ⟨gy, oy + k * 6 + 4, none⟩ = some (.string t.name) ∧ wi.cell? ⟨gy, oy + k * 6 + 5, none⟩ = some (.slice ya t.kids.length yc)) := fun wi hw => ⟨cell_keep (HWT.out wi hw) (kys 0 _ rfl), cell_keep (HWT.out wi hw) (kys 1 _ rfl), cell_keep (HWT.out wi hw) (kys 2 _ rfl), cell_keep (HWT.out wi hw) (kys 3 _ rfl), cell_keep (HWT.out wi hw) (kys 4 _ rfl), cell_keep (HWT.out wi hw) (kys 5 _ rfl)⟩
          have HX5 : Hid (∀ wi, Below wr.heap.size wr wi → wi.cell? ⟨g8, 4, none⟩ = some (.slice (some ⟨gx, ox, none⟩) I vc) ∧ wi.cell? ⟨g9, 4, none⟩ = some (.slice (some ⟨gy, oy, none⟩) I uc)) := fun wi hw => ⟨(H8.out _ (Ext.trans HRI.out hw)).cell 4, (H9.out _ (Ext.trans HRI.out hw)).cell 4⟩
          have HC : Hid (∀ wi, Below wr.heap.size wr wi → Calls Try.prog 26 #[.agg (xrowS t.kind t.num t.bits t.sg t.name (.slice xa t.kids.length xc)), .agg (xrowS t.kind t.num t.bits t.sg t.name (.slice ya t.kids.length yc))] wi (SmR wi)) := fun wi hw => same_ok t wi xa ya xc yc (hxs.keep (HWT.out wi hw)).at (hys.keep (HWT.out wi hw)).at
          have HLT2 := Lib.hid hlt2
          clear kxs kys hxs hys ht
          go_upto_region 12 with (fail)
          apply Ix.wp_region 10 (fun wi => Hid (Below wr.heap.size wr wi)) (Ix.vk [(Ix.kis _), (Ix.kis _), (Ix.kis _), (Ix.kis _), (Ix.kis (.agg (xrowS t.kind t.num t.bits t.sg t.name (.slice xa t.kids.length xc)))), (Ix.kis _), (Ix.kis _), (Ix.kis _), (Ix.kis _), (Ix.kis (.agg (xrowS t.kind t.num t.bits t.sg t.name (.slice ya t.kids.length yc))))]) (fun _ => false) (by kernel_rfl) (by kernel_rfl) (by kernel_rfl) (fun _ _ h hb => Ext.trans h.out hb) (Ix.vk_keeps _) (Ix.not_al _) (Below.refl _ _ : Below wr.heap.size wr wr)
          case step =>
            refine zyx 9 0 1 [] (fun wi HB => ?_) <| zyx 8 1 2 [(0, some 79)] (fun wi HB => ?_) <| zyx 7 2 3 [] (fun wi HB => ?_) <| zyx 6 3 4 [(1, some 80), (2, some 81)] (fun wi HB => ?_) <| zyx 5 4 5 [(3, some 82)] (fun wi HB => ?_) <| zyx 4 5 6 [] (fun wi HB => ?_) <| zyx 3 6 7 [(5, some 84)] (fun wi HB => ?_) <| zyx 2 7 8 [] (fun wi HB => ?_) <| zyx 1 8 9 [(6, some 85), (7, some 86)] (fun wi HB => ?_) <| zyx 0 9 10 [(8, some 87)] (fun wi HB => ?_) <| Ix.steps_nil
            (· ((repeat (refine zya ?_; rintro _ rfl)); refine zye ?_; (try simp only [zyp]); refine Ix.goI_yes rfl rfl fun K hK => ?_; (try simp only [zyp] at hK); go_wp2_with (first | fail); exact hK _ _ (Below.refl _ _) rfl))
            (· (obtain ⟨k0, k1, k2, k3, k4, k5⟩ := HKA.out _ HB.out; obtain ⟨l0, l1, l2, l3, l4, l5⟩ := HKB.out _ HB.out; obtain ⟨x5, y5⟩ := HX5.out _ HB.out; (repeat (refine zya ?_; rintro _ rfl)); refine zye ?_; (try simp only [zyp]); refine Ix.goI_yes rfl rfl fun K hK => ?_; (try simp only [zyp] at hK); go_wp2_with (first | fail); exact hK _ _ (Below.refl _ _) rfl))
            iterate 2 (· ((repeat (refine zya ?_; rintro _ rfl)); refine zye ?_; (try simp only [zyp]); refine Ix.goI_yes rfl rfl fun K hK => ?_; (try simp only [zyp] at hK); go_wp2_with (first | fail); exact hK _ _ (Below.refl _ _) rfl))
            (· (obtain ⟨k0, k1, k2, k3, k4, k5⟩ := HKA.out _ HB.out; obtain ⟨l0, l1, l2, l3, l4, l5⟩ := HKB.out _ HB.out; obtain ⟨x5, y5⟩ := HX5.out _ HB.out; (repeat (refine zya ?_; rintro _ rfl)); refine zye ?_; (try simp only [zyp]); refine Ix.goI_yes rfl rfl fun K hK => ?_; (try simp only [zyp] at hK); go_wp2_with (first | fail); exact hK _ _ (Below.refl _ _) rfl))
            (· ((repeat (refine zya ?_; rintro _ rfl)); refine zye ?_; (try simp only [zyp]); refine Ix.goI_yes rfl rfl fun K hK => ?_; (try simp only [zyp] at hK); go_wp2_with (first | fail); exact hK _ _ (Below.refl _ _) rfl))
            (· (obtain ⟨k0, k1, k2, k3, k4, k5⟩ := HKA.out _ HB.out; obtain ⟨l0, l1, l2, l3, l4, l5⟩ := HKB.out _ HB.out; obtain ⟨x5, y5⟩ := HX5.out _ HB.out; (repeat (refine zya ?_; rintro _ rfl)); refine zye ?_; (try simp only [zyp]); refine Ix.goI_yes rfl rfl fun K hK => ?_; (try simp only [zyp] at hK); go_wp2_with (first | fail); exact hK _ _ (Below.refl _ _) rfl))
            iterate 2 (· ((repeat (refine zya ?_; rintro _ rfl)); refine zye ?_; (try simp only [zyp]); refine Ix.goI_yes rfl rfl fun K hK => ?_; (try simp only [zyp] at hK); go_wp2_with (first | fail); exact hK _ _ (Below.refl _ _) rfl))
            (· (obtain ⟨k0, k1, k2, k3, k4, k5⟩ := HKA.out _ HB.out; obtain ⟨l0, l1, l2, l3, l4, l5⟩ := HKB.out _ HB.out; obtain ⟨x5, y5⟩ := HX5.out _ HB.out; (repeat (refine zya ?_; rintro _ rfl)); refine zye ?_; (try simp only [zyp]); refine Ix.goI_yes rfl rfl fun K hK => ?_; (try simp only [zyp] at hK); go_wp2_with (first | fail); exact hK _ _ (Below.refl _ _) rfl))
          intro vsf wf HF hdf
          refine zyv 9 0 1 ?_; rintro _ _ rfl; refine zyv 8 1 2 ?_; rintro _ _ rfl; refine zyv 7 2 3 ?_; rintro _ _ rfl; refine zyv 6 3 4 ?_; rintro _ _ rfl; refine zyv 5 4 5 ?_; rintro _ _ rfl; refine zyv 4 5 6 ?_; rintro _ _ rfl; refine zyv 3 6 7 ?_; rintro _ _ rfl; refine zyv 2 7 8 ?_; rintro _ _ rfl; refine zyv 1 8 9 ?_; rintro _ _ rfl; refine zyv 0 9 10 ?_; rintro _ _ rfl
          refine Ix.allV_nil ?_
          (try simp only [Act.put, List.setIfInBounds_toArray, List.set_cons_zero, List.set_cons_succ, List.drop_succ_cons, List.drop_zero])
          go_wp2_with (first | (go_at_call 26; refine (HC.out _ HF.out).mono ?_; rintro e w4 ⟨rfl, hb4⟩; have HB4 := Lib.hid hb4; clear hb4))
          all_goals (first | refine Ix.only ?_ | (refine Ix.onlyP fun tz => ?_))
          go_wp2_with (fail)
          go_round
          case rel => exact ⟨k + 1, HLT2.out, by go_num, Ext.trans HRI.out (Ext.trans HF.out HB4.out)⟩
          case measure => have := HLT2.out; simp [intOf]; omega
        · go_wp2_with (fail)
          go_round
          case rel => exact ⟨j + 1, HLT.out, by go_num, Ext.trans HR.out (Ext.trans HB7.out HRI.out)⟩
          case measure => have := HLT.out; simp [intOf]; omega
    · obtain rfl : j = G := by omega
      obtain ⟨k1, k3⟩ := HBX.out _ HR.out
      obtain ⟨k2, k4⟩ := HBY.out _ HR.out
      have HRG := Lib.hid HR.out
      clear hlt hj HXW HYW
      go_upto_region 17 with (fail)
      clear k1 k2 k3 k4
      go_loopw [96] (fun i wr => ∃ j : Nat, j ≤ F ∧ i = .int .i64 (j : Int) ∧ Hid (Below w2.heap.size w2 wr)) (fun i wr => F - (intOf i).toNat)
      case atStart => exact ⟨0, Nat.zero_le _, rfl, HRG.out⟩
      case round =>
        obtain ⟨j, hj, rfl, HR⟩ := hrel
        clear HRG
        obtain ⟨W0, hW0⟩ : ∃ W0, W0 = wr := ⟨_, rfl⟩
        rw [← hW0] at HR ⊢
        clear hW0
        have HXW := Lib.hid (HX.out.keep (Ext.trans HS2.out.1 HR.out))
        have HYW := Lib.hid (HY.out.keep (Ext.trans HS2.out.1 HR.out))
        by_cases hlt : j < F
        · obtain ⟨y, hy⟩ : ∃ y, x.fs[j]? = some y := ⟨_, List.getElem?_eq_getElem (by rw [HFL.out]; exact hlt)⟩
          obtain ⟨ga, oa, cs, hae, hcs, kcs⟩ := HXW.out.2.at' hy
          obtain ⟨gb, ob, ds, hbe, hds, kds⟩ := HYW.out.2.at' hy
          subst hae; subst hbe
          have HCS : Hid (∀ wi, Below W0.heap.size W0 wi → ∀ i u, cs[i]? = some u → wi.cell? ⟨ga, oa + j * 5 + i, none⟩ = some u) := fun wi hw i u hu => cell_keep hw (kcs i u hu)
          have HDS : Hid (∀ wi, Below W0.heap.size W0 wi → ∀ i u, ds[i]? = some u → wi.cell? ⟨gb, ob + j * 5 + i, none⟩ = some u) := fun wi hw i u hu => cell_keep hw (kds i u hu)
          have HC5 := Lib.hid hcs.five.1
          have HD5 := Lib.hid hds.five.1
          have HC1 := Lib.hid hcs.five.2
          have HD1 := Lib.hid hds.five.2
          have HCI := Lib.hid hcs
          have HDI := Lib.hid hds
          have HLT := Lib.hid hlt
          have HBX0 := HBX
          have HBY0 := HBY
          replace HBX := Lib.hid (fun wi (hw : Below W0.heap.size W0 wi) => (HBX0.out wi (Ext.trans HR.out hw)).2)
          replace HBY := Lib.hid (fun wi (hw : Below W0.heap.size W0 wi) => (HBY0.out wi (Ext.trans HR.out hw)).2)
          clear kcs kds hcs hds hy
          go_upto_region 19 with (fail)
          apply Iy.wp_region 13 [12] (fun n => if n = 0 then [] else [10]) (Ix.Rb) (fun n vs wi => Hid (Below W0.heap.size W0 wi) ∧ (match n with | 0 => True | _ + 1 => ∀ g, vs 10 = Value.pointer (some ⟨g, 0, none⟩) → Blk wi g 45 cs.toArray)) (Ix.vk [(Ix.kis _), (Ix.kis _), (Ix.kis _), (Ix.kis _), (Ix.kis (.agg cs.toArray)), (Ix.kis _), (Ix.kis _), (Ix.kis _), (Ix.kis _), (Ix.kis (.agg ds.toArray)), (Ix.kwld (fun v w' => ∃ g, v = Value.pointer (some ⟨g, 0, none⟩) ∧ W0.heap.size ≤ g ∧ ∃ zs : Array Value, zs.size = 5 ∧ Blk w' g 45 zs) (fun v w1 w2 h hb => by obtain ⟨g, e, hl, zs, hz, hi⟩ := h; exact ⟨g, e, hl, zs, hz, hi.keep hb⟩)), (Ix.kwld (fun v w' => ∃ g, v = Value.pointer (some ⟨g, 0, none⟩) ∧ W0.heap.size ≤ g ∧ ∃ zs : Array Value, zs.size = 5 ∧ Blk w' g 45 zs) (fun v w1 w2 h hb => by obtain ⟨g, e, hl, zs, hz, hi⟩ := h; exact ⟨g, e, hl, zs, hz, hi.keep hb⟩)), (Ix.ksat (fun _ => True))]) (fun k => k == 10 || k == 11) (by kernel_rfl) (by kernel_rfl) (by kernel_rfl) (by kernel_rfl) (by kernel_rfl) (fun n vs vs' w hk h => by cases n with | zero => exact h | succ n => exact ⟨h.1, fun g e => h.2 g ((hk 10 (by simp)).trans e)⟩) (fun _ => Below.refl _ _) (fun n vs _ _ h hb => ⟨Ext.trans h.1.out hb, by cases n with | zero => trivial | succ n => exact fun g e => (h.2 g e).keep hb⟩) (Ix.vk_keeps _) (fun j v w hj hv => by simp only [Bool.or_eq_true, beq_iff_eq] at hj; rcases hj with rfl | rfl <;> (obtain ⟨g, e, _, _, _, hg⟩ := hv; exact ⟨g, e, hg.lt⟩)) (fun vs => ⟨Ext.drew (Below.refl _ _), trivial⟩)
          case step =>
            refine zys 12 0 1 [] (fun _ _ wi HB => ?_) <| zys 11 1 2 [(0, some 99)] (fun _ _ wi HB => ?_) <| zys 10 2 3 [] (fun _ _ wi HB => ?_) <| zys 9 3 4 [(1, some 100), (2, some 101)] (fun _ _ wi HB => ?_) <| zys 8 4 5 [(3, some 102)] (fun _ _ wi HB => ?_) <| zys 7 5 6 [] (fun _ _ wi HB => ?_) <| zys 6 6 7 [(5, some 104)] (fun _ _ wi HB => ?_) <| zys 5 7 8 [] (fun _ _ wi HB => ?_) <| zys 4 8 9 [(6, some 105), (7, some 106)] (fun _ _ wi HB => ?_) <| zys 3 9 10 [(8, some 107)] (fun _ _ wi HB => ?_) <| zys 2 10 11 [] (fun _ _ wi HB => ?_) <| zys 1 11 12 [] (fun _ _ wi HB => ?_) <| zyc 0 12 13 0 [(4, some 103), (10, some 10)] (fun vsp wi HB => ?_) <| Iy.steps_nil
            (· ((repeat (refine zya ?_; rintro _ rfl)); refine zye ?_; (try simp only [zyp]); refine Iy.goI_yes rfl rfl fun K hK => ?_; (try simp only [zyp] at hK); go_wp2_with (first | fail); exact hK _ _ (Below.refl _ _) rfl))
            (· (obtain ⟨HBB, _⟩ := HB; have k1 := HBX.out _ HBB.out; have k2 := HBY.out _ HBB.out; (repeat (refine zya ?_; rintro _ rfl)); refine zye ?_; (try simp only [zyp]); refine Iy.goI_yes rfl rfl fun K hK => ?_; (try simp only [zyp] at hK); go_wp2_with (first | fail); exact hK _ _ (Below.refl _ _) rfl))
            iterate 2 (· ((repeat (refine zya ?_; rintro _ rfl)); refine zye ?_; (try simp only [zyp]); refine Iy.goI_yes rfl rfl fun K hK => ?_; (try simp only [zyp] at hK); go_wp2_with (first | fail); exact hK _ _ (Below.refl _ _) rfl))
            (· (obtain ⟨HBB, _⟩ := HB; have k1 := HBX.out _ HBB.out; have k2 := HBY.out _ HBB.out; (repeat (refine zya ?_; rintro _ rfl)); refine zye ?_; (try simp only [zyp]); refine Iy.goI_yes rfl rfl fun K hK => ?_; (try simp only [zyp] at hK); refine wpO_load_at 45 _ rfl ga (oa + j * 5) rfl cs _ (HCS.out _ HBB.out) Try.underlying45 rfl (fn_size HC5.out) ?_; exact hK _ _ (Below.refl _ _) rfl))
            (· ((repeat (refine zya ?_; rintro _ rfl)); refine zye ?_; (try simp only [zyp]); refine Iy.goI_yes rfl rfl fun K hK => ?_; (try simp only [zyp] at hK); go_wp2_with (first | fail); exact hK _ _ (Below.refl _ _) rfl))
            (· (obtain ⟨HBB, _⟩ := HB; have k1 := HBX.out _ HBB.out; have k2 := HBY.out _ HBB.out; (repeat (refine zya ?_; rintro _ rfl)); refine zye ?_; (try simp only [zyp]); refine Iy.goI_yes rfl rfl fun K hK => ?_; (try simp only [zyp] at hK); go_wp2_with (first | fail); exact hK _ _ (Below.refl _ _) rfl))
            iterate 2 (· ((repeat (refine zya ?_; rintro _ rfl)); refine zye ?_; (try simp only [zyp]); refine Iy.goI_yes rfl rfl fun K hK => ?_; (try simp only [zyp] at hK); go_wp2_with (first | fail); exact hK _ _ (Below.refl _ _) rfl))
            (· (obtain ⟨HBB, _⟩ := HB; have k1 := HBX.out _ HBB.out; have k2 := HBY.out _ HBB.out; (repeat (refine zya ?_; rintro _ rfl)); refine zye ?_; (try simp only [zyp]); refine Iy.goI_yes rfl rfl fun K hK => ?_; (try simp only [zyp] at hK); refine wpO_load_at 45 _ rfl gb (ob + j * 5) rfl ds _ (HDS.out _ HBB.out) Try.underlying45 rfl (fn_size HD5.out) ?_; exact hK _ _ (Below.refl _ _) rfl))
            iterate 2 (· (obtain ⟨HBB, _⟩ := HB; have k1 := HBX.out _ HBB.out; have k2 := HBY.out _ HBB.out; (repeat (refine zya ?_; rintro _ rfl)); refine zye ?_; (try simp only [zyp]); refine Iy.goI_new rfl fun K hK => ?_; (try simp only [zyp] at hK); go_wp2_with (first | fail); exact hK _ (Ext.alloc (Below.refl _ _) _) ⟨_, rfl, HBB.out.size, _, rfl, Blk.new _ _ _⟩))
            (· (obtain ⟨HBB, _⟩ := HB; refine zya ?_; rintro _ ⟨rfl, ev4⟩; refine zya ?_; rintro _ ⟨⟨g8, rfl, hl8, z8, hz8, hg8⟩, ev10⟩; refine zye ?_; (try simp only [zyp]); refine Iy.goI_yes rfl rfl fun K hK => ?_; (try simp only [zyp] at hK); refine wp_store_row 45 _ _ rfl g8 cs.toArray rfl rfl 45 z8 hg8 (fn_size HC5.out) (hz8.trans HC5.out.symm) HC1.out ?_; exact hK undef _ ⟨⟨Below.setR' HBB.out hl8 _, fun g e => (by rw [ev10] at e; injection e with e; injection e with e; injection e with e; subst e; exact setRow_heap _ _ _ _ _ _ hg8)⟩, Iy.vk_turn (by repeat (first | exact True.intro | refine And.intro (fun _ h => h) ?_ | refine And.intro (fun hne => absurd rfl hne) ?_ | refine And.intro (fun _ h => (by obtain ⟨t9, e9, h9, z9, hz9, h10⟩ := h; exact blk_turnG hg8 HC5.out e9 h9 hz9 h10)) ?_))⟩ trivial))
          intro vsf wf HF hdf
          refine zyv 12 0 1 ?_; rintro _ _ rfl; refine zyv 11 1 2 ?_; rintro _ _ rfl; refine zyv 10 2 3 ?_; rintro _ _ rfl; refine zyv 9 3 4 ?_; rintro _ _ rfl; refine zyv 8 4 5 ?_; rintro _ _ rfl; refine zyv 7 5 6 ?_; rintro _ _ rfl; refine zyv 6 6 7 ?_; rintro _ _ rfl; refine zyv 5 7 8 ?_; rintro _ _ rfl; refine zyv 4 8 9 ?_; rintro _ _ rfl; refine zyv 3 9 10 ?_; rintro _ _ rfl; refine zyv 2 10 11 ?_; rintro _ ev10 ⟨g8, rfl, hl8, z8, hz8, hg8⟩; refine zyv 1 11 12 ?_; rintro _ ev11 ⟨g9, rfl, hl9, z9, hz9, hg9⟩; refine zyv 0 12 13 ?_; rintro _ _ _
          refine Ix.allV_nil ?_
          obtain ⟨HFB, hf8⟩ := HF; have hg8' := hf8 _ ev10; have hne : g8 ≠ g9 := fun e => hdf 10 11 (by decide) (by decide) rfl rfl (by decide) (by rw [ev10, ev11, e])
          (try simp only [Act.put, List.setIfInBounds_toArray, List.set_cons_zero, List.set_cons_succ, List.drop_succ_cons, List.drop_zero])
          go_wp2_with (first | (refine wpList_store_row rfl 45 _ _ rfl g9 ds.toArray rfl rfl 45 z9 hg9 (fn_size HD5.out) (hz9.trans HD5.out.symm) HD1.out ?_; generalize hw7 : World.setRow _ _ _ = w7))
          all_goals (first | refine Ix.only ?_ | (refine Ix.onlyP fun tz => ?_))
          have HS7 : Hid (Below W0.heap.size W0 w7 ∧ Blk w7 g8 45 cs.toArray ∧ Blk w7 g9 45 ds.toArray) := by
            show _ ∧ _ ∧ _
            rw [← hw7]
            exact ⟨Below.setR' HFB.out hl9 _, (setRow_other _ _ _ _ hne).trans hg8', setRow_heap _ _ _ _ _ _ hg9⟩
          clear hw7 hg8 hg9 hg8' hf8 hdf hz8 hz9 HCS HDS HC5 HD5 HC1 HD1
          obtain ⟨vv, bv, e1, hx, hbx⟩ := HCI.out
          obtain ⟨uu, bu, e2, hx', hbx'⟩ := HDI.out
          obtain ⟨va, vc, rfl, hvl, hvm⟩ := hx.sl
          obtain ⟨ua, uc, rfl, hul, hum⟩ := hx'.sl
          clear HCI HDI
          subst e1; subst e2
          obtain ⟨I, hI⟩ : ∃ I, y.ps.length = I := ⟨_, rfl⟩
          rw [hI] at hx hx' hvl hul HS7
          have H8 : Hid (∀ wi, Below w7.heap.size w7 wi → Blk wi g8 45 #[.string y.nm, .int .i64 y.b, .bool y.s, .slice va I vc, bv]) := fun wi hw => (show Blk w7 g8 45 #[.string y.nm, .int .i64 y.b, .bool y.s, .slice va I vc, bv] from HS7.out.2.1).keep hw
          have H9 : Hid (∀ wi, Below w7.heap.size w7 wi → Blk wi g9 45 #[.string y.nm, .int .i64 y.b, .bool y.s, .slice ua I uc, bu]) := fun wi hw => (show Blk w7 g9 45 #[.string y.nm, .int .i64 y.b, .bool y.s, .slice ua I uc, bu] from HS7.out.2.2).keep hw
          have HB7 := Lib.hid HS7.out.1
          have HXI := Lib.hid hx
          have HYI := Lib.hid hx'
          have HI := Lib.hid hI
          have HC := Lib.hid (ssame_ok y.body w7 bv bu ((hbx.keep HS7.out.1)) ((hbx'.keep HS7.out.1)))
          have hI9 : (I : Int) ≤ 9223372036854775807 := by unfold maxLen at hvm; omega
          clear HS7 hx hx' hbx hbx' hI
          have p0 := (H8.out _ (Below.refl _ _)).cell 0; have p1 := (H8.out _ (Below.refl _ _)).cell 1; have p2 := (H8.out _ (Below.refl _ _)).cell 2; have p3 := (H8.out _ (Below.refl _ _)).cell 3; have p4 := (H8.out _ (Below.refl _ _)).cell 4
          have q0 := (H9.out _ (Below.refl _ _)).cell 0; have q1 := (H9.out _ (Below.refl _ _)).cell 1; have q2 := (H9.out _ (Below.refl _ _)).cell 2; have q3 := (H9.out _ (Below.refl _ _)).cell 3; have q4 := (H9.out _ (Below.refl _ _)).cell 4
          go_upto_region 23 with (first | (go_at_call 27; refine (HC.out).mono ?_; rintro e w8 ⟨rfl, hb8⟩; have HB8 := Lib.hid hb8; clear p0 p1 p2 p3 p4 q0 q1 q2 q3 q4 hb8; have p0 := (H8.out _ HB8.out).cell 0; have p1 := (H8.out _ HB8.out).cell 1; have p2 := (H8.out _ HB8.out).cell 2; have p3 := (H8.out _ HB8.out).cell 3; have p4 := (H8.out _ HB8.out).cell 4; have q0 := (H9.out _ HB8.out).cell 0; have q1 := (H9.out _ HB8.out).cell 1; have q2 := (H9.out _ HB8.out).cell 2; have q3 := (H9.out _ HB8.out).cell 3; have q4 := (H9.out _ HB8.out).cell 4))
          clear p0 p1 p2 p3 p4 q0 q1 q2 q3 q4
          go_loopw [141] (fun i wr => ∃ k : Nat, k ≤ I ∧ i = .int .i64 (k : Int) ∧ Hid (Below w7.heap.size w7 wr)) (fun i wr => I - (intOf i).toNat)
          case atStart => exact ⟨0, Nat.zero_le _, rfl, HB8.out⟩
          case round =>
            obtain ⟨k, hk, rfl, HRI⟩ := hrel
            clear HB8
            by_cases hlt2 : k < I
            · obtain ⟨t, ht⟩ : ∃ t, y.ps[k]? = some t := ⟨_, List.getElem?_eq_getElem (by rw [HI.out]; exact hlt2)⟩
              obtain ⟨gx, ox, xs, hxe, hxs, kxs⟩ := HXI.out.at' ht
              obtain ⟨gy, oy, ys, hye, hys, kys⟩ := HYI.out.at' ht
              subst hxe; subst hye
              subst hxs; subst hys
              have HWT : Hid (∀ wi, Below wr.heap.size wr wi → Below W0.heap.size W0 wi) := fun wi hw => Ext.trans HB7.out (Ext.trans HRI.out hw)
              have HKA : Hid (∀ wi, Below wr.heap.size wr wi → wi.cell? ⟨gx, ox + k * 3, none⟩ = some (.int .i64 t.b) ∧ wi.cell? ⟨gx, ox + k * 3 + 1, none⟩ = some (.bool t.s) ∧ wi.cell? ⟨gx, ox + k * 3 + 2, none⟩ = some (.string t.nm)) := fun wi hw => ⟨cell_keep (HWT.out wi hw) (kxs 0 _ rfl), cell_keep (HWT.out wi hw) (kxs 1 _ rfl), cell_keep (HWT.out wi hw) (kxs 2 _ rfl)⟩
              have HKB : Hid (∀ wi, Below wr.heap.size wr wi → wi.cell? ⟨gy, oy + k * 3, none⟩ = some (.int .i64 t.b) ∧ wi.cell? ⟨gy, oy + k * 3 + 1, none⟩ = some (.bool t.s) ∧ wi.cell? ⟨gy, oy + k * 3 + 2, none⟩ = some (.string t.nm)) := fun wi hw => ⟨cell_keep (HWT.out wi hw) (kys 0 _ rfl), cell_keep (HWT.out wi hw) (kys 1 _ rfl), cell_keep (HWT.out wi hw) (kys 2 _ rfl)⟩
              have HX5 : Hid (∀ wi, Below wr.heap.size wr wi → wi.cell? ⟨g8, 3, none⟩ = some (.slice (some ⟨gx, ox, none⟩) I vc) ∧ wi.cell? ⟨g9, 3, none⟩ = some (.slice (some ⟨gy, oy, none⟩) I uc)) := fun wi hw => ⟨(H8.out _ (Ext.trans HRI.out hw)).cell 3, (H9.out _ (Ext.trans HRI.out hw)).cell 3⟩
              have HLT2 := Lib.hid hlt2
              clear kxs kys ht
              go_upto_region 25 with (fail)
              apply Ix.wp_region 11 (fun wi => Hid (Below wr.heap.size wr wi)) (Ix.vk [(Ix.kis _), (Ix.kis _), (Ix.kis _), (Ix.kis _), (Ix.kis (.agg #[.int .i64 t.b, .bool t.s, .string t.nm])), (Ix.kis _), (Ix.kis _), (Ix.kis _), (Ix.kis _), (Ix.kis (.agg #[.int .i64 t.b, .bool t.s, .string t.nm])), (Ix.kis (.bool false))]) (fun _ => false) (by kernel_rfl) (by kernel_rfl) (by kernel_rfl) (fun _ _ h hb => Ext.trans h.out hb) (Ix.vk_keeps _) (Ix.not_al _) (Below.refl _ _ : Below wr.heap.size wr wr)
              case step =>
                refine zyx 10 0 1 [] (fun wi HB => ?_) <| zyx 9 1 2 [(0, some 144)] (fun wi HB => ?_) <| zyx 8 2 3 [] (fun wi HB => ?_) <| zyx 7 3 4 [(1, some 145), (2, some 146)] (fun wi HB => ?_) <| zyx 6 4 5 [(3, some 147)] (fun wi HB => ?_) <| zyx 5 5 6 [] (fun wi HB => ?_) <| zyx 4 6 7 [(5, some 149)] (fun wi HB => ?_) <| zyx 3 7 8 [] (fun wi HB => ?_) <| zyx 2 8 9 [(6, some 150), (7, some 151)] (fun wi HB => ?_) <| zyx 1 9 10 [(8, some 152)] (fun wi HB => ?_) <| zyx 0 10 11 [(4, some 148), (9, some 153)] (fun wi HB => ?_) <| Ix.steps_nil
                (· ((repeat (refine zya ?_; rintro _ rfl)); refine zye ?_; (try simp only [zyp]); refine Ix.goI_yes rfl rfl fun K hK => ?_; (try simp only [zyp] at hK); go_wp2_with (first | fail); exact hK _ _ (Below.refl _ _) rfl))
                (· (obtain ⟨k0, k1, k2⟩ := HKA.out _ HB.out; obtain ⟨l0, l1, l2⟩ := HKB.out _ HB.out; obtain ⟨x5, y5⟩ := HX5.out _ HB.out; (repeat (refine zya ?_; rintro _ rfl)); refine zye ?_; (try simp only [zyp]); refine Ix.goI_yes rfl rfl fun K hK => ?_; (try simp only [zyp] at hK); go_wp2_with (first | fail); exact hK _ _ (Below.refl _ _) rfl))
                iterate 2 (· ((repeat (refine zya ?_; rintro _ rfl)); refine zye ?_; (try simp only [zyp]); refine Ix.goI_yes rfl rfl fun K hK => ?_; (try simp only [zyp] at hK); go_wp2_with (first | fail); exact hK _ _ (Below.refl _ _) rfl))
                (· (obtain ⟨k0, k1, k2⟩ := HKA.out _ HB.out; obtain ⟨l0, l1, l2⟩ := HKB.out _ HB.out; obtain ⟨x5, y5⟩ := HX5.out _ HB.out; (repeat (refine zya ?_; rintro _ rfl)); refine zye ?_; (try simp only [zyp]); refine Ix.goI_yes rfl rfl fun K hK => ?_; (try simp only [zyp] at hK); go_wp2_with (first | fail); exact hK _ _ (Below.refl _ _) rfl))
                (· ((repeat (refine zya ?_; rintro _ rfl)); refine zye ?_; (try simp only [zyp]); refine Ix.goI_yes rfl rfl fun K hK => ?_; (try simp only [zyp] at hK); go_wp2_with (first | fail); exact hK _ _ (Below.refl _ _) rfl))
                (· (obtain ⟨k0, k1, k2⟩ := HKA.out _ HB.out; obtain ⟨l0, l1, l2⟩ := HKB.out _ HB.out; obtain ⟨x5, y5⟩ := HX5.out _ HB.out; (repeat (refine zya ?_; rintro _ rfl)); refine zye ?_; (try simp only [zyp]); refine Ix.goI_yes rfl rfl fun K hK => ?_; (try simp only [zyp] at hK); go_wp2_with (first | fail); exact hK _ _ (Below.refl _ _) rfl))
                iterate 2 (· ((repeat (refine zya ?_; rintro _ rfl)); refine zye ?_; (try simp only [zyp]); refine Ix.goI_yes rfl rfl fun K hK => ?_; (try simp only [zyp] at hK); go_wp2_with (first | fail); exact hK _ _ (Below.refl _ _) rfl))
                (· (obtain ⟨k0, k1, k2⟩ := HKA.out _ HB.out; obtain ⟨l0, l1, l2⟩ := HKB.out _ HB.out; obtain ⟨x5, y5⟩ := HX5.out _ HB.out; (repeat (refine zya ?_; rintro _ rfl)); refine zye ?_; (try simp only [zyp]); refine Ix.goI_yes rfl rfl fun K hK => ?_; (try simp only [zyp] at hK); go_wp2_with (first | fail); exact hK _ _ (Below.refl _ _) rfl))
                (· ((repeat (refine zya ?_; rintro _ rfl)); refine zye ?_; (try simp only [zyp]); refine Ix.goI_yes rfl rfl fun K hK => ?_; (try simp only [zyp] at hK); go_wp2_with (first | fail); exact hK _ _ (Below.refl _ _) rfl))
              intro vsf wf HF hdf
              refine zyv 10 0 1 ?_; rintro _ _ rfl; refine zyv 9 1 2 ?_; rintro _ _ rfl; refine zyv 8 2 3 ?_; rintro _ _ rfl; refine zyv 7 3 4 ?_; rintro _ _ rfl; refine zyv 6 4 5 ?_; rintro _ _ rfl; refine zyv 5 5 6 ?_; rintro _ _ rfl; refine zyv 4 6 7 ?_; rintro _ _ rfl; refine zyv 3 7 8 ?_; rintro _ _ rfl; refine zyv 2 8 9 ?_; rintro _ _ rfl; refine zyv 1 9 10 ?_; rintro _ _ rfl; refine zyv 0 10 11 ?_; rintro _ _ rfl
              refine Ix.allV_nil ?_
              (try simp only [Act.put, List.setIfInBounds_toArray, List.set_cons_zero, List.set_cons_succ, List.drop_succ_cons, List.drop_zero])
              refine Ix.nil ?_
              go_wp2_with (fail)
              go_round
              case rel => exact ⟨k + 1, HLT2.out, by go_num, Ext.trans HRI.out HF.out⟩
              case measure => have := HLT2.out; simp [intOf]; omega
            · go_wp2_with (fail)
              go_round
              case rel => exact ⟨j + 1, HLT.out, by go_num, Ext.trans HR.out (Ext.trans HB7.out HRI.out)⟩
              case measure => have := HLT.out; simp [intOf]; omega
        · obtain rfl : j = F := by omega
          go_wp2_with (fail)
          go_ret
          exact ⟨rfl, Ext.trans HS2.out.1 HR.out⟩
end Go.Proofs.Ytfkndjifhmkojaa
