/- Proofs of this claim, part 54. No condition. -/
import Derived.Test.YthdckndjggljpaaS49
import Derived.Test.YthdckndjggljpaaS50
import Derived.Test.YthdckndjggljpaaS52
import Derived.Test.YthdckndjggljpaaS53
namespace Go.Proofs.Ythdckndjggljpaa
set_option linter.unusedVariables false
set_option linter.unusedSimpArgs false
set_option maxRecDepth 100000
set_option maxHeartbeats 64000000
open Go.RowKit Go.Maps
theorem wK(w w5:World)(v0 v1 e a:Value)(h:(w.alloc (.cells #[v0,v1] 25)).alloc (.cells #[e,a] 29)=w5):
 Below w.heap.size w w5∧ak w5 w.heap.size 25 #[v0,v1]∧ak w5 (w.heap.size+1) 29 #[e,a]:=by
 subst h
 exact⟨Ext.alloc (Ext.alloc (Below.refl _ _) _) _,(ak.new w _ _).alloc _,ak.newAt _ _ (by simp)⟩
theorem Ik(w:World)(P0:Pg)(a0:Option Addr)(n0 c0:Nat)(a1:Option Addr)(n1 c1:Nat)(er at':Int)(h0:er≠0)
 (hF:∀w1,Below w.heap.size w w1→Calls Try.prog 10 #[.agg #[.slice a0 n0 c0, .slice a1 n1 c1]] w1 (XE w1 P0 er at'))
 (hC:∀w1,Below w.heap.size w w1→Calls Try.prog 6 #[.agg #[.slice a0 n0 c0, .slice a1 n1 c1]] w1 fun e w'=>e= .returned (.agg #[.int .i64 er, .int .i64 at'])∧Below w1.heap.size w1 w'):
 Calls Try.prog 4 #[.agg #[.slice a0 n0 c0, .slice a1 n1 c1]] w (Eb w):=by
 have HF:Hid (∀w1,Below w.heap.size w w1→Calls Try.prog 10 #[.agg #[.slice a0 n0 c0, .slice a1 n1 c1]] w1 fun e w'=>e= .returned (.tuple #[.agg #[.slice none 0 0, .slice none 0 0], .agg #[.int .i64 er, .int .i64 at']])∧Below w1.heap.size w1 w'):=fun w1 hb=>(hF w1 hb).mono fun e w' h=>by
  obtain⟨hb,⟨_,e⟩|⟨h,_⟩⟩:=h
  ·exact⟨e,hb⟩
  ·exact absurd h h0
 have HC:=Lib.hid hC
 have q:(er !=0)=true:=by simpa using h0
 have HB:Hid (Below w.heap.size w (w.alloc (.cells #[.slice a0 n0 c0, .slice a1 n1 c1] 25))∧ak (w.alloc (.cells #[.slice a0 n0 c0, .slice a1 n1 c1] 25)) w.heap.size 25 #[.slice a0 n0 c0, .slice a1 n1 c1]):=⟨Ext.alloc (Below.refl _ _) _,ak.new _ _ _⟩
 clear hF hC h0
 go_enter Try.func4,Try.ntmps4
 go_upto_region 1 with(fail)
 generalize hw1:World.alloc w _=w1
 rw [hw1]at HB
 clear hw1
 go_upto_region 3 with(first|(go_at_call 9;refine(wJ _).mono ?_;rintro e w2⟨rfl,hb2⟩;have HB2:Hid (Below w.heap.size w w2∧ak w2 w.heap.size 25 #[.slice a0 n0 c0, .slice a1 n1 c1]):=⟨Ext.trans HB.out.1 hb2,HB.out.2.keep hb2⟩;clear hb2))
 have p0:=HB2.out.2.cell 0;have p1:=HB2.out.2.cell 1;have pl:=HB2.out.2.lt
 go_upto_region 4 with(first|(go_at_call 10;refine(HF.out _ HB2.out.1).mono ?_;rintro e w4⟨rfl,hb4⟩;have HB4:=Lib.hid hb4;clear hb4))
 generalize hw5:World.alloc (World.alloc w4 _) _=w5
 have gU:=Lib.hid (wK w4 w5 _ _ _ _ hw5)
 obtain⟨g4,hg4⟩:∃g,g=w4.heap.size:=⟨_,rfl⟩
 rw [←hg4]at gU⊢
 have bD:Hid (Below w.heap.size w w5∧ak w5 w.heap.size 25 #[.slice a0 n0 c0, .slice a1 n1 c1]∧ak w5 (g4+1) 29 #[.int .i64 er, .int .i64 at']):=by
  have h:=gU.out.1
  rw [hg4]at h
  exact⟨Ext.trans (Ext.trans HB2.out.1 HB4.out) h,(HB2.out.2.keep HB4.out).keep h,gU.out.2.2⟩
 clear hw5 hg4 p0 p1 pl
 have f0:=bD.out.2.2.cell 0;have f1:=bD.out.2.2.cell 1;have fl:=bD.out.2.2.lt
 go_upto_region 5 with(fail)
 clear f0 f1 fl
 apply Ix.wp_region 3 (fun wi=>Hid (Below w5.heap.size w5 wi)) (Ix.vk [(Ix.aA (.agg #[.int .i64 er, .int .i64 at'])),(Ix.aA (.agg #[.slice a0 n0 c0, .slice a1 n1 c1])),(Ix.aA (.agg #[.int .i64 er, .int .i64 at']))]) (fun _=>false) (by kernel_rfl) (by kernel_rfl) (by kernel_rfl) (fun _ _ h hb=>Ext.trans h hb) (Ix.aN _) (Ix.bP _) (Below.refl _ _)
 case step=>
  refine aP 2 0 1 [] (fun wi HB=>?_)<|aP 1 1 2 [] (fun wi HB=>?_)<|aP 0 2 3 [(1,some 18)] (fun wi HB=>?_)<|Ix.aC
  iterate 2(·(have hx:=bD.out.2.1.keep HB.out;have p0:=hx.cell 0;have p1:=hx.cell 1;have pl:=hx.lt;have hy:=bD.out.2.2.keep HB.out;have f0:=hy.cell 0;have f1:=hy.cell 1;have fl:=hy.lt;clear hx hy;(repeat(refine aB ?_;rintro _ rfl));refine aF ?_;(try simp only [aj]);refine Ix.ah rfl rfl fun K hK=>?_;(try simp only [aj]at hK);go_wp2_with(first|fail);exact hK _ _ (Below.refl _ _) rfl))
  (·(have hx:=bD.out.2.1.keep HB.out;have p0:=hx.cell 0;have p1:=hx.cell 1;have pl:=hx.lt;have hy:=bD.out.2.2.keep HB.out;have f0:=hy.cell 0;have f1:=hy.cell 1;have fl:=hy.lt;clear hx hy;(repeat(refine aB ?_;rintro _ rfl));refine aF ?_;(try simp only [aj]);refine Ix.ah rfl rfl fun K hK=>?_;(try simp only [aj]at hK);go_wp2_with(first|(go_at_call 6;refine(HC.out _ (Ext.trans bD.out.1 HB.out)).mono ?_;rintro e wa⟨rfl,hba⟩));exact hK _ _ hba rfl))
 intro lM wf HF hdf
 refine au 2 0 1 ?_;rintro _ _ rfl;refine au 1 1 2 ?_;rintro _ _ rfl;refine au 0 2 3 ?_;rintro _ _ rfl
 refine Ix.aI ?_
 (try simp only [Act.put,List.setIfInBounds_toArray,List.set_cons_zero,List.set_cons_succ,List.drop_succ_cons,List.drop_zero])
 go_wp2_with(first|fail)
 all_goals(first|refine Ix.only ?_|(refine Ix.dK fun tz=>?_))
 go_wp2
 go_ret
 exact⟨rfl,Ext.trans bD.out.1 HF.out⟩
theorem Ed(w:World)(P0:Pg)(a0:Option Addr)(n0 c0:Nat)(a1:Option Addr)(n1 c1:Nat)(Q:Pg)(A B:Int)(hAB:A≤B)
 (hP:bM w (fun _=>True) P0 (.slice a0 n0 c0) (.slice a1 n1 c1))
 (hF:∀w1,Below w.heap.size w w1→Calls Try.prog 10 #[.agg #[.slice a0 n0 c0, .slice a1 n1 c1]] w1 fun e w'=>∃a2 n2 c2 a3 n3 c3,e= .returned (.tuple #[.agg #[.slice a2 n2 c2, .slice a3 n3 c3], .agg #[.int .i64 0, .int .i64 0]])∧bM w' (fun _=>True) Q (.slice a2 n2 c2) (.slice a3 n3 c3)∧Below w1.heap.size w1 w')
 (hG:∀w1 v0 v1,bM w1 (fun _=>True) Q v0 v1→Calls Try.prog 10 #[.agg #[v0,v1]] w1 fun e w'=>∃a2 n2 c2 a3 n3 c3,e= .returned (.tuple #[.agg #[.slice a2 n2 c2, .slice a3 n3 c3], .agg #[.int .i64 0, .int .i64 0]])∧bM w' (fun _=>True) Q (.slice a2 n2 c2) (.slice a3 n3 c3)∧Below w1.heap.size w1 w')
 (hR:∀w1 v0 v1,bM w1 (fun _=>True) Q v0 v1→Calls Try.prog 12 #[.agg #[v0,v1]] w1 (BrR w1 Q))
 (hN:∀w1 v0 v1,bM w1 (fun _=>True) Q v0 v1→Calls Try.prog 13 #[.agg #[v0,v1]] w1 fun e w'=>e= .returned (.int .i64 A)∧Below w1.heap.size w1 w')
 (hM:∀w1 v0 v1,bM w1 (fun _=>True) P0 v0 v1→Calls Try.prog 13 #[.agg #[v0,v1]] w1 fun e w'=>e= .returned (.int .i64 B)∧Below w1.heap.size w1 w'):
 Calls Try.prog 4 #[.agg #[.slice a0 n0 c0, .slice a1 n1 c1]] w (Eb w):=by
 have HF:=Lib.hid hF
 have HG:=Lib.hid hG
 have HR:=Lib.hid hR
 have HN:=Lib.hid hN
 have HM:=Lib.hid hM
 have HP:=Lib.hid hP
 have q:decide (A≤B)=true:=by simpa using hAB
 have HB:Hid (Below w.heap.size w (w.alloc (.cells #[.slice a0 n0 c0, .slice a1 n1 c1] 25))∧ak (w.alloc (.cells #[.slice a0 n0 c0, .slice a1 n1 c1] 25)) w.heap.size 25 #[.slice a0 n0 c0, .slice a1 n1 c1]):=⟨Ext.alloc (Below.refl _ _) _,ak.new _ _ _⟩
 clear hF hG hR hN hM hP hAB
 go_enter Try.func4,Try.ntmps4
 go_upto_region 1 with(fail)
 generalize hw1:World.alloc w _=w1
 rw [hw1]at HB
 clear hw1
 go_upto_region 3 with(first|(go_at_call 9;refine(wJ _).mono ?_;rintro e w2⟨rfl,hb2⟩;have HB2:Hid (Below w.heap.size w w2∧ak w2 w.heap.size 25 #[.slice a0 n0 c0, .slice a1 n1 c1]):=⟨Ext.trans HB.out.1 hb2,HB.out.2.keep hb2⟩;clear hb2))
 have p0:=HB2.out.2.cell 0;have p1:=HB2.out.2.cell 1;have pl:=HB2.out.2.lt
 go_upto_region 4 with(first|(go_at_call 10;refine(HF.out _ HB2.out.1).mono ?_;rintro e w4⟨a2,n2,c2,a3,n3,c3,rfl,hq4,hb4⟩;have HQ4:=Lib.hid hq4;have HB4:=Lib.hid hb4;clear hb4 hq4))
 generalize hw5:World.alloc (World.alloc w4 _) _=w5
 have gU:=Lib.hid (wK w4 w5 _ _ _ _ hw5)
 obtain⟨g4,hg4⟩:∃g,g=w4.heap.size:=⟨_,rfl⟩
 have bD:Hid (Below w.heap.size w w5∧ak w5 w.heap.size 25 #[.slice a0 n0 c0, .slice a1 n1 c1]∧ak w5 g4 25 #[.slice a2 n2 c2, .slice a3 n3 c3]∧ak w5 (g4+1) 29 #[.int .i64 0, .int .i64 0]∧bM w5 (fun _=>True) Q (.slice a2 n2 c2) (.slice a3 n3 c3)):=by
  have h:=gU.out
  rw [hg4]
  exact⟨Ext.trans (Ext.trans HB2.out.1 HB4.out) h.1,(HB2.out.2.keep HB4.out).keep h.1,h.2.1,h.2.2,HQ4.out.keep h.1⟩
 rw [←hg4]at⊢
 clear hw5 hg4 p0 p1 pl gU HQ4
 have f0:=bD.out.2.2.2.1.cell 0;have fl:=bD.out.2.2.2.1.lt
 have p0:=bD.out.2.2.1.cell 0;have p1:=bD.out.2.2.1.cell 1;have pl:=bD.out.2.2.1.lt
 go_upto_region 7 with(first|(go_at_call 10;refine(HG.out _ _ _ bD.out.2.2.2.2).mono ?_;rintro e w6⟨a4,n4,c4,a5,n5,c5,rfl,hq6,hb6⟩;have mM:=Lib.hid hq6;have iK:=Lib.hid hb6;clear hb6 hq6))
 generalize hw7:World.alloc (World.alloc w6 _) _=w7
 have OU:=Lib.hid (wK w6 w7 _ _ _ _ hw7)
 obtain⟨g6,zf⟩:∃g,g=w6.heap.size:=⟨_,rfl⟩
 have dD:Hid (Below w.heap.size w w7∧ak w7 w.heap.size 25 #[.slice a0 n0 c0, .slice a1 n1 c1]∧ak w7 g4 25 #[.slice a2 n2 c2, .slice a3 n3 c3]∧bM w7 (fun _=>True) Q (.slice a2 n2 c2) (.slice a3 n3 c3)∧ak w7 g6 25 #[.slice a4 n4 c4, .slice a5 n5 c5]∧ak w7 (g6+1) 29 #[.int .i64 0, .int .i64 0]∧bM w7 (fun _=>True) Q (.slice a4 n4 c4) (.slice a5 n5 c5)):=by
  have h:=OU.out
  have k:=bD.out
  rw [zf]
  exact⟨Ext.trans (Ext.trans k.1 iK.out) h.1,(k.2.1.keep iK.out).keep h.1,(k.2.2.1.keep iK.out).keep h.1,(k.2.2.2.2.keep iK.out).keep h.1,h.2.1,h.2.2,mM.out.keep h.1⟩
 have iU:Hid (bM w7 (fun _=>True) P0 (.slice a0 n0 c0) (.slice a1 n1 c1)):=HP.out.keep dD.out.1
 rw [←zf]at⊢
 clear hw7 zf p0 p1 pl f0 fl OU mM
 apply Ix.wp_region 18 (fun wi=>Hid (Below w7.heap.size w7 wi)) (Ix.vk [(Ix.aA _),(Ix.aA (.int .i64 0)),(Ix.aA (.bool true)),(Ix.aA (.bool true)),(Ix.aA (.agg #[.slice a2 n2 c2, .slice a3 n3 c3])),(Ix.dU (fun v w'=>∃u0 u1,v=Value.agg #[u0,u1]∧bM w' (fun _=>True) Q.bare u0 u1) (fun v w1 w2 h hb=>by obtain⟨u0,u1,e,h⟩:=h;exact⟨u0,u1,e,h.keep hb⟩)),(Ix.aA (.agg #[.slice a4 n4 c4, .slice a5 n5 c5])),(Ix.dU (fun v w'=>∃u0 u1,v=Value.agg #[u0,u1]∧bM w' (fun _=>True) Q.bare u0 u1) (fun v w1 w2 h hb=>by obtain⟨u0,u1,e,h⟩:=h;exact⟨u0,u1,e,h.keep hb⟩)),(Ix.aA (.bool true)),(Ix.aA (.bool true)),(Ix.aA (.bool true)),(Ix.aA (.agg #[.slice a2 n2 c2, .slice a3 n3 c3])),(Ix.aA (.int .i64 A)),(Ix.aA (.agg #[.slice a0 n0 c0, .slice a1 n1 c1])),(Ix.aA (.int .i64 B)),(Ix.aA (.bool true)),(Ix.aA (.bool true)),(Ix.aA _)]) (fun _=>false) (by kernel_rfl) (by kernel_rfl) (by kernel_rfl) (fun _ _ h hb=>Ext.trans h hb) (Ix.aN _) (Ix.bP _) (Below.refl _ _)
 case step=>
  refine aP 17 0 1 [] (fun wi HB=>?_)<|aP 16 1 2 [(0,some 26)] (fun wi HB=>?_)<|aP 15 2 3 [(1,some 27)] (fun wi HB=>?_)<|aP 14 3 4 [(2,some 28)] (fun wi HB=>?_)<|aP 13 4 5 [(3,some 29)] (fun wi HB=>?_)<|aP 12 5 6 [(3,some 29),(4,some 30)] (fun wi HB=>?_)<|aP 11 6 7 [(3,some 29)] (fun wi HB=>?_)<|aP 10 7 8 [(3,some 29),(6,some 32)] (fun wi HB=>?_)<|aP 9 8 9 [(3,some 29),(5,some 31),(7,some 33)] (fun wi HB=>?_)<|aP 8 9 10 [(3,some 29),(8,some 34)] (fun wi HB=>?_)<|aP 7 10 11 [(9,some 35)] (fun wi HB=>?_)<|aP 6 11 12 [(10,some 36)] (fun wi HB=>?_)<|aP 5 12 13 [(10,some 36),(11,some 37)] (fun wi HB=>?_)<|aP 4 13 14 [(10,some 36)] (fun wi HB=>?_)<|aP 3 14 15 [(10,some 36),(13,some 39)] (fun wi HB=>?_)<|aP 2 15 16 [(10,some 36),(12,some 38),(14,some 40)] (fun wi HB=>?_)<|aP 1 16 17 [(10,some 36),(15,some 41)] (fun wi HB=>?_)<|aP 0 17 18 [(16,some 42)] (fun wi HB=>?_)<|Ix.aC
  (·((repeat(refine aB ?_;rintro _ rfl));refine aF ?_;(try simp only [aj]);refine Ix.ah rfl rfl fun K hK=>?_;(try simp only [aj]at hK);go_wp2_with(first|fail);exact hK _ _ (Below.refl _ _) rfl))
  (·(have hx:=dD.out.2.1.keep HB.out;have p0:=hx.cell 0;have p1:=hx.cell 1;have pl:=hx.lt;have hy:=dD.out.2.2.1.keep HB.out;have s0:=hy.cell 0;have s1:=hy.cell 1;have sl:=hy.lt;have hz:=dD.out.2.2.2.2.1.keep HB.out;have t0:=hz.cell 0;have t1:=hz.cell 1;have tl:=hz.lt;have hu:=dD.out.2.2.2.2.2.1.keep HB.out;have f0:=hu.cell 0;have fl:=hu.lt;clear hx hy hz hu;(repeat(refine aB ?_;rintro _ rfl));refine aF ?_;(try simp only [aj]);refine Ix.ah rfl rfl fun K hK=>?_;(try simp only [aj]at hK);go_wp2_with(first|fail);exact hK _ _ (Below.refl _ _) rfl))
  iterate 2(·((repeat(refine aB ?_;rintro _ rfl));refine aF ?_;(try simp only [aj]);refine Ix.ah rfl rfl fun K hK=>?_;(try simp only [aj]at hK);go_wp2_with(first|fail);exact hK _ _ (Below.refl _ _) rfl))
  (·(have hx:=dD.out.2.1.keep HB.out;have p0:=hx.cell 0;have p1:=hx.cell 1;have pl:=hx.lt;have hy:=dD.out.2.2.1.keep HB.out;have s0:=hy.cell 0;have s1:=hy.cell 1;have sl:=hy.lt;have hz:=dD.out.2.2.2.2.1.keep HB.out;have t0:=hz.cell 0;have t1:=hz.cell 1;have tl:=hz.lt;have hu:=dD.out.2.2.2.2.2.1.keep HB.out;have f0:=hu.cell 0;have fl:=hu.lt;clear hx hy hz hu;(repeat(refine aB ?_;rintro _ rfl));refine aF ?_;(try simp only [aj]);refine Ix.ah rfl rfl fun K hK=>?_;(try simp only [aj]at hK);go_wp2_with(first|fail);exact hK _ _ (Below.refl _ _) rfl))
  (·(have hx:=dD.out.2.1.keep HB.out;have p0:=hx.cell 0;have p1:=hx.cell 1;have pl:=hx.lt;have hy:=dD.out.2.2.1.keep HB.out;have s0:=hy.cell 0;have s1:=hy.cell 1;have sl:=hy.lt;have hz:=dD.out.2.2.2.2.1.keep HB.out;have t0:=hz.cell 0;have t1:=hz.cell 1;have tl:=hz.lt;have hu:=dD.out.2.2.2.2.2.1.keep HB.out;have f0:=hu.cell 0;have fl:=hu.lt;clear hx hy hz hu;(repeat(refine aB ?_;rintro _ rfl));refine aF ?_;(try simp only [aj]);refine Ix.ah rfl rfl fun K hK=>?_;(try simp only [aj]at hK);go_wp2_with(first|(go_at_call 12;refine(HR.out _ _ _ (dD.out.2.2.2.1.keep HB.out)).mono ?_;rintro e wa⟨hba,x0,x1,rfl,hpa⟩));exact hK _ _ hba ⟨_,_,rfl,hpa⟩))
  (·(have hx:=dD.out.2.1.keep HB.out;have p0:=hx.cell 0;have p1:=hx.cell 1;have pl:=hx.lt;have hy:=dD.out.2.2.1.keep HB.out;have s0:=hy.cell 0;have s1:=hy.cell 1;have sl:=hy.lt;have hz:=dD.out.2.2.2.2.1.keep HB.out;have t0:=hz.cell 0;have t1:=hz.cell 1;have tl:=hz.lt;have hu:=dD.out.2.2.2.2.2.1.keep HB.out;have f0:=hu.cell 0;have fl:=hu.lt;clear hx hy hz hu;(repeat(refine aB ?_;rintro _ rfl));refine aF ?_;(try simp only [aj]);refine Ix.ah rfl rfl fun K hK=>?_;(try simp only [aj]at hK);go_wp2_with(first|fail);exact hK _ _ (Below.refl _ _) rfl))
  (·(have hx:=dD.out.2.1.keep HB.out;have p0:=hx.cell 0;have p1:=hx.cell 1;have pl:=hx.lt;have hy:=dD.out.2.2.1.keep HB.out;have s0:=hy.cell 0;have s1:=hy.cell 1;have sl:=hy.lt;have hz:=dD.out.2.2.2.2.1.keep HB.out;have t0:=hz.cell 0;have t1:=hz.cell 1;have tl:=hz.lt;have hu:=dD.out.2.2.2.2.2.1.keep HB.out;have f0:=hu.cell 0;have fl:=hu.lt;clear hx hy hz hu;(repeat(refine aB ?_;rintro _ rfl));refine aF ?_;(try simp only [aj]);refine Ix.ah rfl rfl fun K hK=>?_;(try simp only [aj]at hK);go_wp2_with(first|(go_at_call 12;refine(HR.out _ _ _ (dD.out.2.2.2.2.2.2.keep HB.out)).mono ?_;rintro e wa⟨hba,x0,x1,rfl,hpa⟩));exact hK _ _ hba ⟨_,_,rfl,hpa⟩))
  (·(have hx:=dD.out.2.1.keep HB.out;have p0:=hx.cell 0;have p1:=hx.cell 1;have pl:=hx.lt;have hy:=dD.out.2.2.1.keep HB.out;have s0:=hy.cell 0;have s1:=hy.cell 1;have sl:=hy.lt;have hz:=dD.out.2.2.2.2.1.keep HB.out;have t0:=hz.cell 0;have t1:=hz.cell 1;have tl:=hz.lt;have hu:=dD.out.2.2.2.2.2.1.keep HB.out;have f0:=hu.cell 0;have fl:=hu.lt;clear hx hy hz hu;refine aB ?_;rintro _ rfl;refine aB ?_;rintro _⟨u0,u1,rfl,hu⟩;refine aB ?_;rintro _⟨u2,u3,rfl,hu2⟩;refine aF ?_;(try simp only [aj]);refine Ix.ah rfl rfl fun K hK=>?_;(try simp only [aj]at hK);go_wp2_with(first|(go_at_call 11;refine(Oy Q.bare _ _ _ _ _ hu hu2).mono ?_;rintro e wa⟨rfl,hba⟩));exact hK _ _ hba rfl))
  iterate 2(·((repeat(refine aB ?_;rintro _ rfl));refine aF ?_;(try simp only [aj]);refine Ix.ah rfl rfl fun K hK=>?_;(try simp only [aj]at hK);go_wp2_with(first|fail);exact hK _ _ (Below.refl _ _) rfl))
  (·(have hx:=dD.out.2.1.keep HB.out;have p0:=hx.cell 0;have p1:=hx.cell 1;have pl:=hx.lt;have hy:=dD.out.2.2.1.keep HB.out;have s0:=hy.cell 0;have s1:=hy.cell 1;have sl:=hy.lt;have hz:=dD.out.2.2.2.2.1.keep HB.out;have t0:=hz.cell 0;have t1:=hz.cell 1;have tl:=hz.lt;have hu:=dD.out.2.2.2.2.2.1.keep HB.out;have f0:=hu.cell 0;have fl:=hu.lt;clear hx hy hz hu;(repeat(refine aB ?_;rintro _ rfl));refine aF ?_;(try simp only [aj]);refine Ix.ah rfl rfl fun K hK=>?_;(try simp only [aj]at hK);go_wp2_with(first|fail);exact hK _ _ (Below.refl _ _) rfl))
  (·(have hx:=dD.out.2.1.keep HB.out;have p0:=hx.cell 0;have p1:=hx.cell 1;have pl:=hx.lt;have hy:=dD.out.2.2.1.keep HB.out;have s0:=hy.cell 0;have s1:=hy.cell 1;have sl:=hy.lt;have hz:=dD.out.2.2.2.2.1.keep HB.out;have t0:=hz.cell 0;have t1:=hz.cell 1;have tl:=hz.lt;have hu:=dD.out.2.2.2.2.2.1.keep HB.out;have f0:=hu.cell 0;have fl:=hu.lt;clear hx hy hz hu;(repeat(refine aB ?_;rintro _ rfl));refine aF ?_;(try simp only [aj]);refine Ix.ah rfl rfl fun K hK=>?_;(try simp only [aj]at hK);go_wp2_with(first|(go_at_call 13;refine(HN.out _ _ _ (dD.out.2.2.2.1.keep HB.out)).mono ?_;rintro e wa⟨rfl,hba⟩));exact hK _ _ hba rfl))
  (·(have hx:=dD.out.2.1.keep HB.out;have p0:=hx.cell 0;have p1:=hx.cell 1;have pl:=hx.lt;have hy:=dD.out.2.2.1.keep HB.out;have s0:=hy.cell 0;have s1:=hy.cell 1;have sl:=hy.lt;have hz:=dD.out.2.2.2.2.1.keep HB.out;have t0:=hz.cell 0;have t1:=hz.cell 1;have tl:=hz.lt;have hu:=dD.out.2.2.2.2.2.1.keep HB.out;have f0:=hu.cell 0;have fl:=hu.lt;clear hx hy hz hu;(repeat(refine aB ?_;rintro _ rfl));refine aF ?_;(try simp only [aj]);refine Ix.ah rfl rfl fun K hK=>?_;(try simp only [aj]at hK);go_wp2_with(first|fail);exact hK _ _ (Below.refl _ _) rfl))
  (·(have hx:=dD.out.2.1.keep HB.out;have p0:=hx.cell 0;have p1:=hx.cell 1;have pl:=hx.lt;have hy:=dD.out.2.2.1.keep HB.out;have s0:=hy.cell 0;have s1:=hy.cell 1;have sl:=hy.lt;have hz:=dD.out.2.2.2.2.1.keep HB.out;have t0:=hz.cell 0;have t1:=hz.cell 1;have tl:=hz.lt;have hu:=dD.out.2.2.2.2.2.1.keep HB.out;have f0:=hu.cell 0;have fl:=hu.lt;clear hx hy hz hu;(repeat(refine aB ?_;rintro _ rfl));refine aF ?_;(try simp only [aj]);refine Ix.ah rfl rfl fun K hK=>?_;(try simp only [aj]at hK);go_wp2_with(first|(go_at_call 13;refine(HM.out _ _ _ (iU.out.keep HB.out)).mono ?_;rintro e wa⟨rfl,hba⟩));exact hK _ _ hba rfl))
  iterate 3(·((repeat(refine aB ?_;rintro _ rfl));refine aF ?_;(try simp only [aj]);refine Ix.ah rfl rfl fun K hK=>?_;(try simp only [aj]at hK);go_wp2_with(first|fail);exact hK _ _ (Below.refl _ _) rfl))
 intro lM wf HF hdf
 refine au 17 0 1 ?_;rintro _ _ rfl;refine au 16 1 2 ?_;rintro _ _ rfl;refine au 15 2 3 ?_;rintro _ _ rfl;refine au 14 3 4 ?_;rintro _ _ rfl;refine au 13 4 5 ?_;rintro _ _ rfl;refine au 12 5 6 ?_;rintro _ _⟨u0,u1,rfl,hu⟩;refine au 11 6 7 ?_;rintro _ _ rfl;refine au 10 7 8 ?_;rintro _ _⟨u2,u3,rfl,hu2⟩;refine au 9 8 9 ?_;rintro _ _ rfl;refine au 8 9 10 ?_;rintro _ _ rfl;refine au 7 10 11 ?_;rintro _ _ rfl;refine au 6 11 12 ?_;rintro _ _ rfl;refine au 5 12 13 ?_;rintro _ _ rfl;refine au 4 13 14 ?_;rintro _ _ rfl;refine au 3 14 15 ?_;rintro _ _ rfl;refine au 2 15 16 ?_;rintro _ _ rfl;refine au 1 16 17 ?_;rintro _ _ rfl;refine au 0 17 18 ?_;rintro _ _ rfl
 refine Ix.aI ?_
 (try simp only [Act.put,List.setIfInBounds_toArray,List.set_cons_zero,List.set_cons_succ,List.drop_succ_cons,List.drop_zero])
 refine Ix.nil ?_
 go_wp2
 go_ret
 exact⟨rfl,Ext.trans dD.out.1 HF.out⟩
theorem LH(w:World)(P0:Pg)(v0 v1:Value)(hp:bM w (fun _=>True) P0 v0 v1)(hw:Pg.Wf P0):Calls Try.prog 4 #[.agg #[v0,v1]] w (Eb w):=by
 obtain⟨a0,c0,e0,_⟩:=hp.1.parts
 obtain⟨a1,c1,e1,_⟩:=hp.2.parts
 subst e0 e1
 by_cases h0:(Ck.check P0).1=0
 ·have hz:=(Ck.dS.1 h0).1
  have hr:=Pg.uY hw hz
  have hw2:=Pg.fold_wf hw hz
  have hc2:=Ck.Ec hw h0
  have hff:=Pg.iQ hw hz
  have got:∀(w1:World)(R:Pg)(er at':Int)(e:Ending)(w':World),er=0→XE w1 R er at' e w'→∃a2 n2 c2 a3 n3 c3,e= .returned (.tuple #[.agg #[.slice a2 n2 c2, .slice a3 n3 c3], .agg #[.int .i64 0, .int .i64 0]])∧bM w' (fun _=>True) R.fold (.slice a2 n2 c2) (.slice a3 n3 c3)∧Below w1.heap.size w1 w':=fun w1 R er at' e w' h h2=>by
   obtain⟨hb,⟨h3,_⟩|⟨_,u0,u1,rfl,hq⟩⟩:=h2
   ·exact absurd h h3
   ·obtain⟨a2,c2,e2,_⟩:=hq.1.parts
    obtain⟨a3,c3,e3,_⟩:=hq.2.parts
    subst e2 e3
    exact⟨_,_,_,_,_,_,rfl,hq,hb⟩
  exact Ed w P0 _ _ _ _ _ _ P0.fold _ _ (Int.ofNat_le.2 hr.2) hp (fun w1 hb=>(uZ w1 P0 _ _ (hp.keep hb) hw).mono fun e w' h=>got _ _ _ _ _ _ h0 h)
   (fun w1 u0 u1 hq=>(uZ w1 P0.fold _ _ hq hw2).mono fun e w' h=>by have h:=got _ _ _ _ _ _ hc2 h;rw [hff]at h;exact h)
   (fun w1 u0 u1 hq=>LJ w1 P0.fold _ _ hq hr.1) (fun w1 u0 u1 hq=>AU P0.fold _ _ w1 _ hq hw2 hr.1) (fun w1 u0 u1 hq=>AU P0 _ _ w1 _ hq hw hz)
 ·exact Ik w P0 _ _ _ _ _ _ _ _ h0 (fun w1 hb=>uZ w1 P0 _ _ (hp.keep hb) hw) (fun w1 hb=>dS w1 P0 _ _ (hp.keep hb) hw)
end Go.Proofs.Ythdckndjggljpaa
