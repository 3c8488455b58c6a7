/- Proofs of this claim, part 48. No condition. -/
import Derived.Test.YthdckndjggljpaaS47
namespace Go.Proofs.Ythdckndjggljpaa
set_option linter.unusedVariables false
set_option linter.unusedSimpArgs false
set_option maxRecDepth 100000
set_option maxHeartbeats 64000000
open Go.RowKit Go.Maps
def XE(w:World)(P0:Pg)(er at':Int)(e:Ending)(w':World):Prop:=Below w.heap.size w w'∧
 ((er≠0∧e= .returned (.tuple #[.agg #[.slice none 0 0, .slice none 0 0], .agg #[.int .i64 er, .int .i64 at']]))∨
  (er=0∧∃v0 v1,e= .returned (.tuple #[.agg #[v0,v1], .agg #[.int .i64 0, .int .i64 0]])∧bM w' (fun _=>True) P0.fold v0 v1))
structure BP(w wr:World)(v0 v1:Value):Prop where
 bel:Below w.heap.size w wr
 bx:ak wr w.heap.size 25 #[v0,v1]
 b2:ak wr (w.heap.size+1) 25 #[.slice none 0 0, .slice none 0 0]
 b3:ak wr (w.heap.size+1+1) 29 #[.int .i64 0, .int .i64 0]
theorem BP.keep{w wr w':World}{v0 v1:Value}(h:BP w wr v0 v1)(hb:Below wr.heap.size wr w'):BP w w' v0 v1:=⟨Ext.trans h.bel hb,h.bx.keep hb,h.b2.keep hb,h.b3.keep hb⟩
theorem BP.grown{w wr w':World}{v0 v1:Value}{row:Option Nat}(h:BP w wr v0 v1)(hg:wr.grownBy w' row)(hr:∀k,row=some k→w.heap.size+1+1<k):BP w w' v0 v1:=by
 have f:∀k t cs,k≤w.heap.size+1+1→ak wr k t cs→ak w' k t cs:=fun k t cs hk hb=>hb.grown hg (fun e=>by have:=hr k e.symm;omega)
 exact⟨⟨hg.os.trans h.bel.os,hg.tape.trans h.bel.tape,hg.output.trans h.bel.output,Nat.le_trans h.bel.size hg.size,fun k hk=>(hg.block k (Nat.lt_of_lt_of_le hk h.bel.size) (fun e=>by have:=hr k e.symm;omega)).trans (h.bel.block k hk)⟩,f _ _ _ (by omega) h.bx,f _ _ _ (by omega) h.b2,f _ _ _ (by omega) h.b3⟩
theorem BP.start(w:World)(v0 v1:Value):BP w (((w.alloc (.cells #[v0,v1] 25)).alloc (.cells #[.slice none 0 0, .slice none 0 0] 25)).alloc (.cells #[.int .i64 0, .int .i64 0] 29)) v0 v1:=
 ⟨Ext.alloc (Ext.alloc (Ext.alloc (Below.refl _ _) _) _) _,((ak.new _ _ _).alloc _).alloc _,(ak.newAt _ _ (by simp)).alloc _,ak.newAt _ _ (by simp)⟩
theorem IU(w:World)(P0:Pg)(a0:Option Addr)(n0 c0:Nat)(a1:Option Addr)(n1 c1:Nat)(er at':Int)(hC:∀w1,Below w.heap.size w w1→Calls Try.prog 6 #[.agg #[.slice a0 n0 c0, .slice a1 n1 c1]] w1 fun e w'=>e= .returned (.agg #[.int .i64 er, .int .i64 at'])∧Below w1.heap.size w1 w')(h0:er≠0):Calls Try.prog 10 #[.agg #[.slice a0 n0 c0, .slice a1 n1 c1]] w (XE w P0 er at'):=by
 have HB:=Lib.hid (BP.start w (.slice a0 n0 c0) (.slice a1 n1 c1))
 have HC:=Lib.hid hC
 have q:(er !=0)=true:=by simpa using h0
 have H0:=Lib.hid h0
 clear hC h0
 go_enter Try.func10,Try.ntmps10
 go_upto_region 1 with(fail)
 generalize hw3:World.alloc (World.alloc (World.alloc w _) _) _=w3
 rw [hw3]at HB
 clear hw3
 have p0:=HB.out.bx.cell 0;have p1:=HB.out.bx.cell 1;have pl:=HB.out.bx.lt
 go_upto_region 2 with(first|(go_at_call 6;refine(HC.out _ HB.out.bel).mono ?_;rintro e w4⟨rfl,hb4⟩;have HB4:=Lib.hid (HB.out.keep hb4);clear hb4))
 generalize hw5:World.alloc w4 _=w5
 have gU:Hid (BP w w5 (.slice a0 n0 c0) (.slice a1 n1 c1)∧ak w5 w4.heap.size 29 #[.int .i64 er, .int .i64 at']):=by
  subst hw5;exact⟨HB4.out.keep (Ext.alloc (Below.refl _ _) _),ak.new _ _ _⟩
 have x0:=gU.out.2.cell 0;have x1:=gU.out.2.cell 1;have xl:=gU.out.2.lt
 have y0:=gU.out.1.b2.cell 0;have y1:=gU.out.1.b2.cell 1;have z0:=gU.out.1.b2.frozen 0;have z1:=gU.out.1.b2.frozen 1;have yl:=gU.out.1.b2.lt
 have f0:=gU.out.1.b3.cell 0;have f1:=gU.out.1.b3.cell 1;have f2:=gU.out.1.b3.frozen 0;have f3:=gU.out.1.b3.frozen 1;have f4:=gU.out.1.b3.lt
 clear hw5 p0 p1 pl
 have hlt:w.heap.size+1+1<w4.heap.size:=HB4.out.b3.lt
 obtain⟨g4,hg4⟩:∃g,g=w4.heap.size:=⟨_,rfl⟩
 rw [←hg4]at gU x0 x1 xl hlt⊢
 clear hg4
 go_upto_region 3 with(fail)
 go_region
 go_wp2
 generalize hW:World.drew (World.setCell _ _ _)=wz
 have HW:Hid (ak wz (w.heap.size+1) 25 #[.slice none 0 0, .slice none 0 0]∧ak wz (w.heap.size+1+1) 29 #[.int .i64 er, .int .i64 at']∧Below w.heap.size w wz):=by
  subst hW
  refine⟨?_,?_,?_⟩
  ·exact((aW gU.out.1.b2 _ _).far (by show w.heap.size+1≠w.heap.size+1+1;omega) _).far (by show w.heap.size+1≠w.heap.size+1+1;omega) _
  ·exact aW ((gU.out.1.b3.far (by show w.heap.size+1+1≠w.heap.size+1;omega) _).far (by show w.heap.size+1+1≠w.heap.size+1;omega) _) _ _
  ·exact Ext.drew (Ext.setCell (Ext.setCell (Ext.setCell (Ext.setCell gU.out.1.bel (Nat.le_succ _) _) (Nat.le_succ _) _) (show w.heap.size≤w.heap.size+1+1 by omega) _) (show w.heap.size≤w.heap.size+1+1 by omega) _)
 clear hW x0 x1 xl y0 y1 z0 z1 yl f0 f1 f2 f3 f4
 have q0:=HW.out.1.cell 0;have q1:=HW.out.1.cell 1;have ql:=HW.out.1.lt
 have r0:=HW.out.2.1.cell 0;have r1:=HW.out.2.1.cell 1;have rl:=HW.out.2.1.lt
 exact bodyPost_ret (v:= .tuple #[.agg #[.slice none 0 0, .slice none 0 0], .agg #[.int .i64 er, .int .i64 at']]) (by simp [results,Try.results10,go_sem,q0,q1,ql,r0,r1,rl]) rfl ⟨HW.out.2.2, .inl ⟨H0.out,rfl⟩⟩
theorem nX{B:Nat}{w w1 w2:World}{row:Option Nat}(h:Below B w w1)(hg:w1.grownBy w2 row)(hr:∀k,row=some k→B≤k)(hB:B≤w1.heap.size):Below B w w2:=
 ⟨hg.os.trans h.os,hg.tape.trans h.tape,hg.output.trans h.output,Nat.le_trans h.size hg.size,fun k hk=>(hg.block k (Nat.lt_of_lt_of_le hk hB) (fun e=>by have:=hr k e.symm;omega)).trans (h.block k hk)⟩
theorem BP.set{w wr:World}{v0 v1:Value}(h:BP w wr v0 v1){g o:Nat}(hg:w.heap.size+1+1<g)(u:Value):BP w (wr.setCell ⟨g,o,none⟩ u) v0 v1:=
 ⟨Ext.setCell h.bel (show w.heap.size≤g by omega) _,h.bx.far (by show w.heap.size≠g;omega) _,h.b2.far (by show w.heap.size+1≠g;omega) _,h.b3.far (by show w.heap.size+1+1≠g;omega) _⟩
theorem UJ{g:Gl}{N:Nat}(h:(Pg.gl g N).1=0):g.ini.length≤8000:=by
 unfold Pg.gl at h
 split at h
 ·rename_i c;exact absurd h c
 split at h
 ·exact absurd h (show¬(3:Int)=0 by decide)
 rename_i c2
 split at h
 ·exact absurd h (show¬(5:Int)=0 by decide)
 rename_i c3
 omega
theorem GH{gs:List Gl}:∀{N:Nat},(Pg.gls gs N).1=0→∀g∈gs,g.ini.length≤8000:=by
 induction gs with
 |nil=>intro N _ g hg;simp at hg
 |cons g gs ih=>
  intro N h
  rw [Pg.gls]at h
  split at h
  ·rename_i h1
   intro q hq
   rcases List.mem_cons.1 hq with rfl|hq
   ·exact UJ h1
   ·exact ih h q hq
  ·rename_i h1;exact absurd h h1
structure Yj(w wr:World)(v0 v1:Value)(b5:Nat)(gs:List Gl)(a:Option Addr)(c:Nat):Prop where
 b:BP w wr v0 v1
 p5:ak wr b5 25 #[.slice a gs.length c, .slice none 0 0]
 lt:w.heap.size+1+1<b5
 o:cZ (fun k=>k<w.heap.size∨b5<k) wr (b5+1) 36 5 LG gs a c
structure Zl(w w2 wr:World)(v0 v1 u:Value)(b5:Nat)(fs:List Fn)(a:Option Addr)(c:Nat):Prop where
 b:BP w wr v0 v1
 p5:ak wr b5 25 #[u, .slice a fs.length c]
 ch:aH b5 w2 wr
 o:cZ (fun k=>k<w.heap.size∨b5<k) wr w2.heap.size 40 5 LF fs a c
theorem GL:(Try.prog.info? 36).map (fun i=>(i.zero,i.size,i.bytes))=some (some (.agg #[.int .i64 0, .bool false, .string ⟨#[]⟩, .int .i64 0, .slice none 0 0]),5,64):=by kernel_rfl
theorem G8:(Try.prog.info? 40).map (fun i=>(i.zero,i.size,i.bytes))=some (some (.agg #[.string ⟨#[]⟩, .int .i64 0, .bool false, .slice none 0 0, .slice none 0 0]),5,80):=by kernel_rfl
theorem RP:(Try.prog.info? 62).map (fun i=>(i.zero,i.size,i.bytes))=some (some (.agg #[.int .i64 0, .int .u64 0, .int .i64 0, .bool false, .string ⟨#[]⟩, .slice none 0 0]),6,72):=by kernel_rfl
theorem Yj.next{w wr oH rO w16:World}{v0 v1:Value}{b5:Nat}{gs:List Gl}{a a':Option Addr}{c c':Nat}{g:Gl}(h:Yj w wr v0 v1 b5 gs a c)(qc:Below wr.heap.size wr oH)(h15:Below oH.heap.size oH rO)
 (hlo:∀k,(Value.slice a gs.length c).ownBlock=some k→b5+1≤k∧k<rO.heap.size)(hg:rO.grownBy w16 (Value.slice a gs.length c).ownBlock)(hq:cZ (fun k=>k<w.heap.size∨b5<k) w16 (b5+1) 36 5 LG (gs++[g]) a' c'):
 Yj w (w16.setCell ⟨b5,0,none⟩ (.slice a' (gs++[g]).length c')) v0 v1 b5 (gs++[g]) a' c':=by
 have k1:=(h.b.keep qc).keep h15
 have k2:=(h.p5.keep qc).keep h15
 have hr:∀k,(Value.slice a gs.length c).ownBlock=some k→w.heap.size+1+1<k:=fun k hk=>by have:=(hlo k hk).1;have:=h.lt;omega
 have k3:ak w16 b5 25 _:=k2.grown hg (fun e=>by have:=(hlo b5 e.symm).1;omega)
 refine⟨(k1.grown hg hr).set h.lt _,by simpa using k3.dJ 0 (.slice a' (gs++[g]).length c'),h.lt,hq.bC A8 (fun k hk=>by have:=h.lt;omega) (Nat.lt_succ_self _) ((aH.of_below (Below.refl _ _)).setCell 0 _)⟩
theorem Zl.next{w w2 wr oH rO w16:World}{v0 v1 u:Value}{b5:Nat}{fs:List Fn}{a a':Option Addr}{c c':Nat}{f:Fn}(h:Zl w w2 wr v0 v1 u b5 fs a c)(hb5:w.heap.size+1+1<b5)(h5:b5<w2.heap.size)(qc:Below wr.heap.size wr oH)(h15:Below oH.heap.size oH rO)
 (hlo:∀k,(Value.slice a fs.length c).ownBlock=some k→w2.heap.size≤k∧k<rO.heap.size)(hg:rO.grownBy w16 (Value.slice a fs.length c).ownBlock)(hq:cZ (fun k=>k<w.heap.size∨b5<k) w16 w2.heap.size 40 5 LF (fs++[f]) a' c'):
 Zl w w2 (w16.setCell ⟨b5,1,none⟩ (.slice a' (fs++[f]).length c')) v0 v1 u b5 (fs++[f]) a' c':=by
 have k1:=(h.b.keep qc).keep h15
 have k2:=(h.p5.keep qc).keep h15
 have hr:∀k,(Value.slice a fs.length c).ownBlock=some k→w.heap.size+1+1<k:=fun k hk=>by have:=(hlo k hk).1;omega
 have k3:ak w16 b5 25 _:=k2.grown hg (fun e=>by have:=(hlo b5 e.symm).1;omega)
 have c15:aH b5 w2 rO:=(h.ch.trans (aH.of_below qc)).trans (aH.of_below h15)
 have c16:aH b5 w2 w16:=⟨hg.os.trans c15.os,hg.tape.trans c15.tape,hg.output.trans c15.output,Nat.le_trans c15.size hg.size,fun k hk hne=>(hg.block k (Nat.lt_of_lt_of_le hk c15.size) (fun e=>by have:=(hlo k e.symm).1;omega)).trans (c15.block k hk hne)⟩
 exact⟨(k1.grown hg hr).set hb5 _,by simpa using k3.dJ 1 (.slice a' (fs++[f]).length c'),c16.setCell 1 _,hq.bC uQ (fun k hk=>by omega) h5 ((aH.of_below (Below.refl _ _)).setCell 1 _)⟩
theorem ED(w:World)(P0:Pg)(a0:Option Addr)(c0:Nat)(a1:Option Addr)(c1:Nat)(at':Int)(hC:∀w1,Below w.heap.size w w1→Calls Try.prog 6 #[.agg #[.slice a0 P0.gs.length c0, .slice a1 P0.fs.length c1]] w1 fun e w'=>e= .returned (.agg #[.int .i64 0, .int .i64 at'])∧Below w1.heap.size w1 w')
 (hP:bM w (fun _=>True) P0 (.slice a0 P0.gs.length c0) (.slice a1 P0.fs.length c1))(hw:Pg.Wf P0)(hz:Pg.wrong P0=0):Calls Try.prog 10 #[.agg #[.slice a0 P0.gs.length c0, .slice a1 P0.fs.length c1]] w (XE w P0 0 at'):=by
 obtain⟨hfl,hgl,hga,hfa⟩:=jB hz
 have hgi:∀g∈P0.gs,g.ini.length≤8000:=by
  have h:=hz
  unfold Pg.wrong at h
  rw [if_neg (by omega)]at h
  exact GH (bg h).1
 have h0c:P0.gs.length≤c0:=by obtain⟨a,c,e,x,_⟩:=hP.1.parts;injection e with _ _ e;subst e;exact x
 have h1c:P0.fs.length≤c1:=by obtain⟨a,c,e,x,_⟩:=hP.2.parts;injection e with _ _ e;subst e;exact x
 obtain⟨n0,hn0⟩:∃n,n=P0.gs.length:=⟨_,rfl⟩
 obtain⟨n1,hn1⟩:∃n,n=P0.fs.length:=⟨_,rfl⟩
 have hPl:bM w (·<w.heap.size) P0 (.slice a0 P0.gs.length c0) (.slice a1 P0.fs.length c1):=hP.move fun k _ hk=>⟨hk,rfl⟩
 rw [←hn0,←hn1]at hPl hC⊢
 rw [←hn0]at h0c hgl
 rw [←hn1]at h1c hfl
 have Un:(n0:Int)≤(c0:Int):=by omega
 have Uo:(n1:Int)≤(c1:Int):=by omega
 have HB:=Lib.hid (BP.start w (.slice a0 n0 c0) (.slice a1 n1 c1))
 have HC:=Lib.hid hC
 have HP:=Lib.hid hPl
 have HN:=Lib.hid (And.intro hn0 hn1)
 have l9:=Lib.hid hga
 have SG:=Lib.hid hfa
 have HGI:=Lib.hid hgi
 have Gh:=Lib.hid hw
 clear hC hP hPl hw hz hga hfa hgi hn0 hn1 h0c h1c
 go_enter Try.func10,Try.ntmps10
 go_upto_region 1 with(fail)
 generalize hw3:World.alloc (World.alloc (World.alloc w _) _) _=w3
 rw [hw3]at HB
 clear hw3
 have p0:=HB.out.bx.cell 0;have p1:=HB.out.bx.cell 1;have pl:=HB.out.bx.lt
 go_upto_region 2 with(first|(go_at_call 6;refine(HC.out _ HB.out.bel).mono ?_;rintro e w4⟨rfl,hb4⟩;have HB4:=Lib.hid (HB.out.keep hb4);clear hb4))
 generalize hw5:World.alloc w4 _=w5
 have gU:Hid (BP w w5 (.slice a0 n0 c0) (.slice a1 n1 c1)∧ak w5 w4.heap.size 29 #[.int .i64 0, .int .i64 at']):=by
  subst hw5;exact⟨HB4.out.keep (Ext.alloc (Below.refl _ _) _),ak.new _ _ _⟩
 have x0:=gU.out.2.cell 0;have xl:=gU.out.2.lt
 clear hw5 p0 p1 pl
 go_upto_region 5 with(fail)
 obtain⟨b5,hb5⟩:∃b,b=w5.heap.size:=⟨_,rfl⟩
 generalize hw6:World.alloc w5 _=w6
 have xQ:Hid (Yj w w6 (.slice a0 n0 c0) (.slice a1 n1 c1) b5 [] none 0):=by
  subst hw6;rw [hb5]
  exact⟨gU.out.1.keep (Ext.alloc (Below.refl _ _) _),ak.new _ _ _,gU.out.1.b3.lt,cZ.nil _ _ _ _ _ _⟩
 rw [←hb5]
 clear hw6 hb5 x0 xl
 have p0:=xQ.out.b.bx.cell 0;have pl:=xQ.out.b.bx.lt
 go_upto_region 6 with(fail)
 go_loopw [23](fun iv wr=>∃(j:Nat),j≤n0∧iv= .int .i64 (j:Int)∧Hid (∃a c,Yj w wr (.slice a0 n0 c0) (.slice a1 n1 c1) b5 ((P0.gs.take j).map Gl.fold) a c))(fun iv wr=>n0-(intOf iv).toNat)
 case atStart=>exact⟨0,Nat.zero_le _,rfl,none,0,by rw [List.take_zero];exact xQ.out⟩
 case round=>
  obtain⟨j,hj,rfl,YX⟩:=hrel
  obtain⟨oa,oc,hG⟩:=YX.out
  obtain⟨AC,tX⟩:∃AC,AC=(P0.gs.take j).map Gl.fold:=⟨_,rfl⟩
  rw [←tX]at hG
  have HG:=Lib.hid hG
  have Ar:=Lib.hid tX
  have KY:Hid (AC.length=j):=by show _=_;rw [tX,List.length_map,List.length_take];have:=HN.out.1;omega
  obtain⟨nr,hnr⟩:∃n,n=AC.length:=⟨_,rfl⟩
  have lI:=Lib.hid hnr
  clear hG tX hnr YX p0 pl
  have p0:=HG.out.b.bx.cell 0;have p1:=HG.out.b.bx.cell 1;have pl:=HG.out.b.bx.lt
  by_cases hlt:j<n0
  ·have hjl:j<P0.gs.length:=by rw [←HN.out.1];exact hlt
   obtain⟨g,hge⟩:∃g,P0.gs[j]?=some g:=⟨_,List.getElem?_eq_getElem hjl⟩
   have hgm:=List.mem_of_getElem? hge
   obtain⟨gg,go,cs,rfl,oI,⟨v,rfl,hrow⟩,hc⟩:=Row.IB HP.out.1 hge
   obtain⟨ia,ic,rfl,hic,VW,_⟩:=hrow.parts
   obtain⟨L,hL⟩:∃L,L=g.ini.length:=⟨_,rfl⟩
   rw [←hL]at hrow hc hic
   have hcw:∀i u,[Value.int .i64 g.b, .bool g.s, .string g.nm, .int .i64 g.size, .slice ia L ic][i]?=some u→wr.cell? ⟨gg,go+j*5+i,none⟩=some u:=fun i u hu=>by
    rw [Below.cell (p:=⟨gg,go+j*5+i,none⟩) HG.out.b.bel oI];exact hc i u hu
   have k0:=hcw 0 _ rfl;have k1:=hcw 1 _ rfl;have k2:=hcw 2 _ rfl;have k3:=hcw 3 _ rfl;have k4:=hcw 4 _ rfl
   rw [Nat.add_zero]at k0
   have kl:=World.block_lt_of_cell? _ _ k0
   have Et:=Lib.hid hrow
   have Lp:=Lib.hid (Gh.out.gs g hgm)
   have wS:=Lib.hid (l9.out g hgm)
   have tu:=Lib.hid hL
   have kZ:Hid ((P0.gs.take (j+1)).map Gl.fold=AC++[g.fold]):=by
    show _=_
    rw [List.take_add_one,hge,List.map_append,Ar.out];rfl
   have hL8:L≤8000:=by rw [hL];exact HGI.out g hgm
   have RY:(L:Int)≤(ic:Int):=by omega
   clear hgm hge hjl hrow hc hcw oI hL hic VW
   go_upto_region 8 with(fail)
   obtain⟨b7,hb7⟩:∃b,b=wr.heap.size:=⟨_,rfl⟩
   generalize hw7:World.alloc wr _=w7
   have iO:Hid (Below wr.heap.size wr w7∧ak w7 b7 36 #[.int .i64 g.b, .bool g.s, .string g.nm, .int .i64 g.size, .slice ia L ic]∧b7=wr.heap.size):=by
    subst hw7;rw [hb7];exact⟨Ext.alloc (Below.refl _ _) _,ak.new _ _ _,rfl⟩
   rw [←hb7]
   clear hw7 hb7 k0 k1 k2 k3 k4 kl p0 p1 pl
   have t4:=iO.out.2.1.cell 4;have tl:=iO.out.2.1.lt
   go_upto_region 10 with(fail)
   obtain⟨W0,rfl⟩:∃W0,W0=wr:=⟨_,rfl⟩
   go_loopw [8,30](fun lv kv wr=>∃(k:Nat)(a:Option Addr)(c:Nat),k≤L∧kv= .int .i64 (k:Int)∧lv= .slice a k c∧Hid (Below w7.heap.size w7 wr∧cZ (fun q=>w7.heap.size≤q) wr w7.heap.size 62 6 LX ((g.ini.take k).map X.fold) a c))(fun lv kv wr=>L-(intOf kv).toNat)
   case atStart=>exact⟨0,none,0,Nat.zero_le _,rfl,rfl,Below.refl _ _,by rw [List.take_zero];exact cZ.nil _ _ _ _ _ _⟩
   case round=>
    obtain⟨k,ra,rc,hk,rfl,rfl,HI⟩:=hrel
    have Wu:=Lib.hid HI.out.1
    have HQi:=Lib.hid HI.out.2
    clear HI t4 tl
    have TI:=Lib.hid (iO.out.2.1.keep Wu.out)
    have t4:=TI.out.cell 4;have tl:=TI.out.lt
    have HWI:Hid (Below W0.heap.size W0 W0):=Below.refl _ _
    have YZ:Hid (Below w.heap.size w wr):=Ext.trans (Ext.trans HG.out.b.bel iO.out.1) Wu.out
    have HKK:Hid (((g.ini.take k).map X.fold).length=k):=by show _=_;rw [List.length_map,List.length_take];have:=tu.out;omega
    by_cases hkl:k<L
    ·obtain⟨x,hx⟩:∃x,g.ini[k]?=some x:=⟨_,List.getElem?_eq_getElem (by rw [←tu.out];exact hkl)⟩
     have hxm:=List.mem_of_getElem? hx
     obtain⟨xg,xo,xs,rfl,hxb,hxs,hxc⟩:=Row.IB Et.out hx
     obtain⟨xa,xz,rfl,_⟩:=hxs.at.open
     have hxw:∀i u,(X.cells x.kind x.num x.bits x.sg x.name (.slice xa x.kids.length xz))[i]?=some u→wr.cell? ⟨xg,xo+k*6+i,none⟩=some u:=fun i u hu=>by
      rw [Below.cell (p:=⟨xg,xo+k*6+i,none⟩) YZ.out hxb];exact hxc i u hu
     have y0:=hxw 0 _ rfl;have y1:=hxw 1 _ rfl;have y2:=hxw 2 _ rfl;have y3:=hxw 3 _ rfl;have y4:=hxw 4 _ rfl;have y5:=hxw 5 _ rfl
     rw [Nat.add_zero]at y0
     have yl:=World.block_lt_of_cell? _ _ y0
     have XG:Hid (∀w1,Below w.heap.size w w1→Calls Try.prog 20 #[.agg #[.int .i64 x.kind, .int .u64 x.num, .int .i64 x.bits, .bool x.sg, .string x.name, .slice xa x.kids.length xz]] w1 (zO (X.fold x) w1)):=fun w1 hb=>zI x (wS.out.2.2.2 x hxm) (Lp.out.ini x hxm) w1 _ (hxs.move (fun q hq _=>⟨hq,hb.block q hq⟩):dA w1 (·<w.heap.size) x _).at
     have Z9:Hid ((g.ini.take (k+1)).map X.fold=(g.ini.take k).map X.fold++[X.fold x]):=by
      show _=_
      rw [List.take_add_one,hx,List.map_append];rfl
     obtain⟨AX,VZ⟩:∃AX,AX=(g.ini.take k).map X.fold:=⟨_,rfl⟩
     rw [←VZ]at Z9 HQi HKK
     clear hx hxm hxb hxs hxc hxw VZ
     go_wp2_with(first|(go_at_call 20;refine(XG.out _ (Ext.alloc YZ.out _)).mono ?_;intro e w8 hx;obtain⟨z0,z1,z2,z3,z4,z5,rfl,hz,hb8⟩:=hx.six (N:=wr.heap.size) (by simp);have nU:Hid (Below wr.heap.size wr w8):=Ext.trans (Ext.alloc (Below.refl _ _) _) hb8;have HZ8:=Lib.hid hz;clear hx hz hb8)|(obtain⟨lg,hof,hlo,hnx⟩:=cZ.BZ D6 HQi.out nU.out (Ext.alloc (Below.refl _ _) (.cells #[z0,z1,z2,z3,z4,z5] 62)) (HZ8.out.move (fun q hq _=>⟨⟨(by have:=Wu.out.size;omega), .inr hq⟩,rfl⟩):LX w8 _ (X.fold x) [z0,z1,z2,z3,z4,z5]);rw [HKK.out]at hof hnx;refine aS rfl _ _ 34 62 6 72 _ rfl Try.underlying34 RP rfl (by decide) (by decide) w7.heap.size (.slice ra k rc) k (flat lg k) w8.heap.size [z0,z1,z2,z3,z4,z5] rfl rfl hof rfl (ak.at0 (ak.new _ _ _)) (dA.ones HZ8.out) (by omega) (by have h1:=Wu.out.size;have h2:=nU.out.size;simp;omega) ?_;intro a9 c9 w9 jm eG dF;have pY:=Lib.hid (hnx a9 c9 w9 jm eG dF);have uh:Hid (Below w7.heap.size w7 w9):=nX (Ext.alloc (Ext.trans Wu.out nU.out) _) eG (fun q hq=>(by rw [←HKK.out]at hq;exact(hlo q hq).1)) (by have h1:=Wu.out.size;have h2:=nU.out.size;simp;omega);clear hof hnx hlo jm eG dF))
     go_roundw
     case rel=>exact⟨k+1,a9,c9,by omega,by go_num,rfl,uh.out,by rw [Z9.out];exact pY.out⟩
     case measure=>simp [intOf];omega
    ·obtain rfl:k=L:=by omega
     have V4:Hid ((g.ini.take k).map X.fold=g.fold.ini):=by show _=g.ini.map X.fold;rw [tu.out,List.take_length]
     rw [V4.out]at HQi HKK
     have HR:Hid (Row wr (fun q=>w7.heap.size≤q) 6 (dA wr (fun q=>w7.heap.size≤q)) g.fold.ini (.slice ra k rc)):=by
      have h:=HQi.out.row D6 (fun q hq=>hq)
      rw [HKK.out]at h;exact h
     have t0:=TI.out.cell 0;have t1:=TI.out.cell 1;have t2:=TI.out.cell 2;have t3:=TI.out.cell 3;have t4f:=TI.out.frozen 4
     go_upto_region 15 with(fail)
     generalize OI:World.setCell wr _ _=oH
     have Y9:W0.heap.size=b7:=iO.out.2.2.symm
     have jA:Hid (Below W0.heap.size W0 oH∧ak oH b7 36 #[.int .i64 g.b, .bool g.s, .string g.nm, .int .i64 g.size, .slice ra k rc]∧kX oH (fun q=>(q<w.heap.size∨b5<q)∧(q<b5+1∨W0.heap.size≤q)) g.fold [.int .i64 g.b, .bool g.s, .string g.nm, .int .i64 g.size, .slice ra k rc]):=by
      subst OI
      have hsz:W0.heap.size<w7.heap.size:=by have:=iO.out.2.1.lt;omega
      have hl5:b5<W0.heap.size:=HG.out.p5.lt
      refine⟨Ext.setCell (Ext.trans iO.out.1 Wu.out) (Nat.le_of_eq Y9) _,by simpa using TI.out.dJ 4 (.slice ra k rc),⟨_,rfl,?_⟩⟩
      have hf:∀q,w7.heap.size≤q→q<wr.heap.size→((q<w.heap.size∨b5<q)∧(q<b5+1∨W0.heap.size≤q))∧(wr.setCell ⟨b7,4,none⟩ (.slice ra k rc)).heap[q]?=wr.heap[q]?:=fun q hq _=>⟨⟨.inr (by omega), .inr (by omega)⟩,Below.heap_setCell wr ⟨b7,4,none⟩ _ q (by show q≠b7;omega)⟩
      exact HR.out.move (fun y _ cs hy=>hy.move hf) (fun y _ cs hy e=>by have h:=hy.six;rw [e]at h;cases h) hf
     clear OI t0 t1 t2 t3 t4 t4f tl Y9
     have sD:=Lib.hid (HG.out.p5.keep jA.out.1)
     have f0:=sD.out.cell 0;have f1:=sD.out.lt
     have e0:=jA.out.2.1.cell 0;have e1:=jA.out.2.1.cell 1;have e2:=jA.out.2.1.cell 2;have e3:=jA.out.2.1.cell 3;have e4:=jA.out.2.1.cell 4;have el:=jA.out.2.1.lt
     rw [←lI.out]at f0
     go_upto_region 16 with(first|(obtain⟨lg,hof,hlo,hnx⟩:=cZ.BZ A8 HG.out.o jA.out.1 (Ext.alloc (Below.refl _ _) (.cells #[.int .i64 g.b, .bool g.s, .string g.nm, .int .i64 g.size, .slice ra k rc] 36)) jA.out.2.2;rw [←lI.out]at hof;refine aS rfl _ _ 22 36 5 64 _ rfl Try.underlying22 GL rfl (by decide) (by decide) (b5+1) (.slice oa nr oc) nr (flat lg nr) oH.heap.size [.int .i64 g.b, .bool g.s, .string g.nm, .int .i64 g.size, .slice ra k rc] rfl rfl hof rfl (ak.at0 (ak.new _ _ _)) (A8.one (show LG _ _ g.fold _ from jA.out.2.2)) (by have h1:=lI.out;have h2:=KY.out;omega) (by have h1:=sD.out.lt;simp;omega) ?_;intro a9 c9 w9 jm eG dF;rw [lI.out]at jm eG dF;have pY:=Lib.hid (HG.out.next jA.out.1 (Ext.alloc (Below.refl _ _) _) hlo eG (hnx a9 c9 w9 jm eG dF));have qR:ak w9 b5 25 _:=(sD.out.alloc _).grown eG (fun e=>by have:=(hlo b5 e.symm).1;omega);have m0:=qR.cell 0;have m1:=qR.frozen 0;have m2:=qR.lt;clear hof hnx hlo jm eG dF qR))
     go_wp2
     go_roundw
     case rel=>exact⟨j+1,by omega,by go_num,a9,c9,by
      rw [kZ.out]
      have h:=pY.out
      have h2:(AC++[g.fold]).length=nr+1:=by rw [List.length_append,←lI.out];rfl
      rw [h2]at h;exact h⟩
     case measure=>simp [intOf];omega
  ·obtain rfl:j=n0:=by omega
   have QC:Hid (AC=P0.gs.map Gl.fold):=by show _=_;rw [Ar.out,HN.out.1,List.take_length]
   have HGR:Hid (Row wr (fun q=>q<w.heap.size∨b5<q) 5 (kX wr (fun q=>q<w.heap.size∨b5<q)) AC (.slice oa nr oc)):=by
    have h:=HG.out.o.row A8 (fun q hq=> .inr (by omega))
    rw [←lI.out]at h;exact h
   have JW:Hid (ak wr b5 25 #[.slice oa nr oc, .slice none 0 0]):=by
    have h:=HG.out.p5
    rw [←lI.out]at h;exact h
   have Pv:=Lib.hid HG.out.lt
   have Ve:=Lib.hid HG.out.b
   clear hlt hj HG lI KY Ar
   obtain⟨w2,rfl⟩:∃W0,W0=wr:=⟨_,rfl⟩
   go_upto_region 18 with(fail)
   go_loopw [52](fun kv wr=>∃(k:Nat),k≤n1∧kv= .int .i64 (k:Int)∧Hid (∃a c,Zl w w2 wr (.slice a0 j c0) (.slice a1 n1 c1) (.slice oa nr oc) b5 ((P0.fs.take k).map Fn.fold) a c))(fun kv wr=>n1-(intOf kv).toNat)
   case atStart=>exact⟨0,Nat.zero_le _,rfl,none,0,by rw [List.take_zero];exact⟨Ve.out,JW.out,aH.of_below (Below.refl _ _),cZ.nil _ _ _ _ _ _⟩⟩
   case round=>
    obtain⟨k,hk,rfl,Y0⟩:=hrel
    obtain⟨fa,fc,hF⟩:=Y0.out
    obtain⟨AF,RF⟩:∃AF,AF=(P0.fs.take k).map Fn.fold:=⟨_,rfl⟩
    rw [←RF]at hF
    have HF:=Lib.hid hF
    have zK:=Lib.hid RF
    have HFJ:Hid (AF.length=k):=by show _=_;rw [RF,List.length_map,List.length_take];have:=HN.out.2;omega
    obtain⟨nf,hnf⟩:∃n,n=AF.length:=⟨_,rfl⟩
    have Fj:=Lib.hid hnf
    clear hF RF hnf Y0 p0 p1 pl
    have p0:=HF.out.b.bx.cell 0;have p1:=HF.out.b.bx.cell 1;have pl:=HF.out.b.bx.lt
    have HB2:Hid (w.heap.size≤w2.heap.size∧b5<w2.heap.size∧w2.heap.size≤wr.heap.size):=⟨Ve.out.bel.size,JW.out.lt,HF.out.ch.size⟩
    by_cases hkl:k<n1
    ·have SL:k<P0.fs.length:=by rw [←HN.out.2];exact hkl
     obtain⟨f,hfe⟩:∃f,P0.fs[k]?=some f:=⟨_,List.getElem?_eq_getElem SL⟩
     have hfm:=List.mem_of_getElem? hfe
     obtain⟨gg,go,cs,rfl,oI,⟨vp,vb,rfl,JV,hrb⟩,hc⟩:=Row.IB HP.out.2 hfe
     obtain⟨pa,pc,rfl,_⟩:=JV.parts
     obtain⟨ba,bc,rfl,_⟩:=hrb.parts
     have hcw:∀i u,[Value.string f.nm, .int .i64 f.b, .bool f.s, .slice pa f.ps.length pc, .slice ba f.body.length bc][i]?=some u→wr.cell? ⟨gg,go+k*5+i,none⟩=some u:=fun i u hu=>by
      rw [Below.cell (p:=⟨gg,go+k*5+i,none⟩) HF.out.b.bel oI];exact hc i u hu
     have k0:=hcw 0 _ rfl;have k1:=hcw 1 _ rfl;have k2:=hcw 2 _ rfl;have k3:=hcw 3 _ rfl;have k4:=hcw 4 _ rfl
     rw [Nat.add_zero]at k0
     have kl:=World.block_lt_of_cell? _ _ k0
     obtain⟨_,_,N,hN1,Bv⟩:=SG.out f hfm
     have Jk:Hid (∀w1,Below w.heap.size w w1→Calls Try.prog 21 #[.slice ba f.body.length bc] w1 (Vj (·<w.heap.size) w1 (S.folds f.body))):=fun w1 hb=>Vq hN1 Bv (Gh.out.fs f hfm).body w1 (·<w.heap.size) _ (hrb.move fun q hq _=>⟨hq,hb.block q hq⟩)
     have HRP:=Lib.hid JV
     have kZ:Hid ((P0.fs.take (k+1)).map Fn.fold=AF++[f.fold]):=by
      show _=_
      rw [List.take_add_one,hfe,List.map_append,zK.out];rfl
     clear hfm hfe SL JV hrb hc hcw oI hN1 Bv
     go_upto_region 20 with(fail)
     obtain⟨b7,hb7⟩:∃b,b=wr.heap.size:=⟨_,rfl⟩
     generalize hw7:World.alloc wr _=w7
     have iO:Hid (Below wr.heap.size wr w7∧ak w7 b7 40 #[.string f.nm, .int .i64 f.b, .bool f.s, .slice pa f.ps.length pc, .slice ba f.body.length bc]∧b7=wr.heap.size):=by
      subst hw7;rw [hb7];exact⟨Ext.alloc (Below.refl _ _) _,ak.new _ _ _,rfl⟩
     rw [←hb7]
     clear hw7 hb7 k0 k1 k2 k3 k4 kl p0 p1 pl
     have t4:=iO.out.2.1.cell 4;have tl:=iO.out.2.1.lt
     go_upto_region 21 with(first|(go_at_call 21;refine(Jk.out _ (Ext.trans HF.out.b.bel iO.out.1)).mono ?_;rintro e w8⟨a8,c8,rfl,hs8,hb8⟩;have WT:=Lib.hid hs8;have nU:=Lib.hid hb8;have Ox:=Lib.hid (iO.out.2.1.keep hb8);clear hs8 hb8 t4 tl;have t4:=Ox.out.cell 4;have t4f:=Ox.out.frozen 4;have tl:=Ox.out.lt))
     obtain⟨n8,hn8⟩:∃n,n=(S.folds f.body).length:=⟨_,rfl⟩
     rw [←hn8]at WT⊢
     generalize OI:World.setCell w8 _ _=oH
     have Y9:wr.heap.size=b7:=iO.out.2.2.symm
     have jA:Hid (Below wr.heap.size wr oH∧ak oH b7 40 #[.string f.nm, .int .i64 f.b, .bool f.s, .slice pa f.ps.length pc, .slice a8 n8 c8]∧lF oH (fun q=>(q<w.heap.size∨b5<q)∧(q<w2.heap.size∨wr.heap.size≤q)) f.fold [.string f.nm, .int .i64 f.b, .bool f.s, .slice pa f.ps.length pc, .slice a8 n8 c8]):=by
      subst OI
      have hsz:wr.heap.size<w7.heap.size:=by have:=iO.out.2.1.lt;omega
      have hb2:=HB2.out
      have hbl:Below w.heap.size w w8:=Ext.trans (Ext.trans HF.out.b.bel iO.out.1) nU.out
      have far:∀q,q≠b7→(w8.setCell ⟨b7,4,none⟩ (.slice a8 n8 c8)).heap[q]?=w8.heap[q]?:=fun q hq=>Below.heap_setCell w8 ⟨b7,4,none⟩ _ q hq
      refine⟨Ext.setCell (Ext.trans iO.out.1 nU.out) (Nat.le_of_eq Y9) _,by simpa using Ox.out.dJ 4 (.slice a8 n8 c8),⟨_,_,rfl,?_,?_⟩⟩
      ·exact HRP.out.move (fun y _ cs hy=>hy) (fun y _ cs hy e=>by have h:cs=_:=hy;rw [e]at h;cases h) (fun q hq _=>⟨⟨.inl hq, .inl (by have h:q<w.heap.size:=hq;omega)⟩,(far q (by have h:q<w.heap.size:=hq;omega)).trans (hbl.block q hq)⟩)
      ·have h0:=WT.out
       exact h0.move fun q hq hl=>by
        rcases hq with hq|hq
        ·have hq:q<w.heap.size:=hq
         exact⟨⟨.inl hq, .inl (by omega)⟩,far q (by omega)⟩
        ·exact⟨⟨.inr (by omega), .inr (by omega)⟩,far q (by omega)⟩
     clear OI t4 t4f tl Y9 hn8
     have sD:=Lib.hid (HF.out.p5.keep jA.out.1)
     have f0:=sD.out.cell 1;have f1:=sD.out.lt
     have e0:=jA.out.2.1.cell 0;have e1:=jA.out.2.1.cell 1;have e2:=jA.out.2.1.cell 2;have e3:=jA.out.2.1.cell 3;have e4:=jA.out.2.1.cell 4;have el:=jA.out.2.1.lt
     rw [←Fj.out]at f0
     go_upto_region 22 with(first|(obtain⟨lg,hof,hlo,hnx⟩:=cZ.BZ uQ HF.out.o jA.out.1 (Ext.alloc (Below.refl _ _) (.cells #[.string f.nm, .int .i64 f.b, .bool f.s, .slice pa f.ps.length pc, .slice a8 n8 c8] 40)) jA.out.2.2;rw [←Fj.out]at hof;refine aS rfl _ _ 23 40 5 80 _ rfl Try.underlying23 G8 rfl (by decide) (by decide) w2.heap.size (.slice fa nf fc) nf (flat lg nf) oH.heap.size [.string f.nm, .int .i64 f.b, .bool f.s, .slice pa f.ps.length pc, .slice a8 n8 c8] rfl rfl hof rfl (ak.at0 (ak.new _ _ _)) (uQ.one (show LF _ _ f.fold _ from jA.out.2.2)) (by have h1:=Fj.out;have h2:=HFJ.out;omega) (by have h1:=HB2.out.2.2;have h2:=jA.out.1.size;simp;omega) ?_;intro a9 c9 w9 jm eG dF;rw [Fj.out]at jm eG dF;have pY:=Lib.hid (HF.out.next Pv.out HB2.out.2.1 jA.out.1 (Ext.alloc (Below.refl _ _) _) hlo eG (hnx a9 c9 w9 jm eG dF));have qR:ak w9 b5 25 _:=(sD.out.alloc _).grown eG (fun e=>by have h1:=(hlo b5 e.symm).1;have h2:=HB2.out.2.1;omega);have m0:=qR.cell 1;have m1:=qR.frozen 1;have m2:=qR.lt;clear hof hnx hlo jm eG dF qR))
     go_wp2
     go_roundw
     case rel=>exact⟨k+1,by omega,by go_num,a9,c9,by
      rw [kZ.out]
      have h:=pY.out
      have h2:(AF++[f.fold]).length=nf+1:=by rw [List.length_append,←Fj.out];rfl
      rw [h2]at h;exact h⟩
     case measure=>simp [intOf];omega
    ·obtain rfl:k=n1:=by omega
     have QE:Hid (AF=P0.fs.map Fn.fold):=by show _=_;rw [zK.out,HN.out.2,List.take_length]
     have Yw:Hid (Row wr (fun q=>q<w.heap.size∨b5<q) 5 (lF wr (fun q=>q<w.heap.size∨b5<q)) AF (.slice fa nf fc)):=by
      have h:=HF.out.o.row uQ (fun q hq=> .inr (by have:=HB2.out.2.1;omega))
      rw [←Fj.out]at h;exact h
     have jo:Hid (ak wr b5 25 #[.slice oa nr oc, .slice fa nf fc]):=by
      have h:=HF.out.p5
      rw [←Fj.out]at h;exact h
     clear p0 p1 pl
     have p0:=jo.out.cell 0;have p1:=jo.out.cell 1;have pl:=jo.out.lt
     have y0:=HF.out.b.b2.cell 0;have y1:=HF.out.b.b2.cell 1;have z0:=HF.out.b.b2.frozen 0;have z1:=HF.out.b.b2.frozen 1;have yl:=HF.out.b.b2.lt
     have f0:=HF.out.b.b3.cell 0;have f1:=HF.out.b.b3.cell 1;have f2:=HF.out.b.b3.frozen 0;have f3:=HF.out.b.b3.frozen 1;have f4:=HF.out.b.b3.lt
     go_wp2
     generalize hW:World.setCell _ _ _=wz
     have HW:Hid (ak wz (w.heap.size+1) 25 #[.slice oa nr oc, .slice fa nf fc]∧ak wz (w.heap.size+1+1) 29 #[.int .i64 0, .int .i64 0]∧Below w.heap.size w wz∧bM wz (fun _=>True) P0.fold (.slice oa nr oc) (.slice fa nf fc)):=by
      subst hW
      have h5:=Pv.out
      refine⟨?_,?_,?_,?_⟩
      ·exact((aW HF.out.b.b2 _ _).far (by show w.heap.size+1≠w.heap.size+1+1;omega) _).far (by show w.heap.size+1≠w.heap.size+1+1;omega) _
      ·exact aW ((HF.out.b.b3.far (by show w.heap.size+1+1≠w.heap.size+1;omega) _).far (by show w.heap.size+1+1≠w.heap.size+1;omega) _) _ _
      ·exact Ext.setCell (Ext.setCell (Ext.setCell (Ext.setCell HF.out.b.bel (Nat.le_succ _) _) (Nat.le_succ _) _) (show w.heap.size≤w.heap.size+1+1 by omega) _) (show w.heap.size≤w.heap.size+1+1 by omega) _
      ·have far:∀(u0 u1 u2 u3:Value)q,q<w.heap.size∨b5<q→((((wr.setCell ⟨w.heap.size+1,0,none⟩ u0).setCell ⟨w.heap.size+1,1,none⟩ u1).setCell ⟨w.heap.size+1+1,0,none⟩ u2).setCell ⟨w.heap.size+1+1,1,none⟩ u3).heap[q]?=wr.heap[q]?:=fun u0 u1 u2 u3 q hq=>by
        rw [Below.heap_setCell _ ⟨w.heap.size+1+1,1,none⟩ _ q (by show q≠w.heap.size+1+1;omega),Below.heap_setCell _ ⟨w.heap.size+1+1,0,none⟩ _ q (by show q≠w.heap.size+1+1;omega),Below.heap_setCell _ ⟨w.heap.size+1,1,none⟩ _ q (by show q≠w.heap.size+1;omega),Below.heap_setCell _ ⟨w.heap.size+1,0,none⟩ _ q (by show q≠w.heap.size+1;omega)]
       have m1:∀q,q<w.heap.size∨b5<q→q<w2.heap.size→True∧((((wr.setCell ⟨w.heap.size+1,0,none⟩ (.slice oa nr oc)).setCell ⟨w.heap.size+1,1,none⟩ (.slice fa nf fc)).setCell ⟨w.heap.size+1+1,0,none⟩ (.int .i64 0)).setCell ⟨w.heap.size+1+1,1,none⟩ (.int .i64 0)).heap[q]?=w2.heap[q]?:=fun q hq hl=>⟨trivial,(far _ _ _ _ q hq).trans (HF.out.ch.block q hl (fun e=>by injection e with e;omega))⟩
       have m2:∀q,q<w.heap.size∨b5<q→q<wr.heap.size→True∧((((wr.setCell ⟨w.heap.size+1,0,none⟩ (.slice oa nr oc)).setCell ⟨w.heap.size+1,1,none⟩ (.slice fa nf fc)).setCell ⟨w.heap.size+1+1,0,none⟩ (.int .i64 0)).setCell ⟨w.heap.size+1+1,1,none⟩ (.int .i64 0)).heap[q]?=wr.heap[q]?:=fun q hq hl=>⟨trivial,far _ _ _ _ q hq⟩
       have h1:=HGR.out
       have h2:=Yw.out
       rw [QC.out]at h1
       rw [QE.out]at h2
       exact⟨h1.move (fun _ _ _ h=>h.move m1) (fun x _ cs h=>by obtain⟨v,e,_⟩:=h;rw [e];simp) m1,h2.move (fun _ _ _ h=>h.move m2) (fun x _ cs h=>by obtain⟨v0,v1,e,_⟩:=h;rw [e];simp) m2⟩
     clear hW p0 p1 pl y0 y1 z0 z1 yl f0 f1 f2 f3 f4
     have q0:=HW.out.1.cell 0;have q1:=HW.out.1.cell 1;have ql:=HW.out.1.lt
     have r0:=HW.out.2.1.cell 0;have r1:=HW.out.2.1.cell 1;have rl:=HW.out.2.1.lt
     exact bodyPost_ret (v:= .tuple #[.agg #[.slice oa nr oc, .slice fa nf fc], .agg #[.int .i64 0, .int .i64 0]]) (by simp [results,Try.results10,go_sem,q0,q1,ql,r0,r1,rl]) rfl ⟨HW.out.2.2.1, .inr ⟨rfl,_,_,rfl,HW.out.2.2.2⟩⟩
theorem uZ(w:World)(P0:Pg)(v0 v1:Value)(hp:bM w (fun _=>True) P0 v0 v1)(hw:Pg.Wf P0):Calls Try.prog 10 #[.agg #[v0,v1]] w (XE w P0 (Ck.check P0).1 ((Ck.check P0).2:Int)):=by
 obtain⟨a0,c0,e0,_⟩:=hp.1.parts
 obtain⟨a1,c1,e1,_⟩:=hp.2.parts
 subst e0 e1
 have hC:∀w1,Below w.heap.size w w1→Calls Try.prog 6 #[.agg #[.slice a0 P0.gs.length c0, .slice a1 P0.fs.length c1]] w1 fun e w'=>e= .returned (.agg #[.int .i64 (Ck.check P0).1, .int .i64 ((Ck.check P0).2:Int)])∧Below w1.heap.size w1 w':=fun w1 hb=>dS w1 P0 _ _ (hp.keep hb) hw
 by_cases h0:(Ck.check P0).1=0
 ·have hz:=(Ck.dS.1 h0).1
  rw [h0]at hC⊢
  exact ED w P0 _ _ _ _ _ hC hp hw hz
 ·exact IU w P0 _ _ _ _ _ _ _ _ hC h0
end Go.Proofs.Ythdckndjggljpaa
