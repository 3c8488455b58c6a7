/- Proofs of this claim, part 49. No condition. -/
import Derived.Test.YthdckndjggljpaaS48
namespace Go.Proofs.Ythdckndjggljpaa
set_option linter.unusedVariables false
set_option linter.unusedSimpArgs false
set_option maxRecDepth 100000
set_option maxHeartbeats 64000000
open Go.RowKit Go.Maps
def BrR(w:World)(P0:Pg)(e:Ending)(w':World):Prop:=Below w.heap.size w w'∧∃v0 v1,e= .returned (.agg #[v0,v1])∧bM w' (fun _=>True) P0.bare v0 v1
structure KA(w wr:World)(v0 v1:Value):Prop where
 bel:Below w.heap.size w wr
 bx:ak wr w.heap.size 25 #[v0,v1]
 b2:ak wr (w.heap.size+1) 25 #[.slice none 0 0, .slice none 0 0]
theorem KA.keep{w wr w':World}{v0 v1:Value}(h:KA w wr v0 v1)(hb:Below wr.heap.size wr w'):KA w w' v0 v1:=⟨Ext.trans h.bel hb,h.bx.keep hb,h.b2.keep hb⟩
theorem KA.grown{w wr w':World}{v0 v1:Value}{row:Option Nat}(h:KA w wr v0 v1)(hg:wr.grownBy w' row)(hr:∀k,row=some k→w.heap.size+1<k):KA w w' v0 v1:=by
 have f:∀k t cs,k≤w.heap.size+1→ak wr k t cs→ak w' k t cs:=fun k t cs hk hb=>hb.grown hg (fun e=>by have:=hr k e.symm;omega)
 exact⟨⟨hg.os.trans h.bel.os,hg.tape.trans h.bel.tape,hg.output.trans h.bel.output,Nat.le_trans h.bel.size hg.size,fun k hk=>(hg.block k (Nat.lt_of_lt_of_le hk h.bel.size) (fun e=>by have:=hr k e.symm;omega)).trans (h.bel.block k hk)⟩,f _ _ _ (by omega) h.bx,f _ _ _ (by omega) h.b2⟩
theorem KA.set{w wr:World}{v0 v1:Value}(h:KA w wr v0 v1){g o:Nat}(hg:w.heap.size+1<g)(u:Value):KA w (wr.setCell ⟨g,o,none⟩ u) v0 v1:=
 ⟨Ext.setCell h.bel (show w.heap.size≤g by omega) _,h.bx.far (by show w.heap.size≠g;omega) _,h.b2.far (by show w.heap.size+1≠g;omega) _⟩
structure Xf(w wr:World)(v0 v1:Value)(b5:Nat)(gs:List Gl)(a:Option Addr)(c:Nat):Prop where
 b:KA w wr v0 v1
 p5:ak wr b5 25 #[.slice a gs.length c, .slice none 0 0]
 lt:w.heap.size+1<b5
 o:cZ (fun k=>k<w.heap.size∨b5<k) wr (b5+1) 36 5 LG gs a c
structure ZF(w w2 wr:World)(v0 v1 u:Value)(b5:Nat)(fs:List Fn)(a:Option Addr)(c:Nat):Prop where
 b:KA w wr v0 v1
 p5:ak wr b5 25 #[u, .slice a fs.length c]
 ch:aH b5 w2 wr
 o:cZ (fun k=>k<w.heap.size∨b5<k) wr w2.heap.size 40 5 LF fs a c
theorem Xf.next{w wr oH rO w16:World}{v0 v1:Value}{b5:Nat}{gs:List Gl}{a a':Option Addr}{c c':Nat}{g:Gl}(h:Xf w wr v0 v1 b5 gs a c)(qc:Below wr.heap.size wr oH)(h15:Below oH.heap.size oH rO)
 (hlo:∀k,(Value.slice a gs.length c).ownBlock=some k→b5+1≤k∧k<rO.heap.size)(hg:rO.grownBy w16 (Value.slice a gs.length c).ownBlock)(hq:cZ (fun k=>k<w.heap.size∨b5<k) w16 (b5+1) 36 5 LG (gs++[g]) a' c'):
 Xf w (w16.setCell ⟨b5,0,none⟩ (.slice a' (gs++[g]).length c')) v0 v1 b5 (gs++[g]) a' c':=by
 have k1:=(h.b.keep qc).keep h15
 have k2:=(h.p5.keep qc).keep h15
 have hr:∀k,(Value.slice a gs.length c).ownBlock=some k→w.heap.size+1<k:=fun k hk=>by have:=(hlo k hk).1;have:=h.lt;omega
 have k3:ak w16 b5 25 _:=k2.grown hg (fun e=>by have:=(hlo b5 e.symm).1;omega)
 refine⟨(k1.grown hg hr).set h.lt _,by simpa using k3.dJ 0 (.slice a' (gs++[g]).length c'),h.lt,hq.bC A8 (fun k hk=>by have:=h.lt;omega) (Nat.lt_succ_self _) ((aH.of_below (Below.refl _ _)).setCell 0 _)⟩
theorem ZF.next{w w2 wr oH rO w16:World}{v0 v1 u:Value}{b5:Nat}{fs:List Fn}{a a':Option Addr}{c c':Nat}{f:Fn}(h:ZF w w2 wr v0 v1 u b5 fs a c)(hb5:w.heap.size+1<b5)(h5:b5<w2.heap.size)(qc:Below wr.heap.size wr oH)(h15:Below oH.heap.size oH rO)
 (hlo:∀k,(Value.slice a fs.length c).ownBlock=some k→w2.heap.size≤k∧k<rO.heap.size)(hg:rO.grownBy w16 (Value.slice a fs.length c).ownBlock)(hq:cZ (fun k=>k<w.heap.size∨b5<k) w16 w2.heap.size 40 5 LF (fs++[f]) a' c'):
 ZF w w2 (w16.setCell ⟨b5,1,none⟩ (.slice a' (fs++[f]).length c')) v0 v1 u b5 (fs++[f]) a' c':=by
 have k1:=(h.b.keep qc).keep h15
 have k2:=(h.p5.keep qc).keep h15
 have hr:∀k,(Value.slice a fs.length c).ownBlock=some k→w.heap.size+1<k:=fun k hk=>by have:=(hlo k hk).1;omega
 have k3:ak w16 b5 25 _:=k2.grown hg (fun e=>by have:=(hlo b5 e.symm).1;omega)
 have c15:aH b5 w2 rO:=(h.ch.trans (aH.of_below qc)).trans (aH.of_below h15)
 have c16:aH b5 w2 w16:=⟨hg.os.trans c15.os,hg.tape.trans c15.tape,hg.output.trans c15.output,Nat.le_trans c15.size hg.size,fun k hk hne=>(hg.block k (Nat.lt_of_lt_of_le hk c15.size) (fun e=>by have:=(hlo k e.symm).1;omega)).trans (c15.block k hk hne)⟩
 exact⟨(k1.grown hg hr).set hb5 _,by simpa using k3.dJ 1 (.slice a' (fs++[f]).length c'),c16.setCell 1 _,hq.bC uQ (fun k hk=>by omega) h5 ((aH.of_below (Below.refl _ _)).setCell 1 _)⟩
structure YB(W0 wr:World)(b7 b8:Nat)(v7:Value)(b:Int)(s:Bool)(nm:ByteArray)(z:Int)(acc:List X)(a:Option Addr)(c:Nat):Prop where
 bel:Below W0.heap.size W0 wr
 k7:ak wr b7 36 #[.int .i64 b, .bool s, .string nm, .int .i64 z,v7]
 k8:ak wr b8 36 #[.int .i64 b, .bool s, .string nm, .int .i64 z, .slice a acc.length c]
 h7:b7=W0.heap.size
 h8:b7<b8
 o:cZ (fun q=>b8<q) wr (b8+1) 62 6 LX acc a c
theorem YB.next{W0 wr oH rO w16:World}{b7 b8:Nat}{v7:Value}{b:Int}{s:Bool}{nm:ByteArray}{z:Int}{acc:List X}{a a':Option Addr}{c c':Nat}{y:X}(h:YB W0 wr b7 b8 v7 b s nm z acc a c)(qc:Below wr.heap.size wr oH)(h15:Below oH.heap.size oH rO)
 (hlo:∀q,(Value.slice a acc.length c).ownBlock=some q→b8+1≤q∧q<rO.heap.size)(hg:rO.grownBy w16 (Value.slice a acc.length c).ownBlock)(hq:cZ (fun q=>b8<q) w16 (b8+1) 62 6 LX (acc++[y]) a' c'):
 YB W0 (w16.setCell ⟨b8,4,none⟩ (.slice a' (acc++[y]).length c')) b7 b8 v7 b s nm z (acc++[y]) a' c':=by
 have h7:=h.h7;have h8:=h.h8
 have f:∀q t cs,q≤b8→ak wr q t cs→ak w16 q t cs:=fun q t cs hq hb=>((hb.keep qc).keep h15).grown hg (fun e=>by have:=(hlo q e.symm).1;omega)
 have hb:Below W0.heap.size W0 rO:=Ext.trans (Ext.trans h.bel qc) h15
 refine⟨Ext.setCell ⟨hg.os.trans hb.os,hg.tape.trans hb.tape,hg.output.trans hb.output,Nat.le_trans hb.size hg.size,fun q hq=>(hg.block q (Nat.lt_of_lt_of_le hq hb.size) (fun e=>by have:=(hlo q e.symm).1;omega)).trans (hb.block q hq)⟩ (by show W0.heap.size≤b8;omega) _,(f _ _ _ (by omega) h.k7).far (by show b7≠b8;omega) _,
  by simpa using(f _ _ _ (Nat.le_refl _) h.k8).dJ 4 (.slice a' (acc++[y]).length c'),h7,h8,hq.bC D6 (fun q hq=>by omega) (Nat.lt_succ_self _) ((aH.of_below (Below.refl _ _)).setCell 4 _)⟩
theorem Jt(w:World)(P0:Pg)(a0:Option Addr)(c0:Nat)(a1:Option Addr)(c1:Nat)(hP:bM w (fun _=>True) P0 (.slice a0 P0.gs.length c0) (.slice a1 P0.fs.length c1))(hz:Pg.wrong P0=0):Calls Try.prog 12 #[.agg #[.slice a0 P0.gs.length c0, .slice a1 P0.fs.length c1]] w (BrR w P0):=by
 obtain⟨hfl,hgl,hga,hfa⟩:=jB hz
 have hgi:∀g∈P0.gs,g.ini.length≤8000:=by
  have h:=hz
  unfold Pg.wrong at h
  rw [if_neg (by omega)]at h
  exact GH (bg h).1
 have h0c:P0.gs.length≤c0:=by obtain⟨a,c,e,x,_⟩:=hP.1.parts;injection e with _ _ e;subst e;exact x
 have h1c:P0.fs.length≤c1:=by obtain⟨a,c,e,x,_⟩:=hP.2.parts;injection e with _ _ e;subst e;exact x
 obtain⟨n0,hn0⟩:∃n,n=P0.gs.length:=⟨_,rfl⟩
 obtain⟨n1,hn1⟩:∃n,n=P0.fs.length:=⟨_,rfl⟩
 have hPl:bM w (·<w.heap.size) P0 (.slice a0 P0.gs.length c0) (.slice a1 P0.fs.length c1):=hP.move fun k _ hk=>⟨hk,rfl⟩
 rw [←hn0,←hn1]at hPl⊢
 rw [←hn0]at h0c hgl
 rw [←hn1]at h1c hfl
 have Un:(n0:Int)≤(c0:Int):=by omega
 have Uo:(n1:Int)≤(c1:Int):=by omega
 obtain⟨b5,hb5⟩:∃b,b=w.heap.size+1+1:=⟨_,rfl⟩
 have xQ:Hid (Xf w (((w.alloc (.cells #[.slice a0 n0 c0, .slice a1 n1 c1] 25)).alloc (.cells #[.slice none 0 0, .slice none 0 0] 25)).alloc (.cells #[.slice none 0 0, .slice none 0 0] 25)) (.slice a0 n0 c0) (.slice a1 n1 c1) b5 [] none 0):=
  ⟨⟨Ext.alloc (Ext.alloc (Ext.alloc (Below.refl _ _) _) _) _,((ak.new _ _ _).alloc _).alloc _,(ak.newAt _ _ (by simp)).alloc _⟩,ak.newAt _ _ (by simp [hb5]),by omega,cZ.nil _ _ _ _ _ _⟩
 have HP:=Lib.hid hPl
 have HN:=Lib.hid (And.intro hn0 hn1)
 have l9:=Lib.hid hga
 have SG:=Lib.hid hfa
 have HGI:=Lib.hid hgi
 have H5:=Lib.hid hb5
 clear hP hPl hz hga hfa hgi hn0 hn1 h0c h1c
 go_enter Try.func12,Try.ntmps12
 go_upto_region 2 with(fail)
 generalize hw3:World.alloc (World.alloc (World.alloc w _) _) _=w3
 rw [hw3]at xQ
 rw [←hb5]
 clear hw3 hb5
 have p0:=xQ.out.b.bx.cell 0;have pl:=xQ.out.b.bx.lt
 go_upto_region 3 with(fail)
 go_loopw [14](fun iv wr=>∃(j:Nat),j≤n0∧iv= .int .i64 (j:Int)∧Hid (∃a c,Xf w wr (.slice a0 n0 c0) (.slice a1 n1 c1) b5 ((P0.gs.take j).map Gl.bare) a c))(fun iv wr=>n0-(intOf iv).toNat)
 case atStart=>exact⟨0,Nat.zero_le _,rfl,none,0,by rw [List.take_zero];exact xQ.out⟩
 case round=>
  obtain⟨j,hj,rfl,YX⟩:=hrel
  obtain⟨oa,oc,hG⟩:=YX.out
  obtain⟨AC,tX⟩:∃AC,AC=(P0.gs.take j).map Gl.bare:=⟨_,rfl⟩
  rw [←tX]at hG
  have HG:=Lib.hid hG
  have Ar:=Lib.hid tX
  have KY:Hid (AC.length=j):=by show _=_;rw [tX,List.length_map,List.length_take];have:=HN.out.1;omega
  obtain⟨nr,hnr⟩:∃n,n=AC.length:=⟨_,rfl⟩
  have lI:=Lib.hid hnr
  clear hG tX hnr YX p0 pl
  have p0:=HG.out.b.bx.cell 0;have p1:=HG.out.b.bx.cell 1;have pl:=HG.out.b.bx.lt
  by_cases hlt:j<n0
  ·have hjl:j<P0.gs.length:=by rw [←HN.out.1];exact hlt
   obtain⟨g,hge⟩:∃g,P0.gs[j]?=some g:=⟨_,List.getElem?_eq_getElem hjl⟩
   have hgm:=List.mem_of_getElem? hge
   obtain⟨gg,go,cs,rfl,oI,⟨v,rfl,hrow⟩,hc⟩:=Row.IB HP.out.1 hge
   obtain⟨ia,ic,rfl,hic,VW,_⟩:=hrow.parts
   obtain⟨L,hL⟩:∃L,L=g.ini.length:=⟨_,rfl⟩
   rw [←hL]at hrow hc hic
   have hcw:∀i u,[Value.int .i64 g.b, .bool g.s, .string g.nm, .int .i64 g.size, .slice ia L ic][i]?=some u→wr.cell? ⟨gg,go+j*5+i,none⟩=some u:=fun i u hu=>by
    rw [Below.cell (p:=⟨gg,go+j*5+i,none⟩) HG.out.b.bel oI];exact hc i u hu
   have k0:=hcw 0 _ rfl;have k1:=hcw 1 _ rfl;have k2:=hcw 2 _ rfl;have k3:=hcw 3 _ rfl;have k4:=hcw 4 _ rfl
   rw [Nat.add_zero]at k0
   have kl:=World.block_lt_of_cell? _ _ k0
   have Et:=Lib.hid hrow
   have wS:=Lib.hid (l9.out g hgm)
   have tu:=Lib.hid hL
   have kZ:Hid ((P0.gs.take (j+1)).map Gl.bare=AC++[g.bare]):=by
    show _=_
    rw [List.take_add_one,hge,List.map_append,Ar.out];rfl
   have hL8:L≤8000:=by rw [hL];exact HGI.out g hgm
   have RY:(L:Int)≤(ic:Int):=by omega
   clear hgm hge hjl hrow hc hcw oI hL hic VW
   go_upto_region 5 with(fail)
   obtain⟨b7,hb7⟩:∃b,b=wr.heap.size:=⟨_,rfl⟩
   generalize hw7:World.alloc wr _=w7
   have iO:Hid (Below wr.heap.size wr w7∧ak w7 b7 36 #[.int .i64 g.b, .bool g.s, .string g.nm, .int .i64 g.size, .slice ia L ic]∧b7=wr.heap.size):=by
    subst hw7;rw [hb7];exact⟨Ext.alloc (Below.refl _ _) _,ak.new _ _ _,rfl⟩
   rw [←hb7]
   clear hw7 hb7 k0 k1 k2 k3 k4 kl p0 p1 pl
   have t0:=iO.out.2.1.cell 0;have t1:=iO.out.2.1.cell 1;have t2:=iO.out.2.1.cell 2;have t3:=iO.out.2.1.cell 3;have tl:=iO.out.2.1.lt
   go_upto_region 6 with(fail)
   obtain⟨b8,hb8⟩:∃b,b=w7.heap.size:=⟨_,rfl⟩
   generalize hw8:World.alloc w7 _=w8
   have HI0:Hid (YB wr w8 b7 b8 (.slice ia L ic) g.b g.s g.nm g.size [] none 0):=by
    subst hw8;rw [hb8]
    exact⟨Ext.alloc iO.out.1 _,iO.out.2.1.alloc _,ak.new _ _ _,iO.out.2.2,iO.out.2.1.lt,cZ.nil _ _ _ _ _ _⟩
   rw [←hb8]
   clear hw8 hb8 t0 t1 t2 t3 tl
   have t4:=HI0.out.k7.cell 4;have tl:=HI0.out.k7.lt
   go_upto_region 7 with(fail)
   obtain⟨W0,rfl⟩:∃W0,W0=wr:=⟨_,rfl⟩
   go_loopw [28](fun kv wr=>∃(k:Nat),k≤L∧kv= .int .i64 (k:Int)∧Hid (∃a c,YB W0 wr b7 b8 (.slice ia L ic) g.b g.s g.nm g.size ((g.ini.take k).map X.bare) a c))(fun kv wr=>L-(intOf kv).toNat)
   case atStart=>exact⟨0,Nat.zero_le _,rfl,none,0,by rw [List.take_zero];exact HI0.out⟩
   case round=>
    obtain⟨k,hk,rfl,HIx⟩:=hrel
    obtain⟨ra,rc,hI⟩:=HIx.out
    obtain⟨AX,VZ⟩:∃AX,AX=(g.ini.take k).map X.bare:=⟨_,rfl⟩
    rw [←VZ]at hI
    have HI:=Lib.hid hI
    have HKK:Hid (AX.length=k):=by show _=_;rw [VZ,List.length_map,List.length_take];have:=tu.out;omega
    have HAX:=Lib.hid VZ
    obtain⟨nx,hnx⟩:∃n,n=AX.length:=⟨_,rfl⟩
    have V3:=Lib.hid hnx
    clear HIx hI VZ hnx t4 tl
    have t4:=HI.out.k7.cell 4;have tl:=HI.out.k7.lt
    have YZ:Hid (Below w.heap.size w wr):=Ext.trans HG.out.b.bel HI.out.bel
    by_cases hkl:k<L
    ·obtain⟨x,hx⟩:∃x,g.ini[k]?=some x:=⟨_,List.getElem?_eq_getElem (by rw [←tu.out];exact hkl)⟩
     have hxm:=List.mem_of_getElem? hx
     obtain⟨xg,xo,xs,rfl,hxb,hxs,hxc⟩:=Row.IB Et.out hx
     obtain⟨xa,xz,rfl,_⟩:=hxs.at.open
     obtain⟨xl,hxl⟩:∃n,n=x.kids.length:=⟨_,rfl⟩
     have XG:Hid (∀w1,Below w.heap.size w w1→Calls Try.prog 24 #[.agg #[.int .i64 x.kind, .int .u64 x.num, .int .i64 x.bits, .bool x.sg, .string x.name, .slice xa xl xz]] w1 (zO (X.bare x) w1)):=fun w1 hb=>by
      rw [hxl];exact yJ x (wS.out.2.2.2 x hxm) w1 _ (hxs.move (fun q hq _=>⟨hq,hb.block q hq⟩):dA w1 (·<w.heap.size) x _).at
     have hxw:∀i u,[.int .i64 x.kind, .int .u64 x.num, .int .i64 x.bits, .bool x.sg, .string x.name, .slice xa xl xz][i]?=some u→wr.cell? ⟨xg,xo+k*6+i,none⟩=some u:=fun i u hu=>by
      rw [hxl]at hu
      rw [Below.cell (p:=⟨xg,xo+k*6+i,none⟩) YZ.out hxb];exact hxc i u hu
     have y0:=hxw 0 _ rfl;have y1:=hxw 1 _ rfl;have y2:=hxw 2 _ rfl;have y3:=hxw 3 _ rfl;have y4:=hxw 4 _ rfl;have y5:=hxw 5 _ rfl
     rw [Nat.add_zero]at y0
     have yl:=World.block_lt_of_cell? _ _ y0
     have Z9:Hid ((g.ini.take (k+1)).map X.bare=AX++[X.bare x]):=by
      show _=_
      rw [List.take_add_one,hx,List.map_append,HAX.out];rfl
     clear hx hxm hxb hxs hxc hxw hxl
     go_upto_region 9 with(fail)
     generalize YS:World.alloc wr _=w9
     have RD:Hid (Below wr.heap.size wr w9∧ak w9 wr.heap.size 62 #[.int .i64 x.kind, .int .u64 x.num, .int .i64 x.bits, .bool x.sg, .string x.name, .slice xa xl xz]∧b8<wr.heap.size):=by
      subst YS;exact⟨Ext.alloc (Below.refl _ _) _,ak.new _ _ _,HI.out.k8.lt⟩
     clear YS y0 y1 y2 y3 y4 y5 yl t4 tl
     have HO9:Hid (ak w9 b8 36 #[.int .i64 g.b, .bool g.s, .string g.nm, .int .i64 g.size, .slice ra nx rc]):=by
      have h:=HI.out.k8.keep RD.out.1
      rw [←V3.out]at h;exact h
     apply Ix.wp_region 5 (fun wi=>Hid (Below w9.heap.size w9 wi)) (Ix.vk [(Ix.aA _),(Ix.aA (.slice ra nx rc)),(Ix.aA (.agg #[.int .i64 x.kind, .int .u64 x.num, .int .i64 x.bits, .bool x.sg, .string x.name, .slice xa xl xz])),(Ix.dU (fun v w'=>∃z0 z1 z2 z3 z4 z5,v=Value.agg #[z0,z1,z2,z3,z4,z5]∧dA w' (fun q=>wr.heap.size≤q) (X.bare x) [z0,z1,z2,z3,z4,z5]) (fun v w1 w2 h hb=>by obtain⟨z0,z1,z2,z3,z4,z5,e,h⟩:=h;exact⟨z0,z1,z2,z3,z4,z5,e,h.keep hb⟩)),(Ix.dU (fun v w'=>∃t z0 z1 z2 z3 z4 z5,v=Value.slice (some ⟨t,0,none⟩) 1 1∧ak w' t 62 #[z0,z1,z2,z3,z4,z5]∧dA w' (fun q=>wr.heap.size≤q) (X.bare x) [z0,z1,z2,z3,z4,z5]) (fun v w1 w2 h hb=>by obtain⟨t,z0,z1,z2,z3,z4,z5,e,h1,h2⟩:=h;exact⟨t,z0,z1,z2,z3,z4,z5,e,h1.keep hb,h2.keep hb⟩))]) (fun _=>false) (by kernel_rfl) (by kernel_rfl) (by kernel_rfl) (fun _ _ h hb=>Ext.trans h hb) (Ix.aN _) (Ix.bP _) (Below.refl _ _)
     case step=>
      refine aP 4 0 1 [] (fun wi HB=>?_)<|aP 3 1 2 [(0,some 32)] (fun wi HB=>?_)<|aP 2 2 3 [] (fun wi HB=>?_)<|aP 1 3 4 [(2,some 34)] (fun wi HB=>?_)<|aP 0 4 5 [(3,some 35)] (fun wi HB=>?_)<|Ix.aC
      (·((repeat(refine aB ?_;rintro _ rfl));refine aF ?_;(try simp only [aj]);refine Ix.ah rfl rfl fun K hK=>?_;(try simp only [aj]at hK);go_wp2_with(first|fail);exact hK _ _ (Below.refl _ _) rfl))
      iterate 2(·(have hx:=HO9.out.keep HB.out;have e4:=hx.cell 4;have el:=hx.lt;have hy:=RD.out.2.1.keep HB.out;have k0:=hy.cell 0;have k1:=hy.cell 1;have k2:=hy.cell 2;have k3:=hy.cell 3;have k4:=hy.cell 4;have k5:=hy.cell 5;have kl:=hy.lt;clear hx hy;(repeat(refine aB ?_;rintro _ rfl));refine aF ?_;(try simp only [aj]);refine Ix.ah rfl rfl fun K hK=>?_;(try simp only [aj]at hK);go_wp2_with(first|fail);exact hK _ _ (Below.refl _ _) rfl))
      (·(have hx:=HO9.out.keep HB.out;have e4:=hx.cell 4;have el:=hx.lt;have hy:=RD.out.2.1.keep HB.out;have k0:=hy.cell 0;have k1:=hy.cell 1;have k2:=hy.cell 2;have k3:=hy.cell 3;have k4:=hy.cell 4;have k5:=hy.cell 5;have kl:=hy.lt;clear hx hy;(repeat(refine aB ?_;rintro _ rfl));refine aF ?_;(try simp only [aj]);refine Ix.ah rfl rfl fun K hK=>?_;(try simp only [aj]at hK);go_wp2_with(first|(go_at_call 24;refine(XG.out _ (Ext.trans (Ext.trans YZ.out RD.out.1) HB.out)).mono ?_;intro e wa hx;obtain⟨z0,z1,z2,z3,z4,z5,rfl,hia,hba⟩:=hx.six (N:=wr.heap.size) (Nat.le_trans RD.out.1.size HB.out.size)));exact hK _ _ hba ⟨_,_,_,_,_,_,rfl,hia⟩))
      (·(have hx:=HO9.out.keep HB.out;have e4:=hx.cell 4;have el:=hx.lt;have hy:=RD.out.2.1.keep HB.out;have k0:=hy.cell 0;have k1:=hy.cell 1;have k2:=hy.cell 2;have k3:=hy.cell 3;have k4:=hy.cell 4;have k5:=hy.cell 5;have kl:=hy.lt;clear hx hy;refine aB ?_;rintro _⟨z0,z1,z2,z3,z4,z5,rfl,hz⟩;refine aF ?_;(try simp only [aj]);refine Ix.ah rfl rfl fun K hK=>?_;(try simp only [aj]at hK);go_wp2_with(first|fail);exact hK _ _ (Ext.alloc (Below.refl _ _) _) ⟨_,z0,z1,z2,z3,z4,z5,rfl,ak.new _ _ _,hz.keep (Ext.alloc (Below.refl _ _) _)⟩))
     intro lM wf HF hdf
     refine au 4 0 1 ?_;rintro _ _ rfl;refine au 3 1 2 ?_;rintro _ _ rfl;refine au 2 2 3 ?_;rintro _ _ rfl;refine au 1 3 4 ?_;rintro _ _⟨z0,z1,z2,z3,z4,z5,rfl,hz⟩;refine au 0 4 5 ?_;rintro _ _⟨tf,q0,q1,q2,q3,q4,q5,rfl,htb,htx⟩
     refine Ix.aI ?_
     obtain⟨lg,hof,hlo,hnx⟩:=cZ.BZ D6 HI.out.o (Ext.trans RD.out.1 HF.out) (Below.refl _ _) (htx.move (fun q hq _=>⟨⟨(by have h1:=RD.out.2.2;omega), .inr hq⟩,rfl⟩):LX wf _ (X.bare x) [q0,q1,q2,q3,q4,q5]);have Vx:=Lib.hid (HO9.out.keep HF.out);have wo:=hof;rw [←V3.out]at wo
     (try simp only [Act.put,List.setIfInBounds_toArray,List.set_cons_zero,List.set_cons_succ,List.drop_succ_cons,List.drop_zero])
     go_wp2_with(first|(refine aS rfl _ _ 34 62 6 72 _ rfl Try.underlying34 GI rfl (by decide) (by decide) (b8+1) (.slice ra nx rc) nx (flat lg nx) tf [q0,q1,q2,q3,q4,q5] rfl rfl wo rfl (ak.at0 htb) (dA.ones htx) (by have h1:=V3.out;have h2:=HKK.out;omega) (by have h1:=Vx.out.lt;omega) ?_;intro a9 c9 wb jm eG dF;rw [V3.out]at jm eG dF;have pY:=Lib.hid (HI.out.next (Ext.trans RD.out.1 HF.out) (Below.refl _ _) hlo eG (hnx a9 c9 wb jm eG dF));have qR:ak wb b8 36 _:=Vx.out.grown eG (fun e=>by have h1:=(hlo b8 e.symm).1;omega);have e4:=qR.cell 4;have f4:=qR.frozen 4;have el:=qR.lt;clear hof wo hnx hlo jm eG dF qR))
     all_goals(first|refine Ix.only ?_|(refine Ix.dK fun tz=>?_))
     go_wp2
     go_roundw
     case rel=>exact⟨k+1,by omega,by go_num,a9,c9,by
      rw [Z9.out]
      have h:=pY.out
      have h2:(AX++[X.bare x]).length=nx+1:=by rw [List.length_append,←V3.out];rfl
      rw [h2]at h;exact h⟩
     case measure=>simp [intOf];omega
    ·obtain rfl:k=L:=by omega
     have V4:Hid (AX=g.bare.ini):=by show _=g.ini.map X.bare;rw [HAX.out,tu.out,List.take_length]
     have Ox:Hid (ak wr b8 36 #[.int .i64 g.b, .bool g.s, .string g.nm, .int .i64 g.size, .slice ra nx rc]):=by
      have h:=HI.out.k8
      rw [←V3.out]at h;exact h
     have WY:Hid (kX wr (fun q=>(q<w.heap.size∨b5<q)∧(q<b5+1∨W0.heap.size≤q)) g.bare [.int .i64 g.b, .bool g.s, .string g.nm, .int .i64 g.size, .slice ra nx rc]):=by
      have h:=HI.out.o.row D6 (fun q hq=>(by omega:b8<q))
      rw [←V3.out,V4.out]at h
      have hl5:b5<W0.heap.size:=HG.out.p5.lt
      have h7:=HI.out.h7;have h8:=HI.out.h8
      have hf:∀q,b8<q→q<wr.heap.size→((q<w.heap.size∨b5<q)∧(q<b5+1∨W0.heap.size≤q))∧wr.heap[q]?=wr.heap[q]?:=fun q hq _=>⟨⟨.inr (by omega), .inr (by omega)⟩,rfl⟩
      exact⟨_,rfl,h.move (fun y _ cs hy=>hy.move hf) (fun y _ cs hy e=>by have h:=hy.six;rw [e]at h;cases h) hf⟩
     clear t4 tl
     have sD:=Lib.hid (HG.out.p5.keep HI.out.bel)
     have f0:=sD.out.cell 0;have f1:=sD.out.lt
     have e0:=Ox.out.cell 0;have e1:=Ox.out.cell 1;have e2:=Ox.out.cell 2;have e3:=Ox.out.cell 3;have e4:=Ox.out.cell 4;have el:=Ox.out.lt
     rw [←lI.out]at f0
     go_upto_region 12 with(first|(obtain⟨lg,hof,hlo,hnx⟩:=cZ.BZ A8 HG.out.o HI.out.bel (Ext.alloc (Below.refl _ _) (.cells #[.int .i64 g.b, .bool g.s, .string g.nm, .int .i64 g.size, .slice ra nx rc] 36)) WY.out;rw [←lI.out]at hof;refine aS rfl _ _ 22 36 5 64 _ rfl Try.underlying22 GL rfl (by decide) (by decide) (b5+1) (.slice oa nr oc) nr (flat lg nr) wr.heap.size [.int .i64 g.b, .bool g.s, .string g.nm, .int .i64 g.size, .slice ra nx rc] rfl rfl hof rfl (ak.at0 (ak.new _ _ _)) (A8.one (show LG _ _ g.bare _ from WY.out)) (by have h1:=lI.out;have h2:=KY.out;omega) (by have h1:=sD.out.lt;simp;omega) ?_;intro a9 c9 w9 jm eG dF;rw [lI.out]at jm eG dF;have pY:=Lib.hid (HG.out.next HI.out.bel (Ext.alloc (Below.refl _ _) _) hlo eG (hnx a9 c9 w9 jm eG dF));have qR:ak w9 b5 25 _:=(sD.out.alloc _).grown eG (fun e=>by have:=(hlo b5 e.symm).1;omega);have m0:=qR.cell 0;have m1:=qR.frozen 0;have m2:=qR.lt;clear hof hnx hlo jm eG dF qR))
     go_wp2
     go_roundw
     case rel=>exact⟨j+1,by omega,by go_num,a9,c9,by
      rw [kZ.out]
      have h:=pY.out
      have h2:(AC++[g.bare]).length=nr+1:=by rw [List.length_append,←lI.out];rfl
      rw [h2]at h;exact h⟩
     case measure=>simp [intOf];omega
  ·obtain rfl:j=n0:=by omega
   have QC:Hid (AC=P0.gs.map Gl.bare):=by show _=_;rw [Ar.out,HN.out.1,List.take_length]
   have HGR:Hid (Row wr (fun q=>q<w.heap.size∨b5<q) 5 (kX wr (fun q=>q<w.heap.size∨b5<q)) AC (.slice oa nr oc)):=by
    have h:=HG.out.o.row A8 (fun q hq=> .inr (by omega))
    rw [←lI.out]at h;exact h
   have JW:Hid (ak wr b5 25 #[.slice oa nr oc, .slice none 0 0]):=by
    have h:=HG.out.p5
    rw [←lI.out]at h;exact h
   have Pv:=Lib.hid HG.out.lt
   have Ve:=Lib.hid HG.out.b
   clear hlt hj HG lI KY Ar
   obtain⟨w2,rfl⟩:∃W0,W0=wr:=⟨_,rfl⟩
   go_upto_region 14 with(fail)
   go_loopw [50](fun kv wr=>∃(k:Nat),k≤n1∧kv= .int .i64 (k:Int)∧Hid (∃a c,ZF w w2 wr (.slice a0 j c0) (.slice a1 n1 c1) (.slice oa nr oc) b5 ((P0.fs.take k).map Fn.bare) a c))(fun kv wr=>n1-(intOf kv).toNat)
   case atStart=>exact⟨0,Nat.zero_le _,rfl,none,0,by rw [List.take_zero];exact⟨Ve.out,JW.out,aH.of_below (Below.refl _ _),cZ.nil _ _ _ _ _ _⟩⟩
   case round=>
    obtain⟨k,hk,rfl,Y0⟩:=hrel
    obtain⟨fa,fc,hF⟩:=Y0.out
    obtain⟨AF,RF⟩:∃AF,AF=(P0.fs.take k).map Fn.bare:=⟨_,rfl⟩
    rw [←RF]at hF
    have HQ:=Lib.hid hF
    have zK:=Lib.hid RF
    have HFJ:Hid (AF.length=k):=by show _=_;rw [RF,List.length_map,List.length_take];have:=HN.out.2;omega
    obtain⟨nf,hnf⟩:∃n,n=AF.length:=⟨_,rfl⟩
    have Fj:=Lib.hid hnf
    clear hF RF hnf Y0 p0 p1 pl
    have p0:=HQ.out.b.bx.cell 0;have p1:=HQ.out.b.bx.cell 1;have pl:=HQ.out.b.bx.lt
    have HB2:Hid (w.heap.size≤w2.heap.size∧b5<w2.heap.size∧w2.heap.size≤wr.heap.size):=⟨Ve.out.bel.size,JW.out.lt,HQ.out.ch.size⟩
    by_cases hkl:k<n1
    ·have SL:k<P0.fs.length:=by rw [←HN.out.2];exact hkl
     obtain⟨f,hfe⟩:∃f,P0.fs[k]?=some f:=⟨_,List.getElem?_eq_getElem SL⟩
     have hfm:=List.mem_of_getElem? hfe
     obtain⟨gg,go,cs,rfl,oI,⟨vp,vb,rfl,JV,hrb⟩,hc⟩:=Row.IB HP.out.2 hfe
     obtain⟨pa,pc,rfl,_⟩:=JV.parts
     obtain⟨ba,bc,rfl,_⟩:=hrb.parts
     have hcw:∀i u,[.string f.nm, .int .i64 f.b, .bool f.s, .slice pa f.ps.length pc, .slice ba f.body.length bc][i]?=some u→wr.cell? ⟨gg,go+k*5+i,none⟩=some u:=fun i u hu=>by
      rw [Below.cell (p:=⟨gg,go+k*5+i,none⟩) HQ.out.b.bel oI];exact hc i u hu
     have k0:=hcw 0 _ rfl;have k1:=hcw 1 _ rfl;have k2:=hcw 2 _ rfl;have k3:=hcw 3 _ rfl;have k4:=hcw 4 _ rfl
     rw [Nat.add_zero]at k0
     have kl:=World.block_lt_of_cell? _ _ k0
     obtain⟨_,_,N,hN1,Bv⟩:=SG.out f hfm
     have Jk:Hid (∀w1,Below w.heap.size w w1→Calls Try.prog 25 #[.slice ba f.body.length bc] w1 (Ua w1 (S.bI f.body))):=fun w1 hb=>V5 hN1 Bv w1 (·<w.heap.size) _ (hrb.move fun q hq _=>⟨hq,hb.block q hq⟩)
     have HRP:=Lib.hid JV
     have kZ:Hid ((P0.fs.take (k+1)).map Fn.bare=AF++[f.bare]):=by
      show _=_
      rw [List.take_add_one,hfe,List.map_append,zK.out];rfl
     clear hfm hfe SL JV hrb hc hcw oI hN1 Bv
     go_upto_region 16 with(fail)
     obtain⟨b7,hb7⟩:∃b,b=wr.heap.size:=⟨_,rfl⟩
     generalize hw7:World.alloc wr _=w7
     have iO:Hid (Below wr.heap.size wr w7∧ak w7 b7 40 #[.string f.nm, .int .i64 f.b, .bool f.s, .slice pa f.ps.length pc, .slice ba f.body.length bc]∧b7=wr.heap.size):=by
      subst hw7;rw [hb7];exact⟨Ext.alloc (Below.refl _ _) _,ak.new _ _ _,rfl⟩
     rw [←hb7]
     clear hw7 hb7 k0 k1 k2 k3 k4 kl p0 p1 pl
     have CS:Hid (ak w7 b5 25 #[.slice oa nr oc, .slice fa nf fc]):=by
      have h:=HQ.out.p5.keep iO.out.1
      rw [←Fj.out]at h;exact h
     obtain⟨nb,hnb⟩:∃n,n=(S.bI f.body).length:=⟨_,rfl⟩
     have HNB:=Lib.hid hnb
     clear hnb
     apply Ix.wp_region 13 (fun wi=>Hid (Below w7.heap.size w7 wi)) (Ix.vk [(Ix.aA _),(Ix.aA (.slice fa nf fc)),(Ix.aA _),(Ix.aA (.string f.nm)),(Ix.aA _),(Ix.aA (.agg #[.int .i64 f.b, .bool f.s])),(Ix.aA _),(Ix.aA (.slice pa f.ps.length pc)),(Ix.aA _),(Ix.aA (.slice ba f.body.length bc)),(Ix.dU (fun v w'=>∃ax cx,v=Value.slice ax nb cx∧aQ w' (fun q=>wr.heap.size≤q) (S.bI f.body) (.slice ax nb cx)) (fun v w1 w2 h hb=>by obtain⟨ax,cx,e,h⟩:=h;exact⟨ax,cx,e,h.keep hb⟩)),(Ix.dU (fun v w'=>∃ax cx,v=Value.agg #[.string f.nm, .int .i64 f.b, .bool f.s, .slice pa f.ps.length pc, .slice ax nb cx]∧aQ w' (fun q=>wr.heap.size≤q) (S.bI f.body) (.slice ax nb cx)) (fun v w1 w2 h hb=>by obtain⟨ax,cx,e,h⟩:=h;exact⟨ax,cx,e,h.keep hb⟩)),(Ix.dU (fun v w'=>∃t ax cx,v=Value.slice (some ⟨t,0,none⟩) 1 1∧ak w' t 40 #[.string f.nm, .int .i64 f.b, .bool f.s, .slice pa f.ps.length pc, .slice ax nb cx]∧aQ w' (fun q=>wr.heap.size≤q) (S.bI f.body) (.slice ax nb cx)) (fun v w1 w2 h hb=>by obtain⟨t,ax,cx,e,h1,h2⟩:=h;exact⟨t,ax,cx,e,h1.keep hb,h2.keep hb⟩))]) (fun _=>false) (by kernel_rfl) (by kernel_rfl) (by kernel_rfl) (fun _ _ h hb=>Ext.trans h hb) (Ix.aN _) (Ix.bP _) (Below.refl _ _)
     case step=>
      refine aP 12 0 1 [] (fun wi HB=>?_)<|aP 11 1 2 [(0,some 54)] (fun wi HB=>?_)<|aP 10 2 3 [] (fun wi HB=>?_)<|aP 9 3 4 [(2,some 56)] (fun wi HB=>?_)<|aP 8 4 5 [] (fun wi HB=>?_)<|aP 7 5 6 [(4,some 58)] (fun wi HB=>?_)<|aP 6 6 7 [] (fun wi HB=>?_)<|aP 5 7 8 [(6,some 60)] (fun wi HB=>?_)<|aP 4 8 9 [] (fun wi HB=>?_)<|aP 3 9 10 [(8,some 62)] (fun wi HB=>?_)<|aP 2 10 11 [(9,some 63)] (fun wi HB=>?_)<|aP 1 11 12 [(3,some 57),(5,some 59),(7,some 61),(10,some 64)] (fun wi HB=>?_)<|aP 0 12 13 [(11,some 65)] (fun wi HB=>?_)<|Ix.aC
      (·((repeat(refine aB ?_;rintro _ rfl));refine aF ?_;(try simp only [aj]);refine Ix.ah rfl rfl fun K hK=>?_;(try simp only [aj]at hK);go_wp2_with(first|fail);exact hK _ _ (Below.refl _ _) rfl))
      (·(have hx:=CS.out.keep HB.out;have e1:=hx.cell 1;have el:=hx.lt;have hy:=iO.out.2.1.keep HB.out;have k0:=hy.cell 0;have k1:=hy.cell 1;have k2:=hy.cell 2;have k3:=hy.cell 3;have k4:=hy.cell 4;have kl:=hy.lt;clear hx hy;(repeat(refine aB ?_;rintro _ rfl));refine aF ?_;(try simp only [aj]);refine Ix.ah rfl rfl fun K hK=>?_;(try simp only [aj]at hK);go_wp2_with(first|fail);exact hK _ _ (Below.refl _ _) rfl))
      (·((repeat(refine aB ?_;rintro _ rfl));refine aF ?_;(try simp only [aj]);refine Ix.ah rfl rfl fun K hK=>?_;(try simp only [aj]at hK);go_wp2_with(first|fail);exact hK _ _ (Below.refl _ _) rfl))
      (·(have hx:=CS.out.keep HB.out;have e1:=hx.cell 1;have el:=hx.lt;have hy:=iO.out.2.1.keep HB.out;have k0:=hy.cell 0;have k1:=hy.cell 1;have k2:=hy.cell 2;have k3:=hy.cell 3;have k4:=hy.cell 4;have kl:=hy.lt;clear hx hy;(repeat(refine aB ?_;rintro _ rfl));refine aF ?_;(try simp only [aj]);refine Ix.ah rfl rfl fun K hK=>?_;(try simp only [aj]at hK);go_wp2_with(first|fail);exact hK _ _ (Below.refl _ _) rfl))
      (·((repeat(refine aB ?_;rintro _ rfl));refine aF ?_;(try simp only [aj]);refine Ix.ah rfl rfl fun K hK=>?_;(try simp only [aj]at hK);go_wp2_with(first|fail);exact hK _ _ (Below.refl _ _) rfl))
      (·(have hx:=CS.out.keep HB.out;have e1:=hx.cell 1;have el:=hx.lt;have hy:=iO.out.2.1.keep HB.out;have k0:=hy.cell 0;have k1:=hy.cell 1;have k2:=hy.cell 2;have k3:=hy.cell 3;have k4:=hy.cell 4;have kl:=hy.lt;clear hx hy;(repeat(refine aB ?_;rintro _ rfl));refine aF ?_;(try simp only [aj]);refine Ix.ah rfl rfl fun K hK=>?_;(try simp only [aj]at hK);go_wp2_with(first|fail);exact hK _ _ (Below.refl _ _) rfl))
      (·((repeat(refine aB ?_;rintro _ rfl));refine aF ?_;(try simp only [aj]);refine Ix.ah rfl rfl fun K hK=>?_;(try simp only [aj]at hK);go_wp2_with(first|fail);exact hK _ _ (Below.refl _ _) rfl))
      (·(have hx:=CS.out.keep HB.out;have e1:=hx.cell 1;have el:=hx.lt;have hy:=iO.out.2.1.keep HB.out;have k0:=hy.cell 0;have k1:=hy.cell 1;have k2:=hy.cell 2;have k3:=hy.cell 3;have k4:=hy.cell 4;have kl:=hy.lt;clear hx hy;(repeat(refine aB ?_;rintro _ rfl));refine aF ?_;(try simp only [aj]);refine Ix.ah rfl rfl fun K hK=>?_;(try simp only [aj]at hK);go_wp2_with(first|fail);exact hK _ _ (Below.refl _ _) rfl))
      (·((repeat(refine aB ?_;rintro _ rfl));refine aF ?_;(try simp only [aj]);refine Ix.ah rfl rfl fun K hK=>?_;(try simp only [aj]at hK);go_wp2_with(first|fail);exact hK _ _ (Below.refl _ _) rfl))
      (·(have hx:=CS.out.keep HB.out;have e1:=hx.cell 1;have el:=hx.lt;have hy:=iO.out.2.1.keep HB.out;have k0:=hy.cell 0;have k1:=hy.cell 1;have k2:=hy.cell 2;have k3:=hy.cell 3;have k4:=hy.cell 4;have kl:=hy.lt;clear hx hy;(repeat(refine aB ?_;rintro _ rfl));refine aF ?_;(try simp only [aj]);refine Ix.ah rfl rfl fun K hK=>?_;(try simp only [aj]at hK);go_wp2_with(first|fail);exact hK _ _ (Below.refl _ _) rfl))
      (·(have hx:=CS.out.keep HB.out;have e1:=hx.cell 1;have el:=hx.lt;have hy:=iO.out.2.1.keep HB.out;have k0:=hy.cell 0;have k1:=hy.cell 1;have k2:=hy.cell 2;have k3:=hy.cell 3;have k4:=hy.cell 4;have kl:=hy.lt;clear hx hy;(repeat(refine aB ?_;rintro _ rfl));refine aF ?_;(try simp only [aj]);refine Ix.ah rfl rfl fun K hK=>?_;(try simp only [aj]at hK);go_wp2_with(first|(go_at_call 25;refine(Jk.out _ (Ext.trans (Ext.trans HQ.out.b.bel iO.out.1) HB.out)).mono ?_;rintro e wa⟨aa,ca,rfl,hsa,hba⟩));exact hK _ _ hba ⟨_,_,by rw [HNB.out],by rw [HNB.out];exact hsa.move fun q hq _=>⟨Nat.le_trans (Nat.le_trans iO.out.1.size HB.out.size) hq,rfl⟩⟩))
      (·(have hx:=CS.out.keep HB.out;have e1:=hx.cell 1;have el:=hx.lt;have hy:=iO.out.2.1.keep HB.out;have k0:=hy.cell 0;have k1:=hy.cell 1;have k2:=hy.cell 2;have k3:=hy.cell 3;have k4:=hy.cell 4;have kl:=hy.lt;clear hx hy;refine aB ?_;rintro _ rfl;refine aB ?_;rintro _ rfl;refine aB ?_;rintro _ rfl;refine aB ?_;rintro _⟨ax,cx,rfl,hsx⟩;refine aF ?_;(try simp only [aj]);refine Ix.ah rfl rfl fun K hK=>?_;(try simp only [aj]at hK);go_wp2_with(first|fail);exact hK _ _ (Below.refl _ _) ⟨_,_,rfl,hsx⟩))
      (·(have hx:=CS.out.keep HB.out;have e1:=hx.cell 1;have el:=hx.lt;have hy:=iO.out.2.1.keep HB.out;have k0:=hy.cell 0;have k1:=hy.cell 1;have k2:=hy.cell 2;have k3:=hy.cell 3;have k4:=hy.cell 4;have kl:=hy.lt;clear hx hy;refine aB ?_;rintro _⟨bx,dx,rfl,hsy⟩;refine aF ?_;(try simp only [aj]);refine Ix.ah rfl rfl fun K hK=>?_;(try simp only [aj]at hK);go_wp2_with(first|fail);exact hK _ _ (Ext.alloc (Below.refl _ _) _) ⟨_,bx,dx,rfl,ak.new _ _ _,hsy.keep (Ext.alloc (Below.refl _ _) _)⟩))
     intro lM wf HF hdf
     refine au 12 0 1 ?_;rintro _ _ rfl;refine au 11 1 2 ?_;rintro _ _ rfl;refine au 10 2 3 ?_;rintro _ _ rfl;refine au 9 3 4 ?_;rintro _ _ rfl;refine au 8 4 5 ?_;rintro _ _ rfl;refine au 7 5 6 ?_;rintro _ _ rfl;refine au 6 6 7 ?_;rintro _ _ rfl;refine au 5 7 8 ?_;rintro _ _ rfl;refine au 4 8 9 ?_;rintro _ _ rfl;refine au 3 9 10 ?_;rintro _ _ rfl;refine au 2 10 11 ?_;rintro _ _⟨ax,cx,rfl,hsx⟩;refine au 1 11 12 ?_;rintro _ _⟨bx,dx,rfl,hsy⟩;refine au 0 12 13 ?_;rintro _ _⟨tf,a8,c8,rfl,htb,hts⟩
     refine Ix.aI ?_
     have RZ:Hid (lF wf (fun q=>(q<w.heap.size∨b5<q)∧(q<w2.heap.size∨wr.heap.size≤q)) f.bare [.string f.nm, .int .i64 f.b, .bool f.s, .slice pa f.ps.length pc, .slice a8 nb c8]):=⟨_,_,rfl,HRP.out.move (fun y _ cs hy=>hy) (fun y _ cs hy e=>by have h:cs=_:=hy;rw [e]at h;cases h) (fun q hq _=>⟨⟨.inl hq, .inl (by have h:q<w.heap.size:=hq;have h2:=HB2.out;omega)⟩,(Ext.trans (Ext.trans HQ.out.b.bel iO.out.1) HF.out).block q hq⟩),hts.move fun q hq _=>⟨⟨.inr (by have h2:=HB2.out;have h:wr.heap.size≤q:=hq;omega), .inr hq⟩,rfl⟩⟩;obtain⟨lg,hof,hlo,hnx⟩:=cZ.BZ uQ HQ.out.o (Ext.trans iO.out.1 HF.out) (Below.refl _ _) RZ.out;have Vx:=Lib.hid (CS.out.keep HF.out);have wo:=hof;rw [←Fj.out]at wo
     (try simp only [Act.put,List.setIfInBounds_toArray,List.set_cons_zero,List.set_cons_succ,List.drop_succ_cons,List.drop_zero])
     go_wp2_with(first|(refine aS rfl _ _ 23 40 5 80 _ rfl Try.underlying23 G8 rfl (by decide) (by decide) w2.heap.size (.slice fa nf fc) nf (flat lg nf) tf [.string f.nm, .int .i64 f.b, .bool f.s, .slice pa f.ps.length pc, .slice a8 nb c8] rfl rfl wo rfl (ak.at0 htb) (uQ.one (show LF _ _ f.bare _ from RZ.out)) (by have h1:=Fj.out;have h2:=HFJ.out;omega) (by have h1:=HB2.out.2.2;have h2:=iO.out.1.size;have h3:=HF.out.size;omega) ?_;intro a9 c9 wb jm eG dF;rw [Fj.out]at jm eG dF;have pY:=Lib.hid (HQ.out.next Pv.out HB2.out.2.1 (Ext.trans iO.out.1 HF.out) (Below.refl _ _) hlo eG (hnx a9 c9 wb jm eG dF));have qR:ak wb b5 25 _:=Vx.out.grown eG (fun e=>by have h1:=(hlo b5 e.symm).1;have h2:=HB2.out.2.1;omega);have e1:=qR.cell 1;have f1:=qR.frozen 1;have el:=qR.lt;clear hof wo hnx hlo jm eG dF qR))
     all_goals(first|refine Ix.only ?_|(refine Ix.dK fun tz=>?_))
     go_wp2
     go_roundw
     case rel=>exact⟨k+1,by omega,by go_num,a9,c9,by
      rw [kZ.out]
      have h:=pY.out
      have h2:(AF++[f.bare]).length=nf+1:=by rw [List.length_append,←Fj.out];rfl
      rw [h2]at h;exact h⟩
     case measure=>simp [intOf];omega
    ·obtain rfl:k=n1:=by omega
     have QE:Hid (AF=P0.fs.map Fn.bare):=by show _=_;rw [zK.out,HN.out.2,List.take_length]
     have Yw:Hid (Row wr (fun q=>q<w.heap.size∨b5<q) 5 (lF wr (fun q=>q<w.heap.size∨b5<q)) AF (.slice fa nf fc)):=by
      have h:=HQ.out.o.row uQ (fun q hq=> .inr (by have:=HB2.out.2.1;omega))
      rw [←Fj.out]at h;exact h
     have jo:Hid (ak wr b5 25 #[.slice oa nr oc, .slice fa nf fc]):=by
      have h:=HQ.out.p5
      rw [←Fj.out]at h;exact h
     clear p0 p1 pl
     have p0:=jo.out.cell 0;have p1:=jo.out.cell 1;have pl:=jo.out.lt
     have y0:=HQ.out.b.b2.cell 0;have y1:=HQ.out.b.b2.cell 1;have z0:=HQ.out.b.b2.frozen 0;have z1:=HQ.out.b.b2.frozen 1;have yl:=HQ.out.b.b2.lt
     go_wp2
     generalize hW:World.setCell _ _ _=wz
     have HW:Hid (ak wz (w.heap.size+1) 25 #[.slice oa nr oc, .slice fa nf fc]∧Below w.heap.size w wz∧bM wz (fun _=>True) P0.bare (.slice oa nr oc) (.slice fa nf fc)):=by
      subst hW
      have h5:=Pv.out
      refine⟨aW HQ.out.b.b2 _ _,Ext.setCell (Ext.setCell HQ.out.b.bel (Nat.le_succ _) _) (Nat.le_succ _) _,?_⟩
      have far:∀(u0 u1:Value)q,q<w.heap.size∨b5<q→((wr.setCell ⟨w.heap.size+1,0,none⟩ u0).setCell ⟨w.heap.size+1,1,none⟩ u1).heap[q]?=wr.heap[q]?:=fun u0 u1 q hq=>by
       rw [Below.heap_setCell _ ⟨w.heap.size+1,1,none⟩ _ q (by show q≠w.heap.size+1;omega),Below.heap_setCell _ ⟨w.heap.size+1,0,none⟩ _ q (by show q≠w.heap.size+1;omega)]
      have m1:∀q,q<w.heap.size∨b5<q→q<w2.heap.size→True∧((wr.setCell ⟨w.heap.size+1,0,none⟩ (.slice oa nr oc)).setCell ⟨w.heap.size+1,1,none⟩ (.slice fa nf fc)).heap[q]?=w2.heap[q]?:=fun q hq hl=>⟨trivial,(far _ _ q hq).trans (HQ.out.ch.block q hl (fun e=>by injection e with e;omega))⟩
      have m2:∀q,q<w.heap.size∨b5<q→q<wr.heap.size→True∧((wr.setCell ⟨w.heap.size+1,0,none⟩ (.slice oa nr oc)).setCell ⟨w.heap.size+1,1,none⟩ (.slice fa nf fc)).heap[q]?=wr.heap[q]?:=fun q hq hl=>⟨trivial,far _ _ q hq⟩
      have h1:=HGR.out
      have h2:=Yw.out
      rw [QC.out]at h1
      rw [QE.out]at h2
      exact⟨h1.move (fun _ _ _ h=>h.move m1) (fun x _ cs h=>by obtain⟨v,e,_⟩:=h;rw [e];simp) m1,h2.move (fun _ _ _ h=>h.move m2) (fun x _ cs h=>by obtain⟨v0,v1,e,_⟩:=h;rw [e];simp) m2⟩
     clear hW p0 p1 pl y0 y1 z0 z1 yl
     have q0:=HW.out.1.cell 0;have q1:=HW.out.1.cell 1;have ql:=HW.out.1.lt
     exact bodyPost_ret (v:= .agg #[.slice oa nr oc, .slice fa nf fc]) (by simp [results,Try.results12,go_sem,q0,q1,ql]) rfl ⟨HW.out.2.1,_,_,rfl,HW.out.2.2⟩
theorem LJ(w:World)(P0:Pg)(v0 v1:Value)(hp:bM w (fun _=>True) P0 v0 v1)(hz:Pg.wrong P0=0):Calls Try.prog 12 #[.agg #[v0,v1]] w (BrR w P0):=by
 obtain⟨a0,c0,e0,_⟩:=hp.1.parts
 obtain⟨a1,c1,e1,_⟩:=hp.2.parts
 subst e0 e1
 exact Jt w P0 _ _ _ _ hp hz
end Go.Proofs.Ythdckndjggljpaa
