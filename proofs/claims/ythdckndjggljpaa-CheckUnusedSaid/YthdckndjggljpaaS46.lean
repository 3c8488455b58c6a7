/- Proofs of this claim, part 46. No condition. -/
import Derived.Test.YthdckndjggljpaaS45
namespace Go.Proofs.Ythdckndjggljpaa
set_option linter.unusedVariables false
set_option linter.unusedSimpArgs false
set_option maxRecDepth 100000
set_option maxHeartbeats 64000000
open Go.RowKit Go.Maps
theorem C9.bad{w wz:World}{P0:Pg}{v0 v1 tv:Value}{r:Int×Nat}{er at':Int}(h1:r.1=er)(h2:(r.2:Int)=at')(hb:Below w.heap.size w wz)(hne:er≠0):C9 w P0 v0 v1 r (.returned (.tuple #[tv, .agg #[.int .i64 er, .int .i64 at']])) wz:=
 ⟨tv,by rw [h1,h2],hb,fun h=>absurd (h1.symm.trans h) hne⟩
theorem Aa(w:World)(P0:Pg)(v0 v1:Value)(hp:bM w (fun _=>True) P0 v0 v1)(hw:Pg.Wf P0)(hz:Pg.wrong P0≠0):Calls Try.prog 14 #[.agg #[v0,v1]] w (C9 w P0 v0 v1 (Ck.check P0)):=by
 have hck:Ck.check P0=(Pg.wrong P0,0):=by unfold Ck.check;rw [if_pos hz]
 obtain⟨a0,c0,e0,_⟩:=hp.1.parts
 obtain⟨a1,c1,e1,_⟩:=hp.2.parts
 subst e0 e1
 obtain⟨R,hR⟩:∃R,R=Ck.check P0:=⟨_,rfl⟩
 obtain⟨Z,hZ⟩:∃Z,Z=Pg.wrong P0:=⟨_,rfl⟩
 rw [←hR]
 rw [←hR,←hZ]at hck
 have HCK:=Lib.hid hck
 have oP:Hid (∀w1:World,Below w.heap.size w w1→Calls Try.prog 8 #[.agg #[.slice a0 P0.gs.length c0, .slice a1 P0.fs.length c1]] w1 fun e w'=>e= .returned (.int .i64 Z)∧Below w1.heap.size w1 w'):=fun w1 hb=>by rw [hZ];exact qY P0 _ _ w1 _ (hp.keep hb) hw
 have HZ:=Lib.hid (show Z≠0 by rw [hZ];exact hz)
 have qz:(Z !=0)=true:=by simpa using HZ.out
 have HB0:Hid (ak ((w.alloc (.cells #[.slice a0 P0.gs.length c0, .slice a1 P0.fs.length c1] 25)).alloc (.cells #[.int .i64 0, .int .i64 0] 29)) (w.heap.size+1) 29 #[.int .i64 0, .int .i64 0]):=ak.newAt _ _ (by simp)
 clear hck hR hZ hp hw hz
 go_enter Try.func14,Try.ntmps14
 go_wp2_with(first|(go_at_call 8;refine(oP.out _ (Ext.alloc (Ext.alloc (Below.refl _ _) _) _)).mono ?_;rintro e w2⟨rfl,hb2⟩;have HB2:=Lib.hid hb2;have HF2:=Lib.hid (HB0.out.keep hb2);have f0:=HF2.out.cell 0;have f1:=HF2.out.cell 1;have f2:=HF2.out.frozen 0;have f3:=HF2.out.frozen 1;have f4:=HF2.out.lt;clear hb2))
 generalize hW:World.setCell _ _ _=wz
 have HW:Hid (ak wz (w.heap.size+1) 29 #[.int .i64 Z, .int .i64 0]∧Below w.heap.size w wz):=by
  subst hW
  exact⟨aW HF2.out _ _,Ext.setCell (Ext.setCell (Ext.trans (Ext.alloc (Ext.alloc (Below.refl _ _) _) _) HB2.out) (Nat.le_succ _) _) (Nat.le_succ _) _⟩
 clear hW f0 f1 f2 f3
 have q0:=HW.out.1.cell 0;have q1:=HW.out.1.cell 1
 have ql:=HW.out.1.lt
 exact bodyPost_ret (v:= .tuple #[.pointer none, .agg #[.int .i64 Z, .int .i64 0]]) (by simp [results,Try.results14,go_sem,q0,q1,ql]) rfl (C9.bad (by rw [HCK.out]) (by rw [HCK.out];rfl) HW.out.2 HZ.out)
theorem tN.start(w w2 w3:World)(P0:Pg)(a0 a1:Option Addr)(n0 c0 n1 c1:Nat)(hb:Below w.heap.size w w2)(hp:ak w2 w.heap.size 25 #[.slice a0 n0 c0, .slice a1 n1 c1])(hf:ak w2 (w.heap.size+1) 29 #[.int .i64 0, .int .i64 0])(hg:bM w (·<w.heap.size) P0 (.slice a0 n0 c0) (.slice a1 n1 c1))
 (h:(((w2.alloc (.map #[] 0)).alloc (.map #[] 0)).alloc (.cells #[.slice a0 n0 c0, .slice a1 n1 c1, .map (some w2.heap.size), .map (some (w2.heap.size+1))] 71)).alloc (.cells #[P (w2.heap.size+1+1)] 49)=w3):
 tN w w3 P0 (.slice a0 n0 c0) (.slice a1 n1 c1) (w2.heap.size+1+1+1) (w2.heap.size+1+1) w2.heap.size (w2.heap.size+1) 0 0:=by
 subst h
 have e1:Below w2.heap.size w2 (w2.alloc (.map #[] 0)):=Ext.alloc (Below.refl _ _) _
 have k1:(w2.alloc (.map #[] 0)).heap.size=w2.heap.size+1:=by simp
 refine⟨Ext.alloc (Ext.alloc (Ext.alloc (Ext.alloc hb _) _) _) _,(((hp.alloc _).alloc _).alloc _).alloc _,(((hf.alloc _).alloc _).alloc _).alloc _,ak.newAt _ _ (by simp),(ak.newAt _ _ (by simp)).alloc _,?_,?_,by omega,⟨hb.size,by have:=hb.size;omega⟩,hg.move fun k hk hkl=>⟨hk,(Ext.alloc (Ext.alloc (Ext.alloc (Ext.alloc hb _) _) _) _:Below w.heap.size w _).block k hkl⟩⟩
 ·exact((SMap.made w2).keep (Ext.alloc (Ext.alloc (Ext.alloc (Below.refl _ _) _) _) _)).congr fun l=>by rw [List.take_zero];rfl
 ·have h0:SMap FN (fun i:Nat=> .lit (.int .i64 (i:Int))) ((w2.alloc (.map #[] 0)).alloc (.map #[] 0)) (w2.alloc (.map #[] 0)).heap.size 0 (fun _=>none):=SMap.made _
  rw [k1]at h0
  exact(h0.keep (Ext.alloc (Ext.alloc (Below.refl _ _) _) _)).congr fun l=>by rw [List.take_zero];rfl
theorem Row.IB{α:Type}{w:World}{p:Nat→Prop}{z:Nat}{At:α→List Value→Prop}{l:List α}{a:Option Addr}{L c i:Nat}{y:α}(h:Row w p z At l (.slice a L c))(hy:l[i]?=some y):∃g off cs,a=some ⟨g,off,none⟩∧p g∧At y cs∧∀j u,cs[j]?=some u→w.cell? ⟨g,off+i*z+j,none⟩=some u:=by
 obtain⟨a2,c2,e,_,_,h2⟩:=h.parts
 injection e with e _ _
 subst e
 obtain⟨g,off,cs,hp,ea,hat,hc⟩:=h2 i y hy
 exact⟨g,off,cs,ea,hp,hat,hc⟩
theorem Ck.mQ{P0:Pg}(hz:Pg.wrong P0=0)(h:(Ck.globs 0 [Ck.put,Ck.get] 0 P0.gs).1.1≠0):Ck.check P0=(Ck.globs 0 [Ck.put,Ck.get] 0 P0.gs).1:=by
 unfold Ck.check;rw [if_neg (fun hh=>hh hz),if_pos h]
theorem MG(j:Nat)(h:j<1000000):FN (.int .i64 (j:Int))=some (.lit (.int .i64 (j:Int)),[]):=by
 refine plainElem_int Try.underlying3 ?_
 simp [Lit.wf,IntKind.min,IntKind.max,IntKind.signed,IntKind.bits]
 omega
abbrev Ck.Gi(P0:Pg)(j:Nat):List Ck.Nm:=[Ck.put,Ck.get]++(P0.gs.take j).map fun g=>g.nm.data.toList
theorem Ck.Qz{P0:Pg}{n:Ck.Nm}{j:Nat}(h:false=(Ck.Gi P0 j).contains n):Ck.idx (fun g:Gl=>g.nm.data.toList) (P0.gs.take j) n=none:=by
 have h1:=Ck.qF (nm:=fun g:Gl=>g.nm.data.toList) (P0.gs.take j) n
 have h2:=h.symm
 rw [Ck.Gi,List.contains_append,Bool.or_eq_false_iff]at h2
 rw [h2.2]at h1
 cases hx:Ck.idx (fun g:Gl=>g.nm.data.toList) (P0.gs.take j) n with
 |none=>rfl
 |some i=>rw [hx]at h1;exact absurd h1 (by simp)
theorem Row.aaX{w1 w2:World}{B:Nat}{l:List X}{v:Value}(h:Row w1 (·<B) 6 (dA w1 (·<B)) l v)(e:∀k,k<B→w2.heap[k]?=w1.heap[k]?):Row w2 (·<B) 6 (dA w2 (·<B)) l v:=
 h.move (fun x _ cs hx=>hx.move fun g hg _=>⟨hg,e g hg⟩) (fun x _ cs hx e0=>by have h0:=hx.six;rw [e0]at h0;simp at h0) fun g hg _=>⟨hg,e g hg⟩
theorem Ck.MH{l:List X}{k:Nat}{x:X}(h:l[k]?=some x):Ck.inits (l.drop k)=if(X.cst x).e=0 then Ck.inits (l.drop (k+1))else(X.cst x).e:=by
 obtain⟨h1,h2⟩:=List.getElem?_eq_some_iff.1 h
 rw [List.drop_eq_getElem_cons h1,h2,Ck.inits]
theorem Ck.Bg{P0:Pg}{n:Nat}{tk:List Ck.Nm}(hz:Pg.wrong P0=0)(hg:Ck.globs 0 [Ck.put,Ck.get] 0 P0.gs=((0,n),tk))(h:(Ck.names P0.gs.length tk P0.fs).1≠0):Ck.check P0=Ck.names P0.gs.length tk P0.fs:=by
 unfold Ck.check;rw [if_neg (fun hh=>hh hz),hg,if_neg (fun hh=>hh rfl)]
 show(if(Ck.names P0.gs.length tk P0.fs).1≠0 then _ else _)=_
 rw [if_pos h]
abbrev Ck.Dj(P0:Pg)(j:Nat):List Ck.Nm:=Ck.Gi P0 P0.gs.length++(P0.fs.take j).map fun g=>g.nm.data.toList
theorem Ck.QD{P0:Pg}{n:Ck.Nm}{j:Nat}(h:false=(Ck.Dj P0 j).contains n):Ck.idx (fun g:Fn=>g.nm.data.toList) (P0.fs.take j) n=none:=by
 have h1:=Ck.qF (nm:=fun g:Fn=>g.nm.data.toList) (P0.fs.take j) n
 have h2:=h.symm
 rw [Ck.Dj,List.contains_append,Bool.or_eq_false_iff]at h2
 rw [h2.2]at h1
 cases hx:Ck.idx (fun g:Fn=>g.nm.data.toList) (P0.fs.take j) n with
 |none=>rfl
 |some i=>rw [hx]at h1;exact absurd h1 (by simp)
def TM(wr:World)(tb fq fo:Nat)(e1:Ck.Env)(g:Nat)(w':World):Prop:=∃wb,Below wr.heap.size wr wb∧Below wb.heap.size wb w'∧kF w' wb.heap.size g tb fq fo e1
theorem TM.keep{wr w1 w2:World}{tb fq fo g:Nat}{e1:Ck.Env}(h:TM wr tb fq fo e1 g w1)(hb:Below w1.heap.size w1 w2):TM wr tb fq fo e1 g w2:=by
 obtain⟨wb,h1,h2,h3⟩:=h;exact⟨wb,h1,Ext.trans h2 hb,h3.keep hb⟩
theorem Ck.Eu{P0:Pg}{i n:Nat}{tk:List Ck.Nm}(h:Ck.names i tk P0.fs=(0,n)):Ck.jw P0=match Ck.idx (fun f:Fn=>f.nm.data.toList) P0.fs Ck.main with|none=>false|some j=>match P0.fs[j]? with|none=>false|some f=>f.ps.isEmpty:=
 Ck.Nc P0.fs i tk (by rw [h])
theorem yK(w:World)(P0:Pg)(v0 v1:Value)(hp:bM w (fun _=>True) P0 v0 v1)(hw:Pg.Wf P0)(hz:Pg.wrong P0=0):Calls Try.prog 14 #[.agg #[v0,v1]] w (C9 w P0 v0 v1 (Ck.check P0)):=by
 obtain⟨a0,c0,e0,h00,h01,hgs⟩:=hp.1.parts
 obtain⟨a1,c1,e1,h10,h11,hfs⟩:=hp.2.parts
 subst e0 e1
 obtain⟨R,hR⟩:∃R,R=Ck.check P0:=⟨_,rfl⟩
 rw [←hR]
 obtain⟨hfl,hgl,hga,hfa⟩:=jB hz
 have hpl:bM w (·<w.heap.size) P0 (.slice a0 P0.gs.length c0) (.slice a1 P0.fs.length c1):=hp.move fun k _ hk=>⟨hk,rfl⟩
 have HPG:=Lib.hid hpl
 have oP:Hid (∀w1:World,Below w.heap.size w w1→Calls Try.prog 8 #[.agg #[.slice a0 P0.gs.length c0, .slice a1 P0.fs.length c1]] w1 fun e w'=>e= .returned (.int .i64 0)∧Below w1.heap.size w1 w'):=fun w1 hb=>by
  have h0:=qY P0 _ _ w1 _ (hp.keep hb) hw;rw [hz]at h0;exact h0
 obtain⟨n0,hn0⟩:∃n,n=P0.gs.length:=⟨_,rfl⟩
 obtain⟨n1,hn1⟩:∃n,n=P0.fs.length:=⟨_,rfl⟩
 rw [←hn0,←hn1]at oP HPG⊢
 rw [←hn0]at h00 hgl
 rw [←hn1]at h10 hfl
 have HN:=Lib.hid (And.intro hn0 hn1)
 have HR:=Lib.hid hR
 have HZ:=Lib.hid hz
 have l9:=Lib.hid hga
 have SG:=Lib.hid hfa
 have Gh:=Lib.hid hw
 have HB0:Hid (ak ((w.alloc (.cells #[.slice a0 n0 c0, .slice a1 n1 c1] 25)).alloc (.cells #[.int .i64 0, .int .i64 0] 29)) (w.heap.size+1) 29 #[.int .i64 0, .int .i64 0]∧ak ((w.alloc (.cells #[.slice a0 n0 c0, .slice a1 n1 c1] 25)).alloc (.cells #[.int .i64 0, .int .i64 0] 29)) w.heap.size 25 #[.slice a0 n0 c0, .slice a1 n1 c1]):=⟨ak.newAt _ _ (by simp),(ak.new _ _ _).alloc _⟩
 have Un:(n0:Int)≤(c0:Int):=by omega
 have Uo:(n1:Int)≤(c1:Int):=by omega
 clear hn0 hn1 hR hz hga hfa hw hp hpl hgs hfs h00 h01 h10 h11
 have hmm:=run_makeMap (P:=Try.prog)
 have hmf:∀(fn:Go.Fn)(first cap:Array Value)(w:World),(Instr.makeFunc fn first cap).run Try.prog w= .ok (.func fn first cap) w:=fun _ _ _ _=>rfl
 go_enter Try.func14,Try.ntmps14
 go_upto_region 4 with(first|(go_at_call 8;refine(oP.out _ (Ext.alloc (Ext.alloc (Below.refl _ _) _) _)).mono ?_;rintro e w2⟨rfl,hb2⟩;have HB2:=Lib.hid hb2;clear hb2))
 have hp2:=HB0.out.2.keep HB2.out
 have p0:=hp2.cell 0;have p1:=hp2.cell 1
 have pl2:=hp2.lt
 go_upto_region 5 with(fail)
 generalize hw3:World.alloc _ _=w3
 have Qv:=Lib.hid (tN.start w w2 w3 P0 a0 a1 n0 c0 n1 c1 (Ext.trans (Ext.alloc (Ext.alloc (Below.refl _ _) _) _) HB2.out) hp2 (HB0.out.1.keep HB2.out) HPG.out hw3)
 obtain⟨gb,hgb⟩:∃gb,gb=w2.heap.size:=⟨_,rfl⟩
 rw [←hgb]at Qv⊢
 clear hw3 hp2 p0 p1 pl2 hgb
 have p0:=Qv.out.bp.cell 0
 have pl:=Qv.out.bp.lt
 go_wp2
 go_loopw [6,38](fun v i wr=>∃(j:Nat)(all:Int),j≤n0∧i= .int .i64 (j:Int)∧v= .int .i64 all∧Hid (tN w wr P0 (.slice a0 n0 c0) (.slice a1 n1 c1) (gb+1+1+1) (gb+1+1) gb (gb+1) j 0)∧Hid (Ck.globs 0 [Ck.put,Ck.get] 0 P0.gs=Ck.globs j (Ck.Gi P0 j) all (P0.gs.drop j))∧0≤all∧all≤8000)(fun v i wr=>n0-(intOf i).toNat)
 case atStart=>exact⟨0,0,Nat.zero_le _,rfl,rfl,Qv.out,by show _=_;rw [List.drop_zero];rfl,by decide,by decide⟩
 case round=>
  obtain⟨j,all,hj,rfl,rfl,HE,HGL,ha0,ha1⟩:=hrel
  have adU:n0≤20000:=hgl
  have Qw:=HE.out.bp.cell 0;have Qx:=HE.out.bp.cell 1
  have Qy:=HE.out.bp.lt
  clear p0 pl
  by_cases hlt:j<n0
  ·have hjl:j<P0.gs.length:=by rw [←HN.out.1];exact hlt
   obtain⟨g,hg⟩:∃g,P0.gs[j]?=some g:=⟨_,List.getElem?_eq_getElem hjl⟩
   obtain⟨gg,off,cs,rfl,hgb,⟨vi,rfl,hrow⟩,hcell⟩:=Row.IB HE.out.pg.1 hg
   obtain⟨ia,ic,ei,hi1,hi2,_⟩:=hrow.parts
   obtain⟨L,hL⟩:∃L,L=g.ini.length:=⟨_,rfl⟩
   rw [←hL]at ei hi1
   subst ei
   have k0:=hcell 0 _ rfl;have k1:=hcell 1 _ rfl;have k2:=hcell 2 _ rfl;have k3:=hcell 3 _ rfl;have k4:=hcell 4 _ rfl
   rw [Nat.add_zero]at k0
   have kl:=World.block_lt_of_cell? _ _ k0
   have hdrop:P0.gs.drop j=g::P0.gs.drop (j+1):=by
    obtain⟨h1,h2⟩:=List.getElem?_eq_some_iff.1 hg
    rw [←h2];exact List.drop_eq_getElem_cons h1
   have oI:=HGL.out
   rw [hdrop]at oI
   have XK:=Lib.hid oI
   have HG:=Lib.hid hg
   have tu:=Lib.hid hL
   have hLm:L≤maxLen:=Nat.le_trans hi1 hi2
   unfold maxLen at hLm
   have Et:=Lib.hid hrow
   have hgm:=List.mem_of_getElem? hg
   have Lp:=Lib.hid (Gh.out.gs g hgm)
   have wS:=Lib.hid (l9.out g hgm)
   obtain⟨TK,Ur⟩:∃TK,TK=(Ck.Gi P0 j).contains g.nm.data.toList:=⟨_,rfl⟩
   have kZ:Hid (∀w1,Below wr.heap.size wr w1→Calls Try.prog 26 #[.string g.nm,P (gb+1+1+1)] w1 fun e w'=>e= .returned (.bool TK)∧Below w1.heap.size w1 w'):=fun w1 hb=>by
    have h1:=HE.out.keep hb
    have h2:=Bf w1 _ _ _ _ _ _ (P0.gs.take j) (P0.fs.take 0) _ _ g.nm Lp.out.nm h1.bt h1.tb h1.gm h1.fm
    rw [List.take_zero,List.map_nil,List.append_nil,←Ur]at h2
    exact h2
   have Us:=Lib.hid Ur
   clear hjl hgb hcell hL hdrop oI hg hrow hgm Ur hi1 hi2
   go_upto_region 10 with(fail)
   generalize hw5:World.alloc _ _=w5
   have gU:Hid (Below wr.heap.size wr w5∧ak w5 wr.heap.size 36 #[.int .i64 g.b, .bool g.s, .string g.nm, .int .i64 g.size, .slice ia L ic]):=by
    subst hw5;exact⟨Ext.alloc (Below.refl _ _) _,ak.new _ _ _⟩
   have XL:=Lib.hid (HE.out.keep gU.out.1)
   have t2:=gU.out.2.cell 2
   have tl:=gU.out.2.lt
   clear hw5 k0 k1 k2 k3 k4 kl Qw Qx Qy
   cases TK with
   |true=>
    have HRR:Hid (R=(7,j)):=by
     show R=_
     have h0:Ck.globs 0 [Ck.put,Ck.get] 0 P0.gs=((7,j),Ck.Gi P0 j):=by rw [XK.out,Ck.globs,if_pos Us.out.symm]
     rw [HR.out,Ck.mQ HZ.out (by rw [h0];show¬(7:Int)=0;decide),h0]
    go_wp2_with(first|(go_at_call 26;refine(kZ.out _ gU.out.1).mono ?_;rintro e7 w7⟨rfl,hb7⟩;have dD:=Lib.hid hb7;have lN:=Lib.hid (XL.out.keep hb7);have f0:=lN.out.bf.cell 0;have f1:=lN.out.bf.cell 1;have f2:=lN.out.bf.frozen 0;have f3:=lN.out.bf.frozen 1;have f4:=lN.out.bf.lt;clear hb7))
    generalize hW:World.setCell _ _ _=wz
    have HW:Hid (ak wz (w.heap.size+1) 29 #[.int .i64 7, .int .i64 (j:Int)]∧Below w.heap.size w wz):=by
     subst hW
     exact⟨aW lN.out.bf _ _,Ext.setCell (Ext.setCell lN.out.bel (Nat.le_succ _) _) (Nat.le_succ _) _⟩
    clear hW f0 f1 f2 f3
    have q0:=HW.out.1.cell 0;have q1:=HW.out.1.cell 1
    have ql:=HW.out.1.lt
    exact bodyPost_ret (v:= .tuple #[.pointer none, .agg #[.int .i64 7, .int .i64 (j:Int)]]) (by simp [results,Try.results14,go_sem,q0,q1,ql]) rfl (C9.bad (by rw [HRR.out]) (by rw [HRR.out]) HW.out.2 (by decide))
   |false=>
    go_upto_region 12 with(first|(go_at_call 26;refine(kZ.out _ gU.out.1).mono ?_;rintro e7 w7⟨rfl,hb7⟩;have dD:=Lib.hid hb7;have lN:=Lib.hid (XL.out.keep hb7);have f0:=lN.out.bf.cell 0;have f1:=lN.out.bf.cell 1;have f2:=lN.out.bf.frozen 0;have f3:=lN.out.bf.frozen 1;have f4:=lN.out.bf.lt;clear hb7))
    have iO:=Lib.hid (gU.out.2.keep dD.out)
    clear t2 tl f0 f1 f2 f3 f4
    have b0:=lN.out.bt.cell 0;have b2:=lN.out.tb.cell 2;have t2:=iO.out.cell 2
    have bl:=lN.out.bt.lt;have bl2:=lN.out.tb.lt;have tl:=iO.out.lt
    have hgd:SMap FN (fun i:Nat=> .lit (.int .i64 (i:Int))) w7.drew gb j (Ck.idx (fun g:Gl=>g.nm.data.toList) (P0.gs.take j)):=lN.out.gm.same rfl
    obtain⟨w8,hr8,XM,sN⟩:=hgd.put (v:=j) (val:= .int .i64 (j:Int)) Try.underlying69 (by unfold maxLen;omega) Lp.out.nm (MG j (by omega))
    have hgu:w7.grownBy w8 (some gb):=aH.y8 sN
    have HE8:=Lib.hid (lN.out.aaW HG.out (Ck.Qz Us.out) hgu XM)
    have IC:Hid (ak w8 wr.heap.size 36 #[.int .i64 g.b, .bool g.s, .string g.nm, .int .i64 g.size, .slice ia L ic]):=iO.out.grown hgu (fun e2=>by injection e2 with e2;exact aV iO.out lN.out.gm e2.symm)
    clear hgu sN XM hgd
    refine Rg.wp_region [] (by kernel_rfl) (by kernel_rfl) ?_
    repeat(first|(refine Rg.cO ?_)|(refine Rg.bJ rfl ?_;simp only [Act.put,List.setIfInBounds_toArray,List.set_cons_zero,List.set_cons_succ])|(refine Rg.fP rfl rfl (fun K hK=>?_);go_big_quiet_op;refine hK _ ?_;clear hK K)|(refine Rg.fQ rfl rfl (fun K hK=>?_);go_wp2_with(first|fail|fail)))
    clear b0 b2 t2 bl bl2 tl hr8
    obtain⟨M,hM⟩:∃M:Int,M=if g.size>1 then g.size else 1:=⟨_,rfl⟩
    obtain⟨D,hD⟩:∃D:Int,D=Ck.FM g.b:=⟨_,rfl⟩
    have hmx:∀w:World,(Builtin.max_ #[3,3] 3 #[.int .i64 1, .int .i64 g.size]).run Try.prog w= .ok (.int .i64 M) w:=fun w=>by rw [hM];exact run_max_int2 ..
    have SI:Hid (∀w1:World,Calls Try.prog 28 #[W.ty g.b g.s] w1 fun e w'=>e= .returned (.int .i64 D)∧Below w1.heap.size w1 w'):=fun w1=>by rw [hD];exact xW g.b g.s wS.out.1 w1
    obtain⟨hD0,hD1⟩:=Ck.Eh wS.out.1
    rw [←hD]at hD0 hD1
    have hM0:1≤M:=by rw [hM];split<;>omega
    have hM1:M≤8000:=by have h0:=wS.out.2.2.1;rw [hM];split<;>omega
    obtain⟨T,hT⟩:∃T:Int,M*D=T:=⟨_,rfl⟩
    have hT0:0≤T:=by rw [←hT];exact Int.mul_nonneg (by omega) hD0
    have hT1:T≤32000:=by
     rw [←hT]
     have h0:=Int.mul_le_mul hM1 hD1 hD0 (by decide:(0:Int)≤8000)
     omega
    have XO:Hid ((if g.size<1 then 1 else g.size)*Ck.FM g.b=T):=by
     show _=_
     rw [←hT,hM,hD]
     congr 1
     split<;>split<;>omega
    clear hM hD hD0 hD1
    go_upto_region 13 with(fail)
    apply Ix.wp_region 9 (fun wi=>Hid (Below w8.heap.size w8 wi)) (Ix.vk [(Ix.aA _),(Ix.aA _),(Ix.aA _),(Ix.aA _),(Ix.aA _),(Ix.aA (.agg #[.int .i64 g.b, .bool g.s])),(Ix.aA (.int .i64 D)),(Ix.aA _),(Ix.aA _)]) (fun _=>false) (by kernel_rfl) (by kernel_rfl) (by kernel_rfl) (fun _ _ h hb=>Ext.trans h hb) (Ix.aN _) (Ix.bP _) (Below.refl _ _)
    case step=>
     refine aP 8 0 1 [] (fun wi HB=>?_)<|aP 7 1 2 [] (fun wi HB=>?_)<|aP 6 2 3 [(1,some 57)] (fun wi HB=>?_)<|aP 5 3 4 [(2,some 58)] (fun wi HB=>?_)<|aP 4 4 5 [] (fun wi HB=>?_)<|aP 3 5 6 [(4,some 60)] (fun wi HB=>?_)<|aP 2 6 7 [(5,some 61)] (fun wi HB=>?_)<|aP 1 7 8 [(3,some 59),(6,some 62)] (fun wi HB=>?_)<|aP 0 8 9 [(0,some 56),(7,some 63)] (fun wi HB=>?_)<|Ix.aC
     iterate 2(·((repeat(refine aB ?_;rintro _ rfl));refine aF ?_;(try simp only [aj]);refine Ix.ah rfl rfl fun K hK=>?_;(try simp only [aj]at hK);go_wp2_with(first|fail);exact hK _ _ (Below.refl _ _) rfl))
     iterate 2(·(have x0:=(IC.out.keep HB.out).cell 0;have x3:=(IC.out.keep HB.out).cell 3;have x1:=(IC.out.keep HB.out).cell 1;(repeat(refine aB ?_;rintro _ rfl));refine aF ?_;(try simp only [aj]);refine Ix.ah rfl rfl fun K hK=>?_;(try simp only [aj]at hK);go_wp2_with(first|fail);exact hK _ _ (Below.refl _ _) rfl))
     (·((repeat(refine aB ?_;rintro _ rfl));refine aF ?_;(try simp only [aj]);refine Ix.ah rfl rfl fun K hK=>?_;(try simp only [aj]at hK);go_wp2_with(first|fail);exact hK _ _ (Below.refl _ _) rfl))
     (·(have x0:=(IC.out.keep HB.out).cell 0;have x3:=(IC.out.keep HB.out).cell 3;have x1:=(IC.out.keep HB.out).cell 1;(repeat(refine aB ?_;rintro _ rfl));refine aF ?_;(try simp only [aj]);refine Ix.ah rfl rfl fun K hK=>?_;(try simp only [aj]at hK);go_wp2_with(first|fail);exact hK _ _ (Below.refl _ _) rfl))
     (·(have x0:=(IC.out.keep HB.out).cell 0;have x3:=(IC.out.keep HB.out).cell 3;have x1:=(IC.out.keep HB.out).cell 1;(repeat(refine aB ?_;rintro _ rfl));refine aF ?_;(try simp only [aj]);refine Ix.ah rfl rfl fun K hK=>?_;(try simp only [aj]at hK);go_wp2_with(first|(go_at_call 28;refine(SI.out _).mono ?_;rintro e wa⟨rfl,hba⟩));exact hK _ _ hba rfl))
     iterate 2(·((repeat(refine aB ?_;rintro _ rfl));refine aF ?_;(try simp only [aj]);refine Ix.ah rfl rfl fun K hK=>?_;(try simp only [aj]at hK);go_wp2_with(first|fail);exact hK _ _ (Below.refl _ _) rfl))
    intro lM wf HF hdf
    refine au 8 0 1 ?_;rintro _ _ rfl;refine au 7 1 2 ?_;rintro _ _ rfl;refine au 6 2 3 ?_;rintro _ _ rfl;refine au 5 3 4 ?_;rintro _ _ rfl;refine au 4 4 5 ?_;rintro _ _ rfl;refine au 3 5 6 ?_;rintro _ _ rfl;refine au 2 6 7 ?_;rintro _ _ rfl;refine au 1 7 8 ?_;rintro _ _ rfl;refine au 0 8 9 ?_;rintro _ _ rfl
    refine Ix.aI ?_
    (try simp only [Act.put,List.setIfInBounds_toArray,List.set_cons_zero,List.set_cons_succ,List.drop_succ_cons,List.drop_zero])
    go_wp2_with(first|fail)
    all_goals(first|refine Ix.only ?_|(refine Ix.dK fun tz=>?_))
    have SK:=Lib.hid (HE8.out.keep HF.out)
    have Zw:=Lib.hid (IC.out.keep HF.out)
    have f0:=SK.out.bf.cell 0;have f1:=SK.out.bf.cell 1;have f2:=SK.out.bf.frozen 0;have f3:=SK.out.bf.frozen 1;have f4:=SK.out.bf.lt
    have hT2:all+T≤40000:=by omega
    have hT3:0≤all+T:=by omega
    clear hmx hT hM0 hM1 hdf
    have Ut:=XK.out
    rw [Ck.globs,←Us.out,XO.out]at Ut
    have Uu:Hid (Ck.globs 0 [Ck.put,Ck.get] 0 P0.gs=if 8000<all+T then((4,j),Ck.Gi P0 j)else if Ck.inits g.ini≠0 then((Ck.inits g.ini,j),Ck.Gi P0 j)else Ck.globs (j+1) (Ck.Gi P0 (j+1)) (all+T) (P0.gs.drop (j+1))):=by
     have ht:Ck.Gi P0 (j+1)=Ck.Gi P0 j++[g.nm.data.toList]:=by
      obtain⟨h1,h2⟩:=List.getElem?_eq_some_iff.1 HG.out
      unfold Ck.Gi
      rw [List.take_succ_eq_append_getElem h1,h2,List.map_append,List.append_assoc];rfl
     show _=_
     rw [ht,Ut];rfl
    clear Ut
    by_cases hbig:8000<all+T
    ·have HRR:Hid (R=(4,j)):=by
      show R=_
      have h0:=Uu.out
      rw [if_pos hbig]at h0
      rw [HR.out,Ck.mQ HZ.out (by rw [h0];show¬(4:Int)=0;decide),h0]
     go_wp2
     generalize hW:World.setCell _ _ _=wz
     have HW:Hid (ak wz (w.heap.size+1) 29 #[.int .i64 4, .int .i64 (j:Int)]∧Below w.heap.size w wz):=by
      subst hW
      exact⟨aW SK.out.bf _ _,Ext.setCell (Ext.setCell SK.out.bel (Nat.le_succ _) _) (Nat.le_succ _) _⟩
     clear hW f0 f1 f2 f3
     have q0:=HW.out.1.cell 0;have q1:=HW.out.1.cell 1
     have ql:=HW.out.1.lt
     exact bodyPost_ret (v:= .tuple #[.pointer none, .agg #[.int .i64 4, .int .i64 (j:Int)]]) (by simp [results,Try.results14,go_sem,q0,q1,ql]) rfl (C9.bad (by rw [HRR.out]) (by rw [HRR.out]) HW.out.2 (by decide))
    ·clear f0 f1 f2 f3 f4
     obtain⟨gp,hgp⟩:∃gp,gp=wr.heap.size:=⟨_,rfl⟩
     have HGP:Hid (w.heap.size+1<gp):=by have:=HE.out.bf.lt;show _<gp;omega
     rw [←hgp]at Zw⊢
     clear hgp
     obtain⟨W0,rfl⟩:∃W0,W0=wr:=⟨_,rfl⟩
     have k4:=Zw.out.cell 4
     have kl:=Zw.out.lt
     go_upto_region 16 with(fail)
     go_wp2
     go_loopw [72](fun i wr=>∃(k:Nat),k≤L∧i= .int .i64 (k:Int)∧Hid (tN w wr P0 (.slice (some ⟨gg,off,none⟩) n0 c0) (.slice a1 n1 c1) (gb+1+1+1) (gb+1+1) gb (gb+1) (j+1) 0)∧Hid (ak wr gp 36 #[.int .i64 g.b, .bool g.s, .string g.nm, .int .i64 g.size, .slice ia L ic]∧w.heap.size+1<gp)∧Hid (Ck.inits g.ini=Ck.inits (g.ini.drop k)))(fun i wr=>L-(intOf i).toNat)
     case atStart=>exact⟨0,Nat.zero_le _,rfl,SK.out,⟨Zw.out,HGP.out⟩,by show _=_;rw [List.drop_zero]⟩
     case round=>
      obtain⟨k,hk,rfl,IE,Zx,HIk⟩:=hrel
      clear k4 kl
      have k4:=Zx.out.1.cell 4
      have kl:=Zx.out.1.lt
      by_cases hkl:k<L
      ·have hkx:k<g.ini.length:=by rw [←tu.out];exact hkl
       obtain⟨x,hx⟩:∃x,g.ini[k]?=some x:=⟨_,List.getElem?_eq_getElem hkx⟩
       obtain⟨xg,xo,xs,rfl,hxb,hxs,hxc⟩:=Row.IB (Et.out.aaX fun b hb=>(IE.out.bel.block b hb).trans (HE.out.bel.block b hb).symm) hx
       obtain⟨xa,xz,rfl,_⟩:=hxs.at.open
       obtain⟨xl,hxl⟩:∃xl,xl=x.kids.length:=⟨_,rfl⟩
       rw [←hxl]at hxs hxc
       have y0:=hxc 0 _ rfl;have y1:=hxc 1 _ rfl;have y2:=hxc 2 _ rfl;have y3:=hxc 3 _ rfl;have y4:=hxc 4 _ rfl;have y5:=hxc 5 _ rfl
       rw [Nat.add_zero]at y0
       have yl:=World.block_lt_of_cell? _ _ y0
       have hxm:=List.mem_of_getElem? hx
       obtain⟨C,hC⟩:∃C,C=X.cst x:=⟨_,rfl⟩
       have jR:Hid (Calls Try.prog 29 #[.agg #[.int .i64 x.kind, .int .u64 x.num, .int .i64 x.bits, .bool x.sg, .string x.name, .slice xa xl xz]] wr (nS C.n C.b C.s C.e wr)):=by
        rw [hC];exact Mc x (wS.out.2.2.2 x hxm) (Lp.out.ini x hxm) wr _ hxs.at
       have WC:=HIk.out
       rw [Ck.MH hx,←hC]at WC
       have HIB:=Lib.hid WC
       obtain⟨E,hE⟩:∃E,E=C.e:=⟨_,rfl⟩
       rw [←hE]at jR HIB
       clear hxc hxs hxl hxm hC WC hkx hx hE
       by_cases h0:E=0
       ·subst h0
        go_wp2_with(first|(go_at_call 29;refine jR.out.mono ?_;rintro e9 w9⟨rfl,Uw⟩;have uh:=Lib.hid Uw;have kH:=Lib.hid (IE.out.keep Uw);clear Uw))
        go_roundw
        case rel=>exact⟨k+1,by omega,by go_num,kH.out.keep (Ext.alloc (Below.refl _ _) _),⟨(Zx.out.1.keep uh.out).keep (Ext.alloc (Below.refl _ _) _),Zx.out.2⟩,by show _=_;rw [HIB.out];simp⟩
        case measure=>simp [intOf];omega
       ·have qz:(E !=0)=true:=by simpa using h0
        have HRR:Hid (R=(E,j)):=by
         show R=_
         have hi:Ck.inits g.ini=E:=by rw [HIB.out,if_neg h0]
         have h1:=Uu.out
         rw [if_neg (by omega),hi,if_pos h0]at h1
         rw [HR.out,Ck.mQ HZ.out (by rw [h1];exact h0),h1]
        go_wp2_with(first|(go_at_call 29;refine jR.out.mono ?_;rintro e9 w9⟨rfl,Uw⟩;have uh:=Lib.hid Uw;have kH:=Lib.hid ((IE.out.keep Uw).keep (Ext.alloc (Below.refl _ _) (.cells #[.int .i64 C.b, .bool C.s] 33)));have f0:=kH.out.bf.cell 0;have f1:=kH.out.bf.cell 1;have f2:=kH.out.bf.frozen 0;have f3:=kH.out.bf.frozen 1;have f4:=kH.out.bf.lt;clear Uw))
        generalize hW:World.setCell _ _ _=wz
        have HW:Hid (ak wz (w.heap.size+1) 29 #[.int .i64 E, .int .i64 (j:Int)]∧Below w.heap.size w wz):=by
         subst hW
         exact⟨aW kH.out.bf _ _,Ext.setCell (Ext.setCell kH.out.bel (Nat.le_succ _) _) (Nat.le_succ _) _⟩
        clear hW f0 f1 f2 f3
        have q0:=HW.out.1.cell 0;have q1:=HW.out.1.cell 1
        have ql:=HW.out.1.lt
        exact bodyPost_ret (v:= .tuple #[.pointer none, .agg #[.int .i64 E, .int .i64 (j:Int)]]) (by simp [results,Try.results14,go_sem,q0,q1,ql]) rfl (C9.bad (by rw [HRR.out]) (by rw [HRR.out]) HW.out.2 h0)
      ·obtain rfl:k=L:=by omega
       have HIZ:Hid (Ck.inits g.ini=0):=by show _=_;rw [HIk.out,tu.out,List.drop_length];rfl
       go_wp2
       go_roundw
       case rel=>exact⟨j+1,all+T,by omega,by go_num,rfl,IE.out,by show _=_;rw [Uu.out,if_neg (by omega),if_neg (fun h=>h HIZ.out)],by omega,by omega⟩
       case measure=>simp [intOf];omega
  ·obtain rfl:j=n0:=by omega
   have QC:Hid (Ck.globs 0 [Ck.put,Ck.get] 0 P0.gs=((0,j),Ck.Dj P0 0)):=by
    show _=_
    have e1:Ck.Dj P0 0=Ck.Gi P0 P0.gs.length:=by unfold Ck.Dj;rw [List.take_zero];exact List.append_nil _
    rw [HGL.out,HN.out.1,List.drop_length,e1];rfl
   clear HGL ha0 ha1 hlt hj
   obtain⟨W0,rfl⟩:∃W0,W0=wr:=⟨_,rfl⟩
   go_upto_region 24 with(fail)
   go_wp2
   go_loopw [95](fun i wr=>∃(k:Nat),k≤n1∧i= .int .i64 (k:Int)∧Hid (tN w wr P0 (.slice a0 j c0) (.slice a1 n1 c1) (gb+1+1+1) (gb+1+1) gb (gb+1) j k)∧Hid (Ck.names j (Ck.Dj P0 0) P0.fs=Ck.names (j+k) (Ck.Dj P0 k) (P0.fs.drop k)))(fun i wr=>n1-(intOf i).toNat)
   case atStart=>exact⟨0,Nat.zero_le _,rfl,HE.out,by show _=_;rw [List.drop_zero];rfl⟩
   case round=>
    obtain⟨k,hk,rfl,IE,vI⟩:=hrel
    clear Qw Qx Qy
    have Qw:=IE.out.bp.cell 0;have Qx:=IE.out.bp.cell 1
    have Qy:=IE.out.bp.lt
    by_cases hkl:k<n1
    ·have SL:k<P0.fs.length:=by rw [←HN.out.2];exact hkl
     obtain⟨f,hf⟩:∃f,P0.fs[k]?=some f:=⟨_,List.getElem?_eq_getElem SL⟩
     obtain⟨fg,fo,cs,rfl,hfb,⟨vp,vb,rfl,JV,hrb⟩,hcell⟩:=Row.IB IE.out.pg.2 hf
     obtain⟨pa,pc,rfl,_⟩:=JV.parts
     obtain⟨ba,bc,rfl,_⟩:=hrb.parts
     obtain⟨np,hnp⟩:∃np,np=f.ps.length:=⟨_,rfl⟩
     obtain⟨nb,hnb⟩:∃nb,nb=f.body.length:=⟨_,rfl⟩
     rw [←hnp,←hnb]at hcell
     have k0:=hcell 0 _ rfl;have k1:=hcell 1 _ rfl;have k2:=hcell 2 _ rfl;have k3:=hcell 3 _ rfl;have k4:=hcell 4 _ rfl
     rw [Nat.add_zero]at k0
     have kl:=World.block_lt_of_cell? _ _ k0
     have hfm:=List.mem_of_getElem? hf
     have XR:=Lib.hid (Gh.out.fs f hfm)
     have Iq:=Lib.hid hf
     have XT:Hid (Ck.names j (Ck.Dj P0 0) P0.fs=if(Ck.Dj P0 k).contains f.nm.data.toList then(7,j+k)else Ck.names (j+(k+1)) (Ck.Dj P0 (k+1)) (P0.fs.drop (k+1))):=by
      obtain⟨h1,h2⟩:=List.getElem?_eq_some_iff.1 hf
      show _=_
      rw [vI.out,List.drop_eq_getElem_cons h1,h2,Ck.names]
      have ht:Ck.Dj P0 (k+1)=Ck.Dj P0 k++[f.nm.data.toList]:=by
       unfold Ck.Dj
       rw [List.take_succ_eq_append_getElem h1,h2,List.map_append]
       exact(List.append_assoc _ _ _).symm
      rw [ht];rfl
     obtain⟨TK,Ur⟩:∃TK,TK=(Ck.Dj P0 k).contains f.nm.data.toList:=⟨_,rfl⟩
     have kZ:Hid (∀w1,Below wr.heap.size wr w1→Calls Try.prog 26 #[.string f.nm,P (gb+1+1+1)] w1 fun e w'=>e= .returned (.bool TK)∧Below w1.heap.size w1 w'):=fun w1 hb=>by
      have h1:=IE.out.keep hb
      have h2:=Bf w1 _ _ _ _ _ _ (P0.gs.take j) (P0.fs.take k) _ _ f.nm XR.out.nm h1.bt h1.tb h1.gm h1.fm
      rw [Ur]
      have e1:P0.gs.take P0.gs.length=P0.gs.take j:=by rw [HN.out.1]
      unfold Ck.Dj Ck.Gi
      rw [e1]
      exact h2
     have Us:=Lib.hid Ur
     clear SL hf hfb JV hrb hcell hnp hnb hfm Ur
     go_upto_region 27 with(fail)
     generalize hw5:World.alloc _ _=w5
     have gU:Hid (Below wr.heap.size wr w5∧ak w5 wr.heap.size 40 #[.string f.nm, .int .i64 f.b, .bool f.s, .slice pa np pc, .slice ba nb bc]):=by
      subst hw5;exact⟨Ext.alloc (Below.refl _ _) _,ak.new _ _ _⟩
     have XL:=Lib.hid (IE.out.keep gU.out.1)
     have t0:=gU.out.2.cell 0
     have tl:=gU.out.2.lt
     clear hw5 k0 k1 k2 k3 k4 kl Qw Qx Qy
     cases TK with
     |true=>
      have HRR:Hid (R=(7,j+k)):=by
       show R=_
       have h0:=XT.out
       rw [if_pos Us.out.symm]at h0
       have h2:=Ck.Bg (P0:=P0) HZ.out QC.out
       rw [←HN.out.1,h0]at h2
       rw [HR.out];exact h2 (by show¬(7:Int)=0;decide)
      go_upto_region 28 with(first|(go_at_call 26;refine(kZ.out _ gU.out.1).mono ?_;rintro e7 w7⟨rfl,hb7⟩;have dD:=Lib.hid hb7;have lN:=Lib.hid (XL.out.keep hb7);have f0:=lN.out.bf.cell 0;have f1:=lN.out.bf.cell 1;have f2:=lN.out.bf.frozen 0;have f3:=lN.out.bf.frozen 1;have f4:=lN.out.bf.lt;clear hb7))
      clear t0 tl f0 f1 f2 f3 f4
      apply Ix.wp_region 7 (fun wi=>Hid (Below w7.heap.size w7 wi)) (Ix.vk [(Ix.aA _),(Ix.aA _),(Ix.aA _),(Ix.aA _),(Ix.aA _),(Ix.aA _),(Ix.aA _)]) (fun _=>false) (by kernel_rfl) (by kernel_rfl) (by kernel_rfl) (fun _ _ h hb=>Ext.trans h hb) (Ix.aN _) (Ix.bP _) (Below.refl _ _)
      case step=>
       refine aP 6 0 1 [] (fun wi HB=>?_)<|aP 5 1 2 [(0,some 104)] (fun wi HB=>?_)<|aP 4 2 3 [(1,some 105)] (fun wi HB=>?_)<|aP 3 3 4 [] (fun wi HB=>?_)<|aP 2 4 5 [(2,some 106),(3,some 107)] (fun wi HB=>?_)<|aP 1 5 6 [(4,some 108)] (fun wi HB=>?_)<|aP 0 6 7 [] (fun wi HB=>?_)<|Ix.aC
       (·((repeat(refine aB ?_;rintro _ rfl));refine aF ?_;(try simp only [aj]);refine Ix.ah rfl rfl fun K hK=>?_;(try simp only [aj]at hK);go_wp2_with(first|fail);exact hK _ _ (Below.refl _ _) rfl))
       iterate 2(·(have b0:=(lN.out.keep HB.out).bp.cell 0;(repeat(refine aB ?_;rintro _ rfl));refine aF ?_;(try simp only [aj]);refine Ix.ah rfl rfl fun K hK=>?_;(try simp only [aj]at hK);go_wp2_with(first|fail);exact hK _ _ (Below.refl _ _) rfl))
       iterate 4(·((repeat(refine aB ?_;rintro _ rfl));refine aF ?_;(try simp only [aj]);refine Ix.ah rfl rfl fun K hK=>?_;(try simp only [aj]at hK);go_wp2_with(first|fail);exact hK _ _ (Below.refl _ _) rfl))
      intro lM wf HF hdf
      refine au 6 0 1 ?_;rintro _ _ rfl;refine au 5 1 2 ?_;rintro _ _ rfl;refine au 4 2 3 ?_;rintro _ _ rfl;refine au 3 3 4 ?_;rintro _ _ rfl;refine au 2 4 5 ?_;rintro _ _ rfl;refine au 1 5 6 ?_;rintro _ _ rfl;refine au 0 6 7 ?_;rintro _ _ rfl
      refine Ix.aI ?_
      have kH:=Lib.hid (lN.out.keep HF.out);have f0:=kH.out.bf.cell 0;have f1:=kH.out.bf.cell 1;have f2:=kH.out.bf.frozen 0;have f3:=kH.out.bf.frozen 1;have f4:=kH.out.bf.lt
      (try simp only [Act.put,List.setIfInBounds_toArray,List.set_cons_zero,List.set_cons_succ,List.drop_succ_cons,List.drop_zero])
      go_wp2_with(first|fail)
      all_goals(first|refine Ix.only ?_|(refine Ix.dK fun tz=>?_))
      generalize hW:World.setCell _ _ _=wz
      have HW:Hid (ak wz (w.heap.size+1) 29 #[.int .i64 7, .int .i64 ((j+k:Nat):Int)]∧Below w.heap.size w wz):=by
       subst hW
       refine⟨?_,Ext.setCell (Ext.setCell kH.out.bel (Nat.le_succ _) _) (Nat.le_succ _) _⟩
       rw [Int.natCast_add]
       exact aW kH.out.bf _ _
      clear hW f0 f1 f2 f3
      have q0:=HW.out.1.cell 0;have q1:=HW.out.1.cell 1
      have ql:=HW.out.1.lt
      go_wp2
      exact bodyPost_ret (v:= .tuple #[.pointer none, .agg #[.int .i64 7, .int .i64 ((j+k:Nat):Int)]]) (by simp [results,Try.results14,go_sem,q0,q1,ql]) rfl (C9.bad (by rw [HRR.out]) (by rw [HRR.out]) HW.out.2 (by decide))
     |false=>
      go_upto_region 29 with(first|(go_at_call 26;refine(kZ.out _ gU.out.1).mono ?_;rintro e7 w7⟨rfl,hb7⟩;have dD:=Lib.hid hb7;have lN:=Lib.hid (XL.out.keep hb7);have f0:=lN.out.bf.cell 0;have f1:=lN.out.bf.cell 1;have f2:=lN.out.bf.frozen 0;have f3:=lN.out.bf.frozen 1;have f4:=lN.out.bf.lt;clear hb7))
      have iO:=Lib.hid (gU.out.2.keep dD.out)
      clear t0 tl f0 f1 f2 f3 f4
      have b0:=lN.out.bt.cell 0;have b3:=lN.out.tb.cell 3;have t0:=iO.out.cell 0
      have bl:=lN.out.bt.lt;have bl2:=lN.out.tb.lt;have tl:=iO.out.lt
      have hgd:SMap FN (fun i:Nat=> .lit (.int .i64 (i:Int))) w7.drew (gb+1) k (Ck.idx (fun g:Fn=>g.nm.data.toList) (P0.fs.take k)):=lN.out.fm.same rfl
      obtain⟨w8,hr8,XM,sN⟩:=hgd.put (v:=k) (val:= .int .i64 (k:Int)) Try.underlying69 (by unfold maxLen;omega) XR.out.nm (MG k (by omega))
      have hgu:w7.grownBy w8 (some (gb+1)):=aH.y8 sN
      have HE8:=Lib.hid (lN.out.aap Iq.out (Ck.QD Us.out) hgu XM)
      clear hgu sN XM hgd
      refine Rg.wp_region [] (by kernel_rfl) (by kernel_rfl) ?_
      repeat(first|(refine Rg.cO ?_)|(refine Rg.bJ rfl ?_;simp only [Act.put,List.setIfInBounds_toArray,List.set_cons_zero,List.set_cons_succ])|(refine Rg.fP rfl rfl (fun K hK=>?_);go_big_quiet_op;refine hK _ ?_;clear hK K)|(refine Rg.fQ rfl rfl (fun K hK=>?_);go_wp2_with(first|fail|fail)))
      clear b0 b3 t0 bl bl2 tl hr8
      go_wp2
      go_roundw
      case rel=>exact⟨k+1,by omega,by go_num,HE8.out,by show _=_;rw [XT.out,←Us.out];rfl⟩
      case measure=>simp [intOf];omega
    ·obtain rfl:k=n1:=by omega
     have QE:Hid (Ck.names P0.gs.length (Ck.Dj P0 0) P0.fs=(0,j+k)):=by
      show _=_
      rw [←HN.out.1,vI.out,show P0.fs.drop k=[]by rw [HN.out.2,List.drop_length]];rfl
     have WB:Hid (tN w wr P0 (.slice a0 j c0) (.slice a1 k c1) (gb+1+1+1) (gb+1+1) gb (gb+1) P0.gs.length P0.fs.length):=by
      show tN _ _ _ _ _ _ _ _ _ P0.gs.length P0.fs.length
      rw [←HN.out.1,←HN.out.2];exact IE.out
     clear vI hk hkl IE
     obtain⟨W1,rfl⟩:∃W1,W1=wr:=⟨_,rfl⟩
     go_upto_region 31 with(fail)
     go_wp2
     go_loopw [121](fun i wr=>∃(m:Nat),m≤k∧i= .int .i64 (m:Int)∧Hid (tN w wr P0 (.slice a0 j c0) (.slice a1 k c1) (gb+1+1+1) (gb+1+1) gb (gb+1) P0.gs.length P0.fs.length)∧Hid (Ck.funcs P0 P0.gs.length P0.fs=Ck.funcs P0 (j+m) (P0.fs.drop m)))(fun i wr=>k-(intOf i).toNat)
     case atStart=>exact⟨0,Nat.zero_le _,rfl,WB.out,by show _=_;rw [List.drop_zero,Nat.add_zero,HN.out.1]⟩
     case round=>
      obtain⟨m,hm,rfl,kD,HUL⟩:=hrel
      clear Qw Qx Qy
      have Qw:=kD.out.bp.cell 0;have Qx:=kD.out.bp.cell 1
      have Qy:=kD.out.bp.lt
      have b0:=kD.out.bt.cell 0
      have bl:=kD.out.bt.lt
      by_cases hml:m<k
      ·have hmf:m<P0.fs.length:=by rw [←HN.out.2];exact hml
       obtain⟨f,hf⟩:∃f,P0.fs[m]?=some f:=⟨_,List.getElem?_eq_getElem hmf⟩
       obtain⟨fg,fo,cs,rfl,_,_,_⟩:=Row.IB kD.out.pg.2 hf
       have hfm:=List.mem_of_getElem? hf
       have XR:=Lib.hid (Gh.out.fs f hfm)
       obtain⟨h8,hok,N,hN,hcn⟩:=SG.out f hfm
       have Iq:=Lib.hid hf
       have MI:=Lib.hid (And.intro h8 (And.intro hok (And.intro hN hcn)))
       have QF:Hid (Ck.funcs P0 P0.gs.length P0.fs=if Ck.func P0 f=0 then Ck.funcs P0 (j+(m+1)) (P0.fs.drop (m+1))else(Ck.func P0 f,j+m)):=by
        show _=_
        rw [HUL.out,Ck.MJ hf];rfl
       have WL:Hid (∀w1,Below wr.heap.size wr w1→Calls Try.prog 30 #[P (gb+1+1), .pointer (some ⟨fg,fo+m*5,none⟩)] w1 (EnR (gb+1+1) fg (fo+m*5) w1 (Ck.enter f.ps Ck.Env.new))):=fun w1 hb=>by
        obtain⟨pa,pc,ba,bc,_,hp1,_,_,_,k3,_,hrow,_⟩:=(kD.out.keep hb).kW Iq.out
        exact MK w1 _ _ _ f.ps pa pc XR.out.ps MI.out.1 k3 hp1 hrow
       clear hmf hf hfm h8 hok hN hcn
       go_upto_region 35 with(fail)
       clear Qw Qx Qy b0 bl
       cases hx:Ck.enter f.ps Ck.Env.new with
       |none=>
        rw [hx]at WL
        have HRR:Hid (R=(7,j+m)):=by
         show R=_
         have h0:=QF.out
         rw [Ck.xK hx,if_neg (by decide)]at h0
         rw [HR.out,Ck.nD HZ.out QC.out QE.out (by rw [h0];show¬(7:Int)=0;decide),h0]
        clear hx
        apply Ix.wp_region 10 (fun wi=>Hid (Below wr.heap.size wr wi)) (Ix.vk [(Ix.aA _),(Ix.aA _),(Ix.aA _),(Ix.aA _),(Ix.aA _),(Ix.aA (.tuple #[.pointer none, .bool false])),(Ix.aA _),(Ix.aA _),(Ix.aA _),(Ix.aA _)]) (fun _=>false) (by kernel_rfl) (by kernel_rfl) (by kernel_rfl) (fun _ _ h hb=>Ext.trans h hb) (Ix.aN _) (Ix.bP _) (Below.refl _ _)
        case step=>
         refine aP 9 0 1 [] (fun wi HB=>?_)<|aP 8 1 2 [] (fun wi HB=>?_)<|aP 7 2 3 [(1,some 131)] (fun wi HB=>?_)<|aP 6 3 4 [] (fun wi HB=>?_)<|aP 5 4 5 [(2,some 132),(3,some 133)] (fun wi HB=>?_)<|aP 4 5 6 [(0,some 130),(4,some 134)] (fun wi HB=>?_)<|aP 3 6 7 [(5,some 135)] (fun wi HB=>?_)<|aP 2 7 8 [(6,some 129)] (fun wi HB=>?_)<|aP 1 8 9 [(6,some 129)] (fun wi HB=>?_)<|aP 0 9 10 [(7,some 136)] (fun wi HB=>?_)<|Ix.aC
         (·(have hk:=kD.out.keep HB.out;have b0:=hk.bt.cell 0;have bl:=hk.bt.lt;have p1:=hk.bp.cell 1;clear hk;(repeat(refine aB ?_;rintro _ rfl));refine aF ?_;(try simp only [aj]);refine Ix.ah rfl rfl fun K hK=>?_;(try simp only [aj]at hK);go_wp2_with(first|fail);exact hK _ _ (Below.refl _ _) rfl))
         (·((repeat(refine aB ?_;rintro _ rfl));refine aF ?_;(try simp only [aj]);refine Ix.ah rfl rfl fun K hK=>?_;(try simp only [aj]at hK);go_wp2_with(first|fail);exact hK _ _ (Below.refl _ _) rfl))
         (·(have hk:=kD.out.keep HB.out;have b0:=hk.bt.cell 0;have bl:=hk.bt.lt;have p1:=hk.bp.cell 1;clear hk;(repeat(refine aB ?_;rintro _ rfl));refine aF ?_;(try simp only [aj]);refine Ix.ah rfl rfl fun K hK=>?_;(try simp only [aj]at hK);go_wp2_with(first|fail);exact hK _ _ (Below.refl _ _) rfl))
         iterate 2(·((repeat(refine aB ?_;rintro _ rfl));refine aF ?_;(try simp only [aj]);refine Ix.ah rfl rfl fun K hK=>?_;(try simp only [aj]at hK);go_wp2_with(first|fail);exact hK _ _ (Below.refl _ _) rfl))
         (·(have hk:=kD.out.keep HB.out;have b0:=hk.bt.cell 0;have bl:=hk.bt.lt;have p1:=hk.bp.cell 1;clear hk;(repeat(refine aB ?_;rintro _ rfl));refine aF ?_;(try simp only [aj]);refine Ix.ah rfl rfl fun K hK=>?_;(try simp only [aj]at hK);go_wp2_with(first|(go_at_call 30;refine(WL.out _ HB.out).mono ?_;rintro e wa⟨hba,rfl⟩));exact hK _ _ hba rfl))
         iterate 4(·((repeat(refine aB ?_;rintro _ rfl));refine aF ?_;(try simp only [aj]);refine Ix.ah rfl rfl fun K hK=>?_;(try simp only [aj]at hK);go_wp2_with(first|fail);exact hK _ _ (Below.refl _ _) rfl))
        intro lM wf HF hdf
        refine au 9 0 1 ?_;rintro _ _ rfl;refine au 8 1 2 ?_;rintro _ _ rfl;refine au 7 2 3 ?_;rintro _ _ rfl;refine au 6 3 4 ?_;rintro _ _ rfl;refine au 5 4 5 ?_;rintro _ _ rfl;refine au 4 5 6 ?_;rintro _ _ rfl;refine au 3 6 7 ?_;rintro _ _ rfl;refine au 2 7 8 ?_;rintro _ _ rfl;refine au 1 8 9 ?_;rintro _ _ rfl;refine au 0 9 10 ?_;rintro _ _ rfl
        refine Ix.aI ?_
        have kH:=Lib.hid (kD.out.keep HF.out);have f0:=kH.out.bf.cell 0;have f1:=kH.out.bf.cell 1;have f2:=kH.out.bf.frozen 0;have f3:=kH.out.bf.frozen 1;have f4:=kH.out.bf.lt
        (try simp only [Act.put,List.setIfInBounds_toArray,List.set_cons_zero,List.set_cons_succ,List.drop_succ_cons,List.drop_zero])
        go_wp2_with(first|fail)
        all_goals(first|refine Ix.only ?_|(refine Ix.dK fun tz=>?_))
        go_wp2
        generalize hW:World.setCell _ _ _=wz
        have HW:Hid (ak wz (w.heap.size+1) 29 #[.int .i64 7, .int .i64 ((j+m:Nat):Int)]∧Below w.heap.size w wz):=by
         subst hW
         refine⟨?_,Ext.setCell (Ext.setCell kH.out.bel (Nat.le_succ _) _) (Nat.le_succ _) _⟩
         rw [Int.natCast_add]
         exact aW kH.out.bf _ _
        clear hW f0 f1 f2 f3
        have q0:=HW.out.1.cell 0;have q1:=HW.out.1.cell 1
        have ql:=HW.out.1.lt
        exact bodyPost_ret (v:= .tuple #[.pointer none, .agg #[.int .i64 7, .int .i64 ((j+m:Nat):Int)]]) (by simp [results,Try.results14,go_sem,q0,q1,ql]) rfl (C9.bad (by rw [HRR.out]) (by rw [HRR.out]) HW.out.2 (by decide))
       |some e1=>
        rw [hx]at WL
        have HX:=Lib.hid hx
        clear hx
        apply Ix.wp_region 10 (fun wi=>Hid (Below wr.heap.size wr wi)) (Ix.vk [(Ix.aA _),(Ix.aA _),(Ix.aA _),(Ix.aA _),(Ix.aA _),(Ix.dU (fun v w'=>∃g,v=Value.tuple #[P g, .bool true]∧TM wr (gb+1+1) fg (fo+m*5) e1 g w') (fun v w1 w2 h hb=>by obtain⟨g,e,h⟩:=h;exact⟨g,e,h.keep hb⟩)),(Ix.dU (fun v w'=>∃g,v=Value.tuple #[P g, .bool true]∧TM wr (gb+1+1) fg (fo+m*5) e1 g w') (fun v w1 w2 h hb=>by obtain⟨g,e,h⟩:=h;exact⟨g,e,h.keep hb⟩)),(Ix.dU (fun v w'=>∃g,v=P g∧TM wr (gb+1+1) fg (fo+m*5) e1 g w') (fun v w1 w2 h hb=>by obtain⟨g,e,h⟩:=h;exact⟨g,e,h.keep hb⟩)),(Ix.aA (.bool true)),(Ix.dU (fun v w'=>∃g,v=P g∧TM wr (gb+1+1) fg (fo+m*5) e1 g w') (fun v w1 w2 h hb=>by obtain⟨g,e,h⟩:=h;exact⟨g,e,h.keep hb⟩))]) (fun _=>false) (by kernel_rfl) (by kernel_rfl) (by kernel_rfl) (fun _ _ h hb=>Ext.trans h hb) (Ix.aN _) (Ix.bP _) (Below.refl _ _)
        case step=>
         refine aP 9 0 1 [] (fun wi HB=>?_)<|aP 8 1 2 [] (fun wi HB=>?_)<|aP 7 2 3 [(1,some 131)] (fun wi HB=>?_)<|aP 6 3 4 [] (fun wi HB=>?_)<|aP 5 4 5 [(2,some 132),(3,some 133)] (fun wi HB=>?_)<|aP 4 5 6 [(0,some 130),(4,some 134)] (fun wi HB=>?_)<|aP 3 6 7 [(5,some 135)] (fun wi HB=>?_)<|aP 2 7 8 [(6,some 129)] (fun wi HB=>?_)<|aP 1 8 9 [(6,some 129)] (fun wi HB=>?_)<|aP 0 9 10 [(7,some 136)] (fun wi HB=>?_)<|Ix.aC
         (·(have hk:=kD.out.keep HB.out;have b0:=hk.bt.cell 0;have bl:=hk.bt.lt;have p1:=hk.bp.cell 1;clear hk;(repeat(refine aB ?_;rintro _ rfl));refine aF ?_;(try simp only [aj]);refine Ix.ah rfl rfl fun K hK=>?_;(try simp only [aj]at hK);go_wp2_with(first|fail);exact hK _ _ (Below.refl _ _) rfl))
         (·((repeat(refine aB ?_;rintro _ rfl));refine aF ?_;(try simp only [aj]);refine Ix.ah rfl rfl fun K hK=>?_;(try simp only [aj]at hK);go_wp2_with(first|fail);exact hK _ _ (Below.refl _ _) rfl))
         (·(have hk:=kD.out.keep HB.out;have b0:=hk.bt.cell 0;have bl:=hk.bt.lt;have p1:=hk.bp.cell 1;clear hk;(repeat(refine aB ?_;rintro _ rfl));refine aF ?_;(try simp only [aj]);refine Ix.ah rfl rfl fun K hK=>?_;(try simp only [aj]at hK);go_wp2_with(first|fail);exact hK _ _ (Below.refl _ _) rfl))
         iterate 2(·((repeat(refine aB ?_;rintro _ rfl));refine aF ?_;(try simp only [aj]);refine Ix.ah rfl rfl fun K hK=>?_;(try simp only [aj]at hK);go_wp2_with(first|fail);exact hK _ _ (Below.refl _ _) rfl))
         (·(have hk:=kD.out.keep HB.out;have b0:=hk.bt.cell 0;have bl:=hk.bt.lt;have p1:=hk.bp.cell 1;clear hk;(repeat(refine aB ?_;rintro _ rfl));refine aF ?_;(try simp only [aj]);refine Ix.ah rfl rfl fun K hK=>?_;(try simp only [aj]at hK);go_wp2_with(first|(go_at_call 30;refine(WL.out _ HB.out).mono ?_;rintro e wa⟨hba,ga,rfl,hga⟩));exact hK _ _ hba ⟨_,rfl,⟨_,HB.out,hba,hga⟩⟩))
         (·(have hk:=kD.out.keep HB.out;have b0:=hk.bt.cell 0;have bl:=hk.bt.lt;have p1:=hk.bp.cell 1;clear hk;refine aB ?_;rintro _⟨g5,rfl,hg5⟩;refine aF ?_;(try simp only [aj]);refine Ix.ah rfl rfl fun K hK=>?_;(try simp only [aj]at hK);go_wp2_with(first|fail);exact hK _ _ (Below.refl _ _) ⟨_,rfl,hg5⟩))
         (·(have hk:=kD.out.keep HB.out;have b0:=hk.bt.cell 0;have bl:=hk.bt.lt;have p1:=hk.bp.cell 1;clear hk;refine aB ?_;rintro _⟨g6,rfl,zf⟩;refine aF ?_;(try simp only [aj]);refine Ix.ah rfl rfl fun K hK=>?_;(try simp only [aj]at hK);go_wp2_with(first|fail);exact hK _ _ (Below.refl _ _) ⟨_,rfl,zf⟩))
         (·(refine aB ?_;rintro _⟨g6,rfl,zf⟩;refine aF ?_;(try simp only [aj]);refine Ix.ah rfl rfl fun K hK=>?_;(try simp only [aj]at hK);go_wp2_with(first|fail);exact hK _ _ (Below.refl _ _) rfl))
         (·(have hk:=kD.out.keep HB.out;have b0:=hk.bt.cell 0;have bl:=hk.bt.lt;have p1:=hk.bp.cell 1;clear hk;refine aB ?_;rintro _⟨g7,rfl,wO⟩;refine aF ?_;(try simp only [aj]);refine Ix.ah rfl rfl fun K hK=>?_;(try simp only [aj]at hK);go_wp2_with(first|fail);exact hK _ _ (Below.refl _ _) ⟨_,rfl,wO⟩))
        intro lM wf HF hdf
        refine au 9 0 1 ?_;rintro _ _ rfl;refine au 8 1 2 ?_;rintro _ _ rfl;refine au 7 2 3 ?_;rintro _ _ rfl;refine au 6 3 4 ?_;rintro _ _ rfl;refine au 5 4 5 ?_;rintro _ _ rfl;refine au 4 5 6 ?_;rintro _ _⟨g5,rfl,hg5⟩;refine au 3 6 7 ?_;rintro _ _⟨g6,rfl,zf⟩;refine au 2 7 8 ?_;rintro _ _⟨g7,rfl,wO⟩;refine au 1 8 9 ?_;rintro _ _ rfl;refine au 0 9 10 ?_;rintro _ _⟨g9,rfl,eG⟩
        refine Ix.aI ?_
        have kH:=Lib.hid (kD.out.keep HF.out);clear hg5 zf wO
        (try simp only [Act.put,List.setIfInBounds_toArray,List.set_cons_zero,List.set_cons_succ,List.drop_succ_cons,List.drop_zero])
        go_wp2_with(first|fail)
        all_goals(first|refine Ix.only ?_|(refine Ix.dK fun tz=>?_))
        obtain⟨wb,XU,Ux,hsc⟩:=eG
        have Zy:=Lib.hid (kD.out.keep XU)
        obtain⟨pa,pc,ba,bc,hq,hp1,_,_,_,_,k4,_,_⟩:=kH.out.kW Iq.out
        have HST:=Zy.out.stats Iq.out XR.out (fun f hf=>(SG.out f hf).1) MI.out.2.1 MI.out.2.2.1 MI.out.2.2.2 Ux HX.out hsc k4
        obtain⟨nb,hnb⟩:∃nb,nb=f.body.length:=⟨_,rfl⟩
        rw [←hnb]at HST k4
        have hsl:=Ck.vJ (P0:=P0) MI.out.1 MI.out.2.1 MI.out.2.2.1 MI.out.2.2.2 HX.out
        obtain⟨r,hr⟩:∃r,r=Ck.stats P0 f.b f.body e1.open:=⟨_,rfl⟩
        rw [←hr]at HST hsl
        have HST:=Lib.hid HST
        have HSL:=Lib.hid hsl
        have HRQ:=Lib.hid hr
        have HWB:=Lib.hid Ux
        have p1:=kH.out.bp.cell 1
        have pl:=kH.out.bp.lt
        have kl:=World.block_lt_of_cell? _ _ k4
        clear XU Ux hsc hp1 hnb hsl hr hdf
        obtain⟨E,e2⟩:=r
        by_cases h0:E=0
        ·subst h0
         have h2:(Ck.stats P0 f.b f.body e1.open).1=0:=by rw [←HRQ.out]
         have h3:(Ck.stats P0 f.b f.body e1.open).2.slots=e2.slots:=by rw [←HRQ.out]
         have Zz:=Lib.hid (And.intro h2 h3)
         clear h2 h3
         obtain⟨D,hD⟩:∃D,D=Ck.words e2.slots:=⟨_,rfl⟩
         have HD:=Lib.hid hD
         clear hD
         by_cases hbig:200<D
         ·have HRR:Hid (R=(4,j+m)):=by
           show R=_
           have h1:=QF.out
           rw [Ck.xX HX.out Zz.out.1 (by rw [Zz.out.2,←HD.out];exact hbig),if_neg (by decide)]at h1
           rw [HR.out,Ck.nD HZ.out QC.out QE.out (by rw [h1];show¬(4:Int)=0;decide),h1]
          go_wp2_with(first|(go_at_call 31;refine HST.out.mono ?_;rintro e w10⟨he,oK,hs10⟩;have he:e= .returned (.int .i64 0):=he;subst he;obtain⟨la,lc,ub,sa,sc,bs,hsc⟩:=hs10;have z3:w10.cell? ⟨g9,3,none⟩=some (.slice sa e2.slots.length sc):=hsc.blk.cell 3;have zl:=hsc.blk.lt;have vK:=Lib.hid (Zy.out.keep (HWB.out.trans oK.1));have SI:Hid (Calls Try.prog 32 #[.slice sa e2.slots.length sc] w10 fun e w'=>e= .returned (.int .i64 D)∧Below w10.heap.size w10 w'):=(by rw [HD.out];exact Bh w10 _ sa sc e2.slots HSL.out.2 HSL.out.1 hsc.sl);clear oK hsc)|(go_at_call 32;refine SI.out.mono ?_;rintro e w11⟨rfl,ML⟩;have qw:=Lib.hid (vK.out.keep ML);have f0:=qw.out.bf.cell 0;have f1:=qw.out.bf.cell 1;have f2:=qw.out.bf.frozen 0;have f3:=qw.out.bf.frozen 1;have f4:=qw.out.bf.lt;clear ML))
          generalize hW:World.setCell _ _ _=wz
          have HW:Hid (ak wz (w.heap.size+1) 29 #[.int .i64 4, .int .i64 ((j+m:Nat):Int)]∧Below w.heap.size w wz):=by
           subst hW
           refine⟨?_,Ext.setCell (Ext.setCell qw.out.bel (Nat.le_succ _) _) (Nat.le_succ _) _⟩
           rw [Int.natCast_add]
           exact aW qw.out.bf _ _
          clear hW f0 f1 f2 f3
          have q0:=HW.out.1.cell 0;have q1:=HW.out.1.cell 1
          have ql:=HW.out.1.lt
          exact bodyPost_ret (v:= .tuple #[.pointer none, .agg #[.int .i64 4, .int .i64 ((j+m:Nat):Int)]]) (by simp [results,Try.results14,go_sem,q0,q1,ql]) rfl (C9.bad (by rw [HRR.out]) (by rw [HRR.out]) HW.out.2 (by decide))
         ·have HFG:=Lib.hid (Ck.xY HX.out Zz.out.1 (by rw [Zz.out.2,←HD.out];exact hbig))
          go_wp2_with(first|(go_at_call 31;refine HST.out.mono ?_;rintro e w10⟨he,oK,hs10⟩;have he:e= .returned (.int .i64 0):=he;subst he;obtain⟨la,lc,ub,sa,sc,bs,hsc⟩:=hs10;have z3:w10.cell? ⟨g9,3,none⟩=some (.slice sa e2.slots.length sc):=hsc.blk.cell 3;have zl:=hsc.blk.lt;have vK:=Lib.hid (Zy.out.keep (HWB.out.trans oK.1));have SI:Hid (Calls Try.prog 32 #[.slice sa e2.slots.length sc] w10 fun e w'=>e= .returned (.int .i64 D)∧Below w10.heap.size w10 w'):=(by rw [HD.out];exact Bh w10 _ sa sc e2.slots HSL.out.2 HSL.out.1 hsc.sl);clear oK hsc)|(go_at_call 32;refine SI.out.mono ?_;rintro e w11⟨rfl,ML⟩;have qw:=Lib.hid (vK.out.keep ML);have f0:=qw.out.bf.cell 0;have f1:=qw.out.bf.cell 1;have f2:=qw.out.bf.frozen 0;have f3:=qw.out.bf.frozen 1;have f4:=qw.out.bf.lt;clear ML))
          go_roundw
          case rel=>exact⟨m+1,by omega,by go_num,qw.out,by show _=_;rw [QF.out,if_pos HFG.out]⟩
          case measure=>simp [intOf];omega
        ·have HRR:Hid (R=(E,j+m)):=by
          show R=_
          have h1:=QF.out
          have h2:(Ck.stats P0 f.b f.body e1.open).1=E:=by rw [←HRQ.out]
          rw [Ck.Bj HX.out (by rw [h2];exact h0),h2,if_neg h0]at h1
          rw [HR.out,Ck.nD HZ.out QC.out QE.out (by rw [h1];exact h0),h1]
         have qz:(E !=0)=true:=by simpa using h0
         go_wp2_with(first|(go_at_call 31;refine HST.out.mono ?_;rintro e w10⟨he,oK,hs10⟩;have he:e= .returned (.int .i64 E):=he;subst he;have vK:=Lib.hid (Zy.out.keep (HWB.out.trans oK.1));have f0:=vK.out.bf.cell 0;have f1:=vK.out.bf.cell 1;have f2:=vK.out.bf.frozen 0;have f3:=vK.out.bf.frozen 1;have f4:=vK.out.bf.lt;clear oK hs10))
         generalize hW:World.setCell _ _ _=wz
         have HW:Hid (ak wz (w.heap.size+1) 29 #[.int .i64 E, .int .i64 ((j+m:Nat):Int)]∧Below w.heap.size w wz):=by
          subst hW
          refine⟨?_,Ext.setCell (Ext.setCell vK.out.bel (Nat.le_succ _) _) (Nat.le_succ _) _⟩
          rw [Int.natCast_add]
          exact aW vK.out.bf _ _
         clear hW f0 f1 f2 f3
         have q0:=HW.out.1.cell 0;have q1:=HW.out.1.cell 1
         have ql:=HW.out.1.lt
         exact bodyPost_ret (v:= .tuple #[.pointer none, .agg #[.int .i64 E, .int .i64 ((j+m:Nat):Int)]]) (by simp [results,Try.results14,go_sem,q0,q1,ql]) rfl (C9.bad (by rw [HRR.out]) (by rw [HRR.out]) HW.out.2 h0)
      ·obtain rfl:m=k:=by omega
       have HUZ:Hid (Ck.funcs P0 P0.gs.length P0.fs=(0,j+m)):=by
        show _=_
        rw [HUL.out,show P0.fs.drop m=[]by rw [HN.out.2,List.drop_length]];rfl
       have Uy:=Lib.hid kD.out.table
       have HM:=Lib.hid (Ck.Eu QE.out)
       have HCM:=Lib.hid (Ck.vM HZ.out QC.out QE.out HUZ.out)
       have b3:=Uy.out.blk.cell 3
       have b3l:=Uy.out.blk.lt
       have hrun:=look_in Uy.out.fm (s:=⟨#[109,97,105,110]⟩) (by decide)
       rw [show(⟨#[109,97,105,110]⟩:ByteArray).data.toList=Ck.main from rfl]at hrun
       cases hx:Ck.idx (fun f:Fn=>f.nm.data.toList) P0.fs Ck.main with
       |none=>
        rw [hx]at hrun
        have ZA:Hid (Ck.jw P0=false):=by show _=_;rw [HM.out,hx]
        clear hx
        simp only [Option.getD_none,Option.isSome_none]at hrun
        have HRR:Hid (R=(6,j+m)):=by
         show R=_
         rw [HR.out,HCM.out,ZA.out,if_pos rfl,←HN.out.1,←HN.out.2]
        go_upto_region 46 with(fail)
        clear Qw Qx Qy b0 bl b3 b3l hrun
        apply Ix.wp_region 9 (fun wi=>Hid (Below wr.heap.size wr wi)) (Ix.vk [(Ix.aA _),(Ix.aA _),(Ix.aA _),(Ix.aA _),(Ix.aA _),(Ix.aA _),(Ix.aA _),(Ix.aA _),(Ix.aA _)]) (fun _=>false) (by kernel_rfl) (by kernel_rfl) (by kernel_rfl) (fun _ _ h hb=>Ext.trans h hb) (Ix.aN _) (Ix.bP _) (Below.refl _ _)
        case step=>
         refine aP 8 0 1 [] (fun wi HB=>?_)<|aP 7 1 2 [(0,some 184)] (fun wi HB=>?_)<|aP 6 2 3 [(1,some 185)] (fun wi HB=>?_)<|aP 5 3 4 [] (fun wi HB=>?_)<|aP 4 4 5 [(3,some 187)] (fun wi HB=>?_)<|aP 3 5 6 [(4,some 188)] (fun wi HB=>?_)<|aP 2 6 7 [(2,some 186),(5,some 189)] (fun wi HB=>?_)<|aP 1 7 8 [(6,some 190)] (fun wi HB=>?_)<|aP 0 8 9 [] (fun wi HB=>?_)<|Ix.aC
         (·((repeat(refine aB ?_;rintro _ rfl));refine aF ?_;(try simp only [aj]);refine Ix.ah rfl rfl fun K hK=>?_;(try simp only [aj]at hK);go_wp2_with(first|fail);exact hK _ _ (Below.refl _ _) rfl))
         iterate 2(·(have b0:=(kD.out.keep HB.out).bp.cell 0;have b1:=(kD.out.keep HB.out).bp.cell 1;(repeat(refine aB ?_;rintro _ rfl));refine aF ?_;(try simp only [aj]);refine Ix.ah rfl rfl fun K hK=>?_;(try simp only [aj]at hK);go_wp2_with(first|fail);exact hK _ _ (Below.refl _ _) rfl))
         (·((repeat(refine aB ?_;rintro _ rfl));refine aF ?_;(try simp only [aj]);refine Ix.ah rfl rfl fun K hK=>?_;(try simp only [aj]at hK);go_wp2_with(first|fail);exact hK _ _ (Below.refl _ _) rfl))
         iterate 2(·(have b0:=(kD.out.keep HB.out).bp.cell 0;have b1:=(kD.out.keep HB.out).bp.cell 1;(repeat(refine aB ?_;rintro _ rfl));refine aF ?_;(try simp only [aj]);refine Ix.ah rfl rfl fun K hK=>?_;(try simp only [aj]at hK);go_wp2_with(first|fail);exact hK _ _ (Below.refl _ _) rfl))
         iterate 3(·((repeat(refine aB ?_;rintro _ rfl));refine aF ?_;(try simp only [aj]);refine Ix.ah rfl rfl fun K hK=>?_;(try simp only [aj]at hK);go_wp2_with(first|fail);exact hK _ _ (Below.refl _ _) rfl))
        intro lM wf HF hdf
        refine au 8 0 1 ?_;rintro _ _ rfl;refine au 7 1 2 ?_;rintro _ _ rfl;refine au 6 2 3 ?_;rintro _ _ rfl;refine au 5 3 4 ?_;rintro _ _ rfl;refine au 4 4 5 ?_;rintro _ _ rfl;refine au 3 5 6 ?_;rintro _ _ rfl;refine au 2 6 7 ?_;rintro _ _ rfl;refine au 1 7 8 ?_;rintro _ _ rfl;refine au 0 8 9 ?_;rintro _ _ rfl
        refine Ix.aI ?_
        have kH:=Lib.hid (kD.out.keep HF.out);have f0:=kH.out.bf.cell 0;have f1:=kH.out.bf.cell 1;have f2:=kH.out.bf.frozen 0;have f3:=kH.out.bf.frozen 1;have f4:=kH.out.bf.lt
        (try simp only [Act.put,List.setIfInBounds_toArray,List.set_cons_zero,List.set_cons_succ,List.drop_succ_cons,List.drop_zero])
        go_wp2_with(first|fail)
        all_goals(first|refine Ix.only ?_|(refine Ix.dK fun tz=>?_))
        go_wp2
        generalize hW:World.setCell _ _ _=wz
        have HW:Hid (ak wz (w.heap.size+1) 29 #[.int .i64 6, .int .i64 ((j+m:Nat):Int)]∧Below w.heap.size w wz):=by
         subst hW
         refine⟨?_,Ext.setCell (Ext.setCell kH.out.bel (Nat.le_succ _) _) (Nat.le_succ _) _⟩
         rw [Int.natCast_add]
         exact aW kH.out.bf _ _
        clear hW f0 f1 f2 f3
        have q0:=HW.out.1.cell 0;have q1:=HW.out.1.cell 1
        have ql:=HW.out.1.lt
        exact bodyPost_ret (v:= .tuple #[.pointer none, .agg #[.int .i64 6, .int .i64 ((j+m:Nat):Int)]]) (by simp [results,Try.results14,go_sem,q0,q1,ql]) rfl (C9.bad (by rw [HRR.out]) (by rw [HRR.out]) HW.out.2 (by decide))
       |some i=>
        rw [hx]at hrun
        have hil:=Ck.Ew hx
        obtain⟨f,hf⟩:∃f,P0.fs[i]?=some f:=⟨_,List.getElem?_eq_getElem hil⟩
        obtain⟨fg,fo,cs,rfl,_,_,_⟩:=Row.IB kD.out.pg.2 hf
        obtain⟨pa,pc,ba,bc,hq,hp1,_,_,_,k3,_,_,_⟩:=kD.out.kW hf
        have ZA:Hid (Ck.jw P0=f.ps.isEmpty):=by
         show _=_
         rw [HM.out,hx]
         show(match P0.fs[i]? with|none=>false|some f=>f.ps.isEmpty)=_
         rw [hf]
        have him:i<m:=by rw [HN.out.2];exact hil
        have kl:=World.block_lt_of_cell? _ _ k3
        obtain⟨np,hnp⟩:∃np,np=f.ps.length:=⟨_,rfl⟩
        rw [←hnp]at k3 hp1
        have OW:=Lib.hid hnp
        clear hx hil hf hnp
        simp only [Option.getD_some,Option.isSome_some]at hrun
        by_cases h0:np=0
        ·have HRR:Hid (R=(0,0)):=by
          have hi:f.ps.isEmpty=true:=by
           cases hp:f.ps with
           |nil=>rfl
           |cons q qs=>rw [OW.out,hp]at h0;simp at h0
          show R=_
          rw [HR.out,HCM.out,ZA.out,hi,if_neg (by decide)]
         subst h0
         go_upto_region 47 with(fail)
         have f0:=kD.out.bf.cell 0;have f1:=kD.out.bf.cell 1;have f2:=kD.out.bf.frozen 0;have f3:=kD.out.bf.frozen 1;have f4:=kD.out.bf.lt
         go_wp2
         generalize hW:World.setCell _ _ _=wz
         have HW:Hid (ak wz (w.heap.size+1) 29 #[.int .i64 0, .int .i64 0]∧Below w.heap.size w wz):=by
          subst hW
          exact⟨aW kD.out.bf _ _,Ext.setCell (Ext.setCell kD.out.bel (Nat.le_succ _) _) (Nat.le_succ _) _⟩
         have HTZ:Hid (Tb wz wz.heap.size (gb+1+1) P0 (.slice a0 j c0) (.slice (some ⟨fg,fo,none⟩) m c1) gb (gb+1)):=by
          have he:∀k,k≠w.heap.size+1→wz.heap[k]?=wr.heap[k]?:=by
           subst hW
           exact fun k hk=>(Below.heap_setCell _ ⟨w.heap.size+1,_,none⟩ _ k hk).trans (Below.heap_setCell _ ⟨w.heap.size+1,_,none⟩ _ k hk)
          have hs:wz.heap.size=wr.heap.size:=by subst hW;simp
          have n1:=kD.out.tb.XV kD.out.bf (by decide)
          have n2:gb≠w.heap.size+1:=fun e=>aV kD.out.bf kD.out.gm e
          have n3:gb+1≠w.heap.size+1:=fun e=>aV kD.out.bf kD.out.fm e
          refine⟨(he _ n1).trans Uy.out.blk,by rw [hs];exact Uy.out.lt,Nat.le_refl _,kD.out.pg.move fun k hk hkl=>?_,Uy.out.gm.same (he _ n2),Uy.out.fm.same (he _ n3)⟩
          have hk':k<w.heap.size:=hk
          exact⟨by show k<wz.heap.size;omega,he k (by omega)⟩
         clear hW f0 f1 f2 f3
         have q0:=HW.out.1.cell 0;have q1:=HW.out.1.cell 1
         have ql:=HW.out.1.lt
         exact bodyPost_ret (v:= .tuple #[P (gb+1+1), .agg #[.int .i64 0, .int .i64 0]]) (by simp [results,Try.results14,go_sem,q0,q1,ql]) rfl ⟨_,by rw [HRR.out];rfl,HW.out.2,fun _=>⟨_,_,_,rfl,HTZ.out⟩⟩
        ·have h1:0<np:=by omega
         have HRR:Hid (R=(6,j+m)):=by
          have hi:f.ps.isEmpty=false:=by
           cases hp:f.ps with
           |nil=>exact absurd (by rw [OW.out,hp];rfl) h0
           |cons q qs=>rfl
          show R=_
          rw [HR.out,HCM.out,ZA.out,hi,if_pos rfl,←HN.out.1,←HN.out.2]
         go_upto_region 46 with(fail)
         clear Qw Qx Qy b0 bl b3 b3l hrun k3 kl
         apply Ix.wp_region 9 (fun wi=>Hid (Below wr.heap.size wr wi)) (Ix.vk [(Ix.aA _),(Ix.aA _),(Ix.aA _),(Ix.aA _),(Ix.aA _),(Ix.aA _),(Ix.aA _),(Ix.aA _),(Ix.aA _)]) (fun _=>false) (by kernel_rfl) (by kernel_rfl) (by kernel_rfl) (fun _ _ h hb=>Ext.trans h hb) (Ix.aN _) (Ix.bP _) (Below.refl _ _)
         case step=>
          refine aP 8 0 1 [] (fun wi HB=>?_)<|aP 7 1 2 [(0,some 184)] (fun wi HB=>?_)<|aP 6 2 3 [(1,some 185)] (fun wi HB=>?_)<|aP 5 3 4 [] (fun wi HB=>?_)<|aP 4 4 5 [(3,some 187)] (fun wi HB=>?_)<|aP 3 5 6 [(4,some 188)] (fun wi HB=>?_)<|aP 2 6 7 [(2,some 186),(5,some 189)] (fun wi HB=>?_)<|aP 1 7 8 [(6,some 190)] (fun wi HB=>?_)<|aP 0 8 9 [] (fun wi HB=>?_)<|Ix.aC
          (·((repeat(refine aB ?_;rintro _ rfl));refine aF ?_;(try simp only [aj]);refine Ix.ah rfl rfl fun K hK=>?_;(try simp only [aj]at hK);go_wp2_with(first|fail);exact hK _ _ (Below.refl _ _) rfl))
          iterate 2(·(have b0:=(kD.out.keep HB.out).bp.cell 0;have b1:=(kD.out.keep HB.out).bp.cell 1;(repeat(refine aB ?_;rintro _ rfl));refine aF ?_;(try simp only [aj]);refine Ix.ah rfl rfl fun K hK=>?_;(try simp only [aj]at hK);go_wp2_with(first|fail);exact hK _ _ (Below.refl _ _) rfl))
          (·((repeat(refine aB ?_;rintro _ rfl));refine aF ?_;(try simp only [aj]);refine Ix.ah rfl rfl fun K hK=>?_;(try simp only [aj]at hK);go_wp2_with(first|fail);exact hK _ _ (Below.refl _ _) rfl))
          iterate 2(·(have b0:=(kD.out.keep HB.out).bp.cell 0;have b1:=(kD.out.keep HB.out).bp.cell 1;(repeat(refine aB ?_;rintro _ rfl));refine aF ?_;(try simp only [aj]);refine Ix.ah rfl rfl fun K hK=>?_;(try simp only [aj]at hK);go_wp2_with(first|fail);exact hK _ _ (Below.refl _ _) rfl))
          iterate 3(·((repeat(refine aB ?_;rintro _ rfl));refine aF ?_;(try simp only [aj]);refine Ix.ah rfl rfl fun K hK=>?_;(try simp only [aj]at hK);go_wp2_with(first|fail);exact hK _ _ (Below.refl _ _) rfl))
         intro lM wf HF hdf
         refine au 8 0 1 ?_;rintro _ _ rfl;refine au 7 1 2 ?_;rintro _ _ rfl;refine au 6 2 3 ?_;rintro _ _ rfl;refine au 5 3 4 ?_;rintro _ _ rfl;refine au 4 4 5 ?_;rintro _ _ rfl;refine au 3 5 6 ?_;rintro _ _ rfl;refine au 2 6 7 ?_;rintro _ _ rfl;refine au 1 7 8 ?_;rintro _ _ rfl;refine au 0 8 9 ?_;rintro _ _ rfl
         refine Ix.aI ?_
         have kH:=Lib.hid (kD.out.keep HF.out);have f0:=kH.out.bf.cell 0;have f1:=kH.out.bf.cell 1;have f2:=kH.out.bf.frozen 0;have f3:=kH.out.bf.frozen 1;have f4:=kH.out.bf.lt
         (try simp only [Act.put,List.setIfInBounds_toArray,List.set_cons_zero,List.set_cons_succ,List.drop_succ_cons,List.drop_zero])
         go_wp2_with(first|fail)
         all_goals(first|refine Ix.only ?_|(refine Ix.dK fun tz=>?_))
         go_wp2
         generalize hW:World.setCell _ _ _=wz
         have HW:Hid (ak wz (w.heap.size+1) 29 #[.int .i64 6, .int .i64 ((j+m:Nat):Int)]∧Below w.heap.size w wz):=by
          subst hW
          refine⟨?_,Ext.setCell (Ext.setCell kH.out.bel (Nat.le_succ _) _) (Nat.le_succ _) _⟩
          rw [Int.natCast_add]
          exact aW kH.out.bf _ _
         clear hW f0 f1 f2 f3
         have q0:=HW.out.1.cell 0;have q1:=HW.out.1.cell 1
         have ql:=HW.out.1.lt
         exact bodyPost_ret (v:= .tuple #[.pointer none, .agg #[.int .i64 6, .int .i64 ((j+m:Nat):Int)]]) (by simp [results,Try.results14,go_sem,q0,q1,ql]) rfl (C9.bad (by rw [HRR.out]) (by rw [HRR.out]) HW.out.2 (by decide))
end Go.Proofs.Ythdckndjggljpaa
