/- Proofs of this claim, part 35. No condition. -/
import Derived.Test.YthdckndjggljpaaS34
namespace Go.Proofs.Ythdckndjggljpaa
set_option linter.unusedVariables false
set_option linter.unusedSimpArgs false
set_option maxRecDepth 100000
set_option maxHeartbeats 64000000
section
open Go.RowKit Go.Maps
theorem aW{w:World}{r:Nat}{t:TypeId}{a0 a1:Value}(h:ak w r t #[a0,a1])(x0 x1:Value):ak ((w.setCell ⟨r,0,none⟩ x0).setCell ⟨r,1,none⟩ x1) r t #[x0,x1]:=by
 simpa using(h.dJ 0 x0).dJ 1 x1
def Ck.bi(n:Ck.Nm):(Int×Bool)×Nat×Bool:=if n=Ck.put then((0,false),1,true)else if n=Ck.get then((16,true),0,true)else((0,false),0,false)
theorem pq(s:ByteArray)(w:World):Calls Try.prog 27 #[.string s] w fun e w'=>e= .returned (.tuple #[W.ty (Ck.bi s.data.toList).1.1 (Ck.bi s.data.toList).1.2, .int .i64 ((Ck.bi s.data.toList).2.1:Int), .bool (Ck.bi s.data.toList).2.2])∧Below w.heap.size w w':=by
 have e1:(s.toList==[112,117,116])=(s.data.toList==Ck.put):=by rw [ByteArray.toList_eq];rfl
 have e2:(s.toList==[103,101,116])=(s.data.toList==Ck.get):=by rw [ByteArray.toList_eq];rfl
 have HB:=Lib.hid (ak.new w 33 #[.int .i64 0, .bool false])
 by_cases h1:s.data.toList=Ck.put
 ·rw [show Ck.bi s.data.toList=((0,false),1,true)from if_pos h1]
  have q1:(s.toList==[112,117,116])=true:=by rw [e1,h1];rfl
  clear e1 e2 h1
  go_enter Try.func27,Try.ntmps27
  go_wp2
  exact bodyPost_ret (v:= .tuple #[W.ty 0 false, .int .i64 1, .bool true]) (by simp [results,Try.results27,go_sem]) rfl ⟨rfl,by repeat(first|exact Below.refl _ _|refine Ext.setCell ?_ (Nat.le_refl _) _|refine Ext.alloc ?_ _)⟩
 ·have q1:(s.toList==[112,117,116])=false:=by rw [e1];simpa using h1
  by_cases h2:s.data.toList=Ck.get
  ·rw [show Ck.bi s.data.toList=((16,true),0,true)by unfold Ck.bi;rw [if_neg h1,if_pos h2]]
   have q2:(s.toList==[103,101,116])=true:=by rw [e2,h2];rfl
   clear e1 e2 h1 h2
   go_enter Try.func27,Try.ntmps27
   go_wp2
   exact bodyPost_ret (v:= .tuple #[W.ty 16 true, .int .i64 0, .bool true]) (by simp [results,Try.results27,go_sem]) rfl ⟨rfl,by repeat(first|exact Below.refl _ _|refine Ext.setCell ?_ (Nat.le_refl _) _|refine Ext.alloc ?_ _)⟩
  ·rw [show Ck.bi s.data.toList=((0,false),0,false)by unfold Ck.bi;rw [if_neg h1,if_neg h2]]
   have q2:(s.toList==[103,101,116])=false:=by rw [e2];simpa using h2
   clear e1 e2 h1 h2
   go_enter Try.func27,Try.ntmps27
   go_wp2
   exact bodyPost_ret (v:= .tuple #[W.ty 0 false, .int .i64 0, .bool false]) (by simp [results,Try.results27,go_sem]) rfl ⟨rfl,by repeat(first|exact Below.refl _ _|refine Ext.setCell ?_ (Nat.le_refl _) _|refine Ext.alloc ?_ _)⟩
def Zb(w:World)(R:Option ((Int×Bool)×List (Int×Bool)))(e:Ending)(w':World):Prop:=Below w.heap.size w w'∧match R with
 |none=>e= .returned (.tuple #[W.ty 0 false, .slice none 0 0, .bool false])
 |some r=>∃a c,e= .returned (.tuple #[W.ty r.1.1 r.1.2, .slice a r.2.length c, .bool true])∧w'.ownsRow w.heap.size 33 2 (.slice a r.2.length c) r.2.length (Ck.slc r.2)
theorem AZ{α:Type}{nm:α→Ck.Nm}(n:Ck.Nm):∀l:List α,l.find? (fun x=>nm x==n)=(Ck.idx nm l n).bind fun i=>l[i]?
 |[]=>rfl
 |x::l=>by
  unfold Ck.idx
  rw [List.find?_cons,List.findIdx?_cons]
  cases hx:(nm x==n)with
  |true=>simp
  |false=>
   have ih:=AZ (nm:=nm) n l
   simp only [Bool.false_eq_true,if_false]
   rw [ih]
   unfold Ck.idx
   cases List.findIdx? (fun g:α=>nm g==n) l with
   |none=>rfl
   |some i=>simp
theorem Iu(P0:Pg)(n:Ck.Nm)(h1:n≠Ck.put)(h2:n≠Ck.get):Ck.called P0 n=(Ck.idx (fun f:Fn=>f.nm.data.toList) P0.fs n).bind fun i=>(P0.fs[i]?).map fun f=>((f.b,f.s),f.ps.map fun p=>(p.b,p.s)):=by
 unfold Ck.called
 rw [if_neg h1,if_neg h2,AZ]
 cases Ck.idx (fun f:Fn=>f.nm.data.toList) P0.fs n with
 |none=>rfl
 |some i=>rfl
theorem kT{wv:World}{ops:Array Oper}{rest:List Oper}{o:Oper}{a:Act}{Q:Exit→Act→World→Prop}(hgd:o.guard=none)(s x:Operand)(ho:o.op= .call {callee:= .builtin .append,args:=#[s,x],argTypes:=#[85,85]})
 (B:Nat)(va:Option Addr)(m vc:Nat)(l:List (Int×Bool))(g:Nat)(b:Int)(sg:Bool)(hs:a.eval s= .slice va m vc)(hx:a.eval x= .slice (some ⟨g,0,none⟩) 1 1)(hown:wv.ownsRow B 33 2 (.slice va m vc) m (Ck.slc l))(hb:ak wv g 33 #[.int .i64 b, .bool sg])(hm:m+1≤100000000)(hB:B≤wv.heap.size)
 (h:∀a' c' w',w'.ownsRow B 33 2 (.slice a' (m+1) c') (m+1) (Ck.slc (l++[(b,sg)]))→wv.grownBy w' (Value.slice va m vc).ownBlock→wpList Try.prog ops Q rest (a.put o.dst (.slice a' (m+1) c')) w'):
 wpList Try.prog ops Q (o::rest) a wv:=by
 refine aS hgd s x 85 33 2 16 (.agg #[.int .i64 0, .bool false]) ho Try.underlying85 yw rfl (by decide) (by decide) B (.slice va m vc) m (Ck.slc l) g [.int .i64 b, .bool sg] hs hx hown rfl (fun j u hu=>by rw [hb.cell];simpa using hu) Gs hm hB ?_
 intro a' c' w' ho' hg' _
 rw [Ck.zW]at h
 exact h a' c' w' ho' hg'
theorem own_base{w:World}{B B' T z n:Nat}{v:Value}{xs:List Value}(h:w.ownsRow B T z v n xs)(hB:B'≤B):w.ownsRow B' T z v n xs:=by
 obtain⟨hl,h⟩:=h
 refine⟨hl,?_⟩
 rcases h with h|⟨g,cap,cur,e,hb,r⟩
 ·exact .inl h
 ·exact .inr ⟨g,cap,cur,e,Nat.le_trans hB hb,r⟩
theorem Jg(w:World)(tb:Nat)(nm:ByteArray)(P0:Pg)(r:Int×Bool)(n:Nat)(hbi:Ck.bi nm.data.toList=(r,n,true)):
 Calls Try.prog 101 #[P tb, .string nm] w (Zb w (Ck.called P0 nm.data.toList)):=by
 obtain⟨hn1,hcl⟩:n≤1∧Ck.called P0 nm.data.toList=some (r,List.replicate n (16,true)):=by
  unfold Ck.bi at hbi
  split at hbi
  ·rename_i h1;simp only [Prod.mk.injEq]at hbi;obtain⟨rfl,rfl,_⟩:=hbi;exact⟨by decide,by unfold Ck.called;rw [if_pos h1];rfl⟩
  ·rename_i h1
   split at hbi
   ·rename_i h2;simp only [Prod.mk.injEq]at hbi;obtain⟨rfl,rfl,_⟩:=hbi;exact⟨by decide,by unfold Ck.called;rw [if_neg h1,if_pos h2];rfl⟩
   ·simp at hbi
 have VD:Hid (∀w1:World,Calls Try.prog 27 #[.string nm] w1 fun e w'=>e= .returned (.tuple #[W.ty r.1 r.2, .int .i64 (n:Int), .bool true])∧Below w1.heap.size w1 w'):=fun w1=>by
  have:=pq nm w1;rw [hbi]at this;exact this
 rw [hcl]
 have HB:=Lib.hid (ak.new w 33 #[.int .i64 0, .bool false])
 clear hcl hbi
 go_enter Try.func101,Try.ntmps101
 go_wp2_with(first|(go_at_call 27;refine(VD.out _).mono ?_;rintro e w1⟨rfl,hb1⟩;have HB1:=Lib.hid hb1;clear hb1))
 generalize hw2:World.alloc w1 _=w2
 have H2:Hid (Below w.heap.size w w2∧ak w2 w.heap.size 33 #[.int .i64 0, .bool false]∧ak w2 w1.heap.size 33 #[.int .i64 r.1, .bool r.2]):=by
  subst hw2
  exact⟨Ext.alloc (Ext.trans (Ext.alloc (Below.refl _ _) _) HB1.out) _,(HB.out.keep HB1.out).alloc _,ak.new _ _ _⟩
 have iD:Hid (w.heap.size<w1.heap.size):=by have h0:=(HB.out.keep HB1.out).lt;exact h0
 clear hw2
 go_loopw [5,22](fun v i wr=>∃(j:Nat)(a:Option Addr)(c:Nat),j≤n∧i= .int .i64 (j:Int)∧v= .slice a j c∧Hid (Below w2.heap.size w2 wr)∧Hid (wr.ownsRow w2.heap.size 33 2 (.slice a j c) j (Ck.slc (List.replicate j (16,true)))))(fun v i wr=>n-(intOf i).toNat)
 case atStart=>exact⟨0,none,0,Nat.zero_le _,rfl,rfl,Below.refl _ _,⟨rfl, .inl ⟨rfl,rfl⟩⟩⟩
 case round=>
  obtain⟨j,a,c,hj,rfl,rfl,iM,HO⟩:=hrel
  by_cases hlt:j<n
  ·have Xj:Hid (∀w3,Below wr.heap.size wr w3→w3.ownsRow w2.heap.size 33 2 (.slice a j c) j (Ck.slc (List.replicate j (16,true)))):=fun w3 hb=>aU HO.out fun k hk=>hb.block k (aK HO.out k hk).2
   have hsz:w2.heap.size≤wr.heap.size:=iM.out.size
   go_wp2_with(first|(go_at_call 43;refine(gX _).mono ?_;rintro e w3⟨rfl,hb3⟩;have HB3:=Lib.hid hb3;clear hb3)|(at_builtin;go_loud(refine kT rfl _ _ rfl w2.heap.size a j c (List.replicate j (16,true)) _ 16 true rfl rfl (Xj.out _ (Ext.alloc HB3.out _)) (ak.newAt _ _ rfl) (by omega) (by have:=HB3.out.size;simp;omega) ?_);intro a' c' w4 ho hg4;have HO4:=Lib.hid ho;have HG4:=Lib.hid hg4;clear ho hg4))
   go_roundw
   case rel=>exact⟨j+1,a',c',by omega,by go_num,rfl,Below.grown (Ext.alloc (Ext.trans iM.out HB3.out) _) HG4.out (by have:=HB3.out.size;simp;omega) (fun k hk=>(aK HO.out k hk).1),by rw [List.replicate_succ'];exact HO4.out⟩
   case measure=>simp [intOf];omega
  ·obtain rfl:j=n:=by omega
   have hx1:=H2.out.2.1.keep iM.out
   have hx2:=H2.out.2.2.keep iM.out
   have x0:=hx2.cell 0;have x1:=hx2.cell 1
   have y0:=hx1.cell 0;have y1:=hx1.cell 1;have z0:=hx1.frozen 0;have z1:=hx1.frozen 1
   have nI:=Lib.hid hx1
   have hxl:=hx1.lt
   clear hx1 hx2
   go_wp2
   generalize hW:World.setCell _ _ _=wz
   have HW:Hid (ak wz w.heap.size 33 #[.int .i64 r.1, .bool r.2]∧Below w.heap.size w wz∧wz.ownsRow w.heap.size 33 2 (.slice a j c) j (Ck.slc (List.replicate j (16,true)))):=by
    subst hW
    refine⟨aW nI.out _ _,Ext.setCell (Ext.setCell (Ext.trans H2.out.1 iM.out) (Nat.le_refl _) _) (Nat.le_refl _) _,own_base (aU HO.out fun k hk=>?_) H2.out.1.size⟩
    have h1:=(aK HO.out k hk).1;have h2:=H2.out.2.1.lt
    exact(Below.heap_setCell _ ⟨w.heap.size,1,none⟩ _ k (by show k≠w.heap.size;omega)).trans (Below.heap_setCell _ ⟨w.heap.size,0,none⟩ _ k (by show k≠w.heap.size;omega))
   clear hW x0 x1 y0 y1 z0 z1
   have q0:=HW.out.1.cell 0;have q1:=HW.out.1.cell 1
   have ql:=HW.out.1.lt
   exact bodyPost_ret (v:= .tuple #[W.ty r.1 r.2, .slice a j c, .bool true]) (by simp [results,Try.results101,go_sem,q0,q1,ql]) rfl ⟨HW.out.2.1,a,c,by rw [List.length_replicate],by rw [List.length_replicate];exact HW.out.2.2⟩
theorem Jr(w:World)(B tb gb fb:Nat)(nm:ByteArray)(hs:nm.size≤maxLen)(P0:Pg)(v0 v1:Value)(ht:Tb w B tb P0 v0 v1 gb fb)(hbi:(Ck.bi nm.data.toList).2.2=false)(hps:∀f∈P0.fs,f.ps.length≤8):
 Calls Try.prog 101 #[P tb, .string nm] w (Zb w (Ck.called P0 nm.data.toList)):=by
 obtain⟨h1,h2,h3⟩:nm.data.toList≠Ck.put∧nm.data.toList≠Ck.get∧Ck.bi nm.data.toList=((0,false),0,false):=by
  unfold Ck.bi at hbi⊢
  by_cases h1:nm.data.toList=Ck.put
  ·rw [if_pos h1]at hbi;cases hbi
  ·rw [if_neg h1]at hbi⊢
   by_cases h2:nm.data.toList=Ck.get
   ·rw [if_pos h2]at hbi;cases hbi
   ·rw [if_neg h2];exact⟨h1,h2,rfl⟩
 have VD:Hid (∀w1:World,Calls Try.prog 27 #[.string nm] w1 fun e w'=>e= .returned (.tuple #[W.ty 0 false, .int .i64 0, .bool false])∧Below w1.heap.size w1 w'):=fun w1=>by
  have:=pq nm w1;rw [h3]at this;exact this
 obtain⟨R,hR⟩:∃R,R=Ck.called P0 nm.data.toList:=⟨_,rfl⟩
 rw [←hR]
 have hcl:=Iu P0 nm.data.toList h1 h2
 rw [←hR]at hcl
 have HR:=Lib.hid hcl
 have HB:=Lib.hid (ak.new w 33 #[.int .i64 0, .bool false])
 have HT:=Lib.hid ht
 have HS:=Lib.hid hs
 have su:=Lib.hid hps
 clear hcl hR hbi h1 h2 h3 ht hs hps
 go_enter Try.func101,Try.ntmps101
 go_upto_region 8 with(first|(go_at_call 27;refine(VD.out _).mono ?_;rintro e w1⟨rfl,hb1⟩;have HB1:=Lib.hid hb1;clear hb1))
 generalize hw2:World.alloc w1 _=w2
 have H2:Hid (Below w.heap.size w w2∧ak w2 w.heap.size 33 #[.int .i64 0, .bool false]):=by
  subst hw2
  exact⟨Ext.alloc (Ext.trans (Ext.alloc (Below.refl _ _) _) HB1.out) _,(HB.out.keep HB1.out).alloc _⟩
 clear hw2
 have hti:=HT.out.below (H2.out.1.mono HT.out.le)
 obtain⟨a1,c1,e1,h11,h12,hfa⟩:=hti.pg.2.parts
 have SG:=Lib.hid hfa
 subst e1
 have t1:=hti.blk.cell 1
 have t3:=hti.blk.cell 3
 have hbl:=hti.blk.lt
 have hrun:=look_in hti.fm HS.out
 have x0:=H2.out.2.cell 0;have x1:=H2.out.2.cell 1;have z0:=H2.out.2.frozen 0;have z1:=H2.out.2.frozen 1
 have hxl:=H2.out.2.lt
 clear hfa hti
 cases hx:Ck.idx (fun f:Fn=>f.nm.data.toList) P0.fs nm.data.toList with
 |none=>
  rw [hx]at hrun
  have OZ:Hid (R=none):=by show R=_;rw [HR.out,hx];rfl
  clear hx
  go_wp2
  generalize hW:World.setCell _ _ _=wz
  have HW:Hid (ak wz w.heap.size 33 #[.int .i64 0, .bool false]∧Below w.heap.size w wz):=by
   subst hW
   exact⟨aW H2.out.2 _ _,Ext.setCell (Ext.setCell H2.out.1 (Nat.le_refl _) _) (Nat.le_refl _) _⟩
  clear hW x0 x1 z0 z1
  have q0:=HW.out.1.cell 0;have q1:=HW.out.1.cell 1
  have ql:=HW.out.1.lt
  exact bodyPost_ret (v:= .tuple #[W.ty 0 false, .slice none 0 0, .bool false]) (by simp [results,Try.results101,go_sem,q0,q1,ql]) rfl ⟨HW.out.2,by rw [OZ.out]⟩
 |some i=>
  rw [hx]at hrun
  have hil:=Ck.Ew hx
  obtain⟨gg,off,cs,hpb,ea,⟨u0,u1,rfl,hrow,hsb⟩,hcell⟩:=SG.out i P0.fs[i] (List.getElem?_eq_getElem hil)
  subst ea
  obtain⟨pa,pc,ep,hpl,hpm,hpp⟩:=hrow.parts
  obtain⟨ba,bc,ebb,_,_,_⟩:=hsb.parts
  subst ep ebb
  have g0:=hcell 0 _ rfl;have g1:=hcell 1 _ rfl;have g2:=hcell 2 _ rfl;have g3:=hcell 3 _ rfl;have g4:=hcell 4 _ rfl
  rw [Nat.add_zero]at g0
  obtain⟨F,hF⟩:∃F,F=P0.fs[i]:=⟨_,rfl⟩
  have TR:Hid (R=some ((F.b,F.s),F.ps.map fun p=>(p.b,p.s))):=by
   show R=_
   rw [HR.out,hx]
   show(P0.fs[i]?).map _=_
   rw [List.getElem?_eq_getElem hil,hF];rfl
  have HF8:Hid (F.ps.length≤8):=by rw [hF];exact su.out _ (List.getElem_mem hil)
  rw [←hF]at g0 g1 g2 g3 g4 hpl hpp
  obtain⟨L,hL⟩:∃L,L=P0.fs.length:=⟨_,rfl⟩
  obtain⟨np,hnp⟩:∃np,np=F.ps.length:=⟨_,rfl⟩
  obtain⟨nb,hnb⟩:∃nb,nb=F.body.length:=⟨_,rfl⟩
  rw [←hL]at t1 hil h11
  rw [←hnp]at g3 hpl
  rw [←hnb]at g4
  have OW:=Lib.hid hnp
  have HPP:=Lib.hid hpp
  simp only [Option.getD_some,Option.isSome_some]at hrun
  have aa4:=World.block_lt_of_cell? _ _ g0
  clear hx hcell hF hL hrow hnp hnb hsb hpp hpb
  go_upto_region 12 with(fail)
  generalize hw3:World.alloc w2 _=w3
  have H3:Hid (Below w2.heap.size w2 w3∧ak w3 w2.heap.size 40 #[.string F.nm, .int .i64 F.b, .bool F.s, .slice pa np pc, .slice ba nb bc]):=by
   subst hw3;exact⟨Ext.alloc (Below.refl _ _) _,ak.new _ _ _⟩
  have f2:=H3.out.2.cell 3
  clear hw3 x0 x1 z0 z1 g0 g1 g2 g3 g4 t1 t3 hrun
  go_wp2
  go_loopw [5,54](fun v i wr=>∃(j:Nat)(a:Option Addr)(c:Nat),j≤np∧i= .int .i64 (j:Int)∧v= .slice a j c∧Hid (Below w3.heap.size w3 wr)∧Hid (wr.ownsRow w3.heap.size 33 2 (.slice a j c) j (Ck.slc ((F.ps.take j).map fun p=>(p.b,p.s)))))(fun v i wr=>np-(intOf i).toNat)
  case atStart=>exact⟨0,none,0,Nat.zero_le _,rfl,rfl,Below.refl _ _,⟨rfl, .inl ⟨rfl,rfl⟩⟩⟩
  case round=>
   obtain⟨j,a,c,hj,rfl,rfl,iM,HO⟩:=hrel
   have YW:Hid (Below w2.heap.size w2 wr):=Ext.trans H3.out.1 iM.out
   by_cases hlt:j<np
   ·obtain⟨pg,po,cs,hpg,epa,hpm,hpc⟩:=HPP.out j (F.ps[j]'(by rw [←OW.out];exact hlt)) (List.getElem?_eq_getElem _)
    subst epa
    obtain⟨pm,VU⟩:∃pm,pm=F.ps[j]'(by rw [←OW.out];exact hlt):=⟨_,rfl⟩
    rw [←VU]at hpm
    have kZ:Hid ((F.ps.take (j+1)).map (fun p=>(p.b,p.s))=(F.ps.take j).map (fun p=>(p.b,p.s))++[(pm.b,pm.s)]):=by
     show _=_
     rw [List.take_succ_eq_append_getElem (by rw [←OW.out];exact hlt),List.map_append,VU];rfl
    have hcs:cs=[.int .i64 pm.b, .bool pm.s, .string pm.nm]:=hpm
    subst hcs
    have hcell:∀t u,([.int .i64 pm.b, .bool pm.s, .string pm.nm]:List Value)[t]?=some u→wr.cell? ⟨pg,po+j*3+t,none⟩=some u:=fun t u hu=>by
     have h0:=hpc t u hu
     rw [Below.cell (p:=⟨pg,po+j*3+t,none⟩) YW.out (World.block_lt_of_cell? _ _ h0)];exact h0
    have p0:=hcell 0 _ rfl;have p1:=hcell 1 _ rfl;have p2:=hcell 2 _ rfl
    rw [Nat.add_zero]at p0
    have hpl2:=World.block_lt_of_cell? _ _ p0
    have hsz:w3.heap.size≤wr.heap.size:=iM.out.size
    have U6:j≤8:=by have:=HF8.out;rw [←OW.out]at this;omega
    clear hpm hpc hcell VU
    go_wp2_with(first|(at_builtin;go_loud(refine kT rfl _ _ rfl w3.heap.size a j c ((F.ps.take j).map fun p=>(p.b,p.s)) _ pm.b pm.s rfl rfl (aU HO.out fun k hk=>Below.block (Ext.alloc (Ext.alloc (Below.refl _ _) _) _) k (aK HO.out k hk).2) (ak.newAt _ _ (by simp)) (by omega) (by simp;omega) ?_);intro a' c' w5 ho hg5;have WS:=Lib.hid ho;have Au:=Lib.hid hg5;clear ho hg5))
    go_roundw
    case rel=>exact⟨j+1,a',c',by omega,by go_num,rfl,Below.grown (Ext.alloc (Ext.alloc iM.out _) _) Au.out (by simp;omega) (fun k hk=>(aK HO.out k hk).1),by rw [kZ.out];exact WS.out⟩
    case measure=>simp [intOf];omega
   ·obtain rfl:j=np:=by omega
    have hx1:=(H2.out.2.keep H3.out.1).keep iM.out
    have hx2:=H3.out.2.keep iM.out
    have x1:=hx2.cell 1;have x2:=hx2.cell 2
    have y0:=hx1.cell 0;have y1:=hx1.cell 1;have z0:=hx1.frozen 0;have z1:=hx1.frozen 1
    have nI:=Lib.hid hx1
    have hyl:=hx1.lt
    have hl2:w2.heap.size<wr.heap.size:=hx2.lt
    clear hx1 hx2 f2
    go_wp2
    generalize hW:World.setCell _ _ _=wz
    have HW:Hid (ak wz w.heap.size 33 #[.int .i64 F.b, .bool F.s]∧Below w.heap.size w wz∧wz.ownsRow w.heap.size 33 2 (.slice a j c) j (Ck.slc (F.ps.map fun p=>(p.b,p.s)))):=by
     subst hW
     have e5:F.ps.take j=F.ps:=by rw [OW.out,List.take_length]
     have ho:=HO.out
     rw [e5]at ho
     refine⟨aW nI.out _ _,Ext.setCell (Ext.setCell (Ext.trans H2.out.1 YW.out) (Nat.le_refl _) _) (Nat.le_refl _) _,own_base (aU ho fun k hk=>?_) (Nat.le_trans H2.out.1.size H3.out.1.size)⟩
     have h1:=(aK ho k hk).1;have h2:=H2.out.2.lt;have h3:=H3.out.1.size
     exact(Below.heap_setCell _ ⟨w.heap.size,1,none⟩ _ k (by show k≠w.heap.size;omega)).trans (Below.heap_setCell _ ⟨w.heap.size,0,none⟩ _ k (by show k≠w.heap.size;omega))
    clear hW x1 x2 y0 y1 z0 z1
    have q0:=HW.out.1.cell 0;have q1:=HW.out.1.cell 1
    have ql:=HW.out.1.lt
    exact bodyPost_ret (v:= .tuple #[W.ty F.b F.s, .slice a j c, .bool true]) (by simp [results,Try.results101,go_sem,q0,q1,ql]) rfl ⟨HW.out.2.1,by rw [TR.out];exact⟨a,c,by rw [List.length_map,OW.out],by rw [List.length_map,←OW.out];exact HW.out.2.2⟩⟩
theorem Ip(w:World)(B tb gb fb:Nat)(nm:ByteArray)(hs:nm.size≤maxLen)(P0:Pg)(v0 v1:Value)(ht:Tb w B tb P0 v0 v1 gb fb)(hps:∀f∈P0.fs,f.ps.length≤8):
 Calls Try.prog 101 #[P tb, .string nm] w (Zb w (Ck.called P0 nm.data.toList)):=by
 cases hb:(Ck.bi nm.data.toList).2.2 with
 |true=>exact Jg w tb nm P0 (Ck.bi nm.data.toList).1 (Ck.bi nm.data.toList).2.1 (by rw [←hb])
 |false=>exact Jr w B tb gb fb nm hs P0 v0 v1 ht hb hps
end
section
open Go.RowKit Go.Maps
structure Cx(w:World)(B g tb fq fo gb fb:Nat)(e:Ck.Env)(P0:Pg)(v0 v1:Value):Prop where
 sc:kF w B g tb fq fo e
 tb:Tb w B tb P0 v0 v1 gb fb
 lv:e.lv.length≤1000
 ps:∀f∈P0.fs,f.ps.length≤8
theorem Cx.keep{w w':World}{B g tb fq fo gb fb:Nat}{e:Ck.Env}{P0:Pg}{v0 v1:Value}(h:Cx w B g tb fq fo gb fb e P0 v0 v1)(hb:Below w.heap.size w w'):Cx w' B g tb fq fo gb fb e P0 v0 v1:=
 ⟨h.sc.keep hb,h.tb.below (hb.mono h.tb.le),h.lv,h.ps⟩
def OV(w:World)(t:Ck.Ty)(e:Ending)(w':World):Prop:=∃(b:Int)(s:Bool),e= .returned (.tuple #[W.ty b s, .int .i64 t.e])∧(t.e=0→b=t.b∧s=t.s)∧Below w.heap.size w w'
def WG(B g tb fq fo gb fb:Nat)(e:Ck.Env)(P0:Pg)(v0 v1:Value)(x:X):Prop:=∀(w:World)(q off:Nat),Cx w B g tb fq fo gb fb e P0 v0 v1→D8 w B x q off→Calls Try.prog 75 #[P g, .pointer (some ⟨q,off,none⟩)] w (OV w (Ck.ty P0 e x))
theorem value_of(w:World)(B g tb fq fo gb fb q off:Nat)(e:Ck.Env)(P0:Pg)(v0 v1:Value)(x:X)(HI:WG B g tb fq fo gb fb e P0 v0 v1 x)(hc:Cx w B g tb fq fo gb fb e P0 v0 v1)(hx:D8 w B x q off):
 Calls Try.prog 76 #[P g, .pointer (some ⟨q,off,none⟩)] w (OV w (Ck.ty P0 e x).val):=by
 obtain⟨T,hT⟩:∃T,T=Ck.ty P0 e x:=⟨_,rfl⟩
 rw [←hT]
 have Yy:Hid (∀w1:World,Below w.heap.size w w1→Calls Try.prog 75 #[P g, .pointer (some ⟨q,off,none⟩)] w1 (OV w1 T)):=fun w1 hb=>by rw [hT];exact HI w1 q off (hc.keep hb) (hx.below (hb.mono hc.tb.le))
 obtain⟨tb0,F9,te⟩:=T
 have HB:=Lib.hid (ak.new w 33 #[.int .i64 0, .bool false])
 clear hT HI hc hx
 obtain⟨V,hV⟩:∃V,V=Ck.Ty.val ⟨tb0,F9,te⟩:=⟨_,rfl⟩
 rw [←hV]
 have Qa:=Lib.hid hV
 clear hV
 by_cases he:te=0
 ·subst he
  by_cases h0:tb0=0
  ·subst h0
   have HV:Hid (V=⟨0,F9,9⟩):=by show V=_;rw [Qa.out];exact if_pos ⟨rfl,rfl⟩
   go_enter Try.func76,Try.ntmps76
   go_upto_region 2 with(first|(go_at_call 75;refine(Yy.out _ (Ext.alloc (Below.refl _ _) _)).mono ?_;rintro e w1⟨b,s,rfl,hbs,hb1⟩;have ZN:=Lib.hid hbs;have HB1:=Lib.hid hb1;have nI:=Lib.hid (HB.out.keep hb1);have x0:=nI.out.cell 0;have x1:=nI.out.cell 1;have z0:=nI.out.frozen 0;have z1:=nI.out.frozen 1;have xl:=nI.out.lt;clear hb1 hbs))
   obtain⟨rfl,rfl⟩:=ZN.out trivial
   go_wp2
   generalize hW:World.alloc _ _=wz
   have HW:Hid (ak wz w.heap.size 33 #[.int .i64 0, .bool s]∧Below w.heap.size w wz):=by
    subst hW
    exact⟨(aW nI.out _ _).alloc _,Ext.alloc (Ext.setCell (Ext.setCell (Ext.trans (Ext.alloc (Below.refl _ _) _) HB1.out) (Nat.le_refl _) _) (Nat.le_refl _) _) _⟩
   clear hW x0 x1 z0 z1
   have q0:=HW.out.1.cell 0;have q1:=HW.out.1.cell 1
   have ql:=HW.out.1.lt
   exact bodyPost_ret (v:= .tuple #[W.ty 0 s, .int .i64 9]) (by simp [results,Try.results76,go_sem,q0,q1,ql]) rfl ⟨0,s,by rw [HV.out],fun h=>by rw [HV.out]at h;exact absurd (show(9:Int)=0 from h) (by decide),HW.out.2⟩
  ·have HV:Hid (V=⟨tb0,F9,0⟩):=by show V=_;rw [Qa.out];exact if_neg (fun h=>h0 h.2)
   have q:(tb0==0)=false:=by simpa using h0
   clear h0
   go_enter Try.func76,Try.ntmps76
   go_upto_region 2 with(first|(go_at_call 75;refine(Yy.out _ (Ext.alloc (Below.refl _ _) _)).mono ?_;rintro e w1⟨b,s,rfl,hbs,hb1⟩;have ZN:=Lib.hid hbs;have HB1:=Lib.hid hb1;have nI:=Lib.hid (HB.out.keep hb1);have x0:=nI.out.cell 0;have x1:=nI.out.cell 1;have z0:=nI.out.frozen 0;have z1:=nI.out.frozen 1;have xl:=nI.out.lt;clear hb1 hbs))
   obtain⟨rfl,rfl⟩:=ZN.out trivial
   go_wp2
   generalize hW:World.alloc _ _=wz
   have HW:Hid (ak wz w.heap.size 33 #[.int .i64 b, .bool s]∧Below w.heap.size w wz):=by
    subst hW
    exact⟨(aW nI.out _ _).alloc _,Ext.alloc (Ext.setCell (Ext.setCell (Ext.trans (Ext.alloc (Below.refl _ _) _) HB1.out) (Nat.le_refl _) _) (Nat.le_refl _) _) _⟩
   clear hW x0 x1 z0 z1
   have q0:=HW.out.1.cell 0;have q1:=HW.out.1.cell 1
   have ql:=HW.out.1.lt
   exact bodyPost_ret (v:= .tuple #[W.ty b s, .int .i64 0]) (by simp [results,Try.results76,go_sem,q0,q1,ql]) rfl ⟨b,s,by rw [HV.out],fun _=>by rw [HV.out];exact⟨rfl,rfl⟩,HW.out.2⟩
 ·have HV:Hid (V=⟨tb0,F9,te⟩):=by show V=_;rw [Qa.out];exact if_neg (fun h=>he h.1)
  have q:(te==0)=false:=by simpa using he
  have XH:=Lib.hid he
  clear he
  go_enter Try.func76,Try.ntmps76
  go_upto_region 2 with(first|(go_at_call 75;refine(Yy.out _ (Ext.alloc (Below.refl _ _) _)).mono ?_;rintro e w1⟨b,s,rfl,hbs,hb1⟩;have ZN:=Lib.hid hbs;have HB1:=Lib.hid hb1;have nI:=Lib.hid (HB.out.keep hb1);have x0:=nI.out.cell 0;have x1:=nI.out.cell 1;have z0:=nI.out.frozen 0;have z1:=nI.out.frozen 1;have xl:=nI.out.lt;clear hb1 hbs))
  go_wp2
  generalize hW:World.alloc _ _=wz
  have HW:Hid (ak wz w.heap.size 33 #[.int .i64 b, .bool s]∧Below w.heap.size w wz):=by
   subst hW
   exact⟨(aW nI.out _ _).alloc _,Ext.alloc (Ext.setCell (Ext.setCell (Ext.trans (Ext.alloc (Below.refl _ _) _) HB1.out) (Nat.le_refl _) _) (Nat.le_refl _) _) _⟩
  clear hW x0 x1 z0 z1
  have q0:=HW.out.1.cell 0;have q1:=HW.out.1.cell 1
  have ql:=HW.out.1.lt
  exact bodyPost_ret (v:= .tuple #[W.ty b s, .int .i64 te]) (by simp [results,Try.results76,go_sem,q0,q1,ql]) rfl ⟨b,s,by rw [HV.out],fun h=>by rw [HV.out]at h;exact absurd h XH.out,HW.out.2⟩
end
end Go.Proofs.Ythdckndjggljpaa
