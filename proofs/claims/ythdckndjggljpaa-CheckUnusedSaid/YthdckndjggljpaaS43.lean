/- Proofs of this claim, part 43. No condition. -/
import Derived.Test.YthdckndjggljpaaS42
namespace Go.Proofs.Ythdckndjggljpaa
set_option linter.unusedVariables false
set_option linter.unusedSimpArgs false
set_option maxRecDepth 100000
set_option maxHeartbeats 64000000
open Go.RowKit Go.Maps
theorem rP{w:World}{r:Nat}{x0 x1 x2 x3 x4:Value}:∀k,k≠r→(((((w.setCell ⟨r,0,none⟩ x0).setCell ⟨r,1,none⟩ x1).setCell ⟨r,2,none⟩ x2).setCell ⟨r,3,none⟩ x3).setCell ⟨r,4,none⟩ x4).heap[k]?=w.heap[k]?:=fun k hk=>
 (Below.heap_setCell _ ⟨r,4,none⟩ _ k hk).trans ((Below.heap_setCell _ ⟨r,3,none⟩ _ k hk).trans ((Below.heap_setCell _ ⟨r,2,none⟩ _ k hk).trans ((Below.heap_setCell _ ⟨r,1,none⟩ _ k hk).trans (Below.heap_setCell _ ⟨r,0,none⟩ _ k hk))))
def zi(w:World)(M:Nat)(v:Value):Prop:=∃q,v=Value.pointer (some ⟨q,0,none⟩)∧M≤q∧∃(b0:Int)(s0 l0:Bool)(n0 z0:Int),ak w q 112 #[.int .i64 b0, .bool s0, .bool l0, .int .i64 n0, .int .i64 z0]
theorem zi.kx{w w':World}{M:Nat}{v:Value}(hk:Kx w w')(h:zi w M v):zi w' M v:=by
 obtain⟨q,e,hm,b0,s0,l0,n0,z0,hb⟩:=h
 exact⟨q,e,hm,b0,s0,l0,n0,z0,hk q _ _ (.inr rfl) hb⟩
theorem zi.turn{w:World}{M t:Nat}{v:Value}{b0 n0 z0:Int}{s0 l0:Bool}(hg:ak w t 112 #[.int .i64 b0, .bool s0, .bool l0, .int .i64 n0, .int .i64 z0])(b1:Int)(s1 l1:Bool)(n1 z1:Int)(h:zi w M v):
 zi (((((w.setCell ⟨t,0,none⟩ (.int .i64 b1)).setCell ⟨t,1,none⟩ (.bool s1)).setCell ⟨t,2,none⟩ (.bool l1)).setCell ⟨t,3,none⟩ (.int .i64 n1)).setCell ⟨t,4,none⟩ (.int .i64 z1)) M v:=by
 obtain⟨q,e,hm,b2,s2,l2,n2,z2,hb⟩:=h
 by_cases hq:q=t
 ·subst hq;exact⟨q,e,hm,b1,s1,l1,n1,z1,qj hg _ _ _ _ _⟩
 ·exact⟨q,e,hm,b2,s2,l2,n2,z2,(rP q hq).trans hb⟩
theorem kF.five{w:World}{B g tb fq fo:Nat}{e:Ck.Env}(h:kF w B g tb fq fo e){t:Nat}{cs:Array Value}(hg:ak w t 112 cs)(x0 x1 x2 x3 x4:Value):
 kF (((((w.setCell ⟨t,0,none⟩ x0).setCell ⟨t,1,none⟩ x1).setCell ⟨t,2,none⟩ x2).setCell ⟨t,3,none⟩ x3).setCell ⟨t,4,none⟩ x4) B g tb fq fo e:=by
 obtain⟨la,lc,ub,sa,sc,bs,h⟩:=h
 exact⟨_,_,_,_,_,_,h.other hg (by decide) (by decide) (by decide) rP⟩
theorem vV(w:World)(B g tb fq fo:Nat)(e:Ck.Env)(b:Int)(s:Bool)(nm:ByteArray)(hs:nm.size≤maxLen)(hB:B≤w.heap.size)(h:kF w B g tb fq fo e)(h1:1≤e.lv.length)(hl:e.lv.length≤1000)(hsl:e.slots.length≤100000):
 Calls Try.prog 49 #[P g,W.ty b s, .string nm] w (X5 B g tb fq fo w (e.declare b s nm.data.toList) e):=by
 cases hd:e.declare b s nm.data.toList with
 |none=>
  refine EM w B g tb fq fo e b s nm hs hB h ?_
  unfold Ck.Env.declare at hd
  split at hd
  ·rename_i hh;exact hh
  ·cases hd
 |some e'=>exact BN w B g tb fq fo e e' b s nm hs hB h h1 hl hsl hd
theorem UG(w:World)(B g tb fq fo gb fb q off:Nat)(P0:Pg)(v0 v1:Value)(rb:Int)(b:Int)(s:Bool)(nm:ByteArray)(has:Bool)(x i:X)(l0 l1 l2 l3:List S)(hs:nm.size≤maxLen)(Nj:has=true→X.Wf x)(e:Ck.Env)(N:Nat)(d:Int)(hA:At w B g tb fq fo gb fb e P0 v0 v1 rb N d)(hx:pF w B (.mk 2 b s nm has x i l0 l1 l2 l3) q off)(N1 N2 N3 N4 N5:Nat)(hcn:S.Cnt 2 b nm has x i l0 l1 l2 l3 N d N1 N2 N3 N4 N5):
 Calls Try.prog 51 #[P g, .pointer (some ⟨q,off,none⟩)] w (zN B g tb fq fo w (Ck.stat P0 rb (.mk 2 b s nm has x i l0 l1 l2 l3) e)):=by
 obtain⟨a0,z0,a1,z1,a2,z2,a3,z3,hxc⟩:=hx.parts
 obtain⟨n0,hn0⟩:∃n,n=l0.length:=⟨_,rfl⟩
 obtain⟨n1,hn1⟩:∃n,n=l1.length:=⟨_,rfl⟩
 obtain⟨n2,hn2⟩:∃n,n=l2.length:=⟨_,rfl⟩
 obtain⟨n3,hn3⟩:∃n,n=l3.length:=⟨_,rfl⟩
 rw [←hn0,←hn1,←hn2,←hn3]at hxc
 have HA:=Lib.hid hA
 have ig:Hid (∀w1,Below B w w1→SC w1 B 2 b s nm has x i l0 l1 l2 l3 a0 n0 z0 a1 n1 z1 a2 n2 z2 a3 n3 z3 q off):=fun w1 hb=>hxc.below hb
 have HXB:Hid (∀w1,Below B w w1→pF w1 B (.mk 2 b s nm has x i l0 l1 l2 l3) q off):=fun w1 hb=>hx.below hb
 have HN:=Lib.hid (And.intro hn0 (And.intro hn1 (And.intro hn2 hn3)))
 have sU:Hid (∀w1,Below w.heap.size w w1→Below B w w1):=fun w1 hb=>hb.mono hA.tb.le
 have c0:=hxc.c0
 have hlq:q<w.heap.size:=Nat.lt_of_lt_of_le hxc.lt hA.tb.le
 obtain⟨R,hR⟩:∃R,R=Ck.stat P0 rb (.mk 2 b s nm has x i l0 l1 l2 l3) e:=⟨_,rfl⟩
 have hR2:R=Ck.on (Ck.may P0 has x e) fun e=>match e.declare b s nm.data.toList with|none=>((7:Int),e)|some e=>(0,e):=by rw [hR,Ck.stat];rfl
 rw [←hR]
 obtain⟨M,hM⟩:∃M,M=(Ck.may P0 has x e).1:=⟨_,rfl⟩
 have Dc:Hid (∀w1:World,Below w.heap.size w w1→Calls Try.prog 73 #[P g, .bool has, .pointer (some ⟨q,off+5,none⟩)] w1 (Wx w1 M)):=fun w1 hb=>by rw [hM];exact rD w1 B g tb fq fo gb fb q (off+5) e P0 v0 v1 has x (fun hh=>⟨hcn.sH (by unfold S.looks;rw [hh];rfl),Nj hh⟩) (hA.cx.keep hb) (hxc.below (hb.mono hA.tb.le)).x
 obtain⟨D,hD⟩:∃D,D=e.declare b s nm.data.toList:=⟨_,rfl⟩
 have X4:Hid (∀w1:World,Below w.heap.size w w1→Calls Try.prog 49 #[P g,W.ty b s, .string nm] w1 (X5 B g tb fq fo w1 D e)):=fun w1 hb=>by
  rw [hD];exact vV w1 B g tb fq fo e b s nm hs (Nat.le_trans hA.tb.le hb.size) (hA.sc.keep hb) hA.l1 (by have:=hA.lv;have:=hA.d1;omega) (by have:=hA.sl;have:=hA.N0;omega)
 obtain⟨RB,UH⟩:∃RB,RB=D.isSome:=⟨_,rfl⟩
 obtain⟨E2,hE2⟩:∃E2,E2=D.getD e:=⟨_,rfl⟩
 have aa2:Hid (∀w1:World,Below w.heap.size w w1→Calls Try.prog 49 #[P g,W.ty b s, .string nm] w1 (fun e5 w'=>(∃(b0:Int)(s0 l0:Bool)(n0 z0:Int),e5= .returned (.tuple #[zM b0 s0 l0 n0 z0, .bool RB]))∧(Below B w1 w'∧Kx w1 w')∧kF w' B g tb fq fo E2)):=fun w1 hb=>(X4.out w1 hb).mono fun e5 w'⟨v,h1,⟨b0,s0,l0,n0,z0,h2⟩,h3,h4⟩=>⟨⟨b0,s0,l0,n0,z0,by rw [h1,h2,UH]⟩,h3,by rw [hE2];exact h4⟩
 have HR:Hid (R=Ck.on (M,e) fun _=>(if RB then(0:Int)else 7,E2)):=by
  show R=_
  rw [hR2,show Ck.may P0 has x e=(M,e)by rw [Prod.ext_iff];exact⟨hM.symm,Ck.dh P0 has x e⟩]
  unfold Ck.on
  split
  ·rw [UH,hE2,hD]
   show(match e.declare b s nm.data.toList with|none=>((7:Int),e)|some e=>(0,e))=_
   cases e.declare b s nm.data.toList<;>rfl
  ·rfl
 have c4:=hxc.c4
 have Hl:=Lib.hid hA.tb.le
 clear hx hxc hA hn0 hn1 hn2 hn3 hs Nj hcn hR hR2 hM hD X4 UH hE2
 go_enter Try.func51,Try.ntmps51
 go_upto_region 3 with(fail)
 refine Rg.wp_region [] (by kernel_rfl) (by kernel_rfl) ?_
 repeat(first|(refine Rg.cO ?_)|(refine Rg.bJ rfl ?_;simp only [Act.put,List.setIfInBounds_toArray,List.set_cons_zero,List.set_cons_succ])|(refine Rg.fP rfl rfl (fun K hK=>?_);go_big_quiet_op;refine hK _ ?_;clear hK K)|(refine Rg.fQ rfl rfl (fun K hK=>?_);go_wp2_with(first|fail|(go_at_call 73;(first|(refine(Dc.out _ (Below.refl _ _)).mono ?_)|(refine(Dc.out _ (Below.refl _ _).drew).mono ?_));rintro e6 w6⟨rfl,hb6⟩;(first|have iK:=Lib.hid (Ext.trans (Below.refl w.heap.size w) hb6)|have iK:=Lib.hid (Ext.trans (Below.refl w.heap.size w).drew hb6));clear hb6))))
 by_cases hm:M=0
 ·subst hm
  have HR2:Hid (R=(if RB then(0:Int)else 7,E2)):=HR.out
  go_upto_region 6 with(fail)
  clear c0 c4
  have EG:Hid (B≤w6.heap.size):=Nat.le_trans Hl.out iK.out.size
  have IV:=Lib.hid (sU.out _ iK.out)
  apply Iy.wp_region 15 [9,14] (fun _=>[]) (Ix.Rb) (fun m vs wi=>(Hid (Below B w6 wi∧Kx w6 wi)∧Hid (w6.heap.size≤wi.heap.size))∧(match m with|0=>Hid (Below w6.heap.size w6 wi)|_+1=>Hid (kF wi B g tb fq fo E2))) (Ix.vk [(Ix.aA _),(Ix.aA _),(Ix.aA _),(Ix.aA _),(Ix.aA (.agg #[.int .i64 b, .bool s])),(Ix.aA _),(Ix.aA _),(Ix.aA _),(Ix.aA _),(Ix.dU (fun v w'=>∃(b0:Int)(s0 l0:Bool)(n0 z0:Int),v=Value.tuple #[zM b0 s0 l0 n0 z0, .bool RB]) (fun v w1 w2 h hb=>h)),(Ix.dU (fun v w'=>∃(b0:Int)(s0 l0:Bool)(n0 z0:Int),v=Value.tuple #[zM b0 s0 l0 n0 z0, .bool RB]) (fun v w1 w2 h hb=>h)),(Ix.dU (fun v w'=>∃(b0:Int)(s0 l0:Bool)(n0 z0:Int),v=zM b0 s0 l0 n0 z0) (fun v w1 w2 h hb=>h)),(Ix.aA _),(Ix.dU (fun v w'=>zi w' w6.heap.size v) (fun v w1 w2 h hb=>h.kx (Kx.below hb))),(Ix.mY (fun _=>True))]) (fun k=>k==13) (by kernel_rfl) (by kernel_rfl) (by kernel_rfl) (by kernel_rfl) (by kernel_rfl) (fun _ _ _ _ _ h=>h) (fun _=>Below.refl _ _) (fun m vs wi wj h hb=>⟨⟨⟨h.1.1.out.1.trans (hb.mono (Nat.le_trans EG.out h.1.2.out)),h.1.1.out.2.trans (Kx.below hb)⟩,Nat.le_trans h.1.2.out hb.size⟩,by cases m with|zero=>exact Ext.trans h.2.out hb|succ m=>exact h.2.out.keep hb⟩) (Ix.aN _) (fun j v w hj hv=>by simp only [beq_iff_eq]at hj;subst hj;obtain⟨t,e,_,_,_,_,_,_,hg⟩:=hv;exact⟨t,e,hg.lt⟩) (fun vs=>⟨⟨⟨(Below.refl _ _).drew,Kx.refl _⟩,Nat.le_refl _⟩,(Below.refl _ _).drew⟩)
  case step=>
   refine aZ 14 0 1 [] (fun _ _ wi HB=>?_)<|aZ 13 1 2 [] (fun _ _ wi HB=>?_)<|aZ 12 2 3 [(1,some 36)] (fun _ _ wi HB=>?_)<|aZ 11 3 4 [(2,some 37)] (fun _ _ wi HB=>?_)<|aZ 10 4 5 [(3,some 38)] (fun _ _ wi HB=>?_)<|aZ 9 5 6 [] (fun _ _ wi HB=>?_)<|aZ 8 6 7 [(5,some 40)] (fun _ _ wi HB=>?_)<|aZ 7 7 8 [(6,some 41)] (fun _ _ wi HB=>?_)<|aZ 6 8 9 [(7,some 42)] (fun _ _ wi HB=>?_)<|Aw 5 9 10 0 [(0,some 35),(4,some 39),(8,some 43)] (fun ji wi HB=>?_)<|aZ 4 10 11 [(9,some 44)] (fun _ _ wi HB=>?_)<|aZ 3 11 12 [(10,some 34)] (fun _ _ wi HB=>?_)<|aZ 2 12 13 [(10,some 34)] (fun _ _ wi HB=>?_)<|aZ 1 13 14 [] (fun _ _ wi HB=>?_)<|Aw 0 14 15 1 [(11,some 45),(13,some 6)] (fun ji wi HB=>?_)<|Iy.aC
   iterate 4(·((repeat(refine aB ?_;rintro _ rfl));refine aF ?_;(try simp only [aj]);refine Iy.ah rfl rfl fun K hK=>?_;(try simp only [aj]at hK);go_wp2_with(first|fail);exact hK _ _ (Below.refl _ _) rfl))
   (·(obtain⟨⟨iE,wP⟩,HO⟩:=HB;have hsx:=ig.out _ (IV.out.trans iE.out.1);have d1:=hsx.c1;have d2:=hsx.c2;have d3:=hsx.c3;have WH:=Nat.lt_of_lt_of_le hsx.lt (Nat.le_trans EG.out wP.out);(repeat(refine aB ?_;rintro _ rfl));refine aF ?_;(try simp only [aj]);refine Iy.ah rfl rfl fun K hK=>?_;(try simp only [aj]at hK);go_wp2_with(first|fail);exact hK _ _ (Below.refl _ _) rfl))
   iterate 3(·((repeat(refine aB ?_;rintro _ rfl));refine aF ?_;(try simp only [aj]);refine Iy.ah rfl rfl fun K hK=>?_;(try simp only [aj]at hK);go_wp2_with(first|fail);exact hK _ _ (Below.refl _ _) rfl))
   (·(obtain⟨⟨iE,wP⟩,HO⟩:=HB;have hsx:=ig.out _ (IV.out.trans iE.out.1);have d1:=hsx.c1;have d2:=hsx.c2;have d3:=hsx.c3;have WH:=Nat.lt_of_lt_of_le hsx.lt (Nat.le_trans EG.out wP.out);(repeat(refine aB ?_;rintro _ rfl));refine aF ?_;(try simp only [aj]);refine Iy.ah rfl rfl fun K hK=>?_;(try simp only [aj]at hK);go_wp2_with(first|fail);exact hK _ _ (Below.refl _ _) rfl))
   (·(obtain⟨⟨iE,wP⟩,HO⟩:=HB;refine aB ?_;rintro _⟨rfl,ev0⟩;refine aB ?_;rintro _⟨rfl,Zj⟩;refine aB ?_;rintro _⟨rfl,ev8⟩;refine aF ?_;(try simp only [aj]);refine Iy.ah rfl rfl fun K hK=>?_;(try simp only [aj]at hK);go_wp2_with(first|(go_at_call 49;refine(aa2.out _ (Ext.trans iK.out HO.out)).mono ?_;rintro e7 w7⟨⟨b0,s0,l0',n0',z0',rfl⟩,⟨hbb,hkx⟩,hsc⟩));exact hK _ _ ⟨⟨⟨⟨iE.out.1.trans hbb,iE.out.2.trans hkx⟩,Nat.le_trans wP.out hbb.size⟩,hsc⟩,Iy.dG (by repeat(first|exact True.intro|refine And.intro (fun _ h=>h) ?_|refine And.intro (fun hne=>absurd rfl hne) ?_|refine And.intro (fun _ h=>zi.kx hkx h) ?_))⟩ ⟨_,_,_,_,_,rfl⟩))
   (·(obtain⟨⟨iE,wP⟩,HO⟩:=HB;have hsx:=ig.out _ (IV.out.trans iE.out.1);have d1:=hsx.c1;have d2:=hsx.c2;have d3:=hsx.c3;have WH:=Nat.lt_of_lt_of_le hsx.lt (Nat.le_trans EG.out wP.out);refine aB ?_;rintro _⟨b0,s0,l0',n0',z0',rfl⟩;refine aF ?_;(try simp only [aj]);refine Iy.ah rfl rfl fun K hK=>?_;(try simp only [aj]at hK);go_wp2_with(first|fail);exact hK _ _ (Below.refl _ _) ⟨_,_,_,_,_,rfl⟩))
   (·(obtain⟨⟨iE,wP⟩,HO⟩:=HB;have hsx:=ig.out _ (IV.out.trans iE.out.1);have d1:=hsx.c1;have d2:=hsx.c2;have d3:=hsx.c3;have WH:=Nat.lt_of_lt_of_le hsx.lt (Nat.le_trans EG.out wP.out);refine aB ?_;rintro _⟨b1,s1,l1',n1',z1',rfl⟩;refine aF ?_;(try simp only [aj]);refine Iy.ah rfl rfl fun K hK=>?_;(try simp only [aj]at hK);go_wp2_with(first|fail);exact hK _ _ (Below.refl _ _) ⟨_,_,_,_,_,rfl⟩))
   (·(refine aB ?_;rintro _⟨b1,s1,l1',n1',z1',rfl⟩;refine aF ?_;(try simp only [aj]);refine Iy.ah rfl rfl fun K hK=>?_;(try simp only [aj]at hK);go_wp2_with(first|fail);exact hK _ _ (Below.refl _ _) rfl))
   (·(obtain⟨⟨iE,wP⟩,HO⟩:=HB;have hsx:=ig.out _ (IV.out.trans iE.out.1);have d1:=hsx.c1;have d2:=hsx.c2;have d3:=hsx.c3;have WH:=Nat.lt_of_lt_of_le hsx.lt (Nat.le_trans EG.out wP.out);(repeat(refine aB ?_;rintro _ rfl));refine aF ?_;(try simp only [aj]);refine Iy.iV rfl fun K hK=>?_;(try simp only [aj]at hK);go_wp2_with(first|fail);exact hK _ (Ext.alloc (Below.refl _ _) _) ⟨_,rfl,wP.out,0,false,false,0,0,ak.new _ _ _⟩))
   (·(obtain⟨⟨iE,wP⟩,HO⟩:=HB;refine aB ?_;rintro _⟨⟨b2,s2,l2',n2',z2',rfl⟩,DK⟩;refine aB ?_;rintro _⟨⟨t,rfl,htl,b3,s3,l3',n3',z3',hgb⟩,uV⟩;refine aF ?_;have i0:=hgb.cell 0;have i1:=hgb.cell 1;have i2:=hgb.cell 2;have i3:=hgb.cell 3;have i4:=hgb.cell 4;have z0:=hgb.frozen 0;have z1:=hgb.frozen 1;have z2:=hgb.frozen 2;have z3:=hgb.frozen 3;have z4:=hgb.frozen 4;have htB:=Nat.le_trans EG.out htl;(try simp only [aj]);refine Iy.ah rfl rfl fun K hK=>?_;(try simp only [aj]at hK);go_wp2_with(first|fail);exact hK undef _ ⟨⟨⟨⟨pI iE.out.1 htB _ _ _ _ _,iE.out.2.res htl rP⟩,(show w6.heap.size≤_ by simpa using wP.out)⟩,HO.out.five hgb _ _ _ _ _⟩,Iy.dG (by repeat(first|exact True.intro|refine And.intro (fun _ h=>h) ?_|refine And.intro (fun hne=>absurd rfl hne) ?_|refine And.intro (fun _ h=>zi.turn hgb _ _ _ _ _ h) ?_))⟩ trivial))
  intro lM wf HF hdf
  refine au 14 0 1 ?_;rintro _ _ rfl;refine au 13 1 2 ?_;rintro _ _ rfl;refine au 12 2 3 ?_;rintro _ _ rfl;refine au 11 3 4 ?_;rintro _ _ rfl;refine au 10 4 5 ?_;rintro _ _ rfl;refine au 9 5 6 ?_;rintro _ _ rfl;refine au 8 6 7 ?_;rintro _ _ rfl;refine au 7 7 8 ?_;rintro _ _ rfl;refine au 6 8 9 ?_;rintro _ _ rfl;refine au 5 9 10 ?_;rintro _ _⟨b0,s0,l0',n0',z0',rfl⟩;refine au 4 10 11 ?_;rintro _ _⟨b1,s1,l1',n1',z1',rfl⟩;refine au 3 11 12 ?_;rintro _ _⟨b2,s2,l2',n2',z2',rfl⟩;refine au 2 12 13 ?_;rintro _ _ rfl;refine au 1 13 14 ?_;rintro _ uV⟨t,rfl,htl,b3,s3,l3',n3',z3',hgb⟩;refine au 0 14 15 ?_;rintro _ _ _
  refine Ix.aI ?_
  obtain⟨⟨iE,wP⟩,HO⟩:=HF
  (try simp only [Act.put,List.setIfInBounds_toArray,List.set_cons_zero,List.set_cons_succ,List.drop_succ_cons,List.drop_zero])
  go_wp2_with(first|fail)
  all_goals(first|refine Ix.only ?_|(refine Ix.dK fun tz=>?_))
  clear hdf hgb
  have Tc:Hid (Below B w wf∧Kx w wf):=⟨IV.out.trans iE.out.1,(Kx.below iK.out).trans iE.out.2⟩
  cases RB with
  |false=>
   go_wp2
   go_ret
   exact⟨by rw [HR2.out];rfl,Tc.out,by rw [HR2.out];exact HO.out⟩
  |true=>
   go_wp2
   go_ret
   exact⟨by rw [HR2.out];rfl,Tc.out,by rw [HR2.out];exact HO.out⟩
 ·have HR2:Hid (R=(M,e)):=by show R=_;rw [HR.out];exact Ck.ni hm
  have q1:(M !=0)=true:=by simpa using hm
  clear hm
  go_wp2
  go_ret
  exact⟨by rw [HR2.out];rfl,⟨sU.out _ iK.out,Kx.below iK.out⟩,by rw [HR2.out];exact HA.out.sc.keep iK.out⟩
end Go.Proofs.Ythdckndjggljpaa
