/- Proofs of this claim, part 39. No condition. -/
import Derived.Defers
import Derived.Test.YthdckndjggljpaaS38
namespace Go.Proofs.Ythdckndjggljpaa
set_option linter.unusedVariables false
set_option linter.unusedSimpArgs false
set_option maxRecDepth 100000
set_option maxHeartbeats 64000000
open Go.RowKit Go.Maps
theorem FU(u:FrameMode)(w:World)(B g tb fq fo:Nat)(e:Ck.Env)(h:kF w B g tb fq fo e)(h1:1≤e.lv.length):CallsD Try.prog 50 #[P g] u w fun e2 u' w'=>u'=u∧Ya B g tb fq fo w e.close (.tuple #[]) e2 w':=by
 obtain⟨la,lc,ub,sa,sc,bs,h⟩:=h
 obtain⟨lb,rfl⟩:∃lb,la=some ⟨lb,0,none⟩:=by
  rcases h.lv.2 with⟨_,hn⟩|⟨g',cap,cur,ev,_⟩
  ·omega
  ·injection ev with ev;exact⟨_,ev⟩
 have hle:e.lv.length≤lc:=by obtain⟨_,_,e2,h2,h3⟩:=bG h.lv;injection e2 with _ _ e2;omega
 have hlm:lc≤maxLen:=by obtain⟨_,_,e2,h2,h3⟩:=bG h.lv;injection e2 with _ _ e2;omega
 obtain⟨n,hn⟩:∃n,n=e.lv.length:=⟨_,rfl⟩
 have c1:w.cell? ⟨g,1,none⟩=some (.slice (some ⟨lb,0,none⟩) n lc):=by rw [h.blk.cell 1,hn];rfl
 have z1:=h.blk.frozen 1
 have HK:Hid ((Below B w (w.setCell ⟨g,1,none⟩ (.slice (some ⟨lb,0,none⟩) (n-1) lc)).drew∧Kx w (w.setCell ⟨g,1,none⟩ (.slice (some ⟨lb,0,none⟩) (n-1) lc)).drew)∧kF (w.setCell ⟨g,1,none⟩ (.slice (some ⟨lb,0,none⟩) (n-1) lc)).drew B g tb fq fo e.close):=by
  rw [hn]
  obtain⟨k1,k2⟩:=h.closed
  exact⟨⟨k2.1.drew,k2.2⟩,_,_,_,_,_,_,k1.keep (Below.refl _ _).drew⟩
 rw [←hn]at h1 hle
 unfold maxLen at hlm
 clear h hn
 have i1:((n:Int)-1).toNat=n-1:=by omega
 have HI:=Lib.hid i1
 have hi0:0≤(n:Int)-1:=by omega
 have hi2:(n:Int)-1≤(lc:Int):=by omega
 have hi3:(n:Int)≤9223372036854775807:=by omega
 clear i1
 go_enter_d Try.func50,Try.ntmps50
 refine Rg.wp_region [] (by kernel_rfl) (by kernel_rfl) ?_
 repeat(first|(refine Rg.cO ?_)|(refine Rg.bJ rfl ?_;simp only [Act.put,List.setIfInBounds_toArray,List.set_cons_zero,List.set_cons_succ])|(refine Rg.fP rfl rfl (fun K hK=>?_);go_big_quiet_op;refine hK _ ?_;clear hK K)|(refine Rg.fQ rfl rfl (fun K hK=>?_);go_wp2_with(first|fail|fail)))
 go_wp2
 go_end0
 exact⟨rfl,HK.out⟩
theorem S.Po{l:List S}{N:Nat}{d:Int}(h:(S.cnts l N d).1=0)(j:Nat):(S.cnts (l.take j) N d).1=0∧∀y,l[j]?=some y→(S.cnt y (S.cnts (l.take j) N d).2 d).1=0:=by
 induction l generalizing N j with
 |nil=>rw [List.take_nil];exact⟨h,fun y hy=>by simp at hy⟩
 |cons x l ih=>
  rw [S.cnts]at h
  split at h
  ·rename_i h1
   cases j with
   |zero=>rw [List.take_zero,S.cnts];exact⟨rfl,fun y hy=>by simp at hy;subst hy;exact h1⟩
   |succ j=>
    rw [List.take_succ_cons,S.cnts,if_pos h1]
    obtain⟨k1,k2⟩:=ih h j
    exact⟨k1,fun y hy=>k2 y (by simpa using hy)⟩
  ·rename_i h1;exact absurd h h1
def Zp(w:World)(B fq fo:Nat)(rb:Int):Prop:=fq<B∧w.cell? ⟨fq,fo+1,none⟩=some (.int .i64 rb)
theorem Zp.below{w w':World}{B fq fo:Nat}{rb:Int}(h:Zp w B fq fo rb)(hb:Below B w w'):Zp w' B fq fo rb:=⟨h.1,by rw [Below.cell (p:=⟨fq,fo+1,none⟩) hb h.1];exact h.2⟩
def zN(B g tb fq fo:Nat)(w:World)(r:Int×Ck.Env)(e:Ending)(w':World):Prop:=e= .returned (.int .i64 r.1)∧(Below B w w'∧Kx w w')∧kF w' B g tb fq fo r.2
structure At(w:World)(B g tb fq fo gb fb:Nat)(e:Ck.Env)(P0:Pg)(v0 v1:Value)(rb:Int)(N:Nat)(d:Int):Prop where
 sc:kF w B g tb fq fo e
 tb:Tb w B tb P0 v0 v1 gb fb
 ps:∀f∈P0.fs,f.ps.length≤8
 fn:Zp w B fq fo rb
 N0:N≤20000
 d0:0≤d
 d1:d≤102
 sl:e.slots.length≤N+8
 lv:(e.lv.length:Int)≤d
 l1:1≤e.lv.length
 lo:(e.loops:Int)≤d
theorem At.cx{w:World}{B g tb fq fo gb fb:Nat}{e:Ck.Env}{P0:Pg}{v0 v1:Value}{rb:Int}{N:Nat}{d:Int}(h:At w B g tb fq fo gb fb e P0 v0 v1 rb N d):Cx w B g tb fq fo gb fb e P0 v0 v1:=⟨h.sc,h.tb,by have:=h.lv;have:=h.d1;omega,h.ps⟩
theorem At.on{w w':World}{B g tb fq fo gb fb:Nat}{e e':Ck.Env}{P0:Pg}{v0 v1:Value}{rb:Int}{N N':Nat}{d d':Int}(h:At w B g tb fq fo gb fb e P0 v0 v1 rb N d)(hb:Below B w w')(hs:kF w' B g tb fq fo e')(hN:N'≤20000)(hd:0≤d')(hd':d'≤102)
 (hsl:e'.slots.length≤N'+8)(hlv:(e'.lv.length:Int)≤d')(hl1:1≤e'.lv.length)(hlo:(e'.loops:Int)≤d'):At w' B g tb fq fo gb fb e' P0 v0 v1 rb N' d':=
 ⟨hs,h.tb.below hb,h.ps,h.fn.below hb,hN,hd,hd',hsl,hlv,hl1,hlo⟩
def Df(B g tb fq fo gb fb:Nat)(P0:Pg)(v0 v1:Value)(rb:Int)(y:S):Prop:=∀(w:World)(q off:Nat)(e:Ck.Env)(N:Nat)(d:Int),At w B g tb fq fo gb fb e P0 v0 v1 rb N d→pF w B y q off→(S.cnt y N d).1=0→
 Calls Try.prog 51 #[P g, .pointer (some ⟨q,off,none⟩)] w (zN B g tb fq fo w (Ck.stat P0 rb y e))
theorem uK(w:World)(B g tb fq fo gb fb:Nat)(P0:Pg)(v0 v1:Value)(rb:Int)(l:List S)(a:Option Addr)(c:Nat)(HI:∀y∈l,Df B g tb fq fo gb fb P0 v0 v1 rb y)(e:Ck.Env)(N:Nat)(d:Int)(hA:At w B g tb fq fo gb fb e P0 v0 v1 rb N d)(hlv:(e.lv.length:Int)+1≤d)
 (hl:FK w B l a c)(hc:(S.cnts l N d).1=0):
 Calls Try.prog 31 #[P g, .slice a l.length c] w (zN B g tb fq fo w (Ck.shut (Ck.stats P0 rb l e.open))):=by
 obtain⟨n,hn⟩:∃n,n=l.length:=⟨_,rfl⟩
 obtain⟨R,hR⟩:∃R,R=Ck.stats P0 rb l e.open:=⟨_,rfl⟩
 rw [←hR,←hn]
 have HA:=Lib.hid hA
 have HOP:=Lib.hid (FT w B g tb fq fo e hA.tb.le hA.sc (by have:=hA.d1;omega))
 have HN:=Lib.hid hn
 have HR:=Lib.hid hR
 have HL:=Lib.hid hl
 have HCC:=Lib.hid hc
 have HII:=Lib.hid HI
 have HLV:=Lib.hid hlv
 have hcm:n≤c∧c≤maxLen:=⟨by rw [hn];exact hl.1,hl.2.1⟩
 have hn9:(n:Int)≤9223372036854775807:=by obtain⟨h1,h2⟩:=hcm;unfold maxLen at h2;omega
 have hnc:(n:Int)≤(c:Int):=by omega
 clear hA hn hR hl hc HI hlv hcm
 go_enter_defers Try.func31,Try.ntmps31
 go_wp2_with(first|(go_at_call 48;refine HOP.out.mono ?_;rintro e1 w1⟨rfl,hb1,hs1⟩;have HB1:=Lib.hid hb1;have KL:=Lib.hid hs1;clear hb1 hs1))
 go_loopw [12](fun i wr=>∃j:Nat,j≤n∧i= .int .i64 (j:Int)∧Hid (Below B w wr∧Kx w wr)∧Hid (kF wr B g tb fq fo (Ck.stats P0 rb (l.take j) e.open).2)∧Hid ((Ck.stats P0 rb (l.take j) e.open).1=0))(fun i wr=>n-(intOf i).toNat)
 case atStart=>exact⟨0,Nat.zero_le _,rfl,HB1.out,KL.out,rfl⟩
 case round=>
  obtain⟨j,hj,rfl,HB,HSC,HZ⟩:=hrel
  have Xj:Hid (1≤e.open.lv.length):=Ck.aO e
  have HKP:=Lib.hid (Ck.oQ P0 rb (l.take j) e.open Xj.out)
  have Hl:Hid (1≤(Ck.stats P0 rb (l.take j) e.open).2.lv.length):=by have:=HKP.out.1;have:=Xj.out;show 1≤_;omega
  by_cases hlt:j<n
  ·have hjl:j<l.length:=by rw [←HN.out];exact hlt
   obtain⟨gk,ok,ea,hxy⟩:=HL.out.2.2 j l[j] (List.getElem?_eq_getElem hjl)
   subst ea
   obtain⟨hc0,hc1⟩:=S.Po HCC.out j
   have hcy:=hc1 l[j] (List.getElem?_eq_getElem hjl)
   have hsl:=Ck.rF P0 rb (l.take j) e.open N d hc0 Xj.out HA.out.sl
   have hAt:At wr B g tb fq fo gb fb (Ck.stats P0 rb (l.take j) e.open).2 P0 v0 v1 rb (S.cnts (l.take j) N d).2 d:=
    HA.out.on HB.out.1 HSC.out (S.bF (l.take j) N d HA.out.N0 hc0) HA.out.d0 HA.out.d1 hsl (by have h1:=HKP.out.1;have h2:=HLV.out;have h3:e.open.lv.length=e.lv.length+1:=(by simp [Ck.Env.open]);omega) Hl.out (by have h1:=HKP.out.2.1;have h2:=HA.out.lo;have h3:e.open.loops=e.loops:=rfl;omega)
   have hst:=HII.out l[j] (List.getElem_mem hjl) wr gk (ok+j*21) _ _ d hAt (hxy.below HB.out.1) hcy
   have htk:Ck.stats P0 rb (l.take (j+1)) e.open=Ck.stat P0 rb l[j] (Ck.stats P0 rb (l.take j) e.open).2:=by
    rw [List.take_succ_eq_append_getElem hjl];exact Ck.Dp P0 rb _ _ _ HZ.out
   have Pq:=Ck.rG P0 rb l[j] (Ck.stats P0 rb (l.take j) e.open).2 Hl.out
   rw [←htk]at hst Pq
   obtain⟨r,hr⟩:∃r,r=Ck.stats P0 rb (l.take (j+1)) e.open:=⟨_,rfl⟩
   rw [←hr]at hst Pq
   have HST:=Lib.hid hst
   have HRR:=Lib.hid hr
   have aau:=Lib.hid Pq
   have Zf:=Lib.hid hjl
   obtain⟨rc,re⟩:=r
   clear hxy hc0 hc1 hcy hsl hAt hst htk hr Pq hjl
   by_cases he:rc=0
   ·subst he
    go_wp2_with(first|(go_at_call 51;refine HST.out.mono ?_;rintro e5 w5⟨rfl,hb5,hs5⟩;have bD:=Lib.hid hb5;have Dq:=Lib.hid hs5;clear hb5 hs5))
    go_roundw
    case rel=>exact⟨j+1,by omega,by go_num,⟨HB.out.1.trans bD.out.1,HB.out.2.trans bD.out.2⟩,by rw [←HRR.out];exact Dq.out,by show _=_;rw [←HRR.out]⟩
    case measure=>simp [intOf];omega
   ·have qe:(rc !=0)=true:=by simpa using he
    have TR:Hid (R=(rc,re)):=by
     show R=_
     rw [HR.out,HRR.out]
     have h0:=Ck.Dt P0 rb (l.take (j+1)) (l.drop (j+1)) e.open (by rw [←HRR.out];exact he)
     rw [List.take_append_drop]at h0;exact h0
    clear he
    go_wp2_with(first|(go_at_call 51;refine HST.out.mono ?_;rintro e5 w5⟨rfl,hb5,hs5⟩;have bD:=Lib.hid hb5;have Dq:=Lib.hid hs5;clear hb5 hs5))
    have Pv:Hid (1≤re.lv.length):=by have h1:=aau.out.1;have h2:=Hl.out;have h3:re.lv.length=_:=h1;show 1≤_;omega
    (refine leaves_cons (f:=50) (args:=#[P g]) (by simp) (by simp [go_sem]) ?_;refine(FU _ _ B g tb fq fo _ Dq.out Pv.out).mono ?_;rintro e u' w6⟨rfl,rfl,hb6,hs6⟩)
    exact⟨_,results_tmp rfl _ _ _,by rw [TR.out];rfl,⟨(HB.out.1.trans bD.out.1).trans hb6.1,(HB.out.2.trans bD.out.2).trans hb6.2⟩,by rw [TR.out];exact hs6⟩
  ·obtain rfl:j=n:=by omega
   have TR:Hid (R=(0,(Ck.stats P0 rb (l.take j) e.open).2)):=by
    show R=_
    have e5:l.take j=l:=by rw [HN.out,List.take_length]
    have hz:=HZ.out
    rw [e5]at hz⊢
    rw [HR.out,Prod.ext_iff];exact⟨hz,rfl⟩
   go_wp2
   (refine leaves_cons (f:=50) (args:=#[P g]) (by simp) (by simp [go_sem]) ?_;refine(FU _ _ B g tb fq fo _ HSC.out Hl.out).mono ?_;rintro e u' w6⟨rfl,rfl,hb6,hs6⟩)
   exact⟨_,results_tmp rfl _ _ _,by rw [TR.out];rfl,⟨HB.out.1.trans hb6.1,HB.out.2.trans hb6.2⟩,by rw [TR.out];exact hs6⟩
theorem Sc.qx{w:World}{B g tb fq fo:Nat}{e:Ck.Env}{la:Option Addr}{lc ub:Nat}{sa:Option Addr}{sc:Nat}{bs:List Nat}(h:Sc w B g tb fq fo e la lc ub sa sc bs)(k:Nat):
 Sc (w.setCell ⟨g,4,none⟩ (.int .i64 (k:Int))) B g tb fq fo {e with loops:=k} la lc ub sa sc bs:=by
 have far:∀j,j≠g→(w.setCell ⟨g,4,none⟩ (.int .i64 (k:Int))).heap[j]?=w.heap[j]?:=fun j hj=>Below.heap_setCell w ⟨g,4,none⟩ _ j hj
 refine⟨?_,h.hB,?_,?_,?_,h.len,h.ge,fun i b hb=>?_,h.nd⟩
 ·have h0:=h.blk.dJ 4 (.int .i64 (k:Int))
  simpa using h0
 ·exact aU h.lv fun j hj=>far j (fun e2=>bn h.lv h.blk jL (by rw [hj,e2]))
 ·exact aU h.sl fun j hj=>far j (fun e2=>bn h.sl h.blk jK (by rw [hj,e2]))
 ·exact h.us.same (far ub (aV h.blk h.us))
 ·obtain⟨h5,h6⟩:=h.maps i b hb
  exact⟨h5,h6.same (far b (aV h.blk h6))⟩
theorem kF.qx{w:World}{B g tb fq fo:Nat}{e:Ck.Env}(h:kF w B g tb fq fo e)(k:Nat):kF (w.setCell ⟨g,4,none⟩ (.int .i64 (k:Int))) B g tb fq fo {e with loops:=k}∧Below B w (w.setCell ⟨g,4,none⟩ (.int .i64 (k:Int)))∧Kx w (w.setCell ⟨g,4,none⟩ (.int .i64 (k:Int))):=by
 obtain⟨la,lc,ub,sa,sc,bs,h⟩:=h
 exact⟨⟨_,_,_,_,_,_,h.qx k⟩,(Below.refl _ _).setCell h.hB _,Kx.setCell h.blk (by decide) (by decide) _ _⟩
theorem kF.loops{w:World}{B g tb fq fo:Nat}{e:Ck.Env}(h:kF w B g tb fq fo e):w.cell? ⟨g,4,none⟩=some (.int .i64 (e.loops:Int))∧w.frozen? ⟨g,4,none⟩=false∧g<w.heap.size:=by
 obtain⟨la,lc,ub,sa,sc,bs,h⟩:=h
 exact⟨h.blk.cell 4,h.blk.frozen 4,h.blk.lt⟩
theorem QO(u:FrameMode)(w:World)(B g tb fq fo bx:Nat)(e:Ck.Env)(h:kF w B g tb fq fo e)(hb:ak w bx 78 #[P g])(h1:1≤e.loops)(h2:e.loops≤1000):
 CallsD Try.prog 99 #[P bx] u w fun e2 u' w'=>u'=u∧Ya B g tb fq fo w {e with loops:=e.loops-1} (.tuple #[]) e2 w':=by
 obtain⟨c4,z4,hg⟩:=h.loops
 have b0:=hb.cell 0
 have HK:=Lib.hid (h.qx (e.loops-1))
 obtain⟨n,hn⟩:∃n,n=e.loops:=⟨_,rfl⟩
 have en:((e.loops-1:Nat):Int)=(n:Int)-1:=by omega
 rw [←hn]at c4 h1 h2
 have HKK:Hid (Ya B g tb fq fo w {e with loops:=e.loops-1} (.tuple #[]) (.returned (.tuple #[])) (w.setCell ⟨g,4,none⟩ (.int .i64 ((n:Int)-1)))):=by
  have h0:=HK.out
  rw [en]at h0
  exact⟨rfl,⟨h0.2.1,h0.2.2⟩,h0.1⟩
 clear h hb HK en hn
 go_enter_d Try.func99,Try.ntmps99
 go_wp2
 go_end0
 exact⟨rfl,HKK.out.2⟩
theorem QN(w:World)(B g tb fq fo gb fb:Nat)(P0:Pg)(v0 v1:Value)(rb:Int)(l:List S)(a:Option Addr)(c:Nat)(HI:∀y∈l,Df B g tb fq fo gb fb P0 v0 v1 rb y)(e:Ck.Env)(N:Nat)(d:Int)(hA:At w B g tb fq fo gb fb e P0 v0 v1 rb N d)(hlv:(e.lv.length:Int)+1≤d)(hlo:(e.loops:Int)+1≤d)
 (hl:FK w B l a c)(hc:(S.cnts l N d).1=0):
 Calls Try.prog 77 #[P g, .slice a l.length c] w (zN B g tb fq fo w (Ck.less (Ck.shut (Ck.stats P0 rb l (Ck.more e).open)))):=by
 obtain⟨c4,z4,hgl⟩:=hA.sc.loops
 obtain⟨R,hR⟩:∃R,R=Ck.shut (Ck.stats P0 rb l (Ck.more e).open):=⟨_,rfl⟩
 rw [←hR]
 obtain⟨n,hn⟩:∃n,n=l.length:=⟨_,rfl⟩
 rw [←hn]
 obtain⟨m,hm⟩:∃m,m=e.loops:=⟨_,rfl⟩
 rw [←hm]at c4
 have hm9:(m:Int)≤1000:=by have:=hA.d1;have:=hA.lo;omega
 have hm0:0≤(m:Int):=by omega
 obtain⟨W2,hW2⟩:∃W2,W2=(w.setCell ⟨g,4,none⟩ (.int .i64 ((m:Int)+1))).alloc (.cells #[P g] 78):=⟨_,rfl⟩
 have Gm:Hid (Below B w W2∧Kx w W2∧ak W2 w.heap.size 78 #[P g]∧Calls Try.prog 31 #[P g, .slice a n c] W2 (zN B g tb fq fo W2 R)):=by
  obtain⟨k1,k2,k3⟩:=hA.sc.qx (m+1)
  rw [show((m+1:Nat):Int)=(m:Int)+1 by omega,←show Ck.more e={e with loops:=m+1}by rw [hm];rfl]at k1
  rw [show((m+1:Nat):Int)=(m:Int)+1 by omega]at k2 k3
  have hal:Below (w.setCell ⟨g,4,none⟩ (.int .i64 ((m:Int)+1))).heap.size (w.setCell ⟨g,4,none⟩ (.int .i64 ((m:Int)+1))) W2:=by rw [hW2];exact Ext.alloc (Below.refl _ _) _
  have hbb:Below B w W2:=k2.trans (hal.mono (Nat.le_trans hA.tb.le k2.size))
  refine⟨hbb,k3.trans (Kx.below hal),by rw [hW2];exact ak.newAt _ _ (by simp),?_⟩
  rw [hR,hn]
  refine uK _ B g tb fq fo gb fb P0 v0 v1 rb l a c HI (Ck.more e) N d (hA.on hbb (k1.keep hal) hA.N0 hA.d0 hA.d1 hA.sl hA.lv hA.l1 ?_) hlv (hl.below hbb) hc
  show((e.loops+1:Nat):Int)≤d;omega
 have HRL:Hid (R.2.loops=m+1):=by
  have h0:=(Ck.oQ P0 rb l (Ck.more e).open (Ck.aO _)).2.1
  show _=_
  rw [hR,hm];exact h0
 have HM:=Lib.hid (show m≤999 by have:=hA.d1;omega)
 have Hl:=Lib.hid hA.tb.le
 obtain⟨rc,re⟩:=R
 clear hA hR hn hm hl hc HI hlv hlo
 have hmf:∀(fn:Go.Fn)(first cap:Array Value)(w:World),(Instr.makeFunc fn first cap).run Try.prog w= .ok (.func fn first cap) w:=fun _ _ _ _=>rfl
 go_enter_defers Try.func77,Try.ntmps77
 go_upto_region 2 with(fail)
 rw [←hW2]
 clear hW2 c4 z4
 have b0:=Gm.out.2.2.1.cell 0
 have b1:=Gm.out.2.2.1.lt
 go_wp2_with(first|(go_at_call 31;refine Gm.out.2.2.2.mono ?_;rintro e5 w5⟨rfl,hb5,hs5⟩;have bD:=Lib.hid hb5;have Dq:=Lib.hid hs5;clear hb5 hs5))
 have hbx:=bD.out.2 _ 78 _ (.inl rfl) Gm.out.2.2.1
 refine leaves_cons (f:=99) (args:=#[P w.heap.size]) (by simp) (by simp [go_sem]) ?_
 refine(QO _ _ B g tb fq fo w.heap.size re Dq.out hbx (by have h0:=HRL.out;have h1:re.loops=m+1:=h0;omega) (by have h0:=HRL.out;have h1:re.loops=m+1:=h0;have:=HM.out;omega)).mono ?_
 rintro e6 u' w6⟨rfl,rfl,hb6,hs6⟩
 exact⟨_,results_tmp rfl _ _ _,rfl,⟨(Gm.out.1.trans bD.out.1).trans hb6.1,(Gm.out.2.1.trans bD.out.2).trans hb6.2⟩,hs6⟩
end Go.Proofs.Ythdckndjggljpaa
