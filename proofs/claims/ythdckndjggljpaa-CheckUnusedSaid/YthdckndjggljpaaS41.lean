/- Proofs of this claim, part 41. No condition. -/
import Derived.Test.YthdckndjggljpaaS40
namespace Go.Proofs.Ythdckndjggljpaa
set_option linter.unusedVariables false
set_option linter.unusedSimpArgs false
set_option maxRecDepth 100000
set_option maxHeartbeats 64000000
open Go.RowKit Go.Maps
theorem At.shut{w w':World}{B g tb fq fo gb fb:Nat}{e:Ck.Env}{P0:Pg}{v0 v1:Value}{rb:Int}{N N1 N2:Nat}{d:Int}{l:List S}(h:At w B g tb fq fo gb fb e P0 v0 v1 rb N d)(hd:d≤100)(hN:N≤N1)(hc:S.cnts l N1 (d+1)=(0,N2))(h2:N2≤20000)(hb:Below B w w')
 (hs:kF w' B g tb fq fo (Ck.shut (Ck.stats P0 rb l e.open)).2):At w' B g tb fq fo gb fb (Ck.shut (Ck.stats P0 rb l e.open)).2 P0 v0 v1 rb N2 d:=by
 have hk:=Ck.jF (Ck.Kept.refl e) (Ck.oQ P0 rb l e.open (Ck.aO e))
 have hsl:=Ck.rF P0 rb l e.open N1 (d+1) (by rw [hc]) (Ck.aO e) (by have:=h.sl;show e.slots.length≤_;omega)
 rw [hc]at hsl
 exact h.on hb hs h2 h.d0 h.d1 hsl (by rw [hk.1];exact h.lv) (by rw [hk.1];exact h.l1) (by rw [hk.2.1];exact h.lo)
theorem uN{w:World}{B g tb fq fo gb fb:Nat}{e:Ck.Env}{P0:Pg}{v0 v1:Value}{rb:Int}{N N1 N2:Nat}{d:Int}{l:List S}{a:Option Addr}{c n:Nat}(h:At w B g tb fq fo gb fb e P0 v0 v1 rb N d)(hd:d≤100)(hN:N≤N1)(hN1:N1≤20000)(hc:S.cnts l N1 (d+1)=(0,N2))(hn:l.length=n)
 (HI:∀y∈l,Df B g tb fq fo gb fb P0 v0 v1 rb y)(hl:FK w B l a c):Calls Try.prog 31 #[P g, .slice a n c] w (zN B g tb fq fo w (Ck.shut (Ck.stats P0 rb l e.open))):=by
 rw [←hn]
 exact uK w B g tb fq fo gb fb P0 v0 v1 rb l a c HI e N1 (d+1) (h.on (Below.refl _ _) h.sc hN1 (by have:=h.d0;omega) (by omega) (by have:=h.sl;omega) (by have:=h.lv;omega) h.l1 (by have:=h.lo;omega)) (by have:=h.lv;omega) hl (by rw [hc])
theorem Ns{w:World}{B g tb fq fo gb fb:Nat}{e:Ck.Env}{P0:Pg}{v0 v1:Value}{rb:Int}{N N1 N2:Nat}{d:Int}{l:List S}{a:Option Addr}{c n:Nat}(h:At w B g tb fq fo gb fb e P0 v0 v1 rb N d)(hd:d≤100)(hN:N≤N1)(hN1:N1≤20000)(hc:S.cnts l N1 (d+1)=(0,N2))(hn:l.length=n)
 (HI:∀y∈l,Df B g tb fq fo gb fb P0 v0 v1 rb y)(hl:FK w B l a c):Calls Try.prog 77 #[P g, .slice a n c] w (zN B g tb fq fo w (Ck.less (Ck.shut (Ck.stats P0 rb l (Ck.more e).open)))):=by
 rw [←hn]
 exact QN w B g tb fq fo gb fb P0 v0 v1 rb l a c HI e N1 (d+1) (h.on (Below.refl _ _) h.sc hN1 (by have:=h.d0;omega) (by omega) (by have:=h.sl;omega) (by have:=h.lv;omega) h.l1 (by have:=h.lo;omega)) (by have:=h.lv;omega) (by have:=h.lo;omega) hl (by rw [hc])
theorem At.keep{w w':World}{B g tb fq fo gb fb:Nat}{e:Ck.Env}{P0:Pg}{v0 v1:Value}{rb:Int}{N N':Nat}{d:Int}(h:At w B g tb fq fo gb fb e P0 v0 v1 rb N d)(hb:Below w.heap.size w w')(hN:N≤N')(hN':N'≤20000):At w' B g tb fq fo gb fb e P0 v0 v1 rb N' d:=
 h.on (hb.mono h.tb.le) (h.sc.keep hb) hN' h.d0 h.d1 (by have:=h.sl;omega) h.lv h.l1 h.lo
theorem QX(w:World)(B g tb fq fo gb fb q off:Nat)(P0:Pg)(v0 v1:Value)(rb:Int)(b:Int)(s:Bool)(nm:ByteArray)(has:Bool)(x i:X)(l0 l1 l2 l3:List S)(hs:nm.size≤maxLen)(H2:∀y∈l2,Df B g tb fq fo gb fb P0 v0 v1 rb y)(e:Ck.Env)(N:Nat)(d:Int)(hA:At w B g tb fq fo gb fb e P0 v0 v1 rb N d)(hx:pF w B (.mk 11 b s nm has x i l0 l1 l2 l3) q off)(N1 N2 N3 N4 N5:Nat)(hcn:S.Cnt 11 b nm has x i l0 l1 l2 l3 N d N1 N2 N3 N4 N5):
 Calls Try.prog 51 #[P g, .pointer (some ⟨q,off,none⟩)] w (zN B g tb fq fo w (Ck.stat P0 rb (.mk 11 b s nm has x i l0 l1 l2 l3) e)):=by
 obtain⟨a0,z0,a1,z1,a2,z2,a3,z3,hxc⟩:=hx.parts
 obtain⟨n0,hn0⟩:∃n,n=l0.length:=⟨_,rfl⟩
 obtain⟨n1,hn1⟩:∃n,n=l1.length:=⟨_,rfl⟩
 obtain⟨n2,hn2⟩:∃n,n=l2.length:=⟨_,rfl⟩
 obtain⟨n3,hn3⟩:∃n,n=l3.length:=⟨_,rfl⟩
 rw [←hn0,←hn1,←hn2,←hn3]at hxc
 have HA:=Lib.hid hA
 have ig:Hid (∀w1,Below B w w1→SC w1 B 11 b s nm has x i l0 l1 l2 l3 a0 n0 z0 a1 n1 z1 a2 n2 z2 a3 n3 z3 q off):=fun w1 hb=>hxc.below hb
 have HXB:Hid (∀w1,Below B w w1→pF w1 B (.mk 11 b s nm has x i l0 l1 l2 l3) q off):=fun w1 hb=>hx.below hb
 have HN:=Lib.hid (And.intro hn0 (And.intro hn1 (And.intro hn2 hn3)))
 have sU:Hid (∀w1,Below w.heap.size w w1→Below B w w1):=fun w1 hb=>hb.mono hA.tb.le
 have c0:=hxc.c0
 have hlq:q<w.heap.size:=Nat.lt_of_lt_of_le hxc.lt hA.tb.le
 have HR2:=Lib.hid (uN hA hcn.dd (by have:=hcn.m1;have:=hcn.m2;have:=hcn.m3;have:=hcn.m4;omega) hcn.b4 (hcn.pR (.inr (.inr (.inr rfl)))) hn2.symm H2 hxc.s2.2)
 rw [show Ck.stat P0 rb (.mk 11 b s nm has x i l0 l1 l2 l3) e=Ck.shut (Ck.stats P0 rb l2 e.open)by rw [Ck.stat];rfl]
 obtain⟨R,hR⟩:∃R,R=Ck.shut (Ck.stats P0 rb l2 e.open):=⟨_,rfl⟩
 rw [←hR]at HR2⊢
 obtain⟨rc,re⟩:=R
 have v2:=hxc.v2
 clear hx hxc hA hn0 hn1 hn2 hn3 hs H2 hcn hR
 go_enter Try.func51,Try.ntmps51
 go_wp2_with(first|(go_at_call 31;refine HR2.out.mono ?_;rintro e5 w5⟨rfl,hb5,hs5⟩;have bD:=Lib.hid hb5;have Dq:=Lib.hid hs5;clear hb5 hs5))
 go_ret
 exact⟨rfl,bD.out,Dq.out⟩
theorem UW(w:World)(B g tb fq fo gb fb q off:Nat)(P0:Pg)(v0 v1:Value)(rb:Int)(b:Int)(s:Bool)(nm:ByteArray)(has:Bool)(x i:X)(l0 l1 l2 l3:List S)(hs:nm.size≤maxLen)(Nj:X.Wf x)(H2:∀y∈l2,Df B g tb fq fo gb fb P0 v0 v1 rb y)(e:Ck.Env)(N:Nat)(d:Int)(hA:At w B g tb fq fo gb fb e P0 v0 v1 rb N d)(hx:pF w B (.mk 6 b s nm has x i l0 l1 l2 l3) q off)(N1 N2 N3 N4 N5:Nat)(hcn:S.Cnt 6 b nm has x i l0 l1 l2 l3 N d N1 N2 N3 N4 N5):
 Calls Try.prog 51 #[P g, .pointer (some ⟨q,off,none⟩)] w (zN B g tb fq fo w (Ck.stat P0 rb (.mk 6 b s nm has x i l0 l1 l2 l3) e)):=by
 obtain⟨a0,z0,a1,z1,a2,z2,a3,z3,hxc⟩:=hx.parts
 obtain⟨n0,hn0⟩:∃n,n=l0.length:=⟨_,rfl⟩
 obtain⟨n1,hn1⟩:∃n,n=l1.length:=⟨_,rfl⟩
 obtain⟨n2,hn2⟩:∃n,n=l2.length:=⟨_,rfl⟩
 obtain⟨n3,hn3⟩:∃n,n=l3.length:=⟨_,rfl⟩
 rw [←hn0,←hn1,←hn2,←hn3]at hxc
 have HA:=Lib.hid hA
 have ig:Hid (∀w1,Below B w w1→SC w1 B 6 b s nm has x i l0 l1 l2 l3 a0 n0 z0 a1 n1 z1 a2 n2 z2 a3 n3 z3 q off):=fun w1 hb=>hxc.below hb
 have HXB:Hid (∀w1,Below B w w1→pF w1 B (.mk 6 b s nm has x i l0 l1 l2 l3) q off):=fun w1 hb=>hx.below hb
 have HN:=Lib.hid (And.intro hn0 (And.intro hn1 (And.intro hn2 hn3)))
 have sU:Hid (∀w1,Below w.heap.size w w1→Below B w w1):=fun w1 hb=>hb.mono hA.tb.le
 have c0:=hxc.c0
 have hlq:q<w.heap.size:=Nat.lt_of_lt_of_le hxc.lt hA.tb.le
 have vg:=Lib.hid (lu w B g tb fq fo gb fb q (off+5) e P0 v0 v1 x (hcn.sH rfl) Nj hA.cx hxc.x)
 obtain⟨T,hT⟩:∃T,T=(Ck.ty P0 e x).val:=⟨_,rfl⟩
 rw [←hT]at vg
 obtain⟨t0,t1,te⟩:=T
 obtain⟨R,hR⟩:∃R,R=Ck.stat P0 rb (.mk 6 b s nm has x i l0 l1 l2 l3) e:=⟨_,rfl⟩
 have hR2:R=Ck.on (te,e) fun e=>Ck.less (Ck.shut (Ck.stats P0 rb l2 (Ck.more e).open)):=by rw [hR,show Ck.stat P0 rb (.mk 6 b s nm has x i l0 l1 l2 l3) e=Ck.on (Ck.vals P0 x e) (fun e=>Ck.less (Ck.shut (Ck.stats P0 rb l2 (Ck.more e).open)))by rw [Ck.stat];rfl];unfold Ck.vals;rw [←hT]
 rw [←hR]
 have HR:=Lib.hid hR2
 have HM:Hid (N≤N4):=by have:=hcn.m1;have:=hcn.m2;have:=hcn.m3;have:=hcn.m4;show N≤N4;omega
 have jR:=Lib.hid hcn
 have Yd:=Lib.hid H2
 clear hT
 clear hx hxc hA hn0 hn1 hn2 hn3 hs Nj H2 hcn hR hR2
 by_cases he:te=0
 ·subst he
  have HR1:Hid (R=Ck.less (Ck.shut (Ck.stats P0 rb l2 (Ck.more e).open))):=HR.out
  go_enter Try.func51,Try.ntmps51
  go_upto_region 25 with(first|(go_at_call 76;refine vg.out.mono ?_;rintro e5 w5⟨b5,s5,rfl,_,hb5⟩;have bD:=Lib.hid hb5;clear hb5))
  generalize hw6:World.alloc _ _=w6
  have H6:Hid (Below w.heap.size w w6):=by subst hw6;exact Ext.alloc bD.out _
  have hx6:=ig.out w6 (sU.out _ H6.out)
  have c0:=hx6.c0;have v2:=hx6.v2
  have hlq:q<w6.heap.size:=Nat.lt_of_lt_of_le hlq H6.out.size
  have Va:=HA.out.keep H6.out HM.out jR.out.b4
  have OZ:=Lib.hid (Ns Va jR.out.dd (Nat.le_refl _) jR.out.b4 (jR.out.pR (.inr (.inl rfl))) HN.out.2.2.1.symm Yd.out hx6.s2.2)
  rw [←HR1.out]at OZ
  obtain⟨rc,re⟩:=R
  clear hw6 hx6 Va
  go_wp2_with(first|(go_at_call 77;refine OZ.out.mono ?_;rintro e7 w7⟨rfl,hb7,hs7⟩;have dD:=Lib.hid hb7;have lQ:=Lib.hid hs7;clear hb7 hs7))
  go_ret
  exact⟨rfl,⟨(sU.out _ H6.out).trans dD.out.1,(Kx.below H6.out).trans dD.out.2⟩,lQ.out⟩
 ·have HR1:Hid (R=(te,e)):=by show R=_;rw [HR.out];exact Ck.ni he
  have qe:(te !=0)=true:=by simpa using he
  clear he
  go_enter Try.func51,Try.ntmps51
  go_wp2_with(first|(go_at_call 76;refine vg.out.mono ?_;rintro e5 w5⟨b5,s5,rfl,_,hb5⟩;have bD:=Lib.hid hb5;clear hb5))
  go_ret
  exact⟨by rw [HR1.out];rfl,⟨sU.out _ (Ext.alloc bD.out _),Kx.below (Ext.alloc bD.out _)⟩,by rw [HR1.out];exact HA.out.sc.keep (Ext.alloc bD.out _)⟩
theorem UU(w:World)(B g tb fq fo gb fb q off:Nat)(P0:Pg)(v0 v1:Value)(rb:Int)(b:Int)(s:Bool)(nm:ByteArray)(has:Bool)(x i:X)(l0 l1 l2 l3:List S)(hs:nm.size≤maxLen)(Nj:X.Wf x)(H2:∀y∈l2,Df B g tb fq fo gb fb P0 v0 v1 rb y)(H3:∀y∈l3,Df B g tb fq fo gb fb P0 v0 v1 rb y)(e:Ck.Env)(N:Nat)(d:Int)(hA:At w B g tb fq fo gb fb e P0 v0 v1 rb N d)(hx:pF w B (.mk 5 b s nm has x i l0 l1 l2 l3) q off)(N1 N2 N3 N4 N5:Nat)(hcn:S.Cnt 5 b nm has x i l0 l1 l2 l3 N d N1 N2 N3 N4 N5):
 Calls Try.prog 51 #[P g, .pointer (some ⟨q,off,none⟩)] w (zN B g tb fq fo w (Ck.stat P0 rb (.mk 5 b s nm has x i l0 l1 l2 l3) e)):=by
 obtain⟨a0,z0,a1,z1,a2,z2,a3,z3,hxc⟩:=hx.parts
 obtain⟨n0,hn0⟩:∃n,n=l0.length:=⟨_,rfl⟩
 obtain⟨n1,hn1⟩:∃n,n=l1.length:=⟨_,rfl⟩
 obtain⟨n2,hn2⟩:∃n,n=l2.length:=⟨_,rfl⟩
 obtain⟨n3,hn3⟩:∃n,n=l3.length:=⟨_,rfl⟩
 rw [←hn0,←hn1,←hn2,←hn3]at hxc
 have HA:=Lib.hid hA
 have ig:Hid (∀w1,Below B w w1→SC w1 B 5 b s nm has x i l0 l1 l2 l3 a0 n0 z0 a1 n1 z1 a2 n2 z2 a3 n3 z3 q off):=fun w1 hb=>hxc.below hb
 have HXB:Hid (∀w1,Below B w w1→pF w1 B (.mk 5 b s nm has x i l0 l1 l2 l3) q off):=fun w1 hb=>hx.below hb
 have HN:=Lib.hid (And.intro hn0 (And.intro hn1 (And.intro hn2 hn3)))
 have sU:Hid (∀w1,Below w.heap.size w w1→Below B w w1):=fun w1 hb=>hb.mono hA.tb.le
 have c0:=hxc.c0
 have hlq:q<w.heap.size:=Nat.lt_of_lt_of_le hxc.lt hA.tb.le
 have vg:=Lib.hid (lu w B g tb fq fo gb fb q (off+5) e P0 v0 v1 x (hcn.sH rfl) Nj hA.cx hxc.x)
 obtain⟨T,hT⟩:∃T,T=(Ck.ty P0 e x).val:=⟨_,rfl⟩
 rw [←hT]at vg
 obtain⟨t0,t1,te⟩:=T
 obtain⟨R,hR⟩:∃R,R=Ck.stat P0 rb (.mk 5 b s nm has x i l0 l1 l2 l3) e:=⟨_,rfl⟩
 have hR2:R=Ck.on (te,e) fun e=>Ck.on (Ck.shut (Ck.stats P0 rb l2 e.open)) fun e=>Ck.shut (Ck.stats P0 rb l3 e.open):=by rw [hR,show Ck.stat P0 rb (.mk 5 b s nm has x i l0 l1 l2 l3) e=Ck.on (Ck.vals P0 x e) (fun e=>Ck.on (Ck.shut (Ck.stats P0 rb l2 e.open)) fun e=>Ck.shut (Ck.stats P0 rb l3 e.open))by rw [Ck.stat];rfl];unfold Ck.vals;rw [←hT]
 rw [←hR]
 have HR:=Lib.hid hR2
 have HM:Hid (N≤N4):=by have:=hcn.m1;have:=hcn.m2;have:=hcn.m3;have:=hcn.m4;show N≤N4;omega
 have jR:=Lib.hid hcn
 have Yd:=Lib.hid H2
 clear hT
 have HH3:=Lib.hid H3
 clear hx hxc hA hn0 hn1 hn2 hn3 hs Nj H2 hcn hR hR2 H3
 by_cases he:te=0
 ·subst he
  have HR1:Hid (R=Ck.on (Ck.shut (Ck.stats P0 rb l2 e.open)) fun e=>Ck.shut (Ck.stats P0 rb l3 e.open)):=HR.out
  go_enter Try.func51,Try.ntmps51
  go_upto_region 25 with(first|(go_at_call 76;refine vg.out.mono ?_;rintro e5 w5⟨b5,s5,rfl,_,hb5⟩;have bD:=Lib.hid hb5;clear hb5))
  generalize hw6:World.alloc _ _=w6
  have H6:Hid (Below w.heap.size w w6):=by subst hw6;exact Ext.alloc bD.out _
  have hx6:=ig.out w6 (sU.out _ H6.out)
  have c0:=hx6.c0;have v2:=hx6.v2
  have hlq:q<w6.heap.size:=Nat.lt_of_lt_of_le hlq H6.out.size
  have Va:=HA.out.keep H6.out HM.out jR.out.b4
  have OZ:=Lib.hid (uN Va jR.out.dd (Nat.le_refl _) jR.out.b4 (jR.out.pR (.inl rfl)) HN.out.2.2.1.symm Yd.out hx6.s2.2)
  have HA6:=Lib.hid Va
  obtain⟨R1,hR1⟩:∃R1,R1=Ck.shut (Ck.stats P0 rb l2 e.open):=⟨_,rfl⟩
  have HAN:Hid (∀w',Below B w6 w'→kF w' B g tb fq fo R1.2→At w' B g tb fq fo gb fb R1.2 P0 v0 v1 rb N5 d):=fun w' h1 h2=>by rw [hR1]at h2⊢;exact Va.shut jR.out.dd (Nat.le_refl _) (jR.out.pR (.inl rfl)) jR.out.b5 h1 h2
  rw [←hR1]at OZ HR1
  clear hw6 hx6 Va hR1
  obtain⟨VF,YD⟩:=R1
  by_cases h1:VF=0
  ·subst h1
   have HR3:Hid (R=Ck.shut (Ck.stats P0 rb l3 YD.open)):=HR1.out
   go_upto_region 30 with(first|(go_at_call 31;refine OZ.out.mono ?_;rintro e7 w7⟨rfl,hb7,hs7⟩;have dD:=Lib.hid hb7;have lQ:=Lib.hid hs7;clear hb7 hs7))
   have N9:Hid (Below B w w7):=(sU.out _ H6.out).trans dD.out.1
   have hx7:=ig.out w7 N9.out
   have v3:=hx7.v3
   have c0:=hx7.c0
   have hlq:q<w7.heap.size:=Nat.lt_of_lt_of_le hlq dD.out.1.size
   have YE:=Lib.hid (uN (N2:=(S.cnts l3 N5 (d+1)).2) (HAN.out w7 dD.out.1 lQ.out) jR.out.dd (Nat.le_refl _) jR.out.b5 (S.nJ (jR.out.c6 rfl)) HN.out.2.2.2.symm HH3.out hx7.s3.2)
   rw [←HR3.out]at YE
   obtain⟨rc,re⟩:=R
   clear hx7 v2
   go_wp2_with(first|(go_at_call 31;refine YE.out.mono ?_;rintro e8 w8⟨rfl,hb8,hs8⟩;have nU:=Lib.hid hb8;have WT:=Lib.hid hs8;clear hb8 hs8))
   go_ret
   exact⟨rfl,⟨N9.out.trans nU.out.1,((Kx.below H6.out).trans dD.out.2).trans nU.out.2⟩,WT.out⟩
  ·have HR3:Hid (R=(VF,YD)):=by show R=_;rw [HR1.out];exact Ck.ni h1
   have q1:(VF !=0)=true:=by simpa using h1
   clear h1
   go_wp2_with(first|(go_at_call 31;refine OZ.out.mono ?_;rintro e7 w7⟨rfl,hb7,hs7⟩;have dD:=Lib.hid hb7;have lQ:=Lib.hid hs7;clear hb7 hs7))
   go_ret
   exact⟨by rw [HR3.out];rfl,⟨(sU.out _ H6.out).trans dD.out.1,(Kx.below H6.out).trans dD.out.2⟩,by rw [HR3.out];exact lQ.out⟩
 ·have HR1:Hid (R=(te,e)):=by show R=_;rw [HR.out];exact Ck.ni he
  have qe:(te !=0)=true:=by simpa using he
  clear he
  go_enter Try.func51,Try.ntmps51
  go_wp2_with(first|(go_at_call 76;refine vg.out.mono ?_;rintro e5 w5⟨b5,s5,rfl,_,hb5⟩;have bD:=Lib.hid hb5;clear hb5))
  go_ret
  exact⟨by rw [HR1.out];rfl,⟨sU.out _ (Ext.alloc bD.out _),Kx.below (Ext.alloc bD.out _)⟩,by rw [HR1.out];exact HA.out.sc.keep (Ext.alloc bD.out _)⟩
end Go.Proofs.Ythdckndjggljpaa
