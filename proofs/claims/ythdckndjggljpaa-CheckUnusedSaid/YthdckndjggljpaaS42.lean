/- Proofs of this claim, part 42. No condition. -/
import Derived.Test.YthdckndjggljpaaS41
namespace Go.Proofs.Ythdckndjggljpaa
set_option linter.unusedVariables false
set_option linter.unusedSimpArgs false
set_option maxRecDepth 100000
set_option maxHeartbeats 64000000
open Go.RowKit Go.Maps
theorem UY(w:World)(B g tb fq fo gb fb q off:Nat)(P0:Pg)(v0 v1:Value)(rb:Int)(b:Int)(s:Bool)(nm:ByteArray)(has:Bool)(x i:X)(l0 l1 l2 l3:List S)(hs:nm.size≤maxLen)(Nj:has=true→X.Wf x)(H0:∀y∈l0,Df B g tb fq fo gb fb P0 v0 v1 rb y)(H1:∀y∈l1,Df B g tb fq fo gb fb P0 v0 v1 rb y)(H2:∀y∈l2,Df B g tb fq fo gb fb P0 v0 v1 rb y)(e:Ck.Env)(N:Nat)(d:Int)(hA:At w B g tb fq fo gb fb e P0 v0 v1 rb N d)(hx:pF w B (.mk 7 b s nm has x i l0 l1 l2 l3) q off)(N1 N2 N3 N4 N5:Nat)(hcn:S.Cnt 7 b nm has x i l0 l1 l2 l3 N d N1 N2 N3 N4 N5):
 Calls Try.prog 51 #[P g, .pointer (some ⟨q,off,none⟩)] w (zN B g tb fq fo w (Ck.stat P0 rb (.mk 7 b s nm has x i l0 l1 l2 l3) e)):=by
 obtain⟨a0,z0,a1,z1,a2,z2,a3,z3,hxc⟩:=hx.parts
 obtain⟨n0,hn0⟩:∃n,n=l0.length:=⟨_,rfl⟩
 obtain⟨n1,hn1⟩:∃n,n=l1.length:=⟨_,rfl⟩
 obtain⟨n2,hn2⟩:∃n,n=l2.length:=⟨_,rfl⟩
 obtain⟨n3,hn3⟩:∃n,n=l3.length:=⟨_,rfl⟩
 rw [←hn0,←hn1,←hn2,←hn3]at hxc
 have HA:=Lib.hid hA
 have ig:Hid (∀w1,Below B w w1→SC w1 B 7 b s nm has x i l0 l1 l2 l3 a0 n0 z0 a1 n1 z1 a2 n2 z2 a3 n3 z3 q off):=fun w1 hb=>hxc.below hb
 have HXB:Hid (∀w1,Below B w w1→pF w1 B (.mk 7 b s nm has x i l0 l1 l2 l3) q off):=fun w1 hb=>hx.below hb
 have HN:=Lib.hid (And.intro hn0 (And.intro hn1 (And.intro hn2 hn3)))
 have sU:Hid (∀w1,Below w.heap.size w w1→Below B w w1):=fun w1 hb=>hb.mono hA.tb.le
 have c0:=hxc.c0
 have hlq:q<w.heap.size:=Nat.lt_of_lt_of_le hxc.lt hA.tb.le
 obtain⟨R,hR⟩:∃R,R=Ck.stat P0 rb (.mk 7 b s nm has x i l0 l1 l2 l3) e:=⟨_,rfl⟩
 have hR2:R=Ck.on (Ck.shut (Ck.stats P0 rb l0 e.open)) fun e=>Ck.on (Ck.may P0 has x e) fun e=>Ck.on (Ck.shut (Ck.stats P0 rb l1 e.open)) fun e=>Ck.less (Ck.shut (Ck.stats P0 rb l2 (Ck.more e).open)):=by rw [hR,Ck.stat];rfl
 rw [←hR]
 have HM:Hid (N≤N1):=by have:=hcn.m1;show N≤N1;omega
 have jR:=Lib.hid hcn
 have HH1:=Lib.hid H1
 have Yd:=Lib.hid H2
 have Ih:=Lib.hid Nj
 have hA1:=hA.keep (Below.refl _ _) HM.out hcn.b1
 have Wp:=Lib.hid (uN hA1 hcn.dd (Nat.le_refl _) hcn.b1 (hcn.yH rfl) hn0.symm H0 hxc.s0.2)
 obtain⟨R0,hR0⟩:∃R0,R0=Ck.shut (Ck.stats P0 rb l0 e.open):=⟨_,rfl⟩
 have ab1:Hid (∀w',Below B w w'→kF w' B g tb fq fo R0.2→At w' B g tb fq fo gb fb R0.2 P0 v0 v1 rb N2 d):=fun w' h1 h2=>by rw [hR0]at h2⊢;exact hA1.shut hcn.dd (Nat.le_refl _) (hcn.yH rfl) hcn.b2 h1 h2
 rw [←hR0]at Wp hR2
 have HR:=Lib.hid hR2
 obtain⟨r0c,OG⟩:=R0
 have v0':=hxc.v0
 clear hx hxc hA hn0 hn1 hn2 hn3 hs Nj H0 H1 H2 hcn hR hR2 hA1 hR0
 by_cases h0:r0c=0
 ·subst h0
  have HR1:Hid (R=Ck.on (Ck.may P0 has x OG) fun e=>Ck.on (Ck.shut (Ck.stats P0 rb l1 e.open)) fun e=>Ck.less (Ck.shut (Ck.stats P0 rb l2 (Ck.more e).open))):=HR.out
  go_enter Try.func51,Try.ntmps51
  go_upto_region 37 with(first|(go_at_call 31;refine Wp.out.mono ?_;rintro e5 w5⟨rfl,hb5,hs5⟩;have bD:=Lib.hid hb5;have Dq:=Lib.hid hs5;clear hb5 hs5))
  have hx5:=ig.out w5 bD.out.1
  have c4:=hx5.c4
  have ab3:q<w5.heap.size:=Nat.lt_of_lt_of_le hlq bD.out.1.size
  have Y7:=ab1.out w5 bD.out.1 Dq.out
  have HSH:Hid (has=true→X.gK x∧X.Wf x):=fun hh=>⟨jR.out.sH (by unfold S.looks;rw [hh];rfl),Ih.out hh⟩
  have Hl:=Lib.hid Y7.tb.le
  have HA5:=Lib.hid Y7
  obtain⟨M,hM⟩:∃M,M=(Ck.may P0 has x OG).1:=⟨_,rfl⟩
  have Dc:Hid (∀w1:World,Below w5.heap.size w5 w1→Calls Try.prog 73 #[P g, .bool has, .pointer (some ⟨q,off+5,none⟩)] w1 (Wx w1 M)):=fun w1 hb=>by rw [hM];exact rD w1 B g tb fq fo gb fb q (off+5) OG P0 v0 v1 has x HSH.out (Y7.cx.keep hb) (hx5.below (hb.mono Y7.tb.le)).x
  have hme:=Ck.dh P0 has x OG
  have HR2:Hid (R=Ck.on (M,OG) fun e=>Ck.on (Ck.shut (Ck.stats P0 rb l1 e.open)) fun e=>Ck.less (Ck.shut (Ck.stats P0 rb l2 (Ck.more e).open))):=by
   show R=_
   rw [HR1.out,show Ck.may P0 has x OG=(M,OG)by rw [Prod.ext_iff];exact⟨hM.symm,hme⟩]
  clear hx5 Y7 hM hme v0' c0
  refine Rg.wp_region [] (by kernel_rfl) (by kernel_rfl) ?_
  repeat(first|(refine Rg.cO ?_)|(refine Rg.bJ rfl ?_;simp only [Act.put,List.setIfInBounds_toArray,List.set_cons_zero,List.set_cons_succ])|(refine Rg.fP rfl rfl (fun K hK=>?_);go_big_quiet_op;refine hK _ ?_;clear hK K)|(refine Rg.fQ rfl rfl (fun K hK=>?_);go_wp2_with(first|fail|(go_at_call 73;(first|(refine(Dc.out _ (Below.refl _ _)).mono ?_)|(refine(Dc.out _ (Below.refl _ _).drew).mono ?_));rintro e6 w6⟨rfl,hb6⟩;(first|have iK:=Lib.hid (Ext.trans (Below.refl w5.heap.size w5) hb6)|have iK:=Lib.hid (Ext.trans (Below.refl w5.heap.size w5).drew hb6));clear hb6))))
  by_cases hm:M=0
  ·subst hm
   have HR3:Hid (R=Ck.on (Ck.shut (Ck.stats P0 rb l1 (Ck.Env.open OG))) fun e=>Ck.less (Ck.shut (Ck.stats P0 rb l2 (Ck.more e).open))):=HR2.out
   go_upto_region 40 with(fail)
   have Wq:Hid (Below B w w6):=bD.out.1.trans (iK.out.mono Hl.out)
   have hx6:=ig.out w6 Wq.out
   have v1':=hx6.v1
   have ab4:q<w6.heap.size:=Nat.lt_of_lt_of_le ab3 iK.out.size
   have HA6:=Lib.hid (HA5.out.keep iK.out jR.out.m3 jR.out.b3)
   have Ws:=Lib.hid (uN HA6.out jR.out.dd (Nat.le_refl _) jR.out.b3 (jR.out.yI rfl) HN.out.2.1.symm HH1.out hx6.s1.2)
   obtain⟨R1,hR1⟩:∃R1,R1=Ck.shut (Ck.stats P0 rb l1 OG.open):=⟨_,rfl⟩
   have ab5:Hid (∀w',Below B w6 w'→kF w' B g tb fq fo R1.2→At w' B g tb fq fo gb fb R1.2 P0 v0 v1 rb N4 d):=fun w' h1 h2=>by rw [hR1]at h2⊢;exact HA6.out.shut jR.out.dd (Nat.le_refl _) (jR.out.yI rfl) jR.out.b4 h1 h2
   rw [←hR1]at Ws HR3
   obtain⟨VF,YD⟩:=R1
   clear hx6 hR1 c4
   by_cases h1:VF=0
   ·subst h1
    have HR4:Hid (R=Ck.less (Ck.shut (Ck.stats P0 rb l2 (Ck.more YD).open))):=HR3.out
    go_upto_region 43 with(first|(go_at_call 31;refine Ws.out.mono ?_;rintro e7 w7⟨rfl,hb7,hs7⟩;have dD:=Lib.hid hb7;have lQ:=Lib.hid hs7;clear hb7 hs7))
    have N9:Hid (Below B w w7):=Wq.out.trans dD.out.1
    have hx7:=ig.out w7 N9.out
    have v2':=hx7.v2
    have ae2:q<w7.heap.size:=Nat.lt_of_lt_of_le ab4 dD.out.1.size
    have Y8:=Lib.hid (Ns (ab5.out w7 dD.out.1 lQ.out) jR.out.dd (Nat.le_refl _) jR.out.b4 (jR.out.pR (.inr (.inr (.inl rfl)))) HN.out.2.2.1.symm Yd.out hx7.s2.2)
    rw [←HR4.out]at Y8
    obtain⟨rc,re⟩:=R
    clear hx7 v1'
    go_wp2_with(first|(go_at_call 77;refine Y8.out.mono ?_;rintro e8 w8⟨rfl,hb8,hs8⟩;have nU:=Lib.hid hb8;have WT:=Lib.hid hs8;clear hb8 hs8))
    go_ret
    exact⟨rfl,⟨N9.out.trans nU.out.1,((bD.out.2.trans (Kx.below iK.out)).trans dD.out.2).trans nU.out.2⟩,WT.out⟩
   ·have HR4:Hid (R=(VF,YD)):=by show R=_;rw [HR3.out];exact Ck.ni h1
    have q1:(VF !=0)=true:=by simpa using h1
    clear h1
    go_wp2_with(first|(go_at_call 31;refine Ws.out.mono ?_;rintro e7 w7⟨rfl,hb7,hs7⟩;have dD:=Lib.hid hb7;have lQ:=Lib.hid hs7;clear hb7 hs7))
    go_ret
    exact⟨by rw [HR4.out];rfl,⟨Wq.out.trans dD.out.1,(bD.out.2.trans (Kx.below iK.out)).trans dD.out.2⟩,by rw [HR4.out];exact lQ.out⟩
  ·have HR3:Hid (R=(M,OG)):=by show R=_;rw [HR2.out];exact Ck.ni hm
   have q1:(M !=0)=true:=by simpa using hm
   clear hm
   go_wp2
   go_ret
   exact⟨by rw [HR3.out];rfl,⟨bD.out.1.trans (iK.out.mono Hl.out),bD.out.2.trans (Kx.below iK.out)⟩,by rw [HR3.out];exact Dq.out.keep iK.out⟩
 ·have HR1:Hid (R=(r0c,OG)):=by show R=_;rw [HR.out];exact Ck.ni h0
  have q1:(r0c !=0)=true:=by simpa using h0
  clear h0
  go_enter Try.func51,Try.ntmps51
  go_wp2_with(first|(go_at_call 31;refine Wp.out.mono ?_;rintro e5 w5⟨rfl,hb5,hs5⟩;have bD:=Lib.hid hb5;have Dq:=Lib.hid hs5;clear hb5 hs5))
  go_ret
  exact⟨by rw [HR1.out];rfl,bD.out,by rw [HR1.out];exact Dq.out⟩
end Go.Proofs.Ythdckndjggljpaa
