/- Proofs of this claim, part 40. No condition. -/
import Derived.Test.YthdckndjggljpaaS39
namespace Go.Proofs.Ythdckndjggljpaa
set_option linter.unusedVariables false
set_option linter.unusedSimpArgs false
set_option maxRecDepth 100000
set_option maxHeartbeats 64000000
open Go.RowKit Go.Maps
theorem UM(w:World)(B g tb fq fo gb fb q off:Nat)(P0:Pg)(v0 v1:Value)(rb:Int)(b:Int)(s:Bool)(nm:ByteArray)(has:Bool)(x i:X)(l0 l1 l2 l3:List S)(hs:nm.size≤maxLen)(e:Ck.Env)(N:Nat)(d:Int)(hA:At w B g tb fq fo gb fb e P0 v0 v1 rb N d)(hx:pF w B (.mk 1 b s nm has x i l0 l1 l2 l3) q off):
 Calls Try.prog 51 #[P g, .pointer (some ⟨q,off,none⟩)] w (zN B g tb fq fo w (Ck.stat P0 rb (.mk 1 b s nm has x i l0 l1 l2 l3) e)):=by
 obtain⟨a0,z0,a1,z1,a2,z2,a3,z3,hxc⟩:=hx.parts
 obtain⟨n0,hn0⟩:∃n,n=l0.length:=⟨_,rfl⟩
 obtain⟨n1,hn1⟩:∃n,n=l1.length:=⟨_,rfl⟩
 obtain⟨n2,hn2⟩:∃n,n=l2.length:=⟨_,rfl⟩
 obtain⟨n3,hn3⟩:∃n,n=l3.length:=⟨_,rfl⟩
 rw [←hn0,←hn1,←hn2,←hn3]at hxc
 have HA:=Lib.hid hA
 have ig:Hid (∀w1,Below B w w1→SC w1 B 1 b s nm has x i l0 l1 l2 l3 a0 n0 z0 a1 n1 z1 a2 n2 z2 a3 n3 z3 q off):=fun w1 hb=>hxc.below hb
 have HXB:Hid (∀w1,Below B w w1→pF w1 B (.mk 1 b s nm has x i l0 l1 l2 l3) q off):=fun w1 hb=>hx.below hb
 have HN:=Lib.hid (And.intro hn0 (And.intro hn1 (And.intro hn2 hn3)))
 have sU:Hid (∀w1,Below w.heap.size w w1→Below B w w1):=fun w1 hb=>hb.mono hA.tb.le
 have c0:=hxc.c0
 have hlq:q<w.heap.size:=Nat.lt_of_lt_of_le hxc.lt hA.tb.le
 rw [show Ck.stat P0 rb (.mk 1 b s nm has x i l0 l1 l2 l3) e=(0,e)by rw [Ck.stat];rfl]
 clear hx hxc hA hn0 hn1 hn2 hn3 hs
 go_enter Try.func51,Try.ntmps51
 go_wp2
 go_ret
 exact⟨rfl,⟨Below.refl _ _,Kx.refl _⟩,HA.out.sc⟩
theorem Ji(P0:Pg)(rb:Int)(b:Int)(s:Bool)(nm:ByteArray)(has:Bool)(x i:X)(l0 l1 l2 l3:List S)(e:Ck.Env):(Ck.stat P0 rb (.mk 3 b s nm has x i l0 l1 l2 l3) e).2=e:=by
 rw [Ck.stat,if_neg (by decide),if_pos rfl]
 unfold Ck.on
 split
 ·rw [Ck.dh]
  try dsimp only
  split
  ·rfl
  ·split
   ·rfl
   ·rfl
 ·exact Ck.dh P0 has i e
theorem UO(w:World)(B g tb fq fo gb fb q off:Nat)(P0:Pg)(v0 v1:Value)(rb:Int)(b:Int)(s:Bool)(nm:ByteArray)(has:Bool)(x i:X)(l0 l1 l2 l3:List S)(hs:nm.size≤maxLen)(hI:has=true→X.gK i∧X.Wf i)(JK:X.gK x∧X.Wf x)(e:Ck.Env)(N:Nat)(d:Int)(hA:At w B g tb fq fo gb fb e P0 v0 v1 rb N d)(hx:pF w B (.mk 3 b s nm has x i l0 l1 l2 l3) q off):
 Calls Try.prog 51 #[P g, .pointer (some ⟨q,off,none⟩)] w (zN B g tb fq fo w (Ck.stat P0 rb (.mk 3 b s nm has x i l0 l1 l2 l3) e)):=by
 obtain⟨a0,z0,a1,z1,a2,z2,a3,z3,hxc⟩:=hx.parts
 obtain⟨n0,hn0⟩:∃n,n=l0.length:=⟨_,rfl⟩
 obtain⟨n1,hn1⟩:∃n,n=l1.length:=⟨_,rfl⟩
 obtain⟨n2,hn2⟩:∃n,n=l2.length:=⟨_,rfl⟩
 obtain⟨n3,hn3⟩:∃n,n=l3.length:=⟨_,rfl⟩
 rw [←hn0,←hn1,←hn2,←hn3]at hxc
 have HA:=Lib.hid hA
 have ig:Hid (∀w1,Below B w w1→SC w1 B 3 b s nm has x i l0 l1 l2 l3 a0 n0 z0 a1 n1 z1 a2 n2 z2 a3 n3 z3 q off):=fun w1 hb=>hxc.below hb
 have HXB:Hid (∀w1,Below B w w1→pF w1 B (.mk 3 b s nm has x i l0 l1 l2 l3) q off):=fun w1 hb=>hx.below hb
 have HN:=Lib.hid (And.intro hn0 (And.intro hn1 (And.intro hn2 hn3)))
 have sU:Hid (∀w1,Below w.heap.size w w1→Below B w w1):=fun w1 hb=>hb.mono hA.tb.le
 have c0:=hxc.c0
 have hlq:q<w.heap.size:=Nat.lt_of_lt_of_le hxc.lt hA.tb.le
 have hst:=Ud w B g tb fq fo gb fb q off e P0 v0 v1 b s nm has x i l0 l1 l2 l3 hs hI JK hA.cx hx rb
 have he:=Ji P0 rb b s nm has x i l0 l1 l2 l3 e
 obtain⟨R,hR⟩:∃R,R=Ck.stat P0 rb (.mk 3 b s nm has x i l0 l1 l2 l3) e:=⟨_,rfl⟩
 rw [←hR]at hst he⊢
 obtain⟨rc,re⟩:=R
 obtain rfl:re=e:=he
 have HST:=Lib.hid hst
 clear hx hxc hA hn0 hn1 hn2 hn3 hs hI JK hst hR
 go_enter Try.func51,Try.ntmps51
 go_wp2_with(first|(go_at_call 74;refine HST.out.mono ?_;rintro e5 w5⟨rfl,hb5⟩;have bD:=Lib.hid hb5;clear hb5))
 go_ret
 exact⟨rfl,⟨sU.out _ bD.out,Kx.below bD.out⟩,HA.out.sc.keep bD.out⟩
theorem UR(w:World)(B g tb fq fo gb fb q off:Nat)(P0:Pg)(v0 v1:Value)(rb:Int)(b:Int)(s:Bool)(nm:ByteArray)(has:Bool)(x i:X)(l0 l1 l2 l3:List S)(hs:nm.size≤maxLen)(JK:X.gK x∧X.Wf x)(e:Ck.Env)(N:Nat)(d:Int)(hA:At w B g tb fq fo gb fb e P0 v0 v1 rb N d)(hx:pF w B (.mk 4 b s nm has x i l0 l1 l2 l3) q off):
 Calls Try.prog 51 #[P g, .pointer (some ⟨q,off,none⟩)] w (zN B g tb fq fo w (Ck.stat P0 rb (.mk 4 b s nm has x i l0 l1 l2 l3) e)):=by
 obtain⟨a0,z0,a1,z1,a2,z2,a3,z3,hxc⟩:=hx.parts
 obtain⟨n0,hn0⟩:∃n,n=l0.length:=⟨_,rfl⟩
 obtain⟨n1,hn1⟩:∃n,n=l1.length:=⟨_,rfl⟩
 obtain⟨n2,hn2⟩:∃n,n=l2.length:=⟨_,rfl⟩
 obtain⟨n3,hn3⟩:∃n,n=l3.length:=⟨_,rfl⟩
 rw [←hn0,←hn1,←hn2,←hn3]at hxc
 have HA:=Lib.hid hA
 have ig:Hid (∀w1,Below B w w1→SC w1 B 4 b s nm has x i l0 l1 l2 l3 a0 n0 z0 a1 n1 z1 a2 n2 z2 a3 n3 z3 q off):=fun w1 hb=>hxc.below hb
 have HXB:Hid (∀w1,Below B w w1→pF w1 B (.mk 4 b s nm has x i l0 l1 l2 l3) q off):=fun w1 hb=>hx.below hb
 have HN:=Lib.hid (And.intro hn0 (And.intro hn1 (And.intro hn2 hn3)))
 have sU:Hid (∀w1,Below w.heap.size w w1→Below B w w1):=fun w1 hb=>hb.mono hA.tb.le
 have c0:=hxc.c0
 have hlq:q<w.heap.size:=Nat.lt_of_lt_of_le hxc.lt hA.tb.le
 have hty:=G7 B g tb fq fo gb fb e P0 v0 v1 x JK.1 JK.2 w q (off+5) hA.cx hxc.x
 rw [show Ck.stat P0 rb (.mk 4 b s nm has x i l0 l1 l2 l3) e=((Ck.ty P0 e x).e,e)by rw [Ck.stat];rfl]
 obtain⟨T,hT⟩:∃T,T=Ck.ty P0 e x:=⟨_,rfl⟩
 rw [←hT]at hty⊢
 obtain⟨t0,t1,te⟩:=T
 have Yy:=Lib.hid hty
 clear hx hxc hA hn0 hn1 hn2 hn3 hs JK hty hT
 go_enter Try.func51,Try.ntmps51
 go_wp2_with(first|(go_at_call 75;refine Yy.out.mono ?_;rintro e5 w5⟨b5,s5,rfl,_,hb5⟩;have bD:=Lib.hid hb5;clear hb5))
 go_ret
 exact⟨rfl,⟨sU.out _ (Ext.alloc bD.out _),Kx.below (Ext.alloc bD.out _)⟩,HA.out.sc.keep (Ext.alloc bD.out _)⟩
theorem UZ(w:World)(B g tb fq fo gb fb q off:Nat)(P0:Pg)(v0 v1:Value)(rb:Int)(b:Int)(s:Bool)(nm:ByteArray)(has:Bool)(x i:X)(l0 l1 l2 l3:List S)(hs:nm.size≤maxLen)(e:Ck.Env)(N:Nat)(d:Int)(hA:At w B g tb fq fo gb fb e P0 v0 v1 rb N d)(hx:pF w B (.mk 9 b s nm has x i l0 l1 l2 l3) q off):
 Calls Try.prog 51 #[P g, .pointer (some ⟨q,off,none⟩)] w (zN B g tb fq fo w (Ck.stat P0 rb (.mk 9 b s nm has x i l0 l1 l2 l3) e)):=by
 obtain⟨a0,z0,a1,z1,a2,z2,a3,z3,hxc⟩:=hx.parts
 obtain⟨n0,hn0⟩:∃n,n=l0.length:=⟨_,rfl⟩
 obtain⟨n1,hn1⟩:∃n,n=l1.length:=⟨_,rfl⟩
 obtain⟨n2,hn2⟩:∃n,n=l2.length:=⟨_,rfl⟩
 obtain⟨n3,hn3⟩:∃n,n=l3.length:=⟨_,rfl⟩
 rw [←hn0,←hn1,←hn2,←hn3]at hxc
 have HA:=Lib.hid hA
 have ig:Hid (∀w1,Below B w w1→SC w1 B 9 b s nm has x i l0 l1 l2 l3 a0 n0 z0 a1 n1 z1 a2 n2 z2 a3 n3 z3 q off):=fun w1 hb=>hxc.below hb
 have HXB:Hid (∀w1,Below B w w1→pF w1 B (.mk 9 b s nm has x i l0 l1 l2 l3) q off):=fun w1 hb=>hx.below hb
 have HN:=Lib.hid (And.intro hn0 (And.intro hn1 (And.intro hn2 hn3)))
 have sU:Hid (∀w1,Below w.heap.size w w1→Below B w w1):=fun w1 hb=>hb.mono hA.tb.le
 have c0:=hxc.c0
 have hlq:q<w.heap.size:=Nat.lt_of_lt_of_le hxc.lt hA.tb.le
 obtain⟨c4,z4,hgl⟩:=hA.sc.loops
 rw [show Ck.stat P0 rb (.mk 9 b s nm has x i l0 l1 l2 l3) e=(if e.loops=0 then 8 else 0,e)by rw [Ck.stat];rfl]
 obtain⟨m,hm⟩:∃m,m=e.loops:=⟨_,rfl⟩
 rw [←hm]at c4⊢
 clear hx hxc hA hn0 hn1 hn2 hn3 hs hm
 by_cases h0:m=0
 ·subst h0
  rw [if_pos rfl]
  go_enter Try.func51,Try.ntmps51
  go_wp2
  go_ret
  exact⟨rfl,⟨Below.refl _ _,Kx.refl _⟩,HA.out.sc⟩
 ·have qm:((m:Int)==0)=false:=by simp;omega
  rw [if_neg h0]
  clear h0
  go_enter Try.func51,Try.ntmps51
  go_wp2
  go_ret
  exact⟨rfl,⟨Below.refl _ _,Kx.refl _⟩,HA.out.sc⟩
theorem Qn(w:World)(B g tb fq fo gb fb q off:Nat)(P0:Pg)(v0 v1:Value)(rb:Int)(b:Int)(s:Bool)(nm:ByteArray)(has:Bool)(x i:X)(l0 l1 l2 l3:List S)(hs:nm.size≤maxLen)(e:Ck.Env)(N:Nat)(d:Int)(hA:At w B g tb fq fo gb fb e P0 v0 v1 rb N d)(hx:pF w B (.mk 10 b s nm has x i l0 l1 l2 l3) q off):
 Calls Try.prog 51 #[P g, .pointer (some ⟨q,off,none⟩)] w (zN B g tb fq fo w (Ck.stat P0 rb (.mk 10 b s nm has x i l0 l1 l2 l3) e)):=by
 obtain⟨a0,z0,a1,z1,a2,z2,a3,z3,hxc⟩:=hx.parts
 obtain⟨n0,hn0⟩:∃n,n=l0.length:=⟨_,rfl⟩
 obtain⟨n1,hn1⟩:∃n,n=l1.length:=⟨_,rfl⟩
 obtain⟨n2,hn2⟩:∃n,n=l2.length:=⟨_,rfl⟩
 obtain⟨n3,hn3⟩:∃n,n=l3.length:=⟨_,rfl⟩
 rw [←hn0,←hn1,←hn2,←hn3]at hxc
 have HA:=Lib.hid hA
 have ig:Hid (∀w1,Below B w w1→SC w1 B 10 b s nm has x i l0 l1 l2 l3 a0 n0 z0 a1 n1 z1 a2 n2 z2 a3 n3 z3 q off):=fun w1 hb=>hxc.below hb
 have HXB:Hid (∀w1,Below B w w1→pF w1 B (.mk 10 b s nm has x i l0 l1 l2 l3) q off):=fun w1 hb=>hx.below hb
 have HN:=Lib.hid (And.intro hn0 (And.intro hn1 (And.intro hn2 hn3)))
 have sU:Hid (∀w1,Below w.heap.size w w1→Below B w w1):=fun w1 hb=>hb.mono hA.tb.le
 have c0:=hxc.c0
 have hlq:q<w.heap.size:=Nat.lt_of_lt_of_le hxc.lt hA.tb.le
 obtain⟨c4,z4,hgl⟩:=hA.sc.loops
 rw [show Ck.stat P0 rb (.mk 10 b s nm has x i l0 l1 l2 l3) e=(if e.loops=0 then 8 else 0,e)by rw [Ck.stat];rfl]
 obtain⟨m,hm⟩:∃m,m=e.loops:=⟨_,rfl⟩
 rw [←hm]at c4⊢
 clear hx hxc hA hn0 hn1 hn2 hn3 hs hm
 by_cases h0:m=0
 ·subst h0
  rw [if_pos rfl]
  go_enter Try.func51,Try.ntmps51
  go_wp2
  go_ret
  exact⟨rfl,⟨Below.refl _ _,Kx.refl _⟩,HA.out.sc⟩
 ·have qm:((m:Int)==0)=false:=by simp;omega
  rw [if_neg h0]
  clear h0
  go_enter Try.func51,Try.ntmps51
  go_wp2
  go_ret
  exact⟨rfl,⟨Below.refl _ _,Kx.refl _⟩,HA.out.sc⟩
theorem TN(w:World)(B g tb fq fo gb fb q off:Nat)(P0:Pg)(v0 v1:Value)(rb:Int)(b:Int)(s:Bool)(nm:ByteArray)(has:Bool)(x i:X)(l0 l1 l2 l3:List S)(hs:nm.size≤maxLen)(JK:has=true→X.gK x∧X.Wf x)(e:Ck.Env)(N:Nat)(d:Int)(hA:At w B g tb fq fo gb fb e P0 v0 v1 rb N d)(hx:pF w B (.mk 8 b s nm has x i l0 l1 l2 l3) q off):
 Calls Try.prog 51 #[P g, .pointer (some ⟨q,off,none⟩)] w (zN B g tb fq fo w (Ck.stat P0 rb (.mk 8 b s nm has x i l0 l1 l2 l3) e)):=by
 obtain⟨a0,z0,a1,z1,a2,z2,a3,z3,hxc⟩:=hx.parts
 obtain⟨n0,hn0⟩:∃n,n=l0.length:=⟨_,rfl⟩
 obtain⟨n1,hn1⟩:∃n,n=l1.length:=⟨_,rfl⟩
 obtain⟨n2,hn2⟩:∃n,n=l2.length:=⟨_,rfl⟩
 obtain⟨n3,hn3⟩:∃n,n=l3.length:=⟨_,rfl⟩
 rw [←hn0,←hn1,←hn2,←hn3]at hxc
 have HA:=Lib.hid hA
 have ig:Hid (∀w1,Below B w w1→SC w1 B 8 b s nm has x i l0 l1 l2 l3 a0 n0 z0 a1 n1 z1 a2 n2 z2 a3 n3 z3 q off):=fun w1 hb=>hxc.below hb
 have HXB:Hid (∀w1,Below B w w1→pF w1 B (.mk 8 b s nm has x i l0 l1 l2 l3) q off):=fun w1 hb=>hx.below hb
 have HN:=Lib.hid (And.intro hn0 (And.intro hn1 (And.intro hn2 hn3)))
 have sU:Hid (∀w1,Below w.heap.size w w1→Below B w w1):=fun w1 hb=>hb.mono hA.tb.le
 have c0:=hxc.c0
 have hlq:q<w.heap.size:=Nat.lt_of_lt_of_le hxc.lt hA.tb.le
 obtain⟨R,hR⟩:∃R,R=Ck.stat P0 rb (.mk 8 b s nm has x i l0 l1 l2 l3) e:=⟨_,rfl⟩
 have hR2:R=if has !=(decide (0<rb))then(9,e)else Ck.may P0 has x e:=by rw [hR,Ck.stat];rfl
 rw [←hR]
 have HR:=Lib.hid hR2
 have c4:=hxc.c4
 have r1:=hA.fn.2
 have hfl:=Nat.lt_of_lt_of_le hA.fn.1 hA.tb.le
 have g5:w.cell? ⟨g,5,none⟩=some (.pointer (some ⟨fq,fo,none⟩)):=by obtain⟨_,_,_,_,_,_,h⟩:=hA.sc;exact h.blk.cell 5
 have hgl:=hA.sc.loops.2.2
 have Dc:Hid (∀w1:World,Below w.heap.size w w1→Calls Try.prog 73 #[P g, .bool has, .pointer (some ⟨q,off+5,none⟩)] w1 (Wx w1 (Ck.may P0 has x e).1)):=fun w1 hb=>rD w1 B g tb fq fo gb fb q (off+5) e P0 v0 v1 has x JK (hA.cx.keep hb) (hxc.below (hb.mono hA.tb.le)).x
 clear hx hxc hA hn0 hn1 hn2 hn3 hs JK hR hR2
 cases has with
 |false=>
  by_cases hr:0<rb
  ·skip
   have dr:decide (rb>0)=true:=by simpa using hr
   have HR2:Hid (R=(9,e)):=by show R=_;rw [HR.out,show decide (0<rb)=true from dr];rfl
   clear hr
   go_enter Try.func51,Try.ntmps51
   go_upto_region 15 with(fail)
   refine Rg.wp_region [] (by kernel_rfl) (by kernel_rfl) ?_
   repeat(first|(refine Rg.cO ?_)|(refine Rg.bJ rfl ?_;simp only [Act.put,List.setIfInBounds_toArray,List.set_cons_zero,List.set_cons_succ])|(refine Rg.fP rfl rfl (fun K hK=>?_);go_big_quiet_op;refine hK _ ?_;clear hK K)|(refine Rg.fQ rfl rfl (fun K hK=>?_);go_wp2_with(first|fail|fail)))
   go_wp2
   go_ret
   exact⟨by rw [HR2.out];rfl,⟨(Below.refl _ _).drew,Kx.refl _⟩,by rw [HR2.out];exact HA.out.sc.keep (Below.refl _ _).drew⟩
  ·skip
   have dr:decide (rb>0)=false:=by simpa using hr
   have HR2:Hid (R=((Ck.may P0 false x e).1,e)):=by show R=_;rw [HR.out,show decide (0<rb)=false from dr,Prod.ext_iff];exact⟨rfl,Ck.dh P0 false x e⟩
   clear hr
   go_enter Try.func51,Try.ntmps51
   go_upto_region 15 with(fail)
   refine Rg.wp_region [] (by kernel_rfl) (by kernel_rfl) ?_
   repeat(first|(refine Rg.cO ?_)|(refine Rg.bJ rfl ?_;simp only [Act.put,List.setIfInBounds_toArray,List.set_cons_zero,List.set_cons_succ])|(refine Rg.fP rfl rfl (fun K hK=>?_);go_big_quiet_op;refine hK _ ?_;clear hK K)|(refine Rg.fQ rfl rfl (fun K hK=>?_);go_wp2_with(first|fail|fail)))
   go_upto_region 17 with(fail)
   generalize hw2:World.drew w=w2
   have HB2:Hid (Below w.heap.size w w2):=by subst hw2;exact(Below.refl _ _).drew
   have c4:=(ig.out w2 (sU.out _ HB2.out)).c4
   have hlq:q<w2.heap.size:=Nat.lt_of_lt_of_le hlq HB2.out.size
   clear hw2 c0 r1 g5
   refine Rg.wp_region [] (by kernel_rfl) (by kernel_rfl) ?_
   repeat(first|(refine Rg.cO ?_)|(refine Rg.bJ rfl ?_;simp only [Act.put,List.setIfInBounds_toArray,List.set_cons_zero,List.set_cons_succ])|(refine Rg.fP rfl rfl (fun K hK=>?_);go_big_quiet_op;refine hK _ ?_;clear hK K)|(refine Rg.fQ rfl rfl (fun K hK=>?_);go_wp2_with(first|fail|(go_at_call 73;(first|(refine(Dc.out _ HB2.out).mono ?_)|(refine(Dc.out _ HB2.out.drew).mono ?_));rintro e5 w5⟨rfl,hb5⟩;(first|have bD:=Lib.hid (Ext.trans HB2.out hb5)|have bD:=Lib.hid (Ext.trans HB2.out.drew hb5));clear hb5))))
   go_wp2
   go_ret
   exact⟨by rw [HR2.out];rfl,⟨sU.out _ (by first|exact bD.out|exact bD.out.drew),Kx.below (by first|exact bD.out|exact bD.out.drew)⟩,by rw [HR2.out];first|exact HA.out.sc.keep bD.out|exact HA.out.sc.keep bD.out.drew⟩
 |true=>
  by_cases hr:0<rb
  ·skip
   have dr:decide (rb>0)=true:=by simpa using hr
   have HR2:Hid (R=((Ck.may P0 true x e).1,e)):=by show R=_;rw [HR.out,show decide (0<rb)=true from dr,Prod.ext_iff];exact⟨rfl,Ck.dh P0 true x e⟩
   clear hr
   go_enter Try.func51,Try.ntmps51
   go_upto_region 15 with(fail)
   refine Rg.wp_region [] (by kernel_rfl) (by kernel_rfl) ?_
   repeat(first|(refine Rg.cO ?_)|(refine Rg.bJ rfl ?_;simp only [Act.put,List.setIfInBounds_toArray,List.set_cons_zero,List.set_cons_succ])|(refine Rg.fP rfl rfl (fun K hK=>?_);go_big_quiet_op;refine hK _ ?_;clear hK K)|(refine Rg.fQ rfl rfl (fun K hK=>?_);go_wp2_with(first|fail|fail)))
   go_upto_region 17 with(fail)
   generalize hw2:World.drew w=w2
   have HB2:Hid (Below w.heap.size w w2):=by subst hw2;exact(Below.refl _ _).drew
   have c4:=(ig.out w2 (sU.out _ HB2.out)).c4
   have hlq:q<w2.heap.size:=Nat.lt_of_lt_of_le hlq HB2.out.size
   clear hw2 c0 r1 g5
   refine Rg.wp_region [] (by kernel_rfl) (by kernel_rfl) ?_
   repeat(first|(refine Rg.cO ?_)|(refine Rg.bJ rfl ?_;simp only [Act.put,List.setIfInBounds_toArray,List.set_cons_zero,List.set_cons_succ])|(refine Rg.fP rfl rfl (fun K hK=>?_);go_big_quiet_op;refine hK _ ?_;clear hK K)|(refine Rg.fQ rfl rfl (fun K hK=>?_);go_wp2_with(first|fail|(go_at_call 73;(first|(refine(Dc.out _ HB2.out).mono ?_)|(refine(Dc.out _ HB2.out.drew).mono ?_));rintro e5 w5⟨rfl,hb5⟩;(first|have bD:=Lib.hid (Ext.trans HB2.out hb5)|have bD:=Lib.hid (Ext.trans HB2.out.drew hb5));clear hb5))))
   go_wp2
   go_ret
   exact⟨by rw [HR2.out];rfl,⟨sU.out _ (by first|exact bD.out|exact bD.out.drew),Kx.below (by first|exact bD.out|exact bD.out.drew)⟩,by rw [HR2.out];first|exact HA.out.sc.keep bD.out|exact HA.out.sc.keep bD.out.drew⟩
  ·skip
   have dr:decide (rb>0)=false:=by simpa using hr
   have HR2:Hid (R=(9,e)):=by show R=_;rw [HR.out,show decide (0<rb)=false from dr];rfl
   clear hr
   go_enter Try.func51,Try.ntmps51
   go_upto_region 15 with(fail)
   refine Rg.wp_region [] (by kernel_rfl) (by kernel_rfl) ?_
   repeat(first|(refine Rg.cO ?_)|(refine Rg.bJ rfl ?_;simp only [Act.put,List.setIfInBounds_toArray,List.set_cons_zero,List.set_cons_succ])|(refine Rg.fP rfl rfl (fun K hK=>?_);go_big_quiet_op;refine hK _ ?_;clear hK K)|(refine Rg.fQ rfl rfl (fun K hK=>?_);go_wp2_with(first|fail|fail)))
   go_wp2
   go_ret
   exact⟨by rw [HR2.out];rfl,⟨(Below.refl _ _).drew,Kx.refl _⟩,by rw [HR2.out];exact HA.out.sc.keep (Below.refl _ _).drew⟩
end Go.Proofs.Ythdckndjggljpaa
