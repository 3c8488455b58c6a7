/- Proofs of this claim, part 38. No condition. -/
import Derived.Test.YthdckndjggljpaaS37
namespace Go.Proofs.Ythdckndjggljpaa
set_option linter.unusedVariables false
set_option linter.unusedSimpArgs false
set_option maxRecDepth 100000
set_option maxHeartbeats 64000000
open Go.RowKit Go.Maps
theorem Jo(w:World)(B g tb fq fo gb fb q off:Nat)(e:Ck.Env)(P0:Pg)(v0 v1:Value)(n b:Int)(s:Bool)(nm:ByteArray)(hs:nm.size≤maxLen)(ks:List X)(hk8:ks.length≤8)
 (HK:∀y∈ks,WG B g tb fq fo gb fb e P0 v0 v1 y)(hc:Cx w B g tb fq fo gb fb e P0 v0 v1)(hx:D8 w B (.mk 4 n b s nm ks) q off):
 Calls Try.prog 75 #[P g, .pointer (some ⟨q,off,none⟩)] w (OV w (Ck.jv P0 e 4 b s nm.data.toList (Ck.tys P0 e ks))):=by
 obtain⟨V,hV⟩:∃V,V=Ck.jv P0 e 4 b s nm.data.toList (Ck.tys P0 e ks):=⟨_,rfl⟩
 rw [←hV]
 obtain⟨a,c,hxc⟩:=hx.parts
 have qX:Hid (∀w1:World,Below w.heap.size w w1→Calls Try.prog 98 #[P g, .pointer (some ⟨q,off,none⟩)] w1 (OV w1 V)):=fun w1 hb=>by rw [hV];exact P9 w1 B g tb fq fo gb fb q off e P0 v0 v1 n b s nm hs ks hk8 HK (hc.keep hb) (hx.below (hb.mono hc.tb.le))
 have hlq:q<w.heap.size:=Nat.lt_of_lt_of_le hxc.lt hc.tb.le
 have c0:=hxc.c0
 obtain⟨vb,vs,ve⟩:=V
 have HB:=Lib.hid (ak.new w 33 #[.int .i64 0, .bool false])
 clear hV hx hxc hc HK hs hk8
 go_enter Try.func75,Try.ntmps75
 go_wp2_with(first|(go_at_call 98;refine(qX.out _ (Ext.alloc (Below.refl _ _) _)).mono ?_;rintro e w5⟨b5,s5,rfl,Oh,hb5⟩;have VJ:=Lib.hid Oh;have bD:=Lib.hid hb5;have jo:=Lib.hid (HB.out.keep hb5);have y0:=jo.out.cell 0;have y1:=jo.out.cell 1;have y2:=jo.out.frozen 0;have y3:=jo.out.frozen 1;have y4:=jo.out.lt;clear hb5 Oh))
 generalize hW:World.setCell _ _ _=wz
 have HW:Hid (ak wz w.heap.size 33 #[.int .i64 b5, .bool s5]∧Below w.heap.size w wz):=by
  subst hW
  exact⟨aW jo.out _ _,Ext.setCell (Ext.setCell (Ext.trans (Ext.alloc (Below.refl _ _) _) bD.out) (Nat.le_refl _) _) (Nat.le_refl _) _⟩
 clear hW y0 y1 y2 y3
 have q0:=HW.out.1.cell 0;have q1:=HW.out.1.cell 1
 have ql:=HW.out.1.lt
 exact bodyPost_ret (v:= .tuple #[W.ty b5 s5, .int .i64 ve]) (by simp [results,Try.results75,go_sem,q0,q1,ql]) rfl ⟨b5,s5,rfl,VJ.out,HW.out.2⟩
theorem G7(B g tb fq fo gb fb:Nat)(e:Ck.Env)(P0:Pg)(v0 v1:Value)(x:X):X.gK x→X.Wf x→WG B g tb fq fo gb fb e P0 v0 v1 x:=by
 induction x using X.up with
 |_ x ih=>
  intro hS hW w q off hc hx
  obtain⟨k,n,b,s,nm,ks⟩:=x
  have HK:∀y∈ks,WG B g tb fq fo gb fb e P0 v0 v1 y:=fun y hy=>ih y hy (hS.kid hy) (hW.kid hy)
  obtain⟨h1,SB,_,_,hkk⟩:=X.eH hS.own
  have h1:1≤k:=h1
  have SB:k≤26:=SB
  have hkk:(X.aX k=-1∧ks.length≤8)∨(0≤X.aX k∧X.aX k=(ks.length:Int)):=hkk
  have hk8:ks.length≤8:=by
   rcases hkk with h|h
   ·exact h.2
   ·have:X.aX k≤2:=by unfold X.aX;repeat' split<;>omega
    omega
  rw [Ck.ty]
  by_cases h4:k=4
  ·subst h4;exact Jo w B g tb fq fo gb fb q off e P0 v0 v1 n b s nm hW.nms ks hk8 HK hc hx
  ·refine Jv w B g tb fq fo gb fb q off e P0 v0 v1 k n b s nm hW.nms ks hk8 ⟨h1,SB⟩ h4 ?_ ?_ HK hc hx
   ·intro h
    rcases hkk with h2|h2
    ·unfold X.aX at h2;rw [if_neg (by omega)]at h2;rw [if_neg (by omega)]at h2;rw [if_neg (by omega)]at h2;rw [if_pos (by omega)]at h2;omega
    ·unfold X.aX at h2;rw [if_neg (by omega)]at h2;rw [if_neg (by omega)]at h2;rw [if_neg (by omega)]at h2;rw [if_pos (by omega)]at h2;omega
   ·intro h
    rcases hkk with h2|h2
    ·unfold X.aX at h2;rw [if_neg (by omega)]at h2;rw [if_neg (by omega)]at h2;rw [if_neg (by omega)]at h2;rw [if_neg (by omega)]at h2;omega
    ·unfold X.aX at h2;rw [if_neg (by omega)]at h2;rw [if_neg (by omega)]at h2;rw [if_neg (by omega)]at h2;rw [if_neg (by omega)]at h2;omega
theorem lu(w:World)(B g tb fq fo gb fb q off:Nat)(e:Ck.Env)(P0:Pg)(v0 v1:Value)(x:X)(hS:X.gK x)(hW:X.Wf x)(hc:Cx w B g tb fq fo gb fb e P0 v0 v1)(hx:D8 w B x q off):
 Calls Try.prog 76 #[P g, .pointer (some ⟨q,off,none⟩)] w (OV w (Ck.ty P0 e x).val):=
 value_of w B g tb fq fo gb fb q off e P0 v0 v1 x (G7 B g tb fq fo gb fb e P0 v0 v1 x hS hW) hc hx
def Wx(w:World)(z:Int)(e:Ending)(w':World):Prop:=e= .returned (.int .i64 z)∧Below w.heap.size w w'
theorem rD(w:World)(B g tb fq fo gb fb q off:Nat)(e:Ck.Env)(P0:Pg)(v0 v1:Value)(has:Bool)(x:X)(hV:has=true→X.gK x∧X.Wf x)(hc:Cx w B g tb fq fo gb fb e P0 v0 v1)(hx:D8 w B x q off):
 Calls Try.prog 73 #[P g, .bool has, .pointer (some ⟨q,off,none⟩)] w (Wx w (Ck.may P0 has x e).1):=by
 cases has with
 |false=>
  clear hV hc hx
  rw [show Ck.may P0 false x e=(0,e)from if_neg (by decide)]
  go_enter Try.func73,Try.ntmps73
  go_wp2
  go_ret
  exact⟨rfl,Below.refl _ _⟩
 |true=>
  have hv:=lu w B g tb fq fo gb fb q off e P0 v0 v1 x (hV rfl).1 (hV rfl).2 hc hx
  rw [show Ck.may P0 true x e=Ck.vals P0 x e from if_pos rfl]
  show Calls _ _ _ _ (Wx w (Ck.ty P0 e x).val.e)
  obtain⟨T,hT⟩:∃T,T=(Ck.ty P0 e x).val:=⟨_,rfl⟩
  rw [←hT]at hv⊢
  have HV:=Lib.hid hv
  obtain⟨t0,t1,te⟩:=T
  clear hV hc hx hv hT
  go_enter Try.func73,Try.ntmps73
  go_wp2_with(first|(go_at_call 76;refine HV.out.mono ?_;rintro e w5⟨b5,s5,rfl,_,hb5⟩;have bD:=Lib.hid hb5;clear hb5))
  go_ret
  exact⟨rfl,Ext.alloc bD.out _⟩
theorem Ud(w:World)(B g tb fq fo gb fb q off:Nat)(e:Ck.Env)(P0:Pg)(v0 v1:Value)(b:Int)(s:Bool)(nm:ByteArray)(has:Bool)(x i:X)(l0 l1 l2 l3:List S)(hs:nm.size≤maxLen)(hI:has=true→X.gK i∧X.Wf i)(JK:X.gK x∧X.Wf x)(hc:Cx w B g tb fq fo gb fb e P0 v0 v1)(hx:pF w B (.mk 3 b s nm has x i l0 l1 l2 l3) q off)(rb:Int):
 Calls Try.prog 74 #[P g, .pointer (some ⟨q,off,none⟩)] w (Wx w (Ck.stat P0 rb (.mk 3 b s nm has x i l0 l1 l2 l3) e).1):=by
 obtain⟨Z,hZ⟩:∃Z,Z=(Ck.stat P0 rb (.mk 3 b s nm has x i l0 l1 l2 l3) e).1:=⟨_,rfl⟩
 rw [←hZ]
 rw [Ck.stat,if_neg (by decide),if_pos rfl]at hZ
 obtain⟨a0,z0,a1,z1,a2,z2,a3,z3,hxc⟩:=hx.parts
 obtain⟨n0,hn0⟩:∃n,n=l0.length:=⟨_,rfl⟩
 obtain⟨n1,hn1⟩:∃n,n=l1.length:=⟨_,rfl⟩
 obtain⟨n2,hn2⟩:∃n,n=l2.length:=⟨_,rfl⟩
 obtain⟨n3,hn3⟩:∃n,n=l3.length:=⟨_,rfl⟩
 rw [←hn0,←hn1,←hn2,←hn3]at hxc
 have HC:=Lib.hid hc
 have Zm:=Lib.hid JK
 have ig:Hid (∀w1,Below w.heap.size w w1→SC w1 B 3 b s nm has x i l0 l1 l2 l3 a0 n0 z0 a1 n1 z1 a2 n2 z2 a3 n3 z3 q off):=fun w1 hb=>hxc.below (hb.mono hc.tb.le)
 have Lj:Hid (∀w1:World,Below w.heap.size w w1→Calls Try.prog 97 #[P g, .string nm] w1 (Xr w1 (Ck.find P0 e nm.data.toList))):=fun w1 hb=>find_ok w1 B g tb fq fo gb fb e P0 v0 v1 nm hs (hc.keep hb).sc (hc.keep hb).tb hc.lv
 have c4:=hxc.c4
 have c3:=hxc.c3
 have aaD:q<w.heap.size:=Nat.lt_of_lt_of_le hxc.lt hc.tb.le
 clear hn0 hn1 hn2 hn3 hx JK hs
 cases has with
 |false=>
  have HZ:Hid (Z=(match Ck.find P0 e nm.data.toList with|none=>((7:Int),e)|some p=>if(decide (0<p.size))!=false then(9,e)else Ck.vals P0 x e).1):=by rw [Ck.may,if_neg (by decide),Ck.on,if_pos rfl]at hZ;exact hZ
  have Ih:Hid (Below w.heap.size w w):=Below.refl _ _
  clear hZ hI hxc hc
  go_enter Try.func74,Try.ntmps74
  go_upto_region 5 with(fail)
  cases hf:Ck.find P0 e nm.data.toList with
  |none=>
   rw [hf]at HZ Lj
   have HZ2:Hid (Z=7):=HZ.out
   clear hf
   go_wp2_with(first|(go_at_call 97;refine(Lj.out _ Ih.out).mono ?_;rintro e w5⟨rfl,hb5⟩;have gU:=Lib.hid (Ext.trans Ih.out hb5);have Ll:=Ext.alloc gU.out (.cells #[.int .i64 0, .bool false, .bool false, .int .i64 0, .int .i64 0] 112);unfold Ck.OT;clear hb5))
   go_ret
   exact⟨by rw [HZ2.out];rfl,Ll⟩
  |some p=>
   rw [hf]at HZ Lj
   clear hf
   go_upto_region 8 with(first|(go_at_call 97;refine(Lj.out _ Ih.out).mono ?_;rintro e w5⟨rfl,hb5⟩;have gU:=Lib.hid (Ext.trans Ih.out hb5);have Ll:=Ext.alloc gU.out (.cells #[.int .i64 0, .bool false, .bool false, .int .i64 0, .int .i64 0] 112);unfold Ck.OT;clear hb5))
   generalize hw6:World.alloc _ _=w6
   have H6:Hid (Below w.heap.size w w6∧ak w6 w5.heap.size 112 #[.int .i64 p.b, .bool p.s, .bool p.loc, .int .i64 (p.slot:Int), .int .i64 p.size]):=by
    subst hw6;exact⟨Ext.alloc gU.out _,ak.new _ _ _⟩
   have p4:=H6.out.2.cell 4
   have c4:=(ig.out _ H6.out.1).c4
   have Lm:=H6.out.2.lt
   have hlq:=Nat.lt_of_lt_of_le (ig.out _ H6.out.1).lt (HC.out.keep H6.out.1).tb.le
   clear hw6
   by_cases hz:0<p.size
   ·have dz:decide (p.size>0)=true:=by simpa using hz
    have HZ2:Hid (Z=9):=by show Z=_;rw [HZ.out];rw [show decide (0<p.size)=true by simpa using hz];rfl
    clear hz
    refine Rg.wp_region [] (by kernel_rfl) (by kernel_rfl) ?_
    repeat(first|(refine Rg.cO ?_)|(refine Rg.bJ rfl ?_;simp only [Act.put,List.setIfInBounds_toArray,List.set_cons_zero,List.set_cons_succ])|(refine Rg.fP rfl rfl (fun K hK=>?_);go_big_quiet_op;refine hK _ ?_;clear hK K)|(refine Rg.fQ rfl rfl (fun K hK=>?_);go_wp2_with(first|fail|fail)))
    go_wp2
    go_ret
    exact⟨by rw [HZ2.out];rfl,H6.out.1.drew⟩
   ·have dz:decide (p.size>0)=false:=by simpa using hz
    have HZ2:Hid (Z=(Ck.ty P0 e x).val.e):=by show Z=_;rw [HZ.out];rw [show decide (0<p.size)=false by simpa using hz];rfl
    clear hz
    refine Rg.wp_region [] (by kernel_rfl) (by kernel_rfl) ?_
    repeat(first|(refine Rg.cO ?_)|(refine Rg.bJ rfl ?_;simp only [Act.put,List.setIfInBounds_toArray,List.set_cons_zero,List.set_cons_succ])|(refine Rg.fP rfl rfl (fun K hK=>?_);go_big_quiet_op;refine hK _ ?_;clear hK K)|(refine Rg.fQ rfl rfl (fun K hK=>?_);go_wp2_with(first|fail|fail)))
    go_upto_region 10 with(fail)
    generalize hw7:World.drew w6=w7
    have OU:Hid (Below w.heap.size w w7):=by subst hw7;exact H6.out.1.drew
    have Xt:=Lib.hid (lu w7 B g tb fq fo gb fb q (off+5) e P0 v0 v1 x Zm.out.1 Zm.out.2 (HC.out.keep OU.out) (ig.out _ OU.out).x)
    obtain⟨T,hT⟩:∃T,T=(Ck.ty P0 e x).val:=⟨_,rfl⟩
    rw [←hT]at Xt HZ2
    obtain⟨t0,t1,te⟩:=T
    clear hw7 p4 Lm c4 hT
    go_wp2_with(first|(go_at_call 76;refine Xt.out.mono ?_;rintro e w8⟨b8,s8,rfl,_,hb8⟩;have nU:=Lib.hid hb8;clear hb8))
    go_ret
    exact⟨by rw [HZ2.out];rfl,Ext.alloc (Ext.trans OU.out nU.out) _⟩
 |true=>
  have HVI:=Lib.hid (lu w B g tb fq fo gb fb q (off+11) e P0 v0 v1 i (hI rfl).1 (hI rfl).2 hc hxc.i)
  obtain⟨T,hT⟩:∃T,T=(Ck.ty P0 e i).val:=⟨_,rfl⟩
  have hZ3:Z=(Ck.on (T.e,e) fun e=>match Ck.find P0 e nm.data.toList with|none=>((7:Int),e)|some p=>if(decide (0<p.size))!=true then(9,e)else Ck.vals P0 x e).1:=by rw [Ck.may,if_pos rfl,Ck.vals,←hT]at hZ;exact hZ
  rw [←hT]at HVI
  obtain⟨t0,t1,te⟩:=T
  have HZ3:=Lib.hid hZ3
  clear hZ hZ3 hT hI hxc hc
  by_cases he:te=0
  ·subst he
   have HZ:Hid (Z=(match Ck.find P0 e nm.data.toList with|none=>((7:Int),e)|some p=>if(decide (0<p.size))!=true then(9,e)else Ck.vals P0 x e).1):=HZ3.out
   go_enter Try.func74,Try.ntmps74
   go_upto_region 5 with(first|(go_at_call 76;refine HVI.out.mono ?_;rintro e w3⟨b3,s3,rfl,_,hb3⟩;have HB3:=Lib.hid hb3;clear hb3))
   generalize hwx:World.alloc _ _=wx
   have Ih:Hid (Below w.heap.size w wx):=by subst hwx;exact Ext.alloc HB3.out _
   have c3:=(ig.out _ Ih.out).c3
   have adO:q<wx.heap.size:=Nat.lt_of_lt_of_le aaD Ih.out.size
   clear hwx
   cases hf:Ck.find P0 e nm.data.toList with
   |none=>
    rw [hf]at HZ Lj
    have HZ2:Hid (Z=7):=HZ.out
    clear hf
    go_wp2_with(first|(go_at_call 97;refine(Lj.out _ Ih.out).mono ?_;rintro e w5⟨rfl,hb5⟩;have gU:=Lib.hid (Ext.trans Ih.out hb5);have Ll:=Ext.alloc gU.out (.cells #[.int .i64 0, .bool false, .bool false, .int .i64 0, .int .i64 0] 112);unfold Ck.OT;clear hb5))
    go_ret
    exact⟨by rw [HZ2.out];rfl,Ll⟩
   |some p=>
    rw [hf]at HZ Lj
    clear hf
    go_upto_region 8 with(first|(go_at_call 97;refine(Lj.out _ Ih.out).mono ?_;rintro e w5⟨rfl,hb5⟩;have gU:=Lib.hid (Ext.trans Ih.out hb5);have Ll:=Ext.alloc gU.out (.cells #[.int .i64 0, .bool false, .bool false, .int .i64 0, .int .i64 0] 112);unfold Ck.OT;clear hb5))
    generalize hw6:World.alloc _ _=w6
    have H6:Hid (Below w.heap.size w w6∧ak w6 w5.heap.size 112 #[.int .i64 p.b, .bool p.s, .bool p.loc, .int .i64 (p.slot:Int), .int .i64 p.size]):=by
     subst hw6;exact⟨Ext.alloc gU.out _,ak.new _ _ _⟩
    have p4:=H6.out.2.cell 4
    have c4:=(ig.out _ H6.out.1).c4
    have Lm:=H6.out.2.lt
    have hlq:=Nat.lt_of_lt_of_le (ig.out _ H6.out.1).lt (HC.out.keep H6.out.1).tb.le
    clear hw6
    by_cases hz:0<p.size
    ·have dz:decide (p.size>0)=true:=by simpa using hz
     have HZ2:Hid (Z=(Ck.ty P0 e x).val.e):=by show Z=_;rw [HZ.out];rw [show decide (0<p.size)=true by simpa using hz];rfl
     clear hz
     refine Rg.wp_region [] (by kernel_rfl) (by kernel_rfl) ?_
     repeat(first|(refine Rg.cO ?_)|(refine Rg.bJ rfl ?_;simp only [Act.put,List.setIfInBounds_toArray,List.set_cons_zero,List.set_cons_succ])|(refine Rg.fP rfl rfl (fun K hK=>?_);go_big_quiet_op;refine hK _ ?_;clear hK K)|(refine Rg.fQ rfl rfl (fun K hK=>?_);go_wp2_with(first|fail|fail)))
     go_upto_region 10 with(fail)
     generalize hw7:World.drew w6=w7
     have OU:Hid (Below w.heap.size w w7):=by subst hw7;exact H6.out.1.drew
     have Xt:=Lib.hid (lu w7 B g tb fq fo gb fb q (off+5) e P0 v0 v1 x Zm.out.1 Zm.out.2 (HC.out.keep OU.out) (ig.out _ OU.out).x)
     obtain⟨T,hT⟩:∃T,T=(Ck.ty P0 e x).val:=⟨_,rfl⟩
     rw [←hT]at Xt HZ2
     obtain⟨t0,t1,te⟩:=T
     clear hw7 p4 Lm c4 hT
     go_wp2_with(first|(go_at_call 76;refine Xt.out.mono ?_;rintro e w8⟨b8,s8,rfl,_,hb8⟩;have nU:=Lib.hid hb8;clear hb8))
     go_ret
     exact⟨by rw [HZ2.out];rfl,Ext.alloc (Ext.trans OU.out nU.out) _⟩
    ·have dz:decide (p.size>0)=false:=by simpa using hz
     have HZ2:Hid (Z=9):=by show Z=_;rw [HZ.out];rw [show decide (0<p.size)=false by simpa using hz];rfl
     clear hz
     refine Rg.wp_region [] (by kernel_rfl) (by kernel_rfl) ?_
     repeat(first|(refine Rg.cO ?_)|(refine Rg.bJ rfl ?_;simp only [Act.put,List.setIfInBounds_toArray,List.set_cons_zero,List.set_cons_succ])|(refine Rg.fP rfl rfl (fun K hK=>?_);go_big_quiet_op;refine hK _ ?_;clear hK K)|(refine Rg.fQ rfl rfl (fun K hK=>?_);go_wp2_with(first|fail|fail)))
     go_wp2
     go_ret
     exact⟨by rw [HZ2.out];rfl,H6.out.1.drew⟩
  ·have qe:(te !=0)=true:=by simpa using he
   have HZ2:Hid (Z=te):=by show Z=te;rw [HZ3.out,Ck.ni he]
   clear he
   go_enter Try.func74,Try.ntmps74
   go_wp2_with(first|(go_at_call 76;refine HVI.out.mono ?_;rintro e w3⟨b3,s3,rfl,_,hb3⟩;have HB3:=Lib.hid hb3;clear hb3))
   go_ret
   exact⟨by rw [HZ2.out];rfl,Ext.alloc HB3.out _⟩
end Go.Proofs.Ythdckndjggljpaa
