/- Proofs of this claim, part 37. No condition. -/
import Derived.Test.YthdckndjggljpaaS36
namespace Go.Proofs.Ythdckndjggljpaa
set_option linter.unusedVariables false
set_option linter.unusedSimpArgs false
set_option maxRecDepth 100000
set_option maxHeartbeats 64000000
open Go.RowKit Go.Maps
namespace Ck
def Py(ts:List Ty):List (Int×Bool):=ts.map fun t=>(t.b,t.s)
theorem KR{ts:List Ty}{j:Nat}{t:Ty}(h:ts[j]?=some t):Py (ts.take (j+1))=Py (ts.take j)++[(t.b,t.s)]:=by
 obtain⟨hl,h⟩:=List.getElem?_eq_some_iff.1 h
 unfold Py
 rw [List.take_succ_eq_append_getElem hl,List.map_append,h];rfl
end Ck
theorem okU{w w1 w2:World}{r:Nat}(h:Below w.heap.size w w1)(hr:w.heap.size≤r)(a b:Value):Below w.heap.size w ((w1.setCell ⟨r,0,none⟩ a).setCell ⟨r,1,none⟩ b):=Ext.setCell (Ext.setCell h hr _) hr _
theorem zA{w:World}{B gv n c:Nat}{l:List (Int×Bool)}(h:w.ownsRow B 33 2 (.slice (some ⟨gv,0,none⟩) n c) n (Ck.slc l)){i:Nat}{t:Int×Bool}(hi:l[i]?=some t):
 w.cell? ⟨gv,i*2,none⟩=some (.int .i64 t.1)∧w.cell? ⟨gv,i*2+1,none⟩=some (.bool t.2):=by
 obtain⟨h1,h2⟩:=Ck.Vg hi
 have a1:=h.cells (g:=gv) rfl _ _ h1
 have a2:=h.cells (g:=gv) rfl _ _ h2
 rw [X.bV,Nat.zero_add]at a1 a2
 exact⟨a1,a2⟩
theorem Jv(w:World)(B g tb fq fo gb fb q off:Nat)(e:Ck.Env)(P0:Pg)(v0 v1:Value)(k n b:Int)(s:Bool)(nm:ByteArray)(hs:nm.size≤maxLen)(ks:List X)(hk8:ks.length≤8)(hk:1≤k∧k≤26)(h4:k≠4)(VN:k=6∨k=7→1≤ks.length)(h9:9≤k→2≤ks.length)
 (HK:∀y∈ks,WG B g tb fq fo gb fb e P0 v0 v1 y)(hc:Cx w B g tb fq fo gb fb e P0 v0 v1)(hx:D8 w B (.mk k n b s nm ks) q off):
 Calls Try.prog 75 #[P g, .pointer (some ⟨q,off,none⟩)] w (OV w (Ck.jv P0 e k b s nm.data.toList (Ck.tys P0 e ks))):=by
 obtain⟨V,hV⟩:∃V,V=Ck.jv P0 e k b s nm.data.toList (Ck.tys P0 e ks):=⟨_,rfl⟩
 rw [←hV]
 unfold Ck.jv at hV
 rw [if_neg h4]at hV
 obtain⟨a,c,hxc⟩:=hx.parts
 obtain⟨NP,hL⟩:∃L,L=ks.length:=⟨_,rfl⟩
 rw [←hL]at hxc hk8 VN h9
 obtain⟨ts,hts⟩:∃ts,ts=Ck.tys P0 e ks:=⟨_,rfl⟩
 rw [←hts]at hV
 have HX:=Lib.hid hxc
 have HC:=Lib.hid hc
 have Ee:=Lib.hid hV
 have HL:=Lib.hid hL
 have Zt:=Lib.hid hts
 have HKK:=Lib.hid HK
 have zT:=Lib.hid hk
 have H67:=Lib.hid VN
 have H9:=Lib.hid h9
 have HN4:=Lib.hid h4
 have YN:Hid (ts.length=NP):=by rw [hts,Ck.y7];exact hL.symm
 have Lj:Hid (∀w1:World,Below w.heap.size w w1→Calls Try.prog 97 #[P g, .string nm] w1 (Xr w1 (Ck.find P0 e nm.data.toList))):=fun w1 hb=>find_ok w1 B g tb fq fo gb fb e P0 v0 v1 nm hs (hc.keep hb).sc (hc.keep hb).tb hc.lv
 have ig:Hid (∀w1,Below w.heap.size w w1→XC w1 B k n b s nm ks a NP c q off):=fun w1 hb=>hxc.below (hb.mono hc.tb.le)
 have q4:(k !=4)=true:=by simpa using h4
 have hlq:q<w.heap.size:=Nat.lt_of_lt_of_le hxc.lt hc.tb.le
 clear hV hx hL hxc hc HK hs hts hk VN h9 h4
 have c0:=(ig.out w (Below.refl _ _)).c0
 have c5:=(ig.out w (Below.refl _ _)).c5
 go_enter Try.func75,Try.ntmps75
 go_wp2
 generalize hw1:World.alloc _ _=w1
 have H1:Hid (Below w.heap.size w w1∧ak w1 w.heap.size 33 #[.int .i64 0, .bool false]):=by
  subst hw1;exact⟨Ext.alloc (Below.refl _ _) _,ak.new _ _ _⟩
 clear hw1 c0 c5
 go_loopw [6,22](fun v i wr=>∃(j:Nat)(va:Option Addr)(vc:Nat),j≤NP∧i= .int .i64 (j:Int)∧v= .slice va j vc∧Hid (Below w1.heap.size w1 wr)∧Hid (Ck.first (ts.take j)=0)∧Hid (wr.ownsRow w1.heap.size 33 2 (.slice va j vc) j (Ck.slc (Ck.Py (ts.take j)))))(fun v i wr=>NP-(intOf i).toNat)
 case atStart=>exact⟨0,none,0,Nat.zero_le _,rfl,rfl,Below.refl _ _,rfl,⟨rfl, .inl ⟨rfl,rfl⟩⟩⟩
 case round=>
  obtain⟨j,va,vc,hj,rfl,rfl,iM,Iq,HO⟩:=hrel
  have oP:Hid (Below w.heap.size w wr):=Ext.trans H1.out.1 iM.out
  have hqr:=H1.out.2.keep iM.out
  have x0:=hqr.cell 0;have x1:=hqr.cell 1;have u0:=hqr.frozen 0;have u1:=hqr.frozen 1
  have Ef:=Lib.hid hqr
  have aaK:=hqr.lt
  have aeD:q<wr.heap.size:=Nat.lt_of_lt_of_le hlq oP.out.size
  clear hqr
  by_cases hlt:j<NP
  ·have hjl:j<ks.length:=by rw [←HL.out];exact hlt
   obtain⟨gk,ok,ea,hxy⟩:=(ig.out wr oP.out).kid j ks[j] (List.getElem?_eq_getElem hjl)
   subst ea
   have hcr:=HC.out.keep oP.out
   obtain⟨T,hT⟩:∃T,T=(Ck.ty P0 e ks[j]).val:=⟨_,rfl⟩
   have vg:Hid (Calls Try.prog 76 #[P g, .pointer (some ⟨gk,ok+j*6,none⟩)] wr (OV wr T)):=by
    rw [hT];exact value_of wr B g tb fq fo gb fb gk (ok+j*6) e P0 v0 v1 ks[j] (HKK.out _ (List.getElem_mem hjl)) hcr hxy
   have WI:Hid (ts[j]?=some T):=by show _=_;rw [Zt.out,Ck.F8,List.getElem?_eq_getElem hjl,hT];rfl
   have c5:=(ig.out wr oP.out).c5
   have aaL:NP≤8:=hk8
   obtain⟨tb0,F9,te⟩:=T
   clear hT hcr hxy
   by_cases he:te=0
   ·subst he
    go_upto_region 7 with(first|(go_at_call 76;refine vg.out.mono ?_;rintro e w5⟨b5,s5,rfl,Oh,hb5⟩;have VJ:=Lib.hid Oh;have bD:=Lib.hid hb5;clear hb5 Oh))
    obtain⟨rfl,rfl⟩:=VJ.out trivial
    generalize hw6:World.alloc _ _=w6
    have H6:Hid (Below wr.heap.size wr w6∧ak w6 w5.heap.size 33 #[.int .i64 b5, .bool s5]):=by
     subst hw6;exact⟨Ext.alloc bD.out _,ak.new _ _ _⟩
    have y0:=H6.out.2.cell 0;have y1:=H6.out.2.cell 1
    have VI:Hid (∀w7,Below w6.heap.size w6 w7→w7.ownsRow w1.heap.size 33 2 (.slice va j vc) j (Ck.slc (Ck.Py (ts.take j)))):=fun w7 hb=>aU HO.out fun k hk=>(Ext.trans H6.out.1 hb).block k (aK HO.out k hk).2
    have HS6:Hid (w1.heap.size≤w6.heap.size):=Nat.le_trans iM.out.size H6.out.1.size
    clear hw6 x0 x1 u0 u1 c5
    go_wp2_with(first|(at_builtin;go_loud(refine kT rfl _ _ rfl w1.heap.size va j vc (Ck.Py (ts.take j)) _ b5 s5 rfl rfl (VI.out _ (Ext.alloc (Below.refl _ _) _)) (ak.newAt _ _ rfl) (by omega) (by have:=HS6.out;simp;omega) ?_);intro a' c' w7 ho wO;have CS:=Lib.hid ho;have iO:=Lib.hid wO;clear ho wO))
    go_roundw
    case rel=>exact⟨j+1,a',c',by omega,by go_num,rfl,Below.grown (Ext.alloc (Ext.trans iM.out H6.out.1) _) iO.out (by have:=HS6.out;simp;omega) (fun k hk=>(aK HO.out k hk).1),Ck.vw Iq.out WI.out rfl,by rw [Ck.KR WI.out];exact CS.out⟩
    case measure=>simp [intOf];omega
   ·have qe:(te !=0)=true:=by simpa using he
    have HV:Hid (V=⟨0,false,te⟩):=by
     show V=_
     have h0:=Ck.vC Iq.out WI.out he
     rw [Ee.out,h0,if_pos he]
    have XH:=Lib.hid he
    clear he
    go_wp2_with(first|(go_at_call 76;refine vg.out.mono ?_;rintro e w5⟨b5,s5,rfl,_,hb5⟩;have bD:=Lib.hid hb5;have jo:=Lib.hid (Ef.out.keep hb5);have y0:=jo.out.cell 0;have y1:=jo.out.cell 1;have y2:=jo.out.frozen 0;have y3:=jo.out.frozen 1;have y4:=jo.out.lt;clear hb5))
    generalize hW:World.alloc _ _=wz
    have HW:Hid (ak wz w.heap.size 33 #[.int .i64 b5, .bool s5]∧Below w.heap.size w wz):=by
     subst hW
     exact⟨(aW jo.out _ _).alloc _,Ext.alloc (Ext.setCell (Ext.setCell (Ext.trans oP.out bD.out) (Nat.le_refl _) _) (Nat.le_refl _) _) _⟩
    clear hW x0 x1 u0 u1 y0 y1 y2 y3
    have q0:=HW.out.1.cell 0;have q1:=HW.out.1.cell 1
    have ql:=HW.out.1.lt
    exact bodyPost_ret (v:= .tuple #[W.ty b5 s5, .int .i64 te]) (by simp [results,Try.results75,go_sem,q0,q1,ql]) rfl ⟨b5,s5,by rw [HV.out],fun h=>by rw [HV.out]at h;exact absurd h XH.out,HW.out.2⟩
  ·obtain rfl:j=NP:=by omega
   have hf1:Ck.first ts=0:=by
    have h0:=Iq.out
    rwa [List.take_of_length_le (by rw [YN.out];exact Nat.le_refl _)]at h0
   have hvd:=Ee.out
   rw [if_neg (fun h=>h hf1)]at hvd
   have kZ:Hid (ts.take j=ts):=List.take_of_length_le (by rw [YN.out];exact Nat.le_refl _)
   have hxr:=ig.out wr oP.out
   have c0:=hxr.c0;have c2:=hxr.c2;have c3:=hxr.c3;have c4:=hxr.c4
   have Ee:=Lib.hid hvd
   clear hf1 hvd hxr
   by_cases h1:k=1∨k=5
   ·have HV:Hid (V=⟨b,s,0⟩):=by show V=_;rw [Ee.out,if_pos h1]
    rcases h1 with rfl|rfl
    ·go_wp2
     generalize hW:World.setCell _ _ _=wz
     have HW:Hid (ak wz w.heap.size 33 #[.int .i64 b, .bool s]∧Below w.heap.size w wz):=by
      subst hW
      exact⟨aW Ef.out _ _,Ext.setCell (Ext.setCell oP.out (Nat.le_refl _) _) (Nat.le_refl _) _⟩
     clear hW x0 x1 u0 u1 c0 c2 c3 c4
     have q0:=HW.out.1.cell 0;have q1:=HW.out.1.cell 1
     have ql:=HW.out.1.lt
     exact bodyPost_ret (v:= .tuple #[W.ty b s, .int .i64 0]) (by simp [results,Try.results75,go_sem,q0,q1,ql]) rfl ⟨b,s,by rw [HV.out],fun _=>by rw [HV.out];exact⟨rfl,rfl⟩,HW.out.2⟩
    ·go_wp2
     generalize hW:World.setCell _ _ _=wz
     have HW:Hid (ak wz w.heap.size 33 #[.int .i64 b, .bool s]∧Below w.heap.size w wz):=by
      subst hW
      exact⟨aW Ef.out _ _,Ext.setCell (Ext.setCell oP.out (Nat.le_refl _) _) (Nat.le_refl _) _⟩
     clear hW x0 x1 u0 u1 c0 c2 c3 c4
     have q0:=HW.out.1.cell 0;have q1:=HW.out.1.cell 1
     have ql:=HW.out.1.lt
     exact bodyPost_ret (v:= .tuple #[W.ty b s, .int .i64 0]) (by simp [results,Try.results75,go_sem,q0,q1,ql]) rfl ⟨b,s,by rw [HV.out],fun _=>by rw [HV.out];exact⟨rfl,rfl⟩,HW.out.2⟩
   have hvd:=Ee.out
   rw [if_neg h1]at hvd
   have Ee:=Lib.hid hvd
   clear hvd
   have d1:(k==1)=false:=by simp;omega
   have d5:(k==5)=false:=by simp;omega
   by_cases h2:k=2∨k=3
   ·have hvd:=Ee.out
    rw [if_pos h2]at hvd
    cases hf:Ck.find P0 e nm.data.toList with
    |none=>
     rw [hf]at hvd
     have HV:Hid (V=⟨0,false,7⟩):=hvd
     have Jw:Hid (Calls Try.prog 97 #[P g, .string nm] wr (Xr wr none)):=by have h0:=Lj.out wr oP.out;rw [hf]at h0;exact h0
     clear hvd hf
     rcases h2 with rfl|rfl<;>
     ·go_wp2_with(first|(go_at_call 97;refine Jw.out.mono ?_;rintro e w5⟨rfl,hb5⟩;have bD:=Lib.hid hb5;have jo:=Lib.hid (Ef.out.keep hb5);have y0:=jo.out.cell 0;have y1:=jo.out.cell 1;have y2:=jo.out.frozen 0;have y3:=jo.out.frozen 1;have y4:=jo.out.lt;unfold Ck.OT;clear hb5))
      generalize hW:World.alloc _ _=wz
      have HW:Hid (ak wz w.heap.size 33 #[.int .i64 0, .bool false]∧Below w.heap.size w wz):=by
       subst hW
       exact⟨(aW jo.out _ _).alloc _,Ext.alloc (Ext.setCell (Ext.setCell (Ext.trans oP.out bD.out) (Nat.le_refl _) _) (Nat.le_refl _) _) _⟩
      clear hW x0 x1 u0 u1 y0 y1 y2 y3
      have q0:=HW.out.1.cell 0;have q1:=HW.out.1.cell 1
      have ql:=HW.out.1.lt
      exact bodyPost_ret (v:= .tuple #[W.ty 0 false, .int .i64 7]) (by simp [results,Try.results75,go_sem,q0,q1,ql]) rfl ⟨0,false,by rw [HV.out],fun h=>by rw [HV.out]at h;exact absurd (show(7:Int)=0 from h) (by decide),HW.out.2⟩
    |some p=>
     rw [hf]at hvd
     have ZW:Hid (V=if(decide (0<p.size))!=(k==3)then⟨0,false,9⟩else⟨p.b,p.s,0⟩):=hvd
     have Jw:Hid (Calls Try.prog 97 #[P g, .string nm] wr (Xr wr (some p))):=by have h0:=Lj.out wr oP.out;rw [hf]at h0;exact h0
     clear hvd hf x0 x1 u0 u1
     rcases h2 with rfl|rfl
     ·by_cases hz:0<p.size
      ·have HV:Hid (V=⟨0,false,9⟩):=by
        show V=_
        rw [ZW.out,show decide (0<p.size)=true by simpa using hz];rfl
       have dz:decide (p.size>0)=true:=by simpa using hz
       clear hz
       go_upto_region 20 with(first|(go_at_call 97;refine Jw.out.mono ?_;rintro e w5⟨rfl,hb5⟩;have bD:=Lib.hid hb5;unfold Ck.OT;clear hb5))
       generalize hw6:World.alloc _ _=w6
       have H6:Hid (Below w.heap.size w w6∧ak w6 w5.heap.size 112 #[.int .i64 p.b, .bool p.s, .bool p.loc, .int .i64 (p.slot:Int), .int .i64 p.size]∧ak w6 w.heap.size 33 #[.int .i64 0, .bool false]):=by
        subst hw6;exact⟨Ext.alloc (Ext.trans oP.out bD.out) _,ak.new _ _ _,(Ef.out.keep bD.out).alloc _⟩
       have p4:=H6.out.2.1.cell 4
       have c0:=(ig.out _ H6.out.1).c0
       have Lm:=H6.out.2.1.lt
       clear hw6
       refine Rg.wp_region [] (by kernel_rfl) (by kernel_rfl) ?_
       repeat(first|(refine Rg.cO ?_)|(refine Rg.bJ rfl ?_;simp only [Act.put,List.setIfInBounds_toArray,List.set_cons_zero,List.set_cons_succ])|(refine Rg.fP rfl rfl (fun K hK=>?_);go_big_quiet_op;refine hK _ ?_;clear hK K)|(refine Rg.fQ rfl rfl (fun K hK=>?_);go_wp2_with(first|fail|fail)))
       go_upto_region 21 with(fail)
       generalize hw7:World.drew w6=w7
       have H7:Hid (Below w.heap.size w w7∧ak w7 w5.heap.size 112 #[.int .i64 p.b, .bool p.s, .bool p.loc, .int .i64 (p.slot:Int), .int .i64 p.size]∧ak w7 w.heap.size 33 #[.int .i64 0, .bool false]):=by
        subst hw7;exact⟨H6.out.1.drew,H6.out.2.1.drew,H6.out.2.2.drew⟩
       clear hw7 p4 Lm c0
       have z0:=H7.out.2.2.cell 0;have z1:=H7.out.2.2.cell 1;have z2:=H7.out.2.2.frozen 0;have z3:=H7.out.2.2.frozen 1;have z4:=H7.out.2.2.lt
       have p0:=H7.out.2.1.cell 0;have p1:=H7.out.2.1.cell 1
       go_wp2
       generalize hW:World.setCell _ _ _=wz
       have HW:Hid (ak wz w.heap.size 33 #[.int .i64 0, .bool false]∧Below w.heap.size w wz):=by
        subst hW
        exact⟨aW H7.out.2.2 _ _,Ext.setCell (Ext.setCell H7.out.1 (Nat.le_refl _) _) (Nat.le_refl _) _⟩
       clear hW z0 z1 z2 z3 p0 p1
       have q0:=HW.out.1.cell 0;have q1:=HW.out.1.cell 1
       have ql:=HW.out.1.lt
       exact bodyPost_ret (v:= .tuple #[W.ty 0 false, .int .i64 9]) (by simp [results,Try.results75,go_sem,q0,q1,ql]) rfl ⟨0,false,by rw [HV.out],fun h=>by rw [HV.out]at h;exact absurd (show(9:Int)=0 from h) (by decide),HW.out.2⟩
      ·have HV:Hid (V=⟨p.b,p.s,0⟩):=by
        show V=_
        rw [ZW.out,show decide (0<p.size)=false by simpa using hz];rfl
       have dz:decide (p.size>0)=false:=by simpa using hz
       clear hz
       go_upto_region 20 with(first|(go_at_call 97;refine Jw.out.mono ?_;rintro e w5⟨rfl,hb5⟩;have bD:=Lib.hid hb5;unfold Ck.OT;clear hb5))
       generalize hw6:World.alloc _ _=w6
       have H6:Hid (Below w.heap.size w w6∧ak w6 w5.heap.size 112 #[.int .i64 p.b, .bool p.s, .bool p.loc, .int .i64 (p.slot:Int), .int .i64 p.size]∧ak w6 w.heap.size 33 #[.int .i64 0, .bool false]):=by
        subst hw6;exact⟨Ext.alloc (Ext.trans oP.out bD.out) _,ak.new _ _ _,(Ef.out.keep bD.out).alloc _⟩
       have p4:=H6.out.2.1.cell 4
       have c0:=(ig.out _ H6.out.1).c0
       have Lm:=H6.out.2.1.lt
       clear hw6
       refine Rg.wp_region [] (by kernel_rfl) (by kernel_rfl) ?_
       repeat(first|(refine Rg.cO ?_)|(refine Rg.bJ rfl ?_;simp only [Act.put,List.setIfInBounds_toArray,List.set_cons_zero,List.set_cons_succ])|(refine Rg.fP rfl rfl (fun K hK=>?_);go_big_quiet_op;refine hK _ ?_;clear hK K)|(refine Rg.fQ rfl rfl (fun K hK=>?_);go_wp2_with(first|fail|fail)))
       go_upto_region 22 with(fail)
       generalize hw7:World.drew w6=w7
       have H7:Hid (Below w.heap.size w w7∧ak w7 w5.heap.size 112 #[.int .i64 p.b, .bool p.s, .bool p.loc, .int .i64 (p.slot:Int), .int .i64 p.size]∧ak w7 w.heap.size 33 #[.int .i64 0, .bool false]):=by
        subst hw7;exact⟨H6.out.1.drew,H6.out.2.1.drew,H6.out.2.2.drew⟩
       clear hw7 p4 Lm c0
       have z0:=H7.out.2.2.cell 0;have z1:=H7.out.2.2.cell 1;have z2:=H7.out.2.2.frozen 0;have z3:=H7.out.2.2.frozen 1;have z4:=H7.out.2.2.lt
       have p0:=H7.out.2.1.cell 0;have p1:=H7.out.2.1.cell 1
       go_wp2
       generalize hW:World.setCell _ _ _=wz
       have HW:Hid (ak wz w.heap.size 33 #[.int .i64 p.b, .bool p.s]∧Below w.heap.size w wz):=by
        subst hW
        exact⟨aW H7.out.2.2 _ _,Ext.setCell (Ext.setCell H7.out.1 (Nat.le_refl _) _) (Nat.le_refl _) _⟩
       clear hW z0 z1 z2 z3 p0 p1
       have q0:=HW.out.1.cell 0;have q1:=HW.out.1.cell 1
       have ql:=HW.out.1.lt
       exact bodyPost_ret (v:= .tuple #[W.ty p.b p.s, .int .i64 0]) (by simp [results,Try.results75,go_sem,q0,q1,ql]) rfl ⟨p.b,p.s,by rw [HV.out],fun _=>by rw [HV.out];exact⟨rfl,rfl⟩,HW.out.2⟩
     ·by_cases hz:0<p.size
      ·have HV:Hid (V=⟨p.b,p.s,0⟩):=by
        show V=_
        rw [ZW.out,show decide (0<p.size)=true by simpa using hz];rfl
       have dz:decide (p.size>0)=true:=by simpa using hz
       clear hz
       go_upto_region 20 with(first|(go_at_call 97;refine Jw.out.mono ?_;rintro e w5⟨rfl,hb5⟩;have bD:=Lib.hid hb5;unfold Ck.OT;clear hb5))
       generalize hw6:World.alloc _ _=w6
       have H6:Hid (Below w.heap.size w w6∧ak w6 w5.heap.size 112 #[.int .i64 p.b, .bool p.s, .bool p.loc, .int .i64 (p.slot:Int), .int .i64 p.size]∧ak w6 w.heap.size 33 #[.int .i64 0, .bool false]):=by
        subst hw6;exact⟨Ext.alloc (Ext.trans oP.out bD.out) _,ak.new _ _ _,(Ef.out.keep bD.out).alloc _⟩
       have p4:=H6.out.2.1.cell 4
       have c0:=(ig.out _ H6.out.1).c0
       have Lm:=H6.out.2.1.lt
       clear hw6
       refine Rg.wp_region [] (by kernel_rfl) (by kernel_rfl) ?_
       repeat(first|(refine Rg.cO ?_)|(refine Rg.bJ rfl ?_;simp only [Act.put,List.setIfInBounds_toArray,List.set_cons_zero,List.set_cons_succ])|(refine Rg.fP rfl rfl (fun K hK=>?_);go_big_quiet_op;refine hK _ ?_;clear hK K)|(refine Rg.fQ rfl rfl (fun K hK=>?_);go_wp2_with(first|fail|fail)))
       go_upto_region 22 with(fail)
       generalize hw7:World.drew w6=w7
       have H7:Hid (Below w.heap.size w w7∧ak w7 w5.heap.size 112 #[.int .i64 p.b, .bool p.s, .bool p.loc, .int .i64 (p.slot:Int), .int .i64 p.size]∧ak w7 w.heap.size 33 #[.int .i64 0, .bool false]):=by
        subst hw7;exact⟨H6.out.1.drew,H6.out.2.1.drew,H6.out.2.2.drew⟩
       clear hw7 p4 Lm c0
       have z0:=H7.out.2.2.cell 0;have z1:=H7.out.2.2.cell 1;have z2:=H7.out.2.2.frozen 0;have z3:=H7.out.2.2.frozen 1;have z4:=H7.out.2.2.lt
       have p0:=H7.out.2.1.cell 0;have p1:=H7.out.2.1.cell 1
       go_wp2
       generalize hW:World.setCell _ _ _=wz
       have HW:Hid (ak wz w.heap.size 33 #[.int .i64 p.b, .bool p.s]∧Below w.heap.size w wz):=by
        subst hW
        exact⟨aW H7.out.2.2 _ _,Ext.setCell (Ext.setCell H7.out.1 (Nat.le_refl _) _) (Nat.le_refl _) _⟩
       clear hW z0 z1 z2 z3 p0 p1
       have q0:=HW.out.1.cell 0;have q1:=HW.out.1.cell 1
       have ql:=HW.out.1.lt
       exact bodyPost_ret (v:= .tuple #[W.ty p.b p.s, .int .i64 0]) (by simp [results,Try.results75,go_sem,q0,q1,ql]) rfl ⟨p.b,p.s,by rw [HV.out],fun _=>by rw [HV.out];exact⟨rfl,rfl⟩,HW.out.2⟩
      ·have HV:Hid (V=⟨0,false,9⟩):=by
        show V=_
        rw [ZW.out,show decide (0<p.size)=false by simpa using hz];rfl
       have dz:decide (p.size>0)=false:=by simpa using hz
       clear hz
       go_upto_region 20 with(first|(go_at_call 97;refine Jw.out.mono ?_;rintro e w5⟨rfl,hb5⟩;have bD:=Lib.hid hb5;unfold Ck.OT;clear hb5))
       generalize hw6:World.alloc _ _=w6
       have H6:Hid (Below w.heap.size w w6∧ak w6 w5.heap.size 112 #[.int .i64 p.b, .bool p.s, .bool p.loc, .int .i64 (p.slot:Int), .int .i64 p.size]∧ak w6 w.heap.size 33 #[.int .i64 0, .bool false]):=by
        subst hw6;exact⟨Ext.alloc (Ext.trans oP.out bD.out) _,ak.new _ _ _,(Ef.out.keep bD.out).alloc _⟩
       have p4:=H6.out.2.1.cell 4
       have c0:=(ig.out _ H6.out.1).c0
       have Lm:=H6.out.2.1.lt
       clear hw6
       refine Rg.wp_region [] (by kernel_rfl) (by kernel_rfl) ?_
       repeat(first|(refine Rg.cO ?_)|(refine Rg.bJ rfl ?_;simp only [Act.put,List.setIfInBounds_toArray,List.set_cons_zero,List.set_cons_succ])|(refine Rg.fP rfl rfl (fun K hK=>?_);go_big_quiet_op;refine hK _ ?_;clear hK K)|(refine Rg.fQ rfl rfl (fun K hK=>?_);go_wp2_with(first|fail|fail)))
       go_upto_region 21 with(fail)
       generalize hw7:World.drew w6=w7
       have H7:Hid (Below w.heap.size w w7∧ak w7 w5.heap.size 112 #[.int .i64 p.b, .bool p.s, .bool p.loc, .int .i64 (p.slot:Int), .int .i64 p.size]∧ak w7 w.heap.size 33 #[.int .i64 0, .bool false]):=by
        subst hw7;exact⟨H6.out.1.drew,H6.out.2.1.drew,H6.out.2.2.drew⟩
       clear hw7 p4 Lm c0
       have z0:=H7.out.2.2.cell 0;have z1:=H7.out.2.2.cell 1;have z2:=H7.out.2.2.frozen 0;have z3:=H7.out.2.2.frozen 1;have z4:=H7.out.2.2.lt
       have p0:=H7.out.2.1.cell 0;have p1:=H7.out.2.1.cell 1
       go_wp2
       generalize hW:World.setCell _ _ _=wz
       have HW:Hid (ak wz w.heap.size 33 #[.int .i64 0, .bool false]∧Below w.heap.size w wz):=by
        subst hW
        exact⟨aW H7.out.2.2 _ _,Ext.setCell (Ext.setCell H7.out.1 (Nat.le_refl _) _) (Nat.le_refl _) _⟩
       clear hW z0 z1 z2 z3 p0 p1
       have q0:=HW.out.1.cell 0;have q1:=HW.out.1.cell 1
       have ql:=HW.out.1.lt
       exact bodyPost_ret (v:= .tuple #[W.ty 0 false, .int .i64 9]) (by simp [results,Try.results75,go_sem,q0,q1,ql]) rfl ⟨0,false,by rw [HV.out],fun h=>by rw [HV.out]at h;exact absurd (show(9:Int)=0 from h) (by decide),HW.out.2⟩
   have hvd:=Ee.out
   rw [if_neg h2]at hvd
   have Ee:=Lib.hid hvd
   clear hvd
   have d2:(k==2)=false:=by simp;omega
   have d3:(k==3)=false:=by simp;omega
   have d4:(k==4)=false:=by have:=HN4.out;simpa using this
   by_cases h3:k=6∨k=7
   ·have hj1:1≤j:=H67.out h3
    obtain⟨gv,rfl⟩:∃gv,va=some ⟨gv,0,none⟩:=by
     rcases HO.out.2 with⟨_,h0⟩|⟨g',cap,cur,ev,_⟩
     ·omega
     ·injection ev with ev;exact⟨_,ev⟩
    obtain⟨t0,ht0⟩:∃t0,ts[0]?=some t0:=⟨_,List.getElem?_eq_getElem (by rw [YN.out];exact hj1)⟩
    have hrow:=zA HO.out (i:=0) (t:=(t0.b,t0.s)) (by rw [kZ.out];unfold Ck.Py;rw [List.getElem?_map,ht0];rfl)
    simp only [Nat.zero_mul,Nat.zero_add]at hrow
    obtain⟨r0,r1⟩:=hrow
    have HV:Hid (V=⟨W.pb t0.b,W.ps t0.b t0.s,0⟩):=by
     have hvd:=Ee.out
     rw [if_pos h3]at hvd
     show V=_
     rw [hvd,List.headD_eq_head?_getD,List.head?_eq_getElem?,ht0];rfl
    obtain⟨tb0,F9,te0⟩:=t0
    have hvc:(j:Int)≤(vc:Int):=by obtain⟨_,_,e2,h2',h3'⟩:=bG HO.out;injection e2 with _ _ e2;omega
    clear ht0
    rcases h3 with rfl|rfl<;>
    ·go_wp2_with(first|(go_at_call 61;refine(dB _ _ _).mono ?_;rintro e w5⟨rfl,hb5⟩;have bD:=Lib.hid hb5;have jo:=Lib.hid (Ef.out.keep hb5);have y0:=jo.out.cell 0;have y1:=jo.out.cell 1;have y2:=jo.out.frozen 0;have y3:=jo.out.frozen 1;have y4:=jo.out.lt;clear hb5))
     generalize hW:World.setCell _ _ _=wz
     have HW:Hid (ak wz w.heap.size 33 #[.int .i64 (W.pb tb0), .bool (W.ps tb0 F9)]∧Below w.heap.size w wz):=by
      subst hW
      exact⟨aW jo.out _ _,Ext.setCell (Ext.setCell (Ext.trans oP.out bD.out) (Nat.le_refl _) _) (Nat.le_refl _) _⟩
     clear hW x0 x1 u0 u1 y0 y1 y2 y3
     have q0:=HW.out.1.cell 0;have q1:=HW.out.1.cell 1
     have ql:=HW.out.1.lt
     exact bodyPost_ret (v:= .tuple #[W.ty (W.pb tb0) (W.ps tb0 F9), .int .i64 0]) (by simp [results,Try.results75,go_sem,q0,q1,ql]) rfl ⟨W.pb tb0,W.ps tb0 F9,by rw [HV.out],fun _=>by rw [HV.out];exact⟨rfl,rfl⟩,HW.out.2⟩
   have d6:(k==6)=false:=by simp;omega
   have d7:(k==7)=false:=by simp;omega
   by_cases h5:k=8∨k=25∨k=26
   ·have HV:Hid (V=⟨16,true,0⟩):=by show V=_;rw [Ee.out,if_neg h3,if_pos h5]
    rcases h5 with rfl|rfl|rfl<;>
    ·go_wp2
     generalize hW:World.alloc _ _=wz
     have HW:Hid (ak wz w.heap.size 33 #[.int .i64 16, .bool true]∧Below w.heap.size w wz):=by
      subst hW
      exact⟨(aW Ef.out _ _).alloc _,Ext.alloc (Ext.setCell (Ext.setCell oP.out (Nat.le_refl _) _) (Nat.le_refl _) _) _⟩
     clear hW x0 x1 u0 u1
     have q0:=HW.out.1.cell 0;have q1:=HW.out.1.cell 1
     have ql:=HW.out.1.lt
     exact bodyPost_ret (v:= .tuple #[W.ty 16 true, .int .i64 0]) (by simp [results,Try.results75,go_sem,q0,q1,ql]) rfl ⟨16,true,by rw [HV.out],fun _=>by rw [HV.out];exact⟨rfl,rfl⟩,HW.out.2⟩
   have d8:(k==8)=false:=by simp;omega
   have d25:(k==25)=false:=by simp;omega
   have d26:(k==26)=false:=by simp;omega
   have hk9:9≤k:=by have:=zT.out;have:=HN4.out;omega
   have hj2:2≤j:=H9.out hk9
   obtain⟨gv,rfl⟩:∃gv,va=some ⟨gv,0,none⟩:=by
    rcases HO.out.2 with⟨_,h0⟩|⟨g',cap,cur,ev,_⟩
    ·omega
    ·injection ev with ev;exact⟨_,ev⟩
   obtain⟨t0,ht0⟩:∃t0,ts[0]?=some t0:=⟨_,List.getElem?_eq_getElem (by rw [YN.out];omega)⟩
   obtain⟨t1,ht1⟩:∃t1,ts[1]?=some t1:=⟨_,List.getElem?_eq_getElem (by rw [YN.out];omega)⟩
   have hrow:=zA HO.out (i:=0) (t:=(t0.b,t0.s)) (by rw [kZ.out];unfold Ck.Py;rw [List.getElem?_map,ht0];rfl)
   have hrow1:=zA HO.out (i:=1) (t:=(t1.b,t1.s)) (by rw [kZ.out];unfold Ck.Py;rw [List.getElem?_map,ht1];rfl)
   simp only [Nat.zero_mul,Nat.zero_add,Nat.one_mul,Nat.reduceAdd]at hrow hrow1
   obtain⟨r0,r1⟩:=hrow
   obtain⟨r2,r3⟩:=hrow1
   have HV:Hid (V=⟨W.rb k t0.b t1.b,W.rs k t0.b t0.s t1.b t1.s,0⟩):=by
    show V=_
    rw [Ee.out,if_neg h3,if_neg h5,List.getD_eq_getElem?_getD,List.getD_eq_getElem?_getD,ht0,ht1];rfl
   obtain⟨tb0,F9,te0⟩:=t0
   obtain⟨ZX,ts1,te1⟩:=t1
   have hvc:(j:Int)≤(vc:Int):=by obtain⟨_,_,e2,h2',h3'⟩:=bG HO.out;injection e2 with _ _ e2;omega
   obtain⟨RB,UH⟩:∃RB,RB=W.rb k tb0 ZX:=⟨_,rfl⟩
   obtain⟨RS,hRS⟩:∃RS,RS=W.rs k tb0 F9 ZX ts1:=⟨_,rfl⟩
   have HRE:Hid (∀w1:World,Calls Try.prog 47 #[.int .i64 k,W.ty tb0 F9,W.ty ZX ts1] w1 fun e w'=>e= .returned (W.ty RB RS)∧Below w1.heap.size w1 w'):=fun w1=>by rw [UH,hRS];exact xR k tb0 ZX F9 ts1 w1
   rw [←UH,←hRS]at HV
   clear ht0 ht1 h1 h2 h3 h5 UH hRS hk9
   go_upto_region 32 with(fail)
   refine Rg.wp_region [] (by kernel_rfl) (by kernel_rfl) ?_
   repeat(first|(refine Rg.cO ?_)|(refine Rg.bJ rfl ?_;simp only [Act.put,List.setIfInBounds_toArray,List.set_cons_zero,List.set_cons_succ])|(refine Rg.fP rfl rfl (fun K hK=>?_);go_big_quiet_op;refine hK _ ?_;clear hK K)|(refine Rg.fQ rfl rfl (fun K hK=>?_);go_wp2_with(first|fail|(go_at_call 47;refine(HRE.out _).mono ?_;rintro e w5⟨rfl,hb5⟩;(first|(have jo:=Lib.hid (Ef.out.keep hb5);have gU:=Lib.hid (Ext.trans oP.out hb5))|(have jo:=Lib.hid (Ef.out.drew.keep hb5);have gU:=Lib.hid (Ext.trans oP.out.drew hb5)));have y0:=jo.out.cell 0;have y1:=jo.out.cell 1;have y2:=jo.out.frozen 0;have y3:=jo.out.frozen 1;have y4:=jo.out.lt;clear hb5))))
   go_wp2
   generalize hW:World.setCell _ _ _=wz
   have HW:Hid (ak wz w.heap.size 33 #[.int .i64 RB, .bool RS]∧Below w.heap.size w wz):=by
    subst hW
    exact⟨aW jo.out _ _,Ext.setCell (Ext.setCell gU.out (Nat.le_refl _) _) (Nat.le_refl _) _⟩
   clear hW x0 x1 u0 u1 y0 y1 y2 y3
   have q0:=HW.out.1.cell 0;have q1:=HW.out.1.cell 1
   have ql:=HW.out.1.lt
   exact bodyPost_ret (v:= .tuple #[W.ty RB RS, .int .i64 0]) (by simp [results,Try.results75,go_sem,q0,q1,ql]) rfl ⟨RB,RS,by rw [HV.out],fun _=>by rw [HV.out];exact⟨rfl,rfl⟩,HW.out.2⟩
end Go.Proofs.Ythdckndjggljpaa
