/- Proofs of this claim, part 23. No condition. -/
import Derived.Test.YthdckndjggljpaaS22
namespace Go.Proofs.Ythdckndjggljpaa
set_option linter.unusedVariables false
set_option linter.unusedSimpArgs false
set_option maxRecDepth 100000
set_option maxHeartbeats 64000000
open Go.RowKit
theorem kR.done{w wr:World}{k n b:Int}{s:Bool}{nm:ByteArray}{pv:Value}{fs:List X}{av:Option Addr}{cv:Nat}{cs:Nat→List Value}{j:Nat}(h:kR w k n b s nm pv fs j av cv cs wr)(hj:fs.length=j):
 dA wr (fun g=>w.heap.size+3≤g) (.mk k n b s nm fs) (X.cells k n b s nm (.slice av j cv)):=by
 subst hj
 exact dA.row (cs:=cs) h.own (fun i y hy=>(h.kids i y (List.getElem?_eq_some_iff.1 hy).1 hy).move fun g hg hlt=>⟨hg.1,rfl⟩) (fun g e=>(h.own.lt g e).1)
theorem dA.set1{w w1:World}{x:X}{cs:List Value}{g:Nat}(h:dA w1 (fun q=>w.heap.size+3≤q) x cs)(hg:g<w.heap.size+3)(row:Array Value):dA (w1.setRow g row) (fun q=>w.heap.size≤q) x cs:=
 h.move fun q hq hlt=>⟨by omega,setRow_other w1 g q row (by omega)⟩
theorem kR.Yp{w wr:World}{k n b:Int}{s:Bool}{nm:ByteArray}{pv:Value}{fs:List X}{av:Option Addr}{cv:Nat}{cs:Nat→List Value}{j:Nat}(h:kR w k n b s nm pv fs j av cv cs wr):some (w.heap.size+2)≠(Value.slice av j cv).ownBlock:=
 fun e=>by have:=(h.own.lt _ e.symm).1;omega
theorem Ob{fs:List X}{j:Nat}{F:X}(h:fs[j]?=some F):(fs.take (j+1)).all X.known=((fs.take j).all X.known&&X.known F):=by
 rw [List.take_add_one,h,List.all_append];simp
theorem Jj(k n b:Int)(s:Bool)(nm:ByteArray)(ks:List X)(a:Option Addr)(L c:Nat)(w:World)(hX:eU w (.mk k n b s nm ks) (X.cells k n b s nm (.slice a L c)))(hs:X.gK (.mk k n b s nm ks))(hw:X.Wf (.mk k n b s nm ks))(IH:∀y∈ks,SV y):
 Calls Try.prog 20 #[.agg #[.int .i64 k, .int .u64 n, .int .i64 b, .bool s, .string nm, .slice a L c]] w (zO (X.bQ k n b s nm (ks.map X.fold)) w):=by
 obtain⟨hL,_,_⟩:=hX.lens
 have hL8:L≤8:=by
  have:=(X.eH hs.own).2.2.2.2
  simp only [X.kind,X.kids]at this
  rw [hL]at this
  have h2:X.aX k≤2:=by unfold X.aX;split<;>(try split)<;>(try split)<;>(try split)<;>omega
  omega
 have abu:=Lib.hid hX
 have HSH:=Lib.hid hs
 have Gh:=Lib.hid hw
 have HIH:=Lib.hid IH
 obtain⟨fs,hfs⟩:∃fs,fs=ks.map X.fold:=⟨_,rfl⟩
 have abw:=Lib.hid hfs
 have hfl:fs.length=L:=by rw [hfs,List.length_map,hL]
 have VG:=Lib.hid hfl
 have HKL:=Lib.hid hL
 rw [←hfs]
 have hgo:=X.dL (.mk k n b s nm ks) hs hw
 have ZO:Hid (X.gK (.mk k n b s nm fs)∧X.Wf (.mk k n b s nm fs)):=by
  show _∧_
  rw [hfs]
  constructor
  ·refine .mk _ _ _ _ _ _ ?_ (fun y hy=>?_)
   ·rw [List.length_map];exact hs.own
   ·obtain⟨z,hz,rfl⟩:=List.mem_map.1 hy;exact(X.dL z (hs.kid hz) (hw.kid hz)).1
  ·cases hw with|mk _ _ _ _ _ _ hk hn hb hs2 h=>
   refine .mk _ _ _ _ _ _ hk hn hb hs2 (fun y hy=>?_)
   obtain⟨z,hz,rfl⟩:=List.mem_map.1 hy;exact(X.dL z (hs.kid hz) (h z hz)).2.1
 obtain⟨v0,hv0⟩:∃v0,decide (k≥5)=v0:=⟨_,rfl⟩
 have HV0:=Lib.hid hv0
 obtain⟨R,hR⟩:∃R,R=X.bQ k n b s nm fs:=⟨_,rfl⟩
 rw [←hR]
 have HR:=Lib.hid hR
 clear hR hfs hfl hL hgo hX hs hw IH
 have abx:=Lib.hid (kR.start w k n b s nm (.slice a L c) fs)
 go_enter Try.func20,Try.ntmps20
 go_upto_region 5 with(fail)
 go_loopw [4,21](fun al i wr=>∃(j:Nat)(av:Option Addr)(cv:Nat)(cs:Nat→List Value)(q:Bool),j≤L∧i= .int .i64 (j:Int)∧al= .bool q∧Hid (q=(v0&&(fs.take j).all X.known))∧Hid (kR w k n b s nm (.slice a L c) fs j av cv cs wr))(fun al i wr=>L-(intOf i).toNat)
 case atStart=>exact⟨0,none,0,fun _=>[],v0,Nat.zero_le _,rfl,rfl,(by show v0=_;simp),abx.out⟩
 case round=>
  obtain⟨j,av,cv,cs,q,hj,rfl,rfl,HQ,vI⟩:=hrel
  by_cases hlt:j<L
  ·obtain⟨y,hy⟩:∃y,ks[j]?=some y:=⟨_,List.getElem?_eq_getElem (by rw [HKL.out];exact hlt)⟩
   obtain⟨gk,off,ay,cy,ha,hxy,k0,k1,k2,k3,k4,k5⟩:=(abu.out.keep vI.out.ext).kid hy
   subst ha
   have hym:=List.mem_of_getElem? hy
   obtain⟨F,hF⟩:∃F,F=X.fold y:=⟨_,rfl⟩
   have kU:Hid (Calls Try.prog 20 #[.agg #[.int .i64 y.kind, .int .u64 y.num, .int .i64 y.bits, .bool y.sg, .string y.name, .slice ay y.kids.length cy]] wr (zO F wr)):=by rw [hF];exact HIH.out y hym wr _ hxy
   have hgd:=X.dL y (HSH.out.kid hym) (Gh.out.kid hym)
   rw [←hF]at hgd
   obtain⟨ok,hok⟩:∃ok,ok=X.known F:=⟨_,rfl⟩
   obtain⟨KN,hKN⟩:∃z,z=(if ok then(X.cst F).n else 0):=⟨_,rfl⟩
   obtain⟨KB,WV⟩:∃z,z=(if ok then(X.cst F).b else 0):=⟨_,rfl⟩
   obtain⟨KS,hKS⟩:∃z,z=(if ok then(X.cst F).s else false):=⟨_,rfl⟩
   have Rw:Hid (∀(w1:World)(B:Nat)(a:Option Addr)(c:Nat),eU w1 F (X.cells F.kind F.num F.bits F.sg F.name (.slice a F.kids.length c))→Bx w1 B F.kind F.num F.bits F.sg F.name (.slice a F.kids.length c)→Calls Try.prog 40 #[P B] w1 (Kz KN KB KS ok w1)):=fun w1 B a c h1 h2=>by
    have:=NI F hgd.1 hgd.2.1 w1 B a c h1 h2
    rw [←hok,←hKN,←WV,←hKS]at this;exact this
   have Jk:Hid (fs[j]?=some F):=by show _=_;rw [abw.out,List.getElem?_map,hy,hF];rfl
   have Tf:Hid ((v0&&(fs.take (j+1)).all X.known)=(q&&ok)):=by show _=_;rw [Ob Jk.out,HQ.out,hok,Bool.and_assoc]
   have iD:=Lib.hid hlt
   have Zf:Hid (j+1≤1000000000):=by show j+1≤_;omega
   clear hF hgd hok hKN WV hKS hxy hym hy
   obtain⟨yk,hyk⟩:∃z,z=y.kind:=⟨_,rfl⟩
   obtain⟨yn,hyn⟩:∃z,z=y.num:=⟨_,rfl⟩
   obtain⟨yb,hyb⟩:∃z,z=y.bits:=⟨_,rfl⟩
   obtain⟨ysg,hys⟩:∃z,z=y.sg:=⟨_,rfl⟩
   obtain⟨YF,YG⟩:∃z,z=y.name:=⟨_,rfl⟩
   obtain⟨yl,hyl⟩:∃z,z=y.kids.length:=⟨_,rfl⟩
   rw [←hyk]at k0 kU;rw [←hyn]at k1 kU;rw [←hyb]at k2 kU;rw [←hys]at k3 kU;rw [←YG]at k4 kU;rw [←hyl]at k5 kU
   clear hyk hyn hyb hys YG hyl y
   obtain⟨x0,x1,x2,x3,x4,x5⟩:=Bx.six vI.out.bx
   obtain⟨o0,o1,o2,o3,o4,o5⟩:=Bx.six vI.out.ob
   rcases q with _|_
   ·go_wp2_with(first|(go_at_call 20;refine kU.out.mono ?_;rintro e w4⟨cs',rfl,hin,hb4⟩;obtain⟨a2,c2,hcs⟩:=hin.form;subst hcs;have Gm:=Lib.hid hin;have HB4:=Lib.hid hb4;clear hin hb4 x0 x1 x2 x3 x4 x5 k0 k1 k2 k3 k4 k5 o0 o1 o2 o3 o4 o5)|(go_at_call 40;refine(Rw.out _ _ _ _ ((Gm.out.keep (Ext.alloc (Below.refl _ _) _)).at) (ak.new _ _ _)).mono ?_;rintro e w5⟨rfl,hb5⟩;have bD:=Lib.hid (Ext.trans HB4.out (Ext.trans (Ext.alloc (Below.refl _ _) _) hb5));have HK5:=Lib.hid ((ak.new w4 62 #[.int .i64 F.kind, .int .u64 F.num, .int .i64 F.bits, .bool F.sg, .string F.name, .slice a2 F.kids.length c2]).keep hb5);have HN5:=Lib.hid (Nat.lt_of_lt_of_le (show w4.heap.size<(w4.alloc (.cells #[.int .i64 F.kind, .int .u64 F.num, .int .i64 F.bits, .bool F.sg, .string F.name, .slice a2 F.kids.length c2] 62)).heap.size by simp) hb5.size);have VH:=Lib.hid (Gm.out.keep (Ext.trans (Ext.alloc (Below.refl _ _) _) hb5));clear hb5;have FA:=Lib.hid (vI.out.keep (Ext.alloc bD.out (.cells #[.int .i64 KB, .bool KS] 33)));obtain⟨o0,o1,o2,o3,o4,o5⟩:=Bx.six FA.out.ob;obtain⟨q0,q1,q2,q3,q4,q5⟩:=Bx.six (HK5.out.alloc (.cells #[.int .i64 KB, .bool KS] 33)))|(refine mD rfl _ _ rfl (w.heap.size+3) (.slice av j cv) j (flat cs j) (w5.heap.size+1) F.kind F.num F.bits F.sg F.name a2 F.kids.length c2 rfl rfl ((FA.out.keep (Ext.alloc (Below.refl _ _) _)).own) (by have h8:=ak.new (w5.alloc (.cells #[.int .i64 KB, .bool KS] 33)) 62 #[.int .i64 F.kind, .int .u64 F.num, .int .i64 F.bits, .bool F.sg, .string F.name, .slice a2 F.kids.length c2];simpa using h8) Zf.out (FA.out.keep (Ext.alloc (Below.refl _ _) _)).lt ?_;intro a3 c3 w6 YH zf Oc;have HST:=Lib.hid ((FA.out.keep (Ext.alloc (Below.refl _ _) _)).step Jk.out (VH.out.keep (Ext.alloc (Ext.alloc (Below.refl _ _) _) _)) vI.out.lt (fun g e=>(vI.out.own.lt g e).2) YH zf Oc);have VI:=Lib.hid ((FA.out.keep (Ext.alloc (Below.refl _ _) _)).ob.grown zf FA.out.Yp);have r5:=VI.out.cell 5;have f5:=VI.out.frozen 5;clear YH zf Oc o0 o1 o2 o3 o4 o5 q0 q1 q2 q3 q4 q5))
    go_round
    case rel=>exact⟨j+1,a3,c3,_,false,iD.out,by go_num,rfl,(by show false=_;rw [Tf.out];rfl),HST.out⟩
    case measure=>have:=iD.out;simp [intOf];omega
   ·go_wp2_with(first|(go_at_call 20;refine kU.out.mono ?_;rintro e w4⟨cs',rfl,hin,hb4⟩;obtain⟨a2,c2,hcs⟩:=hin.form;subst hcs;have Gm:=Lib.hid hin;have HB4:=Lib.hid hb4;clear hin hb4 x0 x1 x2 x3 x4 x5 k0 k1 k2 k3 k4 k5 o0 o1 o2 o3 o4 o5)|(go_at_call 40;refine(Rw.out _ _ _ _ ((Gm.out.keep (Ext.alloc (Below.refl _ _) _)).at) (ak.new _ _ _)).mono ?_;rintro e w5⟨rfl,hb5⟩;have bD:=Lib.hid (Ext.trans HB4.out (Ext.trans (Ext.alloc (Below.refl _ _) _) hb5));have HK5:=Lib.hid ((ak.new w4 62 #[.int .i64 F.kind, .int .u64 F.num, .int .i64 F.bits, .bool F.sg, .string F.name, .slice a2 F.kids.length c2]).keep hb5);have HN5:=Lib.hid (Nat.lt_of_lt_of_le (show w4.heap.size<(w4.alloc (.cells #[.int .i64 F.kind, .int .u64 F.num, .int .i64 F.bits, .bool F.sg, .string F.name, .slice a2 F.kids.length c2] 62)).heap.size by simp) hb5.size);have VH:=Lib.hid (Gm.out.keep (Ext.trans (Ext.alloc (Below.refl _ _) _) hb5));clear hb5;have FA:=Lib.hid (vI.out.keep (Ext.alloc bD.out (.cells #[.int .i64 KB, .bool KS] 33)));obtain⟨o0,o1,o2,o3,o4,o5⟩:=Bx.six FA.out.ob;obtain⟨q0,q1,q2,q3,q4,q5⟩:=Bx.six (HK5.out.alloc (.cells #[.int .i64 KB, .bool KS] 33)))|(refine mD rfl _ _ rfl (w.heap.size+3) (.slice av j cv) j (flat cs j) (w5.heap.size+1) F.kind F.num F.bits F.sg F.name a2 F.kids.length c2 rfl rfl ((FA.out.keep (Ext.alloc (Below.refl _ _) _)).own) (by have h8:=ak.new (w5.alloc (.cells #[.int .i64 KB, .bool KS] 33)) 62 #[.int .i64 F.kind, .int .u64 F.num, .int .i64 F.bits, .bool F.sg, .string F.name, .slice a2 F.kids.length c2];simpa using h8) Zf.out (FA.out.keep (Ext.alloc (Below.refl _ _) _)).lt ?_;intro a3 c3 w6 YH zf Oc;have HST:=Lib.hid ((FA.out.keep (Ext.alloc (Below.refl _ _) _)).step Jk.out (VH.out.keep (Ext.alloc (Ext.alloc (Below.refl _ _) _) _)) vI.out.lt (fun g e=>(vI.out.own.lt g e).2) YH zf Oc);have VI:=Lib.hid ((FA.out.keep (Ext.alloc (Below.refl _ _) _)).ob.grown zf FA.out.Yp);have r5:=VI.out.cell 5;have f5:=VI.out.frozen 5;clear YH zf Oc o0 o1 o2 o3 o4 o5 q0 q1 q2 q3 q4 q5))
    go_round
    case rel=>exact⟨j+1,a3,c3,_,ok,iD.out,by go_num,rfl,(by show ok=_;rw [Tf.out];rfl),HST.out⟩
    case measure=>have:=iD.out;simp [intOf];omega
  ·have hjl:L=j:=by omega
   subst hjl
   have HD:=Lib.hid (vI.out.done VG.out)
   have HQ3:Hid (q=(v0&&fs.all X.known)):=by
    show q=_;rw [HQ.out,List.take_of_length_le (by rw [VG.out];exact Nat.le_refl _)]
   rcases q with _|_
   ·have YI:Hid (R= .mk k n b s nm fs):=by
     show R=_;rw [HR.out];unfold X.bQ;rw [if_neg (fun h=>by have h1:=h.1;have h2:=HQ3.out;rw [←HV0.out]at h2;rw [←h2]at h1;exact Bool.false_ne_true h1)]
    obtain⟨o0,o1,o2,o3,o4,o5⟩:=Bx.six vI.out.ob
    go_wp2_with(first|(refine wpList_store_row rfl 62 _ _ rfl (w.heap.size+1) #[.int .i64 k, .int .u64 n, .int .i64 b, .bool s, .string nm, .slice av L cv] rfl rfl 62 zX vI.out.rz (by kernel_rfl) rfl (AO _ _ _ _ _ _ _ _) ?_))
    exact bodyPost_ret (dH rfl _ _ (w.heap.size+1) 62 #[.int .i64 k, .int .u64 n, .int .i64 b, .bool s, .string nm, .slice av L cv] (0,0) _ rfl (vI.out.rz.jQ _) Try.underlying62 rfl (by kernel_rfl)) rfl
     ⟨X.cells k n b s nm (.slice av L cv),rfl,by rw [YI.out];exact HD.out.set1 (by omega) _,Below.jQ vI.out.ext (Nat.le_succ _) _⟩
   ·obtain⟨N,hN⟩:∃z,z=(X.cst (.mk k n b s nm fs)).n:=⟨_,rfl⟩
    obtain⟨NB,ZP⟩:∃z,z=(X.cst (.mk k n b s nm fs)).b:=⟨_,rfl⟩
    obtain⟨NS,ZQ⟩:∃z,z=(X.cst (.mk k n b s nm fs)).s:=⟨_,rfl⟩
    obtain⟨NE,WW⟩:∃z,z=(X.cst (.mk k n b s nm fs)).e:=⟨_,rfl⟩
    have HCO:Hid (Calls Try.prog 29 #[.agg #[.int .i64 k, .int .u64 n, .int .i64 b, .bool s, .string nm, .slice av L cv]] wr (nS N NB NS NE wr)):=by
     have:=Mc (.mk k n b s nm fs) ZO.out.1 ZO.out.2 wr _ HD.out.at
     rw [←hN,←ZP,←ZQ,←WW]at this;exact this
    obtain⟨o0,o1,o2,o3,o4,o5⟩:=Bx.six vI.out.ob
    by_cases he:NE=0
    ·have YI:Hid (R=X.lit N NB NS):=by
      show R=_;rw [HR.out];unfold X.bQ;rw [if_pos ⟨(by have h2:=HQ3.out;rw [←HV0.out]at h2;exact h2.symm),(by rw [←WW];exact he)⟩,←hN,←ZP,←ZQ]
     have Tq:=X.fD _ ZO.out.1 ZO.out.2
     have hU:=Tq.U (by rw [←WW];exact he)
     rw [←hN]at hU
     have tu:Hid (∀w1,Calls Try.prog 41 #[.int .u64 N,W.ty NB NS] w1 (zO R w1)):=fun w1=>by rw [YI.out];exact zF N NB NS hU w1
     subst he
     clear hN ZP ZQ WW Tq hU
     go_wp2_with(first|(go_at_call 29;refine HCO.out.mono ?_;rintro e w7⟨rfl,hb7⟩;have H7:=Lib.hid (vI.out.keep (Ext.alloc hb7 (.cells #[.int .i64 NB, .bool NS] 33)));have T7:=Lib.hid (Ty.new w7 rfl NB NS 33);obtain⟨t0,t1,t2,t3⟩:=T7.out;clear hb7 o0 o1 o2 o3 o4 o5)|(go_at_call 41;refine(tu.out _).mono ?_;rintro e w8⟨cs8,rfl,hin,hb8⟩;obtain⟨a8,c8,hcs⟩:=hin.form;subst hcs;have Gm:=Lib.hid hin;have nU:=Lib.hid hb8;clear hin hb8)|(refine wpList_store_row rfl 62 _ _ rfl (w.heap.size+1) #[.int .i64 R.kind, .int .u64 R.num, .int .i64 R.bits, .bool R.sg, .string R.name, .slice a8 R.kids.length c8] rfl rfl 62 zX (H7.out.keep nU.out).rz (by kernel_rfl) rfl (AO _ _ _ _ _ _ _ _) ?_))
     exact bodyPost_ret (dH rfl _ _ (w.heap.size+1) 62 #[.int .i64 R.kind, .int .u64 R.num, .int .i64 R.bits, .bool R.sg, .string R.name, .slice a8 R.kids.length c8] (0,0) _ rfl ((H7.out.keep nU.out).rz.jQ _) Try.underlying62 rfl (by kernel_rfl)) rfl
      ⟨X.cells R.kind R.num R.bits R.sg R.name (.slice a8 R.kids.length c8),rfl,(Gm.out.move fun g hg hlt=>⟨Nat.le_trans H7.out.lt hg,rfl⟩:dA w8 (fun g=>w.heap.size+3≤g) R _).set1 (by omega) _,Below.jQ (H7.out.keep nU.out).ext (Nat.le_succ _) _⟩
    ·have YI:Hid (R= .mk k n b s nm fs):=by
      show R=_;rw [HR.out];unfold X.bQ;rw [if_neg (fun h=>he (by rw [WW];exact h.2))]
     have hq:(NE==0)=false:=by simpa using he
     clear hN ZP ZQ WW he
     go_wp2_with(first|(go_at_call 29;refine HCO.out.mono ?_;rintro e w7⟨rfl,hb7⟩;have H7:=Lib.hid (vI.out.keep (Ext.alloc hb7 (.cells #[.int .i64 NB, .bool NS] 33)));clear hb7 o0 o1 o2 o3 o4 o5;obtain⟨o0,o1,o2,o3,o4,o5⟩:=Bx.six H7.out.ob)|(refine wpList_store_row rfl 62 _ _ rfl (w.heap.size+1) #[.int .i64 k, .int .u64 n, .int .i64 b, .bool s, .string nm, .slice av L cv] rfl rfl 62 zX H7.out.rz (by kernel_rfl) rfl (AO _ _ _ _ _ _ _ _) ?_))
     exact bodyPost_ret (dH rfl _ _ (w.heap.size+1) 62 #[.int .i64 k, .int .u64 n, .int .i64 b, .bool s, .string nm, .slice av L cv] (0,0) _ rfl (H7.out.rz.jQ _) Try.underlying62 rfl (by kernel_rfl)) rfl
      ⟨X.cells k n b s nm (.slice av L cv),rfl,by rw [YI.out];exact(H7.out.done VG.out).set1 (by omega) _,Below.jQ H7.out.ext (Nat.le_succ _) _⟩
theorem zI(x:X):X.gK x→X.Wf x→SV x:=by
 induction x using X.up with
 |_ x ih=>
  intro hs hw w cs hX
  obtain⟨a,c,rfl,_⟩:=hX.open
  rw [X.fold_eq]
  obtain⟨k,n,b,s,nm,ks⟩:=x
  exact Jj k n b s nm ks a _ c w hX hs hw (fun y hy=>ih y hy (hs.kid hy) (hw.kid hy))
end Go.Proofs.Ythdckndjggljpaa
