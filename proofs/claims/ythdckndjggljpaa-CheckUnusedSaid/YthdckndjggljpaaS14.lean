/- Proofs of this claim, part 14. No condition. -/
import Derived.Test.YthdckndjggljpaaS13
namespace Go.Proofs.Ythdckndjggljpaa
set_option linter.unusedVariables false
set_option linter.unusedSimpArgs false
set_option maxRecDepth 100000
set_option maxHeartbeats 64000000
open Go.RowKit
theorem EN(g N q off:Nat)(d:Int)(w:World)(hN:N≤20000)(hB:bT w g N)(hm:20000≤N∨100<d):
 Calls Try.prog 57 #[P g, .pointer (some ⟨q,off,none⟩), .int .i64 d] w (bU g w (4,N+1)):=by
 have wW:Hid (∀w1:World,bT w1 g N→Calls Try.prog 36 #[P g, .int .i64 d] w1 (bU g w1 (4,N+1))):=fun w1 hb=>by
  have:=kN w1 g N d hN hb;rw [if_pos hm]at this;exact this
 have HB0:=Lib.hid hB
 have Xu:Hid (Below w.heap.size w ((w.alloc (.cells #[P g] 53)).alloc (.cells #[.pointer (some ⟨q,off,none⟩)] 104))):=Ext.alloc (Ext.alloc (Below.refl _ _) _) _
 have hg:=hB.lt
 have Ue:Hid (∀w3,aH g ((w.alloc (.cells #[P g] 53)).alloc (.cells #[.pointer (some ⟨q,off,none⟩)] 104)) w3→w3.cell? ⟨w.heap.size,0,none⟩=some (P g)∧w3.cell? ⟨w.heap.size+1,0,none⟩=some (.pointer (some ⟨q,off,none⟩))):=fun w3 hc=>
  ⟨hc.cell (by omega) (by simp [go_sem]),hc.cell (by omega) (by simp [go_sem])⟩
 clear hB hm hN hg
 go_enter Try.func57,Try.ntmps57
 go_wp2_with(first|(go_at_call 36;refine(wW.out _ (HB0.out.keep Xu.out)).mono ?_;rintro e w3⟨rfl,hc3,hb3⟩;have wM:=Lib.hid hc3;have HB3:=Lib.hid hb3;obtain⟨x3,x4⟩:=(Ue.out w3 hc3);clear hc3 hb3))
 go_ret
 exact⟨rfl,(aH.of_below Xu.out).trans wM.out,HB3.out⟩
structure Kn(g:Nat)(x i:X)(l0 l1 l2 l3:List S):Prop where
 x:y9 g x
 i:y9 g i
 l0:KG g l0
 l1:KG g l1
 l2:Dw g l2
 l3:Dw g l3
theorem DN(g N q off:Nat)(d k b:Int)(s:Bool)(nm:ByteArray)(has:Bool)(x i:X)(l0 l1 l2 l3:List S)(v0 v1 v2 v3:Value)(w:World)(hQ:SQ w g k b s nm has x i l0 l1 l2 l3 v0 v1 v2 v3 q off)(hN:N≤20000)(hd:0≤d)(hB:bT w g N)(hm:¬(20000≤N∨100<d))(hs:nm.size≤maxLen)(hK:Kn g x i l0 l1 l2 l3):
 Calls Try.prog 57 #[P g, .pointer (some ⟨q,off,none⟩), .int .i64 d] w (bU g w (S.cnt (.mk k b s nm has x i l0 l1 l2 l3) N d)):=by
 have hmf:∀(fn:Go.Fn)(first cap:Array Value)(w:World),(Instr.makeFunc fn first cap).run Try.prog w= .ok (.func fn first cap) w:=fun _ _ _ _=>rfl
 have wW:Hid (∀w1:World,bT w1 g N→Calls Try.prog 36 #[P g, .int .i64 d] w1 (bU g w1 (0,N+1))):=fun w1 hb=>by
  have:=kN w1 g N d hN hb;rw [if_neg hm]at this;exact this
 have HB0:=Lib.hid hB
 have HQ0:=Lib.hid hQ
 have Xu:Hid (Below w.heap.size w ((w.alloc (.cells #[P g] 53)).alloc (.cells #[.pointer (some ⟨q,off,none⟩)] 104))):=Ext.alloc (Ext.alloc (Below.refl _ _) _) _
 have hg:=hB.lt
 have Ue:Hid (∀w3,aH g ((w.alloc (.cells #[P g] 53)).alloc (.cells #[.pointer (some ⟨q,off,none⟩)] 104)) w3→w3.cell? ⟨w.heap.size,0,none⟩=some (P g)∧w3.cell? ⟨w.heap.size+1,0,none⟩=some (.pointer (some ⟨q,off,none⟩))):=fun w3 hc=>
  ⟨hc.cell (by omega) (by simp [go_sem]),hc.cell (by omega) (by simp [go_sem])⟩
 have HG:=Lib.hid hg
 have HM:=Lib.hid hm
 have HS:=Lib.hid hs
 have HK:=Lib.hid hK
 have hd1:d≤100:=by omega
 have uU:Hid (N+1≤20000):=by show N+1≤20000;omega
 obtain⟨R,hR⟩:∃R,R=S.cnt (.mk k b s nm has x i l0 l1 l2 l3) N d:=⟨_,rfl⟩
 rw [←hR]
 have HR:=Lib.hid hR
 clear hB hQ hm hN hg hs hK hR
 go_enter Try.func57,Try.ntmps57
 go_upto_region 5 with(first|(go_at_call 36;refine(wW.out _ (HB0.out.keep Xu.out)).mono ?_;rintro e w3⟨rfl,hc3,hb3⟩;have wM:=Lib.hid hc3;have HB3:=Lib.hid hb3;obtain⟨x3,x4⟩:=(Ue.out w3 hc3);clear hc3 hb3))
 generalize hw4:World.alloc w3 _=w4
 have Zn:Hid (Below w3.heap.size w3 w4):=by rw [←hw4];exact Ext.alloc (Below.refl _ _) _
 have hc8:w4.cell? ⟨w3.heap.size,0,none⟩=some (.int .i64 (d+1)):=by rw [←hw4];simp [go_sem]
 have hz3:w.heap.size+2≤w3.heap.size:=by have:=wM.out.size;simpa using this
 obtain⟨b8,hb8⟩:∃b8,b8=w3.heap.size:=⟨_,rfl⟩
 rw [←hb8]at hc8⊢
 obtain⟨b3,hb3⟩:∃b3,b3=w.heap.size:=⟨_,rfl⟩
 obtain⟨b4,hb4⟩:∃b4,b4=w.heap.size+1:=⟨_,rfl⟩
 have JQ:Hid (aH g w w4):=((aH.of_below Xu.out).trans wM.out).trans (aH.of_below Zn.out)
 have HCAP:Hid (Cap w4 g b3 b4 b8 q off (d+1)):=by
  have:=HG.out
  refine⟨by omega,by omega,by omega,?_,?_,hc8⟩
  ·rw [hb3];exact(aH.of_below Zn.out).cell (g:=g) (by omega) x3
  ·rw [hb4];exact(aH.of_below Zn.out).cell (g:=g) (by omega) x4
 rw [←hb3,←hb4]at*
 have HQ:=Lib.hid (HQ0.out.bC JQ.out)
 have HB:=Lib.hid (HB3.out.keep Zn.out)
 have x8:=HCAP.out.c8
 clear x3 x4
 have x3:=HCAP.out.c3
 have x4:=HCAP.out.c4
 have y0:=HQ.out.c0
 have y3:=HQ.out.c3
 clear hc8 hb8 hb3 hb4 hw4 hz3
 have C1:Hid (∀wi N',aH g w4 wi→bT wi g N'→N'≤20000→Calls Try.prog 78 #[P b3,P b4,P b8] wi (bU g wi (X.cnt x N' (d+1)))):=fun wi N' hc hb hn=>PO wi g b3 b4 b8 q off N' (d+1) k b s nm has x i l0 l1 l2 l3 v0 v1 v2 v3 (HQ.out.bC hc) (HCAP.out.bC hc) hb hn (by omega) (by omega) HK.out.x
 have C2:Hid (∀wi N',aH g w4 wi→bT wi g N'→N'≤20000→Calls Try.prog 79 #[P b3,P b4,P b8] wi (bU g wi (if has=true then X.cnt x N' (d+1)else(0,N')))):=fun wi N' hc hb hn=>PS wi g b3 b4 b8 q off N' (d+1) k b s nm has x i l0 l1 l2 l3 v0 v1 v2 v3 (HQ.out.bC hc) (HCAP.out.bC hc) hb hn (by omega) (by omega) HK.out.x
 have C3:Hid (∀wi N',aH g w4 wi→bT wi g N'→N'≤20000→Calls Try.prog 81 #[P b3,P b4,P b8] wi (bU g wi (S.cnts l2 N' (d+1)))):=fun wi N' hc hb hn=>Px wi g b3 b4 b8 q off N' (d+1) k b s nm has x i l0 l1 l2 l3 v0 v1 v2 v3 (HQ.out.bC hc) (HCAP.out.bC hc) hb hn (by omega) (by omega) HK.out.l2
 have C4:Hid (∀wi N',aH g w4 wi→bT wi g N'→N'≤20000→Calls Try.prog 83 #[P b4] wi (bU g wi (tyName b nm.data.toList,N'))):=fun wi N' hc hb hn=>PU wi g b3 b4 b8 q off N' (d+1) k b s nm has x i l0 l1 l2 l3 v0 v1 v2 v3 (HQ.out.bC hc) (HCAP.out.bC hc) hb hn (by omega) (by omega) HS.out
 have C5:Hid (∀wi N',aH g w4 wi→bT wi g N'→N'≤20000→Calls Try.prog 84 #[P b3,P b4,P b8] wi (bU g wi (if has=true then X.cnt i N' (d+1)else(0,N')))):=fun wi N' hc hb hn=>PV wi g b3 b4 b8 q off N' (d+1) k b s nm has x i l0 l1 l2 l3 v0 v1 v2 v3 (HQ.out.bC hc) (HCAP.out.bC hc) hb hn (by omega) (by omega) HK.out.i
 have C6:Hid (∀wi N',aH g w4 wi→bT wi g N'→N'≤20000→Calls Try.prog 85 #[P b3,P b4,P b8] wi (bU g wi (S.cnts l3 N' (d+1)))):=fun wi N' hc hb hn=>PW wi g b3 b4 b8 q off N' (d+1) k b s nm has x i l0 l1 l2 l3 v0 v1 v2 v3 (HQ.out.bC hc) (HCAP.out.bC hc) hb hn (by omega) (by omega) HK.out.l3
 have C7:Hid (∀wi N',aH g w4 wi→bT wi g N'→N'≤20000→Calls Try.prog 86 #[P b3,P b4,P b8] wi (bU g wi (S.sets l0 N' (d+1)))):=fun wi N' hc hb hn=>PX wi g b3 b4 b8 q off N' (d+1) k b s nm has x i l0 l1 l2 l3 v0 v1 v2 v3 (HQ.out.bC hc) (HCAP.out.bC hc) hb hn (by omega) (by omega) HK.out.l0
 have C8:Hid (∀wi N',aH g w4 wi→bT wi g N'→N'≤20000→Calls Try.prog 88 #[P b3,P b4,P b8] wi (bU g wi (S.sets l1 N' (d+1)))):=fun wi N' hc hb hn=>PY wi g b3 b4 b8 q off N' (d+1) k b s nm has x i l0 l1 l2 l3 v0 v1 v2 v3 (HQ.out.bC hc) (HCAP.out.bC hc) hb hn (by omega) (by omega) HK.out.l1
 have hgw:g≠w4.heap.size:=by have:=HB.out.lt;omega
 have Lp:=Lib.hid hgw
 clear hgw
 go_upto_region 9 with(fail)
 by_cases k1:k=1∨k=9∨k=10
 ·have HRR:Hid (R=(0,N+1)):=by show R=_;rw [HR.out,S.Lr HM.out k1]
  rcases k1 with rfl|rfl|rfl<;>
  ·go_wp2_with(fail)
   go_ret
   exact⟨by rw [HRR.out];rfl,JQ.out,by rw [HRR.out];exact HB.out⟩
 by_cases hk:k=2
 ·subst hk
  have HRR:Hid (R=fK ([⟨83,#[P b4],fun N=>(tyName b nm.data.toList,N)⟩,⟨79,#[P b3,P b4,P b8],fun N=>if has=true then X.cnt x N (d+1)else(0,N)⟩]) (N+1)):=by show R=_;rw [HR.out,S.Xv HM.out,iq,Az]
  have HP:Hid (∀wi B T,aH g w4 wi→bT wi g (N+1)→B≠g→ak wi B T #[.func (.func 83) #[] #[P b4], .func (.func 79) #[] #[P b3,P b4,P b8]]→Calls Try.prog 82 #[.slice (some ⟨B,0,none⟩) 2 2] wi (bU g wi R)):=fun wi B T hc hs hne hb=>by
   rw [HRR.out]
   refine lC g B hne (fun wi=>aH g w4 wi) (fun _ _ h1 h2=>h1.trans h2) ([⟨83,#[P b4],fun N=>(tyName b nm.data.toList,N)⟩,⟨79,#[P b3,P b4,P b8],fun N=>if has=true then X.cnt x N (d+1)else(0,N)⟩]) (by simp) (fun t ht N=>by simp only [List.mem_cons,List.not_mem_nil,or_false]at ht;rcases ht with rfl|rfl<;>(first|exact fun hN _=>hN|exact fun hN=>fJ hN (fun h=>X.dQ x _ _ hN h))) (fun t ht wi N hc hb hn=>by simp only [List.mem_cons,List.not_mem_nil,or_false]at ht;rcases ht with rfl|rfl<;>(first|exact C4.out wi N hc hb hn|exact C2.out wi N hc hb hn)) (fun t ht w=>by simp only [List.mem_cons,List.not_mem_nil,or_false]at ht;rcases ht with rfl|rfl<;>rfl) wi (N+1) hc hs uU.out (fun i t ht=>?_)
   match i,t,ht with
    |0,_,h=>injection h with h;subst h;exact hb.cell 0
    |1,_,h=>injection h with h;subst h;exact hb.cell 1
  clear k1 HRR
  go_wp2_with(first|(go_at_call 82;refine(HP.out _ _ _ (aH.of_below (Ext.alloc (Below.refl _ _) _)) (HB.out.alloc _) (fun e=>Lp.out e.symm) (ak.new _ _ _)).mono ?_;rintro e w5⟨rfl,hc5,hb5⟩;have mg:=Lib.hid hc5;have bD:=Lib.hid hb5;clear hc5 hb5))
  go_ret
  exact⟨rfl,(JQ.out.trans (aH.of_below (Ext.alloc (Below.refl _ _) _))).trans mg.out,bD.out⟩
 have q2:(k==2)=false:=by simpa using hk
 have n2:=hk
 clear hk
 by_cases hk:k=4
 ·subst hk
  have HC:Hid (Calls Try.prog 78 #[P b3,P b4,P b8] w4 (bU g w4 R)):=by rw [HR.out,S.Xq HM.out];exact C1.out w4 (N+1) (aH.of_below (Below.refl _ _)) HB.out uU.out
  clear k1
  go_wp2_with(first|(go_at_call 78;refine HC.out.mono ?_;rintro e w5⟨rfl,hc5,hb5⟩;have mg:=Lib.hid hc5;have bD:=Lib.hid hb5;clear hc5 hb5))
  go_ret
  exact⟨rfl,JQ.out.trans mg.out,bD.out⟩
 have q4:(k==4)=false:=by simpa using hk
 have n4:=hk
 clear hk
 by_cases hk:k=8
 ·subst hk
  have HC:Hid (Calls Try.prog 79 #[P b3,P b4,P b8] w4 (bU g w4 R)):=by rw [HR.out,S.Xw HM.out];exact C2.out w4 (N+1) (aH.of_below (Below.refl _ _)) HB.out uU.out
  clear k1
  go_wp2_with(first|(go_at_call 79;refine HC.out.mono ?_;rintro e w5⟨rfl,hc5,hb5⟩;have mg:=Lib.hid hc5;have bD:=Lib.hid hb5;clear hc5 hb5))
  go_ret
  exact⟨rfl,JQ.out.trans mg.out,bD.out⟩
 have q8:(k==8)=false:=by simpa using hk
 have n8:=hk
 clear hk
 by_cases hk:k=5
 ·subst hk
  have HRR:Hid (R=fK ([⟨78,#[P b3,P b4,P b8],fun N=>X.cnt x N (d+1)⟩,⟨81,#[P b3,P b4,P b8],fun N=>S.cnts l2 N (d+1)⟩,⟨85,#[P b3,P b4,P b8],fun N=>S.cnts l3 N (d+1)⟩]) (N+1)):=by show R=_;rw [HR.out,S.Xx HM.out,iq,iq,Az]
  have HP:Hid (∀wi B T,aH g w4 wi→bT wi g (N+1)→B≠g→ak wi B T #[.func (.func 78) #[] #[P b3,P b4,P b8], .func (.func 81) #[] #[P b3,P b4,P b8], .func (.func 85) #[] #[P b3,P b4,P b8]]→Calls Try.prog 82 #[.slice (some ⟨B,0,none⟩) 3 3] wi (bU g wi R)):=fun wi B T hc hs hne hb=>by
   rw [HRR.out]
   refine lC g B hne (fun wi=>aH g w4 wi) (fun _ _ h1 h2=>h1.trans h2) ([⟨78,#[P b3,P b4,P b8],fun N=>X.cnt x N (d+1)⟩,⟨81,#[P b3,P b4,P b8],fun N=>S.cnts l2 N (d+1)⟩,⟨85,#[P b3,P b4,P b8],fun N=>S.cnts l3 N (d+1)⟩]) (by simp) (fun t ht N=>by simp only [List.mem_cons,List.not_mem_nil,or_false]at ht;rcases ht with rfl|rfl|rfl<;>(first|exact fun hN h=>X.dQ x _ _ hN h|exact fun hN=>S.bF l2 _ _ hN|exact fun hN=>S.bF l3 _ _ hN)) (fun t ht wi N hc hb hn=>by simp only [List.mem_cons,List.not_mem_nil,or_false]at ht;rcases ht with rfl|rfl|rfl<;>(first|exact C1.out wi N hc hb hn|exact C3.out wi N hc hb hn|exact C6.out wi N hc hb hn)) (fun t ht w=>by simp only [List.mem_cons,List.not_mem_nil,or_false]at ht;rcases ht with rfl|rfl|rfl<;>rfl) wi (N+1) hc hs uU.out (fun i t ht=>?_)
   match i,t,ht with
    |0,_,h=>injection h with h;subst h;exact hb.cell 0
    |1,_,h=>injection h with h;subst h;exact hb.cell 1
    |2,_,h=>injection h with h;subst h;exact hb.cell 2
  clear k1 HRR
  go_wp2_with(first|(go_at_call 82;refine(HP.out _ _ _ (aH.of_below (Ext.alloc (Below.refl _ _) _)) (HB.out.alloc _) (fun e=>Lp.out e.symm) (ak.new _ _ _)).mono ?_;rintro e w5⟨rfl,hc5,hb5⟩;have mg:=Lib.hid hc5;have bD:=Lib.hid hb5;clear hc5 hb5))
  go_ret
  exact⟨rfl,(JQ.out.trans (aH.of_below (Ext.alloc (Below.refl _ _) _))).trans mg.out,bD.out⟩
 have q5:(k==5)=false:=by simpa using hk
 have n5:=hk
 clear hk
 by_cases hk:k=6
 ·subst hk
  have HRR:Hid (R=fK ([⟨78,#[P b3,P b4,P b8],fun N=>X.cnt x N (d+1)⟩,⟨81,#[P b3,P b4,P b8],fun N=>S.cnts l2 N (d+1)⟩]) (N+1)):=by show R=_;rw [HR.out,S.Xy HM.out,iq,Az]
  have HP:Hid (∀wi B T,aH g w4 wi→bT wi g (N+1)→B≠g→ak wi B T #[.func (.func 78) #[] #[P b3,P b4,P b8], .func (.func 81) #[] #[P b3,P b4,P b8]]→Calls Try.prog 82 #[.slice (some ⟨B,0,none⟩) 2 2] wi (bU g wi R)):=fun wi B T hc hs hne hb=>by
   rw [HRR.out]
   refine lC g B hne (fun wi=>aH g w4 wi) (fun _ _ h1 h2=>h1.trans h2) ([⟨78,#[P b3,P b4,P b8],fun N=>X.cnt x N (d+1)⟩,⟨81,#[P b3,P b4,P b8],fun N=>S.cnts l2 N (d+1)⟩]) (by simp) (fun t ht N=>by simp only [List.mem_cons,List.not_mem_nil,or_false]at ht;rcases ht with rfl|rfl<;>(first|exact fun hN h=>X.dQ x _ _ hN h|exact fun hN=>S.bF l2 _ _ hN)) (fun t ht wi N hc hb hn=>by simp only [List.mem_cons,List.not_mem_nil,or_false]at ht;rcases ht with rfl|rfl<;>(first|exact C1.out wi N hc hb hn|exact C3.out wi N hc hb hn)) (fun t ht w=>by simp only [List.mem_cons,List.not_mem_nil,or_false]at ht;rcases ht with rfl|rfl<;>rfl) wi (N+1) hc hs uU.out (fun i t ht=>?_)
   match i,t,ht with
    |0,_,h=>injection h with h;subst h;exact hb.cell 0
    |1,_,h=>injection h with h;subst h;exact hb.cell 1
  clear k1 HRR
  go_wp2_with(first|(go_at_call 82;refine(HP.out _ _ _ (aH.of_below (Ext.alloc (Below.refl _ _) _)) (HB.out.alloc _) (fun e=>Lp.out e.symm) (ak.new _ _ _)).mono ?_;rintro e w5⟨rfl,hc5,hb5⟩;have mg:=Lib.hid hc5;have bD:=Lib.hid hb5;clear hc5 hb5))
  go_ret
  exact⟨rfl,(JQ.out.trans (aH.of_below (Ext.alloc (Below.refl _ _) _))).trans mg.out,bD.out⟩
 have q6:(k==6)=false:=by simpa using hk
 have n6:=hk
 clear hk
 by_cases hk:k=7
 ·subst hk
  have HRR:Hid (R=fK ([⟨86,#[P b3,P b4,P b8],fun N=>S.sets l0 N (d+1)⟩,⟨79,#[P b3,P b4,P b8],fun N=>if has=true then X.cnt x N (d+1)else(0,N)⟩,⟨88,#[P b3,P b4,P b8],fun N=>S.sets l1 N (d+1)⟩,⟨81,#[P b3,P b4,P b8],fun N=>S.cnts l2 N (d+1)⟩]) (N+1)):=by show R=_;rw [HR.out,S.Xz HM.out,iq,iq,iq,Az]
  have HP:Hid (∀wi B T,aH g w4 wi→bT wi g (N+1)→B≠g→ak wi B T #[.func (.func 86) #[] #[P b3,P b4,P b8], .func (.func 79) #[] #[P b3,P b4,P b8], .func (.func 88) #[] #[P b3,P b4,P b8], .func (.func 81) #[] #[P b3,P b4,P b8]]→Calls Try.prog 82 #[.slice (some ⟨B,0,none⟩) 4 4] wi (bU g wi R)):=fun wi B T hc hs hne hb=>by
   rw [HRR.out]
   refine lC g B hne (fun wi=>aH g w4 wi) (fun _ _ h1 h2=>h1.trans h2) ([⟨86,#[P b3,P b4,P b8],fun N=>S.sets l0 N (d+1)⟩,⟨79,#[P b3,P b4,P b8],fun N=>if has=true then X.cnt x N (d+1)else(0,N)⟩,⟨88,#[P b3,P b4,P b8],fun N=>S.sets l1 N (d+1)⟩,⟨81,#[P b3,P b4,P b8],fun N=>S.cnts l2 N (d+1)⟩]) (by simp) (fun t ht N=>by simp only [List.mem_cons,List.not_mem_nil,or_false]at ht;rcases ht with rfl|rfl|rfl|rfl<;>(first|exact fun hN=>S.sJ l0 _ _ hN|exact fun hN=>fJ hN (fun h=>X.dQ x _ _ hN h)|exact fun hN=>S.sJ l1 _ _ hN|exact fun hN=>S.bF l2 _ _ hN)) (fun t ht wi N hc hb hn=>by simp only [List.mem_cons,List.not_mem_nil,or_false]at ht;rcases ht with rfl|rfl|rfl|rfl<;>(first|exact C7.out wi N hc hb hn|exact C2.out wi N hc hb hn|exact C8.out wi N hc hb hn|exact C3.out wi N hc hb hn)) (fun t ht w=>by simp only [List.mem_cons,List.not_mem_nil,or_false]at ht;rcases ht with rfl|rfl|rfl|rfl<;>rfl) wi (N+1) hc hs uU.out (fun i t ht=>?_)
   match i,t,ht with
    |0,_,h=>injection h with h;subst h;exact hb.cell 0
    |1,_,h=>injection h with h;subst h;exact hb.cell 1
    |2,_,h=>injection h with h;subst h;exact hb.cell 2
    |3,_,h=>injection h with h;subst h;exact hb.cell 3
  clear k1 HRR
  go_wp2_with(first|(go_at_call 82;refine(HP.out _ _ _ (aH.of_below (Ext.alloc (Below.refl _ _) _)) (HB.out.alloc _) (fun e=>Lp.out e.symm) (ak.new _ _ _)).mono ?_;rintro e w5⟨rfl,hc5,hb5⟩;have mg:=Lib.hid hc5;have bD:=Lib.hid hb5;clear hc5 hb5))
  go_ret
  exact⟨rfl,(JQ.out.trans (aH.of_below (Ext.alloc (Below.refl _ _) _))).trans mg.out,bD.out⟩
 have q7:(k==7)=false:=by simpa using hk
 have n7:=hk
 clear hk
 by_cases hk:k=11
 ·subst hk
  have HC:Hid (Calls Try.prog 81 #[P b3,P b4,P b8] w4 (bU g w4 R)):=by rw [HR.out,S.Uf HM.out];exact C3.out w4 (N+1) (aH.of_below (Below.refl _ _)) HB.out uU.out
  clear k1
  go_wp2_with(first|(go_at_call 81;refine HC.out.mono ?_;rintro e w5⟨rfl,hc5,hb5⟩;have mg:=Lib.hid hc5;have bD:=Lib.hid hb5;clear hc5 hb5))
  go_ret
  exact⟨rfl,JQ.out.trans mg.out,bD.out⟩
 have q11:(k==11)=false:=by simpa using hk
 have n11:=hk
 clear hk
 by_cases hk:k=3
 ·cases hn:Tk.oC nm.data.toList with
  |false=>
   subst hk
   have HRR:Hid (R=(7,N+1)):=by show R=_;rw [HR.out,S.TU HM.out hn]
   have JR:Hid (∀w1:World,Calls Try.prog 7 #[.string nm] w1 fun e w'=>e= .returned (.bool false)∧Below w1.heap.size w1 w'):=fun w1=>by
    have:=iR nm HS.out w1;rw [hn]at this;exact this
   clear k1 hn
   go_wp2_with(first|(go_at_call 7;refine(JR.out _).mono ?_;rintro e w5⟨rfl,hb2⟩;have HB2:=Lib.hid hb2;clear hb2))
   go_ret
   exact⟨by rw [HRR.out];rfl,JQ.out.trans (aH.of_below HB2.out),by rw [HRR.out];exact HB.out.keep HB2.out⟩
  |true=>
   have JR:Hid (∀w1:World,Calls Try.prog 7 #[.string nm] w1 fun e w'=>e= .returned (.bool true)∧Below w1.heap.size w1 w'):=fun w1=>by
    have:=iR nm HS.out w1;rw [hn]at this;exact this
   subst hk
   have HRR:Hid (R=fK ([⟨84,#[P b3,P b4,P b8],fun N=>if has=true then X.cnt i N (d+1)else(0,N)⟩,⟨78,#[P b3,P b4,P b8],fun N=>X.cnt x N (d+1)⟩]) (N+1)):=by show R=_;rw [HR.out,S.XA HM.out hn,iq,Az]
   have HP:Hid (∀wi B T,aH g w4 wi→bT wi g (N+1)→B≠g→ak wi B T #[.func (.func 84) #[] #[P b3,P b4,P b8], .func (.func 78) #[] #[P b3,P b4,P b8]]→Calls Try.prog 82 #[.slice (some ⟨B,0,none⟩) 2 2] wi (bU g wi R)):=fun wi B T hc hs hne hb=>by
    rw [HRR.out]
    refine lC g B hne (fun wi=>aH g w4 wi) (fun _ _ h1 h2=>h1.trans h2) ([⟨84,#[P b3,P b4,P b8],fun N=>if has=true then X.cnt i N (d+1)else(0,N)⟩,⟨78,#[P b3,P b4,P b8],fun N=>X.cnt x N (d+1)⟩]) (by simp) (fun t ht N=>by simp only [List.mem_cons,List.not_mem_nil,or_false]at ht;rcases ht with rfl|rfl<;>(first|exact fun hN=>fJ hN (fun h=>X.dQ i _ _ hN h)|exact fun hN h=>X.dQ x _ _ hN h)) (fun t ht wi N hc hb hn=>by simp only [List.mem_cons,List.not_mem_nil,or_false]at ht;rcases ht with rfl|rfl<;>(first|exact C5.out wi N hc hb hn|exact C1.out wi N hc hb hn)) (fun t ht w=>by simp only [List.mem_cons,List.not_mem_nil,or_false]at ht;rcases ht with rfl|rfl<;>rfl) wi (N+1) hc hs uU.out (fun i t ht=>?_)
    match i,t,ht with
     |0,_,h=>injection h with h;subst h;exact hb.cell 0
     |1,_,h=>injection h with h;subst h;exact hb.cell 1
   clear k1 HRR
   go_wp2_with(first|(go_at_call 7;refine(JR.out _).mono ?_;rintro e w5⟨rfl,hb2⟩;have HB2:=Lib.hid hb2;have aaF:Hid (g≠w5.heap.size):=(by have:=Lp.out;have h1:=hb2.size;have h2:=HB.out.lt;show g≠_;omega);clear hb2)|(go_at_call 82;refine(HP.out _ _ _ (aH.of_below (Ext.alloc HB2.out _)) ((HB.out.keep HB2.out).alloc _) (by have:=aaF.out;exact fun e=>this e.symm) (ak.new _ _ _)).mono ?_;rintro e w6⟨rfl,hc5,hb5⟩;have mg:=Lib.hid hc5;have bD:=Lib.hid hb5;clear hc5 hb5))
   go_ret
   exact⟨rfl,(JQ.out.trans (aH.of_below (Ext.alloc HB2.out _))).trans mg.out,bD.out⟩
 have q3:(k==3)=false:=by simpa using hk
 by_cases hb0:k<1∨11<k
 ·have HRR:Hid (R=(1,N+1)):=by show R=_;rw [HR.out,S.PZ HM.out hb0]
  have q1:(k==1)=false:=by simp;omega
  have q9:(k==9)=false:=by simp;omega
  have q10:(k==10)=false:=by simp;omega
  clear hb0 k1 hk n2 n4 n8 n5 n6 n7 n11
  go_wp2_with(fail)
  go_ret
  exact⟨by rw [HRR.out];rfl,JQ.out,by rw [HRR.out];exact HB.out⟩
 ·omega
theorem ND(g:Nat)(x:S):S.Wf x→Ye g x:=by
 induction x using S.up with
 |_ x ih=>
  intro hw w q off N d hX hB hN hd hd1
  obtain⟨k,b,s,nm,has,x,i,l0,l1,l2,l3⟩:=x
  obtain⟨v0,v1,v2,v3,hQ⟩:=hX.open
  cases hw with|mk _ _ _ _ _ _ _ _ _ _ _ hk hb hs hx hi h0 h1 h2 h3=>
  by_cases hm:20000≤N∨100<d
  ·have:=EN g N q off d w hN hB hm
   rw [S.cnt,if_pos hm];exact this
  ·have L2:=lH g l2 (fun y hy=>ih y (.inr (.inr (.inl hy))) (h2 y hy))
   have L3:=lH g l3 (fun y hy=>ih y (.inr (.inr (.inr hy))) (h3 y hy))
   have L0:=Ap g l0 (lH g l0 (fun y hy=>ih y (.inl hy) (h0 y hy)))
   have L1:=Ap g l1 (lH g l1 (fun y hy=>ih y (.inr (.inl hy)) (h1 y hy)))
   exact DN g N q off d k b s nm has x i l0 l1 l2 l3 v0 v1 v2 v3 w hQ hN hd hB hm hs ⟨vT g x hx,vT g i hi,L0,L1,L2,L3⟩
end Go.Proofs.Ythdckndjggljpaa
