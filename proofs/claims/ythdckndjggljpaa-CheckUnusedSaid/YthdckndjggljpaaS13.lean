/- Proofs of this claim, part 13. No condition. -/
import Derived.Test.YthdckndjggljpaaS12
namespace Go.Proofs.Ythdckndjggljpaa
set_option linter.unusedVariables false
set_option linter.unusedSimpArgs false
set_option maxRecDepth 100000
set_option maxHeartbeats 64000000
section
open Go.RowKit
theorem aQ.at{w:World}{g:Nat}{l:List S}{v:Value}(h:aQ w (fun t=>t≠g) l v):∃a c,v= .slice a l.length c∧l.length≤c∧c≤maxLen∧∀i y,l[i]?=some y→∃gk ok,a=some ⟨gk,ok,none⟩∧SP w g y gk (ok+i*21):=by
 obtain⟨a,c,e,h1,h2,h3⟩:=h.parts
 refine⟨a,c,e,h1,h2,fun i y hy=>?_⟩
 obtain⟨gk,ok,cs,hp,ea,hx,hc⟩:=h3 i y hy
 exact⟨gk,ok,ea,hp,cs,hx,hc⟩
theorem lH(g:Nat)(l:List S)(IH:∀y∈l,Ye g y):Dw g l:=by
 intro w v N d hX hB hN hd hd1
 obtain⟨a,c,rfl,hlc,hcm,hat⟩:=hX.at
 obtain⟨R,hR⟩:∃R,R=S.cnts l N d:=⟨_,rfl⟩
 obtain⟨L,hL⟩:∃L,l.length=L:=⟨_,rfl⟩
 rw [←hR]
 rw [hL]at hX hlc⊢
 have HR:=Lib.hid hR
 have HX:=Lib.hid hX
 have HB:=Lib.hid hB
 have HIH:=Lib.hid IH
 have Gn:=Lib.hid hL
 have uU:=Lib.hid hN
 have OL:(L:Int)≤9223372036854775807:=by unfold maxLen at hcm;omega
 clear hR hX hB IH hL hat hlc hcm hN
 go_enter Try.func39,Try.ntmps39
 go_upto_region 2 with(fail)
 go_loopw [11](fun i wr=>∃j:Nat,j≤L∧i= .int .i64 (j:Int)∧Hid (aH g w wr∧(S.cnts (l.take j) N d).1=0∧bT wr g (S.cnts (l.take j) N d).2))(fun i wr=>L-(intOf i).toNat)
 case atStart=>exact⟨0,Nat.zero_le _,rfl,aH.of_below (Below.refl _ _),by rw [List.take_zero,S.cnts],by rw [List.take_zero,S.cnts];exact HB.out⟩
 case round=>
  obtain⟨j,hj,rfl,hrest⟩:=hrel
  by_cases hlt:j<L
  ·obtain⟨y,hy⟩:∃y,l[j]?=some y:=⟨_,List.getElem?_eq_getElem (by rw [Gn.out];exact hlt)⟩
   have hx3:aQ wr (fun t=>t≠g) l (.slice a L c):=HX.out.move (iH hrest.out.1)
   obtain⟨a2,c2,e2,_,_,hat⟩:=hx3.at
   obtain⟨gk,ok,ha,hky⟩:=hat j y hy
   injection e2 with e3 e4 e5
   clear e4 e5
   subst e3 ha
   obtain⟨N',hN'⟩:∃N',N'=(S.cnts (l.take j) N d).2:=⟨_,rfl⟩
   have hr2:=hrest.out
   rw [←hN']at hr2
   have jY:N'≤20000:=by rw [hN'];exact S.bF _ _ _ uU.out hrest.out.2.1
   have kU:Hid (Calls Try.prog 57 #[P g, .pointer (some ⟨gk,ok+j*21,none⟩), .int .i64 d] wr (bU g wr (S.cnt y N' d))):=HIH.out y (List.mem_of_getElem? hy) wr gk (ok+j*21) N' d hky hr2.2.2 jY hd hd1
   obtain⟨re,rn,hrr⟩:∃re rn,S.cnt y N' d=(re,rn):=⟨_,_,rfl⟩
   rw [hrr]at kU
   have HRR:=Lib.hid hrr
   have HY:=Lib.hid hy
   have HN':=Lib.hid hN'
   have iD:=Lib.hid hlt
   clear hrr hy hN' hr2 jY hky hx3 hat
   by_cases h0:re=0
   ·subst h0
    go_wp2_with(first|(go_at_call 57;refine kU.out.mono ?_;rintro e w4⟨rfl,hc4,hb4⟩;have oD:=Lib.hid hc4;have HB4:=Lib.hid hb4;clear hc4 hb4))
    go_round
    case rel=>
     have hst:=S.jI HY.out N d hrest.out.2.1
     rw [←HN'.out,HRR.out]at hst
     exact⟨j+1,iD.out,by go_num,hrest.out.1.trans oD.out,by rw [hst],by rw [hst];exact HB4.out⟩
    case measure=>have:=iD.out;simp [intOf];omega
   ·have tC:Hid (R=(re,rn)):=by
     show R=_
     rw [HR.out,←HRR.out,HN'.out]
     exact S.qA HY.out N d hrest.out.2.1 (by rw [←HN'.out,HRR.out];exact h0)
    have q0:(re !=0)=true:=by simpa using h0
    clear h0
    go_wp2_with(first|(go_at_call 57;refine kU.out.mono ?_;rintro e w4⟨rfl,hc4,hb4⟩;have oD:=Lib.hid hc4;have HB4:=Lib.hid hb4;clear hc4 hb4))
    go_ret
    exact⟨by rw [tC.out];rfl,hrest.out.1.trans oD.out,by rw [tC.out];exact HB4.out⟩
  ·obtain rfl:j=L:=by omega
   have HE:Hid (R=(0,(S.cnts (l.take j) N d).2)):=by
    show R=_
    rw [HR.out,Prod.ext_iff]
    have:l.take j=l:=List.take_of_length_le (by rw [Gn.out];exact Nat.le_refl _)
    have h0:=hrest.out.2.1
    rw [this]at h0⊢
    exact⟨h0,rfl⟩
   clear hlt
   go_wp2
   go_ret
   exact⟨by rw [HE.out];rfl,hrest.out.1,by rw [HE.out];exact hrest.out.2.2⟩
theorem Ap(g:Nat)(l:List S)(IH:Dw g l):KG g l:=by
 intro w v N d hX hB hN hd hd1
 obtain⟨a,c,rfl,hlc,hcm,hat⟩:=hX.at
 obtain⟨R,hR⟩:∃R,R=S.sets l N d:=⟨_,rfl⟩
 have hI:=IH w _ N d hX hB hN hd hd1
 rw [←hR]
 unfold S.sets S.brk at hR
 have HB:=Lib.hid hB
 have HI:=Lib.hid hI
 obtain⟨L,hL⟩:∃L,l.length=L:=⟨_,rfl⟩
 rw [hL]at hlc HI⊢
 have OL:(L:Int)≤9223372036854775807:=by unfold maxLen at hcm;omega
 by_cases h1:1<L
 ·rw [hL,if_pos h1,if_pos (by decide)]at hR
  subst hR
  have q1:decide ((L:Int)>1)=true:=by simp;omega
  clear hX hB IH hI hat hlc hcm hN hL h1 HI
  go_enter Try.func87,Try.ntmps87
  go_wp2
  go_ret
  exact⟨rfl,aH.of_below (Below.refl _ _),HB.out⟩
 have q1:decide ((L:Int)>1)=false:=by simp;omega
 rw [hL,if_neg h1]at hR
 by_cases h0:L=0
 ·subst h0
  have hl0:l=[]:=List.eq_nil_of_length_eq_zero hL
  subst hl0
  have hR2:R=S.cnts [] N d:=by rw [hR];rfl
  rw [←hR2]at HI
  clear hX hB IH hI hat hlc hcm hN hL h1 hR hR2
  go_enter Try.func87,Try.ntmps87
  go_wp2_with(first|(go_at_call 39;refine HI.out.mono ?_;rintro e w4⟨rfl,hc4,hb4⟩;have oD:=Lib.hid hc4;have HB4:=Lib.hid hb4;clear hc4 hb4))
  go_ret
  exact⟨rfl,oD.out,HB4.out⟩
 ·obtain rfl:L=1:=by omega
  obtain⟨y,rfl⟩:=List.length_eq_one_iff.1 hL
  obtain⟨gk,ok,rfl,hky⟩:=hat 0 y rfl
  rw [Nat.zero_mul,Nat.add_zero]at hky
  obtain⟨k,b,s,nm,has,x,i,l0,l1,l2,l3⟩:=y
  obtain⟨v0,v1,v2,v3,hQ⟩:=hky.open
  have c0:=hQ.c0
  have hR2:R=if k≠3∧k≠4 then(8,N)else S.cnts [.mk k b s nm has x i l0 l1 l2 l3] N d:=by
   rw [hR]
   have:([S.mk k b s nm has x i l0 l1 l2 l3].any fun s=>s.kind !=3&&s.kind !=4)=decide (k≠3∧k≠4):=by
    rw [Bool.eq_iff_iff];simp [S.kind]
   rw [this]
   by_cases hk:k≠3∧k≠4
   ·rw [decide_eq_true hk,if_pos rfl,if_pos hk,if_pos (by decide)]
   ·rw [decide_eq_false hk,if_neg (by decide),if_neg hk]
  clear hR hX hB IH hI hat hlc hcm hN hL h1 h0 hky hQ
  by_cases h3:k=3
  ·subst h3
   rw [if_neg (by omega)]at hR2
   rw [←hR2]at HI
   clear hR2
   go_enter Try.func87,Try.ntmps87
   go_wp2_with(first|(go_at_call 39;refine HI.out.mono ?_;rintro e w4⟨rfl,hc4,hb4⟩;have oD:=Lib.hid hc4;have HB4:=Lib.hid hb4;clear hc4 hb4))
   go_ret
   exact⟨rfl,oD.out,HB4.out⟩
  have q3:(k !=3)=true:=by simpa using h3
  by_cases h4:k=4
  ·subst h4
   rw [if_neg (by omega)]at hR2
   rw [←hR2]at HI
   clear hR2 h3
   go_enter Try.func87,Try.ntmps87
   go_wp2_with(first|(go_at_call 39;refine HI.out.mono ?_;rintro e w4⟨rfl,hc4,hb4⟩;have oD:=Lib.hid hc4;have HB4:=Lib.hid hb4;clear hc4 hb4))
   go_ret
   exact⟨rfl,oD.out,HB4.out⟩
  have q4:(k !=4)=true:=by simpa using h4
  rw [if_pos ⟨h3,h4⟩]at hR2
  subst hR2
  clear h3 h4 HI
  go_enter Try.func87,Try.ntmps87
  go_wp2
  go_ret
  exact⟨rfl,aH.of_below (Below.refl _ _),HB.out⟩
namespace S
theorem bg(N:Nat)(f:Nat→Int×Nat):thn (0,N) f=f N:=rfl
theorem mZ(r:Int×Nat):thn r (fun N=>(0,N))=r:=by
 unfold thn;split
 ·rename_i h;rw [Prod.ext_iff];exact⟨h.symm,rfl⟩
 ·rfl
section
variable{b:Int}{s:Bool}{nm:ByteArray}{has:Bool}{x i:X}{l0 l1 l2 l3:List S}{N:Nat}{d:Int}(hm:¬(20000≤N∨100<d))
include hm
theorem PZ{k:Int}(hk:k<1∨11<k):cnt (.mk k b s nm has x i l0 l1 l2 l3) N d=(1,N+1):=by
 have ho:own k b nm.data.toList=1:=by unfold own;rw [if_pos hk]
 rw [cnt,if_neg hm,ho,if_pos (by decide)]
theorem Lr{k:Int}(hk:k=1∨k=9∨k=10):cnt (.mk k b s nm has x i l0 l1 l2 l3) N d=(0,N+1):=by
 rcases hk with rfl|rfl|rfl<;>(rw [cnt,if_neg hm];simp [own,looks,bg])
theorem Xv:cnt (.mk 2 b s nm has x i l0 l1 l2 l3) N d=thn (tyName b nm.data.toList,N+1) fun N=>if has=true then X.cnt x N (d+1)else(0,N):=by
 have ho:own 2 b nm.data.toList=tyName b nm.data.toList:=by unfold own;rw [if_neg (by omega),if_pos rfl]
 rw [cnt,if_neg hm,ho]
 by_cases h:tyName b nm.data.toList=0
 ·rw [if_neg (fun hh=>hh h),h]
  cases has<;>simp [looks,bg,mZ]
 ·rw [if_pos h,zC h]
theorem TU(hn:Tk.oC nm.data.toList=false):cnt (.mk 3 b s nm has x i l0 l1 l2 l3) N d=(7,N+1):=by
 have ho:own 3 b nm.data.toList=7:=by unfold own;rw [if_neg (by omega),if_neg (by omega),if_pos ⟨rfl,hn⟩]
 rw [cnt,if_neg hm,ho,if_pos (by decide)]
theorem XA(hn:Tk.oC nm.data.toList=true):cnt (.mk 3 b s nm has x i l0 l1 l2 l3) N d=thn (if has=true then X.cnt i (N+1) (d+1)else(0,N+1)) fun N=>X.cnt x N (d+1):=by
 have ho:own 3 b nm.data.toList=0:=by unfold own;rw [if_neg (by omega),if_neg (by omega),if_neg (fun h=>by rw [hn]at h;exact absurd h.2 (by decide))]
 rw [cnt,if_neg hm,ho]
 simp [looks,bg,mZ]
omit hm in
theorem Ig{k:Int}(hk:1≤k∧k≤11)(h2:k≠2)(h3:k≠3):own k b nm.data.toList=0:=by unfold own;rw [if_neg (by omega),if_neg h2,if_neg (fun h=>h3 h.1)]
theorem Xq:cnt (.mk 4 b s nm has x i l0 l1 l2 l3) N d=X.cnt x (N+1) (d+1):=by
 rw [cnt,if_neg hm,Ig (by omega) (by omega) (by omega)];simp [looks,bg,mZ]
theorem Xw:cnt (.mk 8 b s nm has x i l0 l1 l2 l3) N d=if has=true then X.cnt x (N+1) (d+1)else(0,N+1):=by
 rw [cnt,if_neg hm,Ig (by omega) (by omega) (by omega)]
 cases has<;>simp [looks,bg,mZ]
theorem Xx:cnt (.mk 5 b s nm has x i l0 l1 l2 l3) N d=thn (X.cnt x (N+1) (d+1)) fun N=>thn (cnts l2 N (d+1)) fun N=>cnts l3 N (d+1):=by
 rw [cnt,if_neg hm,Ig (by omega) (by omega) (by omega)];simp [looks,bg]
theorem Xy:cnt (.mk 6 b s nm has x i l0 l1 l2 l3) N d=thn (X.cnt x (N+1) (d+1)) fun N=>cnts l2 N (d+1):=by
 rw [cnt,if_neg hm,Ig (by omega) (by omega) (by omega)];simp [looks,bg,mZ]
theorem Xz:cnt (.mk 7 b s nm has x i l0 l1 l2 l3) N d=thn (sets l0 (N+1) (d+1)) fun N=>thn (if has=true then X.cnt x N (d+1)else(0,N)) fun N=>thn (sets l1 N (d+1)) fun N=>cnts l2 N (d+1):=by
 rw [cnt,if_neg hm,Ig (by omega) (by omega) (by omega)]
 cases has<;>simp [looks,bg,mZ,sets]
theorem Uf:cnt (.mk 11 b s nm has x i l0 l1 l2 l3) N d=cnts l2 (N+1) (d+1):=by
 rw [cnt,if_neg hm,Ig (by omega) (by omega) (by omega)];simp [looks,bg,mZ]
end
theorem sJ(l:List S)(N:Nat)(d:Int)(hN:N≤20000):eu (sets l N d):=by
 unfold sets;split
 ·rename_i h;exact fun h2=>absurd h2 h
 ·exact bF l N d hN
end S
theorem Az(t:Part):fK [t]=t.A:=by
 funext N;show thn (t.A N) (fun N=>(0,N))=_;exact S.mZ _
theorem iq(t u:Part)(ts:List Part):fK (t::u::ts)=fun N=>thn (t.A N) (fK (u::ts)):=rfl
end
end Go.Proofs.Ythdckndjggljpaa
