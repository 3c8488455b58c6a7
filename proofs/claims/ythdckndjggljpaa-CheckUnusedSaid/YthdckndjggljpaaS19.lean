/- Proofs of this claim, part 19. No condition. -/
import Derived.Maps.AppendAt
import Derived.Test.YthdckndjggljpaaS15
import Derived.Test.YthdckndjggljpaaS18
namespace Go.Proofs.Ythdckndjggljpaa
set_option linter.unusedVariables false
set_option linter.unusedSimpArgs false
set_option maxRecDepth 100000
set_option maxHeartbeats 64000000
section
open Go.RowKit
def FY(a:Nat→Int×Nat)(b:Nat→Int×Nat):Prop:=∀N M,(b N).1=0→M≤N→(a M).1=0∧(a M).2+N≤(b N).2+M
theorem lq{α:Type}(c:α→Nat→Int×Nat)(cs:List α→Nat→Int×Nat)(h0:∀N,cs [] N=(0,N))(h1:∀y l N,cs (y::l) N=if(c y N).1=0 then cs l (c y N).2 else c y N)(f:α→α):
 ∀l:List α,(∀y∈l,FY (c (f y)) (c y))→FY (cs (l.map f)) (cs l)
 |[],_=>fun N M _ hM=>by rw [List.map_nil,h0,h0];exact⟨rfl,by show M+N≤N+M;omega⟩
 |y::l,ih=>fun N M hz hM=>by
  rw [h1]at hz
  rw [List.map_cons,h1,h1]
  split at hz
  ·rename_i hy
   obtain⟨a1,a2⟩:=ih y (List.mem_cons_self ..) N M hy hM
   obtain⟨b1,b2⟩:=lq c cs h0 h1 f l (fun z hz=>ih z (List.mem_cons_of_mem _ hz)) _ (c (f y) M).2 hz (by omega)
   rw [if_pos hy,if_pos a1]
   exact⟨b1,by omega⟩
  ·rename_i hy;exact absurd hz hy
theorem Yh(a:Nat→Int×Nat)(h:∀N M,(a N).1=0→M≤N→(a M).1=0∧(a M).2+N≤(a N).2+M):FY a a:=h
namespace X
theorem jD(y:X)(l:List X)(N:Nat)(d:Int):cnts (y::l) N d=if(cnt y N d).1=0 then cnts l (cnt y N d).2 d else cnt y N d:=by rw [cnts]
theorem jS(N:Nat)(d:Int):cnts [] N d=(0,N):=by rw [cnts]
theorem pU{x:X}{N:Nat}{d:Int}(h:(cnt x N d).1=0):N<20000∧d≤100∧cnt x N d=cnts x.kids (N+1) (d+1):=by
 rw [jP]at h
 split at h
 ·exact absurd h (show¬(4:Int)=0 by decide)
 rename_i h1
 split at h
 ·rename_i h2
  refine⟨by omega,by omega,?_⟩
  rw [jP,if_neg h1,if_pos h2]
 ·rename_i h2;exact absurd h h2
theorem zo{x:X}{N:Nat}{d:Int}(hs:X.own x.kind x.num x.bits x.sg x.name.data.toList x.kids.length=0)(hN:N<20000)(hd:d≤100):cnt x N d=cnts x.kids (N+1) (d+1):=by
 rw [jP,if_neg (by omega),if_pos hs]
theorem Pz{x:X}{N:Nat}{d:Int}(h:(cnt x N d).1=0)(hk:5≤x.kind):N+2≤(cnt x N d).2∧d+1≤100∧N+1<20000:=by
 have hs:=nR x N d h
 obtain⟨h1,h2,h3⟩:=pU h
 rw [h3]at h⊢
 obtain⟨y,l,e⟩:∃y l,x.kids=y::l:=by
  rcases Int.lt_or_le x.kind 9 with h9|h9
  ·obtain⟨y,e⟩:=hs.one hk h9;exact⟨y,[],e⟩
  ·obtain⟨y,z,e⟩:=hs.two h9;exact⟨y,[z],e⟩
 rw [e,jD]at h⊢
 split at h
 ·rename_i hy
  rw [if_pos hy]
  obtain⟨k1,k2,k3⟩:=pU hy
  have m1:N+2≤(cnt y (N+1) (d+1)).2:=by rw [k3];exact X.dw (fun y _=>X.cnt_mono y) _ _
  have m2:(cnt y (N+1) (d+1)).2≤(cnts l (cnt y (N+1) (d+1)).2 (d+1)).2:=X.dw (fun y _=>X.cnt_mono y) _ _
  exact⟨by omega,by omega,by omega⟩
 ·rename_i hy;exact absurd h hy
theorem kM{l:List X}{d:Int}(h:∀y∈l,FY (fun N=>cnt (fold y) N d) (fun N=>cnt y N d)):FY (fun N=>cnts (l.map fold) N d) (fun N=>cnts l N d):=
 lq (fun y N=>cnt y N d) (fun l N=>cnts l N d) (fun N=>jS N d) (fun y l N=>jD y l N d) fold l h
theorem few(x:X):Wf x→∀d,FY (fun N=>cnt (fold x) N d) (fun N=>cnt x N d):=by
 induction x using X.up with
 |_ x ih=>
  intro hw d N M hz hM
  have hz:(cnt x N d).1=0:=hz
  show(cnt (fold x) M d).1=0∧(cnt (fold x) M d).2+N≤(cnt x N d).2+M
  have hs:=nR x N d hz
  obtain⟨h1,h2,h3⟩:=pU hz
  obtain⟨k,n,b,s,nm,ks⟩:=x
  have h3:cnt (.mk k n b s nm ks) N d=cnts ks (N+1) (d+1):=h3
  have IH:∀y∈ks,gK (fold y)∧Wf (fold y)∧cst (fold y)=cst y∧((cst y).e=0→known (fold y)=true):=fun y hy=>dL y (hs.kid hy) (hw.kid hy)
  have hso:gK (.mk k n b s nm (ks.map fold)):=by
   refine .mk _ _ _ _ _ _ ?_ (fun y hy=>?_)
   ·rw [List.length_map];exact hs.own
   ·obtain⟨z,hz,rfl⟩:=List.mem_map.1 hy;exact(IH z hz).1
  have hwo:Wf (.mk k n b s nm (ks.map fold)):=by
   cases hw with|mk _ _ _ _ _ _ hk hn hb hs2 h=>
   refine .mk _ _ _ _ _ _ hk hn hb hs2 (fun y hy=>?_)
   obtain⟨z,hz,rfl⟩:=List.mem_map.1 hy;exact(IH z hz).2.1
  rw [fold_eq]
  show(cnt (bQ k n b s nm (ks.map fold)) M d).1=0∧(cnt (bQ k n b s nm (ks.map fold)) M d).2+N≤_
  by_cases hc:(decide (5≤k)&&(ks.map fold).all known)=true∧(cst (.mk k n b s nm (ks.map fold))).e=0
  ·have e:bQ k n b s nm (ks.map fold)=lit (cst (.mk k n b s nm (ks.map fold))).n (cst (.mk k n b s nm (ks.map fold))).b (cst (.mk k n b s nm (ks.map fold))).s:=if_pos hc
   have hf:Cst.Fine (cst (.mk k n b s nm (ks.map fold))):=fD _ hso hwo
   have h4:=hf hc.2
   have hk5:5≤k:=by have:=hc.1;rw [Bool.and_eq_true]at this;exact of_decide_eq_true this.1
   obtain⟨m1,m2,m3⟩:=Pz hz (show 5≤(X.mk k n b s nm ks).kind from hk5)
   have hl:=(qy _ _ (cst (.mk k n b s nm (ks.map fold))).s (hf.U hc.2) h4.1 h4.2.2).1
   rw [e]
   generalize(cst (.mk k n b s nm (ks.map fold))).n=cn at hl⊢
   generalize(cst (.mk k n b s nm (ks.map fold))).b=cb at hl⊢
   generalize(cst (.mk k n b s nm (ks.map fold))).s=cs at hl⊢
   rw [zo hl.own (by omega) h2]
   unfold lit at hl⊢
   split at hl
   ·rename_i hq
    rw [if_pos hq]
    show(cnts [] (M+1) (d+1)).1=0∧(cnts [] (M+1) (d+1)).2+N≤_
    rw [jS];exact⟨rfl,by show M+1+N≤_;omega⟩
   ·rename_i hq
    rw [if_neg hq]
    have aa1:=hl.kid (y:= .mk 1 cn (W.lit cn true).1 (W.lit cn true).2.1 ⟨#[]⟩ []) (List.mem_cons_self ..)
    show(cnts [.mk 1 cn (W.lit cn true).1 (W.lit cn true).2.1 ⟨#[]⟩ []] (M+1) (d+1)).1=0∧(cnts [.mk 1 cn (W.lit cn true).1 (W.lit cn true).2.1 ⟨#[]⟩ []] (M+1) (d+1)).2+N≤_
    have e1:cnt (.mk 1 cn (W.lit cn true).1 (W.lit cn true).2.1 ⟨#[]⟩ []) (M+1) (d+1)=(0,M+2):=by
     rw [zo aa1.own (by omega) (by omega)];exact jS _ _
    rw [jD,e1,if_pos rfl,jS];exact⟨rfl,by show M+2+N≤_;omega⟩
  ·have e:bQ k n b s nm (ks.map fold)= .mk k n b s nm (ks.map fold):=if_neg hc
   rw [e,zo hso.own (by omega) h2]
   rw [h3]at hz⊢
   obtain⟨r1,r2⟩:=kM (d:=d+1) (fun y hy=>ih y hy (hw.kid hy) (d+1)) (N+1) (M+1) hz (by omega)
   exact⟨r1,by have:(cnts (ks.map fold) (M+1) (d+1)).2+(N+1)≤(cnts ks (N+1) (d+1)).2+(M+1):=r2;show(cnts (ks.map fold) (M+1) (d+1)).2+N≤_;omega⟩
theorem yT{l:List X}(hw:∀y∈l,Wf y)(d:Int):FY (fun N=>cnts (l.map fold) N d) (fun N=>cnts l N d):=kM fun y hy=>few y (hw y hy) d
theorem Yf(x:X):∀d,FY (fun N=>cnt x N d) (fun N=>cnt x N d):=by
 induction x using X.up with
 |_ x ih=>
  intro d N M hz hM
  have hz:(cnt x N d).1=0:=hz
  show(cnt x M d).1=0∧(cnt x M d).2+N≤(cnt x N d).2+M
  have hs:=nR x N d hz
  obtain⟨h1,h2,h3⟩:=pU hz
  rw [zo hs.own (by omega) h2]
  rw [h3]at hz⊢
  obtain⟨r1,r2⟩:=lq (fun y N=>cnt y N (d+1)) (fun l N=>cnts l N (d+1)) (fun N=>jS N _) (fun y l N=>jD y l N _) id x.kids (fun y hy=>ih y hy (d+1)) (N+1) (M+1) hz (by omega)
  rw [List.map_id]at r1 r2
  exact⟨r1,by have:(cnts x.kids (M+1) (d+1)).2+(N+1)≤(cnts x.kids (N+1) (d+1)).2+(M+1):=r2;omega⟩
end X
namespace S
theorem jD(y:S)(l:List S)(N:Nat)(d:Int):cnts (y::l) N d=if(cnt y N d).1=0 then cnts l (cnt y N d).2 d else cnt y N d:=by rw [cnts]
theorem jS(N:Nat)(d:Int):cnts [] N d=(0,N):=by rw [cnts]
section
variable{k b:Int}{s:Bool}{nm:ByteArray}{has:Bool}{x i:X}{l0 l1 l2 l3:List S}{N:Nat}{d:Int}
theorem Cnt.val{N1 N2 N3 N4 N5:Nat}(h:Cnt k b nm has x i l0 l1 l2 l3 N d N1 N2 N3 N4 N5):cnt (.mk k b s nm has x i l0 l1 l2 l3) N d=if k=5 then cnts l3 N5 (d+1)else(0,N5):=by
 have hn:=h.nn
 have hd:=h.dd
 rw [cnt,if_neg (by omega),if_neg (fun hh=>hh h.ow),h.c1,fU rfl]
 show thn (if k=7 then(if brk l0≠0 then(brk l0,N1)else cnts l0 N1 (d+1))else(0,N1)) _=_
 rw [h.c2,fU rfl]
 show thn (if looks k has=true then X.cnt x N2 (d+1)else(0,N2)) _=_
 rw [h.c3,fU rfl]
 show thn (if k=7 then(if brk l1≠0 then(brk l1,N3)else cnts l1 N3 (d+1))else(0,N3)) _=_
 rw [h.c4,fU rfl]
 show thn (if k=5∨k=6∨k=7∨k=11 then cnts l2 N4 (d+1)else(0,N4)) _=_
 rw [h.c5,fU rfl]
end
theorem kM{l:List S}{d:Int}(h:∀y∈l,FY (fun N=>cnt (fold y) N d) (fun N=>cnt y N d)):FY (fun N=>cnts (folds l) N d) (fun N=>cnts l N d):=by
 rw [gQ]
 exact lq (fun y N=>cnt y N d) (fun l N=>cnts l N d) (fun N=>jS N d) (fun y l N=>jD y l N d) fold l h
theorem IQ(y:S)(h:y.kind=3∨y.kind=4):(fold y).kind=y.kind:=by
 obtain⟨k,b,s,nm,has,x,i,l0,l1,l2,l3⟩:=y
 have h:k=3∨k=4:=h
 rw [fold]
 unfold prt
 rw [after,if_neg (by omega),if_neg (by omega)];rfl
theorem Bq{l:List S}(h:brk l=0):brk (folds l)=0:=by
 unfold brk at h
 split at h
 ·exact absurd h (by decide)
 rename_i h1
 split at h
 ·exact absurd h (by decide)
 rename_i h2
 unfold brk
 rw [gQ,if_neg (by rw [List.length_map];exact h1),if_neg]
 intro ha
 apply h2
 obtain⟨y,hy,hk⟩:=List.any_eq_true.1 ha
 obtain⟨z,hz,rfl⟩:=List.mem_map.1 hy
 refine List.any_eq_true.2 ⟨z,hz,?_⟩
 by_cases hq:z.kind=3∨z.kind=4
 ·rw [IQ z hq]at hk;exact hk
 ·simp;omega
theorem Rk{l:List S}{N:Nat}{d:Int}(hN:N<20000)(hd:d≤100):cnt (blk l) N d=thn (cnts l (N+1) (d+1)) fun N=>(0,N):=by
 unfold blk
 rw [cnt,if_neg (by omega),if_neg (show¬own 11 0 _≠0 from fun h=>h rfl),if_neg (by decide),fU rfl]
 show thn (if(11:Int)=7 then _ else(0,N+1)) _=_
 rw [if_neg (by decide),fU rfl]
 show thn (if looks 11 false=true then _ else(0,N+1)) _=_
 rw [if_neg (by decide),fU rfl]
 show thn (if(11:Int)=7 then _ else(0,N+1)) _=_
 rw [if_neg (by decide),fU rfl]
 show thn (if(11:Int)=5∨(11:Int)=6∨(11:Int)=7∨(11:Int)=11 then cnts l (N+1) (d+1)else _) _=_
 rw [if_pos (by decide)]
 congr 1
theorem Ja{N:Nat}{d:Int}(hN:N<20000)(hd:d≤100):cnt none0 N d=(0,N+1):=by
 have h:Cnt 1 0 ⟨#[]⟩ false X.zero X.zero [] [] [] [] N d (N+1) (N+1) (N+1) (N+1) (N+1):=
  ⟨hN,hd,rfl,if_neg (by decide),if_neg (by decide),if_neg (by decide),if_neg (by decide),if_neg (by decide),fun h=>absurd h (by decide)⟩
 exact h.val.trans (if_neg (by decide))
theorem few(y:S):S.Wf y→∀d,FY (fun N=>cnt (fold y) N d) (fun N=>cnt y N d):=by
 induction y using S.up with
 |_ y ih=>
  intro hw d N M hz hM
  have hz:(cnt y N d).1=0:=hz
  show(cnt (fold y) M d).1=0∧(cnt (fold y) M d).2+N≤(cnt y N d).2+M
  obtain⟨k,b,s,nm,has,x,i,l0,l1,l2,l3⟩:=y
  obtain⟨N1,N2,N3,N4,N5,C⟩:=iJ hz
  obtain⟨wx,wi,w0,w1,w2,w3⟩:=hw.x
  have g0:=kM (l:=l0) (d:=d+1) fun y hy=>ih y (.inl hy) (w0 y hy) (d+1)
  have g1:=kM (l:=l1) (d:=d+1) fun y hy=>ih y (.inr (.inl hy)) (w1 y hy) (d+1)
  have g2:=kM (l:=l2) (d:=d+1) fun y hy=>ih y (.inr (.inr (.inl hy))) (w2 y hy) (d+1)
  have g3:=kM (l:=l3) (d:=d+1) fun y hy=>ih y (.inr (.inr (.inr hy))) (w3 y hy) (d+1)
  have m1:=C.m1;have m2:=C.m2;have m3:=C.m3;have m4:=C.m4;have m5:=C.m5
  have hn:=C.nn;have hd:=C.dd
  have hv:=C.val (s:=s)
  rw [hv]at hz⊢
  have mf:N5≤(if k=5 then cnts l3 N5 (d+1)else(0,N5)).2:=by
   split
   ·exact S.fH l3 N5 (d+1)
   ·exact Nat.le_refl _
  rw [fold]
  unfold prt
  rw [after]
  by_cases c1:k=5∧X.known (if looks k has=true then X.fold x else x)=true
  ·rw [if_pos c1]
   obtain⟨rfl,_⟩:=c1
   rw [if_pos rfl]at hz mf⊢
   rw [Rk (by omega) hd]
   have z2:(cnts l2 N4 (d+1)).1=0∧(cnts l2 N4 (d+1)).2=N5:=by
    have h0:=C.c5;rw [if_pos (by decide)]at h0;rw [h0];exact⟨rfl,rfl⟩
   rw [if_pos (show(5:Int)=5∨(5:Int)=6∨(5:Int)=7∨(5:Int)=11 by decide),if_pos rfl]
   by_cases hq:(X.cst (if looks 5 has=true then X.fold x else x)).n≠0
   ·rw [if_pos hq]
    obtain⟨r1,r2⟩:=g2 N4 (M+1) z2.1 (by omega)
    have r1:(cnts (folds l2) (M+1) (d+1)).1=0:=r1
    have r2:(cnts (folds l2) (M+1) (d+1)).2+N4≤(cnts l2 N4 (d+1)).2+(M+1):=r2
    rw [fU r1]
    exact⟨rfl,by show(cnts (folds l2) (M+1) (d+1)).2+N≤_;omega⟩
   ·rw [if_neg hq]
    obtain⟨r1,r2⟩:=g3 N5 (M+1) hz (by omega)
    have r1:(cnts (folds l3) (M+1) (d+1)).1=0:=r1
    have r2:(cnts (folds l3) (M+1) (d+1)).2+N5≤(cnts l3 N5 (d+1)).2+(M+1):=r2
    rw [fU r1]
    exact⟨rfl,by show(cnts (folds l3) (M+1) (d+1)).2+N≤_;omega⟩
  rw [if_neg c1]
  by_cases c2:k=6∧X.known (if looks k has=true then X.fold x else x)=true∧(X.cst (if looks k has=true then X.fold x else x)).n=0
  ·rw [if_pos c2,Ja (by omega) hd]
   exact⟨rfl,by show M+1+N≤_;omega⟩
  rw [if_neg c2]
  obtain⟨M1,e1,f1⟩:∃M1,(if k=3∧has=true then X.cnt (if k=3∧has=true then X.fold i else i) (M+1) (d+1)else(0,M+1))=(0,M1)∧M1+N≤N1+M:=by
   have h0:=C.c1
   by_cases h:k=3∧has=true
   ·rw [if_pos h]at h0;rw [if_pos h,if_pos h]
    obtain⟨r1,r2⟩:=X.few i wi (d+1) (N+1) (M+1) (by show(X.cnt i (N+1) (d+1)).1=0;rw [h0]) (by omega)
    have r2:(X.cnt (X.fold i) (M+1) (d+1)).2+(N+1)≤(X.cnt i (N+1) (d+1)).2+(M+1):=r2
    rw [h0]at r2
    exact⟨_,nJ r1,by have:(X.cnt (X.fold i) (M+1) (d+1)).2+(N+1)≤N1+(M+1):=r2;omega⟩
   ·rw [if_neg h]at h0⊢;injection h0 with _ h0;exact⟨M+1,rfl,by omega⟩
  obtain⟨M2,e2,f2⟩:∃M2,(if k=7 then(if brk (if k=7 then folds l0 else l0)≠0 then(brk (if k=7 then folds l0 else l0),M1)else cnts (if k=7 then folds l0 else l0) M1 (d+1))else(0,M1))=(0,M2)∧M2+N≤N2+M:=by
   have h0:=C.c2
   by_cases h:k=7
   ·have hb:brk l0=0:=by
     rw [if_pos h]at h0
     split at h0
     ·rename_i hb;exact absurd (congrArg Prod.fst h0) hb
     ·rename_i hb;exact Classical.not_not.1 hb
    have h0:=C.yH h
    rw [if_pos h,if_pos h,if_neg (fun hh=>hh (Bq hb))]
    obtain⟨r1,r2⟩:=g0 N1 M1 (by show(cnts l0 N1 (d+1)).1=0;rw [h0]) (by omega)
    have r2:(cnts (folds l0) M1 (d+1)).2+N1≤(cnts l0 N1 (d+1)).2+M1:=r2
    rw [h0]at r2
    exact⟨_,nJ r1,by have:(cnts (folds l0) M1 (d+1)).2+N1≤N2+M1:=r2;omega⟩
   ·rw [if_neg h]at h0⊢;injection h0 with _ h0;exact⟨M1,rfl,by omega⟩
  obtain⟨M3,e3,f3⟩:∃M3,(if looks k has=true then X.cnt (if looks k has=true then X.fold x else x) M2 (d+1)else(0,M2))=(0,M3)∧M3+N≤N3+M:=by
   have h0:=C.c3
   by_cases h:looks k has=true
   ·rw [if_pos h]at h0;rw [if_pos h,if_pos h]
    obtain⟨r1,r2⟩:=X.few x wx (d+1) N2 M2 (by show(X.cnt x N2 (d+1)).1=0;rw [h0]) (by omega)
    have r2:(X.cnt (X.fold x) M2 (d+1)).2+N2≤(X.cnt x N2 (d+1)).2+M2:=r2
    rw [h0]at r2
    exact⟨_,nJ r1,by have:(X.cnt (X.fold x) M2 (d+1)).2+N2≤N3+M2:=r2;omega⟩
   ·rw [if_neg h]at h0⊢;injection h0 with _ h0;exact⟨M2,rfl,by omega⟩
  obtain⟨M4,e4,f4⟩:∃M4,(if k=7 then(if brk (if k=7 then folds l1 else l1)≠0 then(brk (if k=7 then folds l1 else l1),M3)else cnts (if k=7 then folds l1 else l1) M3 (d+1))else(0,M3))=(0,M4)∧M4+N≤N4+M:=by
   have h0:=C.c4
   by_cases h:k=7
   ·have hb:brk l1=0:=by
     rw [if_pos h]at h0
     split at h0
     ·rename_i hb;exact absurd (congrArg Prod.fst h0) hb
     ·rename_i hb;exact Classical.not_not.1 hb
    have h0:=C.yI h
    rw [if_pos h,if_pos h,if_neg (fun hh=>hh (Bq hb))]
    obtain⟨r1,r2⟩:=g1 N3 M3 (by show(cnts l1 N3 (d+1)).1=0;rw [h0]) (by omega)
    have r2:(cnts (folds l1) M3 (d+1)).2+N3≤(cnts l1 N3 (d+1)).2+M3:=r2
    rw [h0]at r2
    exact⟨_,nJ r1,by have:(cnts (folds l1) M3 (d+1)).2+N3≤N4+M3:=r2;omega⟩
   ·rw [if_neg h]at h0⊢;injection h0 with _ h0;exact⟨M3,rfl,by omega⟩
  obtain⟨M5,e5,f5⟩:∃M5,(if k=5∨k=6∨k=7∨k=11 then cnts (if k=5∨k=6∨k=7∨k=11 then folds l2 else l2) M4 (d+1)else(0,M4))=(0,M5)∧M5+N≤N5+M:=by
   have h0:=C.c5
   by_cases h:k=5∨k=6∨k=7∨k=11
   ·rw [if_pos h]at h0;rw [if_pos h,if_pos h]
    obtain⟨r1,r2⟩:=g2 N4 M4 (by show(cnts l2 N4 (d+1)).1=0;rw [h0]) (by omega)
    have r2:(cnts (folds l2) M4 (d+1)).2+N4≤(cnts l2 N4 (d+1)).2+M4:=r2
    rw [h0]at r2
    exact⟨_,nJ r1,by have:(cnts (folds l2) M4 (d+1)).2+N4≤N5+M4:=r2;omega⟩
   ·rw [if_neg h]at h0⊢;injection h0 with _ h0;exact⟨M4,rfl,by omega⟩
  obtain⟨q3,hq3⟩:∃q3,q3=(if k=5 then folds l3 else if k=6∨k=7∨k=11 then[]else l3):=⟨_,rfl⟩
  rw [←hq3]
  by_cases h5:k=5
  ·rw [if_pos h5]at hz hq3
   obtain⟨r1,r2⟩:=g3 N5 M5 hz (by omega)
   have r1:(cnts (folds l3) M5 (d+1)).1=0:=r1
   have r2:(cnts (folds l3) M5 (d+1)).2+N5≤(cnts l3 N5 (d+1)).2+M5:=r2
   have C':=Cnt.val (s:=s) (⟨by omega,hd,C.ow,e1,e2,e3,e4,e5,fun _=>by rw [hq3];exact r1⟩:Cnt k b nm has _ _ _ _ _ q3 M d M1 M2 M3 M4 M5)
   rw [C',if_pos h5,if_pos h5,hq3]
   rw [if_pos h5]at mf
   exact⟨r1,by omega⟩
  ·have C':=Cnt.val (s:=s) (⟨by omega,hd,C.ow,e1,e2,e3,e4,e5,fun h=>absurd h h5⟩:Cnt k b nm has _ _ _ _ _ q3 M d M1 M2 M3 M4 M5)
   rw [C',if_neg h5,if_neg h5]
   exact⟨rfl,f5⟩
theorem yT{l:List S}(hw:∀y∈l,S.Wf y)(d:Int):FY (fun N=>cnts (folds l) N d) (fun N=>cnts l N d):=kM fun y hy=>few y (hw y hy) d
end S
theorem Gl.few(g:Gl)(hw:Gl.Wf g):FY (Pg.gl g.fold) (Pg.gl g):=by
 intro N M hz hM
 unfold Pg.gl at hz
 by_cases h1:tyName g.b g.nm.data.toList≠0
 ·rw [if_pos h1]at hz;exact absurd hz h1
 by_cases h2:g.size<0∨8000<g.size
 ·rw [if_neg h1,if_pos h2]at hz;exact absurd hz (show¬(3:Int)=0 by decide)
 by_cases h3:1<g.ini.length∧g.size<(g.ini.length:Int)
 ·rw [if_neg h1,if_neg h2,if_pos h3]at hz;exact absurd hz (show¬(5:Int)=0 by decide)
 by_cases h4:20000≤N
 ·rw [if_neg h1,if_neg h2,if_neg h3,if_pos h4]at hz;exact absurd hz (show¬(4:Int)=0 by decide)
 rw [if_neg h1,if_neg h2,if_neg h3,if_neg h4]at hz
 obtain⟨r1,r2⟩:=X.yT hw.ini 2 (N+1) (M+1) hz (by omega)
 have r2:(X.cnts (g.ini.map X.fold) (M+1) 2).2+(N+1)≤(X.cnts g.ini (N+1) 2).2+(M+1):=r2
 unfold Pg.gl
 rw [if_neg (show¬tyName g.fold.b g.fold.nm.data.toList≠0 from h1),if_neg (show¬(g.fold.size<0∨8000<g.fold.size)from h2),if_neg (show¬(1<g.fold.ini.length∧g.fold.size<(g.fold.ini.length:Int))by unfold Gl.fold;rw [List.length_map];exact h3),if_neg (by omega),if_neg h1,if_neg h2,if_neg h3,if_neg h4]
 exact⟨r1,by show(X.cnts (g.ini.map X.fold) (M+1) 2).2+N≤_;omega⟩
theorem Fn.few(f:Fn)(hw:Fn.Wf f):FY (Pg.fn f.fold) (Pg.fn f):=by
 intro N M hz hM
 unfold Pg.fn at hz
 by_cases h1:Tk.oC f.nm.data.toList=false
 ·rw [if_pos h1]at hz;exact absurd hz (show¬(7:Int)=0 by decide)
 by_cases h2:¬(f.b=0∧f.s=false)∧W.okB f.b=false
 ·rw [if_neg h1,if_pos h2]at hz;exact absurd hz (show¬(9:Int)=0 by decide)
 by_cases h3:8<f.ps.length
 ·rw [if_neg h1,if_neg h2,if_pos h3]at hz;exact absurd hz (show¬(5:Int)=0 by decide)
 by_cases h4:Pg.oV f.ps≠0
 ·rw [if_neg h1,if_neg h2,if_neg h3,if_pos h4]at hz;exact absurd hz h4
 by_cases h5:20000≤N
 ·rw [if_neg h1,if_neg h2,if_neg h3,if_neg h4,if_pos h5]at hz;exact absurd hz (show¬(4:Int)=0 by decide)
 rw [if_neg h1,if_neg h2,if_neg h3,if_neg h4,if_neg h5]at hz
 obtain⟨r1,r2⟩:=S.yT hw.body 2 (N+1) (M+1) hz (by omega)
 have r2:(S.cnts (S.folds f.body) (M+1) 2).2+(N+1)≤(S.cnts f.body (N+1) 2).2+(M+1):=r2
 unfold Pg.fn
 rw [if_neg (show¬Tk.oC f.fold.nm.data.toList=false from h1),if_neg (show¬(¬(f.fold.b=0∧f.fold.s=false)∧W.okB f.fold.b=false)from h2),if_neg (show¬8<f.fold.ps.length from h3),if_neg (show¬Pg.oV f.fold.ps≠0 from h4),if_neg (by omega),if_neg h1,if_neg h2,if_neg h3,if_neg h4,if_neg h5]
 exact⟨r1,by show(S.cnts (S.folds f.body) (M+1) 2).2+N≤_;omega⟩
def Pg.nodes(P:Pg):Nat:=(thn (Pg.gls P.gs 0) (Pg.fns P.fs)).2
theorem Pg.uY{P:Pg}(hw:Pg.Wf P)(h:Pg.wrong P=0):Pg.wrong P.fold=0∧Pg.nodes P.fold≤Pg.nodes P:=by
 unfold Pg.wrong at h
 split at h
 ·exact absurd h (by decide)
 rename_i h1
 obtain⟨z,t⟩:=bg h
 have e0:Pg.nodes P=(Pg.fns P.fs (Pg.gls P.gs 0).2).2:=by unfold Pg.nodes;rw [t]
 rw [t]at h
 obtain⟨a1,a2⟩:=lq Pg.gl Pg.gls (fun N=>by rw [Pg.gls]) (fun y l N=>by rw [Pg.gls]) Gl.fold P.gs (fun g hg=>g.few (hw.gs g hg)) 0 0 z (Nat.le_refl _)
 obtain⟨b1,b2⟩:=lq Pg.fn Pg.fns (fun N=>by rw [Pg.fns]) (fun y l N=>by rw [Pg.fns]) Fn.fold P.fs (fun g hg=>g.few (hw.fs g hg)) (Pg.gls P.gs 0).2 (Pg.gls (P.gs.map Gl.fold) 0).2 h (by omega)
 have e:thn (Pg.gls P.fold.gs 0) (Pg.fns P.fold.fs)=Pg.fns (P.fs.map Fn.fold) (Pg.gls (P.gs.map Gl.fold) 0).2:=fU a1
 constructor
 ·unfold Pg.wrong
  rw [if_neg (by show¬100<(P.fs.map Fn.fold).length;rw [List.length_map];exact h1),e];exact b1
 ·rw [e0];unfold Pg.nodes;rw [e];omega
end
section
open Go.RowKit
theorem AU(x:Pg)(v0 v1:Value)(w:World)(p:Nat→Prop)(hX:bM w p x v0 v1)(hw:Pg.Wf x)(hz:Pg.wrong x=0):
 Calls Try.prog 13 #[.agg #[v0,v1]] w fun e w'=>e= .returned (.int .i64 (Pg.nodes x:Nat))∧Below w.heap.size w w':=by
 have hz2:(thn (Pg.gls x.gs 0) (Pg.fns x.fs)).1=0:=by
  unfold Pg.wrong at hz
  split at hz
  ·exact absurd hz (show¬(5:Int)=0 by decide)
  ·exact hz
 have HZ1:=Lib.hid (bg hz2).1
 have HZ2:Hid ((Pg.fns x.fs (Pg.gls x.gs 0).2).1=0):=by
  have h:=hz2
  rw [(bg hz2).2]at h
  exact h
 obtain⟨R,hR⟩:∃R,R=Pg.nodes x:=⟨_,rfl⟩
 rw [←hR]
 have hR2:R=(Pg.fns x.fs (Pg.gls x.gs 0).2).2:=by rw [hR];unfold Pg.nodes;rw [fU HZ1.out]
 clear hR hz hz2
 have hR:=hR2
 clear hR2
 obtain⟨w1,hw1⟩:∃w1,w1=w.alloc (.cells #[v0,v1] 25):=⟨_,rfl⟩
 obtain⟨g,hg⟩:∃g,g=w.heap.size+1:=⟨_,rfl⟩
 obtain⟨bp,hbp⟩:∃bp,bp=w.heap.size:=⟨_,rfl⟩
 obtain⟨w2,hw2⟩:∃w2,w2=w1.alloc (.cells #[.int .i64 0] 55):=⟨_,rfl⟩
 have hs1:w1.heap.size=g:=by rw [hw1,hg];simp
 have CX:Below w.heap.size w w1:=by rw [hw1];exact Ext.alloc (Below.refl _ _) _
 have CY:Below w.heap.size w w2:=by rw [hw2];exact Ext.alloc CX _
 have HP:Hid (bM w2 (fun t=>t≠g) x v0 v1):=hX.new CY (by omega)
 have HS0:Hid (bT w2 g 0):=by show bT w2 g 0;rw [hw2,←hs1];exact ak.new _ _ _
 have tJ:ak w1 bp 25 #[v0,v1]:=by rw [hw1,hbp];exact ak.new _ _ _
 have hbx2:ak w2 bp 25 #[v0,v1]:=by rw [hw2];exact tJ.alloc _
 have sS:Hid (∀wr,aH g w2 wr→wr.cell? ⟨bp,0,none⟩=some v0∧wr.cell? ⟨bp,1,none⟩=some v1):=fun wr hc=>⟨hc.cell (by omega) (by rw [hbx2.cell];rfl),hc.cell (by omega) (by rw [hbx2.cell];rfl)⟩
 have OE:Hid (∀wr,aH g w2 wr→Below w.heap.size w wr):=fun wr hc=>Below.bC CY (Nat.le_refl _) (by omega) hc
 have HF1:Hid (Below w.heap.size w w1):=CX
 obtain⟨ag,cg,rfl,hgc,hgm,_⟩:=HP.out.gls
 obtain⟨af,cf,rfl,hfc,hfm,_⟩:=HP.out.fns
 obtain⟨LG,O5⟩:∃L,x.gs.length=L:=⟨_,rfl⟩
 obtain⟨LF,O6⟩:∃L,x.fs.length=L:=⟨_,rfl⟩
 rw [O5,O6]at HP sS tJ hw1
 rw [O5]at hgc⊢
 rw [O6]at hfc⊢
 have hG9:(LG:Int)≤9223372036854775807:=by unfold maxLen at hgm;omega
 have hF9:(LF:Int)≤9223372036854775807:=by unfold maxLen at hfm;omega
 have Y2:=Lib.hid O5
 have Y3:=Lib.hid O6
 have WY:Hid (∀y∈x.gs,Gl.Wf y):=hw.gs
 have Gh:Hid (∀y∈x.fs,Fn.Wf y):=hw.fs
 have y0:=tJ.cell 0
 have y1:=tJ.cell 1
 have HR:=Lib.hid hR
 have HG:=Lib.hid hg
 clear hX hw hR O5 O6 hgc hgm hfc hfm tJ hbx2 CX CY
 go_enter Try.func13,Try.ntmps13
 go_upto_region 1 with(fail)
 rw [←hw1,←hbp]
 have HW2:=Lib.hid hw2
 have KL:=Lib.hid hs1
 clear hw1 hw2 hs1 hbp hg
 go_upto_region 2 with(fail)
 rw [←HW2.out,KL.out]
 clear y0 y1
 obtain⟨y0,y1⟩:=sS.out w2 (aH.of_below (Below.refl _ _))
 have Fq:Hid (aH g w2 w2∧(Pg.gls (x.gs.take 0) 0).1=0∧bT w2 g (Pg.gls (x.gs.take 0) 0).2):=⟨aH.of_below (Below.refl _ _),rfl,HS0.out⟩
 have Fv:Hid (0≤20000):=Nat.zero_le _
 go_upto_region 3 with(fail)
 go_loopw [11](fun i wr=>∃j:Nat,j≤LG∧i= .int .i64 (j:Int)∧Hid (aH g w2 wr∧(Pg.gls (x.gs.take j) 0).1=0∧bT wr g (Pg.gls (x.gs.take j) 0).2))(fun i wr=>LG-(intOf i).toNat)
 case atStart=>exact⟨0,Nat.zero_le _,rfl,Fq.out⟩
 case round=>
  obtain⟨j,hj,rfl,hrest⟩:=hrel
  have Wi:=Lib.hid (HP.out.PN hrest.out.1)
  have hcb:=sS.out wr hrest.out.1
  clear y0 y1
  obtain⟨y0,y1⟩:=hcb
  by_cases hlt:j<LG
  ·obtain⟨y,hy⟩:∃y,x.gs[j]?=some y:=⟨_,List.getElem?_eq_getElem (by rw [Y2.out];exact hlt)⟩
   obtain⟨a9,c9,e9,_,_,hat⟩:=Wi.out.gls
   obtain⟨gk,ok,v9,ha,hky⟩:=hat j y hy
   injection e9 with e3 e4 e5
   clear e4 e5
   subst e3 ha
   obtain⟨N',hN'⟩:∃N',N'=(Pg.gls (x.gs.take j) 0).2:=⟨_,rfl⟩
   have hr2:=hrest.out
   rw [←hN']at hr2
   have jY:N'≤20000:=by rw [hN'];exact Pg.l7 _ _ Fv.out hrest.out.2.1
   have kU:Hid (Calls Try.prog 18 #[P g, .pointer (some ⟨gk,ok+j*5,none⟩)] wr (bU g wr (Pg.gl y N'))):=vS g N' gk (ok+j*5) y v9 wr hky hr2.2.2 jY (WY.out y (List.mem_of_getElem? hy))
   obtain⟨re,rn,hrr⟩:∃re rn,Pg.gl y N'=(re,rn):=⟨_,_,rfl⟩
   rw [hrr]at kU
   have HRR:=Lib.hid hrr
   have HY:=Lib.hid hy
   have HN':=Lib.hid hN'
   have iD:=Lib.hid hlt
   clear hrr hy hN' hr2 jY hky hat
   by_cases h0:re=0
   ·subst h0
    go_wp2_with(first|(go_at_call 18;refine kU.out.mono ?_;rintro e w6⟨rfl,hc4,hb4⟩;have Bz:=Lib.hid hc4;have iK:=Lib.hid hb4;clear hc4 hb4))
    go_round
    case rel=>
     have hst:=Pg.vP HY.out 0 hrest.out.2.1
     rw [←HN'.out,HRR.out]at hst
     exact⟨j+1,iD.out,by go_num,hrest.out.1.trans Bz.out,by rw [hst],by rw [hst];exact iK.out⟩
    case measure=>have:=iD.out;simp [intOf];omega
   ·exact absurd (by have hb:=Pg.Gy HY.out 0 hrest.out.2.1 (by rw [←HN'.out,HRR.out];exact h0);rw [←HN'.out,HRR.out]at hb;have h1:=HZ1.out;rw [hb]at h1;exact h1) h0
  ·obtain rfl:j=LG:=by omega
   obtain⟨M,hM⟩:∃M,M=(Pg.gls x.gs 0).2:=⟨_,rfl⟩
   have htk:x.gs.take j=x.gs:=List.take_of_length_le (by rw [Y2.out];exact Nat.le_refl _)
   have Ku:=hrest.out
   rw [htk,←hM]at Ku
   have HR3:Hid (R=(Pg.fns x.fs M).2):=by show R=_;rw [HR.out,←hM]
   have LC:Hid ((Pg.fns x.fs M).1=0):=by show _=_;rw [hM];exact HZ2.out
   have Wj:Hid (M≤20000):=by show M≤_;rw [hM];exact Pg.l7 _ _ (Nat.zero_le _) Ku.2.1
   have Fz:Hid (aH g w2 wr∧(Pg.fns (x.fs.take 0) M).1=0∧bT wr g (Pg.fns (x.fs.take 0) M).2):=⟨Ku.1,rfl,Ku.2.2⟩
   have FB:=Wj
   clear hlt hM htk Ku hrest
   go_upto_region 8 with(fail)
   obtain⟨W0,rfl⟩:∃W0,W0=wr:=⟨_,rfl⟩
   go_loopw [24](fun i wr=>∃j:Nat,j≤LF∧i= .int .i64 (j:Int)∧Hid (aH g w2 wr∧(Pg.fns (x.fs.take j) M).1=0∧bT wr g (Pg.fns (x.fs.take j) M).2))(fun i wr=>LF-(intOf i).toNat)
   case atStart=>exact⟨0,Nat.zero_le _,rfl,Fz.out⟩
   case round=>
    obtain⟨j,hj,rfl,hrest⟩:=hrel
    have Wi:=Lib.hid (HP.out.PN hrest.out.1)
    have hcb:=sS.out wr hrest.out.1
    clear y0 y1
    obtain⟨y0,y1⟩:=hcb
    by_cases hlt:j<LF
    ·obtain⟨y,hy⟩:∃y,x.fs[j]?=some y:=⟨_,List.getElem?_eq_getElem (by rw [Y3.out];exact hlt)⟩
     obtain⟨a9,c9,e9,_,_,hat⟩:=Wi.out.fns
     obtain⟨gk,ok,u0,u1,ha,hky⟩:=hat j y hy
     injection e9 with e3 e4 e5
     clear e4 e5
     subst e3 ha
     obtain⟨N',hN'⟩:∃N',N'=(Pg.fns (x.fs.take j) M).2:=⟨_,rfl⟩
     have hr2:=hrest.out
     rw [←hN']at hr2
     have jY:N'≤20000:=by rw [hN'];exact Pg.wL _ _ FB.out hrest.out.2.1
     have kU:Hid (Calls Try.prog 19 #[P g, .pointer (some ⟨gk,ok+j*5,none⟩)] wr (bU g wr (Pg.fn y N'))):=qQ g N' gk (ok+j*5) y u0 u1 wr hky hr2.2.2 jY (Gh.out y (List.mem_of_getElem? hy))
     obtain⟨re,rn,hrr⟩:∃re rn,Pg.fn y N'=(re,rn):=⟨_,_,rfl⟩
     rw [hrr]at kU
     have HRR:=Lib.hid hrr
     have HY:=Lib.hid hy
     have HN':=Lib.hid hN'
     have iD:=Lib.hid hlt
     clear hrr hy hN' hr2 jY hky hat
     by_cases h0:re=0
     ·subst h0
      go_wp2_with(first|(go_at_call 19;refine kU.out.mono ?_;rintro e w6⟨rfl,hc4,hb4⟩;have Bz:=Lib.hid hc4;have iK:=Lib.hid hb4;clear hc4 hb4))
      go_round
      case rel=>
       have hst:=Pg.wH HY.out M hrest.out.2.1
       rw [←HN'.out,HRR.out]at hst
       exact⟨j+1,iD.out,by go_num,hrest.out.1.trans Bz.out,by rw [hst],by rw [hst];exact iK.out⟩
      case measure=>have:=iD.out;simp [intOf];omega
     ·exact absurd (by have hb:=Pg.GU HY.out M hrest.out.2.1 (by rw [←HN'.out,HRR.out];exact h0);rw [←HN'.out,HRR.out]at hb;have h1:=LC.out;rw [hb]at h1;exact h1) h0
    ·obtain rfl:j=LF:=by omega
     have htk:x.fs.take j=x.fs:=List.take_of_length_le (by rw [Y3.out];exact Nat.le_refl _)
     have h9:=hrest.out.2.2
     rw [htk,←HR3.out]at h9
     have s0:=ak.cell h9 0
     have sl:=ak.lt h9
     clear hlt htk h9
     go_wp2
     go_ret
     exact⟨rfl,OE.out _ hrest.out.1⟩
end
section
open Go.RowKit
abbrev Bx(w:World)(B:Nat)(k n b:Int)(s:Bool)(nm:ByteArray)(v:Value):Prop:=ak w B 62 #[.int .i64 k, .int .u64 n, .int .i64 b, .bool s, .string nm,v]
theorem Bx.six{w:World}{B:Nat}{k n b:Int}{s:Bool}{nm:ByteArray}{v:Value}(h:Bx w B k n b s nm v):
 w.cell? ⟨B,0,none⟩=some (.int .i64 k)∧w.cell? ⟨B,1,none⟩=some (.int .u64 n)∧w.cell? ⟨B,2,none⟩=some (.int .i64 b)∧w.cell? ⟨B,3,none⟩=some (.bool s)∧w.cell? ⟨B,4,none⟩=some (.string nm)∧w.cell? ⟨B,5,none⟩=some v:=
 ⟨h.cell 0,h.cell 1,h.cell 2,h.cell 3,h.cell 4,h.cell 5⟩
theorem eU.kid{w:World}{k n b:Int}{s:Bool}{nm:ByteArray}{ks:List X}{a:Option Addr}{L c:Nat}(h:eU w (.mk k n b s nm ks) (X.cells k n b s nm (.slice a L c))){i:Nat}{y:X}(hy:ks[i]?=some y):
 ∃(g off:Nat)(ay:Option Addr)(cy:Nat),a=some ⟨g,off,none⟩∧eU w y (X.cells y.kind y.num y.bits y.sg y.name (.slice ay y.kids.length cy))∧
  w.cell? ⟨g,off+i*6,none⟩=some (.int .i64 y.kind)∧w.cell? ⟨g,off+i*6+1,none⟩=some (.int .u64 y.num)∧w.cell? ⟨g,off+i*6+2,none⟩=some (.int .i64 y.bits)∧w.cell? ⟨g,off+i*6+3,none⟩=some (.bool y.sg)∧w.cell? ⟨g,off+i*6+4,none⟩=some (.string y.name)∧w.cell? ⟨g,off+i*6+5,none⟩=some (.slice ay y.kids.length cy):=by
 obtain⟨a2,c2,e,_,_,hk⟩:=h.open
 have e2:a=a2:=by
  have:=congrArg (fun l=>l[5]?) e
  simp at this
  exact this.1
 obtain⟨g,off,ys,ha,hx,hc⟩:=hk i y hy
 obtain⟨ay,cy,ey,_⟩:=hx.open
 subst ey
 exact⟨g,off,ay,cy,e2.trans ha,hx,hc 0 _ rfl,hc 1 _ rfl,hc 2 _ rfl,hc 3 _ rfl,hc 4 _ rfl,hc 5 _ rfl⟩
theorem eU.lens{w:World}{k n b:Int}{s:Bool}{nm:ByteArray}{ks:List X}{a:Option Addr}{L c:Nat}(h:eU w (.mk k n b s nm ks) (X.cells k n b s nm (.slice a L c))):ks.length=L∧L≤c∧c≤maxLen:=by
 obtain⟨a2,c2,e,h1,h2,_⟩:=h.open
 have:=congrArg (fun l=>l[5]?) e
 simp at this
 obtain⟨_,h3,h4⟩:=this
 have h1':ks.length≤c2:=h1
 exact⟨h3.symm,by omega,by omega⟩
end
section
open Go.RowKit
structure Cs(w:World)(k n b:Int)(s:Bool)(nm:ByteArray)(v:Value)(rb:Int)(rs:Bool)(wi:World):Prop where
 ext:Below w.heap.size w wi
 lt:w.heap.size+1<wi.heap.size
 x:Bx wi w.heap.size k n b s nm v
 y:Ty wi (w.heap.size+1) rb rs
theorem Cs.below{w wi w':World}{k n b:Int}{s:Bool}{nm:ByteArray}{v:Value}{rb:Int}{rs:Bool}(h:Cs w k n b s nm v rb rs wi)(hb:Below wi.heap.size wi w'):Cs w k n b s nm v rb rs w':=
 ⟨Ext.trans h.ext hb,Nat.lt_of_lt_of_le h.lt hb.size,h.x.keep hb,h.y.below hb⟩
theorem Cs.start(w:World)(k n b:Int)(s:Bool)(nm:ByteArray)(v:Value):Cs w k n b s nm v 0 false ((w.alloc (.cells #[.int .i64 k, .int .u64 n, .int .i64 b, .bool s, .string nm,v] 62)).alloc (.cells #[.int .i64 0, .bool false] 33)):=
 ⟨Ext.alloc (Ext.alloc (Below.refl _ _) _) _,by simp,(ak.new w _ _).alloc _,Ty.new _ (by simp) _ _ _⟩
abbrev Xc(y:X)(a:Option Addr)(c:Nat):List Value:=X.cells y.kind y.num y.bits y.sg y.name (.slice a y.kids.length c)
end
section
open Go.RowKit
def flat(cs:Nat→List Value)(j:Nat):List Value:=(List.range j).flatMap cs
theorem jJ(cs:Nat→List Value)(j:Nat):flat cs (j+1)=flat cs j++cs j:=by unfold flat;rw [List.range_succ,List.flatMap_append];simp
theorem qP(cs:Nat→List Value)(z:Nat):∀j,(∀i,i<j→(cs i).length=z)→(flat cs j).length=j*z
 |0,_=>by simp [flat]
 |j+1,h=>by rw [jJ,List.length_append,qP cs z j (fun i hi=>h i (by omega)),h j (by omega),Nat.succ_mul]
theorem og(cs:Nat→List Value)(z:Nat):∀j,(∀i,i<j→(cs i).length=z)→∀i q,i<j→q<z→(flat cs j)[i*z+q]?=(cs i)[q]?
 |0,_,i,q,hi,_=>absurd hi (Nat.not_lt_zero _)
 |j+1,h,i,q,hi,hq=>by
  have hl:=qP cs z j (fun i hi=>h i (by omega))
  rw [jJ]
  rcases Nat.lt_or_ge i j with h1|h1
  ·have:i*z+q<j*z:=by
    have:(i+1)*z≤j*z:=Nat.mul_le_mul_right z h1
    rw [Nat.succ_mul]at this;omega
   rw [List.getElem?_append_left (by omega)]
   exact og cs z j (fun i hi=>h i (by omega)) i q h1 hq
  ·obtain rfl:i=j:=by omega
   rw [List.getElem?_append_right (by omega),hl,show i*z+q-i*z=q by omega]
theorem lW{cs ds:Nat→List Value}{j:Nat}(h:∀i,i<j→cs i=ds i):flat cs j=flat ds j:=by
 unfold flat
 have:∀l:List Nat,(∀i∈l,i<j)→l.flatMap cs=l.flatMap ds:=by
  intro l hl
  induction l with
  |nil=>rfl
  |cons x l ih=>rw [List.flatMap_cons,List.flatMap_cons,h x (hl x (List.mem_cons_self ..)),ih (fun i hi=>hl i (List.mem_cons_of_mem _ hi))]
 exact this _ (fun i hi=>by simpa using hi)
theorem bG{w:World}{base e size n:Nat}{v:Value}{xs:List Value}(h:w.ownsRow base e size v n xs):∃a c,v= .slice a n c∧n≤c∧c≤maxLen:=by
 obtain⟨_,⟨rfl,rfl⟩|⟨g',cap,cur,rfl,hbb,hg,hc,hm,hsz,htake⟩⟩:=h
 ·exact⟨_,_,rfl,Nat.le_refl _,Nat.zero_le _⟩
 ·exact⟨_,_,rfl,hc,hm⟩
theorem dA.row{w:World}{p:Nat→Prop}{B:Nat}{k n b:Int}{s:Bool}{nm:ByteArray}{fs:List X}{av:Option Addr}{cv:Nat}{cs:Nat→List Value}(ho:w.ownsRow B 62 6 (.slice av fs.length cv) fs.length (flat cs fs.length))(hk:∀i y,fs[i]?=some y→dA w p y (cs i))(hp:∀g,(Value.slice av fs.length cv).ownBlock=some g→p g):
 dA w p (.mk k n b s nm fs) (X.cells k n b s nm (.slice av fs.length cv)):=by
 obtain⟨_,_,e,h1,h2⟩:=bG ho
 injection e with _ _ e
 subst e
 refine .mk k n b s nm fs av cv cs h1 h2 hk (fun h0=>?_)
 have h6:∀i,i<fs.length→(cs i).length=6:=fun i hi=>(hk i fs[i] (List.getElem?_eq_getElem hi)).six
 rcases ho.2 with⟨_,hz⟩|⟨g,cap,cur,ev,hbb,hg,hc,hm,hsz,htake⟩
 ·omega
 ·injection ev with ea _ _
  subst ea
  refine⟨g,0,hp g rfl,rfl,fun i j u hi hu=>?_⟩
  have hj:j<6:=by
   have:=h6 i hi
   have:=(List.getElem?_eq_some_iff.1 hu).1
   omega
  have:=ho.cells (g:=g) rfl (i*6+j) u (by rw [og cs 6 fs.length h6 i j hi hj];exact hu)
  rw [X.bV]at this
  rw [Nat.zero_add]at this⊢
  exact this
theorem aS{wv:World}{ops:Array Oper}{rest:List Oper}{o:Oper}{a:Act}{Q:Exit→Act→World→Prop}(hgd:o.guard=none)(s x:Operand)(ST T z bytes:Nat)(zv:Value)(ho:o.op= .call {callee:= .builtin .append,args:=#[s,x],argTypes:=#[ST,ST]})
 (hu:Try.prog.underlying ST=some (.slice T))(hin:(Try.prog.info? T).map (fun i=>(i.zero,i.size,i.bytes))=some (some zv,z,bytes))(hzv:zv.cells.size=z)(hz:0<z)(hby:bytes≤1000)
 (B:Nat)(lv:Value)(m:Nat)(xs:List Value)(g:Nat)(cs:List Value)(hs:a.eval s=lv)(hx:a.eval x= .slice (some ⟨g,0,none⟩) 1 1)(hown:wv.ownsRow B T z lv m xs)(hl:cs.length=z)(hb:∀j u,cs[j]?=some u→wv.cell? ⟨g,j,none⟩=some u)(h1:∀u∈cs,u.oneCell'=true)(hm:m+1≤100000000)(hB:B≤wv.heap.size)
 (h:∀a' c' w',w'.ownsRow B T z (.slice a' (m+1) c') (m+1) (xs++cs)→wv.grownBy w' lv.ownBlock→((Value.slice a' (m+1) c').ownBlock=lv.ownBlock∨(Value.slice a' (m+1) c').ownBlock=some wv.heap.size)→wpList Try.prog ops Q rest (a.put o.dst (.slice a' (m+1) c')) w'):
 wpList Try.prog ops Q (o::rest) a wv:=by
 obtain⟨iI,hi,hz0,hz1,hz2⟩:=info_parts hin
 refine wpList_append_own_at _ hgd s x ST ho B T iI zv z bytes hu hi hz0 hz1 hz2 hzv hz lv m xs hs hown ⟨g,0,none⟩ 1 1 cs hx (by rw [hl,Nat.one_mul]) (fun j u hj=>?_) h1 (by unfold maxLen;omega) (by have:(m+1)*bytes≤100000000*1000:=Nat.mul_le_mul hm hby;omega) hB ?_
 ·rw [X.bV,Nat.zero_add];exact hb j u hj
 ·intro v' w' ho' hg' _ hat
  obtain⟨a',c',hv,_⟩:=bG ho'
  subst hv
  exact h a' c' w' ho' hg' hat
theorem aU{w w':World}{base e size:Nat}{v:Value}{n:Nat}{xs:List Value}(h:w.ownsRow base e size v n xs)(hb:∀b,v.ownBlock=some b→w'.heap[b]?=w.heap[b]?):w'.ownsRow base e size v n xs:=by
 obtain⟨hl,h2⟩:=h
 refine⟨hl,?_⟩
 rcases h2 with⟨rfl,rfl⟩|⟨g',cap,cur,rfl,hbb,hg',hc,hm,hsz,htake⟩
 ·exact .inl ⟨rfl,rfl⟩
 ·exact .inr ⟨g',cap,cur,rfl,hbb,(hb g' rfl).trans hg',hc,hm,hsz,htake⟩
theorem aK{w:World}{base e size n:Nat}{v:Value}{xs:List Value}(h:w.ownsRow base e size v n xs):∀k,v.ownBlock=some k→base≤k∧k<w.heap.size:=by
 obtain⟨hl,h2⟩:=h
 rcases h2 with⟨rfl,rfl⟩|⟨g',cap,cur,rfl,hbb,hg,hc,hm,hsz,htake⟩
 ·intro k hk;simp [Value.ownBlock]at hk
 ·intro k hk;simp [Value.ownBlock]at hk;subst hk;exact⟨hbb,lt_of_block hg⟩
structure Lay{α:Type}(z:Nat)(L:World→(Nat→Prop)→α→List Value→Prop):Prop where
 move:∀{w w':World}{p q:Nat→Prop}{x:α}{cs:List Value},L w p x cs→(∀g,p g→g<w.heap.size→q g∧w'.heap[g]?=w.heap[g]?)→L w' q x cs
 len:∀{w:World}{p:Nat→Prop}{x:α}{cs:List Value},L w p x cs→cs.length=z
 one:∀{w:World}{p:Nat→Prop}{x:α}{cs:List Value},L w p x cs→∀u∈cs,u.oneCell'=true
def LX(w:World)(p:Nat→Prop)(x:X)(cs:List Value):Prop:=dA w p x cs
def LS(w:World)(p:Nat→Prop)(x:S)(cs:List Value):Prop:=fV w p x cs
def LP(w:World)(p:Nat→Prop)(x:Pm)(cs:List Value):Prop:=zq x cs
def LF(w:World)(p:Nat→Prop)(x:Fn)(cs:List Value):Prop:=lF w p x cs
def LG(w:World)(p:Nat→Prop)(x:Gl)(cs:List Value):Prop:=kX w p x cs
theorem dA.ones{w:World}{p:Nat→Prop}{x:X}{cs:List Value}(h:dA w p x cs):∀u∈cs,u.oneCell'=true:=by
 cases h
 intro u hu
 simp only [X.cells,List.mem_cons,List.not_mem_nil,or_false]at hu
 rcases hu with rfl|rfl|rfl|rfl|rfl|rfl<;>rfl
theorem aQ.ones{w:World}{p:Nat→Prop}{l:List S}{v:Value}(h:aQ w p l v):v.oneCell'=true:=by cases h;rfl
theorem Row.ones{α:Type}{w:World}{p:Nat→Prop}{z:Nat}{At:α→List Value→Prop}{l:List α}{v:Value}(h:Row w p z At l v):v.oneCell'=true:=by obtain⟨a,c,cs,rfl,_⟩:=h;rfl
theorem D6:Lay 6 LX:=⟨fun h hf=>dA.move h hf,fun h=>dA.six h,fun h=>dA.ones h⟩
theorem oG:Lay 21 LS:=⟨fun h hf=>fV.move hf _ _ h,fun h=>fV.len h,fun{w p x cs}h u hu=>by
 obtain⟨xs,is,v0,v1,v2,v3,rfl,hx,hi,h0,h1,h2,h3⟩:=fV.parts h
 simp only [S.cells,List.mem_append,List.mem_cons,List.not_mem_nil,or_false]at hu
 rcases hu with((hu|hu)|hu)|hu
 ·rcases hu with rfl|rfl|rfl|rfl|rfl<;>rfl
 ·exact hx.ones u hu
 ·exact hi.ones u hu
 ·rcases hu with rfl|rfl|rfl|rfl
  ·exact h0.ones
  ·exact h1.ones
  ·exact h2.ones
  ·exact h3.ones⟩
theorem aeh:Lay 3 LP:=⟨fun h _=>h,fun{w p x cs}h=>by have h:zq x cs:=h;rw [h];rfl,fun{w p x cs}h u hu=>by
 have h:zq x cs:=h
 rw [h]at hu
 simp only [List.mem_cons,List.not_mem_nil,or_false]at hu
 rcases hu with rfl|rfl|rfl<;>rfl⟩
theorem uQ:Lay 5 LF:=⟨fun h hf=>lF.move h hf,fun{w p x cs}h=>by obtain⟨v0,v1,e,_⟩:=h;rw [e];rfl,fun{w p x cs}h u hu=>by
 obtain⟨v0,v1,e,h0,h1⟩:=h
 rw [e]at hu
 simp only [List.mem_cons,List.not_mem_nil,or_false]at hu
 rcases hu with rfl|rfl|rfl|rfl|rfl
 ·rfl
 ·rfl
 ·rfl
 ·exact h0.ones
 ·exact h1.ones⟩
theorem A8:Lay 5 LG:=⟨fun h hf=>kX.move h hf,fun{w p x cs}h=>by obtain⟨v0,e,_⟩:=h;rw [e];rfl,fun{w p x cs}h u hu=>by
 obtain⟨v0,e,h0⟩:=h
 rw [e]at hu
 simp only [List.mem_cons,List.not_mem_nil,or_false]at hu
 rcases hu with rfl|rfl|rfl|rfl|rfl
 ·rfl
 ·rfl
 ·rfl
 ·rfl
 ·exact h0.ones⟩
def mG{α:Type}(w:World)(B T z:Nat)(L:World→(Nat→Prop)→α→List Value→Prop)(acc:List α)(a:Option Addr)(c:Nat):Prop:=
 ∃cs:Nat→List Value,w.ownsRow B T z (.slice a acc.length c) acc.length (flat cs acc.length)∧∀i y,acc[i]?=some y→L w (fun k=>B≤k∧(Value.slice a acc.length c).ownBlock≠some k) y (cs i)
section
variable{α:Type}{w w':World}{B T z:Nat}{L:World→(Nat→Prop)→α→List Value→Prop}{acc:List α}{a:Option Addr}{c:Nat}
theorem mG.nil(w:World)(B T z:Nat)(L:World→(Nat→Prop)→α→List Value→Prop):mG w B T z L [] none 0:=
 ⟨fun _=>[],⟨by simp [flat], .inl ⟨rfl,rfl⟩⟩,fun i y h=>by simp at h⟩
theorem mG.same(hL:Lay z L)(h:mG w B T z L acc a c)(hs:∀k,B≤k→k<w.heap.size→w'.heap[k]?=w.heap[k]?):mG w' B T z L acc a c:=by
 obtain⟨cs,ho,hk⟩:=h
 exact⟨cs,aU ho fun b hb=>hs b (aK ho b hb).1 (aK ho b hb).2,fun i y hy=>hL.move (hk i y hy) fun g hg hl=>⟨hg,hs g hg.1 hl⟩⟩
theorem mG.bC{g:Nat}(hL:Lay z L)(h:mG w B T z L acc a c)(hg:g<B)(hc:aH g w w'):mG w' B T z L acc a c:=
 h.same hL fun k hk hl=>hc.block k hl (fun e=>by injection e with e;omega)
theorem mG.keep(hL:Lay z L)(h:mG w B T z L acc a c)(hb:Below w.heap.size w w'):mG w' B T z L acc a c:=h.same hL fun k _ hl=>hb.block k hl
theorem mG.low(h:mG w B T z L acc a c):∀k,(Value.slice a acc.length c).ownBlock=some k→B≤k∧k<w.heap.size:=by
 obtain⟨cs,ho,_⟩:=h;exact aK ho
theorem mG.app{y:α}{ys:List Value}{cs:Nat→List Value}{a':Option Addr}{c' N:Nat}(hL:Lay z L)(ho:w.ownsRow B T z (.slice a acc.length c) acc.length (flat cs acc.length))(hk:∀i y,acc[i]?=some y→L w (fun k=>B≤k∧(Value.slice a acc.length c).ownBlock≠some k) y (cs i))
 (hN:∀k,(Value.slice a acc.length c).ownBlock=some k→k<N)(hBN:B≤N)
 (hy:L w (fun k=>N≤k) y ys)(ho':w'.ownsRow B T z (.slice a' (acc.length+1) c') (acc.length+1) (flat cs acc.length++ys))(hg:w.grownBy w' (Value.slice a acc.length c).ownBlock)
 (hat:(Value.slice a' (acc.length+1) c').ownBlock=(Value.slice a acc.length c).ownBlock∨(Value.slice a' (acc.length+1) c').ownBlock=some w.heap.size):mG w' B T z L (acc++[y]) a' c':=by
 have hl:(acc++[y]).length=acc.length+1:=by simp
 have hlo:=aK ho
 unfold mG
 rw [hl]
 refine⟨fun i=>if i<acc.length then cs i else ys,?_,fun i x hx=>?_⟩
 ·rw [jJ]
  have e1:flat (fun i=>if i<acc.length then cs i else ys) acc.length=flat cs acc.length:=lW fun i hi=>if_pos hi
  rw [e1]
  simpa using ho'
 ·rcases Nat.lt_or_ge i acc.length with hi|hi
  ·rw [List.getElem?_append_left hi]at hx
   simp only [if_pos hi]
   refine hL.move (hk i x hx) fun g hg' hgl=>⟨⟨hg'.1,fun e=>?_⟩,?_⟩
   ·rcases hat with h1|h1
    ·exact hg'.2 (h1▸e)
    ·rw [h1]at e;injection e with e;omega
   ·exact hg.block g hgl (fun e=>hg'.2 e.symm)
  ·have hi2:i=acc.length:=by have:=(List.getElem?_eq_some_iff.1 hx).1;rw [hl]at this;omega
   subst hi2
   rw [List.getElem?_append_right (Nat.le_refl _),Nat.sub_self]at hx
   injection hx with hx
   subst hx
   simp only [if_neg (Nat.lt_irrefl _)]
   refine hL.move hy fun g hg' hgl=>⟨⟨by omega,fun e=>?_⟩,?_⟩
   ·rcases hat with h1|h1
    ·rw [h1]at e;have:=hN g e;omega
    ·rw [h1]at e;injection e with e;omega
   ·exact hg.block g hgl (fun e=>by have:=hN g e.symm;omega)
theorem mG.row(hL:Lay z L)(h:mG w B T z L acc a c):Row w (fun k=>B≤k) z (L w (fun k=>B≤k)) acc (.slice a acc.length c):=by
 obtain⟨cs,ho,hk⟩:=h
 obtain⟨_,_,e,h1,h2⟩:=bG ho
 injection e with _ _ e
 subst e
 have hk':∀i y,acc[i]?=some y→L w (fun k=>B≤k) y (cs i):=fun i y hy=>hL.move (hk i y hy) fun g hg _=>⟨hg.1,rfl⟩
 refine⟨a,c,cs,rfl,h1,h2,hk',fun h0=>?_⟩
 have hz:∀i,i<acc.length→(cs i).length=z:=fun i hi=>hL.len (hk i acc[i] (List.getElem?_eq_getElem hi))
 have hlo:=aK ho
 rcases ho.2 with⟨_,hz⟩|⟨g,cap,cur,ev,hbb,hg,hc,hm,hsz,htake⟩
 ·omega
 ·injection ev with ea _ _
  subst ea
  refine⟨g,0,hbb,rfl,fun i j u hi hu=>?_⟩
  have hj:j<z:=by
   have:=hz i hi
   have:=(List.getElem?_eq_some_iff.1 hu).1
   omega
  have:=ho.cells (g:=g) rfl (i*z+j) u (by rw [og cs z acc.length hz i j hi hj];exact hu)
  rw [X.bV]at this
  rw [Nat.zero_add]at this⊢
  exact this
end
end
end Go.Proofs.Ythdckndjggljpaa
