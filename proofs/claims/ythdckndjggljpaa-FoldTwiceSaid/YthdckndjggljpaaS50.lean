/- Proofs of this claim, part 50. No condition. -/
import Derived.Test.YthdckndjggljpaaS47
namespace Go.Proofs.Ythdckndjggljpaa
set_option linter.unusedVariables false
set_option linter.unusedSimpArgs false
set_option maxRecDepth 100000
set_option maxHeartbeats 64000000
section
open Go.RowKit
namespace Ck
structure Alike(P Q:Pg):Prop where
 find:∀e n,find Q e n=find P e n
 call:∀n,called Q n=called P n
section
variable{P Q:Pg}
theorem EZ(h:Alike P Q):jv Q=jv P:=by
 funext e k b s n ts
 unfold jv
 rw [h.call,h.find]
theorem Cm(h:Alike P Q)(e:Env)(x:X):ty Q e x=ty P e x:=by
 induction x using X.up with
 |_ x ih=>
  obtain⟨k,n,b,s,nm,ks⟩:=x
  have hk:tys Q e ks=tys P e ks:=by
   have:∀l:List X,(∀y∈l,ty Q e y=ty P e y)→tys Q e l=tys P e l:=by
    intro l
    induction l with
    |nil=>intro _;rw [tys,tys]
    |cons y l ih2=>intro hy;rw [tys,tys,hy y (List.mem_cons_self ..),ih2 fun z hz=>hy z (List.mem_cons_of_mem _ hz)]
   exact this ks ih
  rw [ty,ty,hk,EZ h]
theorem wG(h:Alike P Q):vals Q=vals P:=by funext x e;unfold vals;rw [Cm h]
theorem JC(h:Alike P Q):may Q=may P:=by funext has x e;unfold may;rw [wG h]
theorem fA{rb:Int}{l:List S}(ih:∀y∈l,stat Q rb y=stat P rb y):stats Q rb l=stats P rb l:=by
 induction l with
 |nil=>funext e;rw [stats,stats]
 |cons y l ih2=>funext e;rw [stats,stats,ih y (List.mem_cons_self ..),ih2 fun z hz=>ih z (List.mem_cons_of_mem _ hz)]
theorem Ey(h:Alike P Q)(rb:Int)(y:S):stat Q rb y=stat P rb y:=by
 induction y using S.up with
 |_ y ih=>
  obtain⟨k,b,s,nm,has,x,i,l0,l1,l2,l3⟩:=y
  have i0:=fA (l:=l0) fun y hy=>ih y (.inl hy)
  have i1:=fA (l:=l1) fun y hy=>ih y (.inr (.inl hy))
  have i2:=fA (l:=l2) fun y hy=>ih y (.inr (.inr (.inl hy)))
  have i3:=fA (l:=l3) fun y hy=>ih y (.inr (.inr (.inr hy)))
  funext e
  rw [stat,stat,i0,i1,i2,i3,wG h,JC h,Cm h]
  simp only [h.find]
theorem Am(h:Alike P Q)(rb:Int)(l:List S):stats Q rb l=stats P rb l:=fA fun y _=>Ey h rb y
theorem DF(h:Alike P Q)(f:Fn):func Q f=func P f:=by unfold func;rw [Am h]
end
theorem E8(P:Pg):Alike P P.fold:=by
 refine⟨fun e n=>?_,fun n=>?_⟩
 ·unfold find
  cases e.jO n with
  |some l=>rfl
  |none=>
   have:∀(gs:List Gl)(k:Nat),((gs.map Gl.fold).zipIdx k).find? (fun g=>g.1.nm.data.toList==n)=((gs.zipIdx k).find? (fun g=>g.1.nm.data.toList==n)).map fun g=>(g.1.fold,g.2):=by
    intro gs
    induction gs with
    |nil=>intro k;rfl
    |cons g gs ih=>
     intro k
     rw [List.map_cons,List.zipIdx_cons,List.zipIdx_cons,List.find?_cons,List.find?_cons]
     show(match g.nm.data.toList==n with|true=>_|false=>_)=_
     cases hq:g.nm.data.toList==n with
     |true=>rfl
     |false=>exact ih _
   show(sQ (P.gs.map Gl.fold) n).map _=(sQ P.gs n).map _
   unfold sQ
   rw [this]
   cases(P.gs.zipIdx).find? (fun g=>g.1.nm.data.toList==n)with
   |none=>rfl
   |some g=>rfl
 ·unfold called
  have:∀fs:List Fn,(fs.map Fn.fold).find? (fun f=>f.nm.data.toList==n)=(fs.find? (fun f=>f.nm.data.toList==n)).map Fn.fold:=by
   intro fs
   induction fs with
   |nil=>rfl
   |cons f fs ih=>
    rw [List.map_cons,List.find?_cons,List.find?_cons]
    show(match f.nm.data.toList==n with|true=>_|false=>_)=_
    cases hq:f.nm.data.toList==n with
    |true=>rfl
    |false=>exact ih
  show(if n=put then _ else if n=get then _ else((P.fs.map Fn.fold).find? _).map _)=_
  rw [this]
  cases P.fs.find? (fun f=>f.nm.data.toList==n)with
  |none=>rfl
  |some f=>rfl
theorem EW{t:Ty}(h:t.e=0)(hb:t.b≠0):t.val=t:=by unfold Ty.val;rw [if_neg (fun hh=>hb hh.2)]
theorem okb{b:Int}(h:W.ok b):b≠0:=by rcases h with rfl|rfl|rfl|rfl<;>decide
theorem Jl{t:Ty}(h:t.e=0):first [t]=0:=by unfold first;rw [if_pos h];rfl
theorem W9{t u:Ty}(h:t.e=0)(h2:u.e=0):first [t,u]=0:=by unfold first;rw [if_pos h];exact Jl h2
theorem Oq(P:Pg)(e:Env)(x:X):X.gK x→X.Wf x→(X.cst x).e=0→ty P e x=⟨(X.cst x).b,(X.cst x).s,0⟩:=by
 induction x using X.up with
 |_ x ih=>
  intro hs hw h0
  have hf:=(X.fD x hs hw h0).1
  obtain⟨k,n,b,s,nm,ks⟩:=x
  rw [X.kS]at h0 hf⊢
  have h0:(Cst.of k n b s ((ks.map X.cst).getD 0 ⟨0,0,false,0⟩) ((ks.map X.cst).getD 1 ⟨0,0,false,0⟩)).e=0:=h0
  have hf:W.ok (Cst.of k n b s ((ks.map X.cst).getD 0 ⟨0,0,false,0⟩) ((ks.map X.cst).getD 1 ⟨0,0,false,0⟩)).b:=hf
  show ty P e (.mk k n b s nm ks)=⟨(Cst.of k n b s ((ks.map X.cst).getD 0 ⟨0,0,false,0⟩) ((ks.map X.cst).getD 1 ⟨0,0,false,0⟩)).b,(Cst.of k n b s ((ks.map X.cst).getD 0 ⟨0,0,false,0⟩) ((ks.map X.cst).getD 1 ⟨0,0,false,0⟩)).s,0⟩
  unfold Cst.of at h0 hf⊢
  by_cases h1:k=1
  ·subst h1
   have hk:ks=[]:=by
    have h5:((X.aX 1=-1∧ks.length≤8)∨(0≤X.aX 1∧X.aX 1=(ks.length:Int))):=(X.eH hs.own).2.2.2.2
    have e1:X.aX 1=0:=rfl
    rw [e1]at h5
    exact List.eq_nil_of_length_eq_zero (by omega)
   subst hk
   rw [if_pos rfl,ty,tys]
   unfold jv
   rw [if_neg (by decide),if_neg (fun h=>h rfl),if_pos (.inl rfl)]
  rw [if_neg h1]at h0 hf⊢
  by_cases h2:k<5∨26<k
  ·rw [if_pos h2]at h0;exact absurd h0 (show¬(8:Int)=0 by decide)
  rw [if_neg h2]at h0 hf⊢
  by_cases h9:k<9
  ·obtain⟨y,hy⟩:=hs.one (show 5≤k by omega) (show k<9 from h9)
   have hy:ks=[y]:=hy
   subst hy
   have e1:([y].map X.cst).getD 0 ⟨0,0,false,0⟩=X.cst y:=rfl
   rw [e1]at h0 hf⊢
   by_cases h3:(X.cst y).e≠0
   ·rw [if_pos h3]at h0;exact absurd h0 h3
   rw [if_neg h3]at h0 hf⊢
   have h3:=Classical.not_not.1 h3
   have WX:=X.fD y (hs.kid (List.mem_cons_self ..)) (hw.kid (List.mem_cons_self ..)) h3
   have IH:=ih y (List.mem_cons_self ..) (hs.kid (List.mem_cons_self ..)) (hw.kid (List.mem_cons_self ..)) h3
   have ht:tys P e [y]=[⟨(X.cst y).b,(X.cst y).s,0⟩]:=by
    rw [tys,tys,IH,EW rfl (okb WX.1)]
   rw [ty,ht]
   unfold jv
   rw [if_neg (by omega),if_neg (fun h=>h rfl)]
   by_cases h5:k=5
   ·rw [if_pos (.inr h5),if_pos h5]
   rw [if_neg h5]at h0⊢
   rw [if_neg h5]at hf
   rw [if_pos h9]at h0⊢
   have hu:=W.Xd k (X.cst y).n (X.cst y).b (X.cst y).s ⟨WX.2.1,Int.lt_of_lt_of_le WX.2.2 (W.uI _)⟩ h0 WX.1
   rw [if_neg (by omega),if_neg (by omega)]
   by_cases VN:k=6∨k=7
   ·obtain⟨u1,u2⟩:=hu.1 VN
    rw [if_pos VN]
    show(⟨W.pb (X.cst y).b,W.ps (X.cst y).b (X.cst y).s,0⟩:Ty)=⟨_,_,0⟩
    rw [u1,u2]
   ·obtain⟨u1,u2⟩:=hu.2 (by omega)
    rw [if_neg VN,if_pos (.inl (by omega))]
    show(⟨16,true,0⟩:Ty)=⟨_,_,0⟩
    rw [u1,u2]
  ·obtain⟨y,z,hy⟩:=hs.two (show 9≤k by omega)
   have hy:ks=[y,z]:=hy
   subst hy
   have e1:([y,z].map X.cst).getD 0 ⟨0,0,false,0⟩=X.cst y:=rfl
   have e2:([y,z].map X.cst).getD 1 ⟨0,0,false,0⟩=X.cst z:=rfl
   rw [e1,e2]at h0 hf⊢
   by_cases h3:(X.cst y).e≠0
   ·rw [if_pos h3]at h0;exact absurd h0 h3
   rw [if_neg h3,if_neg (by omega),if_neg h9]at h0 hf⊢
   by_cases h4:(X.cst z).e≠0
   ·rw [if_pos h4]at h0;exact absurd h0 h4
   rw [if_neg h4]at h0 hf⊢
   have h3:=Classical.not_not.1 h3
   have h4:=Classical.not_not.1 h4
   have my:y∈[y,z]:=List.mem_cons_self ..
   have mz:z∈[y,z]:=List.mem_cons_of_mem _ (List.mem_cons_self ..)
   have WX:=X.fD y (hs.kid my) (hw.kid my) h3
   have hzf:=X.fD z (hs.kid mz) (hw.kid mz) h4
   have ht:tys P e [y,z]=[⟨(X.cst y).b,(X.cst y).s,0⟩,⟨(X.cst z).b,(X.cst z).s,0⟩]:=by
    rw [tys,tys,tys,ih y my (hs.kid my) (hw.kid my) h3,ih z mz (hs.kid mz) (hw.kid mz) h4,EW rfl (okb WX.1),EW rfl (okb hzf.1)]
   rw [ty,ht]
   unfold jv
   rw [if_neg (by omega),if_neg (fun h=>h rfl),if_neg (by omega),if_neg (by omega),if_neg (by omega)]
   by_cases h5:k=25∨k=26
   ·rw [if_pos h5,if_pos (by omega)]
   ·rw [if_neg h5,if_neg (by omega)];rfl
theorem GZ(P:Pg)(e:Env)(x:X):X.gK x→X.Wf x→(ty P e x).e=0→ty P e (X.fold x)=ty P e x:=by
 induction x using X.up with
 |_ x ih=>
  intro hs hw h0
  obtain⟨k,n,b,s,nm,ks⟩:=x
  have IH:∀y∈ks,X.gK (X.fold y)∧X.Wf (X.fold y)∧X.cst (X.fold y)=X.cst y∧((X.cst y).e=0→X.known (X.fold y)=true):=fun y hy=>X.dL y (hs.kid hy) (hw.kid hy)
  have hso:X.gK (.mk k n b s nm (ks.map X.fold)):=by
   refine .mk _ _ _ _ _ _ ?_ (fun y hy=>?_)
   ·rw [List.length_map];exact hs.own
   ·obtain⟨z,hz,rfl⟩:=List.mem_map.1 hy;exact(IH z hz).1
  have hwo:X.Wf (.mk k n b s nm (ks.map X.fold)):=by
   cases hw with|mk _ _ _ _ _ _ hk hn hb hs2 h=>
   refine .mk _ _ _ _ _ _ hk hn hb hs2 (fun y hy=>?_)
   obtain⟨z,hz,rfl⟩:=List.mem_map.1 hy;exact(IH z hz).2.1
  rw [ty]at h0
  have hfi:=xI (uP h0)
  have hk:tys P e (ks.map X.fold)=tys P e ks:=by
   have:∀l:List X,(∀y∈l,y∈ks)→(∀t∈tys P e l,t.e=0)→tys P e (l.map X.fold)=tys P e l:=by
    intro l
    induction l with
    |nil=>intro _ _;rfl
    |cons y l ih2=>
     intro hy ht
     rw [tys]at ht
     rw [List.map_cons,tys,tys]
     have hm:=hy y (List.mem_cons_self ..)
     have h1:=ht _ (List.mem_cons_self ..)
     rw [ih y hm (hs.kid hm) (hw.kid hm) (val_ok h1).1,ih2 (fun z hz=>hy z (List.mem_cons_of_mem _ hz)) (fun t h=>ht t (List.mem_cons_of_mem _ h))]
   exact this ks (fun y hy=>hy) hfi
  have hty:ty P e (.mk k n b s nm (ks.map X.fold))=ty P e (.mk k n b s nm ks):=by rw [ty,ty,hk]
  rw [X.fold_eq (.mk k n b s nm ks)]
  show ty P e (X.bQ k n b s nm (ks.map X.fold))=_
  by_cases hc:(decide (5≤k)&&(ks.map X.fold).all X.known)=true∧(X.cst (.mk k n b s nm (ks.map X.fold))).e=0
  ·have e1:X.bQ k n b s nm (ks.map X.fold)=X.lit (X.cst (.mk k n b s nm (ks.map X.fold))).n (X.cst (.mk k n b s nm (ks.map X.fold))).b (X.cst (.mk k n b s nm (ks.map X.fold))).s:=if_pos hc
   have hf:Cst.Fine (X.cst (.mk k n b s nm (ks.map X.fold))):=X.fD _ hso hwo
   have h3:=hf hc.2
   obtain⟨l1,l2,l3,_⟩:=X.qy _ _ (X.cst (.mk k n b s nm (ks.map X.fold))).s (hf.U hc.2) h3.1 h3.2.2
   rw [e1,Oq P e _ l1 l2 (by rw [l3]),l3,←hty,Oq P e _ hso hwo hc.2]
  ·have e1:X.bQ k n b s nm (ks.map X.fold)= .mk k n b s nm (ks.map X.fold):=if_neg hc
   rw [e1];exact hty
structure Grow(e e':Env):Prop where
 lv:e'.lv.dropLast=e.lv.dropLast
 len:e'.lv.length=e.lv.length
 lo:e'.loops=e.loops
 us:∀n∈e.used,n∈e'.used
 sl:e.slots<+:e'.slots
theorem Grow.refl(e:Env):Grow e e:=⟨rfl,rfl,rfl,fun _ h=>h,List.prefix_refl _⟩
theorem Grow.trans{a b c:Env}(h:Grow a b)(k:Grow b c):Grow a c:=⟨k.lv.trans h.lv,k.len.trans h.len,k.lo.trans h.lo,fun n hn=>k.us n (h.us n hn),h.sl.trans k.sl⟩
structure Same(e e':Env):Prop where
 lv:e'.lv=e.lv
 lo:e'.loops=e.loops
 us:∀n∈e.used,n∈e'.used
 sl:e.slots<+:e'.slots
theorem Same.grow{e e':Env}(h:Same e e'):Grow e e':=⟨by rw [h.lv],by rw [h.lv],h.lo,h.us,h.sl⟩
theorem Same.refl(e:Env):Same e e:=⟨rfl,rfl,fun _ h=>h,List.prefix_refl _⟩
theorem Same.trans{a b c:Env}(h:Same a b)(k:Same b c):Same a c:=⟨k.lv.trans h.lv,k.lo.trans h.lo,fun n hn=>k.us n (h.us n hn),h.sl.trans k.sl⟩
theorem kJ{e:Env}{r:Int×Env}{f:Env→Int×Env}(hr:Grow e r.2)(hf:∀a,Grow e a→Grow e (f a).2):Grow e (on r f).2:=by
 unfold on;split
 ·exact hf _ hr
 ·exact hr
theorem oh{a:Env}{r:Int×Env}(hr:Grow a.open r.2):Same a (shut r).2:=by
 refine⟨?_,hr.lo,hr.us,hr.sl⟩
 show r.2.lv.dropLast=a.lv
 rw [hr.lv]
 show(a.lv++[[]]).dropLast=a.lv
 simp
theorem yx{a:Env}{r:Int×Env}(hr:Grow (more a).open r.2):Same a (less (shut r)).2:=by
 obtain⟨h1,h2,h3,h4⟩:=oh hr
 refine⟨h1,?_,h3,h4⟩
 show r.2.loops-1=a.loops
 have h2:r.2.loops=a.loops+1:=h2
 rw [h2];omega
theorem zL{e e':Env}{b:Int}{s:Bool}{n:Nm}(h:e.declare b s n=some e')(h1:1≤e.lv.length):Grow e e':=by
 unfold Env.declare at h
 split at h
 ·cases h
 ·injection h with h
  subst h
  refine⟨by simp,?_,rfl,fun m hm=>List.mem_append_left _ hm,List.prefix_append _ _⟩
  show(e.lv.dropLast++[_]).length=_
  rw [List.length_append,List.length_dropLast];simp;omega
theorem gJ{P:Pg}{rb:Int}{l:List S}(ih:∀y∈l,∀e,1≤e.lv.length→Grow e (stat P rb y e).2):∀e,1≤e.lv.length→Grow e (stats P rb l e).2:=by
 induction l with
 |nil=>intro e _;rw [stats];exact Grow.refl e
 |cons y l ih2=>
  intro e h1
  rw [stats]
  exact kJ (ih y (List.mem_cons_self ..) e h1) fun a ha=>ha.trans (ih2 (fun z hz=>ih z (List.mem_cons_of_mem _ hz)) a (by rw [ha.len];exact h1))
theorem xH(P:Pg)(rb:Int)(x:S):∀e,1≤e.lv.length→Grow e (stat P rb x e).2:=by
 induction x using S.up with
 |_ x ih=>
  intro e h1
  obtain⟨k,b,s,nm,has,x,i,l0,l1,l2,l3⟩:=x
  have i0:=gJ (P:=P) (rb:=rb) (l:=l0) fun y hy e=>ih y (.inl hy) e
  have i1:=gJ (P:=P) (rb:=rb) (l:=l1) fun y hy e=>ih y (.inr (.inl hy)) e
  have i2:=gJ (P:=P) (rb:=rb) (l:=l2) fun y hy e=>ih y (.inr (.inr (.inl hy))) e
  have i3:=gJ (P:=P) (rb:=rb) (l:=l3) fun y hy e=>ih y (.inr (.inr (.inr hy))) e
  rw [stat]
  have r0:=Grow.refl e
  have rm:∀x,Grow e (may P has x e).2:=fun x=>by rw [dh];exact r0
  have rv:Grow e (vals P x e).2:=r0
  have sh:∀{a:Env}{r:Int×Env},Grow e a→Grow a.open r.2→Grow e (shut r).2:=fun ha hr=>ha.trans (oh hr).grow
  have le:∀{a:Env}{r:Int×Env},Grow e a→Grow (more a).open r.2→Grow e (less (shut r)).2:=fun ha hr=>ha.trans (yx hr).grow
  split
  ·unfold on
   split
   ·rw [dh]
    try dsimp only
    cases hd:e.declare b s nm.data.toList with
    |none=>exact r0
    |some e'=>exact zL hd h1
   ·exact rm x
  split
  ·refine kJ (rm i) fun a ha=>?_
   split
   ·exact ha
   ·split
    ·exact ha
    ·exact ha
  split
  ·exact r0
  split
  ·split
   ·exact r0
   ·exact rm x
  split
  ·exact r0
  split
  ·refine kJ rv fun a ha=>?_
   exact kJ (sh ha (i2 _ (aO a))) fun c hc=>sh hc (i3 _ (aO c))
  split
  ·exact kJ rv fun a ha=>le ha (i2 _ (aO _))
  split
  ·refine kJ (sh r0 (i0 _ (aO e))) fun a ha=>?_
   refine kJ (by rw [dh];exact ha) fun c hc=>?_
   exact kJ (sh hc (i1 _ (aO c))) fun d hd=>le hd (i2 _ (aO _))
  split
  ·exact sh r0 (i2 _ (aO e))
  ·exact r0
theorem oW(P:Pg)(rb:Int)(l:List S):∀e,1≤e.lv.length→Grow e (stats P rb l e).2:=gJ fun y _=>xH P rb y
end Ck
end
section
open Go.RowKit
namespace Ck
def er(l:Loc):Nm×Int×Bool:=(l.nm,l.b,l.s)
structure mF(e e':Env):Prop where
 lv:e'.lv.map (List.map er)=e.lv.map (List.map er)
 lo:e'.loops=e.loops
 us:∀n∈e'.used,n∈e.used
 sl:e'.slots.Sublist e.slots
section
variable{P:Pg}{e e':Env}
theorem mF.len(h:mF e e'):e'.lv.length=e.lv.length:=by have:=congrArg List.length h.lv;simpa using this
theorem Ai(e:Env)(n:Nm):(e.jO n).map er=((e.lv.map (List.map er)).flatten.reverse).find? (fun l=>l.1==n):=by
 unfold Env.jO
 rw [←List.map_flatten,←List.map_reverse,List.find?_map]
 rfl
def pe(p:Pl):Int×Bool×Int:=(p.b,p.s,p.size)
theorem BU(h:mF e e')(n:Nm):(find P e' n).map pe=(find P e n).map pe:=by
 have h1:(e'.jO n).map er=(e.jO n).map er:=by rw [Ai,Ai,h.lv]
 unfold find
 cases h2:e'.jO n with
 |none=>
  cases h3:e.jO n with
  |none=>rfl
  |some l=>rw [h2,h3]at h1;cases h1
 |some l'=>
  cases h3:e.jO n with
  |none=>rw [h2,h3]at h1;cases h1
  |some l=>
   rw [h2,h3]at h1
   have h1:er l'=er l:=by injection h1
   unfold er at h1
   rw [Prod.ext_iff,Prod.ext_iff]at h1
   show some (l'.b,l'.s,(0:Int))=some (l.b,l.s,0)
   rw [show l'.b=l.b from h1.2.1,show l'.s=l.s from h1.2.2]
theorem NU(h:mF e e')(k b:Int)(s:Bool)(n:Nm)(ts:List Ty):jv P e' k b s n ts=jv P e k b s n ts:=by
 have h1:=BU (P:=P) h n
 unfold jv
 cases h2:find P e' n with
 |none=>
  cases h3:find P e n with
  |none=>rfl
  |some p=>rw [h2,h3]at h1;cases h1
 |some p'=>
  cases h3:find P e n with
  |none=>rw [h2,h3]at h1;cases h1
  |some p=>
   rw [h2,h3]at h1
   have h1:pe p'=pe p:=by injection h1
   unfold pe at h1
   rw [Prod.ext_iff,Prod.ext_iff]at h1
   simp only [show p'.b=p.b from h1.1,show p'.s=p.s from h1.2.1,show p'.size=p.size from h1.2.2]
theorem Oj(h:mF e e')(x:X):ty P e' x=ty P e x:=by
 induction x using X.up with
 |_ x ih=>
  obtain⟨k,n,b,s,nm,ks⟩:=x
  have hk:tys P e' ks=tys P e ks:=by
   have:∀l:List X,(∀y∈l,ty P e' y=ty P e y)→tys P e' l=tys P e l:=by
    intro l
    induction l with
    |nil=>intro _;rw [tys,tys]
    |cons y l ih2=>intro hy;rw [tys,tys,hy y (List.mem_cons_self ..),ih2 fun z hz=>hy z (List.mem_cons_of_mem _ hz)]
   exact this ks ih
  rw [ty,ty,hk,NU h]
theorem mF.open(h:mF e e'):mF e.open e'.open:=⟨by show(e'.lv++[[]]).map _=(e.lv++[[]]).map _;rw [List.map_append,List.map_append,h.lv],h.lo,h.us,h.sl⟩
theorem mF.close(h:mF e e'):mF e.close e'.close:=⟨by show(e'.lv.dropLast).map _=(e.lv.dropLast).map _;rw [List.map_dropLast,List.map_dropLast,h.lv],h.lo,h.us,h.sl⟩
theorem mF.more(h:mF e e'):mF (more e) (more e'):=⟨h.lv,by show e'.loops+1=e.loops+1;rw [h.lo],h.us,h.sl⟩
theorem mF.on{e1:Env}(h:mF e e')(hs:Same e e1):mF e1 e':=⟨by rw [hs.lv];exact h.lv,h.lo.trans hs.lo.symm,fun n hn=>hs.us n (h.us n hn),h.sl.trans hs.sl.sublist⟩
theorem mF.declare(h:mF e e'){b:Int}{s:Bool}{n:Nm}{e1:Env}(hd:e.declare b s n=some e1):∃e1',e'.declare b s n=some e1'∧mF e1 e1':=by
 unfold Env.declare at hd⊢
 split at hd
 ·cases hd
 rename_i hc
 injection hd with hd
 subst hd
 have hc':¬e'.used.contains n=true:=fun hh=>hc (by
  have:=h.us n (by simpa using hh)
  simpa using this)
 rw [if_neg hc']
 refine⟨_,rfl,?_,h.lo,fun m hm=>?_,List.Sublist.append h.sl (List.Sublist.refl _)⟩
 ·show(e'.lv.dropLast++[_]).map _=(e.lv.dropLast++[_]).map _
  rw [List.map_append,List.map_append,List.map_dropLast,List.map_dropLast,h.lv]
  congr 1
  have hl:(e'.lv.getLastD []).map er=(e.lv.getLastD []).map er:=by
   have h1:∀l:List (List Loc),(l.getLastD []).map er=(l.map (List.map er)).getLastD []:=by
    intro l
    rw [List.getLastD_eq_getLast?,List.getLastD_eq_getLast?,List.getLast?_map]
    cases l.getLast?<;>rfl
   rw [h1,h1,h.lv]
  show[((e'.lv.getLastD [])++[(⟨n,b,s,e'.slots.length⟩:Loc)]).map er]=[((e.lv.getLastD [])++[(⟨n,b,s,e.slots.length⟩:Loc)]).map er]
  rw [List.map_append,List.map_append,hl];rfl
 ·rcases List.mem_append.1 hm with hm|hm
  ·exact List.mem_append_left _ (h.us m hm)
  ·exact List.mem_append_right _ hm
end
def Goes(r r':Int×Env):Prop:=r.1=0→r'.1=0∧mF r.2 r'.2
section
variable{P:Pg}{rb:Int}
theorem jr{r r':Int×Env}{f g:Env→Int×Env}(h:Goes r r')(hf:∀e e',mF e e'→e=r.2→Goes (f e) (g e')):Goes (on r f) (on r' g):=by
 intro h0
 obtain⟨h1,h2⟩:=qJ h0
 obtain⟨k1,k2⟩:=h h1
 rw [h2]at h0⊢
 rw [zG k1]
 exact hf _ _ k2 rfl h0
theorem fO{r r':Int×Env}(h:Goes r r'):Goes (shut r) (shut r'):=fun h0=>⟨(h h0).1,(h h0).2.close⟩
theorem yA{r r':Int×Env}(h:Goes r r'):Goes (less r) (less r'):=fun h0=>⟨(h h0).1,⟨(h h0).2.lv,by show r'.2.loops-1=r.2.loops-1;rw [(h h0).2.lo],(h h0).2.us,(h h0).2.sl⟩⟩
theorem oq{x:X}(hs:X.gK x)(hw:X.Wf x){e e':Env}(h:mF e e'):Goes (vals P x e) (vals P (X.fold x) e'):=by
 intro h0
 unfold vals at h0⊢
 have h1:(ty P e x).e=0:=(val_ok h0).1
 refine⟨?_,h⟩
 show(ty P e' (X.fold x)).val.e=0
 rw [Oj h,GZ P e x hs hw h1];exact h0
theorem Rh{x:X}(hs:X.gK x)(hw:X.Wf x){e e':Env}(h:mF e e'):Goes ((ty P e x).e,e) ((ty P e' (X.fold x)).e,e'):=by
 intro h0
 refine⟨?_,h⟩
 show(ty P e' (X.fold x)).e=0
 rw [Oj h,GZ P e x hs hw h0];exact h0
theorem qK{has:Bool}{x x':X}(hx:has=true→x'=X.fold x∧X.gK x∧X.Wf x){e e':Env}(h:mF e e'):Goes (may P has x e) (may P has x' e'):=by
 intro h0
 unfold may at h0⊢
 by_cases hh:has=true
 ·rw [if_pos hh]at h0⊢
  rw [if_pos hh]
  obtain⟨rfl,h1,h2⟩:=hx hh
  exact oq h1 h2 h h0
 ·rw [if_neg hh,if_neg hh];exact⟨rfl,h⟩
theorem gI{l:List S}{N:Nat}{d:Int}(hc:(S.cnts l N d).1=0)(hw:∀y∈l,S.Wf y)
 (ih:∀y∈l,∀N d,(S.cnt y N d).1=0→S.Wf y→∀e e',mF e e'→1≤e.lv.length→Goes (stat P rb y e) (stat P rb (S.fold y) e')):∀e e',mF e e'→1≤e.lv.length→Goes (stats P rb l e) (stats P rb (S.folds l) e'):=by
 induction l generalizing N with
 |nil=>intro e e' h _ _;rw [S.folds,stats,stats];exact⟨rfl,h⟩
 |cons y l ih2=>
  intro e e' h h1
  rw [S.cnts]at hc
  split at hc
  ·rename_i hy
   rw [S.folds,stats,stats]
   refine jr (ih y (List.mem_cons_self ..) N d hy (hw y (List.mem_cons_self ..)) e e' h h1) fun a a' ha ea=>?_
   exact ih2 hc (fun z hz=>hw z (List.mem_cons_of_mem _ hz)) (fun z hz=>ih z (List.mem_cons_of_mem _ hz)) a a' ha (by rw [ea,(xH P rb y e h1).len];exact h1)
  ·rename_i hy;exact absurd hc hy
theorem fF{k:Int}{has:Bool}(h:k=3∨k=4∨k=5∨k=6):S.looks k has=true:=by rcases h with rfl|rfl|rfl|rfl<;>rfl
theorem jG{k:Int}{has:Bool}(h:k=2∨k=7∨k=8):S.looks k has=has:=by rcases h with rfl|rfl|rfl<;>simp [S.looks]
theorem IZ(y:S):∀N d,(S.cnt y N d).1=0→S.Wf y→∀e e',mF e e'→1≤e.lv.length→Goes (stat P rb y e) (stat P rb (S.fold y) e'):=by
 induction y using S.up with
 |_ y ih=>
  intro N d hc hw e e' hS h1
  obtain⟨k,b,s,nm,has,x,i,l0,l1,l2,l3⟩:=y
  obtain⟨N1,N2,N3,N4,N5,C⟩:=S.iJ hc
  obtain⟨wx,wi,w0,w1,w2,w3⟩:=hw.x
  have s0:k=7→∀e e',mF e e'→1≤e.lv.length→Goes (stats P rb l0 e) (stats P rb (S.folds l0) e'):=fun hk=>gI (by rw [C.yH hk]) w0 (fun y hy=>ih y (.inl hy))
  have s1:k=7→∀e e',mF e e'→1≤e.lv.length→Goes (stats P rb l1 e) (stats P rb (S.folds l1) e'):=fun hk=>gI (by rw [C.yI hk]) w1 (fun y hy=>ih y (.inr (.inl hy)))
  have s2:k=5∨k=6∨k=7∨k=11→∀e e',mF e e'→1≤e.lv.length→Goes (stats P rb l2 e) (stats P rb (S.folds l2) e'):=fun hk=>gI (by rw [C.pR hk]) w2 (fun y hy=>ih y (.inr (.inr (.inl hy))))
  have s3:k=5→∀e e',mF e e'→1≤e.lv.length→Goes (stats P rb l3 e) (stats P rb (S.folds l3) e'):=fun hk=>gI (C.c6 hk) w3 (fun y hy=>ih y (.inr (.inr (.inr hy))))
  rw [S.fold]
  unfold S.prt
  rw [S.after]
  by_cases c1:k=5∧X.known (if S.looks k has=true then X.fold x else x)=true
  ·rw [if_pos c1]
   obtain⟨rfl,_⟩:=c1
   rw [if_pos (show(5:Int)=5∨(5:Int)=6∨(5:Int)=7∨(5:Int)=11 by decide),if_pos rfl]
   have hst:stat P rb (.mk 5 b s nm has x i l0 l1 l2 l3) e=on (vals P x e) fun e=>on (shut (stats P rb l2 e.open)) fun e=>shut (stats P rb l3 e.open):=by
    rw [stat,if_neg (by decide),if_neg (by decide),if_neg (by decide),if_neg (by decide),if_neg (by decide),if_pos rfl]
   have hbk:∀l,stat P rb (S.blk l) e'=shut (stats P rb l e'.open):=fun l=>by
    unfold S.blk
    rw [stat,if_neg (by decide),if_neg (by decide),if_neg (by decide),if_neg (by decide),if_neg (by decide),if_neg (by decide),if_neg (by decide),if_neg (by decide),if_pos rfl]
   rw [hst,hbk]
   intro h0
   obtain⟨v1,v2⟩:=qJ h0
   rw [v2]at h0⊢
   have ev:(vals P x e).2=e:=rfl
   rw [ev]at h0⊢
   obtain⟨b1,b2⟩:=qJ h0
   rw [b2]at h0⊢
   have Yk:Same e (shut (stats P rb l2 e.open)).2:=oh (oW P rb l2 e.open (aO e))
   have same2:Same (shut (stats P rb l2 e.open)).2 (shut (stats P rb l3 (shut (stats P rb l2 e.open)).2.open)).2:=oh (oW P rb l3 _ (aO _))
   by_cases hq:(X.cst (if S.looks 5 has=true then X.fold x else x)).n≠0
   ·rw [if_pos hq]
    obtain⟨q1,q2⟩:=fO (s2 (.inl rfl) e.open e'.open hS.open (aO e)) b1
    exact⟨q1,q2.on same2⟩
   ·rw [if_neg hq]
    exact fO (s3 rfl _ e'.open (hS.on Yk).open (aO _)) h0
  rw [if_neg c1]
  by_cases c2:k=6∧X.known (if S.looks k has=true then X.fold x else x)=true∧(X.cst (if S.looks k has=true then X.fold x else x)).n=0
  ·rw [if_pos c2]
   obtain⟨rfl,_⟩:=c2
   have hst:stat P rb (.mk 6 b s nm has x i l0 l1 l2 l3) e=on (vals P x e) fun e=>less (shut (stats P rb l2 (more e).open)):=by
    rw [stat,if_neg (by decide),if_neg (by decide),if_neg (by decide),if_neg (by decide),if_neg (by decide),if_neg (by decide),if_pos rfl]
   have hn:stat P rb S.none0 e'=(0,e'):=by
    unfold S.none0
    rw [stat,if_neg (by decide),if_neg (by decide),if_neg (by decide),if_neg (by decide),if_neg (by decide),if_neg (by decide),if_neg (by decide),if_neg (by decide),if_neg (by decide)]
   rw [hst,hn]
   intro h0
   obtain⟨v1,v2⟩:=qJ h0
   rw [v2]at h0⊢
   have ev:(vals P x e).2=e:=rfl
   rw [ev]at h0⊢
   exact⟨rfl,hS.on (yx (oW P rb l2 _ (aO _)))⟩
  rw [if_neg c2,stat,stat]
  by_cases k2:k=2
  ·subst k2
   rw [if_pos rfl,if_pos rfl,jG (.inl rfl)]
   refine jr (qK (fun hh=>⟨if_pos hh,C.sH (by rw [jG (.inl rfl)];exact hh),wx⟩) hS) fun a a' ha ea h0=>?_
   cases hd:a.declare b s nm.data.toList with
   |none=>rw [hd]at h0;exact absurd h0 (show¬(7:Int)=0 by decide)
   |some a1=>
    obtain⟨a1',k1,k2⟩:=ha.declare hd
    rw [k1];exact⟨rfl,k2⟩
  rw [if_neg k2,if_neg k2]
  by_cases k3:k=3
  ·subst k3
   rw [if_pos rfl,if_pos rfl,if_pos (fF (.inl rfl))]
   refine jr (qK (fun hh=>⟨if_pos ⟨rfl,hh⟩,C.Wy rfl hh,wi⟩) hS) fun a a' ha ea h0=>?_
   have hf:=BU (P:=P) ha nm.data.toList
   cases h2:find P a nm.data.toList with
   |none=>rw [h2]at h0;exact absurd h0 (show¬(7:Int)=0 by decide)
   |some p=>
    cases h3:find P a' nm.data.toList with
    |none=>rw [h2,h3]at hf;cases hf
    |some p'=>
     rw [h2,h3]at hf
     have hf:pe p'=pe p:=by injection hf
     have hz:p'.size=p.size:=by unfold pe at hf;rw [Prod.ext_iff,Prod.ext_iff]at hf;exact hf.2.2
     rw [h2]at h0
     have h0:(if((decide (0<p.size))!=has)=true then(9,a)else vals P x a).1=0:=h0
     show(if((decide (0<p'.size))!=has)=true then(9,a')else vals P (X.fold x) a').1=0∧mF (if((decide (0<p.size))!=has)=true then(9,a)else vals P x a).2 (if((decide (0<p'.size))!=has)=true then(9,a')else vals P (X.fold x) a').2
     rw [hz]
     by_cases hb:((decide (0<p.size))!=has)=true
     ·rw [if_pos hb]at h0;exact absurd h0 (show¬(9:Int)=0 by decide)
     ·rw [if_neg hb]at h0⊢
      rw [if_neg hb]
      exact oq (C.sH (fF (.inl rfl))) wx ha h0
  rw [if_neg k3,if_neg k3]
  by_cases k4:k=4
  ·subst k4
   rw [if_pos rfl,if_pos rfl,if_pos (fF (.inr (.inl rfl)))]
   exact Rh (C.sH (fF (.inr (.inl rfl)))) wx hS
  rw [if_neg k4,if_neg k4]
  by_cases k8:k=8
  ·subst k8
   rw [if_pos rfl,if_pos rfl,jG (.inr (.inr rfl))]
   by_cases hb:(has !=decide (0<rb))=true
   ·rw [if_pos hb];intro h0;exact absurd h0 (show¬(9:Int)=0 by decide)
   ·rw [if_neg hb,if_neg hb]
    exact qK (fun hh=>⟨if_pos hh,C.sH (by rw [jG (.inr (.inr rfl))];exact hh),wx⟩) hS
  rw [if_neg k8,if_neg k8]
  by_cases k9:k=9∨k=10
  ·rw [if_pos k9,if_pos k9]
   intro h0
   refine⟨?_,hS⟩
   show(if e'.loops=0 then(8:Int)else 0)=0
   rw [hS.lo];exact h0
  rw [if_neg k9,if_neg k9]
  by_cases k5:k=5
  ·subst k5
   rw [if_pos rfl,if_pos rfl,if_pos (fF (.inr (.inr (.inl rfl)))),if_pos (.inl rfl),if_pos rfl]
   refine jr (oq (C.sH (fF (.inr (.inr (.inl rfl))))) wx hS) fun a a' ha ea=>?_
   exact jr (fO (s2 (.inl rfl) _ _ ha.open (aO _))) fun c c' hc ec=>fO (s3 rfl _ _ hc.open (aO _))
  rw [if_neg k5,if_neg k5]
  by_cases k6:k=6
  ·subst k6
   rw [if_pos rfl,if_pos rfl,if_pos (fF (.inr (.inr (.inr rfl)))),if_pos (.inr (.inl rfl))]
   refine jr (oq (C.sH (fF (.inr (.inr (.inr rfl))))) wx hS) fun a a' ha ea=>?_
   exact yA (fO (s2 (.inr (.inl rfl)) _ _ ha.more.open (aO _)))
  rw [if_neg k6,if_neg k6]
  by_cases k7:k=7
  ·subst k7
   rw [if_pos rfl,if_pos rfl,if_pos (show(7:Int)=5∨(7:Int)=6∨(7:Int)=7∨(7:Int)=11 by decide)]
   simp only [if_true,jG (k:=7) (has:=has) (.inr (.inl rfl))]
   refine jr (fO (s0 rfl _ _ hS.open (aO _))) fun a a' ha ea=>?_
   refine jr (qK (fun hh=>⟨if_pos hh,C.sH (by rw [jG (.inr (.inl rfl))];exact hh),wx⟩) ha) fun c c' hc ec=>?_
   exact jr (fO (s1 rfl _ _ hc.open (aO _))) fun f f' hf ef=>yA (fO (s2 (.inr (.inr (.inl rfl))) _ _ hf.more.open (aO _)))
  rw [if_neg k7,if_neg k7]
  by_cases k11:k=11
  ·subst k11
   rw [if_pos rfl,if_pos rfl,if_pos (.inr (.inr (.inr rfl)))]
   exact fO (s2 (.inr (.inr (.inr rfl))) _ _ hS.open (aO _))
  rw [if_neg k11,if_neg k11]
  exact fun _=>⟨rfl,hS⟩
theorem EJ{l:List S}{N:Nat}{d:Int}(hc:(S.cnts l N d).1=0)(hw:∀y∈l,S.Wf y):∀e e',mF e e'→1≤e.lv.length→Goes (stats P rb l e) (stats P rb (S.folds l) e'):=gI hc hw fun y _=>IZ y
end
theorem mF.refl(e:Env):mF e e:=⟨rfl,rfl,fun _ h=>h,List.Sublist.refl _⟩
theorem Js{l m:List (Int×Bool)}(h:l.Sublist m)(hm:∀t∈m,W.ok t.1):words l≤words m:=by
 induction h with
 |slnil=>exact Int.le_refl _
 |cons a h ih=>
  have h1:=ih fun t ht=>hm t (List.mem_cons_of_mem _ ht)
  have h2:0≤FM a.1:=by rcases hm a (List.mem_cons_self ..)with e|e|e|e<;>rw [e]<;>decide
  unfold words at*
  rw [List.map_cons,List.sum_cons];omega
 |cons_cons a h ih=>
  have h1:=ih fun t ht=>hm t (List.mem_cons_of_mem _ ht)
  unfold words at*
  rw [List.map_cons,List.map_cons,List.sum_cons,List.sum_cons];omega
theorem JG{P:Pg}{f:Fn}{N:Nat}(hps:f.ps.length≤8)(hok:∀p∈f.ps,W.ok p.b)(hN:N≤20000)(hc:(S.cnts f.body N 2).1=0)(hw:Fn.Wf f)(h:func P f=0):func P f.fold=0:=by
 cases he:enter f.ps Env.new with
 |none=>rw [xK he]at h;exact absurd h (by decide)
 |some e1=>
  have he':enter f.fold.ps Env.new=some e1:=he
  have h1:(stats P f.b f.body e1.open).1=0:=Classical.byContradiction fun hn=>by rw [Bj he hn]at h;exact hn h
  have h2:¬200<words (stats P f.b f.body e1.open).2.slots:=fun hn=>by rw [xX he h1 hn]at h;exact absurd h (by decide)
  obtain⟨g1,g2⟩:=EJ (P:=P) (rb:=f.b) hc hw.body e1.open e1.open (mF.refl _) (aO _) h1
  have hws:=Js g2.sl (vJ hps hok hN hc he).1
  exact xY (f:=f.fold) he' g1 (by show¬200<words (stats P f.b (S.folds f.body) e1.open).2.slots;omega)
theorem Fp{gs:List Gl}:∀{i:Nat}{tk:List Nm}{all:Int},(∀g∈gs,∀x∈g.ini,X.gK x∧X.Wf x)→globs i tk all (gs.map Gl.fold)=globs i tk all gs:=by
 induction gs with
 |nil=>intro i tk all _;rfl
 |cons g gs ih=>
  intro i tk all h
  have hi:inits (g.ini.map X.fold)=inits g.ini:=by
   have:∀l:List X,(∀x∈l,X.gK x∧X.Wf x)→inits (l.map X.fold)=inits l:=by
    intro l
    induction l with
    |nil=>intro _;rfl
    |cons x l ih2=>
     intro hx
     have h1:=hx x (List.mem_cons_self ..)
     rw [List.map_cons,inits,inits,(X.dL x h1.1 h1.2).2.2.1,ih2 fun z hz=>hx z (List.mem_cons_of_mem _ hz)]
   exact this g.ini (h g (List.mem_cons_self ..))
  rw [List.map_cons,globs,globs,ih fun g hg=>h g (List.mem_cons_of_mem _ hg)]
  show(if tk.contains g.nm.data.toList then _ else if 8000<all+(if g.size<1 then 1 else g.size)*FM g.b then _ else if inits (g.ini.map X.fold)≠0 then((inits (g.ini.map X.fold),i),tk)else _)=_
  rw [hi];rfl
theorem FC{fs:List Fn}:∀{i:Nat}{tk:List Nm},names i tk (fs.map Fn.fold)=names i tk fs:=by
 induction fs with
 |nil=>intro i tk;rfl
 |cons f fs ih=>intro i tk;rw [List.map_cons,names,names,ih];rfl
theorem Ec{P:Pg}(hw:Pg.Wf P)(h:(check P).1=0):(check P.fold).1=0:=by
 obtain⟨a1,a2,a3,a4,a5⟩:=dS.1 h
 obtain⟨_,_,hg,hf⟩:=jB a1
 have hgs:globs 0 [put,get] 0 P.fold.gs=globs 0 [put,get] 0 P.gs:=Fp fun g hgm x hx=>⟨(hg g hgm).2.2.2 x hx,(hw.gs g hgm).ini x hx⟩
 have hl:P.fold.gs.length=P.gs.length:=by show(P.gs.map _).length=_;rw [List.length_map]
 refine dS.2 ⟨(Pg.uY hw a1).1,by rw [hgs];exact a2,?_,?_,?_⟩
 ·rw [hgs,hl]
  show(names _ _ (P.fs.map Fn.fold)).1=0
  rw [FC];exact a3
 ·refine qV.2 fun f hm=>?_
  obtain⟨g,hg1,rfl⟩:=List.mem_map.1 hm
  obtain⟨f1,f2,N,f3,f4⟩:=hf g hg1
  rw [DF (E8 P)]
  exact JG f1 f2 f3 f4 (hw.fs g hg1) (qV.1 a4 g hg1)
 ·unfold jw at*
  show(P.fs.map Fn.fold).any _=true
  rw [List.any_map];exact a5
end Ck
theorem Pg.iQ{P:Pg}(hw:Pg.Wf P)(h:Pg.wrong P=0):P.fold.fold=P.fold:=by
 obtain⟨_,_,hg,hf⟩:=jB h
 show(⟨(P.gs.map Gl.fold).map Gl.fold,(P.fs.map Fn.fold).map Fn.fold⟩:Pg)=⟨P.gs.map Gl.fold,P.fs.map Fn.fold⟩
 rw [List.map_map,List.map_map]
 congr 1
 ·refine List.map_congr_left fun g hgm=>?_
  show({g with ini:=(g.ini.map X.fold).map X.fold}:Gl)={g with ini:=g.ini.map X.fold}
  rw [List.map_map]
  congr 1
  exact List.map_congr_left fun x hx=>X.iQ x ((hg g hgm).2.2.2 x hx) ((hw.gs g hgm).ini x hx)
 ·refine List.map_congr_left fun f hfm=>?_
  obtain⟨_,_,N,_,f4⟩:=hf f hfm
  show({f with body:=S.folds (S.folds f.body)}:Fn)={f with body:=S.folds f.body}
  rw [S.stay f4 (hw.fs f hfm).body]
end
section
open Go.RowKit
namespace S
theorem tV:X.Wf X.zero:= .mk _ _ _ _ _ _ ⟨by decide,by decide⟩ ⟨by decide,by decide⟩ ⟨by decide,by decide⟩ (Nat.zero_le _) (fun x hx=>by simp at hx)
theorem U5{l:List S}(h:∀y∈l,S.Wf y):S.Wf (blk l):= .mk _ _ _ _ _ _ _ _ _ _ _ ⟨by decide,by decide⟩ ⟨by decide,by decide⟩ (Nat.zero_le _) tV tV (fun y hy=>by simp at hy) (fun y hy=>by simp at hy) h (fun y hy=>by simp at hy)
theorem Rt:S.Wf none0:= .mk _ _ _ _ _ _ _ _ _ _ _ ⟨by decide,by decide⟩ ⟨by decide,by decide⟩ (Nat.zero_le _) tV tV (fun y hy=>by simp at hy) (fun y hy=>by simp at hy) (fun y hy=>by simp at hy) (fun y hy=>by simp at hy)
theorem iY{l:List S}{N:Nat}{d:Int}(h:(cnts l N d).1=0)(hw:∀y∈l,S.Wf y)(ih:∀y∈l,∀N d,(cnt y N d).1=0→S.Wf y→S.Wf (fold y)):∀y∈folds l,S.Wf y:=by
 rw [gQ]
 intro y hy
 obtain⟨x,hx,rfl⟩:=List.mem_map.1 hy
 obtain⟨M,hM⟩:=BX h x hx
 exact ih x hx M d hM (hw x hx)
theorem after_wf{y:S}(h:S.Wf y):S.Wf (after y):=by
 obtain⟨k,b,s,nm,has,x,i,l0,l1,l2,l3⟩:=y
 obtain⟨wx,wi,w0,w1,w2,w3⟩:=h.x
 rw [after]
 split
 ·apply U5;split<;>assumption
 split
 ·exact Rt
 ·exact h
theorem fold_wf(y:S):∀N d,(cnt y N d).1=0→S.Wf y→S.Wf (fold y):=by
 induction y using S.up with
 |_ y ih=>
  intro N d hc hw
  obtain⟨k,b,s,nm,has,x,i,l0,l1,l2,l3⟩:=y
  obtain⟨N1,N2,N3,N4,N5,C⟩:=iJ hc
  obtain⟨wx,wi,w0,w1,w2,w3⟩:=hw.x
  have s0:k=7→∀y∈folds l0,S.Wf y:=fun hk=>iY (by rw [C.yH hk]) w0 (fun y hy=>ih y (.inl hy))
  have s1:k=7→∀y∈folds l1,S.Wf y:=fun hk=>iY (by rw [C.yI hk]) w1 (fun y hy=>ih y (.inr (.inl hy)))
  have s2:k=5∨k=6∨k=7∨k=11→∀y∈folds l2,S.Wf y:=fun hk=>iY (by rw [C.pR hk]) w2 (fun y hy=>ih y (.inr (.inr (.inl hy))))
  have s3:k=5→∀y∈folds l3,S.Wf y:=fun hk=>iY (C.c6 hk) w3 (fun y hy=>ih y (.inr (.inr (.inr hy))))
  rw [fold]
  apply after_wf
  unfold prt
  cases hw with|mk _ _ _ _ _ _ _ _ _ _ _ hk hb hs _ _ _ _ _ _=>
  refine .mk _ _ _ _ _ _ _ _ _ _ _ hk hb hs ?_ ?_ ?_ ?_ ?_ ?_
  ·split
   ·rename_i h;exact(X.dL x (C.sH h) wx).2.1
   ·exact wx
  ·split
   ·rename_i h;exact(X.dL i (C.Wy h.1 h.2) wi).2.1
   ·exact wi
  ·split
   ·rename_i h;exact s0 h
   ·exact w0
  ·split
   ·rename_i h;exact s1 h
   ·exact w1
  ·split
   ·rename_i h;exact s2 h
   ·exact w2
  ·split
   ·rename_i h;exact s3 h
   ·split
    ·intro y hy;simp at hy
    ·exact w3
end S
theorem Pg.fold_wf{P:Pg}(hw:Pg.Wf P)(h:Pg.wrong P=0):Pg.Wf P.fold:=by
 obtain⟨_,_,hg,hf⟩:=jB h
 refine⟨fun y hy=>?_,fun y hy=>?_⟩
 ·obtain⟨g,hgm,rfl⟩:=List.mem_map.1 (show y∈P.gs.map Gl.fold from hy)
  have w:=hw.gs g hgm
  refine⟨w.b,w.nm,w.size,fun x hx=>?_⟩
  obtain⟨z,hz,rfl⟩:=List.mem_map.1 (show x∈g.ini.map X.fold from hx)
  exact(X.dL z ((hg g hgm).2.2.2 z hz) (w.ini z hz)).2.1
 ·obtain⟨f,hfm,rfl⟩:=List.mem_map.1 (show y∈P.fs.map Fn.fold from hy)
  have w:=hw.fs f hfm
  obtain⟨_,_,N,_,f4⟩:=hf f hfm
  exact⟨w.nm,w.b,w.ps,S.iY f4 w.body fun y _=>S.fold_wf y⟩
end
end Go.Proofs.Ythdckndjggljpaa
