/- Proofs of this claim, part 25. No condition. -/
import Derived.Test.YthdckndjggljpaaS0
namespace Go.Proofs.Ythdckndjggljpaa
set_option linter.unusedVariables false
set_option linter.unusedSimpArgs false
set_option maxRecDepth 100000
set_option maxHeartbeats 64000000
section
open Go
open Go.RowKit
namespace lD
open Iv(fill nH put_defers dO cu kL je bZ aY fG jf pJ zh vN iy fM lk needs ask kE eF dN vF qZ all kV all_nil all_cons jM kY qM wp_move vl)
open Ix(gZ okB bK lS bH BG jX uq Vu ny ru nO aI rH jC only nil)
open Iy(ph wR iC qp vG nC sF pK lV iT tY goI ah iV EC Inv)
section
variable{P:Program}{l:List Oper}{Q:Exit→Act→World→Prop}{R:World→World→Prop}{S:Nat→(Nat→Value)→World→Prop}{need:Nat→List Nat}{V:Nat→Value→World→Prop}{al:Nat→Bool}{a0:Act}{md:Region.Mode}{p:Nat}{cs:List Nat}{B:List (List Nat)}
structure dW(P:Program)(l:List Oper)(p:Nat)(Q:Exit→Act→World→Prop)(R:World→World→Prop)(S:Nat→(Nat→Value)→World→Prop)(V:Nat→Value→World→Prop)(al:Nat→Bool)(cs:List Nat)(need:Nat→List Nat)(a0:Act)(i:Nat)(o:Oper):Prop where
 of::
 get:(i∉cs→∀(vs:Nat→Value)(n:Nat)(w:World),i∉need n→S n vs w→(∀k,k<p→lk l o k=true→V k (vs k) w)→goI P l Q R V al True i o w (fill 0 (l.take p) (lk l o) vs a0))∧
  (∀j,j<cs.length→cs.getD j 0=i→∀(vs:Nat→Value)(w:World),S j vs w→(∀k,k<p→lk l o k=true→V k (vs k) w)→goI P l Q (fun w w'=>S (j+1) vs w'∧∀k,k≠i→V k (vs k) w→V k (vs k) w') V al False i o w (fill 0 (l.take p) (lk l o) vs a0))
theorem jH{i:Nat}{o:Oper}(N:List (Nat×Option Tmp))(hN:decide (needs (o.looksAt l.toArray) 0 (l.take p)=N)=true)(hc:cs.contains i=false)(h:∀n vs w,i∉need n→S n vs w→kE V w (goI P l Q R V al True i o w) N a0):dW P l p Q R S V al cs need a0 i o:= .of ⟨fun _ vs n w hn hs hv=>
 eF (l.take p) 0 a0 _ vs (fun k o' ho=>by rw [Nat.zero_add];exact kY l o k o' (bK ho).2) (fun k hk hkl=>by rw [Nat.zero_add]at hkl⊢;exact hv k (by simp at hk;omega) hkl)
  (dN (l.take p) 0 a0 (by rw [of_decide_eq_true hN];exact h n vs w hn hs)),fun j hj e=>by
    exfalso
    have:i∈cs:=by rw [←e,List.getD_eq_getElem?_getD,List.getElem?_eq_getElem hj];simp
    simp [this]at hc⟩
theorem rE{i:Nat}{o:Oper}(j:Nat)(N:List (Nat×Option Tmp))(hN:decide (needs (o.looksAt l.toArray) 0 (l.take p)=N)=true)(hc:decide (j<cs.length∧cs.getD j 0=i∧∀j'∈List.range cs.length,cs.getD j' 0=i→j'=j)=true)(h:∀vs w,S j vs w→kE (fun k v w=>V k v w∧vs k=v) w (goI P l Q (fun w w'=>S (j+1) vs w'∧∀k,k≠i→V k (vs k) w→V k (vs k) w') V al False i o w) N a0):dW P l p Q R S V al cs need a0 i o:= .of ⟨fun hn=>by
 exfalso
 obtain⟨h1,h2,_⟩:=of_decide_eq_true hc
 apply hn;rw [←h2,List.getD_eq_getElem?_getD,List.getElem?_eq_getElem h1];simp,fun j' hj e vs w hs hv=>by
 obtain⟨h1,h2,h3⟩:=of_decide_eq_true hc
 obtain rfl:=h3 j' (List.mem_range.2 hj) e
 exact eF (V:=fun k v w=>V k v w∧vs k=v) (l.take p) 0 a0 _ vs (fun k o' ho=>by rw [Nat.zero_add];exact kY l o k o' (bK ho).2) (fun k hk hkl=>by rw [Nat.zero_add]at hkl⊢;exact⟨hv k (by simp at hk;omega) hkl,rfl⟩)
  (dN (l.take p) 0 a0 (by rw [of_decide_eq_true hN];exact h vs w hs))⟩
def steps(P:Program)(l:List Oper)(p:Nat)(Q:Exit→Act→World→Prop)(R:World→World→Prop)(S:Nat→(Nat→Value)→World→Prop)(V:Nat→Value→World→Prop)(al:Nat→Bool)(cs:List Nat)(need:Nat→List Nat)(a0:Act):Nat→Nat→List Oper→Prop
 |0,_,_=>True
 |_,_,[]=>True
 |n+1,i,o::rest=>dW P l p Q R S V al cs need a0 i o∧steps P l p Q R S V al cs need a0 n (i+1) rest
theorem fE{n m i j:Nat}{o:Oper}{rest:List Oper}(hj:i+1=j)(hm:m=n+1)(h:dW P l p Q R S V al cs need a0 i o)(hr:steps P l p Q R S V al cs need a0 n j rest):steps P l p Q R S V al cs need a0 m i (o::rest):=by
 subst hj;subst hm;exact⟨h,hr⟩
theorem aC{i:Nat}{rest:List Oper}:steps P l p Q R S V al cs need a0 0 i rest:=by cases rest<;>trivial
theorem dM:∀(n i:Nat)(r:List Oper),steps P l p Q R S V al cs need a0 n i r→∀j o,j<n→r[j]?=some o→dW P l p Q R S V al cs need a0 (i+j) o
 |0,_,_,_,_,_,hj,_=>by omega
 |n+1,_,[],_,_,_,_,ho=>by simp at ho
 |n+1,i,o0::r,h,0,o,_,ho=>by simp at ho;subst ho;exact h.1
 |n+1,i,o0::r,h,j+1,o,hj,ho=>by
  have:=dM n (i+1) r h.2 j o (by omega) (by simpa using ho)
  rw [show i+(j+1)=i+1+j by omega];exact this
theorem Ad(hR:∀w,R w w)(hk:∀n vs,gZ R (S n vs))(hoc:wR cs p B=true)(hnd:∀n vs vs' w,(∀k,k∈need n→vs k=vs' k)→S n vs w→S n vs' w)(hnb:pK cs need B=true)(hV:∀k v,gZ R (V k v))(hok:okB md l p B=true)(hp:∀c a a' w,a.defers=a'.defers→Q (.panic c) a w→Q (.panic c) a' w)(hpl:p≤l.length)
 (step:∀i o,i<p→l[i]?=some o→dW P l p Q R S V al cs need a0 i o)
 (hal:∀j v w,al j=true→V j v w→∃b,v=Value.pointer (some ⟨b,0,none⟩)∧b<w.heap.size)
 (tail:∀(vs:Nat→Value)(w:World),S cs.length vs w→(∀k,k<p→V k (vs k) w)→(∀i j,i<p→j<p→al i=true→al j=true→i≠j→vs i≠vs j)→wpList P l.toArray Q (l.drop p) (fill 0 (l.take p) (fun k=>decide (k<p)) vs a0) w):
 ∀(fuel:Nat)(listed:Array Bool)(a:Act)(w:World),(listed.toList.filter (fun b=>!b)).length≤fuel→Inv l S V B al cs a0 p listed a w→wpAny P md l.toArray Q fuel listed a w:=by
 simp only [okB,Bool.and_eq_true]at hok
 obtain⟨⟨⟨⟨hsel,htab⟩,hlook⟩,hdg⟩,htl⟩:=hok
 have hafter:=jX htl
 have hdag:=iy hdg
 have done:∀(listed:Array Bool)(a:Act)(w:World),Inv l S V B al cs a0 p listed a w→Region.ready md l.toArray listed=[]→Q .normal a w:=by
  intro listed a w hi hr
  have hall:=hdag listed hi.sz hr
  have hpe:p=l.length:=by
   rcases Nat.lt_or_ge p l.length with h|h
   ·have:=hall p h
    rw [hi.no]at this;cases this
   ·omega
  obtain⟨vs,hsv,rfl,hv,hds⟩:=hi.v
  have ht:=tail vs w (by have:=hsv;rwa [vG (fun k hk=>by obtain⟨j,hj,rfl⟩:=List.mem_iff_getElem.1 hk;exact hall _ (by have:=qp hoc hj;rw [List.getD_eq_getElem?_getD,List.getElem?_eq_getElem hj]at this;simp at this;omega))]at this) (fun k hk=>hv k (hall k (by omega))) (fun i j tq hjp hi hj hne=>hds i j hi hj hne (hall i (by omega)) (hall j (by omega)))
  rw [show l.drop p=[]by rw [hpe];simp]at ht
  rw [bZ (l.take p) 0 _ (fun k=>decide (k<p)) vs vs a0 (fun j hj=>⟨by simp only [Nat.zero_add];rw [hall j (by simp at hj;omega)];simp at hj;simp;omega,fun _=>rfl⟩)]
  exact ht
 intro fuel
 induction fuel with
 |zero=>
  intro listed a w hf hi
  have hnone:Region.ready md l.toArray listed=[]:=by
   apply List.eq_nil_iff_forall_not_mem.2
   intro j hj
   obtain⟨h0,o,ho,_⟩:=mem_ready.1 hj
   have hlt:j<listed.size:=by
    rcases Nat.lt_or_ge j listed.size with h|h
    ·exact h
    ·simp [Array.getElem?_eq_none h]at h0
   have hmem:false∈listed.toList.filter (fun b=>!b):=by
    rw [List.mem_filter]
    refine⟨?_,rfl⟩
    have e:listed[j]?=some false:=by
     rw [Array.getElem?_eq_getElem hlt]
     simp [hlt]at h0;rw [h0]
    simpa using Array.mem_of_getElem? e
   have hz:=List.eq_nil_of_length_eq_zero (Nat.le_zero.1 hf)
   rw [hz]at hmem
   cases hmem
  exact⟨hnone,done listed a w hi hnone⟩
 |succ fuel ih=>
  intro listed a w hf hi
  refine⟨done listed a w hi,fun i hir=>?_⟩
  obtain⟨h0,o,ho,hall⟩:=mem_ready.1 hir
  have ho':l[i]?=some o:=by simpa using ho
  have hlt:i<listed.size:=by
   rcases Nat.lt_or_ge i listed.size with h|h
   ·exact h
   ·simp [Array.getElem?_eq_none h]at h0
  have h0':listed.getD i false=false:=by simp [hlt]at h0⊢;exact h0
  have hB:∀k∈B[i]?.getD [],listed.getD k false=true:=by
   intro k hk
   obtain⟨e,he,hb,hor⟩:=fM htab ho' hk
   have:=hall e he hb
   rcases hor with rfl|hk2
   ·exact this
   ·exact hi.cl _ _ this hk2
  have hil:i<l.length:=(List.getElem?_eq_some_iff.1 ho').1
  by_cases Ej:p≤i
  ·have tq:i=p:=by
    rcases Nat.lt_or_ge p i with h|h
    ·have:=hB p (hafter i Ej hil p h)
     rw [hi.no]at this;cases this
    ·omega
   subst tq
   obtain⟨vs,hsv,rfl,hv,hds⟩:=hi.v
   have hex:∀k,k<l.length→listed.getD k false=decide (k<i):=fun k hk=>by
    by_cases hki:k<i
    ·rw [hB k (hafter i (Nat.le_refl _) hil k hki)];simp [hki]
    ·by_cases hke:k=i
     ·subst hke;rw [h0'];simp
     ·cases hl:listed.getD k false with
      |false=>simp [hki]
      |true=>have:=hi.cl k i hl (hafter k (by omega) hk i (by omega));rw [h0']at this;cases this
   have ht:=tail vs w (by have:=hsv;rwa [vG (fun k hk=>by obtain⟨j,hj,rfl⟩:=List.mem_iff_getElem.1 hk;have h2:=qp hoc hj;rw [List.getD_eq_getElem?_getD,List.getElem?_eq_getElem hj]at h2;simp at h2;rw [hex _ (by omega)];simp [h2])]at this) (fun k hk=>hv k (by rw [hex k (by omega)];simp [hk])) (fun i' j' tq hjp hi' hj' hne=>hds i' j' hi' hj' hne (by rw [hex i' (by omega)];simp [tq]) (by rw [hex j' (by omega)];simp [hjp]))
   rw [←bZ (l.take i) 0 (fun k=>listed.getD k false) (fun k=>decide (k<i)) vs vs a0 (fun j hj=>⟨by simp only [Nat.zero_add];exact hex j (by simp at hj;omega),fun _=>rfl⟩)]at ht
   exact(ny htab hdg hafter (fuel+1) i listed _ w (Nat.le_refl _) (Nat.le_of_lt hil) hi.sz hex hf ht).2 i hir
  have tq:¬i=p:=by omega
  have oJ:i<p:=by omega
  obtain⟨vs,hsv,rfl,hv,hds⟩:=hi.v
  have Em:∀k,k<p→lk l o k=true→k∈B[i]?.getD []:=by
   intro k hkp hk
   unfold lk at hk
   cases hlk:l[k]? with
   |none=>rw [hlk]at hk;cases hk
   |some o'=>
    rw [hlk]at hk
    cases hd:o'.dst with
    |none=>simp only [hd]at hk;cases hk
    |some d=>simp only [hd]at hk;exact(bH hlook ho' oJ hlk hkp hd).1 (by simpa using hk)
  have AV:∀k,k<p→lk l o k=true→V k (vs k) w:=fun k hkp hk=>hv k (hB k (Em k hkp hk))
  obtain⟨T,no,hT,hTn,hTV,hno,hst⟩:∃(T:World→World→Prop)(no:Prop),(∀w',T w w'→S (ph cs (listed.setIfInBounds i true)) vs w')∧(∀k,k∈need (ph cs (listed.setIfInBounds i true))→listed.getD k false=true)∧(∀k w',T w w'→k≠i→V k (vs k) w→V k (vs k) w')∧(no→T w w)∧goI P l Q T V al no i o w (fill 0 (l.take p) (lk l o) vs a0):=by
   by_cases hic:i∈cs
   ·obtain⟨j,hj,hji⟩:=List.mem_iff_getElem.1 hic
    have hg:cs.getD j 0=i:=by rw [List.getD_eq_getElem?_getD,List.getElem?_eq_getElem hj];simpa using hji
    have before:∀i',i'<j→listed.getD (cs.getD i' 0) false=true:=fun i' hi'=>hB _ (by have:=(iC hoc hi' hj).1;rwa [hg]at this)
    have behind:∀i',j<i'→i'<cs.length→listed.getD (cs.getD i' 0) false=false:=fun i' h1 h2=>by
     cases hl:listed.getD (cs.getD i' 0) false with
     |false=>rfl
     |true=>have:=hi.cl _ _ hl ((iC hoc h1 h2).1);rw [hg,h0']at this;cases this
    have e1:ph cs listed=j:=sF cs listed j (Nat.le_of_lt hj) before (fun i' h1 h2=>by
     rcases Nat.lt_or_ge j i' with h|h
     ·exact behind i' h h2
     ·obtain rfl:i'=j:=by omega
      rw [hg];exact h0')
    have e2:ph cs (listed.setIfInBounds i true)=j+1:=sF cs _ (j+1) hj (fun i' h1=>by
     rcases Nat.lt_or_ge i' j with h|h
     ·exact getD_set_true (before i' h)
     ·obtain rfl:i'=j:=by omega
      rw [hg];simp [hlt]) (fun i' h1 h2=>by
     rw [getD_set_ne false (by have:=(iC hoc (show j<i' by omega) h2).2;rwa [hg]at this)]
     exact behind i' (by omega) h2)
    have hs:=hsv
    rw [e1]at hs
    exact⟨_,False,fun w' h=>by rw [e2];exact h.1,fun k hkn=>by(rw [e2]at hkn;have:=iT hnb hj hkn;rw [hg]at this;exact hB k this),fun k w' h hne hv=>h.2 k hne hv,fun h=>h.elim,(step i o oJ ho').get.2 j hj hg vs w hs AV⟩
   ·exact⟨R,True,fun w' h=>by rw [nC hic];exact hk _ _ _ _ hsv h,fun k hkn=>by
     rw [nC hic]at hkn
     obtain⟨m,hm⟩:∃m,m=ph cs listed:=⟨_,rfl⟩
     rw [←hm]at hkn
     cases m with
     |zero=>rw [lV hnb]at hkn;cases hkn
     |succ m=>
      have hml:m<cs.length:=by
         have:ph cs listed≤cs.length:=List.length_filter_le _ _
         omega
      have hmon:listed.getD (cs.getD m 0) false=true:=tY hoc hi.cl hm.symm hml
      exact hi.cl _ _ hmon (iT hnb hml hkn),fun k w' h _ hv=>hV k _ _ _ hv h,fun _=>hR w,(step i o oJ ho').get.1 hic vs _ w (fun hin=>by
         obtain⟨m,hm⟩:∃m,m=ph cs listed:=⟨_,rfl⟩
         rw [←hm]at hin
         cases m with
         |zero=>rw [lV hnb]at hin;cases hin
         |succ m=>
          have hml:m<cs.length:=by
            have:ph cs listed≤cs.length:=List.length_filter_le _ _
            omega
          have hmon:listed.getD (cs.getD m 0) false=true:=tY hoc hi.cl hm.symm hml
          have:=hi.cl _ _ hmon (iT hnb hml hin)
          rw [h0']at this;cases this) hsv AV⟩
  replace hst:=hst.get
  have same:∀t∈o.looksAt l.toArray,(fill 0 (l.take p) (lk l o) vs a0).tmps[t]?=(fill 0 (l.take p) (fun k=>listed.getD k false) vs a0).tmps[t]?:=by
   intro t ht
   refine je (l.take p) 0 _ _ vs vs a0 a0 t rfl rfl (fun j o' hj hd=>?_)
   obtain⟨hjp,hj⟩:=bK hj
   have hm:=(bH hlook ho' oJ hj hjp hd).1 ht
   simp only [Nat.zero_add]
   rw [hB j hm,kY l o j o' hj,hd]
   refine⟨by simpa using ht,by intros;trivial⟩
  have hwant:Region.wanted o (yielded l.toArray (fill 0 (l.take p) (fun k=>listed.getD k false) vs a0).tmps)=Region.wanted o (yielded l.toArray (fill 0 (l.take p) (lk l o) vs a0).tmps):=by
   unfold Region.wanted
   cases hg:o.guard with
   |none=>rfl
   |some gw=>
    obtain⟨g,want⟩:=gw
    have hy:yielded l.toArray (fill 0 (l.take p) (fun k=>listed.getD k false) vs a0).tmps g=yielded l.toArray (fill 0 (l.take p) (lk l o) vs a0).tmps g:=by
     unfold yielded
     cases ht:(l.toArray[g]?).bind (·.dst)with
     |none=>rfl
     |some t=>
      have:=same t (by simp only [Oper.looksAt,hg,ht];simp)
      simp only [Option.bind_some,this]
    simp only [hy]
  have vH:execOp (fill 0 (l.take p) (fun k=>listed.getD k false) vs a0).eval o=execOp (fill 0 (l.take p) (lk l o) vs a0).eval o:=by
   refine execOp_congr o (Region.noSelect_spec hsel i o · · ho) (fun x hx=>?_)
   cases x with
   |tmp t=>
    have:=same t (by unfold Oper.looksAt;exact List.mem_append_left _ (List.mem_filterMap.2 ⟨.tmp t,by simpa using hx,rfl⟩))
    show Array.getD _ t undef=Array.getD _ t undef
    rw [Array.getD_eq_getD_getElem?,Array.getD_eq_getD_getElem?,this]
   |_=>rfl
  have next:∀v w',T w w'→V i v w'→(al i=true→v=Value.pointer (some ⟨w.heap.size,0,none⟩))→wpAny P md l.toArray Q fuel (listed.setIfInBounds i true) ((fill 0 (l.take p) (fun k=>listed.getD k false) vs a0).put o.dst v) w':=by
   intro v w' hb En hnew
   refine ih _ _ _ ?_ ⟨by rw [getD_set_ne false tq];exact hi.no,by simp [hi.sz],?_,?_⟩
   ·have:((listed.setIfInBounds i true).toList.filter (fun b=>!b)).length+1=(listed.toList.filter (fun b=>!b)).length:=by
     rw [Array.toList_setIfInBounds]
     have hlt':i<listed.toList.length:=by simpa using hlt
     have hfalse:listed.toList[i]=false:=by simp [hlt]at h0';simpa using h0'
     rw [List.set_eq_take_append_cons_drop,if_pos hlt']
     conv=>rhs;rw [←List.take_append_drop i listed.toList,List.drop_eq_getElem_cons hlt',hfalse]
     simp [List.filter_append];omega
    omega
   ·intro j k hj hkB
    by_cases hji:i=j
    ·subst hji;exact getD_set_true (hB k hkB)
    ·rw [getD_set_ne false hji]at hj
     exact getD_set_true (hi.cl j k hj hkB)
   ·refine⟨fun k=>if k=i then v else vs k,?_,?_,?_,?_⟩
    ·refine hnd _ vs _ _ (fun k hkn=>?_) (hT _ hb)
     have:=hTn k hkn
     have:¬k=i:=fun e=>by subst e;rw [h0']at this;cases this
     simp [this]
    ·rw [jf (l.take p) 0 i (fun k=>listed.getD k false) (fun k=>(listed.setIfInBounds i true).getD k false) vs (fun k=>if k=i then v else vs k) a0 o (by rw [List.getElem?_take];simp [oJ,ho']) (by simpa using h0') (by simp [hlt]) (fun j hj=>by
      simp only [Nat.zero_add]
      refine⟨getD_set_ne false (Ne.symm hj),by simp [hj]⟩) (fun j k x y hx hy hjk d hd=>(bH hlook (bK hy).2 (bK hy).1 (bK hx).2 (bK hx).1 hd).2 (Ne.symm hjk))]
     simp
    ·intro k hkl
     by_cases hki:k=i
     ·subst hki;simpa using En
     ·rw [getD_set_ne false (Ne.symm hki)]at hkl
      simp only [hki,if_false]
      exact hTV _ _ hb hki (hv k hkl)
    ·intro i' j' hai haj hne LW hlj
     by_cases hi1:i'=i
     ·have hj1:¬j'=i:=fun e=>hne (hi1.trans e.symm)
      rw [getD_set_ne false (Ne.symm hj1)]at hlj
      simp only [hi1,if_true,hj1,if_false]
      rw [hi1]at hai
      obtain⟨b,eb,hlb⟩:=hal j' _ w haj (hv j' hlj)
      rw [hnew hai,eb]
      intro e
      injection e with e;injection e with e;injection e with e
      omega
     ·rw [getD_set_ne false (Ne.symm hi1)]at LW
      by_cases hj1:j'=i
      ·simp only [hi1,if_false,hj1,if_true]
       rw [hj1]at haj
       obtain⟨b,eb,hlb⟩:=hal i' _ w hai (hv i' LW)
       rw [hnew haj,eb]
       intro e
       injection e with e;injection e with e;injection e with e
       omega
      ·rw [getD_set_ne false (Ne.symm hj1)]at hlj
       simp only [hi1,if_false,hj1,if_false]
       exact hds i' j' hai haj hne LW hlj
  unfold wpOp
  simp only [ho]
  by_cases hw:Region.wanted o (yielded l.toArray (fill 0 (l.take p) (lk l o) vs a0).tmps)=true
  ·rw [hwant,hw]
   simp only [if_true]
   rw [if_pos hw]at hst
   exact .inl (wp_move (G:=fun v w'=>T w w'∧V i v w'∧(al i=true→v=Value.pointer (some ⟨w.heap.size,0,none⟩))) hp (by rw [dO,dO]) (by rw [cu,cu]) vH (fun K Ul=>hst K (fun v w' hb En hn=>Ul v w' ⟨hb,En,hn⟩)) (fun v w' hh=>next v w' hh.1 hh.2.1 hh.2.2))
  ·rw [if_neg hw]at hst
   rw [hwant,if_neg hw]
   exact next undef w (hno hst.2.2) hst.1 (fun hh=>by rw [hst.2.1]at hh;cases hh)
theorem wp_region{id:Nat}{w:World}(p:Nat)(cs:List Nat)(need:Nat→List Nat)(R:World→World→Prop)(S:Nat→(Nat→Value)→World→Prop)(V:Nat→Value→World→Prop)(al:Nat→Bool)(hm:P.follows .mixedOrders=true)(hok:okB .any l p (pJ .any l)=true)(hpl:decide (p≤l.length)=true)(hoc:wR cs p (pJ .any l)=true)(hnb:pK cs need (pJ .any l)=true)
 (hnd:∀n vs vs' w,(∀k,k∈need n→vs k=vs' k)→S n vs w→S n vs' w)
 (hR:∀w,R w w)(hk:∀n vs,gZ R (S n vs))(hV:∀k v,gZ R (V k v))(hal:∀j v w,al j=true→V j v w→∃b,v=Value.pointer (some ⟨b,0,none⟩)∧b<w.heap.size)(hS:∀vs,S 0 vs w.drew)
 (step:steps P l p (Ix.eY Q) R S V al cs need a0 p 0 l)
 (fin:∀(vs:Nat→Value)(w:World),S cs.length vs w→(∀i j,i<p→j<p→al i=true→al j=true→i≠j→vs i≠vs j)→ru V vs w (fun a=>wpList P l.toArray (Ix.eY Q) (l.drop p) a w) p 0 l a0):
 (Code.region id l.toArray true).wp P Q a0 w:=by
 refine Code.wp_mono (Q:=Ix.eY Q) (fun e a w hh=>?_) ?_
 ·exact Ix.rC hh
 refine wp_region_any hm (Ad (Q:=Ix.eY Q) hR hk hoc hnd hnb hV hok Ix.mO (of_decide_eq_true hpl) (fun i o hi ho=>by have:=dM _ 0 l step i o hi ho;rwa [Nat.zero_add]at this) hal
  (fun vs w hs hv hd=>by rw [←jC p 0 l (fun k=>decide (k<p)) vs a0 (fun k=>by rw [Nat.zero_add])];exact nO (G:=fun a=>wpList P l.toArray (Ix.eY Q) (l.drop p) a w) p 0 l a0 _ (fun k=>by rw [Nat.zero_add]) (fun k hk=>by rw [Nat.zero_add];exact hv k hk) (fin vs w hs hd)) _ _ a0 _ ?_ ⟨?_,by simp,fun i k h=>?_,fun _=>undef,?_,?_,fun k h=>?_,fun i j _ _ _ h=>?_⟩)
 ·refine Nat.le_trans (List.length_filter_le _ _) (by simp)
 ·exact aY _ _
 ·rw [aY]at h;cases h
 ·rw [sF cs _ 0 (Nat.zero_le _) (fun i h=>by omega) (fun i _ _=>aY _ _)];exact hS _
 ·exact(fG (l.take p) 0 _ _ a0 (fun j=>aY _ _)).symm
 ·rw [aY]at h;cases h
 ·rw [aY]at h;cases h
theorem N{m:Nat}{o:Oper}{rest:List Oper}(n i j:Nat)(N:List (Nat×Option Tmp))(h:∀n vs w,i∉need n→S n vs w→Iv.kE V w (Iy.goI P l Q R V al True i o w) N a0)
 (hr:steps P l p Q R S V al cs need a0 n j rest)(hj:i+1=j:=by rfl)(hm:m=n+1:=by rfl)(hN:decide (Iv.needs (o.looksAt l.toArray) 0 (l.take p)=N)=true:=by kernel_rfl)(hc:cs.contains i=false:=by rfl):steps P l p Q R S V al cs need a0 m i (o::rest):=fE hj hm (jH N hN hc h) hr
theorem C{m:Nat}{o:Oper}{rest:List Oper}(n i j c:Nat)(N:List (Nat×Option Tmp))(h:∀vs w,S c vs w→Iv.kE (fun k v w=>V k v w∧vs k=v) w (Iy.goI P l Q (fun w w'=>S (c+1) vs w'∧∀k,k≠i→V k (vs k) w→V k (vs k) w') V al False i o w) N a0)
 (hr:steps P l p Q R S V al cs need a0 n j rest)(hj:i+1=j:=by rfl)(hm:m=n+1:=by rfl)(hN:decide (Iv.needs (o.looksAt l.toArray) 0 (l.take p)=N)=true:=by kernel_rfl)(hc:decide (c<cs.length∧cs.getD c 0=i∧∀j'∈List.range cs.length,cs.getD j' 0=i→j'=c)=true:=by kernel_rfl):steps P l p Q R S V al cs need a0 m i (o::rest):=fE hj hm (rE c N hN hc h) hr
end
end lD
end
end Go.Proofs.Ythdckndjggljpaa
