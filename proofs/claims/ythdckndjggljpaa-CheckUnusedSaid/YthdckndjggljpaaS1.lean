/- Proofs of this claim, part 1. No condition. -/
import Derived.Deep.Cut
import Derived.LoopTactic
import Derived.Lib.SlicesS
import Derived.Lib.Strings
import Derived.Lib.Slices
import Derived.Lib.Walk
import Derived.Lib.Bytealg
import Derived.Test.YthdckndjggljpaaS0
namespace Go.Proofs.Ythdckndjggljpaa
set_option linter.unusedVariables false
set_option linter.unusedSimpArgs false
set_option maxRecDepth 100000
set_option maxHeartbeats 64000000
section
open Go.RowKit
theorem aj:(∀(a:Act)(d:Tmp)(v:Value),a.put (some d) v={a with tmps:=a.tmps.setIfInBounds d v})∧(∀(a:Act)(v:Value),a.put none v=a)∧(∀(l:List Value)(i:Nat)(v:Value),l.toArray.setIfInBounds i v=(l.set i v).toArray)∧(∀(x v:Value)(l:List Value),(x::l).set 0 v=v::l)∧(∀(x v:Value)(l:List Value)(n:Nat),(x::l).set (n+1) v=x::l.set n v):=
 ⟨fun _ _ _=>rfl,fun _ _=>rfl,fun _ _ _=>List.setIfInBounds_toArray ..,fun _ _ _=>rfl,fun _ _ _ _=>rfl⟩
theorem aB{V:Nat→Value→World→Prop}{w:World}{G:Act→Prop}{j:Nat}{d:Option Tmp}{r:List (Nat×Option Tmp)}{a:Act}(h:∀v,V j v w→Iv.kE V w G r (a.put d v)):Iv.kE V w G ((j,d)::r) a:=h
theorem aF{V:Nat→Value→World→Prop}{w:World}{G:Act→Prop}{a:Act}(h:G a):Iv.kE V w G [] a:=h
theorem au{V:Nat→Value→World→Prop}{vs:Nat→Value}{w:World}{G:Act→Prop}{m:Nat}{o:Oper}{l:List Oper}{a:Act}(n j k:Nat)(h:∀v,vs j=v→V j v w→Ix.ru V vs w G n k l (a.put o.dst v))(hj:j+1=k:=by rfl)(hm:m=n+1:=by rfl):Ix.ru V vs w G m j (o::l) a:=Ix.rH hj hm h
section
variable{P:Program}{l:List Oper}{p:Nat}{Q:Exit→Act→World→Prop}{R:World→World→Prop}{V:Nat→Value→World→Prop}{a0:Act}{al:Nat→Bool}
theorem aP{S:World→Prop}{m:Nat}{o:Oper}{rest:List Oper}(n i j:Nat)(N:List (Nat×Option Tmp))(h:∀w,S w→Iv.kE V w (Ix.goI P l Q R V al i o w) N a0)
 (hr:Ix.steps P l p Q R S V al a0 n j rest)(hj:i+1=j:=by rfl)(hm:m=n+1:=by rfl)(hN:decide (Iv.needs (o.looksAt l.toArray) 0 (l.take p)=N)=true:=by kernel_rfl):Ix.steps P l p Q R S V al a0 m i (o::rest):=Ix.fE hj hm (Ix.jH N hN h) hr
variable{S:Nat→(Nat→Value)→World→Prop}{cs:List Nat}
theorem aZ{m:Nat}{o:Oper}{rest:List Oper}(n i j:Nat)(N:List (Nat×Option Tmp))(h:∀n vs w,S n vs w→Iv.kE V w (Iy.goI P l Q R V al True i o w) N a0)
 (hr:Iy.steps P l p Q R S V al cs a0 n j rest)(hj:i+1=j:=by rfl)(hm:m=n+1:=by rfl)(hN:decide (Iv.needs (o.looksAt l.toArray) 0 (l.take p)=N)=true:=by kernel_rfl)(hc:cs.contains i=false:=by rfl):Iy.steps P l p Q R S V al cs a0 m i (o::rest):=Iy.fE hj hm (Iy.jH N hN hc h) hr
theorem Aw{m:Nat}{o:Oper}{rest:List Oper}(n i j c:Nat)(N:List (Nat×Option Tmp))(h:∀vs w,S c vs w→Iv.kE (fun k v w=>V k v w∧vs k=v) w (Iy.goI P l Q (fun w w'=>S (c+1) vs w'∧∀k,k≠i→V k (vs k) w→V k (vs k) w') V al False i o w) N a0)
 (hr:Iy.steps P l p Q R S V al cs a0 n j rest)(hj:i+1=j:=by rfl)(hm:m=n+1:=by rfl)(hN:decide (Iv.needs (o.looksAt l.toArray) 0 (l.take p)=N)=true:=by kernel_rfl)(hc:decide (c<cs.length∧cs.getD c 0=i∧∀j'∈List.range cs.length,cs.getD j' 0=i→j'=c)=true:=by kernel_rfl):Iy.steps P l p Q R S V al cs a0 m i (o::rest):=Iy.fE hj hm (Iy.rE c N hN hc h) hr
end
end
section
open Go.RowKit
namespace Tk
def JJ(c:Nat):Bool:=decide (97≤c∧c≤122)||decide (65≤c∧c≤90)||decide (c=95)
def sK(c:Nat):Bool:=decide (48≤c∧c≤57)
def JU(c:Nat):Bool:=JJ c||sK c
def run(p:Nat→Bool):List UInt8→Nat
 |[]=>0
 |c::r=>if p c.toNat then run p r+1 else 0
theorem zy(p:Nat→Bool):∀l:List UInt8,run p l≤l.length
 |[]=>Nat.le_refl _
 |c::r=>by unfold run;have:=zy p r;simp only [List.length_cons];split<;>omega
theorem GR(p:Nat→Bool):∀(l:List UInt8)(j:Nat),j<run p l→∃c,l[j]?=some c∧p c.toNat=true
 |[],j,h=>absurd h (Nat.not_lt_zero _)
 |c::r,j,h=>by
  unfold run at h
  split at h
  ·rename_i hp
   cases j with
   |zero=>exact⟨c,rfl,hp⟩
   |succ j=>exact GR p r j (by omega)
  ·omega
theorem Gz(p:Nat→Bool):∀(l:List UInt8)(c:UInt8),l[run p l]?=some c→p c.toNat=false
 |[],c,h=>by simp at h
 |d::r,c,h=>by
  unfold run at h
  split at h
  ·exact Gz p r c (by simpa using h)
  ·rename_i hp
   simp at h;subst h;simpa using hp
theorem abI(p:Nat→Bool)(l:List UInt8)(k:Nat)(hk:k≤l.length)(h1:∀j,j<k→∃c,l[j]?=some c∧p c.toNat=true)(h2:∀c,l[k]?=some c→p c.toNat=false):run p l=k:=by
 rcases Nat.lt_trichotomy (run p l) k with h|h|h
 ·obtain⟨c,hc,hp⟩:=h1 _ h
  rw [Gz p l c hc]at hp;cases hp
 ·exact h
 ·obtain⟨c,hc,hp⟩:=GR p l k h
  rw [h2 c hc]at hp;cases hp
def val:Nat→List UInt8→Nat
 |n,[]=>n
 |n,c::r=>val (10*n+(c.toNat-48)) r
theorem V9:∀(l:List UInt8)(n:Nat),n≤val n l
 |[],n=>Nat.le_refl _
 |c::r,n=>Nat.le_trans (by omega) (V9 r _)
theorem Ov:∀(l:List UInt8)(n m:Nat),n≤m→val n l≤val m l
 |[],n,m,h=>h
 |c::r,n,m,h=>Ov r _ _ (by omega)
theorem Bl:∀(l:List UInt8)(n:Nat)(c:UInt8),val n (l++[c])=10*val n l+(c.toNat-48)
 |[],n,c=>rfl
 |d::r,n,c=>Bl r _ c
theorem KU(l:List UInt8)(k:Nat)(c:UInt8)(h:l[k]?=some c):val 0 (l.take (k+1))=10*val 0 (l.take k)+(c.toNat-48):=by
 have hk:k<l.length:=(List.getElem?_eq_some_iff.1 h).1
 rw [List.take_add_one,h];exact Bl _ _ _
theorem TV(l:List UInt8)(k m:Nat)(h:k≤m):val 0 (l.take k)≤val 0 (l.take m):=by
 induction m with
 |zero=>obtain rfl:k=0:=by omega
        exact Nat.le_refl _
 |succ m ih=>
  rcases Nat.lt_or_ge k (m+1)with h1|h1
  ·refine Nat.le_trans (ih (by omega)) ?_
   rcases hc:l[m]? with _|c
   ·rw [List.take_add_one,hc];simp
   ·rw [KU l m c hc];omega
  ·obtain rfl:k=m+1:=by omega
   exact Nat.le_refl _
structure Tok where
 kind:Int
 text:List UInt8
 n:Int
 bits:Int
 sg:Bool
 pos:Nat
inductive Stp
 |skip(k:Nat)
 |tok(t:Tok)(k:Nat)
 |err(e:Int)
def mP:List (List UInt8):=[[60,60],[62,62],[60,61],[62,61],[61,61],[33,61],[38,38],[124,124],[43],[45],[42],[47],[37],[38],[124],[94],[126],[33],[60],[62],[61],[40],[41],[123],[125],[91],[93],[44],[59]]
def hit(p l:List UInt8):Bool:=p.isPrefixOf l
def I4(l:List UInt8):Nat:=if(mP.take 8).any (fun p=>hit p l)=true then 2 else if(mP.drop 8).any (fun p=>hit p l)=true then 1 else 0
theorem Nu{l:List (List UInt8)}{f:List UInt8→Bool}(k:Nat)(hk:k<l.length)(h:f (l.getD k [])=true):l.any f=true:=by
 rw [List.any_eq_true]
 exact⟨l[k],List.getElem_mem _,by rw [List.getD_eq_getElem?_getD,List.getElem?_eq_getElem hk]at h;exact h⟩
theorem EL{l:List (List UInt8)}{f:List UInt8→Bool}(h:l.any f=true):∃k,k<l.length∧f (l.getD k [])=true:=by
 rw [List.any_eq_true]at h
 obtain⟨x,hx,hf⟩:=h
 obtain⟨k,hk,rfl⟩:=List.mem_iff_getElem.1 hx
 exact⟨k,hk,by rw [List.getD_eq_getElem?_getD,List.getElem?_eq_getElem hk];exact hf⟩
theorem EK{l:List (List UInt8)}{f:List UInt8→Bool}(h:∀k,k<l.length→f (l.getD k [])=false):l.any f=false:=by
 cases e:l.any f with
 |false=>rfl
 |true=>obtain⟨k,hk,hf⟩:=EL e;rw [h k hk]at hf;cases hf
theorem oZ(k:Nat)(hk:k<29):(mP.getD k []).length=if k<8 then 2 else 1:=by
 have:∀k,k<29→(mP.getD k []).length=if k<8 then 2 else 1:=by decide
 exact this k hk
theorem lT(k:Nat)(hk:k<8):(mP.take 8).getD k []=mP.getD k []:=by
 rw [List.getD_eq_getElem?_getD,List.getD_eq_getElem?_getD,List.getElem?_take_of_lt hk]
theorem o9(k:Nat):(mP.drop 8).getD k []=mP.getD (8+k) []:=by
 rw [List.getD_eq_getElem?_getD,List.getD_eq_getElem?_getD,List.getElem?_drop]
theorem uj{p l:List UInt8}(h:hit p l=true):p.length≤l.length:=(List.isPrefixOf_iff_prefix.1 h).length_le
theorem Yn{p l:List UInt8}(h:hit p l=true):l.take p.length=p:=by
 obtain⟨r,rfl⟩:=List.isPrefixOf_iff_prefix.1 h;simp
theorem Vb(l:List UInt8):I4 l≤2∧I4 l≤l.length:=by
 unfold I4
 split
 ·rename_i h
  obtain⟨k,hk,hf⟩:=EL h
  have hk8:k<8:=hk
  rw [lT k hk8]at hf
  have:=uj hf
  rw [oZ k (by omega),if_pos hk8]at this
  exact⟨by omega,this⟩
 ·split
  ·rename_i h
   obtain⟨k,hk,hf⟩:=EL h
   have hk8:k<21:=hk
   rw [o9 k]at hf
   have:=uj hf
   rw [oZ (8+k) (by omega),if_neg (by omega)]at this
   exact⟨by omega,this⟩
  ·exact⟨by omega,by omega⟩
def lit(n:Int)(u:Bool):Int×Bool×Int:=
 if u then(if n≤65535 then(16,false,0)else if n≤4294967295 then(32,false,0)else(64,false,0))
 else(if n≤32767 then(16,true,0)else if n≤2147483647 then(32,true,0)else if n≤9223372036854775807 then(64,true,0)else(0,false,3))
def step(a:Nat)(c:UInt8)(r:List UInt8):Stp:=
 if c.toNat=32∨c.toNat=9∨c.toNat=10 then .skip 1
 else if c.toNat=47∧r.head?=some 47 then .skip (run (fun x=>x !=10) (c::r))
 else if JJ c.toNat then .tok ⟨1,(c::r).take (run JU (c::r)),0,0,false,a⟩ (run JU (c::r))
 else if sK c.toNat then
  (if 18446744073709551616≤val 0 ((c::r).take (run sK (c::r)))then .err 3
   else if(lit (val 0 ((c::r).take (run sK (c::r)))) ((c::r)[run sK (c::r)]?==some 117)).2.2≠0 then .err (lit (val 0 ((c::r).take (run sK (c::r)))) ((c::r)[run sK (c::r)]?==some 117)).2.2
   else .tok ⟨2,(c::r).take (run sK (c::r)),val 0 ((c::r).take (run sK (c::r))),(lit (val 0 ((c::r).take (run sK (c::r)))) ((c::r)[run sK (c::r)]?==some 117)).1,(lit (val 0 ((c::r).take (run sK (c::r)))) ((c::r)[run sK (c::r)]?==some 117)).2.1,a⟩
      (run sK (c::r)+if(c::r)[run sK (c::r)]?==some 117 then 1 else 0))
 else if I4 (c::r)=0 then .err 2 else .tok ⟨3,(c::r).take (I4 (c::r)),0,0,false,a⟩ (I4 (c::r))
def all:Nat→Nat→List UInt8→Except (Int×Nat) (List Tok)
 |0,_,_=> .ok []
 |_+1,_,[]=> .ok []
 |n+1,a,c::r=>match step a c r with
  | .skip k=>all n (a+k) ((c::r).drop k)
  | .tok t k=>match all n (a+k) ((c::r).drop k)with
    | .ok l=> .ok (t::l)
    | .error e=> .error e
  | .err e=> .error (e,a)
end Tk
end
section
open Go.RowKit
namespace Tk
def JL:List (List UInt8):=[[43],[45],[42],[47],[37],[38],[124],[94],[126],[33],[60],[62],[61],[40],[41],[123],[125],[91],[93],[44],[59],[60,60],[62,62],[60,61],[62,61],[61,61],[33,61],[38,38],[124,124]]
theorem yj(l:List UInt8)(k:Nat)(hk:k<29)(h:∀j,j<k→hit (mP.getD j []) l=false)(hh:hit (mP.getD k []) l=true):I4 l=(mP.getD k []).length:=by
 rw [oZ k hk]
 unfold I4
 rcases Nat.lt_or_ge k 8 with h8|h8
 ·rw [if_pos h8,Nu k (by exact h8) (by rw [lT k h8];exact hh)];rfl
 ·rw [if_neg (show¬k<8 by omega),EK (fun j hj=>by have U6:j<8:=hj;rw [lT j U6];exact h j (by omega)),if_neg (by decide)]
  rw [Nu (k-8) (by show _<21;omega) (by rw [o9,show 8+(k-8)=k by omega];exact hh)];rfl
theorem VE(l:List UInt8)(h:∀j,j<29→hit (mP.getD j []) l=false):I4 l=0:=by
 unfold I4
 rw [EK (fun j hj=>by have U6:j<8:=hj;rw [lT j U6];exact h j (by omega)),if_neg (by decide),EK (fun j hj=>by have U6:j<21:=hj;rw [o9];exact h _ (by omega))];rfl
def best(l:List UInt8):Nat→Nat
 |0=>0
 |k+1=>if hit (JL.getD k []) l=true∧best l k<(JL.getD k []).length then(JL.getD k []).length else best l k
theorem Tn(k:Nat)(hk:k<29):JL.getD k []=mP.getD (if k<21 then k+8 else k-21) []:=by
 have:∀k,k<29→JL.getD k []=mP.getD (if k<21 then k+8 else k-21) []:=by decide
 exact this k hk
theorem wC(l:List UInt8):∀k,k≤21→best l k=if(∃j,j<k∧hit (mP.getD (j+8) []) l=true)then 1 else 0
 |0,_=>by rw [if_neg (by rintro⟨j,h,_⟩;omega)];rfl
 |k+1,hk=>by
  have ih:=wC l k (by omega)
  unfold best
  rw [ih,Tn k (by omega),if_pos (show k<21 by omega),oZ (k+8) (by omega),if_neg (show¬k+8<8 by omega)]
  by_cases hh:hit (mP.getD (k+8) []) l=true
  ·rw [if_pos (show∃j,j<k+1∧hit (mP.getD (j+8) []) l=true from⟨k,by omega,hh⟩)]
   by_cases h2:∃j,j<k∧hit (mP.getD (j+8) []) l=true
   ·rw [if_pos h2,if_neg (by omega)]
   ·rw [if_neg h2,if_pos ⟨hh,by omega⟩]
  ·rw [if_neg (fun h=>hh h.1)]
   by_cases h2:∃j,j<k∧hit (mP.getD (j+8) []) l=true
   ·rw [if_pos h2,if_pos (by obtain⟨j,h3,h4⟩:=h2;exact⟨j,by omega,h4⟩)]
   ·rw [if_neg h2,if_neg (by rintro⟨j,h3,h4⟩;exact(Nat.lt_or_ge j k).elim (fun h5=>h2 ⟨j,h5,h4⟩) (fun h5=>by obtain rfl:j=k:=(by omega);exact hh h4))]
theorem CV(l:List UInt8):∀k,k≤8→best l (21+k)=if(∃j,j<k∧hit (mP.getD j []) l=true)then 2 else best l 21
 |0,_=>by rw [if_neg (by rintro⟨j,h,_⟩;omega)]
 |k+1,hk=>by
  have ih:=CV l k (by omega)
  have h1:best l 21≤1:=by rw [wC l 21 (by omega)];split<;>omega
  show(if hit (JL.getD (21+k) []) l=true∧best l (21+k)<(JL.getD (21+k) []).length then(JL.getD (21+k) []).length else best l (21+k))=_
  rw [ih,Tn (21+k) (by omega),if_neg (show¬21+k<21 by omega),show 21+k-21=k by omega,oZ k (by omega),if_pos (show k<8 by omega)]
  by_cases hh:hit (mP.getD k []) l=true
  ·rw [if_pos (show∃j,j<k+1∧hit (mP.getD j []) l=true from⟨k,by omega,hh⟩)]
   by_cases h2:∃j,j<k∧hit (mP.getD j []) l=true
   ·rw [if_pos h2,if_neg (by omega)]
   ·rw [if_neg h2,if_pos ⟨hh,by omega⟩]
  ·rw [if_neg (fun h=>hh h.1)]
   by_cases h2:∃j,j<k∧hit (mP.getD j []) l=true
   ·rw [if_pos h2,if_pos (by obtain⟨j,h3,h4⟩:=h2;exact⟨j,by omega,h4⟩)]
   ·rw [if_neg h2,if_neg (by rintro⟨j,h3,h4⟩;exact(Nat.lt_or_ge j k).elim (fun h5=>h2 ⟨j,h5,h4⟩) (fun h5=>by obtain rfl:j=k:=(by omega);exact hh h4))]
theorem YP(l:List UInt8):best l 29=I4 l:=by
 have e:=CV l 8 (by omega)
 rw [show 21+8=29 from rfl]at e
 rw [e,wC l 21 (by omega)]
 by_cases h2:∃j,j<8∧hit (mP.getD j []) l=true
 ·rw [if_pos h2]
  have:∀n,n≤8→(∃j,j<n∧hit (mP.getD j []) l=true)→I4 l=2:=by
   intro n
   induction n with
   |zero=>rintro _⟨j,h,_⟩;omega
   |succ n ih=>
    rintro hn⟨j,hj,hh⟩
    by_cases h3:∃j,j<n∧hit (mP.getD j []) l=true
    ·exact ih (by omega) h3
    ·have hj2:j=n:=by
       rcases Nat.lt_or_ge j n with h5|h5
       ·exact absurd ⟨j,h5,hh⟩ h3
       ·omega
     subst hj2
     rw [yj l j (by omega) (fun i hi=>by cases hc:hit (mP.getD i []) l with|false=>rfl|true=>exact absurd ⟨i,hi,hc⟩ h3) hh,oZ j (by omega),if_pos (by omega)]
  exact(this 8 (Nat.le_refl _) h2).symm
 ·rw [if_neg h2]
  have n2:∀j,j<8→hit (mP.getD j []) l=false:=fun j hj=>by cases hc:hit (mP.getD j []) l with|false=>rfl|true=>exact absurd ⟨j,hj,hc⟩ h2
  have:∀n,n≤21→(∃j,j<n∧hit (mP.getD (j+8) []) l=true)→I4 l=1:=by
   intro n
   induction n with
   |zero=>rintro _⟨j,h,_⟩;omega
   |succ n ih=>
    rintro hn⟨j,hj,hh⟩
    by_cases h3:∃j,j<n∧hit (mP.getD (j+8) []) l=true
    ·exact ih (by omega) h3
    ·have hj2:j=n:=by
       rcases Nat.lt_or_ge j n with h5|h5
       ·exact absurd ⟨j,h5,hh⟩ h3
       ·omega
     subst hj2
     rw [yj l (j+8) (by omega) (fun i hi=>by
       rcases Nat.lt_or_ge i 8 with h8|h8
       ·exact n2 i h8
       ·cases hc:hit (mP.getD i []) l with
        |false=>rfl
        |true=>exact absurd ⟨i-8,by omega,by rw [show i-8+8=i by omega];exact hc⟩ h3) hh,oZ (j+8) (by omega),if_neg (by omega)]
  by_cases h1:∃j,j<21∧hit (mP.getD (j+8) []) l=true
  ·rw [if_pos h1,this 21 (Nat.le_refl _) h1]
  ·rw [if_neg h1,VE l (fun i hi=>by
      rcases Nat.lt_or_ge i 8 with h8|h8
      ·exact n2 i h8
      ·cases hc:hit (mP.getD i []) l with
       |false=>rfl
       |true=>exact absurd ⟨i-8,by omega,by rw [show i-8+8=i by omega];exact hc⟩ h1)]
end Tk
end
section
open Go.RowKit
namespace Tk
theorem zD(p:Nat→Bool)(c:UInt8)(r:List UInt8)(h:p c.toNat=true):1≤run p (c::r):=by
 unfold run;rw [if_pos h];omega
theorem YL{c:Nat}(h:JJ c=true):JU c=true:=by unfold JU;rw [h];rfl
def Stp.long:Stp→Option Nat
 | .skip k=>some k
 | .tok _ k=>some k
 | .err _=>none
theorem Fg(c:UInt8)(r:List UInt8):run sK (c::r)+(if(c::r)[run sK (c::r)]?==some 117 then 1 else 0)≤(c::r).length:=by
 have h:=zy sK (c::r)
 split
 ·rename_i hu
  have:run sK (c::r)<(c::r).length:=by
   rcases Nat.lt_or_ge (run sK (c::r)) (c::r).length with h1|h1
   ·exact h1
   ·rw [List.getElem?_eq_none h1]at hu;cases hu
  omega
 ·omega
theorem ou(a:Nat)(c:UInt8)(r:List UInt8)(k:Nat)(h:(step a c r).long=some k):1≤k∧k≤(c::r).length:=by
 have hl:(c::r).length=r.length+1:=rfl
 unfold step at h
 split at h
 ·simp only [Stp.long,Option.some.injEq]at h;omega
 split at h
 ·rename_i hc
  simp only [Stp.long,Option.some.injEq]at h;subst h
  exact⟨zD _ c r (by rw [hc.1];rfl),zy _ _⟩
 split at h
 ·rename_i hc
  simp only [Stp.long,Option.some.injEq]at h;subst h
  exact⟨zD _ c r (YL hc),zy _ _⟩
 split at h
 ·rename_i hc
  split at h
  ·cases h
  split at h
  ·cases h
  ·simp only [Stp.long,Option.some.injEq]at h;subst h
   have:=zD _ c r hc
   exact⟨by omega,Fg c r⟩
 split at h
 ·cases h
 ·rename_i hc
  simp only [Stp.long,Option.some.injEq]at h;subst h
  exact⟨by omega,(Vb _).2⟩
theorem wB:∀(n m a:Nat)(l:List UInt8),l.length<n→l.length<m→all n a l=all m a l
 |0,_,_,_,h,_=>absurd h (Nat.not_lt_zero _)
 |_+1,0,_,_,_,h=>absurd h (Nat.not_lt_zero _)
 |n+1,m+1,a,[],_,_=>rfl
 |n+1,m+1,a,c::r,h,h'=>by
  have hl:(c::r).length=r.length+1:=rfl
  show(match step a c r with| .skip k=>all n (a+k) ((c::r).drop k)| .tok t k=>(match all n (a+k) ((c::r).drop k)with| .ok l=> .ok (t::l)| .error e=> .error e)| .err e=> .error (e,a))=(match step a c r with| .skip k=>all m (a+k) ((c::r).drop k)| .tok t k=>(match all m (a+k) ((c::r).drop k)with| .ok l=> .ok (t::l)| .error e=> .error e)| .err e=> .error (e,a):Except (Int×Nat) (List Tok))
  cases hs:step a c r with
  |skip k=>
   have:=ou a c r k (by rw [hs];rfl)
   exact wB n m _ _ (by rw [List.length_drop];omega) (by rw [List.length_drop];omega)
  |tok t k=>
   have:=ou a c r k (by rw [hs];rfl)
   show(match all n (a+k) ((c::r).drop k)with| .ok l=> .ok (t::l)| .error e=> .error e)=(match all m (a+k) ((c::r).drop k)with| .ok l=> .ok (t::l)| .error e=> .error e:Except (Int×Nat) (List Tok))
   rw [wB n m (a+k) ((c::r).drop k) (by rw [List.length_drop];omega) (by rw [List.length_drop];omega)]
  |err e=>rfl
def QZ(L:List UInt8)(a:Nat):Except (Int×Nat) (List Tok):=all (L.length+1) a (L.drop a)
def cons(t:Tok):Except (Int×Nat) (List Tok)→Except (Int×Nat) (List Tok)
 | .ok l=> .ok (t::l)
 | .error e=> .error e
def ahead(ts:List Tok):Except (Int×Nat) (List Tok)→Except (Int×Nat) (List Tok)
 | .ok l=> .ok (ts++l)
 | .error e=> .error e
theorem WJ(x:Except (Int×Nat) (List Tok)):ahead [] x=x:=by cases x<;>rfl
theorem Vr(ts:List Tok)(t:Tok)(x:Except (Int×Nat) (List Tok)):ahead ts (cons t x)=ahead (ts++[t]) x:=by
 cases x with
 |ok l=>show Except.ok (ts++(t::l))= .ok ((ts++[t])++l);rw [List.append_assoc];rfl
 |error e=>rfl
theorem ZG(L:List UInt8)(a:Nat)(h:L.length≤a):QZ L a= .ok []:=by
 unfold QZ;rw [List.drop_of_length_le h];rfl
theorem YA(L:List UInt8)(a:Nat)(c:UInt8)(r:List UInt8)(h:L.drop a=c::r):QZ L a=match step a c r with
 | .skip k=>QZ L (a+k)
 | .tok t k=>cons t (QZ L (a+k))
 | .err e=> .error (e,a):=by
 have hl:(c::r).length=r.length+1:=rfl
 have hd:(L.drop a).length=L.length-a:=List.length_drop
 rw [h]at hd
 have e:QZ L a=all (L.length+1) a (c::r):=by unfold QZ;rw [h]
 have hx:∀k,1≤k→all L.length (a+k) ((c::r).drop k)=QZ L (a+k):=fun k hk=>by
  unfold QZ
  rw [←h,List.drop_drop]
  exact wB _ _ _ _ (by rw [List.length_drop];omega) (by rw [List.length_drop];omega)
 rw [e]
 show(match step a c r with| .skip k=>all L.length (a+k) ((c::r).drop k)| .tok t k=>(match all L.length (a+k) ((c::r).drop k)with| .ok l=> .ok (t::l)| .error e=> .error e)| .err e=> .error (e,a):Except (Int×Nat) (List Tok))=_
 cases hs:step a c r with
 |skip k=>exact hx k (ou a c r k (by rw [hs];rfl)).1
 |tok t k=>show cons t (all L.length (a+k) ((c::r).drop k))=_;rw [hx k (ou a c r k (by rw [hs];rfl)).1]
 |err e=>rfl
theorem WR(n d:Int)(hn:0≤n)(hd:0≤d∧d≤9):(n>(18446744073709551615-d)/10)↔18446744073709551616≤10*n+d:=by omega
theorem YM(n d:Int)(hn:0≤n)(hd:0≤d∧d≤9):(n>1844674407370955161∨n=1844674407370955161∧d>5)↔18446744073709551616≤10*n+d:=by omega
def words:List (List UInt8):=[[118,111,105,100],[105,102],[101,108,115,101],[119,104,105,108,101],[102,111,114],[114,101,116,117,114,110],[98,114,101,97,107],[99,111,110,116,105,110,117,101]]
end Tk
end
section
open Go.RowKit
theorem xJ(c:Nat)(w:World):Calls Try.prog 15 #[.int .u8 (c:Int)] w fun e w'=>e= .returned (.bool (Tk.JJ c))∧w=w':=by
 obtain⟨V,hV⟩:∃V,V=Tk.JJ c:=⟨_,rfl⟩
 rw [←hV]
 unfold Tk.JJ at hV
 rcases h1:decide ((c:Int)≥97)with _|_<;>rcases h2:decide ((c:Int)≤122)with _|_<;>rcases h3:decide ((c:Int)≥65)with _|_<;>rcases h4:decide ((c:Int)≤90)with _|_<;>rcases h5:((c:Int)==95)with _|_
 all_goals first
  |(exfalso;simp only [decide_eq_true_eq,decide_eq_false_iff_not,beq_iff_eq,beq_eq_false_iff_ne]at h1 h2 h3 h4 h5;omega)
  |(have HV:Hid (V=true):=(by show V=true;rw [hV];simp only [decide_eq_true_eq,decide_eq_false_iff_not,beq_iff_eq,beq_eq_false_iff_ne]at h1 h2 h3 h4 h5;simp only [Bool.or_eq_true,decide_eq_true_eq];omega)
    clear hV
    go_enter Try.func15,Try.ntmps15
    go_wp2
    go_ret
    exact⟨by rw [HV.out];rfl,rfl⟩)
  |(have HV:Hid (V=false):=(by show V=false;rw [hV];simp only [decide_eq_true_eq,decide_eq_false_iff_not,beq_iff_eq,beq_eq_false_iff_ne]at h1 h2 h3 h4 h5;simp only [Bool.or_eq_false_iff,decide_eq_false_iff_not];omega)
    clear hV
    go_enter Try.func15,Try.ntmps15
    go_wp2
    go_ret
    exact⟨by rw [HV.out];rfl,rfl⟩)
theorem digit_ok(c:Nat)(w:World):Calls Try.prog 17 #[.int .u8 (c:Int)] w fun e w'=>e= .returned (.bool (Tk.sK c))∧w=w':=by
 obtain⟨V,hV⟩:∃V,V=Tk.sK c:=⟨_,rfl⟩
 rw [←hV]
 unfold Tk.sK at hV
 rcases h1:decide ((c:Int)≥48)with _|_<;>rcases h2:decide ((c:Int)≤57)with _|_
 all_goals first
  |(exfalso;simp only [decide_eq_true_eq,decide_eq_false_iff_not,beq_iff_eq,beq_eq_false_iff_ne]at h1 h2;omega)
  |(have HV:Hid (V=true):=(by show V=true;rw [hV];simp only [decide_eq_true_eq,decide_eq_false_iff_not,beq_iff_eq,beq_eq_false_iff_ne]at h1 h2;simp only [decide_eq_true_eq];omega)
    clear hV
    go_enter Try.func17,Try.ntmps17
    go_wp2
    go_ret
    exact⟨by rw [HV.out];rfl,rfl⟩)
  |(have HV:Hid (V=false):=(by show V=false;rw [hV];simp only [decide_eq_true_eq,decide_eq_false_iff_not,beq_iff_eq,beq_eq_false_iff_ne]at h1 h2;simp only [decide_eq_false_iff_not];omega)
    clear hV
    go_enter Try.func17,Try.ntmps17
    go_wp2
    go_ret
    exact⟨by rw [HV.out];rfl,rfl⟩)
end
section
open Go.RowKit
def Tk.VB(l:List UInt8):Value:= .string ⟨l.toArray⟩
theorem nM(b off n c:Nat)(zs:List ByteArray)(x:ByteArray)(w:World)(hz:n≤zs.length)(hbig:n≤9223372036854775807)(hc:∀j,j<zs.length→w.cell? ⟨b,off+j,none⟩=some (.string (zs.getD j ByteArray.empty))):
 Calls Try.prog 53 #[.slice (some ⟨b,off,none⟩) n c, .string x] w fun e w'=>e= .returned (.int .i64 (Lib.idxOfS (zs.take n) x))∧w'=w:=by
 go_enter Try.func53,Try.ntmps53
 go_wp2
 go_loop [5,8](fun _ i=>∃k:Nat,k≤n∧i= .int .i64 k∧∀j,j<k→zs.getD j ByteArray.empty≠x)(fun _ i=>n-(intOf i).toNat)
 case atStart=>exact⟨0,Nat.zero_le _,rfl,fun j hj=>absurd hj (Nat.not_lt_zero _)⟩
 case round=>
  obtain⟨k,hk,rfl,hne⟩:=hrel
  have hcell:k<n→w.cell? ⟨b,off+k,none⟩=some (.string (zs.getD k ByteArray.empty)):=fun _=>hc k (by omega)
  go_wp2
  ·have hlt:k<n:=by assumption
   have heq:(x.toList==(zs[k]?.getD ByteArray.empty).toList)=true:=by assumption
   go_ret
   refine⟨?_,rfl⟩
   rw [Lib.idxOfS_hit zs n k x hlt hz (by simp only [List.getD];exact((Lib.bytes_beq_iff _ _).1 heq).symm) hne]
   rfl
  ·have hlt:k<n:=by assumption
   have hneq:(x.toList==(zs[k]?.getD ByteArray.empty).toList)=false:=by assumption
   go_round
   case rel=>
    refine⟨k+1,by omega,by go_num,fun j hj=>?_⟩
    by_cases e:j=k
    ·subst e
     intro he
     exact(Lib.bytes_beq_false_iff _ _).1 hneq (by simpa [List.getD]using he.symm)
    ·have:=hne j (by omega)
     simpa [List.getD]using this
   case measure=>simp [intOf];omega
  ·have hge:¬k<n:=by assumption
   have:k=n:=by omega
   subst this
   go_ret
   refine⟨?_,rfl⟩
   rw [Lib.idxOfS_miss zs k x hne]
   rfl
theorem lK(b off n c:Nat)(zs:List ByteArray)(x:ByteArray)(w:World)(hz:n≤zs.length)(hbig:n≤9223372036854775807)(hc:∀j,j<zs.length→w.cell? ⟨b,off+j,none⟩=some (.string (zs.getD j ByteArray.empty))):
 Calls Try.prog 34 #[.slice (some ⟨b,off,none⟩) n c, .string x] w fun e w'=>e= .returned (.bool (Lib.containsS (zs.take n) x))∧w'=w:=by
 unfold Lib.containsS
 go_enter Try.func34,Try.ntmps34
 go_wp2_with(go_at_call 53;refine(nM b off n c zs x _ hz hbig hc).mono ?_;rintro e w'⟨rfl,rfl⟩)
 go_ret
 exact⟨rfl,rfl⟩
end
section
open Go.RowKit
theorem Tk.aa5(k:Nat)(hk:k<29):1≤(Tk.JL.getD k []).length∧(Tk.JL.getD k []).length≤2:=by
 have:∀k,k<29→1≤(Tk.JL.getD k []).length∧(Tk.JL.getD k []).length≤2:=by decide
 exact this k hk
theorem Tk.tZ(s:ByteArray):s.size=s.data.toList.length:=by
 obtain⟨d⟩:=s
 exact Array.length_toList.symm
theorem Tk.abe(s:ByteArray)(a:Nat)(X:List UInt8)(h:a+X.length≤s.size):((s.extract a (a+X.length)).toList==(⟨X.toArray⟩:ByteArray).toList)=Tk.hit X (s.data.toList.drop a):=by
 rw [Lib.extract_toList,Lib.toList_data]
 show((s.data.toList.drop a).take (a+X.length-a)==X)=X.isPrefixOf (s.data.toList.drop a)
 rw [Nat.add_sub_cancel_left,Bool.eq_iff_iff,beq_iff_eq,List.isPrefixOf_iff_prefix]
 constructor
 ·intro e;rw [←e];exact List.take_prefix _ _
 ·rintro⟨r,e⟩;rw [←e];simp
theorem Tk.ZT(s:ByteArray)(a:Nat)(X:List UInt8)(h:¬a+X.length≤s.size)(ha:a≤s.size):Tk.hit X (s.data.toList.drop a)=false:=by
 cases e:Tk.hit X (s.data.toList.drop a)with
 |false=>rfl
 |true=>
  have:=Tk.uj e
  rw [List.length_drop]at this
  have hs:=Tk.tZ s
  omega
theorem Tk.Rq(l:List UInt8):∀k,Tk.best l k≤l.length
 |0=>Nat.zero_le _
 |k+1=>by
  unfold Tk.best;split
  ·rename_i h;exact Tk.uj h.1
  ·exact Tk.Rq l k
end
section
open Go.RowKit
def Tk.isWord(l:List UInt8):Bool:=Tk.words.contains l
theorem Tk.aah(s:ByteArray)(k:Nat):(s.toList==(⟨(Tk.words.getD k []).toArray⟩:ByteArray).toList)=(s.data.toList==Tk.words.getD k []):=by
 rw [Lib.toList_data,Lib.toList_data]
theorem Tk.X3(l:List UInt8)(k:Nat)(hk:k<8)(h:(l==Tk.words.getD k [])=true):Tk.isWord l=true:=by
 have e:l=Tk.words.getD k []:=by simpa using h
 unfold Tk.isWord
 rw [List.contains_iff_mem,e,List.getD_eq_getElem?_getD,List.getElem?_eq_getElem (show k<Tk.words.length from hk)]
 exact List.getElem_mem _
theorem Tk.Zu(l:List UInt8)(h:∀k,k<8→(l==Tk.words.getD k [])=false):Tk.isWord l=false:=by
 unfold Tk.isWord
 rw [Bool.eq_false_iff,Ne,List.contains_iff_mem]
 intro hm
 obtain⟨k,hk,e⟩:=List.mem_iff_getElem.1 hm
 have:=h k hk
 rw [List.getD_eq_getElem?_getD,List.getElem?_eq_getElem hk]at this
 simp [e]at this
def Tk.rY:List ByteArray:=Tk.words.map (fun l=>⟨l.toArray⟩)
theorem Tk.Nl(s:ByteArray):Lib.containsS (Tk.rY.take 8) s=Tk.isWord s.data.toList:=by
 rw [Bool.eq_iff_iff,Lib.containsS_iff]
 unfold Tk.isWord
 rw [List.contains_iff_mem]
 show s∈Tk.words.map (fun l=>(⟨l.toArray⟩:ByteArray))↔_
 rw [List.mem_map]
 constructor
 ·rintro⟨l,hl,rfl⟩;exact hl
 ·intro h;exact⟨_,h,by obtain⟨⟨l⟩⟩:=s;rfl⟩
theorem Tk.Jf(wb:World)(g:Nat)(h:ak wb g 9 (Tk.words.map Tk.VB).toArray):∀j,j<Tk.rY.length→wb.cell? ⟨g,0+j,none⟩=some (.string (Tk.rY.getD j ByteArray.empty)):=by
 intro j hj
 have U6:j<Tk.words.length:=by simpa [Tk.rY]using hj
 rw [Nat.zero_add,h.cell,List.getElem?_toArray,List.getElem?_map,List.getElem?_eq_getElem U6,List.getD_eq_getElem?_getD,List.getElem?_eq_getElem hj]
 simp [Tk.rY,Tk.VB]
theorem Cj(s:ByteArray)(tb:Int)(ts b:Bool)(w:World)(CN:∀w1:World,Calls Try.prog 33 #[.string s] w1 fun e w'=>e= .returned (.tuple #[.agg #[.int .i64 tb, .bool ts], .bool b])∧Below w1.heap.size w1 w'):
 Calls Try.prog 16 #[.string s] w fun e w'=>e= .returned (.bool (Tk.isWord s.data.toList||b))∧Below w.heap.size w w':=by
 have jR:=Lib.hid CN
 clear CN
 obtain⟨V,hV⟩:∃V,V=(Tk.isWord s.data.toList||b):=⟨_,rfl⟩
 rw [←hV]
 have HV:=Lib.hid hV
 clear hV
 go_enter Try.func16,Try.ntmps16
 go_upto_region 2 with(first|(go_at_call 33;refine(jR.out _).mono ?_;rintro e w1⟨rfl,hb1⟩;have HB1:=Lib.hid hb1;clear hb1))
 generalize hw2:World.alloc w1 _=w2
 have HB2:=Lib.hid ((by rw [←hw2];exact Ext.trans HB1.out (Ext.alloc (Below.refl _ _) _):Below w.heap.size w w2))
 clear hw2
 cases b
 ·have CC:Hid (∀wb:World,ak wb w2.heap.size 9 (Tk.words.map Tk.VB).toArray→Calls Try.prog 34 #[.slice (some ⟨w2.heap.size,0,none⟩) 8 8, .string s] wb fun e w'=>e= .returned (.bool V)∧w'=wb):=fun wb h=>by
   have:=lK w2.heap.size 0 8 8 Tk.rY s wb (Nat.le_refl _) (by decide) (Tk.Jf wb _ h)
   rw [Tk.Nl]at this
   rw [HV.out,Bool.or_false];exact this
  go_wp2_with(first|(go_at_call 34;refine(CC.out _ (ak.new w2 _ _)).mono ?_;rintro e w3⟨rfl,rfl⟩))
  go_ret
  exact⟨rfl,Ext.alloc HB2.out _⟩
 ·have HT:Hid (V=true):=by show V=true;rw [HV.out,Bool.or_true]
  go_wp2
  go_ret
  exact⟨by rw [HT.out];rfl,by first|exact HB2.out|exact Ext.alloc HB2.out _⟩
end
end Go.Proofs.Ythdckndjggljpaa
