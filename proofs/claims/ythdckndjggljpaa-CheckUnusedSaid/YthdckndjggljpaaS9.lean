/- Proofs of this claim, part 9. No condition. -/
import Derived.Test.YthdckndjggljpaaS8
namespace Go.Proofs.Ythdckndjggljpaa
set_option linter.unusedVariables false
set_option linter.unusedSimpArgs false
set_option maxRecDepth 100000
set_option maxHeartbeats 64000000
section
open Go.RowKit
inductive S where
 |mk(k:Int)(b:Int)(s:Bool)(nm:ByteArray)(has:Bool)(x i:X)(ini step body els:List S)
namespace S
def kind:S→Int|mk k _ _ _ _ _ _ _ _ _ _=>k
def bits:S→Int|mk _ b _ _ _ _ _ _ _ _ _=>b
def sg:S→Bool|mk _ _ s _ _ _ _ _ _ _ _=>s
def name:S→ByteArray|mk _ _ _ nm _ _ _ _ _ _ _=>nm
def has:S→Bool|mk _ _ _ _ h _ _ _ _ _ _=>h
def xx:S→X|mk _ _ _ _ _ x _ _ _ _ _=>x
def ii:S→X|mk _ _ _ _ _ _ i _ _ _ _=>i
def ini:S→List S|mk _ _ _ _ _ _ _ l _ _ _=>l
def step:S→List S|mk _ _ _ _ _ _ _ _ l _ _=>l
def body:S→List S|mk _ _ _ _ _ _ _ _ _ l _=>l
def els:S→List S|mk _ _ _ _ _ _ _ _ _ _ l=>l
def Sub(y x:S):Prop:=y∈x.ini∨y∈x.step∨y∈x.body∨y∈x.els
theorem sub_lt{x y:S}(h:Sub y x):SizeOf.sizeOf y<SizeOf.sizeOf x:=by
 obtain⟨k,b,s,nm,hs,xx,ii,l0,l1,l2,l3⟩:=x
 simp only [mk.sizeOf_spec]
 rcases h with h|h|h|h
 ·have:=List.sizeOf_lt_of_mem (show y∈l0 from h);omega
 ·have:=List.sizeOf_lt_of_mem (show y∈l1 from h);omega
 ·have:=List.sizeOf_lt_of_mem (show y∈l2 from h);omega
 ·have:=List.sizeOf_lt_of_mem (show y∈l3 from h);omega
theorem up{M:S→Prop}(h:∀x,(∀y,Sub y x→M y)→M x)(x:S):M x:=by
 have:∀n,∀x:S,SizeOf.sizeOf x<n→M x:=by
  intro n
  induction n with
  |zero=>intro x hx;omega
  |succ n ih=>intro x hx;exact h x (fun y hy=>ih y (by have:=sub_lt hy;omega))
 exact this _ x (Nat.lt_succ_self _)
end S
abbrev S.cells(k b:Int)(s:Bool)(nm:ByteArray)(h:Bool)(xs is:List Value)(v0 v1 v2 v3:Value):List Value:=[.int .i64 k, .int .i64 b, .bool s, .string nm, .bool h]++xs++is++[v0,v1,v2,v3]
mutual
inductive aQ(w:World)(p:Nat→Prop):List S→Value→Prop
 |mk(l:List S)(a:Option Addr)(c:Nat)(cs:Nat→List Value)(hc:l.length≤c)(hm:c≤maxLen)(hk:∀i x,l[i]?=some x→fV w p x (cs i))
   (ha:0<l.length→∃b off,p b∧a=some ⟨b,off,none⟩∧∀i j u,i<l.length→(cs i)[j]?=some u→w.cell? ⟨b,off+i*21+j,none⟩=some u):aQ w p l (.slice a l.length c)
inductive fV(w:World)(p:Nat→Prop):S→List Value→Prop
 |mk(k b:Int)(s:Bool)(nm:ByteArray)(h:Bool)(x i:X)(l0 l1 l2 l3:List S)(xs is:List Value)(v0 v1 v2 v3:Value)(hx:dA w p x xs)(hi:dA w p i is)
   (h0:aQ w p l0 v0)(h1:aQ w p l1 v1)(h2:aQ w p l2 v2)(h3:aQ w p l3 v3):
   fV w p (.mk k b s nm h x i l0 l1 l2 l3) (S.cells k b s nm h xs is v0 v1 v2 v3)
end
theorem fV.parts{w:World}{p:Nat→Prop}{x:S}{cs:List Value}(h:fV w p x cs):∃xs is v0 v1 v2 v3,cs=S.cells x.kind x.bits x.sg x.name x.has xs is v0 v1 v2 v3∧dA w p x.xx xs∧dA w p x.ii is∧aQ w p x.ini v0∧aQ w p x.step v1∧aQ w p x.body v2∧aQ w p x.els v3:=by
 cases h with|mk k b s nm h x i l0 l1 l2 l3 xs is v0 v1 v2 v3 hx hi h0 h1 h2 h3=>exact⟨xs,is,v0,v1,v2,v3,rfl,hx,hi,h0,h1,h2,h3⟩
theorem aQ.parts{w:World}{p:Nat→Prop}{l:List S}{v:Value}(h:aQ w p l v):∃a c,v= .slice a l.length c∧l.length≤c∧c≤maxLen∧∀i x,l[i]?=some x→∃g off cs,p g∧a=some ⟨g,off,none⟩∧fV w p x cs∧∀j u,cs[j]?=some u→w.cell? ⟨g,off+i*21+j,none⟩=some u:=by
 cases h with|mk l a c cs hc hm hk ha=>
 refine⟨a,c,rfl,hc,hm,fun i x hx=>?_⟩
 have hi:i<l.length:=(List.getElem?_eq_some_iff.1 hx).1
 obtain⟨g,off,hp,e,hcell⟩:=ha (by omega)
 exact⟨g,off,cs i,hp,e,hk i x hx,fun j u hu=>hcell i j u hi hu⟩
theorem fV.len{w:World}{p:Nat→Prop}{x:S}{cs:List Value}(h:fV w p x cs):cs.length=21:=by
 obtain⟨xs,is,v0,v1,v2,v3,e,hx,hi,_⟩:=h.parts
 subst e
 simp [S.cells,hx.six,hi.six]
theorem aQ.qO{w w':World}{p q:Nat→Prop}{l:List S}{v:Value}(h:aQ w p l v)(ih:∀x∈l,∀cs,fV w p x cs→fV w' q x cs)(hf:∀g,p g→g<w.heap.size→q g∧w'.heap[g]?=w.heap[g]?):aQ w' q l v:=by
 cases h with|mk l a c cs hc hm hk ha=>
 refine .mk l a c cs hc hm (fun i x hx=>ih x (List.mem_of_getElem? hx) _ (hk i x hx)) (fun h0=>?_)
 obtain⟨g,off,hp,e,hcell⟩:=ha h0
 have hx:=hk 0 l[0] (List.getElem?_eq_getElem h0)
 have hl:=hx.len
 have h00:(cs 0)[0]?=some (cs 0)[0]:=List.getElem?_eq_getElem (by omega)
 have hlt:g<w.heap.size:=World.block_lt_of_cell? _ _ (hcell 0 0 _ h0 h00)
 obtain⟨hq,hh⟩:=hf g hp hlt
 refine⟨g,off,hq,e,fun i j u hi hu=>?_⟩
 rw [World.cell?_of_block (w:=w) hh]
 exact hcell i j u hi hu
theorem fV.move{w w':World}{p q:Nat→Prop}(hf:∀g,p g→g<w.heap.size→q g∧w'.heap[g]?=w.heap[g]?)(x:S):∀cs,fV w p x cs→fV w' q x cs:=by
 induction x using S.up with
 |_ x ih=>
  intro cs h
  cases h with|mk k b s nm h x i l0 l1 l2 l3 xs is v0 v1 v2 v3 hx hi h0 h1 h2 h3=>
  exact .mk k b s nm h x i l0 l1 l2 l3 xs is v0 v1 v2 v3 (hx.move hf) (hi.move hf) (h0.qO (fun y hy=>ih y (.inl hy)) hf) (h1.qO (fun y hy=>ih y (.inr (.inl hy))) hf)
   (h2.qO (fun y hy=>ih y (.inr (.inr (.inl hy)))) hf) (h3.qO (fun y hy=>ih y (.inr (.inr (.inr hy)))) hf)
theorem aQ.move{w w':World}{p q:Nat→Prop}(hf:∀g,p g→g<w.heap.size→q g∧w'.heap[g]?=w.heap[g]?){l:List S}{v:Value}(h:aQ w p l v):aQ w' q l v:=
 h.qO (fun x _ cs=>fV.move hf x cs) hf
theorem fV.keep{w w':World}{p:Nat→Prop}{x:S}{cs:List Value}(h:fV w p x cs)(hb:Below w.heap.size w w'):fV w' p x cs:=h.move (fun g hp hg=>⟨hp,hb.block g hg⟩) x cs
theorem aQ.keep{w w':World}{p:Nat→Prop}{l:List S}{v:Value}(h:aQ w p l v)(hb:Below w.heap.size w w'):aQ w' p l v:=h.move fun g hp hg=>⟨hp,hb.block g hg⟩
inductive S.Wf:S→Prop
 |mk(k b:Int)(s:Bool)(nm:ByteArray)(h:Bool)(x i:X)(l0 l1 l2 l3:List S)(hk:W.I k)(hb:W.I b)(hs:nm.size≤maxLen)(hx:X.Wf x)(hi:X.Wf i)(h0:∀y∈l0,S.Wf y)(h1:∀y∈l1,S.Wf y)(h2:∀y∈l2,S.Wf y)(h3:∀y∈l3,S.Wf y):
   S.Wf (.mk k b s nm h x i l0 l1 l2 l3)
def Row{α:Type}(w:World)(p:Nat→Prop)(z:Nat)(At:α→List Value→Prop)(l:List α)(v:Value):Prop:=
 ∃(a:Option Addr)(c:Nat)(cs:Nat→List Value),v= .slice a l.length c∧l.length≤c∧c≤maxLen∧(∀i x,l[i]?=some x→At x (cs i))∧
  (0<l.length→∃b off,p b∧a=some ⟨b,off,none⟩∧∀i j u,i<l.length→(cs i)[j]?=some u→w.cell? ⟨b,off+i*z+j,none⟩=some u)
theorem Row.parts{α:Type}{w:World}{p:Nat→Prop}{z:Nat}{At:α→List Value→Prop}{l:List α}{v:Value}(h:Row w p z At l v):∃a c,v= .slice a l.length c∧l.length≤c∧c≤maxLen∧∀i x,l[i]?=some x→∃g off cs,p g∧a=some ⟨g,off,none⟩∧At x cs∧∀j u,cs[j]?=some u→w.cell? ⟨g,off+i*z+j,none⟩=some u:=by
 obtain⟨a,c,cs,e,hc,hm,hk,ha⟩:=h
 refine⟨a,c,e,hc,hm,fun i x hx=>?_⟩
 have hi:i<l.length:=(List.getElem?_eq_some_iff.1 hx).1
 obtain⟨g,off,hp,e,hcell⟩:=ha (by omega)
 exact⟨g,off,cs i,hp,e,hk i x hx,fun j u hu=>hcell i j u hi hu⟩
theorem Row.nil{α:Type}(w:World)(p:Nat→Prop)(z:Nat)(At:α→List Value→Prop):Row w p z At [] (.slice none 0 0):=
 ⟨none,0,fun _=>[],rfl,Nat.le_refl _,Nat.zero_le _,fun i x h=>by simp at h,fun h=>absurd h (Nat.lt_irrefl _)⟩
theorem Row.move{α:Type}{w w':World}{p q:Nat→Prop}{z:Nat}{At Yc:α→List Value→Prop}{l:List α}{v:Value}(h:Row w p z At l v)(hat:∀x∈l,∀cs,At x cs→Yc x cs)(hne:∀x∈l,∀cs,At x cs→cs≠[])(hf:∀g,p g→g<w.heap.size→q g∧w'.heap[g]?=w.heap[g]?):Row w' q z Yc l v:=by
 obtain⟨a,c,cs,e,hc,hm,hk,ha⟩:=h
 refine⟨a,c,cs,e,hc,hm,fun i x hx=>hat x (List.mem_of_getElem? hx) _ (hk i x hx),fun h0=>?_⟩
 obtain⟨g,off,hp,e,hcell⟩:=ha h0
 have hx:=hk 0 l[0] (List.getElem?_eq_getElem h0)
 have hn:=hne _ (List.getElem_mem h0) _ hx
 have h1:0<(cs 0).length:=List.length_pos_iff.2 hn
 have hlt:g<w.heap.size:=World.block_lt_of_cell? _ _ (hcell 0 0 _ h0 (List.getElem?_eq_getElem h1))
 obtain⟨hq,hh⟩:=hf g hp hlt
 refine⟨g,off,hq,e,fun i j u hi hu=>?_⟩
 rw [World.cell?_of_block (w:=w) hh]
 exact hcell i j u hi hu
structure Pm where
 b:Int
 s:Bool
 nm:ByteArray
structure Fn where
 nm:ByteArray
 b:Int
 s:Bool
 ps:List Pm
 body:List S
structure Gl where
 b:Int
 s:Bool
 nm:ByteArray
 size:Int
 ini:List X
structure Pg where
 gs:List Gl
 fs:List Fn
def zq(x:Pm)(cs:List Value):Prop:=cs=[.int .i64 x.b, .bool x.s, .string x.nm]
def lF(w:World)(p:Nat→Prop)(f:Fn)(cs:List Value):Prop:=∃v0 v1,cs=[.string f.nm, .int .i64 f.b, .bool f.s,v0,v1]∧Row w p 3 zq f.ps v0∧aQ w p f.body v1
def kX(w:World)(p:Nat→Prop)(g:Gl)(cs:List Value):Prop:=∃v,cs=[.int .i64 g.b, .bool g.s, .string g.nm, .int .i64 g.size,v]∧Row w p 6 (dA w p) g.ini v
def bM(w:World)(p:Nat→Prop)(x:Pg)(v0 v1:Value):Prop:=Row w p 5 (kX w p) x.gs v0∧Row w p 5 (lF w p) x.fs v1
structure Pm.Wf(x:Pm):Prop where
 b:W.I x.b
 nm:x.nm.size≤maxLen
structure Fn.Wf(x:Fn):Prop where
 nm:x.nm.size≤maxLen
 b:W.I x.b
 ps:∀y∈x.ps,Pm.Wf y
 body:∀y∈x.body,S.Wf y
structure Gl.Wf(x:Gl):Prop where
 b:W.I x.b
 nm:x.nm.size≤maxLen
 size:W.I x.size
 ini:∀y∈x.ini,X.Wf y
structure Pg.Wf(x:Pg):Prop where
 gs:∀y∈x.gs,Gl.Wf y
 fs:∀y∈x.fs,Fn.Wf y
section
variable{w w':World}{p q:Nat→Prop}
theorem lF.move{f:Fn}{cs:List Value}(h:lF w p f cs)(hf:∀g,p g→g<w.heap.size→q g∧w'.heap[g]?=w.heap[g]?):lF w' q f cs:=by
 obtain⟨v0,v1,e,h0,h1⟩:=h
 exact⟨v0,v1,e,h0.move (fun _ _ _ h=>h) (fun x _ cs h=>by rw [h];simp) hf,h1.move hf⟩
theorem kX.move{f:Gl}{cs:List Value}(h:kX w p f cs)(hf:∀g,p g→g<w.heap.size→q g∧w'.heap[g]?=w.heap[g]?):kX w' q f cs:=by
 obtain⟨v,e,h0⟩:=h
 exact⟨v,e,h0.move (fun _ _ _ h=>h.move hf) (fun x _ cs h e=>by have:=h.six;rw [e]at this;cases this) hf⟩
theorem bM.move{x:Pg}{v0 v1:Value}(h:bM w p x v0 v1)(hf:∀g,p g→g<w.heap.size→q g∧w'.heap[g]?=w.heap[g]?):bM w' q x v0 v1:=
 ⟨h.1.move (fun _ _ _ h=>h.move hf) (fun x _ cs h=>by obtain⟨v,e,_⟩:=h;rw [e];simp) hf,h.2.move (fun _ _ _ h=>h.move hf) (fun x _ cs h=>by obtain⟨v0,v1,e,_⟩:=h;rw [e];simp) hf⟩
theorem bM.keep{x:Pg}{v0 v1:Value}(h:bM w p x v0 v1)(hb:Below w.heap.size w w'):bM w' p x v0 v1:=h.move fun g hp hg=>⟨hp,hb.block g hg⟩
end
end
section
open Go.RowKit
def thn(r:Int×Nat)(f:Nat→Int×Nat):Int×Nat:=if r.1=0 then f r.2 else r
theorem fU{r:Int×Nat}{f:Nat→Int×Nat}(h:r.1=0):thn r f=f r.2:=if_pos h
theorem zC{r:Int×Nat}{f:Nat→Int×Nat}(h:r.1≠0):thn r f=r:=if_neg h
def tyName(b:Int)(nm:List UInt8):Int:=if W.okB b=false then 9 else if Tk.oC nm=false then 7 else 0
namespace S
def own(k b:Int)(nm:List UInt8):Int:=if k<1∨11<k then 1 else if k=2 then tyName b nm else if k=3∧Tk.oC nm=false then 7 else 0
def brk(l:List S):Int:=if 1<l.length then 5 else if l.any (fun s=>s.kind !=3&&s.kind !=4)then 8 else 0
def looks(k:Int)(has:Bool):Bool:=(k==3||k==4||k==5||k==6)||(has&&(k==2||k==8||k==7))
mutual
def cnt:S→Nat→Int→Int×Nat
 | .mk k b s nm has x i l0 l1 l2 l3,N,d=>
   if 20000≤N∨100<d then(4,N+1)
   else if own k b nm.data.toList≠0 then(own k b nm.data.toList,N+1)
   else thn (if k=3∧has=true then X.cnt i (N+1) (d+1)else(0,N+1)) fun N=>
    thn (if k=7 then(if brk l0≠0 then(brk l0,N)else cnts l0 N (d+1))else(0,N)) fun N=>
    thn (if looks k has=true then X.cnt x N (d+1)else(0,N)) fun N=>
    thn (if k=7 then(if brk l1≠0 then(brk l1,N)else cnts l1 N (d+1))else(0,N)) fun N=>
    thn (if k=5∨k=6∨k=7∨k=11 then cnts l2 N (d+1)else(0,N)) fun N=>
    if k=5 then cnts l3 N (d+1)else(0,N)
def cnts:List S→Nat→Int→Int×Nat
 |[],N,_=>(0,N)
 |x::xs,N,d=>if(cnt x N d).1=0 then cnts xs (cnt x N d).2 d else cnt x N d
end
end S
def X.row(l:List X)(N:Nat)(d:Int):Int×Nat:=X.cnts l N d
namespace Pg
def gl(g:Gl)(N:Nat):Int×Nat:=
 if tyName g.b g.nm.data.toList≠0 then(tyName g.b g.nm.data.toList,N)
 else if g.size<0∨8000<g.size then(3,N)
 else if 1<g.ini.length∧g.size<(g.ini.length:Int)then(5,N)
 else if 20000≤N then(4,N+1)
 else X.cnts g.ini (N+1) 2
def gls:List Gl→Nat→Int×Nat
 |[],N=>(0,N)
 |g::gs,N=>if(gl g N).1=0 then gls gs (gl g N).2 else gl g N
def oV:List Pm→Int
 |[]=>0
 |x::xs=>if tyName x.b x.nm.data.toList=0 then oV xs else tyName x.b x.nm.data.toList
def fn(f:Fn)(N:Nat):Int×Nat:=
 if Tk.oC f.nm.data.toList=false then(7,N)
 else if¬(f.b=0∧f.s=false)∧W.okB f.b=false then(9,N)
 else if 8<f.ps.length then(5,N)
 else if oV f.ps≠0 then(oV f.ps,N)
 else if 20000≤N then(4,N+1)
 else S.cnts f.body (N+1) 2
def fns:List Fn→Nat→Int×Nat
 |[],N=>(0,N)
 |g::gs,N=>if(fn g N).1=0 then fns gs (fn g N).2 else fn g N
def wrong(x:Pg):Int:=if 100<x.fs.length then 5 else(thn (gls x.gs 0) (fns x.fs)).1
end Pg
namespace S
theorem FV(l:List S)(N:Nat)(d:Int):cnts l N d=match l with|[]=>(0,N)|x::xs=>thn (cnt x N d) fun N=>cnts xs N d:=by
 cases l with
 |nil=>rw [cnts]
 |cons x xs=>rw [cnts];rfl
theorem rJ(xs:List S)(y:S):∀(N:Nat)(d:Int),(cnts xs N d).1=0→cnts (xs++[y]) N d=cnt y (cnts xs N d).2 d:=by
 induction xs with
 |nil=>intro N d h;rw [List.nil_append,cnts,cnts,cnts];split
       ·rename_i h1;rw [Prod.ext_iff];exact⟨h1.symm,rfl⟩
       ·rfl
 |cons x xs ih=>
  intro N d h
  rw [List.cons_append,cnts]
  rw [cnts]at h
  split at h
  ·rename_i h1;rw [if_pos h1,ih _ _ h,cnts,if_pos h1]
  ·rename_i h1;exact absurd h h1
theorem rZ(xs zs:List S):∀(N:Nat)(d:Int),(cnts xs N d).1≠0→cnts (xs++zs) N d=cnts xs N d:=by
 induction xs with
 |nil=>intro N d h;exact absurd rfl h
 |cons x xs ih=>
  intro N d h
  rw [cnts]at h
  rw [List.cons_append,cnts,cnts]
  split at h
  ·rename_i h1;rw [if_pos h1,if_pos h1];exact ih _ _ h
  ·rename_i h1;rw [if_neg h1,if_neg h1]
theorem jI{l:List S}{i:Nat}{y:S}(hy:l[i]?=some y)(N:Nat)(d:Int)(h:(cnts (l.take i) N d).1=0):cnts (l.take (i+1)) N d=cnt y (cnts (l.take i) N d).2 d:=by
 rw [List.take_add_one,hy];exact rJ _ _ _ _ h
theorem qA{l:List S}{i:Nat}{y:S}(hy:l[i]?=some y)(N:Nat)(d:Int)(h:(cnts (l.take i) N d).1=0)(hb:(cnt y (cnts (l.take i) N d).2 d).1≠0):cnts l N d=cnt y (cnts (l.take i) N d).2 d:=by
 rw [←jI hy N d h]at hb⊢
 have:=rZ (l.take (i+1)) (l.drop (i+1)) N d hb
 rw [List.take_append_drop]at this
 exact this
end S
end
section
open Go.RowKit
section
variable{w w':World}{p:Nat→Prop}{g:Nat}{t:TypeId}{v:Value}
theorem yU(hg:ak w g t #[v]){b o:Nat}{u:Value}(h:w.cell? ⟨b,o+1,none⟩=some u):b≠g:=by
 rintro rfl
 rw [hg.cell]at h
 simp at h
theorem dA.jU{x:X}{cs:List Value}(h:dA w p x cs)(hg:ak w g t #[v]):dA w (fun q=>p q∧q≠g) x cs:=by
 induction h with
 |mk k n b s nm ks a c cs hc hm hk ha ih=>
  refine .mk k n b s nm ks a c cs hc hm ih (fun h0=>?_)
  obtain⟨q,off,hp,e,hcell⟩:=ha h0
  have hx:=hk 0 ks[0] (List.getElem?_eq_getElem h0)
  have hl:=hx.six
  have h1:(cs 0)[1]?=some (cs 0)[1]:=List.getElem?_eq_getElem (by omega)
  exact⟨q,off,⟨hp,yU hg (hcell 0 1 _ h0 h1)⟩,e,hcell⟩
theorem aQ.qE{l:List S}{u:Value}(h:aQ w p l u)(hg:ak w g t #[v])(ih:∀x∈l,∀cs,fV w p x cs→fV w (fun q=>p q∧q≠g) x cs):aQ w (fun q=>p q∧q≠g) l u:=by
 cases h with|mk l a c cs hc hm hk ha=>
 refine .mk l a c cs hc hm (fun i x hx=>ih x (List.mem_of_getElem? hx) _ (hk i x hx)) (fun h0=>?_)
 obtain⟨q,off,hp,e,hcell⟩:=ha h0
 have hx:=hk 0 l[0] (List.getElem?_eq_getElem h0)
 have hl:=hx.len
 have h1:(cs 0)[1]?=some (cs 0)[1]:=List.getElem?_eq_getElem (by omega)
 exact⟨q,off,⟨hp,yU hg (hcell 0 1 _ h0 h1)⟩,e,hcell⟩
theorem fV.jU(hg:ak w g t #[v])(x:S):∀cs,fV w p x cs→fV w (fun q=>p q∧q≠g) x cs:=by
 induction x using S.up with
 |_ x ih=>
  intro cs h
  cases h with|mk k b s nm h x i l0 l1 l2 l3 xs is v0 v1 v2 v3 hx hi h0 h1 h2 h3=>
  exact .mk k b s nm h x i l0 l1 l2 l3 xs is v0 v1 v2 v3 (hx.jU hg) (hi.jU hg) (h0.qE hg (fun y hy=>ih y (.inl hy))) (h1.qE hg (fun y hy=>ih y (.inr (.inl hy))))
   (h2.qE hg (fun y hy=>ih y (.inr (.inr (.inl hy))))) (h3.qE hg (fun y hy=>ih y (.inr (.inr (.inr hy)))))
theorem aQ.jU(hg:ak w g t #[v]){l:List S}{u:Value}(h:aQ w p l u):aQ w (fun q=>p q∧q≠g) l u:=h.qE hg fun x _ cs=>fV.jU hg x cs
theorem Row.jU{α:Type}{z:Nat}{At Yc:α→List Value→Prop}{l:List α}{u:Value}(hg:ak w g t #[v])(h:Row w p z At l u)(hat:∀x∈l,∀cs,At x cs→Yc x cs)(hlen:∀x∈l,∀cs,At x cs→2≤cs.length):Row w (fun q=>p q∧q≠g) z Yc l u:=by
 obtain⟨a,c,cs,e,hc,hm,hk,ha⟩:=h
 refine⟨a,c,cs,e,hc,hm,fun i x hx=>hat x (List.mem_of_getElem? hx) _ (hk i x hx),fun h0=>?_⟩
 obtain⟨q,off,hp,e,hcell⟩:=ha h0
 have hl:=hlen _ (List.getElem_mem h0) _ (hk 0 l[0] (List.getElem?_eq_getElem h0))
 have h1:(cs 0)[1]?=some (cs 0)[1]:=List.getElem?_eq_getElem (by omega)
 exact⟨q,off,⟨hp,yU hg (hcell 0 1 _ h0 h1)⟩,e,hcell⟩
theorem lF.jU(hg:ak w g t #[v]){f:Fn}{cs:List Value}(h:lF w p f cs):lF w (fun q=>p q∧q≠g) f cs:=by
 obtain⟨v0,v1,e,h0,h1⟩:=h
 exact⟨v0,v1,e,h0.jU hg (fun _ _ _ h=>h) (fun x _ cs h=>by rw [h];simp),h1.jU hg⟩
theorem kX.jU(hg:ak w g t #[v]){f:Gl}{cs:List Value}(h:kX w p f cs):kX w (fun q=>p q∧q≠g) f cs:=by
 obtain⟨v0,e,h0⟩:=h
 exact⟨v0,e,h0.jU hg (fun _ _ _ h=>h.jU hg) (fun x _ cs h=>by rw [h.six];omega)⟩
theorem bM.jU(hg:ak w g t #[v]){x:Pg}{v0 v1:Value}(h:bM w p x v0 v1):bM w (fun q=>p q∧q≠g) x v0 v1:=
 ⟨h.1.jU hg (fun _ _ _ h=>h.jU hg) (fun x _ cs h=>by obtain⟨v,e,_⟩:=h;rw [e];simp),h.2.jU hg (fun _ _ _ h=>h.jU hg) (fun x _ cs h=>by obtain⟨v0,v1,e,_⟩:=h;rw [e];simp)⟩
theorem nT(hc:aH g w w'):∀q,(p q∧q≠g)→q<w.heap.size→(fun _=>True) q∧w'.heap[q]?=w.heap[q]?:=fun q hq hlt=>⟨trivial,hc.block q hlt (fun e=>by injection e with e;exact hq.2 e)⟩
theorem fV.bC(hg:ak w g t #[v])(hc:aH g w w'){x:S}{cs:List Value}(h:fV w p x cs):fV w' (fun _=>True) x cs:=fV.move (nT hc) x cs (fV.jU hg x cs h)
theorem aQ.bC(hg:ak w g t #[v])(hc:aH g w w'){l:List S}{u:Value}(h:aQ w p l u):aQ w' (fun _=>True) l u:=(h.jU hg).move (nT hc)
theorem dA.bC(hg:ak w g t #[v])(hc:aH g w w'){x:X}{cs:List Value}(h:dA w p x cs):dA w' (fun _=>True) x cs:=(h.jU hg).move (nT hc)
theorem lF.bC(hg:ak w g t #[v])(hc:aH g w w'){f:Fn}{cs:List Value}(h:lF w p f cs):lF w' (fun _=>True) f cs:=(h.jU hg).move (nT hc)
theorem kX.bC(hg:ak w g t #[v])(hc:aH g w w'){f:Gl}{cs:List Value}(h:kX w p f cs):kX w' (fun _=>True) f cs:=(h.jU hg).move (nT hc)
theorem bM.bC(hg:ak w g t #[v])(hc:aH g w w'){x:Pg}{v0 v1:Value}(h:bM w p x v0 v1):bM w' (fun _=>True) x v0 v1:=(h.jU hg).move (nT hc)
end
def eu(r:Int×Nat):Prop:=r.1=0→r.2≤20000
theorem fB{r:Int×Nat}{f:Nat→Int×Nat}(hr:eu r)(hf:∀N,N≤20000→eu (f N)):eu (thn r f):=by
 unfold thn
 split
 ·rename_i h;exact hf _ (hr h)
 ·rename_i h;exact fun h2=>absurd h2 h
theorem fJ{c:Prop} [Decidable c]{r:Int×Nat}{N:Nat}(hN:N≤20000)(hr:eu r):eu (if c then r else(0,N)):=by
 split
 ·exact hr
 ·exact fun _=>hN
theorem S.uH(x:S):∀N d,N≤20000→eu (S.cnt x N d):=by
 have all:∀l:List S,(∀y∈l,∀N d,N≤20000→eu (S.cnt y N d))→∀N d,N≤20000→eu (S.cnts l N d):=by
  intro l
  induction l with
  |nil=>intro _ N d hN;rw [S.cnts];exact fun _=>hN
  |cons x xs ih=>
   intro h N d hN
   rw [S.FV]
   exact fB (h x (List.mem_cons_self ..) N d hN) (fun N hN=>ih (fun y hy=>h y (List.mem_cons_of_mem _ hy)) N d hN)
 induction x using S.up with
 |_ x ih=>
  intro N d hN
  obtain⟨k,b,s,nm,has,x,i,l0,l1,l2,l3⟩:=x
  have i0:=all l0 (fun y hy=>ih y (.inl hy))
  have i1:=all l1 (fun y hy=>ih y (.inr (.inl hy)))
  have i2:=all l2 (fun y hy=>ih y (.inr (.inr (.inl hy))))
  have i3:=all l3 (fun y hy=>ih y (.inr (.inr (.inr hy))))
  have brk:∀(l:List S),(∀N d,N≤20000→eu (S.cnts l N d))→∀N,N≤20000→eu (if S.brk l≠0 then(S.brk l,N)else S.cnts l N (d+1)):=fun l hl N hN=>by
   split
   ·rename_i h;exact fun h2=>absurd h2 h
   ·exact hl N _ hN
  rw [S.cnt]
  split
  ·exact fun h=>absurd (show(4:Int)=0 from h) (by decide)
  rename_i h0
  split
  ·rename_i h;exact fun h2=>absurd h2 h
  refine fB (fJ (by omega) (fun h=>X.dQ i _ _ (by omega) h)) (fun N hN=>?_)
  refine fB (fJ hN (brk l0 i0 N hN)) (fun N hN=>?_)
  refine fB (fJ hN (fun h=>X.dQ x _ _ hN h)) (fun N hN=>?_)
  refine fB (fJ hN (brk l1 i1 N hN)) (fun N hN=>?_)
  refine fB (fJ hN (i2 N _ hN)) (fun N hN=>?_)
  exact fJ hN (i3 N _ hN)
theorem S.bF(l:List S):∀N d,N≤20000→eu (S.cnts l N d):=by
 induction l with
 |nil=>intro N d hN;rw [S.cnts];exact fun _=>hN
 |cons x xs ih=>intro N d hN;rw [S.FV];exact fB (S.uH x N d hN) (fun N hN=>ih N d hN)
end
section
open Go.ChangeShapes Go.WideShapes Go.ChangeAt Go.RowKit
section
variable{H:Type}{enc:TypeId×Value→H}{ww:World}
theorem lY{α:Type}{t e:TypeId}{z n:Nat}{v:Value}{x:DataW H×List MemPlace}(At:α→List Value→Prop)(G:α→Prop)(dflt:α)(ht:Try.prog.underlying t=some (.slice e))(hz:Try.prog.cellsOf e=z)(hz0:0<z)
 (each:∀m,m<n→∀cs y,DataW.trod enc Try.prog ww 0 (fun _=>true) true m e cs=some y→∃a,At a cs∧G a)
 (h:DataW.trod enc Try.prog ww 0 (fun _=>true) true n t [v]=some x):∃l:List α,Row ww (fun _=>True) z At l v∧∀y∈l,G y:=by
 rcases DataW.trod_slice ht h with⟨e5,_⟩|⟨a,len,cap,elems,rest,m2,hm2,e5,_,_,hlc,hcm,hel,hks,_,_⟩
 ·simp at e5;subst e5
  exact⟨[],Row.nil _ _ _ _,fun y hy=>by simp at hy⟩
 ·simp at e5;subst e5
  rw [hz]at hks
  have one:∀i,i<len→∃(y:α)(ys:List Value),At y ys∧G y∧ww.cells? 0 (a.add (i*z)) z=some ys:=fun i hi=>by
   obtain⟨q,hq⟩:=X.dI (hks i hi) (by omega)
   obtain⟨ys,hys,hz2⟩:=Option.bind_eq_some_iff.1 hq
   obtain⟨y,hy,hw⟩:=each m2 (by omega) ys q hz2
   exact⟨y,ys,hy,hw,hys⟩
  have two:∃(Y:Nat→α)(C:Nat→List Value),∀i,i<len→At (Y i) (C i)∧G (Y i)∧ww.cells? 0 (a.add (i*z)) z=some (C i):=by
   refine⟨fun i=>if h:i<len then(one i h).choose else dflt,fun i=>if h:i<len then(one i h).choose_spec.choose else[],fun i hi=>?_⟩
   simp only [dif_pos hi]
   exact(one i hi).choose_spec.choose_spec
  obtain⟨Y,C,IJ⟩:=two
  have hgi:∀i x,((List.range len).map Y)[i]?=some x→i<len∧x=Y i:=fun i x hx=>by
   rw [List.getElem?_map]at hx
   rcases Nat.lt_or_ge i len with h|h
   ·rw [List.getElem?_eq_getElem (by simpa using h)]at hx
    simp at hx;exact⟨h,hx.symm⟩
   ·rw [List.getElem?_eq_none (by simpa using h)]at hx;simp at hx
  have hlen:((List.range len).map Y).length=len:=by simp
  refine⟨(List.range len).map Y,⟨some a,cap,C,by rw [hlen],by rw [hlen];exact hlc,hcm,fun i x hx=>?_,fun hz1=>?_⟩,fun y hy=>?_⟩
  ·obtain⟨h1,rfl⟩:=hgi i x hx;exact(IJ i h1).1
  ·rw [hlen]at hz1
   obtain⟨ab,off,spot⟩:=a
   have hl0:=(World.cells?_some (IJ 0 hz1).2.2).2.1
   have hc0:=(World.cells?_some (IJ 0 hz1).2.2).2.2 0 hz0
   have h00:(C 0)[0]?=some ((C 0)[0]'(by omega)):=List.getElem?_eq_getElem (by omega)
   rw [h00]at hc0
   have hs:spot=none:=by simpa [Addr.add]using World.cell?_spot hc0
   subst hs
   refine⟨ab,off,trivial,rfl,fun i j u hi hu=>?_⟩
   rw [hlen]at hi
   have hj:j<z:=by
    have:=(World.cells?_some (IJ i hi).2.2).2.1
    have:=(List.getElem?_eq_some_iff.1 hu).1
    omega
   have:=(World.cells?_some (IJ i hi).2.2).2.2 j hj
   rw [X.bV,X.bV]at this
   rw [this,hu]
  ·obtain⟨i,hi,rfl⟩:=List.mem_map.1 hy
   exact(IJ i (by simpa using hi)).2.1
theorem aQ.oU{w:World}{p:Nat→Prop}{l:List S}{v:Value}(h:Row w p 21 (fV w p) l v):aQ w p l v:=by
 obtain⟨a,c,cs,rfl,hc,hm,hk,ha⟩:=h
 exact .mk l a c cs hc hm hk ha
theorem S.RG{cs:List Value}(h:cs.length=21):∃c0 c1 c2 c3 c4 x0 x1 x2 x3 x4 x5 i0 i1 i2 i3 i4 i5 v0 v1 v2 v3,cs=[c0,c1,c2,c3,c4,x0,x1,x2,x3,x4,x5,i0,i1,i2,i3,i4,i5,v0,v1,v2,v3]:=by
 match cs,h with
 |[c0,c1,c2,c3,c4,x0,x1,x2,x3,x4,x5,i0,i1,i2,i3,i4,i5,v0,v1,v2,v3],_=>exact⟨c0,c1,c2,c3,c4,x0,x1,x2,x3,x4,x5,i0,i1,i2,i3,i4,i5,v0,v1,v2,v3,rfl⟩
def X.zero:X:= .mk 0 0 0 false ⟨#[]⟩ []
def S.zero:S:= .mk 0 0 false ⟨#[]⟩ false X.zero X.zero [] [] [] []
theorem wZ:∀(n:Nat)(cs:List Value)(x:DataW H×List MemPlace),DataW.trod enc Try.prog ww 0 (fun _=>true) true n 102 cs=some x→∃e:S,fV ww (fun _=>True) e cs∧S.Wf e:=by
 intro n
 induction n using Nat.strongRecOn with
 |_ n ih=>
  intro cs x h
  obtain⟨xs,m,hm,_,hl,hn,hf⟩:=DataW.trod_struct Try.underlying102 h
  have h21:Try.prog.cellsOf 102=21:=by kernel_rfl
  rw [h21]at hl
  obtain⟨c0,c1,c2,c3,c4,x0,x1,x2,x3,x4,x5,i0,i1,i2,i3,i4,i5,v0,v1,v2,v3,rfl⟩:=S.RG hl
  have hn':xs.length=10:=hn
  have k0:Try.prog.cellsOf 3=1:=by kernel_rfl
  have k1:Try.prog.cellsOf 33=2:=by kernel_rfl
  have k2:Try.prog.cellsOf 9=1:=by kernel_rfl
  have k3:Try.prog.cellsOf 4=1:=by kernel_rfl
  have k4:Try.prog.cellsOf 62=6:=by kernel_rfl
  have k5:Try.prog.cellsOf 38=1:=by kernel_rfl
  obtain⟨_,h0⟩:=X.dI (show DataW.trod enc Try.prog ww 0 (fun _=>true) true m 3 (List.take (Try.prog.cellsOf 3) (List.drop 0 [c0,c1,c2,c3,c4,x0,x1,x2,x3,x4,x5,i0,i1,i2,i3,i4,i5,v0,v1,v2,v3]))=xs[0]? from hf 0 _ rfl) (by omega)
  obtain⟨_,h1⟩:=X.dI (show DataW.trod enc Try.prog ww 0 (fun _=>true) true m 33 (List.take (Try.prog.cellsOf 33) (List.drop 1 [c0,c1,c2,c3,c4,x0,x1,x2,x3,x4,x5,i0,i1,i2,i3,i4,i5,v0,v1,v2,v3]))=xs[1]? from hf 1 _ rfl) (by omega)
  obtain⟨_,h2⟩:=X.dI (show DataW.trod enc Try.prog ww 0 (fun _=>true) true m 9 (List.take (Try.prog.cellsOf 9) (List.drop 3 [c0,c1,c2,c3,c4,x0,x1,x2,x3,x4,x5,i0,i1,i2,i3,i4,i5,v0,v1,v2,v3]))=xs[2]? from hf 2 _ rfl) (by omega)
  obtain⟨_,h3⟩:=X.dI (show DataW.trod enc Try.prog ww 0 (fun _=>true) true m 4 (List.take (Try.prog.cellsOf 4) (List.drop 4 [c0,c1,c2,c3,c4,x0,x1,x2,x3,x4,x5,i0,i1,i2,i3,i4,i5,v0,v1,v2,v3]))=xs[3]? from hf 3 _ rfl) (by omega)
  obtain⟨_,h4⟩:=X.dI (show DataW.trod enc Try.prog ww 0 (fun _=>true) true m 62 (List.take (Try.prog.cellsOf 62) (List.drop 5 [c0,c1,c2,c3,c4,x0,x1,x2,x3,x4,x5,i0,i1,i2,i3,i4,i5,v0,v1,v2,v3]))=xs[4]? from hf 4 _ rfl) (by omega)
  obtain⟨_,h5⟩:=X.dI (show DataW.trod enc Try.prog ww 0 (fun _=>true) true m 62 (List.take (Try.prog.cellsOf 62) (List.drop 11 [c0,c1,c2,c3,c4,x0,x1,x2,x3,x4,x5,i0,i1,i2,i3,i4,i5,v0,v1,v2,v3]))=xs[5]? from hf 5 _ rfl) (by omega)
  obtain⟨_,h6⟩:=X.dI (show DataW.trod enc Try.prog ww 0 (fun _=>true) true m 38 (List.take (Try.prog.cellsOf 38) (List.drop 17 [c0,c1,c2,c3,c4,x0,x1,x2,x3,x4,x5,i0,i1,i2,i3,i4,i5,v0,v1,v2,v3]))=xs[6]? from hf 6 _ rfl) (by omega)
  obtain⟨_,h7⟩:=X.dI (show DataW.trod enc Try.prog ww 0 (fun _=>true) true m 38 (List.take (Try.prog.cellsOf 38) (List.drop 18 [c0,c1,c2,c3,c4,x0,x1,x2,x3,x4,x5,i0,i1,i2,i3,i4,i5,v0,v1,v2,v3]))=xs[7]? from hf 7 _ rfl) (by omega)
  obtain⟨_,h8⟩:=X.dI (show DataW.trod enc Try.prog ww 0 (fun _=>true) true m 38 (List.take (Try.prog.cellsOf 38) (List.drop 19 [c0,c1,c2,c3,c4,x0,x1,x2,x3,x4,x5,i0,i1,i2,i3,i4,i5,v0,v1,v2,v3]))=xs[8]? from hf 8 _ rfl) (by omega)
  obtain⟨_,h9⟩:=X.dI (show DataW.trod enc Try.prog ww 0 (fun _=>true) true m 38 (List.take (Try.prog.cellsOf 38) (List.drop 20 [c0,c1,c2,c3,c4,x0,x1,x2,x3,x4,x5,i0,i1,i2,i3,i4,i5,v0,v1,v2,v3]))=xs[9]? from hf 9 _ rfl) (by omega)
  rw [k0]at h0;rw [k1]at h1;rw [k2]at h2;rw [k3]at h3;rw [k4]at h4 h5;rw [k5]at h6 h7 h8 h9
  obtain⟨k,e0,_,wk⟩:=DataW.trod_int Try.underlying3 h0
  obtain⟨b,s,e1,e2,wb⟩:=nG h1
  obtain⟨nm,e3,_,ws⟩:=DataW.trod_string Try.underlying9 h2
  obtain⟨hs,e4,_⟩:=DataW.trod_bool Try.underlying4 h3
  simp at e0 e3 e4
  subst e0 e1 e2 e3 e4
  obtain⟨X1,hx1,wx1⟩:=iW _ _ _ h4
  obtain⟨X2,hx2,wx2⟩:=iW _ _ _ h5
  have each:∀m2,m2<m→∀cs y,DataW.trod enc Try.prog ww 0 (fun _=>true) true m2 102 cs=some y→∃a,fV ww (fun _=>True) a cs∧S.Wf a:=fun m2 h cs y hy=>ih m2 (by omega) cs y hy
  obtain⟨l0,hr0,w0⟩:=lY (fV ww (fun _=>True)) S.Wf S.zero Try.underlying38 h21 (by decide) each h6
  obtain⟨l1,hr1,w1⟩:=lY (fV ww (fun _=>True)) S.Wf S.zero Try.underlying38 h21 (by decide) each h7
  obtain⟨l2,hr2,w2⟩:=lY (fV ww (fun _=>True)) S.Wf S.zero Try.underlying38 h21 (by decide) each h8
  obtain⟨l3,hr3,w3⟩:=lY (fV ww (fun _=>True)) S.Wf S.zero Try.underlying38 h21 (by decide) each h9
  exact⟨.mk k b s nm hs X1 X2 l0 l1 l2 l3,fV.mk k b s nm hs X1 X2 l0 l1 l2 l3 [x0,x1,x2,x3,x4,x5] [i0,i1,i2,i3,i4,i5] v0 v1 v2 v3 hx1.xin hx2.xin (.oU hr0) (.oU hr1) (.oU hr2) (.oU hr3),
   .mk _ _ _ _ _ _ _ _ _ _ _ (W.wX wk) (W.wX wb) ws wx1 wx2 w0 w1 w2 w3⟩
theorem yM{m:Nat}{c:Value}{x:DataW H×List MemPlace}(h:DataW.trod enc Try.prog ww 0 (fun _=>true) true m 9 [c]=some x):∃s:ByteArray,c= .string s∧s.size≤maxLen:=by
 obtain⟨s,e,_,w⟩:=DataW.trod_string Try.underlying9 h
 simp at e;exact⟨s,e,w⟩
theorem vO(n:Nat)(cs:List Value)(x:DataW H×List MemPlace)(h:DataW.trod enc Try.prog ww 0 (fun _=>true) true n 68 cs=some x):∃e:Pm,zq e cs∧Pm.Wf e:=by
 obtain⟨xs,m,hm,_,hl,hn,hf⟩:=DataW.trod_struct Try.underlying68 h
 rw [show Try.prog.cellsOf 68=3 by kernel_rfl]at hl
 obtain⟨c0,c1,c2,rfl⟩:∃c0 c1 c2,cs=[c0,c1,c2]:=by
  match cs,hl with
  |[c0,c1,c2],_=>exact⟨c0,c1,c2,rfl⟩
 have hn':xs.length=2:=hn
 obtain⟨_,h0⟩:=X.dI (show DataW.trod enc Try.prog ww 0 (fun _=>true) true m 33 (List.take (Try.prog.cellsOf 33) (List.drop 0 [c0,c1,c2]))=xs[0]? from hf 0 _ rfl) (by omega)
 obtain⟨_,h1⟩:=X.dI (show DataW.trod enc Try.prog ww 0 (fun _=>true) true m 9 (List.take (Try.prog.cellsOf 9) (List.drop 2 [c0,c1,c2]))=xs[1]? from hf 1 _ rfl) (by omega)
 rw [show Try.prog.cellsOf 33=2 by kernel_rfl]at h0
 rw [show Try.prog.cellsOf 9=1 by kernel_rfl]at h1
 obtain⟨b,s,e1,e2,wb⟩:=nG h0
 obtain⟨nm,e3,ws⟩:=yM h1
 subst e1 e2 e3
 exact⟨⟨b,s,nm⟩,rfl,W.wX wb,ws⟩
theorem wY(n:Nat)(cs:List Value)(x:DataW H×List MemPlace)(h:DataW.trod enc Try.prog ww 0 (fun _=>true) true n 40 cs=some x):∃e:Fn,lF ww (fun _=>True) e cs∧Fn.Wf e:=by
 obtain⟨xs,m,hm,_,hl,hn,hf⟩:=DataW.trod_struct Try.underlying40 h
 rw [show Try.prog.cellsOf 40=5 by kernel_rfl]at hl
 obtain⟨c0,c1,c2,c3,c4,rfl⟩:∃c0 c1 c2 c3 c4,cs=[c0,c1,c2,c3,c4]:=by
  match cs,hl with
  |[c0,c1,c2,c3,c4],_=>exact⟨c0,c1,c2,c3,c4,rfl⟩
 have hn':xs.length=4:=hn
 obtain⟨_,h0⟩:=X.dI (show DataW.trod enc Try.prog ww 0 (fun _=>true) true m 9 (List.take (Try.prog.cellsOf 9) (List.drop 0 [c0,c1,c2,c3,c4]))=xs[0]? from hf 0 _ rfl) (by omega)
 obtain⟨_,h1⟩:=X.dI (show DataW.trod enc Try.prog ww 0 (fun _=>true) true m 33 (List.take (Try.prog.cellsOf 33) (List.drop 1 [c0,c1,c2,c3,c4]))=xs[1]? from hf 1 _ rfl) (by omega)
 obtain⟨_,h2⟩:=X.dI (show DataW.trod enc Try.prog ww 0 (fun _=>true) true m 37 (List.take (Try.prog.cellsOf 37) (List.drop 3 [c0,c1,c2,c3,c4]))=xs[2]? from hf 2 _ rfl) (by omega)
 obtain⟨_,h3⟩:=X.dI (show DataW.trod enc Try.prog ww 0 (fun _=>true) true m 38 (List.take (Try.prog.cellsOf 38) (List.drop 4 [c0,c1,c2,c3,c4]))=xs[3]? from hf 3 _ rfl) (by omega)
 rw [show Try.prog.cellsOf 9=1 by kernel_rfl]at h0
 rw [show Try.prog.cellsOf 33=2 by kernel_rfl]at h1
 rw [show Try.prog.cellsOf 37=1 by kernel_rfl]at h2
 rw [show Try.prog.cellsOf 38=1 by kernel_rfl]at h3
 obtain⟨nm,e0,ws⟩:=yM h0
 obtain⟨b,s,e1,e2,wb⟩:=nG h1
 subst e0 e1 e2
 obtain⟨ps,hp,wp⟩:=lY zq Pm.Wf ⟨0,false,⟨#[]⟩⟩ Try.underlying37 (by kernel_rfl) (show 0<3 by decide) (fun m2 _ cs y hy=>vO m2 cs y hy) h2
 obtain⟨bd,hb,wbd⟩:=lY (fV ww (fun _=>True)) S.Wf S.zero Try.underlying38 (by kernel_rfl) (show 0<21 by decide) (fun m2 _ cs y hy=>wZ m2 cs y hy) h3
 exact⟨⟨nm,b,s,ps,bd⟩,⟨c3,c4,rfl,hp, .oU hb⟩,ws,W.wX wb,wp,wbd⟩
theorem tH(n:Nat)(cs:List Value)(x:DataW H×List MemPlace)(h:DataW.trod enc Try.prog ww 0 (fun _=>true) true n 36 cs=some x):∃e:Gl,kX ww (fun _=>True) e cs∧Gl.Wf e:=by
 obtain⟨xs,m,hm,_,hl,hn,hf⟩:=DataW.trod_struct Try.underlying36 h
 rw [show Try.prog.cellsOf 36=5 by kernel_rfl]at hl
 obtain⟨c0,c1,c2,c3,c4,rfl⟩:∃c0 c1 c2 c3 c4,cs=[c0,c1,c2,c3,c4]:=by
  match cs,hl with
  |[c0,c1,c2,c3,c4],_=>exact⟨c0,c1,c2,c3,c4,rfl⟩
 have hn':xs.length=4:=hn
 obtain⟨_,h0⟩:=X.dI (show DataW.trod enc Try.prog ww 0 (fun _=>true) true m 33 (List.take (Try.prog.cellsOf 33) (List.drop 0 [c0,c1,c2,c3,c4]))=xs[0]? from hf 0 _ rfl) (by omega)
 obtain⟨_,h1⟩:=X.dI (show DataW.trod enc Try.prog ww 0 (fun _=>true) true m 9 (List.take (Try.prog.cellsOf 9) (List.drop 2 [c0,c1,c2,c3,c4]))=xs[1]? from hf 1 _ rfl) (by omega)
 obtain⟨_,h2⟩:=X.dI (show DataW.trod enc Try.prog ww 0 (fun _=>true) true m 3 (List.take (Try.prog.cellsOf 3) (List.drop 3 [c0,c1,c2,c3,c4]))=xs[2]? from hf 2 _ rfl) (by omega)
 obtain⟨_,h3⟩:=X.dI (show DataW.trod enc Try.prog ww 0 (fun _=>true) true m 34 (List.take (Try.prog.cellsOf 34) (List.drop 4 [c0,c1,c2,c3,c4]))=xs[3]? from hf 3 _ rfl) (by omega)
 rw [show Try.prog.cellsOf 33=2 by kernel_rfl]at h0
 rw [show Try.prog.cellsOf 9=1 by kernel_rfl]at h1
 rw [show Try.prog.cellsOf 3=1 by kernel_rfl]at h2
 rw [show Try.prog.cellsOf 34=1 by kernel_rfl]at h3
 obtain⟨b,s,e1,e2,wb⟩:=nG h0
 obtain⟨nm,e0,ws⟩:=yM h1
 obtain⟨sz,e3,_,wz⟩:=DataW.trod_int Try.underlying3 h2
 simp at e3
 subst e0 e1 e2 e3
 obtain⟨ks,hk,wk⟩:=lY (dA ww (fun _=>True)) X.Wf X.zero Try.underlying34 (by kernel_rfl) (show 0<6 by decide) (fun m2 _ cs y hy=>by obtain⟨e,h1,h2⟩:=iW m2 cs y hy;exact⟨e,h1.xin,h2⟩) h3
 exact⟨⟨b,s,nm,sz,ks⟩,⟨c4,rfl,hk⟩,W.wX wb,ws,W.wX wz,wk⟩
theorem uO{base:Nat}{v:Value}{d:DataW H}{p:List MemPlace}(hv:Value.okWide Try.prog ww .any base 25 v)
 (h:DataW.Trod enc Try.prog ww 0 (fun _=>true) true 25 v d p):∃(e:Pg)(v0 v1:Value),v= .agg #[v0,v1]∧bM ww (fun _=>True) e v0 v1∧Pg.Wf e:=by
 obtain⟨cs,rfl,hsz⟩:=okWide_struct Try.underlying25 hv
 obtain⟨fuel,hf0⟩:=h
 obtain⟨xs,m,hm,_,hl,hn,hf⟩:=DataW.trod_struct Try.underlying25 hf0
 obtain⟨l⟩:=cs
 rw [show Try.prog.cellsOf 25=2 by kernel_rfl]at hsz
 obtain⟨c0,c1,rfl⟩:∃c0 c1,l=[c0,c1]:=by
  match l,hsz with
  |[c0,c1],_=>exact⟨c0,c1,rfl⟩
 have hn':xs.length=2:=hn
 obtain⟨_,h0⟩:=X.dI (show DataW.trod enc Try.prog ww 0 (fun _=>true) true m 22 (List.take (Try.prog.cellsOf 22) (List.drop 0 [c0,c1]))=xs[0]? from hf 0 _ rfl) (by omega)
 obtain⟨_,h1⟩:=X.dI (show DataW.trod enc Try.prog ww 0 (fun _=>true) true m 23 (List.take (Try.prog.cellsOf 23) (List.drop 1 [c0,c1]))=xs[1]? from hf 1 _ rfl) (by omega)
 rw [show Try.prog.cellsOf 22=1 by kernel_rfl]at h0
 rw [show Try.prog.cellsOf 23=1 by kernel_rfl]at h1
 obtain⟨gs,hg,wg⟩:=lY (kX ww (fun _=>True)) Gl.Wf ⟨0,false,⟨#[]⟩,0,[]⟩ Try.underlying22 (by kernel_rfl) (show 0<5 by decide) (fun m2 _ cs y hy=>tH m2 cs y hy) h0
 obtain⟨fs,hq,wf⟩:=lY (lF ww (fun _=>True)) Fn.Wf ⟨⟨#[]⟩,0,false,[],[]⟩ Try.underlying23 (by kernel_rfl) (show 0<5 by decide) (fun m2 _ cs y hy=>wY m2 cs y hy) h1
 exact⟨⟨gs,fs⟩,c0,c1,rfl,⟨hg,hq⟩,wg,wf⟩
end
end
section
open Go.RowKit
abbrev bT(w:World)(g:Nat)(N:Nat):Prop:=ak w g 55 #[.int .i64 (N:Int)]
def bU(g:Nat)(w:World)(r:Int×Nat)(e:Ending)(w':World):Prop:=e= .returned (.int .i64 r.1)∧aH g w w'∧bT w' g r.2
theorem kN(w:World)(g N:Nat)(d:Int)(hN:N≤20000)(hB:bT w g N):Calls Try.prog 36 #[P g, .int .i64 d] w (bU g w (if 20000≤N∨100<d then 4 else 0,N+1)):=by
 have c0:w.cell? ⟨g,0,none⟩=some (.int .i64 (N:Int)):=hB.cell 0
 have z0:w.frozen? ⟨g,0,none⟩=false:=hB.frozen 0
 have HC:Hid (aH g w (w.setCell ⟨g,0,none⟩ (.int .i64 ((N:Int)+1)))):=(aH.of_below (Below.refl _ _)).setCell 0 _
 have HB:Hid (bT (w.setCell ⟨g,0,none⟩ (.int .i64 ((N:Int)+1))) g (N+1)):=by
  have:=hB.dJ 0 (.int .i64 ((N:Int)+1));have e:((N+1:Nat):Int)=(N:Int)+1:=(by omega);show ak _ g _ #[.int .i64 ((N+1:Nat):Int)];rw [e];simpa using this
 clear hB
 by_cases h1:20000≤N
 ·have d1:decide ((N:Int)+1>20000)=true:=by simp;omega
  rw [if_pos (.inl h1)]
  go_enter Try.func36,Try.ntmps36
  go_wp2
  go_ret
  exact⟨rfl,HC.out,HB.out⟩
 ·have d1:decide ((N:Int)+1>20000)=false:=by simp;omega
  by_cases h2:100<d
  ·have d2:decide (d>100)=true:=by simpa using h2
   rw [if_pos (.inr h2)]
   go_enter Try.func36,Try.ntmps36
   go_wp2
   go_ret
   exact⟨rfl,HC.out,HB.out⟩
  ·have d2:decide (d>100)=false:=by simpa using h2
   rw [if_neg (by omega)]
   go_enter Try.func36,Try.ntmps36
   go_wp2
   go_ret
   exact⟨rfl,HC.out,HB.out⟩
theorem kP{k k':IntKind}{a b c d:Int}(h:a=c)(h':b=d):Ending.returned (.tuple #[.int k a, .int k' b])= .returned (.tuple #[.int k c, .int k' d]):=by rw [h,h']
theorem Gf(k:Int)(w:World):Calls Try.prog 54 #[.int .i64 k] w fun e w'=>e= .returned (.tuple #[.int .i64 (if k<1∨26<k then 0 else X.aX k), .int .i64 (if k<1∨26<k then 1 else 0)])∧w=w':=by
 obtain⟨V,hV⟩:∃V,V=if k<1∨26<k then 0 else X.aX k:=⟨_,rfl⟩
 obtain⟨U,hU⟩:∃U:Int,U=if k<1∨26<k then 1 else 0:=⟨_,rfl⟩
 rw [←hV,←hU]
 unfold X.aX at hV
 have HV:=Lib.hid hV
 have HU:=Lib.hid hU
 clear hV hU
 by_cases h1:k=1
 ·subst h1
  go_enter Try.func54,Try.ntmps54
  go_wp2
  go_ret2
  exact⟨kP (by rw [HV.out];rfl) (by rw [HU.out];rfl),rfl⟩
 have d1:(k==1)=false:=by simpa using h1
 by_cases h2:k=2
 ·subst h2
  go_enter Try.func54,Try.ntmps54
  go_wp2
  go_ret2
  exact⟨kP (by rw [HV.out];rfl) (by rw [HU.out];rfl),rfl⟩
 have d2:(k==2)=false:=by simpa using h2
 by_cases h4:k=4
 ·subst h4
  go_enter Try.func54,Try.ntmps54
  go_wp2
  go_ret2
  exact⟨kP (by rw [HV.out];rfl) (by rw [HU.out];rfl),rfl⟩
 have d4:(k==4)=false:=by simpa using h4
 by_cases h3:k=3
 ·subst h3
  go_enter Try.func54,Try.ntmps54
  go_wp2
  go_ret2
  exact⟨kP (by rw [HV.out];rfl) (by rw [HU.out];rfl),rfl⟩
 have d3:(k==3)=false:=by simpa using h3
 by_cases h5:5≤k
 ·have d5:decide (k≥5)=true:=by simpa using h5
  by_cases h8:k≤8
  ·have d8:decide (k≤8)=true:=by simpa using h8
   have HA:Hid (V=1∧U=0):=⟨by rw [HV.out,if_neg (by omega),if_neg (by omega),if_neg (by omega),if_neg (by omega),if_pos h8],by rw [HU.out,if_neg (by omega)]⟩
   clear h1 h2 h3 h4 h5 h8
   go_enter Try.func54,Try.ntmps54
   go_wp2
   go_ret2
   exact⟨kP HA.out.1.symm HA.out.2.symm,rfl⟩
  ·have d8:decide (k≤8)=false:=by simpa using h8
   have d9:decide (k≥9)=true:=by simp;omega
   by_cases SB:k≤26
   ·have d26:decide (k≤26)=true:=by simpa using SB
    have HA:Hid (V=2∧U=0):=⟨by rw [HV.out,if_neg (by omega),if_neg (by omega),if_neg (by omega),if_neg (by omega),if_neg h8],by rw [HU.out,if_neg (by omega)]⟩
    clear h1 h2 h3 h4 h5 h8 SB
    go_enter Try.func54,Try.ntmps54
    go_wp2
    go_ret2
    exact⟨kP HA.out.1.symm HA.out.2.symm,rfl⟩
   ·have d26:decide (k≤26)=false:=by simpa using SB
    have HA:Hid (V=0∧U=1):=⟨by rw [HV.out,if_pos (by omega)],by rw [HU.out,if_pos (by omega)]⟩
    clear h1 h2 h3 h4 h5 h8 SB
    go_enter Try.func54,Try.ntmps54
    go_wp2
    go_ret2
    exact⟨kP HA.out.1.symm HA.out.2.symm,rfl⟩
 ·have d5:decide (k≥5)=false:=by simpa using h5
  have d9:decide (k≥9)=false:=by simp;omega
  have HA:Hid (V=0∧U=1):=⟨by rw [HV.out,if_pos (by omega)],by rw [HU.out,if_pos (by omega)]⟩
  clear h1 h2 h3 h4 h5
  go_enter Try.func54,Try.ntmps54
  go_wp2
  go_ret2
  exact⟨kP HA.out.1.symm HA.out.2.symm,rfl⟩
structure XQ(w:World)(g:Nat)(k n b:Int)(s:Bool)(nm:ByteArray)(ks:List X)(a:Option Addr)(L c q off:Nat):Prop where
 ne:q≠g
 x:dA w (fun t=>t≠g) (.mk k n b s nm ks) (X.cells k n b s nm (.slice a L c))
 len:ks.length=L
 le:L≤c
 lm:c≤maxLen
 c0:w.cell? ⟨q,off,none⟩=some (.int .i64 k)
 c1:w.cell? ⟨q,off+1,none⟩=some (.int .u64 n)
 c2:w.cell? ⟨q,off+2,none⟩=some (.int .i64 b)
 c3:w.cell? ⟨q,off+3,none⟩=some (.bool s)
 c4:w.cell? ⟨q,off+4,none⟩=some (.string nm)
 c5:w.cell? ⟨q,off+5,none⟩=some (.slice a L c)
def XP(w:World)(g:Nat)(x:X)(q off:Nat):Prop:=q≠g∧∃cs,dA w (fun t=>t≠g) x cs∧∀j u,cs[j]?=some u→w.cell? ⟨q,off+j,none⟩=some u
section
variable{w w':World}{g q off:Nat}
theorem XP.open{k n b:Int}{s:Bool}{nm:ByteArray}{ks:List X}(h:XP w g (.mk k n b s nm ks) q off):∃a c,XQ w g k n b s nm ks a ks.length c q off:=by
 obtain⟨hne,cs,hx,hc⟩:=h
 obtain⟨a,c,e,h1,h2,_⟩:=hx.at.open
 subst e
 exact⟨a,c,hne,hx,rfl,h1,h2,hc 0 _ rfl,hc 1 _ rfl,hc 2 _ rfl,hc 3 _ rfl,hc 4 _ rfl,hc 5 _ rfl⟩
theorem XQ.bC{k n b:Int}{s:Bool}{nm:ByteArray}{ks:List X}{a:Option Addr}{L c:Nat}(h:XQ w g k n b s nm ks a L c q off)(hc:aH g w w'):XQ w' g k n b s nm ks a L c q off:=by
 obtain⟨hne,hx,h1,h2,h3,c0,c1,c2,c3,c4,c5⟩:=h
 exact⟨hne,hx.move (fun t ht hlt=>⟨ht,hc.block t hlt (fun e=>by injection e with e;exact ht e)⟩),h1,h2,h3,hc.cell hne c0,hc.cell hne c1,hc.cell hne c2,hc.cell hne c3,hc.cell hne c4,hc.cell hne c5⟩
theorem XQ.kid{k n b:Int}{s:Bool}{nm:ByteArray}{ks:List X}{a:Option Addr}{L c:Nat}(h:XQ w g k n b s nm ks a L c q off){i:Nat}{y:X}(hy:ks[i]?=some y):∃gk ok,a=some ⟨gk,ok,none⟩∧XP w g y gk (ok+i*6):=by
 have hx:=h.x
 obtain⟨a2,c2,cs,e,hk,ha⟩:∃(a2:Option Addr)(c2:Nat)(cs:Nat→List Value),X.cells k n b s nm (.slice a L c)=X.cells k n b s nm (.slice a2 ks.length c2)∧(∀i x,ks[i]?=some x→dA w (fun t=>t≠g) x (cs i))∧
  (0<ks.length→∃b off,b≠g∧a2=some ⟨b,off,none⟩∧∀i j u,i<ks.length→(cs i)[j]?=some u→w.cell? ⟨b,off+i*6+j,none⟩=some u):=by
  generalize hcs:X.cells k n b s nm (.slice a L c)=cc at hx
  cases hx with|mk k n b s nm ks a2 c2 cs hc hm hk ha=>exact⟨a2,c2,cs,rfl,hk,ha⟩
 have e2:a=a2:=by
  have:=congrArg (fun l=>l[5]?) e
  simp at this;exact this.1
 have hi:i<ks.length:=(List.getElem?_eq_some_iff.1 hy).1
 obtain⟨gk,ok,hne,ea,hc⟩:=ha (by omega)
 exact⟨gk,ok,e2.trans ea,hne,cs i,hk i y hy,fun j u hu=>hc i j u hi hu⟩
theorem XP.bC{x:X}(h:XP w g x q off)(hc:aH g w w'):XP w' g x q off:=by
 obtain⟨hne,cs,hx,h⟩:=h
 exact⟨hne,cs,hx.move (fun t ht hlt=>⟨ht,hc.block t hlt (fun e=>by injection e with e;exact ht e)⟩),fun j u hu=>hc.cell hne (h j u hu)⟩
end
theorem aH.LD{g:Nat}{w wi:World}(h:aH g w wi){p:Addr}(hp:w.heap.size≤p.block)(u:Value):aH g w (wi.setCell p u):=
 ⟨h.os,h.tape,h.output,by simpa using h.size,fun k hk hr=>(Below.heap_setCell wi p u k (by omega)).trans (h.block k hk hr)⟩
theorem TJ{Q:Nat→Prop}{v:Value}{t:Nat}(e:v= .pointer (some ⟨t,0,none⟩))(h:Q t):∀g,v=Value.pointer (some ⟨g,0,none⟩)→Q g:=fun g e2=>by
 rw [e]at e2;injection e2 with e2;injection e2 with e2;injection e2 with e2;subst e2;exact h
theorem qo{wi:World}{t:Nat}{a0:Int}{a1:Bool}(h:ak wi t 33 #[.int .i64 a0, .bool a1])(b:Int)(s:Bool):ak ((wi.setCell ⟨t,0,none⟩ (.int .i64 b)).setCell ⟨t,1,none⟩ (.bool s)) t 33 #[.int .i64 b, .bool s]:=by
 have:=(h.dJ 0 (.int .i64 b)).dJ 1 (.bool s)
 simpa using this
theorem yZ{wi:World}{t m:Nat}{a0:Int}{a1:Bool}(h:ak wi t 33 #[.int .i64 a0, .bool a1])(b:Int)(s:Bool){v:Value}(k:∃q,v=Value.pointer (some ⟨q,0,none⟩)∧m≤q∧∃(b0:Int)(b1:Bool),ak wi q 33 #[.int .i64 b0, .bool b1]):
 ∃q,v=Value.pointer (some ⟨q,0,none⟩)∧m≤q∧∃(b0:Int)(b1:Bool),ak ((wi.setCell ⟨t,0,none⟩ (.int .i64 b)).setCell ⟨t,1,none⟩ (.bool s)) q 33 #[.int .i64 b0, .bool b1]:=by
 obtain⟨q,e,hq,b0,b1,hb⟩:=k
 by_cases hqt:q=t
 ·subst hqt;exact⟨q,e,hq,b,s,qo h b s⟩
 ·exact⟨q,e,hq,b0,b1,(hb.far (by exact hqt) _).far (by exact hqt) _⟩
theorem qI(b:Int)(s:Bool)(w:World):Calls Try.prog 38 #[W.ty b s] w fun e w'=>e= .returned (.bool (W.okB b))∧Below w.heap.size w w':=by
 by_cases h:W.ok b
 ·rw [W.xP h];exact vX b s h w
 ·rw [W.Gp h];exact BQ b s h w
end
end Go.Proofs.Ythdckndjggljpaa
