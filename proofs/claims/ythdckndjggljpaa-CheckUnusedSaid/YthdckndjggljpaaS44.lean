/- Proofs of this claim, part 44. No condition. -/
import Derived.Test.YthdckndjggljpaaS43
namespace Go.Proofs.Ythdckndjggljpaa
set_option linter.unusedVariables false
set_option linter.unusedSimpArgs false
set_option maxRecDepth 100000
set_option maxHeartbeats 64000000
section
open Go.RowKit Go.Maps
theorem KH(B g tb fq fo gb fb:Nat)(P0:Pg)(v0 v1:Value)(rb:Int)(y:S):S.Wf y→Df B g tb fq fo gb fb P0 v0 v1 rb y:=by
 induction y using S.up with
 |_ y ih=>
  intro hW w q off e N d hA hx hc
  cases hW with|mk k b s nm has x i l0 l1 l2 l3 hk hb hs hwx hwi h0 h1 h2 h3=>
  obtain⟨N1,N2,N3,N4,N5,hcn⟩:=S.iJ hc
  have i0:∀y∈l0,Df B g tb fq fo gb fb P0 v0 v1 rb y:=fun y hy=>ih y (.inl hy) (h0 y hy)
  have i1:∀y∈l1,Df B g tb fq fo gb fb P0 v0 v1 rb y:=fun y hy=>ih y (.inr (.inl hy)) (h1 y hy)
  have i2:∀y∈l2,Df B g tb fq fo gb fb P0 v0 v1 rb y:=fun y hy=>ih y (.inr (.inr (.inl hy))) (h2 y hy)
  have i3:∀y∈l3,Df B g tb fq fo gb fb P0 v0 v1 rb y:=fun y hy=>ih y (.inr (.inr (.inr hy))) (h3 y hy)
  have hkr:1≤k∧k≤11:=by
   have h0:=hcn.ow
   unfold S.own at h0
   split at h0
   ·exact absurd h0 (by decide)
   ·omega
  rcases(show k=1∨k=2∨k=3∨k=4∨k=5∨k=6∨k=7∨k=8∨k=9∨k=10∨k=11 by omega)with rfl|rfl|rfl|rfl|rfl|rfl|rfl|rfl|rfl|rfl|rfl
  ·exact UM w B g tb fq fo gb fb q off P0 v0 v1 rb b s nm has x i l0 l1 l2 l3 hs e N d hA hx
  ·exact UG w B g tb fq fo gb fb q off P0 v0 v1 rb b s nm has x i l0 l1 l2 l3 hs (fun _=>hwx) e N d hA hx N1 N2 N3 N4 N5 hcn
  ·exact UO w B g tb fq fo gb fb q off P0 v0 v1 rb b s nm has x i l0 l1 l2 l3 hs (fun hh=>⟨hcn.Wy rfl hh,hwi⟩) ⟨hcn.sH rfl,hwx⟩ e N d hA hx
  ·exact UR w B g tb fq fo gb fb q off P0 v0 v1 rb b s nm has x i l0 l1 l2 l3 hs ⟨hcn.sH rfl,hwx⟩ e N d hA hx
  ·exact UU w B g tb fq fo gb fb q off P0 v0 v1 rb b s nm has x i l0 l1 l2 l3 hs hwx i2 i3 e N d hA hx N1 N2 N3 N4 N5 hcn
  ·exact UW w B g tb fq fo gb fb q off P0 v0 v1 rb b s nm has x i l0 l1 l2 l3 hs hwx i2 e N d hA hx N1 N2 N3 N4 N5 hcn
  ·exact UY w B g tb fq fo gb fb q off P0 v0 v1 rb b s nm has x i l0 l1 l2 l3 hs (fun _=>hwx) i0 i1 i2 e N d hA hx N1 N2 N3 N4 N5 hcn
  ·exact TN w B g tb fq fo gb fb q off P0 v0 v1 rb b s nm has x i l0 l1 l2 l3 hs (fun hh=>⟨hcn.sH (by unfold S.looks;rw [hh];rfl),hwx⟩) e N d hA hx
  ·exact UZ w B g tb fq fo gb fb q off P0 v0 v1 rb b s nm has x i l0 l1 l2 l3 hs e N d hA hx
  ·exact Qn w B g tb fq fo gb fb q off P0 v0 v1 rb b s nm has x i l0 l1 l2 l3 hs e N d hA hx
  ·exact QX w B g tb fq fo gb fb q off P0 v0 v1 rb b s nm has x i l0 l1 l2 l3 hs i2 e N d hA hx N1 N2 N3 N4 N5 hcn
end
section
open Go.RowKit
namespace Ck
def Fine(r:Int×Env):Prop:=∀t∈r.2.slots,W.ok t.1
theorem rV{b:Int}{nm:List UInt8}(h:tyName b nm=0):W.ok b:=by
 unfold tyName at h
 split at h
 ·exact absurd h (by decide)
 ·rename_i h1;exact W.yV h1
theorem qG{e e':Env}{b:Int}{s:Bool}{n:Nm}(h:e.declare b s n=some e')(hb:W.ok b)(he:∀t∈e.slots,W.ok t.1):∀t∈e'.slots,W.ok t.1:=by
 unfold Env.declare at h
 split at h
 ·cases h
 ·injection h with h
  subst h
  intro t ht
  rcases List.mem_append.1 ht with ht|ht
  ·exact he t ht
  ·rw [List.mem_singleton]at ht;subst ht;exact hb
theorem jq{r:Int×Env}{f:Env→Int×Env}(hr:Fine r)(hf:Fine (f r.2)):Fine (on r f):=by
 unfold on;split
 ·exact hf
 ·exact hr
theorem gG{P:Pg}{rb:Int}{l:List S}(ih:∀y∈l,∀e N d,(S.cnt y N d).1=0→(∀t∈e.slots,W.ok t.1)→Fine (stat P rb y e)):∀e N d,(S.cnts l N d).1=0→(∀t∈e.slots,W.ok t.1)→Fine (stats P rb l e):=by
 induction l with
 |nil=>intro e N d _ h;rw [stats];exact h
 |cons y l ih2=>
  intro e N d h0 h
  rw [S.cnts]at h0
  split at h0
  ·rename_i hc
   rw [stats]
   have hy:=ih y (List.mem_cons_self ..) e N d hc h
   exact jq hy (ih2 (fun z hz=>ih z (List.mem_cons_of_mem _ hz)) _ _ _ h0 hy)
  ·rename_i hc;exact absurd h0 hc
theorem Iz(P:Pg)(rb:Int)(x:S):∀e N d,(S.cnt x N d).1=0→(∀t∈e.slots,W.ok t.1)→Fine (stat P rb x e):=by
 induction x using S.up with
 |_ x ih=>
  intro e N d h0 h
  obtain⟨k,b,s,nm,has,x,i,l0,l1,l2,l3⟩:=x
  have i0:=gG (P:=P) (rb:=rb) (l:=l0) fun y hy e=>ih y (.inl hy) e
  have i1:=gG (P:=P) (rb:=rb) (l:=l1) fun y hy e=>ih y (.inr (.inl hy)) e
  have i2:=gG (P:=P) (rb:=rb) (l:=l2) fun y hy e=>ih y (.inr (.inr (.inl hy))) e
  have i3:=gG (P:=P) (rb:=rb) (l:=l3) fun y hy e=>ih y (.inr (.inr (.inr hy))) e
  obtain⟨N1,N2,N3,N4,N5,hc⟩:=S.iJ h0
  have em:∀{x:X}{a:Env},(∀t∈a.slots,W.ok t.1)→Fine (may P has x a):=fun{x a}h=>by unfold Fine;rw [dh];exact h
  rw [stat]
  split
  ·rename_i hk
   refine jq (em h) ?_
   rw [dh]
   have hb:W.ok b:=by
    have:=hc.ow
    unfold S.own at this
    rw [if_neg (by omega),if_pos hk]at this
    exact rV this
   cases hd:e.declare b s nm.data.toList with
   |none=>exact h
   |some e'=>exact qG hd hb h
  split
  ·refine jq (em h) ?_
   rw [dh]
   split
   ·exact h
   ·split
    ·exact h
    ·exact h
  split
  ·exact h
  split
  ·split
   ·exact h
   ·exact em h
  split
  ·exact h
  split
  ·rename_i hk
   have c2:=hc.pR (.inl hk)
   have h2:Fine (shut (stats P rb l2 e.open)):=i2 e.open N4 (d+1) (by rw [c2]) h
   exact jq h (jq h2 (i3 _ N5 (d+1) (hc.c6 hk) h2))
  split
  ·rename_i hk
   have c2:=hc.pR (.inr (.inl hk))
   exact jq h (i2 (more e).open N4 (d+1) (by rw [c2]) h)
  split
  ·rename_i hk
   have c0:=hc.yH hk
   have c1:=hc.yI hk
   have c2:=hc.pR (.inr (.inr (.inl hk)))
   have h1:Fine (shut (stats P rb l0 e.open)):=i0 e.open N1 (d+1) (by rw [c0]) h
   refine jq h1 (jq (em h1) ?_)
   rw [dh]
   have h2:Fine (shut (stats P rb l1 (Env.open (shut (stats P rb l0 e.open)).2))):=i1 _ N3 (d+1) (by rw [c1]) h1
   exact jq h2 (i2 _ N4 (d+1) (by rw [c2]) h2)
  split
  ·rename_i hk
   have c2:=hc.pR (.inr (.inr (.inr hk)))
   exact i2 e.open N4 (d+1) (by rw [c2]) h
  ·exact h
theorem Ep(P:Pg)(rb:Int)(l:List S):∀e N d,(S.cnts l N d).1=0→(∀t∈e.slots,W.ok t.1)→Fine (stats P rb l e):=gG fun y _=>Iz P rb y
theorem ET(ps:List Pm)(p:Pm):∀e,enter (ps++[p]) e=(enter ps e).bind fun e=>e.declare p.b p.s p.nm.data.toList:=by
 induction ps with
 |nil=>
  intro e
  have h1:enter [] e=some e:=by rw [enter]
  rw [List.nil_append,h1,enter]
  show _=e.declare p.b p.s p.nm.data.toList
  cases e.declare p.b p.s p.nm.data.toList with
  |none=>rfl
  |some e'=>show enter [] e'=_;rw [enter]
 |cons x ps ih=>
  intro e
  rw [List.cons_append,enter,enter]
  cases e.declare x.b x.s x.nm.data.toList with
  |none=>rfl
  |some e'=>exact ih e'
theorem EU(ps qs:List Pm):∀e,enter ps e=none→enter (ps++qs) e=none:=by
 induction ps with
 |nil=>intro e h;rw [enter]at h;cases h
 |cons x ps ih=>
  intro e h
  rw [enter]at h
  rw [List.cons_append,enter]
  cases hd:e.declare x.b x.s x.nm.data.toList with
  |none=>rfl
  |some e'=>rw [hd]at h;exact ih e' h
theorem uJ(ps:List Pm):∀e e',enter ps e=some e'→(∀p∈ps,W.ok p.b)→(∀t∈e.slots,W.ok t.1)→1≤e.lv.length→Kept e e'∧e'.slots.length=e.slots.length+ps.length∧∀t∈e'.slots,W.ok t.1:=by
 induction ps with
 |nil=>intro e e' h _ he _;rw [enter]at h;injection h with h;subst h;exact⟨Kept.refl _,by simp,he⟩
 |cons x ps ih=>
  intro e e' h hp he h1
  rw [enter]at h
  cases hd:e.declare x.b x.s x.nm.data.toList with
  |none=>rw [hd]at h;cases h
  |some e1=>
   rw [hd]at h
   obtain⟨k1,k2⟩:=jy hd h1
   obtain⟨j1,j2,j3⟩:=ih e1 e' h (fun p hp'=>hp p (List.mem_cons_of_mem _ hp')) (qG hd (hp x (List.mem_cons_self ..)) he) (by rw [k1.1];exact h1)
   exact⟨k1.trans j1,by rw [j2,k2,List.length_cons];omega,j3⟩
end Ck
end
section
open Go.RowKit Go.Maps
theorem Ck.EO{l:List (Int×Bool)}{j:Nat}{t:Int×Bool}(h:l[j]?=some t):Ck.words (l.take (j+1))=Ck.words (l.take j)+Ck.FM t.1:=by
 obtain⟨hl,h⟩:=List.getElem?_eq_some_iff.1 h
 unfold Ck.words
 rw [List.take_succ_eq_append_getElem hl,List.map_append,h,List.sum_append];simp
theorem Ck.Eh{b:Int}(h:W.ok b):0≤Ck.FM b∧Ck.FM b≤4:=by rcases h with rfl|rfl|rfl|rfl<;>decide
theorem Ck.LM(l:List (Int×Bool))(h:∀t∈l,W.ok t.1):0≤Ck.words l∧Ck.words l≤4*l.length:=by
 induction l with
 |nil=>exact⟨by decide,by decide⟩
 |cons t l ih=>
  obtain⟨h1,h2⟩:=ih (fun u hu=>h u (List.mem_cons_of_mem _ hu))
  obtain⟨k1,k2⟩:=Ck.Eh (h t (List.mem_cons_self ..))
  have e:Ck.words (t::l)=Ck.FM t.1+Ck.words l:=by unfold Ck.words;simp
  rw [e,List.length_cons]
  omega
theorem Bh(w:World)(B:Nat)(a:Option Addr)(c:Nat)(l:List (Int×Bool))(hl:l.length≤100000)(hok:∀t∈l,W.ok t.1)(hr:w.ownsRow B 33 2 (.slice a l.length c) l.length (Ck.slc l)):
 Calls Try.prog 32 #[.slice a l.length c] w fun e w'=>e= .returned (.int .i64 (Ck.words l))∧Below w.heap.size w w':=by
 obtain⟨n,hn⟩:∃n,n=l.length:=⟨_,rfl⟩
 have HRW:Hid (∀w1,Below w.heap.size w w1→w1.ownsRow B 33 2 (.slice a n c) n (Ck.slc l)):=fun w1 hb=>by rw [hn];exact aU hr fun k hk=>hb.block k (aK hr k hk).2
 have hnc:(n:Int)≤(c:Int):=by obtain⟨_,_,e2,h2,h3⟩:=bG hr;injection e2 with _ _ e2;omega
 rw [←hn]at hl⊢
 have HN:=Lib.hid hn
 have MI:=Lib.hid hok
 clear hr hn hok
 go_enter Try.func32,Try.ntmps32
 go_wp2
 go_loopw [3,8](fun v i wr=>∃j:Nat,j≤n∧i= .int .i64 (j:Int)∧v= .int .i64 (Ck.words (l.take j))∧Hid (Below w.heap.size w wr))(fun v i wr=>n-(intOf i).toNat)
 case atStart=>exact⟨0,Nat.zero_le _,rfl,rfl,Below.refl _ _⟩
 case round=>
  obtain⟨j,hj,rfl,rfl,HB⟩:=hrel
  by_cases hlt:j<n
  ·have hjl:j<l.length:=by rw [←HN.out];exact hlt
   obtain⟨gv,rfl⟩:∃gv,a=some ⟨gv,0,none⟩:=by
    rcases(HRW.out wr HB.out).2 with⟨_,h0⟩|⟨g',cap,cur,ev,_⟩
    ·omega
    ·injection ev with ev;exact⟨_,ev⟩
   obtain⟨t,ht⟩:∃t,l[j]?=some t:=⟨_,List.getElem?_eq_getElem hjl⟩
   have hto:=MI.out t (List.mem_of_getElem? ht)
   obtain⟨r0,r1⟩:=zA (HRW.out wr HB.out) ht
   have hgl:=World.block_lt_of_cell? _ _ r0
   have hws:=Ck.EO ht
   obtain⟨k1,k2⟩:=Ck.Eh hto
   obtain⟨m1,m2⟩:=Ck.LM (l.take j) (fun u hu=>MI.out u (List.mem_of_mem_take hu))
   have m3:(l.take j).length≤100000:=by rw [List.length_take];omega
   obtain⟨tb,ts⟩:=t
   have SI:Hid (∀w1:World,Calls Try.prog 28 #[W.ty tb ts] w1 fun e w'=>e= .returned (.int .i64 (Ck.FM tb))∧Below w1.heap.size w1 w'):=fun w1=>xW tb ts hto w1
   obtain⟨S0,hS0⟩:∃S0,S0=Ck.words (l.take j):=⟨_,rfl⟩
   obtain⟨D0,hD0⟩:∃D0,D0=Ck.FM tb:=⟨_,rfl⟩
   have k1:0≤D0:=by rw [hD0];exact k1
   have k2:D0≤4:=by rw [hD0];exact k2
   have HWS:Hid (Ck.words (l.take (j+1))=S0+D0):=by show _=_;rw [hws,hS0,hD0]
   rw [←hS0]at m1 m2⊢
   rw [←hD0]at SI
   have m4:S0≤400000:=by omega
   clear ht hto hws m2 m3 hS0 hD0
   go_wp2_with(first|(go_at_call 28;refine(SI.out _).mono ?_;rintro e5 w5⟨rfl,hb5⟩;have bD:=Lib.hid hb5;clear hb5))
   go_roundw
   case rel=>exact⟨j+1,by omega,by go_num,by rw [HWS.out],Ext.trans (Ext.alloc HB.out _) bD.out⟩
   case measure=>simp [intOf];omega
  ·obtain rfl:j=n:=by omega
   have HE:Hid (l.take j=l):=by show _=_;rw [HN.out,List.take_length]
   go_wp2
   go_ret
   exact⟨W.Vh (by rw [HE.out];rfl),HB.out⟩
def EnR(tb fq fo:Nat)(w:World)(r:Option Ck.Env)(e:Ending)(w':World):Prop:=Below w.heap.size w w'∧match r with
 |none=>e= .returned (.tuple #[.pointer none, .bool false])
 |some e1=>∃g,e= .returned (.tuple #[P g, .bool true])∧kF w' w.heap.size g tb fq fo e1
theorem kF.start(w w2:World)(tb fq fo:Nat)(h:(w.alloc (.map #[] 0)).alloc (.cells #[P tb, .slice none 0 0, .map (some w.heap.size), .slice none 0 0, .int .i64 0, .pointer (some ⟨fq,fo,none⟩)] 87)=w2):
 kF w2 w.heap.size (w.heap.size+1) tb fq fo ⟨[],[],[],0⟩∧Below w.heap.size w w2:=by
 subst h
 refine⟨⟨none,0,w.heap.size,none,0,[],?_,Nat.le_succ _,World.ownsRow_nil _ _ _ _,World.ownsRow_nil _ _ _ _,?_,rfl,Nat.le_refl _,fun i b hb=>by simp at hb,by simp⟩,Ext.alloc (Ext.alloc (Below.refl _ _) _) _⟩
 ·exact ak.newAt _ _ (by simp)
 ·exact((SMap.made w).keep (Ext.alloc (Below.refl _ _) _)).congr fun l=>by unfold Ck.OJ;rfl
theorem MK(w:World)(tb fq fo:Nat)(ps:List Pm)(pa:Option Addr)(pc:Nat)(hwf:∀p∈ps,Pm.Wf p)(h8:ps.length≤8)(h3:w.cell? ⟨fq,fo+3,none⟩=some (.slice pa ps.length pc))(hpc:ps.length≤pc)
 (hrow:∀j p,ps[j]?=some p→∃pg po,pa=some ⟨pg,po,none⟩∧w.cell? ⟨pg,po+j*3,none⟩=some (.int .i64 p.b)∧w.cell? ⟨pg,po+j*3+1,none⟩=some (.bool p.s)∧w.cell? ⟨pg,po+j*3+2,none⟩=some (.string p.nm)):
 Calls Try.prog 30 #[P tb, .pointer (some ⟨fq,fo,none⟩)] w (EnR tb fq fo w (Ck.enter ps Ck.Env.new)):=by
 obtain⟨n,hn⟩:∃n,n=ps.length:=⟨_,rfl⟩
 obtain⟨R,hR⟩:∃R,R=Ck.enter ps Ck.Env.new:=⟨_,rfl⟩
 rw [←hR]
 rw [←hn]at h3 h8 hpc
 have hfl:=World.block_lt_of_cell? _ _ h3
 have HN:=Lib.hid hn
 have HR:=Lib.hid hR
 have Et:=Lib.hid hrow
 have Gh:=Lib.hid hwf
 have H3:=Lib.hid h3
 clear hn hR hrow hwf h3
 have hmm:=run_makeMap (P:=Try.prog)
 go_enter Try.func30,Try.ntmps30
 go_upto_region 2 with(fail)
 generalize hw2:World.alloc _ _=w2
 have HS2:=Lib.hid (kF.start w w2 tb fq fo hw2)
 clear hw2
 have HOP:=Lib.hid (FT w2 w.heap.size (w.heap.size+1) tb fq fo ⟨[],[],[],0⟩ HS2.out.2.size HS2.out.1 (by decide))
 go_upto_region 3 with(first|(go_at_call 48;refine HOP.out.mono ?_;rintro e3 w3⟨rfl,hb3,hs3⟩;have HB3:=Lib.hid hb3;have Zk:=Lib.hid hs3;clear hb3 hs3))
 have Vs:Hid (Below w.heap.size w w3):=HS2.out.2.trans HB3.out.1
 have c3:w3.cell? ⟨fq,fo+3,none⟩=some (.slice pa n pc):=by rw [Below.cell (p:=⟨fq,fo+3,none⟩) Vs.out hfl];exact H3.out
 have hf3:fq<w3.heap.size:=Nat.lt_of_lt_of_le hfl Vs.out.size
 go_wp2
 go_loopw [23](fun i wr=>∃(j:Nat)(ej:Ck.Env),j≤n∧i= .int .i64 (j:Int)∧Hid (Below w.heap.size w wr)∧Hid (kF wr w.heap.size (w.heap.size+1) tb fq fo ej)∧Hid (Ck.enter (ps.take j) Ck.Env.new=some ej)∧Hid (ej.lv.length=1∧ej.slots.length=j))(fun i wr=>n-(intOf i).toNat)
 case atStart=>exact⟨0,Ck.Env.new,Nat.zero_le _,rfl,Vs.out,Zk.out,by show _=_;rw [List.take_zero,Ck.enter],rfl,rfl⟩
 case round=>
  obtain⟨j,ej,hj,rfl,HB,HS,HE,HK⟩:=hrel
  by_cases hlt:j<n
  ·have hjl:j<ps.length:=by rw [←HN.out];exact hlt
   obtain⟨p,hp⟩:∃p,ps[j]?=some p:=⟨_,List.getElem?_eq_getElem hjl⟩
   obtain⟨pg,po,rfl,k0,k1,k2⟩:=Et.out j p hp
   have kl:=World.block_lt_of_cell? _ _ k0
   have hpw:=Gh.out p (List.mem_of_getElem? hp)
   have d0:wr.cell? ⟨pg,po+j*3,none⟩=some (.int .i64 p.b):=by rw [Below.cell (p:=⟨pg,po+j*3,none⟩) HB.out kl];exact k0
   have d1:wr.cell? ⟨pg,po+j*3+1,none⟩=some (.bool p.s):=by rw [Below.cell (p:=⟨pg,po+j*3+1,none⟩) HB.out kl];exact k1
   have d2:wr.cell? ⟨pg,po+j*3+2,none⟩=some (.string p.nm):=by rw [Below.cell (p:=⟨pg,po+j*3+2,none⟩) HB.out kl];exact k2
   have dl:pg<wr.heap.size:=Nat.lt_of_lt_of_le kl HB.out.size
   obtain⟨D,hD⟩:∃D,D=ej.declare p.b p.s p.nm.data.toList:=⟨_,rfl⟩
   have X4:Hid (∀w1:World,Below wr.heap.size wr w1→Calls Try.prog 49 #[P (w.heap.size+1),W.ty p.b p.s, .string p.nm] w1 (X5 w.heap.size (w.heap.size+1) tb fq fo w1 D ej)):=fun w1 hb=>by
    rw [hD];exact vV w1 w.heap.size (w.heap.size+1) tb fq fo ej p.b p.s p.nm hpw.nm (Nat.le_trans HB.out.size hb.size) (HS.out.keep hb) (by have:=HK.out.1;omega) (by have:=HK.out.1;omega) (by have:=HK.out.2;omega)
   have kZ:Hid (Ck.enter (ps.take (j+1)) Ck.Env.new=D):=by
    show _=_
    obtain⟨abg,hpe⟩:=List.getElem?_eq_some_iff.1 hp
    rw [List.take_succ_eq_append_getElem abg,hpe,Ck.ET,HE.out,hD];rfl
   have Zf:=Lib.hid hjl
   clear hp hpw k0 k1 k2 hjl
   cases D with
   |none=>
    have OZ:Hid (R=none):=by
     show R=none
     rw [HR.out]
     have h0:=Ck.EU (ps.take (j+1)) (ps.drop (j+1)) _ kZ.out
     rwa [List.take_append_drop]at h0
    clear hD
    go_wp2_with(first|(go_at_call 49;refine(X4.out _ (Ext.alloc (Below.refl _ _) _)).mono ?_;rintro e5 w5⟨v5,rfl,⟨b5,s5,l5,n5,z5,rfl⟩,hb5,hs5⟩;have bD:=Lib.hid hb5;have Dq:=Lib.hid hs5;simp only [Option.isSome_none];clear hb5 hs5))
    go_ret2
    exact⟨Ext.alloc ((Ext.alloc HB.out _).trans bD.out.1) _,by rw [OZ.out];rfl⟩
   |some ej2=>
    have HK2:Hid (ej2.lv.length=1∧ej2.slots.length=j+1):=by
     obtain⟨k1,k2⟩:=Ck.jy hD.symm (by have:=HK.out.1;omega)
     exact⟨by rw [k1.1];exact HK.out.1,by rw [k2,HK.out.2]⟩
    clear hD
    go_wp2_with(first|(go_at_call 49;refine(X4.out _ (Ext.alloc (Below.refl _ _) _)).mono ?_;rintro e5 w5⟨v5,rfl,⟨b5,s5,l5,n5,z5,rfl⟩,hb5,hs5⟩;have bD:=Lib.hid hb5;have Dq:=Lib.hid hs5;simp only [Option.isSome_some];clear hb5 hs5))
    go_roundw
    case rel=>exact⟨j+1,ej2,by omega,by go_num,Ext.alloc ((Ext.alloc HB.out _).trans bD.out.1) _,Dq.out.keep (Ext.alloc (Below.refl _ _) _),kZ.out,HK2.out⟩
    case measure=>simp [intOf];omega
  ·obtain rfl:j=n:=by omega
   have HRS:Hid (R=some ej):=by
    show R=_
    have h0:=HE.out
    rw [HN.out,List.take_length]at h0
    rw [HR.out,h0]
   go_wp2
   go_ret2
   exact⟨HB.out,by rw [HRS.out];exact⟨_,rfl,HS.out⟩⟩
end
section
open Go.RowKit Go.Maps
namespace Ck
section
variable{α:Type}{nm:α→Nm}
theorem Ag(l:List α)(x:α)(n:Nm):idx nm (l++[x]) n=(idx nm l n).or (if nm x=n then some l.length else none):=by
 unfold idx
 rw [List.findIdx?_append]
 congr 1
 rw [List.findIdx?_cons]
 by_cases h:nm x=n
 ·rw [if_pos h,show(nm x==n)=true by simpa using h];simp
 ·rw [if_neg h,show(nm x==n)=false by simpa using h];simp
theorem qF(l:List α)(n:Nm):(idx nm l n).isSome=(l.map nm).contains n:=by
 induction l with
 |nil=>rfl
 |cons x l ih=>
  unfold idx at*
  rw [List.findIdx?_cons,List.map_cons,List.contains_cons]
  by_cases h:nm x=n
  ·rw [show(nm x==n)=true by simpa using h,show(n==nm x)=true by simpa using h.symm];rfl
  ·rw [show(nm x==n)=false by simpa using h,show(n==nm x)=false by simpa using fun e=>h e.symm,Bool.false_or,←ih]
   simp
end
theorem NM(n:Nm):(bi n).2.2=[put,get].contains n:=by
 unfold bi
 by_cases h1:n=put
 ·rw [if_pos h1];subst h1;rfl
 ·rw [if_neg h1]
  by_cases h2:n=get
  ·rw [if_pos h2];subst h2;rfl
  ·rw [if_neg h2];simp [h1,h2]
theorem Og(gs:List Gl)(fs:List Fn)(n:Nm):((idx (fun g:Gl=>g.nm.data.toList) gs n).isSome||(idx (fun f:Fn=>f.nm.data.toList) fs n).isSome||(bi n).2.2)=([put,get]++gs.map (fun g=>g.nm.data.toList)++fs.map (fun f=>f.nm.data.toList)).contains n:=by
 rw [qF,qF,NM]
 simp only [List.contains_append]
 cases [put,get].contains n<;>cases(gs.map fun g:Gl=>g.nm.data.toList).contains n<;>cases(fs.map fun f:Fn=>f.nm.data.toList).contains n<;>rfl
end Ck
theorem Bf(w:World)(bt tb gb fb:Nat)(v0 v1:Value)(gs:List Gl)(fs:List Fn)(m n:Nat)(nm:ByteArray)(hs:nm.size≤maxLen)(ht:ak w bt 49 #[P tb])(hb:ak w tb 71 #[v0,v1, .map (some gb), .map (some fb)])
 (hg:SMap FN (fun i:Nat=> .lit (.int .i64 (i:Int))) w gb m (Ck.idx (fun g:Gl=>g.nm.data.toList) gs))(hf:SMap FN (fun i:Nat=> .lit (.int .i64 (i:Int))) w fb n (Ck.idx (fun f:Fn=>f.nm.data.toList) fs)):
 Calls Try.prog 26 #[.string nm,P bt] w fun e w'=>e= .returned (.bool (([Ck.put,Ck.get]++gs.map (fun g=>g.nm.data.toList)++fs.map (fun f=>f.nm.data.toList)).contains nm.data.toList))∧Below w.heap.size w w':=by
 obtain⟨R,hR⟩:∃R,R=([Ck.put,Ck.get]++gs.map (fun g=>g.nm.data.toList)++fs.map (fun f=>f.nm.data.toList)).contains nm.data.toList:=⟨_,rfl⟩
 rw [←hR]
 rw [←Ck.Og]at hR
 have r1:=look_in hg hs
 have r2:=look_in hf hs
 obtain⟨x1,h1⟩:∃x,x=(Ck.idx (fun g:Gl=>g.nm.data.toList) gs nm.data.toList).isSome:=⟨_,rfl⟩
 obtain⟨x2,h2⟩:∃x,x=(Ck.idx (fun f:Fn=>f.nm.data.toList) fs nm.data.toList).isSome:=⟨_,rfl⟩
 obtain⟨y1,k1⟩:∃y:Int,y=(((Ck.idx (fun g:Gl=>g.nm.data.toList) gs nm.data.toList).getD 0:Nat):Int):=⟨_,rfl⟩
 obtain⟨y2,k2⟩:∃y:Int,y=(((Ck.idx (fun f:Fn=>f.nm.data.toList) fs nm.data.toList).getD 0:Nat):Int):=⟨_,rfl⟩
 obtain⟨c,h3⟩:∃c,c=Ck.bi nm.data.toList:=⟨_,rfl⟩
 rw [←h1,←k1]at r1
 rw [←h2,←k2]at r2
 rw [←h1,←h2,←h3]at hR
 have VD:Hid (∀w1:World,Calls Try.prog 27 #[.string nm] w1 fun e w'=>e= .returned (.tuple #[W.ty c.1.1 c.1.2, .int .i64 (c.2.1:Int), .bool c.2.2])∧Below w1.heap.size w1 w'):=fun w1=>by rw [h3];exact pq nm w1
 obtain⟨⟨c0,c1⟩,c2,c3⟩:=c
 have t0:=ht.cell 0
 have tl:=ht.lt
 have b2:=hb.cell 2;have b3:=hb.cell 3
 have bl:=hb.lt
 have HR:Hid (R=(x1||x2||c3)):=hR
 clear h1 h2 k1 k2 h3 hR ht hb hg hf hs
 cases x1<;>cases x2<;>cases c3
 all_goals
  go_enter Try.func26,Try.ntmps26
  go_wp2_with(first|(go_at_call 27;refine(VD.out _).mono ?_;rintro e5 w5⟨rfl,hb5⟩;have bD:=Lib.hid hb5;clear hb5))
  go_ret
  exact⟨by rw [HR.out];rfl,Ext.alloc bD.out _⟩
end
section
namespace Ck
theorem EF{n:Nm}:∀(l:List Fn)(i:Nat)(tk:List Nm),n∈tk→(names i tk l).1=0→∀f∈l,f.nm.data.toList≠n:=by
 intro l
 induction l with
 |nil=>intro i tk _ _ f hf;simp at hf
 |cons g l ih=>
  intro i tk hn h f hf
  rw [names]at h
  split at h
  ·exact absurd h (show¬(7:Int)=0 by decide)
  ·rename_i hc
   rcases List.mem_cons.1 hf with rfl|hf
   ·intro e;exact hc (by rw [e];simpa using hn)
   ·exact ih _ _ (List.mem_append_left _ hn) h f hf
theorem Nc:∀(l:List Fn)(i:Nat)(tk:List Nm),(names i tk l).1=0→(l.any fun f=>f.nm.data.toList==main&&f.ps.isEmpty)=match idx (fun f:Fn=>f.nm.data.toList) l main with|none=>false|some j=>match l[j]? with|none=>false|some f=>f.ps.isEmpty:=by
 intro l
 induction l with
 |nil=>intro i tk _;rfl
 |cons g l ih=>
  intro i tk h
  rw [names]at h
  split at h
  ·exact absurd h (show¬(7:Int)=0 by decide)
  ·rename_i hc
   rw [List.any_cons]
   unfold idx
   rw [List.findIdx?_cons]
   by_cases e:g.nm.data.toList=main
   ·have hf:=EF (n:=main) l _ _ (List.mem_append_right tk (by rw [e];exact List.mem_singleton.2 rfl)) h
    have h2:(l.any fun f=>f.nm.data.toList==main&&f.ps.isEmpty)=false:=by
     rw [List.any_eq_false]
     intro f hm
     rw [show(f.nm.data.toList==main)=false by simpa using hf f hm];simp
    rw [h2,show(g.nm.data.toList==main)=true by simpa using e]
    simp
   ·rw [ih _ _ h,show(g.nm.data.toList==main)=false by simpa using e]
    unfold idx
    cases l.findIdx? (fun f:Fn=>f.nm.data.toList==main)with
    |none=>rfl
    |some j=>rfl
end Ck
end
end Go.Proofs.Ythdckndjggljpaa
