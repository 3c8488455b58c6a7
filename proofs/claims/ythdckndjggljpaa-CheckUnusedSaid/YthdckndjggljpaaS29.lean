/- Proofs of this claim, part 29. No condition. -/
import Derived.Test.YthdckndjggljpaaS26
import Derived.Test.YthdckndjggljpaaS28
namespace Go.Proofs.Ythdckndjggljpaa
set_option linter.unusedVariables false
set_option linter.unusedSimpArgs false
set_option maxRecDepth 100000
set_option maxHeartbeats 64000000
open Go.RowKit
noncomputable def S.Eo(y:S):S:=S.prt y.kind y.bits y.sg y.name y.has y.xx y.ii y.ini y.step y.body y.els (S.folds y.ini) (S.folds y.step) (S.folds y.body) (S.folds y.els)
theorem S.Ju(y:S):S.fold y=S.after y.Eo:=by cases y;rw [S.fold];rfl
def PaI(y:S):Prop:=∀(w:World)(p:Nat→Prop)(g:Nat)(x0 x1 x2 x3 x4 x5 i0 i1 i2 i3 i4 i5 v0 v1 v2 v3:Value),dP w p g y.kind y.bits y.sg y.name y.has y.xx y.ii y.ini y.step y.body y.els x0 x1 x2 x3 x4 x5 i0 i1 i2 i3 i4 i5 v0 v1 v2 v3 w→Calls Try.prog 42 #[P g] w (D5 w p g y.Eo)
theorem Oo{cs:List Value}(h:cs.length=6):∃x0 x1 x2 x3 x4 x5,cs=[x0,x1,x2,x3,x4,x5]:=by
 match cs,h with
 |[x0,x1,x2,x3,x4,x5],_=>exact⟨x0,x1,x2,x3,x4,x5,rfl⟩
theorem fV.letters{w:World}{p:Nat→Prop}{y:S}{cs:List Value}(h:fV w p y cs):∃x0 x1 x2 x3 x4 x5 i0 i1 i2 i3 i4 i5 v0 v1 v2 v3,cs=[.int .i64 y.kind, .int .i64 y.bits, .bool y.sg, .string y.name, .bool y.has,x0,x1,x2,x3,x4,x5,i0,i1,i2,i3,i4,i5,v0,v1,v2,v3]∧
 dA w p y.xx [x0,x1,x2,x3,x4,x5]∧dA w p y.ii [i0,i1,i2,i3,i4,i5]∧aQ w p y.ini v0∧aQ w p y.step v1∧aQ w p y.body v2∧aQ w p y.els v3:=by
 obtain⟨xs,is,v0,v1,v2,v3,e,hx,hi,h0,h1,h2,h3⟩:=fV.parts h
 obtain⟨x0,x1,x2,x3,x4,x5,rfl⟩:=Oo hx.six
 obtain⟨i0,i1,i2,i3,i4,i5,rfl⟩:=Oo hi.six
 exact⟨x0,x1,x2,x3,x4,x5,i0,i1,i2,i3,i4,i5,v0,v1,v2,v3,e,hx,hi,h0,h1,h2,h3⟩
theorem dP.start{w w5:World}{p:Nat→Prop}{g:Nat}{y:S}{x0 x1 x2 x3 x4 x5 i0 i1 i2 i3 i4 i5 v0 v1 v2 v3:Value}(hx:dA w p y.xx [x0,x1,x2,x3,x4,x5])(hi:dA w p y.ii [i0,i1,i2,i3,i4,i5])(h0:aQ w p y.ini v0)(h1:aQ w p y.step v1)(h2:aQ w p y.body v2)(h3:aQ w p y.els v3)
 (hb:Below w.heap.size w w5)(hg:ak w5 g 102 #[.int .i64 y.kind, .int .i64 y.bits, .bool y.sg, .string y.name, .bool y.has,x0,x1,x2,x3,x4,x5,i0,i1,i2,i3,i4,i5,v0,v1,v2,v3])(hne:∀k,p k→k≠g):
 dP w5 p g y.kind y.bits y.sg y.name y.has y.xx y.ii y.ini y.step y.body y.els x0 x1 x2 x3 x4 x5 i0 i1 i2 i3 i4 i5 v0 v1 v2 v3 w5:=by
 have hf:∀q,p q→q<w.heap.size→Qp p w5 q∧w5.heap[q]?=w.heap[q]?:=fun q hq hl=>⟨.inl hq,hb.block q hl⟩
 exact⟨aH.of_below (Below.refl _ _),hg,hx.move hf,hi.move hf,h0.move hf,h1.move hf,h2.move hf,h3.move hf,hne,hg.lt⟩
theorem dP.sin{w wi:World}{p q:Nat→Prop}{g:Nat}{k b:Int}{s:Bool}{nm:ByteArray}{has:Bool}{x i:X}{l0 l1 l2 l3:List S}{x0 x1 x2 x3 x4 x5 i0 i1 i2 i3 i4 i5 v0 v1 v2 v3:Value}(h:dP w p g k b s nm has x i l0 l1 l2 l3 x0 x1 x2 x3 x4 x5 i0 i1 i2 i3 i4 i5 v0 v1 v2 v3 wi)(hq:∀j,Qp p w j→q j):
 fV wi q (.mk k b s nm has x i l0 l1 l2 l3) [.int .i64 k, .int .i64 b, .bool s, .string nm, .bool has,x0,x1,x2,x3,x4,x5,i0,i1,i2,i3,i4,i5,v0,v1,v2,v3]:=by
 have hf:∀j,Qp p w j→j<wi.heap.size→q j∧wi.heap[j]?=wi.heap[j]?:=fun j hj _=>⟨hq j hj,rfl⟩
 exact .mk k b s nm has x i l0 l1 l2 l3 _ _ _ _ _ _ (h.x.move hf) (h.i.move hf) (h.l0.move hf) (h.l1.move hf) (h.l2.move hf) (h.l3.move hf)
theorem X.nP(w:World)(q:Nat→Prop):dA w q X.zero [.int .i64 0, .int .u64 0, .int .i64 0, .bool false, .string ⟨#[]⟩, .slice none 0 0]:=
 .mk 0 0 0 false ⟨#[]⟩ [] none 0 (fun _=>[]) (Nat.le_refl _) (Nat.zero_le _) (fun i x h=>by simp at h) (fun h=>absurd h (Nat.lt_irrefl _))
theorem zu{w:World}{q:Nat→Prop}{l:List S}{v:Value}(h:aQ w q l v):fV w q (S.blk l) [.int .i64 11, .int .i64 0, .bool false, .string ⟨#[]⟩, .bool false, .int .i64 0, .int .u64 0, .int .i64 0, .bool false, .string ⟨#[]⟩, .slice none 0 0, .int .i64 0, .int .u64 0, .int .i64 0, .bool false, .string ⟨#[]⟩, .slice none 0 0, .slice none 0 0, .slice none 0 0,v, .slice none 0 0]:=
 .mk 11 0 false ⟨#[]⟩ false X.zero X.zero [] [] l [] _ _ _ _ _ _ (X.nP w q) (X.nP w q) (aQ.nil0 _ _) (aQ.nil0 _ _) h (aQ.nil0 _ _)
theorem Gj(w:World)(q:Nat→Prop):fV w q S.none0 [.int .i64 1, .int .i64 0, .bool false, .string ⟨#[]⟩, .bool false, .int .i64 0, .int .u64 0, .int .i64 0, .bool false, .string ⟨#[]⟩, .slice none 0 0, .int .i64 0, .int .u64 0, .int .i64 0, .bool false, .string ⟨#[]⟩, .slice none 0 0, .slice none 0 0, .slice none 0 0, .slice none 0 0, .slice none 0 0]:=
 .mk 1 0 false ⟨#[]⟩ false X.zero X.zero [] [] [] [] _ _ _ _ _ _ (X.nP w q) (X.nP w q) (aQ.nil0 _ _) (aQ.nil0 _ _) (aQ.nil0 _ _) (aQ.nil0 _ _)
def NQ(w:World)(p:Nat→Prop)(acc:List S)(ov:Value)(wr:World):Prop:=∃a c,ov= .slice a acc.length c∧Below w.heap.size w wr∧cZ (Qp p w) wr w.heap.size 102 21 LS acc a c
theorem ZV:(Try.prog.info? 102).map (fun i=>(i.zero,i.size,i.bytes))=some (some (.agg zS),21,288):=by kernel_rfl
theorem NQ.app{w wr w6 w7:World}{p:Nat→Prop}{acc:List S}{a:Option Addr}{c:Nat}{y:S}{ys:List Value}(hp:∀k,p k→k<w.heap.size)(hb:Below w.heap.size w wr)(ho:cZ (Qp p w) wr w.heap.size 102 21 LS acc a c)(hw6:Below wr.heap.size wr w6)(hy:fV w6 (fun k=>p k∨wr.heap.size≤k) y ys)(h7:Below w6.heap.size w6 w7):
 ∃cs,w7.ownsRow w.heap.size 102 21 (.slice a acc.length c) acc.length (flat cs acc.length)∧∀a' c' w8,w8.ownsRow w.heap.size 102 21 (.slice a' (acc.length+1) c') (acc.length+1) (flat cs acc.length++ys)→w7.grownBy w8 (Value.slice a acc.length c).ownBlock→
  ((Value.slice a' (acc.length+1) c').ownBlock=(Value.slice a acc.length c).ownBlock∨(Value.slice a' (acc.length+1) c').ownBlock=some w7.heap.size)→NQ w p (acc++[y]) (.slice a' (acc++[y]).length c') w8:=by
 have hlo:=ho.low
 have YC:=(ho.keep oG hw6).keep oG h7
 obtain⟨cs,h1,h2⟩:=YC
 refine⟨cs,h1,fun a' c' w8 o8 g8 t8=>⟨a',c',rfl,?_,?_⟩⟩
 ·have b7:Below w.heap.size w w7:=Ext.trans (Ext.trans hb hw6) h7
  exact⟨g8.os.trans b7.os,g8.tape.trans b7.tape,g8.output.trans b7.output,Nat.le_trans b7.size g8.size,fun k hk=>(g8.block k (Nat.lt_of_lt_of_le hk b7.size) (fun e=>by have:=(hlo k e.symm).1;omega)).trans (b7.block k hk)⟩
 ·have hs:w.heap.size≤wr.heap.size:=hb.size
  exact cZ.app oG h1 h2 (oG.move (show LS w6 _ y ys from hy) fun k hk hl=>⟨⟨by rcases hk with hk|hk;exact .inl hk;exact .inr (by omega),fun e=>by
   obtain⟨e1,e2⟩:=hlo k e
   rcases hk with hk|hk
   ·have:=hp k hk;omega
   ·omega⟩,h7.block k hl⟩) o8 g8 t8
theorem JB{w wr:World}{p:Nat→Prop}{acc:List S}{ov:Value}(h:NQ w p acc ov wr):∃a c,ov= .slice a acc.length c∧Below w.heap.size w wr∧cZ (Qp p w) wr w.heap.size 102 21 LS acc a c:=h
theorem S.Fe{l:List S}{j:Nat}{y:S}(h:l[j]?=some y):S.folds (l.take (j+1))=S.folds (l.take j)++[S.fold y]:=by
 rw [S.gQ,S.gQ,List.take_add_one,h,List.map_append];rfl
theorem EH(l:List S)(hlen:l.length≤100000)(IH:∀y∈l,PaI y)(HK:∀y∈l,y.kind=5∨y.kind=6→X.gK y.Eo.xx∧X.Wf y.Eo.xx)(w:World)(p:Nat→Prop)(v:Value)(hp:∀k,p k→k<w.heap.size)(hl:aQ w p l v):Calls Try.prog 21 #[v] w (Vj p w (S.folds l)):=by
 obtain⟨a,c,rfl,hlc,hcm,hat⟩:=hl.parts
 obtain⟨L,hL⟩:∃L,L=l.length:=⟨_,rfl⟩
 rw [←hL]at hlc hlen⊢
 have OL:(L:Int)≤9223372036854775807:=by omega
 have RY:(L:Int)≤(c:Int):=by omega
 have JM:=Lib.hid hL
 have HAT:=Lib.hid hat
 have HIH:=Lib.hid IH
 have HKK:=Lib.hid HK
 have RJ:=Lib.hid hp
 clear hL hat IH HK hp hl hlc hcm
 go_enter Try.func21,Try.ntmps21
 go_upto_region 3 with(fail)
 go_loopw [3,11](fun ov iv wr=>∃j:Nat,j≤L∧iv= .int .i64 (j:Int)∧Hid (NQ w p (S.folds (l.take j)) ov wr))(fun ov iv wr=>L-(intOf iv).toNat)
 case atStart=>exact⟨0,Nat.zero_le _,rfl,by rw [List.take_zero,S.folds];exact⟨none,0,rfl,Below.refl _ _,cZ.nil _ _ _ _ _ _⟩⟩
 case round=>
  obtain⟨j,hj,rfl,HF⟩:=hrel
  obtain⟨AC,tX⟩:∃AC,AC=S.folds (l.take j):=⟨_,rfl⟩
  have HLA:Hid (AC.length=j):=by show _=_;rw [tX,S.gQ,List.length_map,List.length_take];have:=JM.out;omega
  rw [←tX]at HF
  have Ar:=Lib.hid tX
  clear tX
  obtain⟨ra,rc,rfl,hbr,hor⟩:=JB HF.out
  have iM:=Lib.hid hbr
  have Hy:=Lib.hid hor
  obtain⟨nr,hnr⟩:∃n,n=AC.length:=⟨_,rfl⟩
  rw [←hnr]at HLA⊢
  have lI:=Lib.hid hnr
  have Wn:Hid (nr=j∧j≤100000):=⟨HLA.out,by omega⟩
  clear hbr hor hnr HLA HF
  by_cases hlt:j<L
  ·obtain⟨y,hy⟩:∃y,l[j]?=some y:=⟨_,List.getElem?_eq_getElem (by rw [←JM.out];exact hlt)⟩
   obtain⟨gk,ok,cs,hpg,rfl,hin,hcl⟩:=HAT.out j y hy
   obtain⟨x0,x1,x2,x3,x4,x5,i0,i1,i2,i3,i4,i5,v0,v1,v2,v3,rfl,hx,hi,h0,h1,h2,h3⟩:=fV.letters hin
   have kZ:Hid (S.folds (l.take (j+1))=AC++[S.fold y]):=by show _=_;rw [S.Fe hy,Ar.out]
   have Y4:=HIH.out y (List.mem_of_getElem? hy)
   have HXG:=Lib.hid (HKK.out y (List.mem_of_getElem? hy))
   have Ub:=Lib.hid hin.one
   obtain⟨k,b,s,nm,has,x,i,l0,l1,l2,l3⟩:=y
   simp only [S.kind,S.bits,S.sg,S.name,S.has,S.xx,S.ii,S.ini,S.step,S.body,S.els]at hx hi h0 h1 h2 h3 hcl Ub HXG
   obtain⟨px,hpx⟩:∃px,px=(if S.looks k has=true then X.fold x else x):=⟨_,rfl⟩
   obtain⟨pi,hpi⟩:∃pi,pi=(if k=3∧has=true then X.fold i else i):=⟨_,rfl⟩
   obtain⟨p0,hp0⟩:∃p0,p0=(if k=7 then S.folds l0 else l0):=⟨_,rfl⟩
   obtain⟨p1,hp1⟩:∃p1,p1=(if k=7 then S.folds l1 else l1):=⟨_,rfl⟩
   obtain⟨p2,hp2⟩:∃p2,p2=(if k=5∨k=6∨k=7∨k=11 then S.folds l2 else l2):=⟨_,rfl⟩
   obtain⟨p3,hp3⟩:∃p3,p3=(if k=5 then S.folds l3 else if k=6∨k=7∨k=11 then[]else l3):=⟨_,rfl⟩
   have hpr:S.Eo (.mk k b s nm has x i l0 l1 l2 l3)= .mk k b s nm has px pi p0 p1 p2 p3:=by rw [hpx,hpi,hp0,hp1,hp2,hp3];rfl
   have haf:S.fold (.mk k b s nm has x i l0 l1 l2 l3)=S.after (.mk k b s nm has px pi p0 p1 p2 p3):=by rw [S.Ju,hpr]
   have HXK:Hid (k=5∨k=6→X.gK px∧X.Wf px):=by
    have h:=HXG.out
    rw [hpr]at h;exact h
   rw [haf]at kZ
   have FW:Hid (∀jj u,[.int .i64 k, .int .i64 b, .bool s, .string nm, .bool has,x0,x1,x2,x3,x4,x5,i0,i1,i2,i3,i4,i5,v0,v1,v2,v3][jj]?=some u→wr.cell? ⟨gk,ok+j*21+jj,none⟩=some u):=fun jj u hu=>by
    rw [Below.cell (p:=⟨gk,ok+j*21+jj,none⟩) iM.out (RJ.out gk hpg)];exact hcl jj u hu
   have Uc:Hid (ak (wr.alloc (.cells zS 102)) wr.heap.size 102 zS):=ak.new _ _ _
   obtain⟨w5,hw5⟩:∃w5,w5=(wr.alloc (.cells zS 102)).setRow wr.heap.size #[.int .i64 k, .int .i64 b, .bool s, .string nm, .bool has,x0,x1,x2,x3,x4,x5,i0,i1,i2,i3,i4,i5,v0,v1,v2,v3]:=⟨_,rfl⟩
   have bD:Hid (Below wr.heap.size wr w5):=by rw [hw5];exact Below.DJ (Ext.alloc (Below.refl _ _) _) (Nat.le_refl _) _
   have Au:Hid (ak w5 wr.heap.size 102 #[.int .i64 k, .int .i64 b, .bool s, .string nm, .bool has,x0,x1,x2,x3,x4,x5,i0,i1,i2,i3,i4,i5,v0,v1,v2,v3]):=by rw [hw5];exact Uc.out.DJ _
   have HPA:Hid (Calls Try.prog 42 #[P wr.heap.size] w5 (D5 w5 p wr.heap.size (.mk k b s nm has px pi p0 p1 p2 p3))):=by
    have hm:∀q,p q→q<w.heap.size→p q∧wr.heap[q]?=w.heap[q]?:=fun q hq hl=>⟨hq,iM.out.block q hl⟩
    rw [←hpr]
    exact Y4 w5 p wr.heap.size x0 x1 x2 x3 x4 x5 i0 i1 i2 i3 i4 i5 v0 v1 v2 v3 (dP.start (y:= .mk k b s nm has x i l0 l1 l2 l3) (hx.move hm) (hi.move hm) (h0.move hm) (h1.move hm) (h2.move hm) (h3.move hm) bD.out Au.out (fun q hq=>by have h1:=RJ.out q hq;have h2:=iM.out.size;omega))
   have iD:=Lib.hid hlt
   clear hy hpg hin hcl hx hi h0 h1 h2 h3 Y4 hpx hpi hp0 hp1 hp2 hp3 hpr haf HXG
   go_upto_region 5 with(first|(refine mX rfl 102 _ rfl gk (ok+j*21) rfl [.int .i64 k, .int .i64 b, .bool s, .string nm, .bool has,x0,x1,x2,x3,x4,x5,i0,i1,i2,i3,i4,i5,v0,v1,v2,v3] _ FW.out Try.underlying102 rfl (by kernel_rfl) ?_)|(refine wpList_store_row rfl 102 _ _ rfl wr.heap.size #[.int .i64 k, .int .i64 b, .bool s, .string nm, .bool has,x0,x1,x2,x3,x4,x5,i0,i1,i2,i3,i4,i5,v0,v1,v2,v3] rfl rfl 102 zS Uc.out (by kernel_rfl) rfl Ub.out ?_))
   rw [←hw5]
   clear hw5 FW Uc Ub
   go_upto_region 6 with(first|(go_at_call 42;refine HPA.out.mono ?_;rintro e w6⟨rfl,z0,z1,z2,z3,z4,z5,j0,j1,j2,j3,j4,j5,u0,u1,u2,u3,hps⟩;have su:=Lib.hid hps;clear hps))
   simp only [S.kind,S.bits,S.sg,S.name,S.has,S.xx,S.ii,S.ini,S.step,S.body,S.els]at su
   have TF:Hid (Below wr.heap.size wr w6):=Below.bC bD.out (Nat.le_refl _) (Nat.le_refl _) su.out.bC
   have mM:Hid (∀q,Qp p w5 q→p q∨wr.heap.size≤q):=fun q hq=>by
    rcases hq with hq|hq
    ·exact .inl hq
    ·exact .inr (Nat.le_trans bD.out.size hq)
   have HY6:=Lib.hid (su.out.sin mM.out)
   have c0:w6.cell? ⟨wr.heap.size,0,none⟩=some (.int .i64 k):=su.out.blk.cell 0
   have gl:=su.out.blk.lt
   by_cases hk:k=5∨k=6
   ·obtain⟨b2,c2,e2,_⟩:=su.out.l2.parts
    obtain⟨b3,c3,e3,_⟩:=su.out.l3.parts
    subst e2 e3
    obtain⟨xa,xc,hxe⟩:=dA.form su.out.x
    simp only [X.cells,List.cons.injEq,and_true]at hxe
    obtain⟨rfl,rfl,rfl,rfl,rfl,rfl⟩:=hxe
    obtain⟨hsx,hwx⟩:=HXK.out hk
    have wU:Hid (By w6 wr.heap.size px.kind px.num px.bits px.sg px.name (.slice xa px.kids.length xc)):=⟨⟨su.out.blk.cell 5,su.out.blk.cell 6,su.out.blk.cell 7,su.out.blk.cell 8,su.out.blk.cell 9,su.out.blk.cell 10⟩,su.out.blk.lt⟩
    have hkn:=Jy px hsx hwx w6 wr.heap.size xa xc su.out.x.at wU.out
    obtain⟨KB,WV⟩:∃KB,KB=X.known px:=⟨_,rfl⟩
    obtain⟨N,hN⟩:∃N,N=(X.cst px).n:=⟨_,rfl⟩
    obtain⟨tb,htb⟩:∃tb,tb=(if X.known px then(X.cst px).b else 0):=⟨_,rfl⟩
    obtain⟨ts,hts⟩:∃ts,ts=(if X.known px then(X.cst px).s else false):=⟨_,rfl⟩
    rw [←htb,←hts,←WV,←hN]at hkn
    have Rw:=Lib.hid hkn
    have HKB:=Lib.hid WV
    have uU:=Lib.hid hN
    clear hsx hwx hkn WV hN htb hts
    have b8:w6.cell? ⟨wr.heap.size,19,none⟩=some (.slice b2 p2.length c2):=su.out.blk.cell 19
    have b9:w6.cell? ⟨wr.heap.size,20,none⟩=some (.slice b3 p3.length c3):=su.out.blk.cell 20
    rcases hk with rfl|rfl
    ·cases KB with
     |true=>
      by_cases hn0:N=0
      ·subst hn0
       have zK:Hid (S.after (.mk 5 b s nm has px pi p0 p1 p2 p3)=S.blk p3):=by show _=_;rw [S.after,if_pos ⟨rfl,HKB.out.symm⟩,if_neg (fun h=>h uU.out.symm)]
       go_upto_region 9 with(first|(go_at_call 40;refine Rw.out.mono ?_;rintro e w7⟨rfl,hb7⟩;have dD:Hid (Below w6.heap.size w6 (w7.alloc (.cells #[.int .i64 tb, .bool ts] 33))):=Ext.alloc hb7 _;clear hb7 c0 b8 b9 gl;have iU:=Lib.hid (su.out.keep dD.out);have c0:=iU.out.blk.cell 0;have b8:=iU.out.blk.cell 19;have b9:=iU.out.blk.cell 20;have gl:=iU.out.blk.lt))
       generalize hw8:World.alloc w7 _=w8
       rw [hw8]at dD iU c0 b8 b9 gl
       clear hw8
       have G9:=Lib.hid (Ext.trans TF.out dD.out:Below wr.heap.size wr w8)
       have Y5:=Lib.hid (zu (iU.out.l3.move (fun q hq _=>⟨mM.out q hq,rfl⟩):aQ w8 (fun q=>p q∨wr.heap.size≤q) _ _))
       have TD:=Lib.hid Y5.out.one
       obtain⟨wa,zU⟩:∃wa,wa=w8.setRow wr.heap.size #[.int .i64 11, .int .i64 0, .bool false, .string ⟨#[]⟩, .bool false, .int .i64 0, .int .u64 0, .int .i64 0, .bool false, .string ⟨#[]⟩, .slice none 0 0, .int .i64 0, .int .u64 0, .int .i64 0, .bool false, .string ⟨#[]⟩, .slice none 0 0, .slice none 0 0, .slice none 0 0, .slice b3 p3.length c3, .slice none 0 0]:=⟨_,rfl⟩
       have Io:Hid (aH wr.heap.size w8 wa):=by rw [zU];exact qh w8 _ _
       have zQ:Hid (Below wr.heap.size wr wa):=Below.bC G9.out (Nat.le_refl _) (Nat.le_refl _) Io.out
       have l9:Hid (ak wa wr.heap.size 102 #[.int .i64 11, .int .i64 0, .bool false, .string ⟨#[]⟩, .bool false, .int .i64 0, .int .u64 0, .int .i64 0, .bool false, .string ⟨#[]⟩, .slice none 0 0, .int .i64 0, .int .u64 0, .int .i64 0, .bool false, .string ⟨#[]⟩, .slice none 0 0, .slice none 0 0, .slice none 0 0, .slice b3 p3.length c3, .slice none 0 0]):=by rw [zU];exact iU.out.blk.jQ _
       have O1:=Lib.hid (zu (iU.out.l3.move (fun q hq hl=>⟨mM.out q hq,Io.out.block q hl (fun e=>by injection e with e;exact iU.out.q hq e)⟩):aQ wa (fun q=>p q∨wr.heap.size≤q) _ _))
       go_upto_region 15 with(first|(refine wpList_store_row rfl 102 _ _ rfl wr.heap.size #[.int .i64 11, .int .i64 0, .bool false, .string ⟨#[]⟩, .bool false, .int .i64 0, .int .u64 0, .int .i64 0, .bool false, .string ⟨#[]⟩, .slice none 0 0, .int .i64 0, .int .u64 0, .int .i64 0, .bool false, .string ⟨#[]⟩, .slice none 0 0, .slice none 0 0, .slice none 0 0, .slice b3 p3.length c3, .slice none 0 0] rfl rfl 102 _ iU.out.blk (by kernel_rfl) rfl TD.out ?_))
       rw [←zU]
       clear zU c0 b8 b9 gl
       go_wp2_with(first|(refine wpList_load_row rfl 102 _ rfl wr.heap.size rfl 102 #[.int .i64 11, .int .i64 0, .bool false, .string ⟨#[]⟩, .bool false, .int .i64 0, .int .u64 0, .int .i64 0, .bool false, .string ⟨#[]⟩, .slice none 0 0, .int .i64 0, .int .u64 0, .int .i64 0, .bool false, .string ⟨#[]⟩, .slice none 0 0, .slice none 0 0, .slice none 0 0, .slice b3 p3.length c3, .slice none 0 0] (0,0) _ l9.out Try.underlying102 rfl (by kernel_rfl) ?_)|(obtain⟨lg,hof,hnx⟩:=NQ.app RJ.out iM.out Hy.out zQ.out O1.out (Ext.alloc (Below.refl _ _) (.cells #[.int .i64 11, .int .i64 0, .bool false, .string ⟨#[]⟩, .bool false, .int .i64 0, .int .u64 0, .int .i64 0, .bool false, .string ⟨#[]⟩, .slice none 0 0, .int .i64 0, .int .u64 0, .int .i64 0, .bool false, .string ⟨#[]⟩, .slice none 0 0, .slice none 0 0, .slice none 0 0, .slice b3 p3.length c3, .slice none 0 0] 102));rw [←lI.out]at hof hnx;refine aS rfl _ _ 38 102 21 288 (.agg zS) rfl Try.underlying38 (by kernel_rfl) rfl (by decide) (by decide) w.heap.size (.slice ra nr rc) nr (flat lg nr) (wa).heap.size [.int .i64 11, .int .i64 0, .bool false, .string ⟨#[]⟩, .bool false, .int .i64 0, .int .u64 0, .int .i64 0, .bool false, .string ⟨#[]⟩, .slice none 0 0, .int .i64 0, .int .u64 0, .int .i64 0, .bool false, .string ⟨#[]⟩, .slice none 0 0, .slice none 0 0, .slice none 0 0, .slice b3 p3.length c3, .slice none 0 0] rfl rfl hof rfl (ak.at0 (ak.new _ _ _)) (oG.one (show LS _ _ _ _ from O1.out)) (by have:=Wn.out;omega) (by have h1:=iM.out.size;have h2:=zQ.out.size;simp;omega) ?_;intro a9 c9 w9 jm eG dF;have pY:=Lib.hid (hnx a9 c9 w9 jm eG dF);clear hof hnx jm eG dF))
       go_roundw
       case rel=>exact⟨j+1,by omega,by go_num,by
           rw [kZ.out,zK.out]
           have h0:=pY.out
           rw [List.length_append,←lI.out]at h0
           exact h0⟩
       case measure=>simp [intOf];omega
      ·have qn:(N !=0)=true:=by simpa using hn0
       have zK:Hid (S.after (.mk 5 b s nm has px pi p0 p1 p2 p3)=S.blk p2):=by show _=_;rw [S.after,if_pos ⟨rfl,HKB.out.symm⟩,if_pos (by rw [←uU.out];exact hn0)]
       go_upto_region 9 with(first|(go_at_call 40;refine Rw.out.mono ?_;rintro e w7⟨rfl,hb7⟩;have dD:Hid (Below w6.heap.size w6 (w7.alloc (.cells #[.int .i64 tb, .bool ts] 33))):=Ext.alloc hb7 _;clear hb7 c0 b8 b9 gl;have iU:=Lib.hid (su.out.keep dD.out);have c0:=iU.out.blk.cell 0;have b8:=iU.out.blk.cell 19;have b9:=iU.out.blk.cell 20;have gl:=iU.out.blk.lt))
       generalize hw8:World.alloc w7 _=w8
       rw [hw8]at dD iU c0 b8 b9 gl
       clear hw8
       have G9:=Lib.hid (Ext.trans TF.out dD.out:Below wr.heap.size wr w8)
       have Y5:=Lib.hid (zu (iU.out.l2.move (fun q hq _=>⟨mM.out q hq,rfl⟩):aQ w8 (fun q=>p q∨wr.heap.size≤q) _ _))
       have TD:=Lib.hid Y5.out.one
       obtain⟨wa,zU⟩:∃wa,wa=w8.setRow wr.heap.size #[.int .i64 11, .int .i64 0, .bool false, .string ⟨#[]⟩, .bool false, .int .i64 0, .int .u64 0, .int .i64 0, .bool false, .string ⟨#[]⟩, .slice none 0 0, .int .i64 0, .int .u64 0, .int .i64 0, .bool false, .string ⟨#[]⟩, .slice none 0 0, .slice none 0 0, .slice none 0 0, .slice b2 p2.length c2, .slice none 0 0]:=⟨_,rfl⟩
       have Io:Hid (aH wr.heap.size w8 wa):=by rw [zU];exact qh w8 _ _
       have zQ:Hid (Below wr.heap.size wr wa):=Below.bC G9.out (Nat.le_refl _) (Nat.le_refl _) Io.out
       have l9:Hid (ak wa wr.heap.size 102 #[.int .i64 11, .int .i64 0, .bool false, .string ⟨#[]⟩, .bool false, .int .i64 0, .int .u64 0, .int .i64 0, .bool false, .string ⟨#[]⟩, .slice none 0 0, .int .i64 0, .int .u64 0, .int .i64 0, .bool false, .string ⟨#[]⟩, .slice none 0 0, .slice none 0 0, .slice none 0 0, .slice b2 p2.length c2, .slice none 0 0]):=by rw [zU];exact iU.out.blk.jQ _
       have O1:=Lib.hid (zu (iU.out.l2.move (fun q hq hl=>⟨mM.out q hq,Io.out.block q hl (fun e=>by injection e with e;exact iU.out.q hq e)⟩):aQ wa (fun q=>p q∨wr.heap.size≤q) _ _))
       go_upto_region 15 with(first|(refine wpList_store_row rfl 102 _ _ rfl wr.heap.size #[.int .i64 11, .int .i64 0, .bool false, .string ⟨#[]⟩, .bool false, .int .i64 0, .int .u64 0, .int .i64 0, .bool false, .string ⟨#[]⟩, .slice none 0 0, .int .i64 0, .int .u64 0, .int .i64 0, .bool false, .string ⟨#[]⟩, .slice none 0 0, .slice none 0 0, .slice none 0 0, .slice b2 p2.length c2, .slice none 0 0] rfl rfl 102 _ iU.out.blk (by kernel_rfl) rfl TD.out ?_))
       rw [←zU]
       clear zU c0 b8 b9 gl
       go_wp2_with(first|(refine wpList_load_row rfl 102 _ rfl wr.heap.size rfl 102 #[.int .i64 11, .int .i64 0, .bool false, .string ⟨#[]⟩, .bool false, .int .i64 0, .int .u64 0, .int .i64 0, .bool false, .string ⟨#[]⟩, .slice none 0 0, .int .i64 0, .int .u64 0, .int .i64 0, .bool false, .string ⟨#[]⟩, .slice none 0 0, .slice none 0 0, .slice none 0 0, .slice b2 p2.length c2, .slice none 0 0] (0,0) _ l9.out Try.underlying102 rfl (by kernel_rfl) ?_)|(obtain⟨lg,hof,hnx⟩:=NQ.app RJ.out iM.out Hy.out zQ.out O1.out (Ext.alloc (Below.refl _ _) (.cells #[.int .i64 11, .int .i64 0, .bool false, .string ⟨#[]⟩, .bool false, .int .i64 0, .int .u64 0, .int .i64 0, .bool false, .string ⟨#[]⟩, .slice none 0 0, .int .i64 0, .int .u64 0, .int .i64 0, .bool false, .string ⟨#[]⟩, .slice none 0 0, .slice none 0 0, .slice none 0 0, .slice b2 p2.length c2, .slice none 0 0] 102));rw [←lI.out]at hof hnx;refine aS rfl _ _ 38 102 21 288 (.agg zS) rfl Try.underlying38 (by kernel_rfl) rfl (by decide) (by decide) w.heap.size (.slice ra nr rc) nr (flat lg nr) (wa).heap.size [.int .i64 11, .int .i64 0, .bool false, .string ⟨#[]⟩, .bool false, .int .i64 0, .int .u64 0, .int .i64 0, .bool false, .string ⟨#[]⟩, .slice none 0 0, .int .i64 0, .int .u64 0, .int .i64 0, .bool false, .string ⟨#[]⟩, .slice none 0 0, .slice none 0 0, .slice none 0 0, .slice b2 p2.length c2, .slice none 0 0] rfl rfl hof rfl (ak.at0 (ak.new _ _ _)) (oG.one (show LS _ _ _ _ from O1.out)) (by have:=Wn.out;omega) (by have h1:=iM.out.size;have h2:=zQ.out.size;simp;omega) ?_;intro a9 c9 w9 jm eG dF;have pY:=Lib.hid (hnx a9 c9 w9 jm eG dF);clear hof hnx jm eG dF))
       go_roundw
       case rel=>exact⟨j+1,by omega,by go_num,by
           rw [kZ.out,zK.out]
           have h0:=pY.out
           rw [List.length_append,←lI.out]at h0
           exact h0⟩
       case measure=>simp [intOf];omega
     |false=>
      have zK:Hid (S.after (.mk 5 b s nm has px pi p0 p1 p2 p3)= .mk 5 b s nm has px pi p0 p1 p2 p3):=by show _=_;rw [S.after,if_neg (fun h=>by rw [←HKB.out]at h;cases h.2),if_neg (fun h=>absurd h.1 (by decide))]
      go_upto_region 9 with(first|(go_at_call 40;refine Rw.out.mono ?_;rintro e w7⟨rfl,hb7⟩;have dD:Hid (Below w6.heap.size w6 (w7.alloc (.cells #[.int .i64 tb, .bool ts] 33))):=Ext.alloc hb7 _;clear hb7 c0 b8 b9 gl;have iU:=Lib.hid (su.out.keep dD.out);have c0:=iU.out.blk.cell 0;have b8:=iU.out.blk.cell 19;have b9:=iU.out.blk.cell 20;have gl:=iU.out.blk.lt))
      generalize hw8:World.alloc w7 _=w8
      rw [hw8]at dD iU c0 b8 b9 gl
      clear hw8
      have G9:=Lib.hid (Ext.trans TF.out dD.out:Below wr.heap.size wr w8)
      have TG:=Lib.hid (iU.out.sin mM.out)
      go_wp2_with(first|(refine wpList_load_row rfl 102 _ rfl wr.heap.size rfl 102 #[.int .i64 5, .int .i64 b, .bool s, .string nm, .bool has, .int .i64 px.kind, .int .u64 px.num, .int .i64 px.bits, .bool px.sg, .string px.name, .slice xa px.kids.length xc,j0,j1,j2,j3,j4,j5,u0,u1, .slice b2 p2.length c2, .slice b3 p3.length c3] (0,0) _ iU.out.blk Try.underlying102 rfl (by kernel_rfl) ?_)|(obtain⟨lg,hof,hnx⟩:=NQ.app RJ.out iM.out Hy.out G9.out TG.out (Ext.alloc (Below.refl _ _) (.cells #[.int .i64 5, .int .i64 b, .bool s, .string nm, .bool has, .int .i64 px.kind, .int .u64 px.num, .int .i64 px.bits, .bool px.sg, .string px.name, .slice xa px.kids.length xc,j0,j1,j2,j3,j4,j5,u0,u1, .slice b2 p2.length c2, .slice b3 p3.length c3] 102));rw [←lI.out]at hof hnx;refine aS rfl _ _ 38 102 21 288 (.agg zS) rfl Try.underlying38 (by kernel_rfl) rfl (by decide) (by decide) w.heap.size (.slice ra nr rc) nr (flat lg nr) (w8).heap.size [.int .i64 5, .int .i64 b, .bool s, .string nm, .bool has, .int .i64 px.kind, .int .u64 px.num, .int .i64 px.bits, .bool px.sg, .string px.name, .slice xa px.kids.length xc,j0,j1,j2,j3,j4,j5,u0,u1, .slice b2 p2.length c2, .slice b3 p3.length c3] rfl rfl hof rfl (ak.at0 (ak.new _ _ _)) (oG.one (show LS _ _ _ _ from TG.out)) (by have:=Wn.out;omega) (by have h1:=iM.out.size;have h2:=G9.out.size;simp;omega) ?_;intro a9 c9 w9 jm eG dF;have pY:=Lib.hid (hnx a9 c9 w9 jm eG dF);clear hof hnx jm eG dF))
      go_roundw
      case rel=>exact⟨j+1,by omega,by go_num,by
          rw [kZ.out,zK.out]
          have h0:=pY.out
          rw [List.length_append,←lI.out]at h0
          exact h0⟩
      case measure=>simp [intOf];omega
    ·cases KB with
     |true=>
      by_cases hn0:N=0
      ·subst hn0
       have zK:Hid (S.after (.mk 6 b s nm has px pi p0 p1 p2 p3)=S.none0):=by show _=_;rw [S.after,if_neg (fun h=>absurd h.1 (by decide)),if_pos ⟨rfl,HKB.out.symm,uU.out.symm⟩]
       go_upto_region 9 with(first|(go_at_call 40;refine Rw.out.mono ?_;rintro e w7⟨rfl,hb7⟩;have dD:Hid (Below w6.heap.size w6 (w7.alloc (.cells #[.int .i64 tb, .bool ts] 33))):=Ext.alloc hb7 _;clear hb7 c0 b8 b9 gl;have iU:=Lib.hid (su.out.keep dD.out);have c0:=iU.out.blk.cell 0;have b8:=iU.out.blk.cell 19;have b9:=iU.out.blk.cell 20;have gl:=iU.out.blk.lt))
       generalize hw8:World.alloc w7 _=w8
       rw [hw8]at dD iU c0 b8 b9 gl
       clear hw8
       have G9:=Lib.hid (Ext.trans TF.out dD.out:Below wr.heap.size wr w8)
       have Y5:=Lib.hid (Gj w8 (fun q=>p q∨wr.heap.size≤q))
       have TD:=Lib.hid Y5.out.one
       obtain⟨wa,zU⟩:∃wa,wa=w8.setRow wr.heap.size #[.int .i64 1, .int .i64 0, .bool false, .string ⟨#[]⟩, .bool false, .int .i64 0, .int .u64 0, .int .i64 0, .bool false, .string ⟨#[]⟩, .slice none 0 0, .int .i64 0, .int .u64 0, .int .i64 0, .bool false, .string ⟨#[]⟩, .slice none 0 0, .slice none 0 0, .slice none 0 0, .slice none 0 0, .slice none 0 0]:=⟨_,rfl⟩
       have Io:Hid (aH wr.heap.size w8 wa):=by rw [zU];exact qh w8 _ _
       have zQ:Hid (Below wr.heap.size wr wa):=Below.bC G9.out (Nat.le_refl _) (Nat.le_refl _) Io.out
       have l9:Hid (ak wa wr.heap.size 102 #[.int .i64 1, .int .i64 0, .bool false, .string ⟨#[]⟩, .bool false, .int .i64 0, .int .u64 0, .int .i64 0, .bool false, .string ⟨#[]⟩, .slice none 0 0, .int .i64 0, .int .u64 0, .int .i64 0, .bool false, .string ⟨#[]⟩, .slice none 0 0, .slice none 0 0, .slice none 0 0, .slice none 0 0, .slice none 0 0]):=by rw [zU];exact iU.out.blk.jQ _
       have O1:=Lib.hid (Gj wa (fun q=>p q∨wr.heap.size≤q))
       go_upto_region 15 with(first|(refine wpList_store_row rfl 102 _ _ rfl wr.heap.size #[.int .i64 1, .int .i64 0, .bool false, .string ⟨#[]⟩, .bool false, .int .i64 0, .int .u64 0, .int .i64 0, .bool false, .string ⟨#[]⟩, .slice none 0 0, .int .i64 0, .int .u64 0, .int .i64 0, .bool false, .string ⟨#[]⟩, .slice none 0 0, .slice none 0 0, .slice none 0 0, .slice none 0 0, .slice none 0 0] rfl rfl 102 _ iU.out.blk (by kernel_rfl) rfl TD.out ?_))
       rw [←zU]
       clear zU c0 b8 b9 gl
       go_wp2_with(first|(refine wpList_load_row rfl 102 _ rfl wr.heap.size rfl 102 #[.int .i64 1, .int .i64 0, .bool false, .string ⟨#[]⟩, .bool false, .int .i64 0, .int .u64 0, .int .i64 0, .bool false, .string ⟨#[]⟩, .slice none 0 0, .int .i64 0, .int .u64 0, .int .i64 0, .bool false, .string ⟨#[]⟩, .slice none 0 0, .slice none 0 0, .slice none 0 0, .slice none 0 0, .slice none 0 0] (0,0) _ l9.out Try.underlying102 rfl (by kernel_rfl) ?_)|(obtain⟨lg,hof,hnx⟩:=NQ.app RJ.out iM.out Hy.out zQ.out O1.out (Ext.alloc (Below.refl _ _) (.cells #[.int .i64 1, .int .i64 0, .bool false, .string ⟨#[]⟩, .bool false, .int .i64 0, .int .u64 0, .int .i64 0, .bool false, .string ⟨#[]⟩, .slice none 0 0, .int .i64 0, .int .u64 0, .int .i64 0, .bool false, .string ⟨#[]⟩, .slice none 0 0, .slice none 0 0, .slice none 0 0, .slice none 0 0, .slice none 0 0] 102));rw [←lI.out]at hof hnx;refine aS rfl _ _ 38 102 21 288 (.agg zS) rfl Try.underlying38 (by kernel_rfl) rfl (by decide) (by decide) w.heap.size (.slice ra nr rc) nr (flat lg nr) (wa).heap.size [.int .i64 1, .int .i64 0, .bool false, .string ⟨#[]⟩, .bool false, .int .i64 0, .int .u64 0, .int .i64 0, .bool false, .string ⟨#[]⟩, .slice none 0 0, .int .i64 0, .int .u64 0, .int .i64 0, .bool false, .string ⟨#[]⟩, .slice none 0 0, .slice none 0 0, .slice none 0 0, .slice none 0 0, .slice none 0 0] rfl rfl hof rfl (ak.at0 (ak.new _ _ _)) (oG.one (show LS _ _ _ _ from O1.out)) (by have:=Wn.out;omega) (by have h1:=iM.out.size;have h2:=zQ.out.size;simp;omega) ?_;intro a9 c9 w9 jm eG dF;have pY:=Lib.hid (hnx a9 c9 w9 jm eG dF);clear hof hnx jm eG dF))
       go_roundw
       case rel=>exact⟨j+1,by omega,by go_num,by
           rw [kZ.out,zK.out]
           have h0:=pY.out
           rw [List.length_append,←lI.out]at h0
           exact h0⟩
       case measure=>simp [intOf];omega
      ·have qn:(N==0)=false:=by simpa using hn0
       have zK:Hid (S.after (.mk 6 b s nm has px pi p0 p1 p2 p3)= .mk 6 b s nm has px pi p0 p1 p2 p3):=by show _=_;rw [S.after,if_neg (fun h=>absurd h.1 (by decide)),if_neg (fun h=>hn0 (uU.out.trans h.2.2))]
       go_upto_region 9 with(first|(go_at_call 40;refine Rw.out.mono ?_;rintro e w7⟨rfl,hb7⟩;have dD:Hid (Below w6.heap.size w6 (w7.alloc (.cells #[.int .i64 tb, .bool ts] 33))):=Ext.alloc hb7 _;clear hb7 c0 b8 b9 gl;have iU:=Lib.hid (su.out.keep dD.out);have c0:=iU.out.blk.cell 0;have b8:=iU.out.blk.cell 19;have b9:=iU.out.blk.cell 20;have gl:=iU.out.blk.lt))
       generalize hw8:World.alloc w7 _=w8
       rw [hw8]at dD iU c0 b8 b9 gl
       clear hw8
       have G9:=Lib.hid (Ext.trans TF.out dD.out:Below wr.heap.size wr w8)
       have TG:=Lib.hid (iU.out.sin mM.out)
       go_wp2_with(first|(refine wpList_load_row rfl 102 _ rfl wr.heap.size rfl 102 #[.int .i64 6, .int .i64 b, .bool s, .string nm, .bool has, .int .i64 px.kind, .int .u64 px.num, .int .i64 px.bits, .bool px.sg, .string px.name, .slice xa px.kids.length xc,j0,j1,j2,j3,j4,j5,u0,u1, .slice b2 p2.length c2, .slice b3 p3.length c3] (0,0) _ iU.out.blk Try.underlying102 rfl (by kernel_rfl) ?_)|(obtain⟨lg,hof,hnx⟩:=NQ.app RJ.out iM.out Hy.out G9.out TG.out (Ext.alloc (Below.refl _ _) (.cells #[.int .i64 6, .int .i64 b, .bool s, .string nm, .bool has, .int .i64 px.kind, .int .u64 px.num, .int .i64 px.bits, .bool px.sg, .string px.name, .slice xa px.kids.length xc,j0,j1,j2,j3,j4,j5,u0,u1, .slice b2 p2.length c2, .slice b3 p3.length c3] 102));rw [←lI.out]at hof hnx;refine aS rfl _ _ 38 102 21 288 (.agg zS) rfl Try.underlying38 (by kernel_rfl) rfl (by decide) (by decide) w.heap.size (.slice ra nr rc) nr (flat lg nr) (w8).heap.size [.int .i64 6, .int .i64 b, .bool s, .string nm, .bool has, .int .i64 px.kind, .int .u64 px.num, .int .i64 px.bits, .bool px.sg, .string px.name, .slice xa px.kids.length xc,j0,j1,j2,j3,j4,j5,u0,u1, .slice b2 p2.length c2, .slice b3 p3.length c3] rfl rfl hof rfl (ak.at0 (ak.new _ _ _)) (oG.one (show LS _ _ _ _ from TG.out)) (by have:=Wn.out;omega) (by have h1:=iM.out.size;have h2:=G9.out.size;simp;omega) ?_;intro a9 c9 w9 jm eG dF;have pY:=Lib.hid (hnx a9 c9 w9 jm eG dF);clear hof hnx jm eG dF))
       go_roundw
       case rel=>exact⟨j+1,by omega,by go_num,by
           rw [kZ.out,zK.out]
           have h0:=pY.out
           rw [List.length_append,←lI.out]at h0
           exact h0⟩
       case measure=>simp [intOf];omega
     |false=>
      have zK:Hid (S.after (.mk 6 b s nm has px pi p0 p1 p2 p3)= .mk 6 b s nm has px pi p0 p1 p2 p3):=by show _=_;rw [S.after,if_neg (fun h=>absurd h.1 (by decide)),if_neg (fun h=>by rw [←HKB.out]at h;cases h.2.1)]
      go_upto_region 9 with(first|(go_at_call 40;refine Rw.out.mono ?_;rintro e w7⟨rfl,hb7⟩;have dD:Hid (Below w6.heap.size w6 (w7.alloc (.cells #[.int .i64 tb, .bool ts] 33))):=Ext.alloc hb7 _;clear hb7 c0 b8 b9 gl;have iU:=Lib.hid (su.out.keep dD.out);have c0:=iU.out.blk.cell 0;have b8:=iU.out.blk.cell 19;have b9:=iU.out.blk.cell 20;have gl:=iU.out.blk.lt))
      generalize hw8:World.alloc w7 _=w8
      rw [hw8]at dD iU c0 b8 b9 gl
      clear hw8
      have G9:=Lib.hid (Ext.trans TF.out dD.out:Below wr.heap.size wr w8)
      have TG:=Lib.hid (iU.out.sin mM.out)
      go_wp2_with(first|(refine wpList_load_row rfl 102 _ rfl wr.heap.size rfl 102 #[.int .i64 6, .int .i64 b, .bool s, .string nm, .bool has, .int .i64 px.kind, .int .u64 px.num, .int .i64 px.bits, .bool px.sg, .string px.name, .slice xa px.kids.length xc,j0,j1,j2,j3,j4,j5,u0,u1, .slice b2 p2.length c2, .slice b3 p3.length c3] (0,0) _ iU.out.blk Try.underlying102 rfl (by kernel_rfl) ?_)|(obtain⟨lg,hof,hnx⟩:=NQ.app RJ.out iM.out Hy.out G9.out TG.out (Ext.alloc (Below.refl _ _) (.cells #[.int .i64 6, .int .i64 b, .bool s, .string nm, .bool has, .int .i64 px.kind, .int .u64 px.num, .int .i64 px.bits, .bool px.sg, .string px.name, .slice xa px.kids.length xc,j0,j1,j2,j3,j4,j5,u0,u1, .slice b2 p2.length c2, .slice b3 p3.length c3] 102));rw [←lI.out]at hof hnx;refine aS rfl _ _ 38 102 21 288 (.agg zS) rfl Try.underlying38 (by kernel_rfl) rfl (by decide) (by decide) w.heap.size (.slice ra nr rc) nr (flat lg nr) (w8).heap.size [.int .i64 6, .int .i64 b, .bool s, .string nm, .bool has, .int .i64 px.kind, .int .u64 px.num, .int .i64 px.bits, .bool px.sg, .string px.name, .slice xa px.kids.length xc,j0,j1,j2,j3,j4,j5,u0,u1, .slice b2 p2.length c2, .slice b3 p3.length c3] rfl rfl hof rfl (ak.at0 (ak.new _ _ _)) (oG.one (show LS _ _ _ _ from TG.out)) (by have:=Wn.out;omega) (by have h1:=iM.out.size;have h2:=G9.out.size;simp;omega) ?_;intro a9 c9 w9 jm eG dF;have pY:=Lib.hid (hnx a9 c9 w9 jm eG dF);clear hof hnx jm eG dF))
      go_roundw
      case rel=>exact⟨j+1,by omega,by go_num,by
          rw [kZ.out,zK.out]
          have h0:=pY.out
          rw [List.length_append,←lI.out]at h0
          exact h0⟩
      case measure=>simp [intOf];omega
   ·have qa:(k !=5)=true:=by simp only [bne_iff_ne,ne_eq];omega
    have qb:(k !=6)=true:=by simp only [bne_iff_ne,ne_eq];omega
    have zK:Hid (S.after (.mk k b s nm has px pi p0 p1 p2 p3)= .mk k b s nm has px pi p0 p1 p2 p3):=by show _=_;rw [S.after,if_neg (fun h=>hk (.inl h.1)),if_neg (fun h=>hk (.inr h.1))]
    clear hk
    go_wp2_with(first|(refine wpList_load_row rfl 102 _ rfl wr.heap.size rfl 102 #[.int .i64 k, .int .i64 b, .bool s, .string nm, .bool has,z0,z1,z2,z3,z4,z5,j0,j1,j2,j3,j4,j5,u0,u1,u2,u3] (0,0) _ su.out.blk Try.underlying102 rfl (by kernel_rfl) ?_)|(obtain⟨lg,hof,hnx⟩:=NQ.app RJ.out iM.out Hy.out TF.out HY6.out (Ext.alloc (Below.refl _ _) (.cells #[.int .i64 k, .int .i64 b, .bool s, .string nm, .bool has,z0,z1,z2,z3,z4,z5,j0,j1,j2,j3,j4,j5,u0,u1,u2,u3] 102));rw [←lI.out]at hof hnx;refine aS rfl _ _ 38 102 21 288 (.agg zS) rfl Try.underlying38 (by kernel_rfl) rfl (by decide) (by decide) w.heap.size (.slice ra nr rc) nr (flat lg nr) (w6).heap.size [.int .i64 k, .int .i64 b, .bool s, .string nm, .bool has,z0,z1,z2,z3,z4,z5,j0,j1,j2,j3,j4,j5,u0,u1,u2,u3] rfl rfl hof rfl (ak.at0 (ak.new _ _ _)) (oG.one (show LS _ _ _ _ from HY6.out)) (by have:=Wn.out;omega) (by have h1:=iM.out.size;have h2:=TF.out.size;simp;omega) ?_;intro a9 c9 w9 jm eG dF;have pY:=Lib.hid (hnx a9 c9 w9 jm eG dF);clear hof hnx jm eG dF))
    go_roundw
    case rel=>exact⟨j+1,by omega,by go_num,by
     rw [kZ.out,zK.out]
     have h0:=pY.out
     rw [List.length_append,←lI.out]at h0
     exact h0⟩
    case measure=>simp [intOf];omega
  ·obtain rfl:j=L:=by omega
   have RZ:Hid (S.folds l=AC):=by show _=_;rw [Ar.out];congr 1;rw [JM.out,List.take_length]
   go_wp2
   go_ret
   rw [RZ.out]
   exact⟨ra,rc,by rw [lI.out];rfl,aQ.oU (Hy.out.row oG (fun q hq=> .inr hq)),iM.out⟩
end Go.Proofs.Ythdckndjggljpaa
