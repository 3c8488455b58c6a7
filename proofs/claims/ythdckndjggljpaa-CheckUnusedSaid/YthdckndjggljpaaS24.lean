/- Proofs of this claim, part 24. No condition. -/
import Derived.Test.YthdckndjggljpaaS23
namespace Go.Proofs.Ythdckndjggljpaa
set_option linter.unusedVariables false
set_option linter.unusedSimpArgs false
set_option maxRecDepth 100000
set_option maxHeartbeats 64000000
section
open Go.RowKit
def cZ{α:Type}(q:Nat→Prop)(w:World)(B T z:Nat)(L:World→(Nat→Prop)→α→List Value→Prop)(acc:List α)(a:Option Addr)(c:Nat):Prop:=
 ∃cs:Nat→List Value,w.ownsRow B T z (.slice a acc.length c) acc.length (flat cs acc.length)∧∀i y,acc[i]?=some y→L w (fun k=>q k∧(Value.slice a acc.length c).ownBlock≠some k) y (cs i)
section
variable{α:Type}{q:Nat→Prop}{w w':World}{B T z:Nat}{L:World→(Nat→Prop)→α→List Value→Prop}{acc:List α}{a:Option Addr}{c:Nat}
theorem cZ.nil(q:Nat→Prop)(w:World)(B T z:Nat)(L:World→(Nat→Prop)→α→List Value→Prop):cZ q w B T z L [] none 0:=
 ⟨fun _=>[],⟨by simp [flat], .inl ⟨rfl,rfl⟩⟩,fun i y h=>by simp at h⟩
theorem cZ.keep(hL:Lay z L)(h:cZ q w B T z L acc a c)(hb:Below w.heap.size w w'):cZ q w' B T z L acc a c:=by
 obtain⟨cs,ho,hk⟩:=h
 exact⟨cs,aU ho fun b hb2=>hb.block b (aK ho b hb2).2,fun i y hy=>hL.move (hk i y hy) fun g hg hl=>⟨hg,hb.block g hl⟩⟩
theorem cZ.bC{g:Nat}(hL:Lay z L)(h:cZ q w B T z L acc a c)(hg:∀k,q k→k≠g)(hgB:g<B)(hc:aH g w w'):cZ q w' B T z L acc a c:=by
 obtain⟨cs,ho,hk⟩:=h
 exact⟨cs,aU ho fun b hb2=>hc.block b (aK ho b hb2).2 (fun e=>by injection e with e;have:=(aK ho b hb2).1;omega),fun i y hy=>hL.move (hk i y hy) fun k hk2 hl=>⟨hk2,hc.block k hl (fun e=>by injection e with e;exact hg k hk2.1 e)⟩⟩
theorem cZ.low(h:cZ q w B T z L acc a c):∀k,(Value.slice a acc.length c).ownBlock=some k→B≤k∧k<w.heap.size:=by
 obtain⟨cs,ho,_⟩:=h;exact aK ho
theorem cZ.app{y:α}{ys:List Value}{cs:Nat→List Value}{a':Option Addr}{c':Nat}(hL:Lay z L)(ho:w.ownsRow B T z (.slice a acc.length c) acc.length (flat cs acc.length))(hk:∀i y,acc[i]?=some y→L w (fun k=>q k∧(Value.slice a acc.length c).ownBlock≠some k) y (cs i))
 (hy:L w (fun k=>q k∧(Value.slice a acc.length c).ownBlock≠some k) y ys)(ho':w'.ownsRow B T z (.slice a' (acc.length+1) c') (acc.length+1) (flat cs acc.length++ys))(hg:w.grownBy w' (Value.slice a acc.length c).ownBlock)
 (hat:(Value.slice a' (acc.length+1) c').ownBlock=(Value.slice a acc.length c).ownBlock∨(Value.slice a' (acc.length+1) c').ownBlock=some w.heap.size):cZ q w' B T z L (acc++[y]) a' c':=by
 have hl:(acc++[y]).length=acc.length+1:=by simp
 unfold cZ
 rw [hl]
 have mv:∀x cs,L w (fun k=>q k∧(Value.slice a acc.length c).ownBlock≠some k) x cs→L w' (fun k=>q k∧(Value.slice a' (acc.length+1) c').ownBlock≠some k) x cs:=fun x cs h=>hL.move h fun g hg' hgl=>⟨⟨hg'.1,fun e=>by
  rcases hat with h1|h1
  ·exact hg'.2 (h1▸e)
  ·rw [h1]at e;injection e with e;omega⟩,hg.block g hgl (fun e=>hg'.2 e.symm)⟩
 refine⟨fun i=>if i<acc.length then cs i else ys,?_,fun i x hx=>?_⟩
 ·rw [jJ]
  have e1:flat (fun i=>if i<acc.length then cs i else ys) acc.length=flat cs acc.length:=lW fun i hi=>if_pos hi
  rw [e1]
  simpa using ho'
 ·rcases Nat.lt_or_ge i acc.length with hi|hi
  ·rw [List.getElem?_append_left hi]at hx
   simp only [if_pos hi]
   exact mv _ _ (hk i x hx)
  ·have hi2:i=acc.length:=by have:=(List.getElem?_eq_some_iff.1 hx).1;rw [hl]at this;omega
   subst hi2
   rw [List.getElem?_append_right (Nat.le_refl _),Nat.sub_self]at hx
   injection hx with hx
   subst hx
   simp only [if_neg (Nat.lt_irrefl _)]
   exact mv _ _ hy
theorem cZ.row(hL:Lay z L)(h:cZ q w B T z L acc a c)(hq:∀k,B≤k→q k):Row w q z (L w q) acc (.slice a acc.length c):=by
 obtain⟨cs,ho,hk⟩:=h
 obtain⟨_,_,e,h1,h2⟩:=bG ho
 injection e with _ _ e
 subst e
 have hk':∀i y,acc[i]?=some y→L w q y (cs i):=fun i y hy=>hL.move (hk i y hy) fun g hg _=>⟨hg.1,rfl⟩
 refine⟨a,c,cs,rfl,h1,h2,hk',fun h0=>?_⟩
 have hz:∀i,i<acc.length→(cs i).length=z:=fun i hi=>hL.len (hk i acc[i] (List.getElem?_eq_getElem hi))
 rcases ho.2 with⟨_,hz⟩|⟨g,cap,cur,ev,hbb,hg,hc,hm,hsz,htake⟩
 ·omega
 ·injection ev with ea _ _
  subst ea
  refine⟨g,0,hq g hbb,rfl,fun i j u hi hu=>?_⟩
  have hj:j<z:=by
   have:=hz i hi
   have:=(List.getElem?_eq_some_iff.1 hu).1
   omega
  have:=ho.cells (g:=g) rfl (i*z+j) u (by rw [og cs z acc.length hz i j hi hj];exact hu)
  rw [X.bV]at this
  rw [Nat.zero_add]at this⊢
  exact this
theorem cZ.BZ{y:α}{ys:List Value}{wr w6 w7:World}(hL:Lay z L)(ho:cZ q wr B T z L acc a c)(h6:Below wr.heap.size wr w6)(h7:Below w6.heap.size w6 w7)(hy:L w6 (fun k=>q k∧(k<B∨wr.heap.size≤k)) y ys):
 ∃cs,w7.ownsRow B T z (.slice a acc.length c) acc.length (flat cs acc.length)∧(∀k,(Value.slice a acc.length c).ownBlock=some k→B≤k∧k<w7.heap.size)∧∀a' c' w8,w8.ownsRow B T z (.slice a' (acc.length+1) c') (acc.length+1) (flat cs acc.length++ys)→w7.grownBy w8 (Value.slice a acc.length c).ownBlock→
  ((Value.slice a' (acc.length+1) c').ownBlock=(Value.slice a acc.length c).ownBlock∨(Value.slice a' (acc.length+1) c').ownBlock=some w7.heap.size)→cZ q w8 B T z L (acc++[y]) a' c':=by
 have hlo:=ho.low
 obtain⟨cs,h1,h2⟩:=(ho.keep hL h6).keep hL h7
 refine⟨cs,h1,aK h1,fun a' c' w8 o8 g8 t8=>?_⟩
 exact cZ.app hL h1 h2 (hL.move hy fun k hk hl=>⟨⟨hk.1,fun e=>by
  obtain⟨e1,e2⟩:=hlo k e
  rcases hk.2 with hk|hk
  ·omega
  ·omega⟩,h7.block k hl⟩) o8 g8 t8
end
end
section
open Go.RowKit
theorem yF{P:Program}(w:World)(g o:Nat)(t ty:TypeId)(cs:Array Value)(vs:List Value)(d:TypeDesc)(hg:ak w g t cs)(hvs:(cs.toList.drop o).take vs.length=vs)
 (hu:P.underlying ty=some d)(hd:(match d with| .struct _| .array _ _=>true|_=>false)=true)(hi:(P.info? ty).map (·.size)=some vs.length):(loadVar ty ⟨g,o,none⟩).run P w= .ok (.agg vs.toArray) w:=by
 have hl:(loadCells ⟨g,o,none⟩ vs.length).run P w= .ok vs.toArray w:=
  run_loadCells_list (P:=P) w ⟨g,o,none⟩ vs (fun j v hv=>by
   rw [X.bV,hg.cell,←Array.getElem?_toList]
   rw [←hvs,List.getElem?_take]at hv
   split at hv
   ·rwa [List.getElem?_drop]at hv
   ·cases hv)
 cases hq:P.info? ty with
 |none=>simp [hq]at hi
 |some i=>
  have hs:i.size=vs.length:=by simpa [hq]using hi
  have hagg:(isAgg ty).run P w= .ok true w:=by
   unfold isAgg
   rw [Sem.run_bind,run_underlying hu w]
   cases d<;>simp_all
  simp [loadVar,Sem.run_bind,hagg,sizeOf,typeInfo,hq,hs,hl]
theorem JI{P:Program}{ops:Array Oper}{rest:List Oper}{o:Oper}{a:Act}{w:World}{Q:Exit→Act→World→Prop}(hgd:o.guard=none)(ty:TypeId)(x:Operand)(ho:o.op= .load ty x)
 (g k:Nat)(hx:a.eval x= .pointer (some ⟨g,k,none⟩))(t:TypeId)(cs:Array Value)(vs:List Value)(d:TypeDesc)(hg:ak w g t cs)(hvs:(cs.toList.drop k).take vs.length=vs)
 (hu:P.underlying ty=some d)(hd:(match d with| .struct _| .array _ _=>true|_=>false)=true)(hi:(P.info? ty).map (·.size)=some vs.length)
 (h:wpList P ops Q rest (a.put o.dst (.agg vs.toArray)) w):wpList P ops Q (o::rest) a w:=
 wpList_plain hgd fun _ hK=>by
  unfold Oper.wp execOp
  simp only [ho,hx,Instr.loadAt,Instr.sureAddr,Sem.run_bind,Sem.run_pure,Result.andThen_ok,yF w g k t ty cs vs d hg hvs hu hd hi]
  exact hK _ _ h
theorem oM{P:Program}(w:World)(g o:Nat)(t ty:TypeId)(cs:Array Value)(vs:List Value)(hg:ak w g t cs)(hi:(P.info? ty).map (·.size)=some vs.length)(hfit:o+vs.length≤cs.size)(h1:∀u∈vs,u.oneCell'=true):
 (storeVar ty ⟨g,o,none⟩ (.agg vs.toArray)).run P w= .ok () (w.setRow g (cs.toList.take o++vs++cs.toList.drop (o+vs.length)).toArray):=by
 have hst:=run_storeCells_at P g o t vs 0 cs w hg (by simpa using hfit) h1
 simp only [Nat.add_zero]at hst
 cases hq:P.info? ty with
 |none=>simp [hq]at hi
 |some i=>
  have hs:i.size=vs.length:=by simpa [hq]using hi
  simp [storeVar,sizeOf,typeInfo,hq,Value.cells,hs,hst]
theorem aT{P:Program}{ops:Array Oper}{rest:List Oper}{o:Oper}{a:Act}{w:World}{Q:Exit→Act→World→Prop}(hgd:o.guard=none)(ty:TypeId)(x y:Operand)(ho:o.op= .store ty x y)
 (g k:Nat)(vs:List Value)(hx:a.eval x= .pointer (some ⟨g,k,none⟩))(hy:a.eval y= .agg vs.toArray)(t:TypeId)(cs cs':Array Value)(hg:ak w g t cs)(hi:(P.info? ty).map (·.size)=some vs.length)(hfit:k+vs.length≤cs.size)(h1:∀u∈vs,u.oneCell'=true)
 (hcs:(cs.toList.take k++vs++cs.toList.drop (k+vs.length)).toArray=cs')
 (h:wpList P ops Q rest (a.put o.dst undef) (w.setRow g cs')):wpList P ops Q (o::rest) a w:=
 wpList_plain hgd fun _ hK=>by
  unfold Oper.wp execOp
  simp only [ho,hx,hy,Instr.storeAt,Instr.sureAddr,Sem.run_bind,Sem.run_pure,Result.andThen_ok,oM w g k t ty cs vs hg hi hfit h1,hcs]
  exact hK _ _ h
end
section
open Go.RowKit
theorem CZ{P:Program}(w:World)(g o:Nat)(ty:TypeId)(vs:List Value)(d:TypeDesc)(hvs:∀j u,vs[j]?=some u→w.cell? ⟨g,o+j,none⟩=some u)
 (hu:P.underlying ty=some d)(hd:(match d with| .struct _| .array _ _=>true|_=>false)=true)(hi:(P.info? ty).map (·.size)=some vs.length):(loadVar ty ⟨g,o,none⟩).run P w= .ok (.agg vs.toArray) w:=by
 have hl:(loadCells ⟨g,o,none⟩ vs.length).run P w= .ok vs.toArray w:=
  run_loadCells_list (P:=P) w ⟨g,o,none⟩ vs (fun j v hv=>by rw [X.bV];exact hvs j v hv)
 cases hq:P.info? ty with
 |none=>simp [hq]at hi
 |some i=>
  have hs:i.size=vs.length:=by simpa [hq]using hi
  have hagg:(isAgg ty).run P w= .ok true w:=by
   unfold isAgg
   rw [Sem.run_bind,run_underlying hu w]
   cases d<;>simp_all
  simp [loadVar,Sem.run_bind,hagg,sizeOf,typeInfo,hq,hs,hl]
theorem mX{P:Program}{ops:Array Oper}{rest:List Oper}{o:Oper}{a:Act}{w:World}{Q:Exit→Act→World→Prop}(hgd:o.guard=none)(ty:TypeId)(x:Operand)(ho:o.op= .load ty x)
 (g k:Nat)(hx:a.eval x= .pointer (some ⟨g,k,none⟩))(vs:List Value)(d:TypeDesc)(hvs:∀j u,vs[j]?=some u→w.cell? ⟨g,k+j,none⟩=some u)
 (hu:P.underlying ty=some d)(hd:(match d with| .struct _| .array _ _=>true|_=>false)=true)(hi:(P.info? ty).map (·.size)=some vs.length)
 (h:wpList P ops Q rest (a.put o.dst (.agg vs.toArray)) w):wpList P ops Q (o::rest) a w:=
 wpList_plain hgd fun _ hK=>by
  unfold Oper.wp execOp
  simp only [ho,hx,Instr.loadAt,Instr.sureAddr,Sem.run_bind,Sem.run_pure,Result.andThen_ok,CZ w g k ty vs d hvs hu hd hi]
  exact hK _ _ h
theorem Zv{n:Nat}(h:n=21):(Try.prog.info? 102).map (·.size)=some n:=by subst h;kernel_rfl
abbrev zS:Array Value:=#[.int .i64 0, .int .i64 0, .bool false, .string ⟨#[]⟩, .bool false, .int .i64 0, .int .u64 0, .int .i64 0, .bool false, .string ⟨#[]⟩, .slice none 0 0, .int .i64 0, .int .u64 0, .int .i64 0, .bool false, .string ⟨#[]⟩, .slice none 0 0, .slice none 0 0, .slice none 0 0, .slice none 0 0, .slice none 0 0]
theorem ak.DJ{w:World}{g:Nat}{t:TypeId}{old:Array Value}(h:ak w g t old)(cs:Array Value):ak (w.setRow g cs) g t cs:=setRow_heap w g old cs t _ h
theorem Below.DJ{B:Nat}{w w':World}(h:Below B w w'){g:Nat}(hg:B≤g)(cs:Array Value):Below B w (w'.setRow g cs):=
 h.trans ⟨rfl,rfl,rfl,by simp [World.setRow],fun k hk=>setRow_other w' g k cs (by omega)⟩
theorem ak.aeg{w:World}{g:Nat}{t:TypeId}{cs:Array Value}(h:ak w g t cs){g':Nat}(hn:g≠g')(cs':Array Value):ak (w.setRow g' cs') g t cs:=(setRow_other w g' g cs' hn).trans h
theorem ak.at{w:World}{g:Nat}{t:TypeId}{cs:List Value}(h:ak w g t cs.toArray):∀j u,cs[j]?=some u→w.cell? ⟨g,0+j,none⟩=some u:=fun j u hu=>by
 rw [Nat.zero_add,h.cell,←hu];simp
theorem fV.one{w:World}{p:Nat→Prop}{y:S}{cs:List Value}(h:fV w p y cs):cs.toArray.all (·.oneCell')=true:=by
 obtain⟨xs,is,v0,v1,v2,v3,e,hx,hi,h0,h1,h2,h3⟩:=h.parts
 obtain⟨a0,c0,rfl,_⟩:=h0.parts
 obtain⟨a1,c1,rfl,_⟩:=h1.parts
 obtain⟨a2,c2,rfl,_⟩:=h2.parts
 obtain⟨a3,c3,rfl,_⟩:=h3.parts
 obtain⟨ax,cx,rfl,_⟩:=hx.at.open
 obtain⟨ai,ci,rfl,_⟩:=hi.at.open
 subst e
 simp [S.cells,X.cells,Value.oneCell']
theorem ak.at0{w:World}{g:Nat}{t:TypeId}{cs:List Value}(h:ak w g t cs.toArray):∀j u,cs[j]?=some u→w.cell? ⟨g,j,none⟩=some u:=fun j u hu=>by
 rw [h.cell,←hu];simp
end
section
open Go.RowKit
abbrev Qp(p:Nat→Prop)(w:World):Nat→Prop:=fun k=>p k∨w.heap.size≤k
def Vj(p:Nat→Prop)(w:World)(l:List S)(e:Ending)(w':World):Prop:=∃a c,e= .returned (.slice a l.length c)∧aQ w' (Qp p w) l (.slice a l.length c)∧Below w.heap.size w w'
def AA(l:List S):Prop:=∀(w:World)(p:Nat→Prop)(v:Value),aQ w p l v→Calls Try.prog 21 #[v] w (Vj p w (S.folds l))
structure dP(w:World)(p:Nat→Prop)(g:Nat)(k b:Int)(s:Bool)(nm:ByteArray)(has:Bool)(x i:X)(l0 l1 l2 l3:List S)(x0 x1 x2 x3 x4 x5 i0 i1 i2 i3 i4 i5 v0 v1 v2 v3:Value)(wi:World):Prop where
 bC:aH g w wi
 blk:ak wi g 102 #[.int .i64 k, .int .i64 b, .bool s, .string nm, .bool has,x0,x1,x2,x3,x4,x5,i0,i1,i2,i3,i4,i5,v0,v1,v2,v3]
 x:dA wi (Qp p w) x [x0,x1,x2,x3,x4,x5]
 i:dA wi (Qp p w) i [i0,i1,i2,i3,i4,i5]
 l0:aQ wi (Qp p w) l0 v0
 l1:aQ wi (Qp p w) l1 v1
 l2:aQ wi (Qp p w) l2 v2
 l3:aQ wi (Qp p w) l3 v3
 ne:∀k,p k→k≠g
 lt:g<w.heap.size
section
variable{w wi wj:World}{p:Nat→Prop}{g:Nat}{k b:Int}{s:Bool}{nm:ByteArray}{has:Bool}{x i:X}{l0 l1 l2 l3:List S}{x0 x1 x2 x3 x4 x5 i0 i1 i2 i3 i4 i5 v0 v1 v2 v3:Value}
theorem dP.q(h:dP w p g k b s nm has x i l0 l1 l2 l3 x0 x1 x2 x3 x4 x5 i0 i1 i2 i3 i4 i5 v0 v1 v2 v3 wi){j:Nat}(hj:Qp p w j):j≠g:=by
 rcases hj with hj|hj
 ·exact h.ne j hj
 ·have:=h.lt;omega
theorem dP.keep(h:dP w p g k b s nm has x i l0 l1 l2 l3 x0 x1 x2 x3 x4 x5 i0 i1 i2 i3 i4 i5 v0 v1 v2 v3 wi)(hb:Below wi.heap.size wi wj):dP w p g k b s nm has x i l0 l1 l2 l3 x0 x1 x2 x3 x4 x5 i0 i1 i2 i3 i4 i5 v0 v1 v2 v3 wj:=
 ⟨h.bC.trans (aH.of_below hb),h.blk.keep hb,h.x.keep hb,h.i.keep hb,h.l0.keep hb,h.l1.keep hb,h.l2.keep hb,h.l3.keep hb,h.ne,h.lt⟩
theorem dP.put(h:dP w p g k b s nm has x i l0 l1 l2 l3 x0 x1 x2 x3 x4 x5 i0 i1 i2 i3 i4 i5 v0 v1 v2 v3 wi)(hc:aH g wi wj):aH g w wj∧dA wj (Qp p w) x [x0,x1,x2,x3,x4,x5]∧dA wj (Qp p w) i [i0,i1,i2,i3,i4,i5]∧aQ wj (Qp p w) l0 v0∧aQ wj (Qp p w) l1 v1∧aQ wj (Qp p w) l2 v2∧aQ wj (Qp p w) l3 v3:=by
 have hf:∀q,Qp p w q→q<wi.heap.size→Qp p w q∧wj.heap[q]?=wi.heap[q]?:=fun q hq hl=>⟨hq,hc.block q hl (fun e=>by injection e with e;exact h.q hq e)⟩
 exact⟨h.bC.trans hc,h.x.move hf,h.i.move hf,h.l0.move hf,h.l1.move hf,h.l2.move hf,h.l3.move hf⟩
theorem qh(w:World)(g:Nat)(cs:Array Value):aH g w (w.setRow g cs):=⟨rfl,rfl,rfl,by simp [World.setRow],fun k hk hne=>setRow_other w g k cs (fun e=>hne (by rw [e]))⟩
theorem dP.rM(h:dP w p g k b s nm has x i l0 l1 l2 l3 x0 x1 x2 x3 x4 x5 i0 i1 i2 i3 i4 i5 v0 v1 v2 v3 wi){x':X}{y0 y1 y2 y3 y4 y5:Value}(hx:dA wi (fun q=>w.heap.size≤q) x' [y0,y1,y2,y3,y4,y5]):
 dP w p g k b s nm has x' i l0 l1 l2 l3 y0 y1 y2 y3 y4 y5 i0 i1 i2 i3 i4 i5 v0 v1 v2 v3 (wi.setRow g #[.int .i64 k, .int .i64 b, .bool s, .string nm, .bool has,y0,y1,y2,y3,y4,y5,i0,i1,i2,i3,i4,i5,v0,v1,v2,v3]):=by
 obtain⟨c,_,hi,h0,h1,h2,h3⟩:=h.put (qh wi g _)
 exact⟨c,h.blk.jQ _,hx.move fun q hq hl=>⟨.inr hq,setRow_other wi g q _ (fun e=>by have:=h.lt;omega)⟩,hi,h0,h1,h2,h3,h.ne,h.lt⟩
theorem dP.Xn(h:dP w p g k b s nm has x i l0 l1 l2 l3 x0 x1 x2 x3 x4 x5 i0 i1 i2 i3 i4 i5 v0 v1 v2 v3 wi){i':X}{y0 y1 y2 y3 y4 y5:Value}(hx:dA wi (fun q=>w.heap.size≤q) i' [y0,y1,y2,y3,y4,y5]):
 dP w p g k b s nm has x i' l0 l1 l2 l3 x0 x1 x2 x3 x4 x5 y0 y1 y2 y3 y4 y5 v0 v1 v2 v3 (wi.setRow g #[.int .i64 k, .int .i64 b, .bool s, .string nm, .bool has,x0,x1,x2,x3,x4,x5,y0,y1,y2,y3,y4,y5,v0,v1,v2,v3]):=by
 obtain⟨c,hx2,_,h0,h1,h2,h3⟩:=h.put (qh wi g _)
 exact⟨c,h.blk.jQ _,hx2,hx.move fun q hq hl=>⟨.inr hq,setRow_other wi g q _ (fun e=>by have:=h.lt;omega)⟩,h0,h1,h2,h3,h.ne,h.lt⟩
theorem dP.set0(h:dP w p g k b s nm has x i l0 l1 l2 l3 x0 x1 x2 x3 x4 x5 i0 i1 i2 i3 i4 i5 v0 v1 v2 v3 wi){l:List S}{v:Value}(hl:aQ wi (Qp p w) l v):dP w p g k b s nm has x i l l1 l2 l3 x0 x1 x2 x3 x4 x5 i0 i1 i2 i3 i4 i5 v v1 v2 v3 (wi.setCell ⟨g,17,none⟩ v):=by
 have hc:aH g wi (wi.setCell ⟨g,17,none⟩ v):=(aH.of_below (Below.refl _ _)).setCell 17 v
 obtain⟨c,hx2,hi,h0,h1,h2,h3⟩:=h.put hc
 exact⟨c,by simpa using h.blk.dJ 17 v,hx2,hi,hl.move (fun q hq hl=>⟨hq,hc.block q hl (fun e=>by injection e with e;exact h.q hq e)⟩),h1,h2,h3,h.ne,h.lt⟩
theorem dP.set1(h:dP w p g k b s nm has x i l0 l1 l2 l3 x0 x1 x2 x3 x4 x5 i0 i1 i2 i3 i4 i5 v0 v1 v2 v3 wi){l:List S}{v:Value}(hl:aQ wi (Qp p w) l v):dP w p g k b s nm has x i l0 l l2 l3 x0 x1 x2 x3 x4 x5 i0 i1 i2 i3 i4 i5 v0 v v2 v3 (wi.setCell ⟨g,18,none⟩ v):=by
 have hc:aH g wi (wi.setCell ⟨g,18,none⟩ v):=(aH.of_below (Below.refl _ _)).setCell 18 v
 obtain⟨c,hx2,hi,h0,h1,h2,h3⟩:=h.put hc
 exact⟨c,by simpa using h.blk.dJ 18 v,hx2,hi,h0,hl.move (fun q hq hl=>⟨hq,hc.block q hl (fun e=>by injection e with e;exact h.q hq e)⟩),h2,h3,h.ne,h.lt⟩
theorem dP.AB(h:dP w p g k b s nm has x i l0 l1 l2 l3 x0 x1 x2 x3 x4 x5 i0 i1 i2 i3 i4 i5 v0 v1 v2 v3 wi){l m:List S}{v u:Value}(hl:aQ wi (Qp p w) l v)(hm:aQ wi (Qp p w) m u):dP w p g k b s nm has x i l0 l1 l m x0 x1 x2 x3 x4 x5 i0 i1 i2 i3 i4 i5 v0 v1 v u ((wi.setCell ⟨g,19,none⟩ v).setCell ⟨g,20,none⟩ u):=by
 have hc:aH g wi ((wi.setCell ⟨g,19,none⟩ v).setCell ⟨g,20,none⟩ u):=((aH.of_below (Below.refl _ _)).setCell 19 v).setCell 20 u
 obtain⟨c,hx2,hi,h0,h1,h2,h3⟩:=h.put hc
 have hf:∀q,Qp p w q→q<wi.heap.size→Qp p w q∧((wi.setCell ⟨g,19,none⟩ v).setCell ⟨g,20,none⟩ u).heap[q]?=wi.heap[q]?:=fun q hq hl=>⟨hq,hc.block q hl (fun e=>by injection e with e;exact h.q hq e)⟩
 exact⟨c,by simpa using(h.blk.dJ 19 v).dJ 20 u,hx2,hi,h0,h1,hl.move hf,hm.move hf,h.ne,h.lt⟩
theorem Vj.later{l:List S}{e:Ending}(h:Vj (Qp p w) wi l e wj)(hs:w.heap.size≤wi.heap.size):∃a c,e= .returned (.slice a l.length c)∧aQ wj (Qp p w) l (.slice a l.length c)∧Below wi.heap.size wi wj:=by
 obtain⟨a,c,e1,h1,h2⟩:=h
 refine⟨a,c,e1,h1.move fun q hq _=>⟨?_,rfl⟩,h2⟩
 rcases hq with hq|hq
 ·exact hq
 ·exact .inr (by omega)
theorem aQ.nil0(w:World)(p:Nat→Prop):aQ w p [] (.slice none 0 0):= .mk _ none 0 (fun _=>[]) (Nat.le_refl _) (Nat.zero_le _) (fun i x h=>by simp at h) (fun h=>absurd h (Nat.lt_irrefl _))
end
theorem qg(w:World)(p:Nat→Prop)(g:Nat)(k:Int)(hk:k≠5)(c0:w.cell? ⟨g,0,none⟩=some (.int .i64 k))(hg:g<w.heap.size):Calls Try.prog 58 #[P g] w (Vj p w []):=by
 have q5:(k !=5)=true:=by simpa using hk
 clear hk
 go_enter Try.func58,Try.ntmps58
 go_wp2
 go_ret
 exact⟨none,0,rfl,aQ.nil0 _ _,Below.refl _ _⟩
theorem JA(w:World)(p:Nat→Prop)(g:Nat)(l:List S)(v:Value)(hI:AA l)(c0:w.cell? ⟨g,0,none⟩=some (.int .i64 5))(c20:w.cell? ⟨g,20,none⟩=some v)(hg:g<w.heap.size)(hl:aQ w p l v):Calls Try.prog 58 #[P g] w (Vj p w (S.folds l)):=by
 have H:=Lib.hid (hI w p v hl)
 clear hI hl
 go_enter Try.func58,Try.ntmps58
 go_wp2_with(first|(go_at_call 21;refine H.out.mono ?_;rintro e w2⟨a,c,rfl,h1,h2⟩;have H1:=Lib.hid (And.intro h1 h2);clear h1 h2))
 go_ret
 exact⟨a,c,rfl,H1.out.1,H1.out.2⟩
end
end Go.Proofs.Ythdckndjggljpaa
