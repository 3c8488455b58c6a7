/- Proofs of this claim, part 30. No condition. -/
import Derived.Test.YthdckndjggljpaaS27
import Derived.Test.YthdckndjggljpaaS29
namespace Go.Proofs.Ythdckndjggljpaa
set_option linter.unusedVariables false
set_option linter.unusedSimpArgs false
set_option maxRecDepth 100000
set_option maxHeartbeats 64000000
section
open Go.RowKit
namespace S
def vY(k b:Int)(s:Bool)(nm:ByteArray)(has:Bool)(x i:X)(m0 m1 m2 m3:List S):S:=
 .mk k (if k=2 then b else 0) (if k=2 then s else false) (if k=2∨k=3 then nm else⟨#[]⟩) (if k=2∨k=3∨k=7∨k=8 then has else false) (if looks k has=true then X.bare x else X.zero) (if k=3∧has=true then X.bare i else X.zero)
  (if k=7 then m0 else[]) (if k=7 then m1 else[]) (if k=5∨k=6∨k=7∨k=11 then m2 else[]) (if k=5 then m3 else[])
mutual
def bare:S→S
 | .mk k b s nm has x i l0 l1 l2 l3=>vY k b s nm has x i (bI l0) (bI l1) (bI l2) (bI l3)
def bI:List S→List S
 |[]=>[]
 |y::l=>bare y::bI l
end
theorem mW(l:List S):bI l=l.map bare:=by
 induction l with
 |nil=>rw [bI];rfl
 |cons x xs ih=>rw [bI,ih];rfl
theorem DI{l:List S}{j:Nat}{y:S}(h:l[j]?=some y):bI (l.take (j+1))=bI (l.take j)++[bare y]:=by
 rw [mW,mW,List.take_add_one,h,List.map_append];rfl
end S
def Gl.bare(g:Gl):Gl:={g with ini:=g.ini.map X.bare}
def Fn.bare(f:Fn):Fn:={f with body:=S.bI f.body}
def Pg.bare(P:Pg):Pg:=⟨P.gs.map Gl.bare,P.fs.map Fn.bare⟩
def Ua(w:World)(l:List S)(e:Ending)(w':World):Prop:=∃a c,e= .returned (.slice a l.length c)∧aQ w' (fun q=>w.heap.size≤q) l (.slice a l.length c)∧Below w.heap.size w w'
def FP(l:List S):Prop:=∀(w:World)(p:Nat→Prop)(v:Value),aQ w p l v→Calls Try.prog 25 #[v] w (Ua w (S.bI l))
abbrev no:Nat→Prop:=fun _=>False
section
variable{w wi wj:World}{p:Nat→Prop}{g:Nat}{k b:Int}{s:Bool}{nm:ByteArray}{has:Bool}{x i:X}{l0 l1 l2 l3:List S}{x0 x1 x2 x3 x4 x5 i0 i1 i2 i3 i4 i5 v0 v1 v2 v3:Value}
theorem dP.aax(h:dP w p g k b s nm has x i l0 l1 l2 l3 x0 x1 x2 x3 x4 x5 i0 i1 i2 i3 i4 i5 v0 v1 v2 v3 wi)(b':Int)(s':Bool):dP w p g k b' s' nm has x i l0 l1 l2 l3 x0 x1 x2 x3 x4 x5 i0 i1 i2 i3 i4 i5 v0 v1 v2 v3 ((wi.setCell ⟨g,1,none⟩ (.int .i64 b')).setCell ⟨g,2,none⟩ (.bool s')):=by
 obtain⟨c,hx,hi,h0,h1,h2,h3⟩:=h.put (((aH.of_below (Below.refl _ _)).setCell 1 (.int .i64 b')).setCell 2 (.bool s'))
 exact⟨c,by simpa using(h.blk.dJ 1 (.int .i64 b')).dJ 2 (.bool s'),hx,hi,h0,h1,h2,h3,h.ne,h.lt⟩
theorem dP.Xk(h:dP w p g k b s nm has x i l0 l1 l2 l3 x0 x1 x2 x3 x4 x5 i0 i1 i2 i3 i4 i5 v0 v1 v2 v3 wi)(nm':ByteArray):dP w p g k b s nm' has x i l0 l1 l2 l3 x0 x1 x2 x3 x4 x5 i0 i1 i2 i3 i4 i5 v0 v1 v2 v3 (wi.setCell ⟨g,3,none⟩ (.string nm')):=by
 obtain⟨c,hx,hi,h0,h1,h2,h3⟩:=h.put ((aH.of_below (Below.refl _ _)).setCell 3 (.string nm'))
 exact⟨c,by simpa using h.blk.dJ 3 (.string nm'),hx,hi,h0,h1,h2,h3,h.ne,h.lt⟩
theorem dP.setH(h:dP w p g k b s nm has x i l0 l1 l2 l3 x0 x1 x2 x3 x4 x5 i0 i1 i2 i3 i4 i5 v0 v1 v2 v3 wi)(has':Bool):dP w p g k b s nm has' x i l0 l1 l2 l3 x0 x1 x2 x3 x4 x5 i0 i1 i2 i3 i4 i5 v0 v1 v2 v3 (wi.setCell ⟨g,4,none⟩ (.bool has')):=by
 obtain⟨c,hx,hi,h0,h1,h2,h3⟩:=h.put ((aH.of_below (Below.refl _ _)).setCell 4 (.bool has'))
 exact⟨c,by simpa using h.blk.dJ 4 (.bool has'),hx,hi,h0,h1,h2,h3,h.ne,h.lt⟩
theorem dP.set2(h:dP w p g k b s nm has x i l0 l1 l2 l3 x0 x1 x2 x3 x4 x5 i0 i1 i2 i3 i4 i5 v0 v1 v2 v3 wi){l:List S}{v:Value}(hl:aQ wi (Qp p w) l v):dP w p g k b s nm has x i l0 l1 l l3 x0 x1 x2 x3 x4 x5 i0 i1 i2 i3 i4 i5 v0 v1 v v3 (wi.setCell ⟨g,19,none⟩ v):=by
 have hc:aH g wi (wi.setCell ⟨g,19,none⟩ v):=(aH.of_below (Below.refl _ _)).setCell 19 v
 obtain⟨c,hx2,hi,h0,h1,h2,h3⟩:=h.put hc
 exact⟨c,by simpa using h.blk.dJ 19 v,hx2,hi,h0,h1,hl.move (fun q hq hl=>⟨hq,hc.block q hl (fun e=>by injection e with e;exact h.q hq e)⟩),h3,h.ne,h.lt⟩
theorem dP.aaC(h:dP w p g k b s nm has x i l0 l1 l2 l3 x0 x1 x2 x3 x4 x5 i0 i1 i2 i3 i4 i5 v0 v1 v2 v3 wi){l:List S}{v:Value}(hl:aQ wi (Qp p w) l v):dP w p g k b s nm has x i l0 l1 l2 l x0 x1 x2 x3 x4 x5 i0 i1 i2 i3 i4 i5 v0 v1 v2 v (wi.setCell ⟨g,20,none⟩ v):=by
 have hc:aH g wi (wi.setCell ⟨g,20,none⟩ v):=(aH.of_below (Below.refl _ _)).setCell 20 v
 obtain⟨c,hx2,hi,h0,h1,h2,h3⟩:=h.put hc
 exact⟨c,by simpa using h.blk.dJ 20 v,hx2,hi,h0,h1,h2,hl.move (fun q hq hl=>⟨hq,hc.block q hl (fun e=>by injection e with e;exact h.q hq e)⟩),h.ne,h.lt⟩
theorem dP.drew(h:dP w p g k b s nm has x i l0 l1 l2 l3 x0 x1 x2 x3 x4 x5 i0 i1 i2 i3 i4 i5 v0 v1 v2 v3 wi):dP w p g k b s nm has x i l0 l1 l2 l3 x0 x1 x2 x3 x4 x5 i0 i1 i2 i3 i4 i5 v0 v1 v2 v3 wi.drew:=h.keep (Below.refl _ _).drew
def Ia(N:Nat)(x:X)(v:Value)(w:World):Prop:=∃z0 z1 z2 z3 z4 z5,v= .agg #[z0,z1,z2,z3,z4,z5]∧dA w (fun q=>N≤q) x [z0,z1,z2,z3,z4,z5]
theorem Ia.keep{N:Nat}{x:X}{v:Value}{w w':World}(h:Ia N x v w)(hb:Below w.heap.size w w'):Ia N x v w':=by
 obtain⟨z0,z1,z2,z3,z4,z5,e,h⟩:=h;exact⟨z0,z1,z2,z3,z4,z5,e,h.keep hb⟩
theorem Ia.turn{N:Nat}{x:X}{v:Value}{w:World}{g:Nat}(hg:g<N)(o:Nat)(u:Value)(h:Ia N x v w):Ia N x v (w.setCell ⟨g,o,none⟩ u):=by
 obtain⟨z0,z1,z2,z3,z4,z5,e,h⟩:=h
 exact⟨z0,z1,z2,z3,z4,z5,e,h.move fun q hq _=>⟨hq,Below.heap_setCell w ⟨g,o,none⟩ u q (by show q≠g;omega)⟩⟩
theorem Ia.Xl{N:Nat}{x:X}{v:Value}{w:World}{g:Nat}(hg:g<N)(cs:Array Value)(h:Ia N x v w):Ia N x v (w.setRow g cs):=by
 obtain⟨z0,z1,z2,z3,z4,z5,e,h⟩:=h
 exact⟨z0,z1,z2,z3,z4,z5,e,h.move fun q hq _=>⟨hq,setRow_other w g q cs (by omega)⟩⟩
end
theorem wV{P:Program}{o:Oper}{a:Act}{w:World}{K:Act→World→Prop}{Q:Exit→Act→World→Prop}(ty:TypeId)(x y:Operand)(ho:o.op= .store ty x y)
 (g k:Nat)(vs:List Value)(hx:a.eval x= .pointer (some ⟨g,k,none⟩))(hy:a.eval y= .agg vs.toArray)(t:TypeId)(cs cs':Array Value)(hg:ak w g t cs)(hi:(P.info? ty).map (·.size)=some vs.length)(hfit:k+vs.length≤cs.size)(h1:∀u∈vs,u.oneCell'=true)
 (hcs:(cs.toList.take k++vs++cs.toList.drop (k+vs.length)).toArray=cs')(h:K (a.put o.dst undef) (w.setRow g cs')):o.wp P a w K Q:=by
 unfold Oper.wp execOp
 simp only [ho,hx,hy,Instr.storeAt,Instr.sureAddr,Sem.run_bind,Sem.run_pure,Result.andThen_ok,oM w g k t ty cs vs hg hi hfit h1,hcs]
 exact h
end
end Go.Proofs.Ythdckndjggljpaa
