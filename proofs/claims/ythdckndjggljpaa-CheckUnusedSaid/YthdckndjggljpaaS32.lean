/- Proofs of this claim, part 32. No condition. -/
import Derived.Test.YthdckndjggljpaaS31
namespace Go.Proofs.Ythdckndjggljpaa
set_option linter.unusedVariables false
set_option linter.unusedSimpArgs false
set_option maxRecDepth 100000
set_option maxHeartbeats 64000000
section
open Go.RowKit
theorem Qe{x:X}(hs:X.gK x)(hw:X.Wf x)(p:Nat→Prop)(w:World):OY p w x (X.fold x):=fun w1 cs h=>zI x hs hw w1 cs h.at
theorem S.AL(l:List S):∀N d,(S.cnts l N d).1=0→N+l.length≤(S.cnts l N d).2:=by
 induction l with
 |nil=>intro N d _;rw [S.cnts];exact Nat.le_refl _
 |cons y l ih=>
  intro N d h
  rw [S.cnts]at h⊢
  split at h
  ·rename_i h1
   rw [if_pos h1]
   have h2:=ih _ d h
   have h3:=(S.rU y N d).2 h1
   rw [List.length_cons];omega
  ·rename_i h1;exact absurd h h1
theorem S.uG{l:List S}{N:Nat}{d:Int}(hN:N≤20000)(h:(S.cnts l N d).1=0):∀y∈l,∃M,M≤20000∧(S.cnt y M d).1=0:=by
 induction l generalizing N with
 |nil=>intro y hy;simp at hy
 |cons x l ih=>
  rw [S.cnts]at h
  split at h
  ·rename_i h1
   intro y hy
   rcases List.mem_cons.1 hy with rfl|hy
   ·exact⟨N,hN,h1⟩
   ·exact ih (S.uH x N d hN h1) h y hy
  ·rename_i h1;exact absurd h h1
theorem AY{l:List S}{N:Nat}{d:Int}(hN:N≤20000)(hc:(S.cnts l N d).1=0)(hw:∀y∈l,S.Wf y)(ih:∀y∈l,∀N d,N≤20000→(S.cnt y N d).1=0→S.Wf y→PaI y):AA l:=by
 intro w p v hl
 have hlen:l.length≤100000:=by
  have h1:=S.AL l N d hc
  have h2:(S.cnts l N d).2≤20000:=S.bF l N d hN hc
  omega
 refine(EH l hlen (fun y hy=>by obtain⟨M,h1,h2⟩:=S.uG hN hc y hy;exact ih y hy M d h1 h2 (hw y hy)) (fun y hy hk=>?_) w (fun k=>p k∧k<w.heap.size) v (fun k hk=>hk.2) (hl.move fun g hg hlt=>⟨⟨hg,hlt⟩,rfl⟩)).mono ?_
 ·obtain⟨M,h1,h2⟩:=S.uG hN hc y hy
  have hwy:=hw y hy
  obtain⟨k,b,s,nm,has,x,i,l0,l1,l2,l3⟩:=y
  have hk:k=5∨k=6:=hk
  obtain⟨N1,N2,N3,N4,N5,C⟩:=S.iJ h2
  have hlk:S.looks k has=true:=by rcases hk with rfl|rfl<;>rfl
  have e:S.Eo (.mk k b s nm has x i l0 l1 l2 l3)=S.prt k b s nm has x i l0 l1 l2 l3 (S.folds l0) (S.folds l1) (S.folds l2) (S.folds l3):=rfl
  have hg:=X.dL x (C.sH hlk) hwy.x.1
  rw [e]
  show X.gK (if S.looks k has=true then X.fold x else x)∧X.Wf (if S.looks k has=true then X.fold x else x)
  rw [if_pos hlk];exact⟨hg.1,hg.2.1⟩
 ·intro e w'⟨a,c,e1,h1,h2⟩
  exact⟨a,c,e1,h1.move fun g hg _=>⟨by rcases hg with hg|hg;exact .inl hg.1;exact .inr hg,rfl⟩,h2⟩
theorem Qc(y:S):∀N d,N≤20000→(S.cnt y N d).1=0→S.Wf y→PaI y:=by
 induction y using S.up with
 |_ y ih=>
  intro N d hN hc hw
  obtain⟨k,b,s,nm,has,x,i,l0,l1,l2,l3⟩:=y
  obtain⟨N1,N2,N3,N4,N5,C⟩:=S.iJ hc
  obtain⟨wx,wi,w0,w1,w2,w3⟩:=hw.x
  have f0:k=7→AA l0:=fun hk=>AY C.b1 (by rw [C.yH hk]) w0 (fun y hy=>ih y (.inl hy))
  have f1:k=7→AA l1:=fun hk=>AY C.b3 (by rw [C.yI hk]) w1 (fun y hy=>ih y (.inr (.inl hy)))
  have f2:k=5∨k=6∨k=7∨k=11→AA l2:=fun hk=>AY C.b4 (by rw [C.pR hk]) w2 (fun y hy=>ih y (.inr (.inr (.inl hy))))
  have f3:k=5→AA l3:=fun hk=>AY C.b5 (C.c6 hk) w3 (fun y hy=>ih y (.inr (.inr (.inr hy))))
  intro w p g x0 x1 x2 x3 x4 x5 i0 i1 i2 i3 i4 i5 v0 v1 v2 v3 h
  have h:dP w p g k b s nm has x i l0 l1 l2 l3 x0 x1 x2 x3 x4 x5 i0 i1 i2 i3 i4 i5 v0 v1 v2 v3 w:=h
  have e:S.Eo (.mk k b s nm has x i l0 l1 l2 l3)=S.prt k b s nm has x i l0 l1 l2 l3 (S.folds l0) (S.folds l1) (S.folds l2) (S.folds l3):=rfl
  rw [e]
  unfold S.prt
  by_cases k2:k=2
  ·subst k2
   cases has with
   |true=>exact Qd w p g b s nm x i l0 l1 l2 l3 x0 x1 x2 x3 x4 x5 i0 i1 i2 i3 i4 i5 v0 v1 v2 v3 h _ (Qe (C.sH rfl) wx p w)
   |false=>exact LY w p g b s nm x i l0 l1 l2 l3 x0 x1 x2 x3 x4 x5 i0 i1 i2 i3 i4 i5 v0 v1 v2 v3 h
  by_cases k3:k=3
  ·subst k3
   cases has with
   |true=>exact Qg w p g b s nm x i l0 l1 l2 l3 x0 x1 x2 x3 x4 x5 i0 i1 i2 i3 i4 i5 v0 v1 v2 v3 h _ (Qe (C.sH rfl) wx p w) _ (Qe (C.Wy rfl rfl) wi p w)
   |false=>exact LZ w p g b s nm x i l0 l1 l2 l3 x0 x1 x2 x3 x4 x5 i0 i1 i2 i3 i4 i5 v0 v1 v2 v3 h _ (Qe (C.sH rfl) wx p w)
  by_cases k4:k=4
  ·subst k4
   exact Qh w p g b s nm has x i l0 l1 l2 l3 x0 x1 x2 x3 x4 x5 i0 i1 i2 i3 i4 i5 v0 v1 v2 v3 h _ (Qe (C.sH rfl) wx p w)
  by_cases k5:k=5
  ·subst k5
   exact Qi w p g b s nm has x i l0 l1 l2 l3 x0 x1 x2 x3 x4 x5 i0 i1 i2 i3 i4 i5 v0 v1 v2 v3 h _ (Qe (C.sH rfl) wx p w) (f2 (.inl rfl)) (f3 rfl)
  by_cases k6:k=6
  ·subst k6
   exact Qj w p g b s nm has x i l0 l1 l2 l3 x0 x1 x2 x3 x4 x5 i0 i1 i2 i3 i4 i5 v0 v1 v2 v3 h _ (Qe (C.sH rfl) wx p w) (f2 (.inr (.inl rfl)))
  by_cases k7:k=7
  ·subst k7
   cases has with
   |true=>exact Qk w p g b s nm x i l0 l1 l2 l3 x0 x1 x2 x3 x4 x5 i0 i1 i2 i3 i4 i5 v0 v1 v2 v3 h _ (Qe (C.sH rfl) wx p w) (f0 rfl) (f1 rfl) (f2 (.inr (.inr (.inl rfl))))
   |false=>exact Lu w p g b s nm x i l0 l1 l2 l3 x0 x1 x2 x3 x4 x5 i0 i1 i2 i3 i4 i5 v0 v1 v2 v3 h (f0 rfl) (f1 rfl) (f2 (.inr (.inr (.inl rfl))))
  by_cases k8:k=8
  ·subst k8
   cases has with
   |true=>exact Ql w p g b s nm x i l0 l1 l2 l3 x0 x1 x2 x3 x4 x5 i0 i1 i2 i3 i4 i5 v0 v1 v2 v3 h _ (Qe (C.sH rfl) wx p w)
   |false=>exact L6 w p g b s nm x i l0 l1 l2 l3 x0 x1 x2 x3 x4 x5 i0 i1 i2 i3 i4 i5 v0 v1 v2 v3 h
  by_cases k11:k=11
  ·subst k11
   cases has<;>exact LQ w p g b s nm _ x i l0 l1 l2 l3 x0 x1 x2 x3 x4 x5 i0 i1 i2 i3 i4 i5 v0 v1 v2 v3 h (f2 (.inr (.inr (.inr rfl))))
  have hlk:S.looks k has=false:=by
   unfold S.looks
   rw [show(k==3)=false by simpa using k3,show(k==4)=false by simpa using k4,show(k==5)=false by simpa using k5,show(k==6)=false by simpa using k6,show(k==2)=false by simpa using k2,show(k==8)=false by simpa using k8,show(k==7)=false by simpa using k7]
   simp
  rw [hlk,if_neg (by decide),if_neg (fun hh=>k3 hh.1),if_neg k7,if_neg k7,if_neg (by omega),if_neg k5,if_neg (by omega)]
  exact Qm w p g k b s nm has x i l0 l1 l2 l3 x0 x1 x2 x3 x4 x5 i0 i1 i2 i3 i4 i5 v0 v1 v2 v3 h k2 k3 k4 k5 k6 k7 k8 k11
theorem Vq{l:List S}{N:Nat}{d:Int}(hN:N≤20000)(hc:(S.cnts l N d).1=0)(hw:∀y∈l,S.Wf y):AA l:=AY hN hc hw fun y _=>Qc y
end
section
open Go.RowKit
def ByI(y:S):Prop:=((S.looks y.kind y.has=true→WA y.xx)∧(y.kind=3∧y.has=true→WA y.ii))∧((y.kind=7→FP y.ini∧FP y.step)∧(y.kind=5∨y.kind=6∨y.kind=7∨y.kind=11→FP y.body)∧(y.kind=5→FP y.els))
theorem Ah{l:List S}{N:Nat}{d:Int}(hN:N≤20000)(hc:(S.cnts l N d).1=0)(ih:∀y∈l,∀N d,N≤20000→(S.cnt y N d).1=0→ByI y):FP l:=by
 intro w p v hl
 have hlen:l.length≤100000:=by
  have h1:=S.AL l N d hc
  have h2:(S.cnts l N d).2≤20000:=S.bF l N d hN hc
  omega
 have hk:∀y∈l,ByI y:=fun y hy=>by obtain⟨M,h1,h2⟩:=S.uG hN hc y hy;exact ih y hy M d h1 h2
 exact Aq l hlen (fun y hy=>(hk y hy).1) (fun y hy=>(hk y hy).2) w p v hl
theorem TQ(y:S):∀N d,N≤20000→(S.cnt y N d).1=0→ByI y:=by
 induction y using S.up with
 |_ y ih=>
  intro N d hN hc
  obtain⟨k,b,s,nm,has,x,i,l0,l1,l2,l3⟩:=y
  obtain⟨N1,N2,N3,N4,N5,C⟩:=S.iJ hc
  have f0:k=7→FP l0:=fun hk=>Ah C.b1 (by rw [C.yH hk]) (fun y hy=>ih y (.inl hy))
  have f1:k=7→FP l1:=fun hk=>Ah C.b3 (by rw [C.yI hk]) (fun y hy=>ih y (.inr (.inl hy)))
  have f2:k=5∨k=6∨k=7∨k=11→FP l2:=fun hk=>Ah C.b4 (by rw [C.pR hk]) (fun y hy=>ih y (.inr (.inr (.inl hy))))
  have f3:k=5→FP l3:=fun hk=>Ah C.b5 (C.c6 hk) (fun y hy=>ih y (.inr (.inr (.inr hy))))
  exact⟨⟨fun h=>yJ x (C.sH h),fun h=>yJ i (C.Wy h.1 h.2)⟩,fun h=>⟨f0 h,f1 h⟩,f2,f3⟩
theorem V5{l:List S}{N:Nat}{d:Int}(hN:N≤20000)(hc:(S.cnts l N d).1=0):FP l:=Ah hN hc fun y _=>TQ y
end
section
open Go.RowKit Go.Maps
def SMap{V:Type}(elem:Value→Option (DataW Unit×List MemPlace))(d:V→DataW Unit)(w:World)(B n:Nat)(f:List UInt8→Option V):Prop:=
 ∃D:DataW Unit,w.ownsMap Try.prog 9 elem B n D∧IsMap D∧∀l,Maps.has D (.string l)=(f l).isSome∧∀zd,D.atKey (.string l) zd=match f l with|some v=>d v|none=>zd
namespace SMap
variable{V:Type}{elem:Value→Option (DataW Unit×List MemPlace)}{d:V→DataW Unit}{w w':World}{B n:Nat}{f f':List UInt8→Option V}
theorem made(w:World):SMap elem d (w.alloc (.map #[] 0)) w.heap.size 0 (fun _=>none):=
 ⟨_,World.ownsMap_made (H:=Unit) w _ _ elem,isMap_empty,fun l=>⟨rfl,fun zd=>rfl⟩⟩
theorem lt(h:SMap elem d w B n f):B<w.heap.size:=by obtain⟨D,h,_⟩:=h;exact h.lt
theorem mono(h:SMap elem d w B n f){m:Nat}(hm:n≤m):SMap elem d w B m f:=by obtain⟨D,h,r⟩:=h;exact⟨D,h.mono hm,r⟩
theorem congr(h:SMap elem d w B n f)(e:∀l,f l=f' l):SMap elem d w B n f':=by rw [←funext e];exact h
theorem same(h:SMap elem d w B n f)(hb:w'.heap[B]?=w.heap[B]?):SMap elem d w' B n f:=by
 obtain⟨D,⟨es,clock,h,r⟩,q⟩:=h
 exact⟨D,⟨es,clock,hb.trans h,r⟩,q⟩
theorem keep(h:SMap elem d w B n f)(hb:Below w.heap.size w w'):SMap elem d w' B n f:=h.same (hb.block B h.lt)
theorem put(h:SMap elem d w B n f){t e:TypeId}(ht:Try.prog.underlying t=some (.map 9 e))(hn:n<maxLen){s:ByteArray}(hs:s.size≤maxLen){v:V}{val:Value}(hv:elem val=some (d v,[])):
 ∃w',(Instr.mapUpdate t (.map (some B)) (.string s) val).run Try.prog w= .ok () w'∧SMap elem d w' B (n+1) (fun l=>if l=s.data.toList then some v else f l)∧w.grownBy w' (some B):=by
 obtain⟨D,ho,hi,hf⟩:=h
 have hkey:keyOf Try.prog 9 (.string s)=some (.string s.data.toList):=WideMaps.keyOf_string_mk Try.underlying9 hs
 obtain⟨w',hr,ho',hg⟩:=ho.update law9 ht hn hkey hv
 refine⟨w',hr,⟨_,ho',hi.put _ _,fun l=>?_⟩,hg⟩
 by_cases e:l=s.data.toList
 ·subst e
  simp only [if_pos]
  exact⟨has_put_same hi (show WideAt.IsKeyLit (.string _)from trivial) _,fun zd=>atKey_put_same hi (show WideAt.IsKeyLit (.string _)from trivial) _ _⟩
 ·simp only [if_neg e]
  have hne:Lit.string l≠ .string s.data.toList:=by intro h2;injection h2 with h2;exact e h2
  exact⟨(has_put_other hne _).trans (hf l).1,fun zd=>(atKey_put_other hne _ _).trans ((hf l).2 zd)⟩
theorem look_ok(h:SMap elem d w B n f){t e:TypeId}(ht:Try.prog.underlying t=some (.map 9 e)){z:Value}(hz:(zeroValue e).run Try.prog w= .ok z w){zd:DataW Unit}{zp:List MemPlace}(hzd:elem z=some (zd,zp)){s:ByteArray}(hs:s.size≤maxLen):
 ∃v ps,(Instr.lookup t (.map (some B)) (.string s) true).run Try.prog w= .ok (.tuple #[v, .bool (f s.data.toList).isSome]) w∧elem v=some (match f s.data.toList with|some v=>d v|none=>zd,ps):=by
 obtain⟨D,ho,hi,hf⟩:=h
 obtain⟨v,ps,hr,hv⟩:=ho.look_ok law9 ht hz hzd (WideMaps.keyOf_string_mk Try.underlying9 hs)
 rw [(hf _).1]at hr
 rw [(hf _).2]at hv
 exact⟨v,ps,hr,hv⟩
theorem look(h:SMap elem d w B n f){t e:TypeId}(ht:Try.prog.underlying t=some (.map 9 e)){z:Value}(hz:(zeroValue e).run Try.prog w= .ok z w){zd:DataW Unit}{zp:List MemPlace}(hzd:elem z=some (zd,zp)){s:ByteArray}(hs:s.size≤maxLen):
 ∃v ps,(Instr.lookup t (.map (some B)) (.string s) false).run Try.prog w= .ok v w∧elem v=some (match f s.data.toList with|some v=>d v|none=>zd,ps):=by
 obtain⟨D,ho,hi,hf⟩:=h
 obtain⟨v,ps,hr,hv⟩:=ho.lookup law9 ht hz hzd (WideMaps.keyOf_string_mk Try.underlying9 hs)
 rw [(hf _).2]at hv
 exact⟨v,ps,hr,hv⟩
end SMap
abbrev zM(b:Int)(s l:Bool)(n z:Int):Value:= .agg #[.int .i64 b, .bool s, .bool l, .int .i64 n, .int .i64 z]
def Xg(b:Int)(s l:Bool)(n z:Int):DataW Unit:= .agg [.lit (.int .i64 b), .lit (.bool s), .lit (.bool l), .lit (.int .i64 n), .lit (.int .i64 z)]
def FD:Value→Option (DataW Unit×List MemPlace)
 | .agg cs=>match cs.toList with
   |[.int .i64 b, .bool s, .bool l, .int .i64 n, .int .i64 z]=>some (Xg b s l n z,[])
   |_=>none
 |_=>none
theorem LV(b:Int)(s l:Bool)(n z:Int):FD (zM b s l n z)=some (Xg b s l n z,[]):=rfl
theorem FI{v:Value}{b:Int}{s l:Bool}{n z:Int}{ps:List MemPlace}(h:FD v=some (Xg b s l n z,ps)):v=zM b s l n z:=by
 unfold FD at h
 split at h
 ·rename_i cs
  split at h
  ·rename_i b' s' l' n' z' he
   injection h with h
   injection h with h _
   unfold Xg at h
   simp at h
   obtain⟨rfl,rfl,rfl,rfl,rfl⟩:=h
   obtain⟨c⟩:=cs
   simp at he
   rw [he]
  ·cases h
 ·cases h
noncomputable abbrev Za:Value→Option (DataW Unit×List MemPlace):=plainElem Try.prog 4
noncomputable abbrev FN:Value→Option (DataW Unit×List MemPlace):=plainElem Try.prog 3
theorem Gv{v:Value}{x:Bool}{ps:List MemPlace}(h:Za v=some (.lit (.bool x),ps)):v= .bool x:=by
 unfold Za plainElem at h
 rw [Try.underlying4]at h
 cases v<;>simp at h
 exact congrArg _ h.1
theorem GV{v:Value}{x:Int}{ps:List MemPlace}(h:FN v=some (.lit (.int .i64 x),ps)):v= .int .i64 x:=by
 obtain⟨a,rfl,h2,_⟩:=plainElem_int_inv Try.underlying3 h
 injection h2 with h2 _
 injection h2 with h2
 injection h2 with _ h2
 rw [h2]
end
section
open Go.RowKit Go.Maps
namespace Ck
def wQ(l:List Loc)(n:Nm):Option Loc:=l.reverse.find? (fun x=>x.nm==n)
theorem Zc(n:Nm):wQ [] n=none:=rfl
theorem Ky(l:List Loc)(x:Loc)(n:Nm):wQ (l++[x]) n=if n=x.nm then some x else wQ l n:=by
 unfold wQ
 rw [List.reverse_append,List.reverse_singleton,List.singleton_append,List.find?_cons]
 by_cases h:n=x.nm
 ·rw [if_pos h,show(x.nm==n)=true by simpa using h.symm]
 ·rw [if_neg h,show(x.nm==n)=false by simpa using fun e=>h e.symm]
def Gg(lv:List (List Loc))(n:Nm):Option Loc:=lv.flatten.reverse.find? (fun x=>x.nm==n)
theorem ZI(n:Nm):Gg [] n=none:=rfl
theorem Nr(lv:List (List Loc))(x:List Loc)(n:Nm):Gg (lv++[x]) n=(wQ x n).or (Gg lv n):=by
 unfold Gg wQ
 rw [List.flatten_append,List.reverse_append,List.find?_append]
 simp
theorem Nk{lv:List (List Loc)}{i:Nat}(hi:i<lv.length)(n:Nm):Gg (lv.take (i+1)) n=(wQ (lv.getD i []) n).or (Gg (lv.take i) n):=by
 rw [List.take_succ_eq_append_getElem hi,Nr]
 simp [List.getD_eq_getElem?_getD,hi]
theorem BH(e:Env)(n:Nm):e.jO n=Gg e.lv n:=rfl
def uD(l:Loc):DataW Unit:=Xg l.b l.s true l.slot 0
def OJ(l:List Nm)(n:Nm):Option Unit:=if l.contains n then some ()else none
theorem Kw(l:List Nm)(x n:Nm):OJ (l++[x]) n=if n=x then some ()else OJ l n:=by
 unfold OJ
 by_cases h:n=x
 ·subst h;simp
 ·have:(l++[x]).contains n=l.contains n:=by simp [h]
  rw [this,if_neg h]
def slc(l:List (Int×Bool)):List Value:=l.flatMap fun t=>[.int .i64 t.1, .bool t.2]
theorem zW(l:List (Int×Bool))(t:Int×Bool):slc (l++[t])=slc l++[.int .i64 t.1, .bool t.2]:=by unfold slc;simp
theorem Zr(l:List (Int×Bool)):(slc l).length=l.length*2:=by
 induction l with
 |nil=>rfl
 |cons t l ih=>unfold slc at*;rw [List.flatMap_cons,List.length_append,ih];simp;omega
theorem Vg{l:List (Int×Bool)}{i:Nat}{t:Int×Bool}(h:l[i]?=some t):(slc l)[i*2]?=some (.int .i64 t.1)∧(slc l)[i*2+1]?=some (.bool t.2):=by
 induction l generalizing i with
 |nil=>simp at h
 |cons x l ih=>
  have e:slc (x::l)= .int .i64 x.1:: .bool x.2::slc l:=rfl
  rw [e]
  cases i with
  |zero=>simp at h;subst h;exact⟨rfl,rfl⟩
  |succ i=>
   rw [show(i+1)*2=i*2+1+1 by omega,show i*2+1+1+1=(i*2+1)+1+1 by omega]
   simp only [List.getElem?_cons_succ]
   exact ih (by simpa using h)
def idx{α:Type}(nm:α→Nm)(l:List α)(n:Nm):Option Nat:=l.findIdx? (fun x=>nm x==n)
end Ck
structure Sc(w:World)(B g tb fq fo:Nat)(e:Ck.Env)(la:Option Addr)(lc ub:Nat)(sa:Option Addr)(sc:Nat)(bs:List Nat):Prop where
 blk:ak w g 87 #[P tb, .slice la e.lv.length lc, .map (some ub), .slice sa e.slots.length sc, .int .i64 (e.loops:Int), .pointer (some ⟨fq,fo,none⟩)]
 hB:B≤g
 lv:w.ownsRow B 135 1 (.slice la e.lv.length lc) e.lv.length (bs.map fun b=>Value.map (some b))
 sl:w.ownsRow B 33 2 (.slice sa e.slots.length sc) e.slots.length (Ck.slc e.slots)
 us:SMap Za (fun _:Unit=> .lit (.bool true)) w ub e.slots.length (Ck.OJ e.used)
 len:bs.length=e.lv.length
 ge:B≤ub
 maps:∀i b,bs[i]?=some b→B≤b∧SMap FD Ck.uD w b e.slots.length (Ck.wQ (e.lv.getD i []))
 nd:(ub::bs).Nodup
theorem Sc.same{w w':World}{B g tb fq fo:Nat}{e:Ck.Env}{la:Option Addr}{lc ub:Nat}{sa:Option Addr}{sc:Nat}{bs:List Nat}(h:Sc w B g tb fq fo e la lc ub sa sc bs)(hs:∀k,B≤k→k<w.heap.size→w'.heap[k]?=w.heap[k]?):
 Sc w' B g tb fq fo e la lc ub sa sc bs:=
 ⟨(hs g h.hB h.blk.lt).trans h.blk,h.hB,aU h.lv fun b hb=>hs b (aK h.lv b hb).1 (aK h.lv b hb).2,aU h.sl fun b hb=>hs b (aK h.sl b hb).1 (aK h.sl b hb).2,
   h.us.same (hs ub h.ge h.us.lt),h.len,h.ge,fun i b hb=>⟨(h.maps i b hb).1,(h.maps i b hb).2.same (hs b (h.maps i b hb).1 (h.maps i b hb).2.lt)⟩,h.nd⟩
theorem Sc.keep{w w':World}{B g tb fq fo:Nat}{e:Ck.Env}{la:Option Addr}{lc ub:Nat}{sa:Option Addr}{sc:Nat}{bs:List Nat}(h:Sc w B g tb fq fo e la lc ub sa sc bs)(hb:Below w.heap.size w w'):
 Sc w' B g tb fq fo e la lc ub sa sc bs:=h.same fun k _ hk=>hb.block k hk
def kF(w:World)(B g tb fq fo:Nat)(e:Ck.Env):Prop:=∃la lc ub sa sc bs,Sc w B g tb fq fo e la lc ub sa sc bs
theorem kF.keep{w w':World}{B g tb fq fo:Nat}{e:Ck.Env}(h:kF w B g tb fq fo e)(hb:Below w.heap.size w w'):kF w' B g tb fq fo e:=by
 obtain⟨la,lc,ub,sa,sc,bs,h⟩:=h;exact⟨la,lc,ub,sa,sc,bs,h.keep hb⟩
structure Tb(w:World)(B tb:Nat)(P0:Pg)(v0 v1:Value)(gb fb:Nat):Prop where
 blk:ak w tb 71 #[v0,v1, .map (some gb), .map (some fb)]
 lt:tb<B∧gb<B∧fb<B
 le:B≤w.heap.size
 pg:bM w (·<B) P0 v0 v1
 gm:SMap FN (fun i:Nat=> .lit (.int .i64 (i:Int))) w gb P0.gs.length (Ck.idx (fun g:Gl=>g.nm.data.toList) P0.gs)
 fm:SMap FN (fun i:Nat=> .lit (.int .i64 (i:Int))) w fb P0.fs.length (Ck.idx (fun f:Fn=>f.nm.data.toList) P0.fs)
theorem Tb.below{w w':World}{B tb gb fb:Nat}{P0:Pg}{v0 v1:Value}(h:Tb w B tb P0 v0 v1 gb fb)(hb:Below B w w'):Tb w' B tb P0 v0 v1 gb fb:=
 ⟨h.blk.below hb h.lt.1,h.lt,Nat.le_trans h.le hb.size,h.pg.move fun g hg _=>⟨hg,hb.block g hg⟩,h.gm.same (hb.block gb h.lt.2.1),h.fm.same (hb.block fb h.lt.2.2)⟩
end
section
open Go.RowKit
def Vk(w:World)(q off:Nat)(cs:List Value):Prop:=∀j u,cs[j]?=some u→w.cell? ⟨q,off+j,none⟩=some u
theorem Vk.below{w w':World}{q off B:Nat}{cs:List Value}(h:Vk w q off cs)(hq:q<B)(hb:Below B w w'):Vk w' q off cs:=fun j u hu=>by
 rw [Below.cell (p:=⟨q,off+j,none⟩) hb hq];exact h j u hu
def D8(w:World)(B:Nat)(x:X)(q off:Nat):Prop:=q<B∧∃cs,dA w (·<B) x cs∧Vk w q off cs
def pF(w:World)(B:Nat)(x:S)(q off:Nat):Prop:=q<B∧∃cs,fV w (·<B) x cs∧Vk w q off cs
theorem dA.PL{w w':World}{B:Nat}{x:X}{cs:List Value}(h:dA w (·<B) x cs)(hb:Below B w w'):dA w' (·<B) x cs:=h.move fun g hg _=>⟨hg,hb.block g hg⟩
theorem fV.PL{w w':World}{B:Nat}{x:S}{cs:List Value}(h:fV w (·<B) x cs)(hb:Below B w w'):fV w' (·<B) x cs:=fV.move (fun g hg _=>⟨hg,hb.block g hg⟩) x cs h
theorem aQ.PL{w w':World}{B:Nat}{l:List S}{v:Value}(h:aQ w (·<B) l v)(hb:Below B w w'):aQ w' (·<B) l v:=h.move fun g hg _=>⟨hg,hb.block g hg⟩
section
variable{w w':World}{B q off:Nat}
theorem D8.below{x:X}(h:D8 w B x q off)(hb:Below B w w'):D8 w' B x q off:=by
 obtain⟨h1,cs,h2,h3⟩:=h;exact⟨h1,cs,h2.PL hb,h3.below h1 hb⟩
theorem pF.below{x:S}(h:pF w B x q off)(hb:Below B w w'):pF w' B x q off:=by
 obtain⟨h1,cs,h2,h3⟩:=h;exact⟨h1,cs,h2.PL hb,h3.below h1 hb⟩
structure XC(w:World)(B:Nat)(k n b:Int)(s:Bool)(nm:ByteArray)(ks:List X)(a:Option Addr)(L c q off:Nat):Prop where
 lt:q<B
 len:ks.length=L
 le:L≤c
 lm:c≤maxLen
 c0:w.cell? ⟨q,off,none⟩=some (.int .i64 k)
 c1:w.cell? ⟨q,off+1,none⟩=some (.int .u64 n)
 c2:w.cell? ⟨q,off+2,none⟩=some (.int .i64 b)
 c3:w.cell? ⟨q,off+3,none⟩=some (.bool s)
 c4:w.cell? ⟨q,off+4,none⟩=some (.string nm)
 c5:w.cell? ⟨q,off+5,none⟩=some (.slice a L c)
 kid:∀i y,ks[i]?=some y→∃gk ok,a=some ⟨gk,ok,none⟩∧D8 w B y gk (ok+i*6)
theorem D8.parts{k n b:Int}{s:Bool}{nm:ByteArray}{ks:List X}(h:D8 w B (.mk k n b s nm ks) q off):∃a c,XC w B k n b s nm ks a ks.length c q off:=by
 obtain⟨hq,cs,hx,hc⟩:=h
 cases hx with|mk k n b s nm ks a c cs' hc1 hm hk ha=>
 refine⟨a,c,hq,rfl,hc1,hm,hc 0 _ rfl,hc 1 _ rfl,hc 2 _ rfl,hc 3 _ rfl,hc 4 _ rfl,hc 5 _ rfl,fun i y hy=>?_⟩
 have hi:i<ks.length:=(List.getElem?_eq_some_iff.1 hy).1
 obtain⟨gk,ok,hp,e,h2⟩:=ha (by omega)
 exact⟨gk,ok,e,hp,cs' i,hk i y hy,fun j u hu=>h2 i j u hi hu⟩
theorem XC.below{k n b:Int}{s:Bool}{nm:ByteArray}{ks:List X}{a:Option Addr}{L c:Nat}(h:XC w B k n b s nm ks a L c q off)(hb:Below B w w'):XC w' B k n b s nm ks a L c q off:=by
 obtain⟨h0,h1,h2,h3,c0,c1,c2,c3,c4,c5,h4⟩:=h
 refine⟨h0,h1,h2,h3,?_,?_,?_,?_,?_,?_,fun i y hy=>by obtain⟨gk,ok,e,hx⟩:=h4 i y hy;exact⟨gk,ok,e,hx.below hb⟩⟩<;>(rw [Below.cell hb (by exact h0)];assumption)
def FK(w:World)(B:Nat)(l:List S)(a:Option Addr)(c:Nat):Prop:=l.length≤c∧c≤maxLen∧∀i y,l[i]?=some y→∃gk ok,a=some ⟨gk,ok,none⟩∧pF w B y gk (ok+i*21)
theorem FK.below{l:List S}{a:Option Addr}{c:Nat}(h:FK w B l a c)(hb:Below B w w'):FK w' B l a c:=
 ⟨h.1,h.2.1,fun i y hy=>by obtain⟨gk,ok,e,hx⟩:=h.2.2 i y hy;exact⟨gk,ok,e,hx.below hb⟩⟩
theorem aQ.rows{l:List S}{v:Value}(h:aQ w (·<B) l v):∃a c,v= .slice a l.length c∧FK w B l a c:=by
 obtain⟨a,c,e,h1,h2,h3⟩:=h.parts
 refine⟨a,c,e,h1,h2,fun i y hy=>?_⟩
 obtain⟨g,o,cs,hp,ea,hs,hc⟩:=h3 i y hy
 exact⟨g,o,ea,hp,cs,hs,hc⟩
structure SC(w:World)(B:Nat)(k b:Int)(s:Bool)(nm:ByteArray)(has:Bool)(x i:X)(l0 l1 l2 l3:List S)(a0:Option Addr)(n0 z0:Nat)(a1:Option Addr)(n1 z1:Nat)(a2:Option Addr)(n2 z2:Nat)(a3:Option Addr)(n3 z3:Nat)(q off:Nat):Prop where
 lt:q<B
 c0:w.cell? ⟨q,off,none⟩=some (.int .i64 k)
 c1:w.cell? ⟨q,off+1,none⟩=some (.int .i64 b)
 c2:w.cell? ⟨q,off+2,none⟩=some (.bool s)
 c3:w.cell? ⟨q,off+3,none⟩=some (.string nm)
 c4:w.cell? ⟨q,off+4,none⟩=some (.bool has)
 x:D8 w B x q (off+5)
 i:D8 w B i q (off+11)
 v0:w.cell? ⟨q,off+17,none⟩=some (.slice a0 n0 z0)
 v1:w.cell? ⟨q,off+18,none⟩=some (.slice a1 n1 z1)
 v2:w.cell? ⟨q,off+19,none⟩=some (.slice a2 n2 z2)
 v3:w.cell? ⟨q,off+20,none⟩=some (.slice a3 n3 z3)
 s0:l0.length=n0∧FK w B l0 a0 z0
 s1:l1.length=n1∧FK w B l1 a1 z1
 s2:l2.length=n2∧FK w B l2 a2 z2
 s3:l3.length=n3∧FK w B l3 a3 z3
theorem pF.parts{k b:Int}{s:Bool}{nm:ByteArray}{has:Bool}{x i:X}{l0 l1 l2 l3:List S}(h:pF w B (.mk k b s nm has x i l0 l1 l2 l3) q off):
 ∃a0 z0 a1 z1 a2 z2 a3 z3,SC w B k b s nm has x i l0 l1 l2 l3 a0 l0.length z0 a1 l1.length z1 a2 l2.length z2 a3 l3.length z3 q off:=by
 obtain⟨hq,cs,hx,hc⟩:=h
 cases hx with|mk k b s nm has x i l0 l1 l2 l3 xs is v0 v1 v2 v3 hx hi h0 h1 h2 h3=>
 obtain⟨a0,z0,rfl,r0⟩:=h0.rows
 obtain⟨a1,z1,rfl,r1⟩:=h1.rows
 obtain⟨a2,z2,rfl,r2⟩:=h2.rows
 obtain⟨a3,z3,rfl,r3⟩:=h3.rows
 have e6:=hx.six
 have f6:=hi.six
 obtain⟨x0,x1,x2,x3,x4,x5,rfl⟩:∃x0 x1 x2 x3 x4 x5,xs=[x0,x1,x2,x3,x4,x5]:=by
  match xs,e6 with
  |[x0,x1,x2,x3,x4,x5],_=>exact⟨x0,x1,x2,x3,x4,x5,rfl⟩
 obtain⟨y0,y1,y2,y3,y4,y5,rfl⟩:∃x0 x1 x2 x3 x4 x5,is=[x0,x1,x2,x3,x4,x5]:=by
  match is,f6 with
  |[x0,x1,x2,x3,x4,x5],_=>exact⟨x0,x1,x2,x3,x4,x5,rfl⟩
 have lx:Vk w q (off+5) [x0,x1,x2,x3,x4,x5]:=fun j u hu=>by
  have hj:j<6:=(List.getElem?_eq_some_iff.1 hu).1
  have:=hc (5+j) u (by
   rw [←hu]
   rcases(show j=0∨j=1∨j=2∨j=3∨j=4∨j=5 by omega)with rfl|rfl|rfl|rfl|rfl|rfl<;>rfl)
  rw [←Nat.add_assoc]at this;exact this
 have li:Vk w q (off+11) [y0,y1,y2,y3,y4,y5]:=fun j u hu=>by
  have hj:j<6:=(List.getElem?_eq_some_iff.1 hu).1
  have:=hc (11+j) u (by
   rw [←hu]
   rcases(show j=0∨j=1∨j=2∨j=3∨j=4∨j=5 by omega)with rfl|rfl|rfl|rfl|rfl|rfl<;>rfl)
  rw [←Nat.add_assoc]at this;exact this
 exact⟨a0,z0,a1,z1,a2,z2,a3,z3,hq,hc 0 _ rfl,hc 1 _ rfl,hc 2 _ rfl,hc 3 _ rfl,hc 4 _ rfl,⟨hq,_,hx,lx⟩,⟨hq,_,hi,li⟩,hc 17 _ rfl,hc 18 _ rfl,hc 19 _ rfl,hc 20 _ rfl,⟨rfl,r0⟩,⟨rfl,r1⟩,⟨rfl,r2⟩,⟨rfl,r3⟩⟩
theorem SC.below{k b:Int}{s:Bool}{nm:ByteArray}{has:Bool}{x i:X}{l0 l1 l2 l3:List S}{a0 a1 a2 a3:Option Addr}{n0 z0 n1 z1 n2 z2 n3 z3:Nat}(h:SC w B k b s nm has x i l0 l1 l2 l3 a0 n0 z0 a1 n1 z1 a2 n2 z2 a3 n3 z3 q off)(hb:Below B w w'):
 SC w' B k b s nm has x i l0 l1 l2 l3 a0 n0 z0 a1 n1 z1 a2 n2 z2 a3 n3 z3 q off:=by
 obtain⟨hq,c0,c1,c2,c3,c4,hx,hi,v0,v1,v2,v3,s0,s1,s2,s3⟩:=h
 refine⟨hq,?_,?_,?_,?_,?_,hx.below hb,hi.below hb,?_,?_,?_,?_,⟨s0.1,s0.2.below hb⟩,⟨s1.1,s1.2.below hb⟩,⟨s2.1,s2.2.below hb⟩,⟨s3.1,s3.2.below hb⟩⟩<;>(rw [Below.cell hb (by exact hq)];assumption)
end
end
section
open Go.RowKit Go.Maps
section
variable{w w':World}{B e size n:Nat}{v:Value}{xs:List Value}
theorem bn{g:Nat}{t:TypeId}{cs:Array Value}(h:w.ownsRow B e size v n xs)(hb:ak w g t cs)(hne:e≠t):some g≠v.ownBlock:=by
 rcases h.2 with⟨rfl,_⟩|⟨g',cap,cur,rfl,_,hg,_⟩
 ·intro e;cases e
 ·intro e2
  simp only [Value.ownBlock,Option.some.injEq]at e2
  subst e2
  have:w.heap[g]?=some (.cells cs t (0,0)):=hb
  rw [hg]at this
  injection this with this
  injection this with _ this
  exact hne this
theorem oO{e' size' n':Nat}{v':Value}{xs':List Value}(h:w.ownsRow B e size v n xs)(h':w.ownsRow B e' size' v' n' xs')(hne:e≠e'){k:Nat}(hk:v'.ownBlock=some k):some k≠v.ownBlock:=by
 rcases h'.2 with⟨rfl,_⟩|⟨g',cap,cur,rfl,_,hg,_⟩
 ·cases hk
 ·simp only [Value.ownBlock,Option.some.injEq]at hk
  subst hk
  rcases h.2 with⟨rfl,_⟩|⟨g2,cap2,aeZ,rfl,_,hg2,_⟩
  ·intro e;cases e
  ·intro e2
   simp only [Value.ownBlock,Option.some.injEq]at e2
   subst e2
   rw [hg]at hg2
   injection hg2 with this
   injection this with _ this
   exact hne this.symm
theorem Af{V:Type}{elem:Value→Option (DataW Unit×List MemPlace)}{d:V→DataW Unit}{b m:Nat}{f:List UInt8→Option V}(h:SMap elem d w b m f):∃es c,w.heap[b]?=some (.map es c):=by
 obtain⟨D,⟨es,c,h,_⟩,_⟩:=h;exact⟨es,c,h⟩
theorem bW{V:Type}{elem:Value→Option (DataW Unit×List MemPlace)}{d:V→DataW Unit}{b m:Nat}{f:List UInt8→Option V}(h:w.ownsRow B e size v n xs)(hm:SMap elem d w b m f):some b≠v.ownBlock:=by
 obtain⟨es,c,hm⟩:=Af hm
 rcases h.2 with⟨rfl,_⟩|⟨g',cap,cur,rfl,_,hg,_⟩
 ·intro e;cases e
 ·intro e2
  simp only [Value.ownBlock,Option.some.injEq]at e2
  subst e2
  rw [hm]at hg;cases hg
theorem aV{V:Type}{elem:Value→Option (DataW Unit×List MemPlace)}{d:V→DataW Unit}{b m g:Nat}{f:List UInt8→Option V}{t:TypeId}{cs:Array Value}(h:ak w g t cs)(hm:SMap elem d w b m f):b≠g:=by
 rintro rfl
 obtain⟨es,c,hm⟩:=Af hm
 have:w.heap[b]?=some (.cells cs t (0,0)):=h
 rw [hm]at this;cases this
theorem Jh{g c:Nat}(h:w.ownsRow B e 1 (.slice (some ⟨g,0,none⟩) n c) n xs):w.ownsRow B e 1 (.slice (some ⟨g,0,none⟩) (n-1) c) (n-1) xs.dropLast:=by
 obtain⟨hl,h⟩:=h
 rcases h with⟨h,_⟩|⟨g',cap,cur,ev,hb,hg,hn,hm,hs,ht⟩
 ·cases h
 ·injection ev with e1 _ e3
  injection e1 with e1
  injection e1 with e1
  subst e1 e3
  refine⟨by rw [List.length_dropLast];omega, .inr ⟨g,c,cur,rfl,hb,hg,by omega,hm,hs,?_⟩⟩
  rw [←ht,List.dropLast_eq_take,List.length_take,List.take_take]
  congr 1
  have:cur.toList.length=c*1:=by simpa using hs
  omega
end
def Kx(w w':World):Prop:=∀k t cs,t=78∨t=112→ak w k t cs→ak w' k t cs
theorem Kx.refl(w:World):Kx w w:=fun _ _ _ _ h=>h
theorem Kx.trans{a b c:World}(h:Kx a b)(k:Kx b c):Kx a c:=fun i t cs ht hb=>k i t cs ht (h i t cs ht hb)
theorem Kx.below{w w':World}(h:Below w.heap.size w w'):Kx w w':=fun k t cs _ hb=>hb.keep h
theorem Kx.setCell{w:World}{g:Nat}{t:TypeId}{cs:Array Value}(hg:ak w g t cs)(h1:t≠78)(h2:t≠112)(o:Nat)(u:Value):Kx w (w.setCell ⟨g,o,none⟩ u):=fun k t' cs' ht hb=>hb.far (fun e2=>hb.XV hg (by rcases ht with rfl|rfl;exact Ne.symm h1;exact Ne.symm h2) e2) u
theorem Kx.row{w w':World}{B e size n:Nat}{v:Value}{xs:List Value}(ho:w.ownsRow B e size v n xs)(h1:e≠78)(h2:e≠112)(hg:w.grownBy w' v.ownBlock):Kx w w':=fun k t cs ht hb=>hb.grown hg (bn ho hb (by rcases ht with rfl|rfl;exact h1;exact h2))
theorem Kx.map{w w':World}{V:Type}{elem:Value→Option (DataW Unit×List MemPlace)}{d:V→DataW Unit}{b m:Nat}{f:List UInt8→Option V}(hm:SMap elem d w b m f)(hg:w.grownBy w' (some b)):Kx w w':=fun k t cs _ hb=>hb.grown hg (fun e2=>by injection e2 with e2;exact aV hb hm e2.symm)
theorem Kx.res{w w1 w':World}{r:Nat}(h:Kx w w1)(hr:w.heap.size≤r)(hs:∀k,k≠r→w'.heap[k]?=w1.heap[k]?):Kx w w':=fun k t cs ht hb=>(hs k (by have:=hb.lt;omega)).trans (h k t cs ht hb)
section
variable{w w2 w3:World}{B g tb fq fo:Nat}{e:Ck.Env}{la:Option Addr}{lc ub:Nat}{sa:Option Addr}{sc:Nat}{bs:List Nat}
theorem uF:135≠33:=by decide
theorem jL:135≠87:=by decide
theorem jK:33≠87:=by decide
theorem Sc.opened{a':Option Addr}{c' mb:Nat}(h:Sc w B g tb fq fo e la lc ub sa sc bs)(hmb:w.heap.size≤mb)(hB:B≤w.heap.size)(hb2:Below w.heap.size w w2)(hm:SMap FD Ck.uD w2 mb 0 (fun _=>none))
 (ho:w3.ownsRow B 135 1 (.slice a' (e.lv.length+1) c') (e.lv.length+1) (bs.map (fun b=>Value.map (some b))++[.map (some mb)]))(hg:w2.grownBy w3 (Value.slice la e.lv.length lc).ownBlock):
 Sc (w3.setCell ⟨g,1,none⟩ (.slice a' (e.lv.length+1) c')) B g tb fq fo e.open a' c' ub sa sc (bs++[mb])∧Below B w (w3.setCell ⟨g,1,none⟩ (.slice a' (e.lv.length+1) c'))∧Kx w (w3.setCell ⟨g,1,none⟩ (.slice a' (e.lv.length+1) c')):=by
 have h2:=h.keep hb2
 have hgk:some g≠(Value.slice la e.lv.length lc).ownBlock:=bn h2.lv h2.blk jL
 have hblk3:ak w3 g _ _:=h2.blk.grown hg hgk
 have hlen:e.open.lv.length=e.lv.length+1:=by simp [Ck.Env.open]
 have far:∀k,k≠g→(w3.setCell ⟨g,1,none⟩ (.slice a' (e.lv.length+1) c')).heap[k]?=w3.heap[k]?:=fun k hk=>Below.heap_setCell w3 ⟨g,1,none⟩ _ k hk
 have old:∀k,k<w2.heap.size→some k≠(Value.slice la e.lv.length lc).ownBlock→k≠g→(w3.setCell ⟨g,1,none⟩ (.slice a' (e.lv.length+1) c')).heap[k]?=w2.heap[k]?:=fun k hk h1 h2=>(far k h2).trans (hg.block k hk h1)
 refine⟨⟨?_,h.hB,?_,?_,?_,?_,h.ge,fun i b hb=>?_,?_⟩,?_,(Kx.below hb2).trans ((Kx.row h2.lv (by decide) (by decide) hg).trans (Kx.setCell hblk3 (by decide) (by decide) _ _))⟩
 ·have:=hblk3.dJ 1 (.slice a' (e.lv.length+1) c')
  rw [hlen]
  simpa [Ck.Env.open]using this
 ·rw [hlen]
  have hne:=bn ho hblk3 jL
  rw [List.map_append]
  exact aU ho fun k hk=>far k (fun e=>hne (by rw [hk,e]))
 ·have hs2:=h2.sl
  exact aU hs2 fun k hk=>old k (aK hs2 k hk).2 (oO h2.lv hs2 uF hk) (fun e2=>bn hs2 h2.blk jK (by rw [←e2];exact hk.symm))
 ·exact h2.us.same (old ub h2.us.lt (bW h2.lv h2.us) (aV h2.blk h2.us))
 ·rw [hlen,List.length_append,h.len];rfl
 ·rcases Nat.lt_or_ge i bs.length with hi|hi
  ·rw [List.getElem?_append_left hi]at hb
   obtain⟨h5,h6⟩:=h2.maps i b hb
   refine⟨h5,?_⟩
   have e1:e.open.lv.getD i []=e.lv.getD i []:=by
    show(e.lv++[[]]).getD i []=_
    rw [List.getD_eq_getElem?_getD,List.getD_eq_getElem?_getD,List.getElem?_append_left (by rw [←h.len];exact hi)]
   rw [e1]
   exact h6.same (old b h6.lt (bW h2.lv h6) (aV h2.blk h6))
  ·have hi2:i=bs.length:=by have:=(List.getElem?_eq_some_iff.1 hb).1;rw [List.length_append]at this;simp at this;omega
   subst hi2
   rw [List.getElem?_append_right (Nat.le_refl _),Nat.sub_self]at hb
   simp only [List.getElem?_cons_zero,Option.some.injEq]at hb
   subst hb
   refine⟨Nat.le_trans hB hmb,?_⟩
   have e1:e.open.lv.getD bs.length []=[]:=by
    show(e.lv++[[]]).getD bs.length []=_
    rw [List.getD_eq_getElem?_getD,h.len,List.getElem?_append_right (Nat.le_refl _),Nat.sub_self];rfl
   rw [e1]
   exact((hm.same (old mb hm.lt (bW h2.lv hm) (aV h2.blk hm))).mono (Nat.zero_le _)).congr fun l=>rfl
 ·have hu:ub<w.heap.size:=h.us.lt
  rw [←List.cons_append]
  refine List.nodup_append.2 ⟨h.nd,List.pairwise_singleton _ _,fun a ha b hb=>?_⟩
  rw [List.mem_singleton]at hb
  subst hb
  rcases List.mem_cons.1 ha with rfl|ha
  ·omega
  ·obtain⟨i,hi⟩:=List.getElem?_of_mem ha
   have:=(h.maps i a hi).2.lt
   omega
 ·have hlow:=aK h2.lv
  refine⟨?_,?_,?_,?_,fun k hk=>?_⟩
  ·exact(show _=w3.os from rfl).trans (hg.os.trans hb2.os)
  ·exact(show _=w3.tape from rfl).trans (hg.tape.trans hb2.tape)
  ·exact(show _=w3.output from rfl).trans (hg.output.trans hb2.output)
  ·simpa using Nat.le_trans hb2.size hg.size
  ·have h1:k<w.heap.size:=Nat.lt_of_lt_of_le hk hB
   refine(old k (Nat.lt_of_lt_of_le h1 hb2.size) (fun e2=>?_) (by have:=h.hB;omega)).trans (hb2.block k h1)
   have:=(hlow k e2.symm).1;omega
theorem Sc.closed{lb:Nat}(h:Sc w B g tb fq fo e (some ⟨lb,0,none⟩) lc ub sa sc bs):
 Sc (w.setCell ⟨g,1,none⟩ (.slice (some ⟨lb,0,none⟩) (e.lv.length-1) lc)) B g tb fq fo e.close (some ⟨lb,0,none⟩) lc ub sa sc bs.dropLast∧Below B w (w.setCell ⟨g,1,none⟩ (.slice (some ⟨lb,0,none⟩) (e.lv.length-1) lc))∧Kx w (w.setCell ⟨g,1,none⟩ (.slice (some ⟨lb,0,none⟩) (e.lv.length-1) lc)):=by
 have hlen:e.close.lv.length=e.lv.length-1:=by show e.lv.dropLast.length=_;rw [List.length_dropLast]
 have far:∀k,k≠g→(w.setCell ⟨g,1,none⟩ (.slice (some ⟨lb,0,none⟩) (e.lv.length-1) lc)).heap[k]?=w.heap[k]?:=fun k hk=>Below.heap_setCell w ⟨g,1,none⟩ _ k hk
 refine⟨⟨?_,h.hB,?_,?_,?_,?_,h.ge,fun i b hb=>?_,?_⟩,(Below.refl _ _).setCell h.hB _,Kx.setCell h.blk (by decide) (by decide) _ _⟩
 ·have:=h.blk.dJ 1 (.slice (some ⟨lb,0,none⟩) (e.lv.length-1) lc)
  rw [hlen]
  simpa [Ck.Env.close]using this
 ·rw [hlen,List.map_dropLast]
  have ho:=Jh h.lv
  exact aU ho fun k hk=>far k (fun e=>bn ho h.blk jL (by rw [hk,e]))
 ·exact aU h.sl fun k hk=>far k (fun e2=>bn h.sl h.blk jK (by rw [←e2];exact hk.symm))
 ·exact h.us.same (far ub (aV h.blk h.us))
 ·rw [hlen,List.length_dropLast,h.len]
 ·have hi:i<bs.length-1:=by have:=(List.getElem?_eq_some_iff.1 hb).1;rw [List.length_dropLast]at this;exact this
  rw [List.getElem?_dropLast,if_pos hi]at hb
  obtain⟨h5,h6⟩:=h.maps i b hb
  have e1:e.close.lv.getD i []=e.lv.getD i []:=by
   show(e.lv.dropLast).getD i []=_
   rw [List.getD_eq_getElem?_getD,List.getD_eq_getElem?_getD,List.getElem?_dropLast,if_pos (by rw [←h.len];exact hi)]
  rw [e1]
  exact⟨h5,h6.same (far b (aV h.blk h6))⟩
 ·exact h.nd.sublist ((List.dropLast_sublist bs).cons_cons ub)
theorem Sc.last{b:Nat}(h:Sc w B g tb fq fo e la lc ub sa sc bs)(h1:1≤e.lv.length)(hb:bs[e.lv.length-1]?=some b):SMap FD Ck.uD w b e.slots.length (Ck.wQ (e.lv.getLastD [])):=by
 have:=(h.maps _ b hb).2
 rw [List.getLastD_eq_getLast?,List.getLast?_eq_getElem?,←List.getD_eq_getElem?_getD]
 exact this
theorem Sc.declared{b:Nat}{s:Bool}{nm:ByteArray}{wa wb wc wd:World}{a':Option Addr}{c' mb:Nat}(h:Sc w B g tb fq fo e la lc ub sa sc bs)(hB:B≤w.heap.size)(h1:1≤e.lv.length)(hmb:bs[e.lv.length-1]?=some mb)(bt:Int)
 (ha:w.grownBy wa (some ub))(hua:SMap Za (fun _:Unit=> .lit (.bool true)) wa ub (e.slots.length+1) (fun l=>if l=nm.data.toList then some ()else Ck.OJ e.used l))
 (hab:Below wa.heap.size wa wb)
 (ho:wc.ownsRow B 33 2 (.slice a' (e.slots.length+1) c') (e.slots.length+1) (Ck.slc e.slots++[.int .i64 bt, .bool s]))(hbc:wb.grownBy wc (Value.slice sa e.slots.length sc).ownBlock)
 (hcd:(wc.setCell ⟨g,3,none⟩ (.slice a' (e.slots.length+1) c')).grownBy wd (some mb))(hmd:SMap FD Ck.uD wd mb (e.slots.length+1) (fun l=>if l=nm.data.toList then some ⟨nm.data.toList,bt,s,e.slots.length⟩else Ck.wQ (e.lv.getLastD []) l)):
 Sc wd B g tb fq fo {e with lv:=e.lv.dropLast++[(e.lv.getLastD [])++[⟨nm.data.toList,bt,s,e.slots.length⟩]],used:=e.used++[nm.data.toList],slots:=e.slots++[(bt,s)]} la lc ub a' c' bs∧Below B w wd∧Kx w wd:=by
 have Dk:=h.maps _ mb hmb
 have adC:=(List.getElem?_eq_some_iff.1 hmb).1
 have mnu:mb≠ub:=fun e2=>(List.nodup_cons.1 h.nd).1 (e2▸List.mem_of_getElem? hmb)
 have RQ:∀k,some k≠some ub→k<w.heap.size→wa.heap[k]?=w.heap[k]?:=fun k hk hl=>ha.block k hl hk
 have gu:ub≠g:=aV h.blk h.us
 have gm:mb≠g:=aV h.blk Dk.2
 have sA:wa.ownsRow B _ 2 _ _ _:=aU h.sl fun k hk=>RQ k (fun e=>by injection e with e;exact bW h.sl h.us (by rw [hk,e])) (aK h.sl k hk).2
 have gA:ak wa g _ _:=(RQ g (fun e=>by injection e with e;exact gu e.symm) h.blk.lt).trans h.blk
 have sB:=aU sA fun k hk=>hab.block k (aK sA k hk).2
 have gB:ak wb g _ _:=gA.keep hab
 have gC:ak wc g _ _:=gB.grown hbc (bn sB gB jK)
 have szA:=ha.size;have szB:=hab.size;have szC:=hbc.size
 have slow:=aK sB
 have stay:∀k,k<w.heap.size→k≠ub→k≠mb→k≠g→some k≠(Value.slice sa e.slots.length sc).ownBlock→wd.heap[k]?=w.heap[k]?:=fun k hk k1 k2 k3 k4=>by
  have q1:k<(wc.setCell ⟨g,3,none⟩ (.slice a' (e.slots.length+1) c')).heap.size:=by simp;omega
  refine(hcd.block k q1 (fun e=>by injection e with e;exact k2 e)).trans ((Below.heap_setCell wc ⟨g,3,none⟩ _ k k3).trans ((hbc.block k (by omega) k4).trans ((hab.block k (by omega)).trans (RQ k (fun e=>by injection e with e;exact k1 e) hk))))
 have Xa:∀k,k<wa.heap.size→k≠mb→k≠g→some k≠(Value.slice sa e.slots.length sc).ownBlock→wd.heap[k]?=wa.heap[k]?:=fun k hk k2 k3 k4=>by
  have q1:k<(wc.setCell ⟨g,3,none⟩ (.slice a' (e.slots.length+1) c')).heap.size:=by simp;omega
  exact(hcd.block k q1 (fun e=>by injection e with e;exact k2 e)).trans ((Below.heap_setCell wc ⟨g,3,none⟩ _ k k3).trans ((hbc.block k (by omega) k4).trans (hab.block k (by omega))))
 have Xb:∀k,k<wc.heap.size→k≠mb→k≠g→wd.heap[k]?=wc.heap[k]?:=fun k hk k2 k3=>by
  have q1:k<(wc.setCell ⟨g,3,none⟩ (.slice a' (e.slots.length+1) c')).heap.size:=by simpa using hk
  exact(hcd.block k q1 (fun e=>by injection e with e;exact k2 e)).trans (Below.heap_setCell wc ⟨g,3,none⟩ _ k k3)
 have hlen:(e.lv.dropLast++[(e.lv.getLastD [])++[(⟨nm.data.toList,bt,s,e.slots.length⟩:Ck.Loc)]]).length=e.lv.length:=by rw [List.length_append,List.length_dropLast];simp;omega
 have hsl:(e.slots++[(bt,s)]).length=e.slots.length+1:=by simp
 have aak:SMap FD Ck.uD (wc.setCell ⟨g,3,none⟩ (.slice a' (e.slots.length+1) c')) mb e.slots.length (Ck.wQ (e.lv.getD (e.lv.length-1) [])):=by
  have m1:=Dk.2.same (RQ mb (fun e=>by injection e with e;exact mnu e) Dk.2.lt)
  have m2:=m1.keep hab
  exact(m2.same (hbc.block mb m2.lt (bW sB m2))).same (Below.heap_setCell wc ⟨g,3,none⟩ _ mb gm)
 refine⟨⟨?_,h.hB,?_,?_,?_,?_,h.ge,fun i b hb=>?_,h.nd⟩,?_,(Kx.map h.us ha).trans ((Kx.below hab).trans ((Kx.row sB (by decide) (by decide) hbc).trans ((Kx.setCell gC (by decide) (by decide) _ _).trans (Kx.map aak hcd))))⟩
 ·have h3:=gC.dJ 3 (.slice a' (e.slots.length+1) c')
  have h4:ak wd g _ _:=h3.grown hcd (fun e=>by injection e with e;exact gm e.symm)
  simp only [hlen,hsl]
  simpa using h4
 ·simp only [hlen]
  exact aU h.lv fun k hk=>stay k (aK h.lv k hk).2 (fun e=>bW h.lv h.us (by rw [hk,e])) (fun e=>bW h.lv Dk.2 (by rw [hk,e])) (fun e=>bn h.lv h.blk jL (by rw [hk,e])) (oO h.sl h.lv (Ne.symm uF) hk)
 ·simp only [hsl]
  rw [Ck.zW]
  refine aU ho fun k hk=>Xb k (aK ho k hk).2 (fun e2=>?_) (fun e2=>bn ho gC jK (by rw [hk,e2]))
  have hmc:SMap FD Ck.uD wc mb e.slots.length (Ck.wQ (e.lv.getD (e.lv.length-1) [])):=by
   have m1:=Dk.2.same (RQ mb (fun e=>by injection e with e;exact mnu e) Dk.2.lt)
   have m2:=m1.keep hab
   exact m2.same (hbc.block mb m2.lt (bW sB m2))
  exact bW ho hmc (by rw [hk,e2])
 ·simp only [hsl]
  have:=hua.same (Xa ub hua.lt mnu.symm gu (bW sA hua))
  exact this.congr fun l=>(Ck.Kw e.used nm.data.toList l).symm
 ·simp only [hlen];exact h.len
 ·simp only [hsl]
  obtain⟨h5,h6⟩:=h.maps i b hb
  have hi:i<e.lv.length:=by have:=(List.getElem?_eq_some_iff.1 hb).1;rw [h.len]at this;exact this
  refine⟨h5,?_⟩
  by_cases hl:i=e.lv.length-1
  ·subst hl
   rw [hmb]at hb
   injection hb with hb
   subst hb
   have e1:(e.lv.dropLast++[(e.lv.getLastD [])++[(⟨nm.data.toList,bt,s,e.slots.length⟩:Ck.Loc)]]).getD (e.lv.length-1) []=(e.lv.getLastD [])++[⟨nm.data.toList,bt,s,e.slots.length⟩]:=by
    rw [List.getD_eq_getElem?_getD,List.getElem?_append_right (by rw [List.length_dropLast];exact Nat.le_refl _),List.length_dropLast,Nat.sub_self];rfl
   simp only [e1]
   exact hmd.congr fun l=>(Ck.Ky (e.lv.getLastD []) ⟨nm.data.toList,bt,s,e.slots.length⟩ l).symm
  ·have e1:(e.lv.dropLast++[(e.lv.getLastD [])++[(⟨nm.data.toList,bt,s,e.slots.length⟩:Ck.Loc)]]).getD i []=e.lv.getD i []:=by
    rw [List.getD_eq_getElem?_getD,List.getD_eq_getElem?_getD,List.getElem?_append_left (by rw [List.length_dropLast];omega),List.getElem?_dropLast,if_pos (by omega)]
   simp only [e1]
   have bnm:b≠mb:=fun e2=>by
    subst e2
    have hnd:=(List.nodup_cons.1 h.nd).2
    have:=(List.getElem?_inj (by have:=(List.getElem?_eq_some_iff.1 hb).1;exact this) hnd).1 (hb.trans hmb.symm)
    exact hl this
   have bnu:b≠ub:=fun e2=>(List.nodup_cons.1 h.nd).1 (e2▸List.mem_of_getElem? hb)
   exact(h6.same (stay b h6.lt bnu bnm (aV h.blk h6) (bW h.sl h6))).mono (Nat.le_succ _)
 ·refine⟨?_,?_,?_,?_,fun k hk=>?_⟩
  ·exact hcd.os.trans ((show(wc.setCell _ _).os=wc.os from rfl).trans (hbc.os.trans (hab.os.trans ha.os)))
  ·exact hcd.tape.trans ((show(wc.setCell _ _).tape=wc.tape from rfl).trans (hbc.tape.trans (hab.tape.trans ha.tape)))
  ·exact hcd.output.trans ((show(wc.setCell _ _).output=wc.output from rfl).trans (hbc.output.trans (hab.output.trans ha.output)))
  ·have:=hcd.size
   have e2:(wc.setCell ⟨g,3,none⟩ (.slice a' (e.slots.length+1) c')).heap.size=wc.heap.size:=by simp
   omega
  ·have hgB:=h.hB;have huB:=h.ge;have hmB:=Dk.1
   exact stay k (by omega) (by omega) (by omega) (by omega) (fun e2=>by have:=(aK h.sl k e2.symm).1;omega)
theorem Sc.stay{wa wb wc:World}{u:Value}(h:Sc w B g tb fq fo e la lc ub sa sc bs)(ha:w.grownBy wa (some ub))(hab:Below wa.heap.size wa wb)(hbc:wb.grownBy wc (Value.slice sa e.slots.length sc).ownBlock)(k:Nat)(hk:k<w.heap.size)(k1:k≠ub)(k3:k≠g)
 (k4:some k≠(Value.slice sa e.slots.length sc).ownBlock):(wc.setCell ⟨g,3,none⟩ u).heap[k]?=w.heap[k]?:=by
 have szA:=ha.size;have szB:=hab.size
 exact(Below.heap_setCell wc ⟨g,3,none⟩ _ k k3).trans ((hbc.block k (by omega) k4).trans ((hab.block k (by omega)).trans (ha.block k hk (fun e=>by injection e with e;exact k1 e))))
theorem Sc.SE{wa wb wc:World}(h:Sc w B g tb fq fo e la lc ub sa sc bs)(ha:w.grownBy wa (some ub))(hab:Below wa.heap.size wa wb)(hbc:wb.grownBy wc (Value.slice sa e.slots.length sc).ownBlock):
 ak wa g 87 #[P tb, .slice la e.lv.length lc, .map (some ub), .slice sa e.slots.length sc, .int .i64 (e.loops:Int), .pointer (some ⟨fq,fo,none⟩)]∧wa.ownsRow B 33 2 (.slice sa e.slots.length sc) e.slots.length (Ck.slc e.slots)∧
  wb.ownsRow B 33 2 (.slice sa e.slots.length sc) e.slots.length (Ck.slc e.slots)∧
  ak wc g 87 #[P tb, .slice la e.lv.length lc, .map (some ub), .slice sa e.slots.length sc, .int .i64 (e.loops:Int), .pointer (some ⟨fq,fo,none⟩)]:=by
 have gu:ub≠g:=aV h.blk h.us
 have RQ:∀k,some k≠some ub→k<w.heap.size→wa.heap[k]?=w.heap[k]?:=fun k hk hl=>ha.block k hl hk
 have sA:wa.ownsRow B 33 2 (.slice sa e.slots.length sc) e.slots.length (Ck.slc e.slots):=aU h.sl fun k hk=>RQ k (fun e2=>by injection e2 with e2;exact bW h.sl h.us (by rw [hk,e2])) (aK h.sl k hk).2
 have gA:ak wa g _ _:=(RQ g (fun e=>by injection e with e;exact gu e.symm) h.blk.lt).trans h.blk
 have sB:=aU sA fun k hk=>hab.block k (aK sA k hk).2
 have gB:ak wb g _ _:=gA.keep hab
 exact⟨gA,sA,sB,gB.grown hbc (bn sB gB jK)⟩
theorem Sc.top{lb mb:Nat}(h:Sc w B g tb fq fo e (some ⟨lb,0,none⟩) lc ub sa sc bs)(hmb:bs[e.lv.length-1]?=some mb):w.cell? ⟨lb,e.lv.length-1,none⟩=some (.map (some mb))∧lb<w.heap.size∧lb≠ub∧lb≠g∧some lb≠(Value.slice sa e.slots.length sc).ownBlock:=by
 have hc:=h.lv.cells (g:=lb) rfl (e.lv.length-1) (.map (some mb)) (by rw [List.getElem?_map,hmb];rfl)
 rw [X.bV,Nat.zero_add]at hc
 refine⟨hc,(aK h.lv lb rfl).2,fun e2=>?_,fun e2=>?_,?_⟩
 ·exact bW h.lv h.us (by rw [←e2];rfl)
 ·exact bn h.lv h.blk jL (by rw [←e2];rfl)
 ·exact oO h.sl h.lv (Ne.symm uF) rfl
theorem Sc.other{r:Nat}{t:TypeId}{cs:Array Value}{w':World}(h:Sc w B g tb fq fo e la lc ub sa sc bs)(hr:ak w r t cs)(h1:87≠t)(h2:135≠t)(h3:33≠t)(hw:∀k,k≠r→w'.heap[k]?=w.heap[k]?):Sc w' B g tb fq fo e la lc ub sa sc bs:=
 ⟨(hw g (h.blk.XV hr h1)).trans h.blk,h.hB,aU h.lv fun b hb=>hw b (fun e2=>bn h.lv hr h2 (by rw [hb,e2])),aU h.sl fun b hb=>hw b (fun e2=>bn h.sl hr h3 (by rw [hb,e2])),
   h.us.same (hw ub (aV hr h.us)),h.len,h.ge,fun i b hb=>⟨(h.maps i b hb).1,(h.maps i b hb).2.same (hw b (aV hr (h.maps i b hb).2))⟩,h.nd⟩
end
end
end Go.Proofs.Ythdckndjggljpaa
