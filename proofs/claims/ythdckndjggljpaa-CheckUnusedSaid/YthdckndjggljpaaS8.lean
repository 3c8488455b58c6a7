/- Proofs of this claim, part 8. No condition. -/
import Derived.Handy
import Derived.Lib.SmallJoins
import Derived.Test.YthdckndjggljpaaS3
import Derived.Test.YthdckndjggljpaaS4
import Derived.Test.YthdckndjggljpaaS5
import Derived.Test.YthdckndjggljpaaS6
import Derived.Test.YthdckndjggljpaaS7
namespace Go.Proofs.Ythdckndjggljpaa
set_option linter.unusedVariables false
set_option linter.unusedSimpArgs false
set_option maxRecDepth 100000
set_option maxHeartbeats 64000000
section
open Go.RowKit
theorem W.cell_lt{w:World}{B o:Nat}{v:Value}(h:w.cell? ⟨B,o,none⟩=some v):B<w.heap.size:=World.block_lt_of_cell? w ⟨B,o,none⟩ h
def W.cb(a b:Int):Int:=if W.pb b<W.pb a then W.pb a else W.pb b
def W.cs(a:Int)(s:Bool)(b:Int)(t:Bool):Bool:=if W.pb b<W.pb a then W.ps a s else if W.pb a<W.pb b then W.ps b t else W.ps a s&&W.ps b t
theorem xM(a b:Int)(s t:Bool)(w:World):Calls Try.prog 67 #[W.ty a s,W.ty b t] w fun e w'=>e= .returned (W.ty (W.cb a b) (W.cs a s b t))∧Below w.heap.size w w':=by
 unfold W.cb W.cs
 by_cases h1:W.pb b<W.pb a
 ·rw [if_pos h1,if_pos h1];exact Hr a b _ _ s t _ _ rfl rfl rfl rfl h1 w
 rw [if_neg h1,if_neg h1]
 by_cases h2:W.pb a<W.pb b
 ·rw [if_pos h2];exact He a b _ _ s t _ _ rfl rfl rfl rfl h1 h2 w
 rw [if_neg h2]
 have e:W.pb b=W.pb a:=by omega
 rw [e]
 rcases Bool.eq_false_or_eq_true (W.ps a s)with hS|hS
 ·rw [hS];exact Ht a b _ _ s t _ rfl e hS rfl (by omega) (by omega) w
 ·rw [hS];exact Hu a b _ _ s t _ rfl e hS rfl (by omega) (by omega) w
end
section
open Go.RowKit
def W.lit(n:Int)(u:Bool):Int×Bool×Int:=
 if u then(if n≤65535 then(16,false,0)else if n≤4294967295 then(32,false,0)else(64,false,0))
 else(if n≤32767 then(16,true,0)else if n≤2147483647 then(32,true,0)else if n≤9223372036854775807 then(64,true,0)else(0,false,3))
def mJ(b:Int)(s:Bool)(k:Int)(w:World)(e:Ending)(w':World):Prop:=e= .returned (.tuple #[W.ty b s, .int .i64 k])∧Below w.heap.size w w'
theorem DX(n:Int)(h:n≤65535)(w:World):Calls Try.prog 55 #[.int .u64 n, .bool true] w (mJ 16 false 0 w):=by
 go_enter Try.func55,Try.ntmps55
 go_wp2
 go_rounds 1
 exact bodyPost_ret (v:= .tuple #[W.ty 16 false, .int .i64 0]) (by simp [results,Try.results55,go_sem]) rfl ⟨rfl,by repeat(first|exact Below.refl _ _|refine Ext.setCell ?_ (by simp) _|refine Ext.alloc ?_ _)⟩
theorem DY(n:Int)(h1:65535<n)(h:n≤4294967295)(w:World):Calls Try.prog 55 #[.int .u64 n, .bool true] w (mJ 32 false 0 w):=by
 go_enter Try.func55,Try.ntmps55
 go_wp2
 go_rounds 2
 exact bodyPost_ret (v:= .tuple #[W.ty 32 false, .int .i64 0]) (by simp [results,Try.results55,go_sem]) rfl ⟨rfl,by repeat(first|exact Below.refl _ _|refine Ext.setCell ?_ (by simp) _|refine Ext.alloc ?_ _)⟩
theorem DZ(n:Int)(h1:4294967295<n)(h:n≤18446744073709551615)(w:World):Calls Try.prog 55 #[.int .u64 n, .bool true] w (mJ 64 false 0 w):=by
 have h0:65535<n:=by omega
 go_enter Try.func55,Try.ntmps55
 go_wp2
 go_rounds 3
 exact bodyPost_ret (v:= .tuple #[W.ty 64 false, .int .i64 0]) (by simp [results,Try.results55,go_sem]) rfl ⟨rfl,by repeat(first|exact Below.refl _ _|refine Ext.setCell ?_ (by simp) _|refine Ext.alloc ?_ _)⟩
theorem DT(n:Int)(h:n≤32767)(w:World):Calls Try.prog 55 #[.int .u64 n, .bool false] w (mJ 16 true 0 w):=by
 go_enter Try.func55,Try.ntmps55
 go_wp2
 go_rounds 1
 exact bodyPost_ret (v:= .tuple #[W.ty 16 true, .int .i64 0]) (by simp [results,Try.results55,go_sem]) rfl ⟨rfl,by repeat(first|exact Below.refl _ _|refine Ext.setCell ?_ (by simp) _|refine Ext.alloc ?_ _)⟩
theorem DU(n:Int)(h1:32767<n)(h:n≤2147483647)(w:World):Calls Try.prog 55 #[.int .u64 n, .bool false] w (mJ 32 true 0 w):=by
 go_enter Try.func55,Try.ntmps55
 go_wp2
 go_rounds 2
 exact bodyPost_ret (v:= .tuple #[W.ty 32 true, .int .i64 0]) (by simp [results,Try.results55,go_sem]) rfl ⟨rfl,by repeat(first|exact Below.refl _ _|refine Ext.setCell ?_ (by simp) _|refine Ext.alloc ?_ _)⟩
theorem DV(n:Int)(h1:2147483647<n)(h:n≤9223372036854775807)(w:World):Calls Try.prog 55 #[.int .u64 n, .bool false] w (mJ 64 true 0 w):=by
 have h0:32767<n:=by omega
 go_enter Try.func55,Try.ntmps55
 go_wp2
 go_rounds 3
 exact bodyPost_ret (v:= .tuple #[W.ty 64 true, .int .i64 0]) (by simp [results,Try.results55,go_sem]) rfl ⟨rfl,by repeat(first|exact Below.refl _ _|refine Ext.setCell ?_ (by simp) _|refine Ext.alloc ?_ _)⟩
theorem DW(n:Int)(h1:9223372036854775807<n)(w:World):Calls Try.prog 55 #[.int .u64 n, .bool false] w (mJ 0 false 3 w):=by
 have h0:32767<n:=by omega
 have h2:2147483647<n:=by omega
 go_enter Try.func55,Try.ntmps55
 go_wp2
 go_rounds 4
 exact bodyPost_ret (v:= .tuple #[W.ty 0 false, .int .i64 3]) (by simp [results,Try.results55,go_sem]) rfl ⟨rfl,by repeat(first|exact Below.refl _ _|refine Ext.setCell ?_ (by simp) _|refine Ext.alloc ?_ _)⟩
theorem lU(n:Int)(u:Bool)(h:W.U n)(w:World):Calls Try.prog 55 #[.int .u64 n, .bool u] w (mJ (W.lit n u).1 (W.lit n u).2.1 (W.lit n u).2.2 w):=by
 unfold W.lit
 have h2:=h.2
 cases u
 ·by_cases a:n≤32767
  ·simp only [Bool.false_eq_true,if_false,if_pos a];exact DT n a w
  by_cases b:n≤2147483647
  ·simp only [Bool.false_eq_true,if_false,if_neg a,if_pos b];exact DU n (by omega) b w
  by_cases c:n≤9223372036854775807
  ·simp only [Bool.false_eq_true,if_false,if_neg a,if_neg b,if_pos c];exact DV n (by omega) c w
  ·simp only [Bool.false_eq_true,if_false,if_neg a,if_neg b,if_neg c];exact DW n (by omega) w
 ·by_cases a:n≤65535
  ·simp only [if_true,if_pos a];exact DX n a w
  by_cases b:n≤4294967295
  ·simp only [if_true,if_neg a,if_pos b];exact DY n (by omega) b w
  ·simp only [if_true,if_neg a,if_neg b];exact DZ n (by omega) (by omega) w
def W.wds(b:Int):Int:=if b=8 then 1 else b/16
theorem xW(b:Int)(s:Bool)(h:W.ok b)(w:World):Calls Try.prog 28 #[W.ty b s] w fun e w'=>e= .returned (.int .i64 (W.wds b))∧Below w.heap.size w w':=by
 rcases h with rfl|rfl|rfl|rfl
 all_goals
  go_enter Try.func28,Try.ntmps28
  go_wp2
  go_ret
  exact⟨rfl,Ext.alloc (Below.refl _ _) _⟩
def W.rb(k a b:Int):Int:=if k=14∨k=15 then W.pb a else if 16≤k∧k≤21 then 16 else W.cb a b
def W.rs(k a:Int)(s:Bool)(b:Int)(t:Bool):Bool:=if k=14∨k=15 then W.ps a s else if 16≤k∧k≤21 then true else W.cs a s b t
theorem xR(k a b:Int)(s t:Bool)(w:World):Calls Try.prog 47 #[.int .i64 k,W.ty a s,W.ty b t] w fun e w'=>e= .returned (W.ty (W.rb k a b) (W.rs k a s b t))∧Below w.heap.size w w':=by
 have PA:Hid (∀w:World,Calls Try.prog 61 #[W.ty a s] w fun e w'=>e= .returned (W.ty (W.pb a) (W.ps a s))∧Below w.heap.size w w'):=fun w=>dB a s w
 have PC:Hid (∀w:World,Calls Try.prog 67 #[W.ty a s,W.ty b t] w fun e w'=>e= .returned (W.ty (W.cb a b) (W.cs a s b t))∧Below w.heap.size w w'):=fun w=>xM a b s t w
 unfold W.rb W.rs
 by_cases h1:k=14∨k=15
 ·rw [if_pos h1,if_pos h1]
  generalize W.pb a=A at*
  generalize W.ps a s=S at*
  rcases h1 with rfl|rfl
  all_goals
   go_enter Try.func47,Try.ntmps47
   go_wp2_with(first|(go_at_call 61;refine(PA.out _).mono ?_;rintro e w1⟨rfl,hb⟩;have HB:=Lib.hid hb;obtain⟨k0,k1,g0,g1⟩:=Ty.below (Ty.new _ (B:=w.heap.size+1+1) (by simp) 0 false _) hb;clear hb))
   exact bodyPost_ret (v:=W.ty A S) (by simp [results,Try.results47,go_sem,k0,k1,g0,g1]) rfl ⟨rfl,Ext.setCell (Ext.setCell (Ext.trans (Ext.alloc (Ext.alloc (Ext.alloc (Below.refl _ _) _) _) _) HB.out) (Nat.le_add_right _ 2) _) (Nat.le_add_right _ 2) _⟩
 rw [if_neg h1,if_neg h1]
 have qc:(k==14)=false:=by simp;omega
 have h15:(k==15)=false:=by simp;omega
 by_cases h2:16≤k∧k≤21
 ·rw [if_pos h2,if_pos h2]
  obtain⟨ha,hb⟩:=h2
  clear h1
  go_enter Try.func47,Try.ntmps47
  go_wp2_with(first|(go_at_call 43;refine(gX _).mono ?_;rintro e w1⟨rfl,hb⟩;have HB:=Lib.hid hb;obtain⟨k0,k1,g0,g1⟩:=Ty.below (Ty.new _ (B:=w.heap.size+1+1) (by simp) 0 false _) hb;clear hb))
  exact bodyPost_ret (v:=W.ty 16 true) (by simp [results,Try.results47,go_sem,k0,k1,g0,g1]) rfl ⟨rfl,Ext.setCell (Ext.setCell (Ext.trans (Ext.alloc (Ext.alloc (Ext.alloc (Below.refl _ _) _) _) _) HB.out) (Nat.le_add_right _ 2) _) (Nat.le_add_right _ 2) _⟩
 ·rw [if_neg h2,if_neg h2]
  generalize W.cb a b=A at*
  generalize W.cs a s b t=S at*
  by_cases h3:k<16
  ·clear h1 h2
   go_enter Try.func47,Try.ntmps47
   go_wp2_with(first|(go_at_call 67;refine(PC.out _).mono ?_;rintro e w1⟨rfl,hb⟩;have HB:=Lib.hid hb;obtain⟨k0,k1,g0,g1⟩:=Ty.below (Ty.new _ (B:=w.heap.size+1+1) (by simp) 0 false _) hb;clear hb))
   exact bodyPost_ret (v:=W.ty A S) (by simp [results,Try.results47,go_sem,k0,k1,g0,g1]) rfl ⟨rfl,Ext.setCell (Ext.setCell (Ext.trans (Ext.alloc (Ext.alloc (Ext.alloc (Below.refl _ _) _) _) _) HB.out) (Nat.le_add_right _ 2) _) (Nat.le_add_right _ 2) _⟩
  ·have h4:21<k:=by omega
   clear h1 h2
   go_enter Try.func47,Try.ntmps47
   go_wp2_with(first|(go_at_call 67;refine(PC.out _).mono ?_;rintro e w1⟨rfl,hb⟩;have HB:=Lib.hid hb;obtain⟨k0,k1,g0,g1⟩:=Ty.below (Ty.new _ (B:=w.heap.size+1+1) (by simp) 0 false _) hb;clear hb))
   exact bodyPost_ret (v:=W.ty A S) (by simp [results,Try.results47,go_sem,k0,k1,g0,g1]) rfl ⟨rfl,Ext.setCell (Ext.setCell (Ext.trans (Ext.alloc (Ext.alloc (Ext.alloc (Below.refl _ _) _) _) _) HB.out) (Nat.le_add_right _ 2) _) (Nat.le_add_right _ 2) _⟩
end
section
open Go.RowKit
inductive X where
 |mk(k:Int)(n:Int)(b:Int)(s:Bool)(nm:ByteArray)(ks:List X)
namespace X
def kind:X→Int|mk k _ _ _ _ _=>k
def num:X→Int|mk _ n _ _ _ _=>n
def bits:X→Int|mk _ _ b _ _ _=>b
def sg:X→Bool|mk _ _ _ s _ _=>s
def name:X→ByteArray|mk _ _ _ _ nm _=>nm
def kids:X→List X|mk _ _ _ _ _ ks=>ks
theorem V6{x y:X}(h:y∈x.kids):SizeOf.sizeOf y<SizeOf.sizeOf x:=by
 obtain⟨k,n,b,s,nm,ks⟩:=x
 have:=List.sizeOf_lt_of_mem (show y∈ks from h)
 simp only [mk.sizeOf_spec]
 omega
theorem up{M:X→Prop}(h:∀x,(∀y∈x.kids,M y)→M x)(x:X):M x:=by
 have:∀n,∀x:X,SizeOf.sizeOf x<n→M x:=by
  intro n
  induction n with
  |zero=>intro x hx;omega
  |succ n ih=>intro x hx;exact h x (fun y hy=>ih y (by have:=V6 hy;omega))
 exact this _ x (Nat.lt_succ_self _)
end X
abbrev X.cells(k n b:Int)(s:Bool)(nm:ByteArray)(v:Value):List Value:=[.int .i64 k, .int .u64 n, .int .i64 b, .bool s, .string nm,v]
inductive eU(w:World):X→List Value→Prop
 |mk(k n b:Int)(s:Bool)(nm:ByteArray)(ks:List X)(a:Option Addr)(c:Nat)(cs:Nat→List Value)(hc:ks.length≤c)(hm:c≤maxLen)(hk:∀i x,ks[i]?=some x→eU w x (cs i))
   (ha:0<ks.length→∃b off,a=some ⟨b,off,none⟩∧∀i j u,i<ks.length→(cs i)[j]?=some u→w.cell? ⟨b,off+i*6+j,none⟩=some u):
   eU w (.mk k n b s nm ks) (X.cells k n b s nm (.slice a ks.length c))
inductive X.Wf:X→Prop
 |mk(k n b:Int)(s:Bool)(nm:ByteArray)(ks:List X)(hk:W.I k)(hn:W.U n)(hb:W.I b)(hs:nm.size≤maxLen)(h:∀x∈ks,X.Wf x):X.Wf (.mk k n b s nm ks)
theorem eU.keep{w w':World}{x:X}{cs:List Value}(h:eU w x cs)(hb:Below w.heap.size w w'):eU w' x cs:=by
 induction h with
 |mk k n b s nm ks a c cs hc hm hk ha ih=>
  refine .mk k n b s nm ks a c cs hc hm ih (fun h0=>?_)
  obtain⟨g,off,e,hcell⟩:=ha h0
  refine⟨g,off,e,fun i j u hi hu=>?_⟩
  have:=hcell i j u hi hu
  rw [Below.cell (p:=⟨g,off+i*6+j,none⟩) hb (World.block_lt_of_cell? _ _ this)]
  exact this
theorem eU.open{w:World}{x:X}{cs:List Value}(h:eU w x cs):∃a c,cs=X.cells x.kind x.num x.bits x.sg x.name (.slice a x.kids.length c)∧x.kids.length≤c∧c≤maxLen∧
 ∀i y,x.kids[i]?=some y→∃g off ys,a=some ⟨g,off,none⟩∧eU w y ys∧∀j u,ys[j]?=some u→w.cell? ⟨g,off+i*6+j,none⟩=some u:=by
 cases h with
 |mk k n b s nm ks a c cs hc hm hk ha=>
  refine⟨a,c,rfl,hc,hm,fun i y hy=>?_⟩
  have hi:i<ks.length:=(List.getElem?_eq_some_iff.1 hy).1
  obtain⟨g,off,e,hcell⟩:=ha (by omega)
  exact⟨g,off,cs i,e,hk i y hy,fun j u hu=>hcell i j u hi hu⟩
theorem eU.six{w:World}{x:X}{cs:List Value}(h:eU w x cs):cs.length=6:=by cases h;rfl
end
section
open Go.RowKit
namespace X
def aX(k:Int):Int:=if k<1∨26<k then-2 else if k≤2 then 0 else if k=4 then-1 else if k≤8 then 1 else 2
def own(k n b:Int)(s:Bool)(nm:List UInt8)(c:Nat):Int:=
 if k<1∨26<k then 1
 else if k=1∧¬W.lit n (!s)=(b,s,0)then 9
 else if(k=2∨k=3∨k=4)∧Tk.oC nm=false then 7
 else if k=5∧W.okB b=false then 9
 else if(aX k=-1∧8<c)∨(0≤aX k∧aX k≠(c:Int))then 5
 else 0
mutual
def cnt:X→Nat→Int→Int×Nat
 | .mk k n b s nm ks,N,d=>if 20000≤N∨100<d then(4,N+1)else if own k n b s nm.data.toList ks.length=0 then cnts ks (N+1) (d+1)else(own k n b s nm.data.toList ks.length,N+1)
def cnts:List X→Nat→Int→Int×Nat
 |[],N,_=>(0,N)
 |x::xs,N,d=>if(cnt x N d).1=0 then cnts xs (cnt x N d).2 d else cnt x N d
end
theorem jP(x:X)(N:Nat)(d:Int):cnt x N d=if 20000≤N∨100<d then(4,N+1)else if own x.kind x.num x.bits x.sg x.name.data.toList x.kids.length=0 then cnts x.kids (N+1) (d+1)else(own x.kind x.num x.bits x.sg x.name.data.toList x.kids.length,N+1):=by
 cases x;rw [cnt];rfl
inductive gK:X→Prop
 |mk(k n b:Int)(s:Bool)(nm:ByteArray)(ks:List X)(h:own k n b s nm.data.toList ks.length=0)(hk:∀x∈ks,gK x):gK (.mk k n b s nm ks)
theorem gK.own{x:X}(h:gK x):X.own x.kind x.num x.bits x.sg x.name.data.toList x.kids.length=0:=by cases h;assumption
theorem gK.kid{x y:X}(h:gK x)(hy:y∈x.kids):gK y:=by cases h with|mk _ _ _ _ _ _ _ hk=>exact hk y hy
theorem VR{x:X}(h:X.own x.kind x.num x.bits x.sg x.name.data.toList x.kids.length=0)(hk:∀y∈x.kids,gK y):gK x:=by cases x;exact .mk _ _ _ _ _ _ h hk
theorem BM{xs:List X}(ih:∀y∈xs,∀N d,(cnt y N d).1=0→gK y):∀N d,(cnts xs N d).1=0→∀y∈xs,gK y:=by
 induction xs with
 |nil=>intro _ _ _ y hy;simp at hy
 |cons x xs ih2=>
  intro N d h y hy
  rw [cnts]at h
  split at h
  ·rename_i h1
   rcases List.mem_cons.1 hy with rfl|hy
   ·exact ih _ (List.mem_cons_self ..) N d h1
   ·exact ih2 (fun z hz=>ih z (List.mem_cons_of_mem _ hz)) _ _ h y hy
  ·rename_i h1;exact absurd h h1
theorem nR(x:X):∀N d,(cnt x N d).1=0→gK x:=by
 induction x using X.up with
 |_ x ih=>
  intro N d h
  rw [jP]at h
  split at h
  ·simp at h
  ·split at h
   ·rename_i h1;exact VR h1 (BM ih _ _ h)
   ·rename_i h1;exact absurd h h1
theorem rJ(xs:List X)(y:X):∀(N:Nat)(d:Int),(cnts xs N d).1=0→cnts (xs++[y]) N d=cnt y (cnts xs N d).2 d:=by
 induction xs with
 |nil=>intro N d h;rw [List.nil_append,cnts,cnts,cnts];split
       ·rename_i h1;rw [Prod.ext_iff];exact⟨h1.symm,rfl⟩
       ·rfl
 |cons x xs ih=>
  intro N d h
  rw [List.cons_append,cnts]
  rw [cnts]at h
  split at h
  ·rename_i h1;rw [if_pos h1,ih _ _ h,cnts,if_pos h1]
  ·rename_i h1;exact absurd h h1
theorem rZ(xs zs:List X):∀(N:Nat)(d:Int),(cnts xs N d).1≠0→cnts (xs++zs) N d=cnts xs N d:=by
 induction xs with
 |nil=>intro N d h;exact absurd rfl h
 |cons x xs ih=>
  intro N d h
  rw [cnts]at h
  rw [List.cons_append,cnts,cnts]
  split at h
  ·rename_i h1;rw [if_pos h1,if_pos h1];exact ih _ _ h
  ·rename_i h1;rw [if_neg h1,if_neg h1]
theorem Wf.num{x:X}(h:Wf x):W.U x.num:=by cases h;assumption
theorem Wf.kid{x y:X}(h:Wf x)(hy:y∈x.kids):Wf y:=by cases h with|mk _ _ _ _ _ _ _ _ _ _ h=>exact h y hy
theorem Wf.knd{x:X}(h:Wf x):W.I x.kind:=by cases h;assumption
theorem Wf.bts{x:X}(h:Wf x):W.I x.bits:=by cases h;assumption
theorem Wf.nms{x:X}(h:Wf x):x.name.size≤maxLen:=by cases h;assumption
end X
namespace X
theorem dQ(x:X):∀N d,N≤20000→(cnt x N d).1=0→(cnt x N d).2≤20000:=by
 have all:∀xs:List X,(∀y∈xs,∀N d,N≤20000→(cnt y N d).1=0→(cnt y N d).2≤20000)→∀N d,N≤20000→(cnts xs N d).1=0→(cnts xs N d).2≤20000:=by
  intro xs
  induction xs with
  |nil=>intro _ N d hN _;exact hN
  |cons x xs ih=>
   intro hx N d hN h
   rw [cnts]at h⊢
   split at h
   ·rename_i h1;rw [if_pos h1];exact ih (fun z hz=>hx z (List.mem_cons_of_mem _ hz)) _ _ (hx x (List.mem_cons_self ..) N d hN h1) h
   ·rename_i h1;exact absurd h h1
 induction x using X.up with
 |_ x ih=>
  intro N d hN h
  rw [jP]at h⊢
  split at h
  ·simp at h
  ·rename_i h0
   rw [if_neg h0]
   split at h
   ·rename_i h1;rw [if_pos h1];exact all _ ih _ _ (by omega) h
   ·rename_i h1;exact absurd h h1
theorem jI{x:X}{i:Nat}{y:X}(hy:x.kids[i]?=some y)(N:Nat)(d:Int)(h:(cnts (x.kids.take i) N d).1=0):cnts (x.kids.take (i+1)) N d=cnt y (cnts (x.kids.take i) N d).2 d:=by
 rw [List.take_add_one,hy];exact rJ _ _ _ _ h
theorem qA{x:X}{i:Nat}{y:X}(hy:x.kids[i]?=some y)(N:Nat)(d:Int)(h:(cnts (x.kids.take i) N d).1=0)(hb:(cnt y (cnts (x.kids.take i) N d).2 d).1≠0):cnts x.kids N d=cnt y (cnts (x.kids.take i) N d).2 d:=by
 rw [←jI hy N d h]at hb⊢
 have:=rZ (x.kids.take (i+1)) (x.kids.drop (i+1)) N d hb
 rw [List.take_append_drop]at this
 exact this
theorem lX{xs:List X}:∀N d,N≤20000→(cnts xs N d).1=0→(cnts xs N d).2≤20000:=by
 induction xs with
 |nil=>intro N d hN _;exact hN
 |cons x xs ih=>
  intro N d hN h
  rw [cnts]at h⊢
  split at h
  ·rename_i h1;rw [if_pos h1];exact ih _ _ (dQ x N d hN h1) h
  ·rename_i h1;exact absurd h h1
end X
namespace X
theorem QM{k n b:Int}{s:Bool}{nm:List UInt8}{c:Nat}(h:k<1∨26<k):own k n b s nm c=1:=by unfold own;rw [if_pos h]
theorem Rl{n b:Int}{s:Bool}{nm:List UInt8}{c:Nat}(h:¬W.lit n (!s)=(b,s,0)):own 1 n b s nm c=9:=by unfold own;rw [if_neg (by omega),if_pos ⟨rfl,h⟩]
theorem Vf{k n b:Int}{s:Bool}{nm:List UInt8}{c:Nat}(hk:k=2∨k=3∨k=4)(h:Tk.oC nm=false):own k n b s nm c=7:=by unfold own;rw [if_neg (by omega),if_neg (by omega),if_pos ⟨hk,h⟩]
theorem Oe{n b:Int}{s:Bool}{nm:List UInt8}{c:Nat}(h:W.okB b=false):own 5 n b s nm c=9:=by unfold own;rw [if_neg (by omega),if_neg (by omega),if_neg (by omega),if_pos ⟨rfl,h⟩]
def Dy(k n b:Int)(s:Bool)(nm:List UInt8):Prop:=(1≤k∧k≤26)∧(k=1→W.lit n (!s)=(b,s,0))∧(k=2∨k=3∨k=4→Tk.oC nm=true)∧(k=5→W.okB b=true)
theorem KQ{k n b:Int}{s:Bool}{nm:List UInt8}{c:Nat}(h:Dy k n b s nm):own k n b s nm c=if(aX k=-1∧8<c)∨(0≤aX k∧aX k≠(c:Int))then 5 else 0:=by
 obtain⟨h1,h2,h3,h4⟩:=h
 unfold own
 rw [if_neg (by omega),if_neg (fun h=>h.2 (h2 h.1)),if_neg (fun h=>by rw [h3 h.1]at h;exact absurd h.2 (by decide)),if_neg (fun h=>by rw [h4 h.1]at h;exact absurd h.2 (by decide))]
end X
namespace X
theorem KP{k n b:Int}{s:Bool}{nm:ByteArray}{ks:List X}{N:Nat}{d:Int}(hm:¬(20000≤N∨100<d))(h:Dy k n b s nm.data.toList):
 cnt (.mk k n b s nm ks) N d=if(aX k=-1∧8<ks.length)∨(0≤aX k∧aX k≠(ks.length:Int))then(5,N+1)else cnts ks (N+1) (d+1):=by
 rw [jP,if_neg hm]
 show(if own k n b s nm.data.toList ks.length=0 then cnts ks (N+1) (d+1)else(own k n b s nm.data.toList ks.length,N+1))=_
 rw [KQ h]
 split
 ·rename_i h1;rw [if_neg (by decide)]
 ·rfl
end X
end
section
open Go.RowKit
inductive dA(w:World)(p:Nat→Prop):X→List Value→Prop
 |mk(k n b:Int)(s:Bool)(nm:ByteArray)(ks:List X)(a:Option Addr)(c:Nat)(cs:Nat→List Value)(hc:ks.length≤c)(hm:c≤maxLen)(hk:∀i x,ks[i]?=some x→dA w p x (cs i))
   (ha:0<ks.length→∃b off,p b∧a=some ⟨b,off,none⟩∧∀i j u,i<ks.length→(cs i)[j]?=some u→w.cell? ⟨b,off+i*6+j,none⟩=some u):
   dA w p (.mk k n b s nm ks) (X.cells k n b s nm (.slice a ks.length c))
theorem dA.at{w:World}{p:Nat→Prop}{x:X}{cs:List Value}(h:dA w p x cs):eU w x cs:=by
 induction h with
 |mk k n b s nm ks a c cs hc hm hk ha ih=>
  exact .mk k n b s nm ks a c cs hc hm ih (fun h0=>by obtain⟨g,off,_,e,h⟩:=ha h0;exact⟨g,off,e,h⟩)
theorem eU.xin{w:World}{x:X}{cs:List Value}(h:eU w x cs):dA w (fun _=>True) x cs:=by
 induction h with
 |mk k n b s nm ks a c cs hc hm hk ha ih=>
  exact .mk k n b s nm ks a c cs hc hm ih (fun h0=>by obtain⟨g,off,e,h⟩:=ha h0;exact⟨g,off,trivial,e,h⟩)
theorem dA.six{w:World}{p:Nat→Prop}{x:X}{cs:List Value}(h:dA w p x cs):cs.length=6:=by cases h;rfl
theorem dA.move{w w':World}{p q:Nat→Prop}{x:X}{cs:List Value}(h:dA w p x cs)(hf:∀g,p g→g<w.heap.size→q g∧w'.heap[g]?=w.heap[g]?):dA w' q x cs:=by
 induction h with
 |mk k n b s nm ks a c cs hc hm hk ha ih=>
  refine .mk k n b s nm ks a c cs hc hm ih (fun h0=>?_)
  obtain⟨g,off,hp,e,hcell⟩:=ha h0
  have hx:=hk 0 ks[0] (List.getElem?_eq_getElem h0)
  have hl:=hx.six
  have h00:(cs 0)[0]?=some (cs 0)[0]:=List.getElem?_eq_getElem (by omega)
  have hlt:g<w.heap.size:=World.block_lt_of_cell? _ _ (hcell 0 0 _ h0 h00)
  obtain⟨hq,hh⟩:=hf g hp hlt
  refine⟨g,off,hq,e,fun i j u hi hu=>?_⟩
  rw [World.cell?_of_block (w:=w) hh]
  exact hcell i j u hi hu
theorem dA.keep{w w':World}{p:Nat→Prop}{x:X}{cs:List Value}(h:dA w p x cs)(hb:Below w.heap.size w w'):dA w' p x cs:=h.move fun g hp hg=>⟨hp,hb.block g hg⟩
end
section
open Go.RowKit
theorem eU.frame{w w':World}{x:X}{cs:List Value}(h:eU w x cs)(hf:∀b o v,w.cell? ⟨b,o+5,none⟩=some v→w'.heap[b]?=w.heap[b]?):eU w' x cs:=by
 induction h with
 |mk k n b s nm ks a c cs hc hm hk ha ih=>
  refine .mk k n b s nm ks a c cs hc hm ih (fun h0=>?_)
  obtain⟨g,off,e,hcell⟩:=ha h0
  refine⟨g,off,e,fun i j u hi hu=>?_⟩
  have hx:=hk i ks[i] (List.getElem?_eq_getElem hi)
  obtain⟨a2,c2,e2,_⟩:=hx.open
  have h5:=hcell i 5 (.slice a2 (ks[i]).kids.length c2) hi (by rw [e2];rfl)
  have:=hcell i j u hi hu
  rw [World.cell?_of_block (w:=w) (hf g (off+i*6) _ h5)]
  exact this
theorem eU.aev{w w':World}{x:X}{cs:List Value}{g:Nat}{t:TypeId}{v:Value}(h:eU w x cs)(hg:ak w g t #[v])(hc:aH g w w'):eU w' x cs:=
 h.frame fun b o u hu=>by
  refine hc.block b (World.block_lt_of_cell? _ _ hu) ?_
  rintro⟨rfl⟩
  rw [hg.cell]at hu
  simp at hu
end
section
open Go.ChangeShapes Go.WideShapes Go.ChangeAt Go.RowKit
theorem X.UE{α:Type}{cs:List α}(h:cs.length=6):∃c0 c1 c2 c3 c4 c5,cs=[c0,c1,c2,c3,c4,c5]:=by
 match cs,h with
 |[c0,c1,c2,c3,c4,c5],_=>exact⟨c0,c1,c2,c3,c4,c5,rfl⟩
theorem X.dI{α:Type}{o:Option α}{xs:List α}{i:Nat}(h:o=xs[i]?)(hi:i<xs.length):∃y,o=some y:=⟨_,h.trans (List.getElem?_eq_getElem hi)⟩
theorem X.bV(b off j:Nat):(⟨b,off,none⟩:Addr).add j=⟨b,off+j,none⟩:=by rcases j with _|j<;>simp [Addr.add]
section
variable{H:Type}{enc:TypeId×Value→H}{ww:World}
theorem nG{m:Nat}{c0 c1:Value}{x:DataW H×List MemPlace}(h:DataW.trod enc Try.prog ww 0 (fun _=>true) true m 33 [c0,c1]=some x):
 ∃(b:Int)(s:Bool),c0= .int .i64 b∧c1= .bool s∧(Lit.int .i64 b).wf=true:=by
 obtain⟨xs,n,_,_,_,hn,hf⟩:=DataW.trod_struct Try.underlying33 h
 have hn':xs.length=2:=hn
 have k0:Try.prog.cellsOf 3=1:=by kernel_rfl
 have k1:Try.prog.cellsOf 4=1:=by kernel_rfl
 obtain⟨_,h0⟩:=X.dI (show DataW.trod enc Try.prog ww 0 (fun _=>true) true n 3 (List.take (Try.prog.cellsOf 3) (List.drop 0 [c0,c1]))=xs[0]? from hf 0 _ rfl) (by omega)
 obtain⟨_,h1⟩:=X.dI (show DataW.trod enc Try.prog ww 0 (fun _=>true) true n 4 (List.take (Try.prog.cellsOf 4) (List.drop 1 [c0,c1]))=xs[1]? from hf 1 _ rfl) (by omega)
 rw [k0]at h0;rw [k1]at h1
 obtain⟨b,e0,_,wb⟩:=DataW.trod_int Try.underlying3 h0
 obtain⟨s,e1,_⟩:=DataW.trod_bool Try.underlying4 h1
 simp at e0 e1
 exact⟨b,s,e0,e1,wb⟩
theorem iW:∀(n:Nat)(cs:List Value)(x:DataW H×List MemPlace),DataW.trod enc Try.prog ww 0 (fun _=>true) true n 62 cs=some x→∃e:X,eU ww e cs∧X.Wf e:=by
 intro n
 induction n using Nat.strongRecOn with
 |_ n ih=>
  intro cs x h
  obtain⟨xs,m,hm,_,hl,hn,hf⟩:=DataW.trod_struct Try.underlying62 h
  have h6:Try.prog.cellsOf 62=6:=by kernel_rfl
  rw [h6]at hl
  obtain⟨c0,c1,c2,c3,c4,c5,rfl⟩:=X.UE hl
  have hn':xs.length=5:=hn
  have k0:Try.prog.cellsOf 3=1:=by kernel_rfl
  have k1:Try.prog.cellsOf 60=1:=by kernel_rfl
  have k2:Try.prog.cellsOf 33=2:=by kernel_rfl
  have k3:Try.prog.cellsOf 9=1:=by kernel_rfl
  have k4:Try.prog.cellsOf 34=1:=by kernel_rfl
  obtain⟨_,h0⟩:=X.dI (show DataW.trod enc Try.prog ww 0 (fun _=>true) true m 3 (List.take (Try.prog.cellsOf 3) (List.drop 0 [c0,c1,c2,c3,c4,c5]))=xs[0]? from hf 0 _ rfl) (by omega)
  obtain⟨_,h1⟩:=X.dI (show DataW.trod enc Try.prog ww 0 (fun _=>true) true m 60 (List.take (Try.prog.cellsOf 60) (List.drop 1 [c0,c1,c2,c3,c4,c5]))=xs[1]? from hf 1 _ rfl) (by omega)
  obtain⟨_,h2⟩:=X.dI (show DataW.trod enc Try.prog ww 0 (fun _=>true) true m 33 (List.take (Try.prog.cellsOf 33) (List.drop 2 [c0,c1,c2,c3,c4,c5]))=xs[2]? from hf 2 _ rfl) (by omega)
  obtain⟨_,h3⟩:=X.dI (show DataW.trod enc Try.prog ww 0 (fun _=>true) true m 9 (List.take (Try.prog.cellsOf 9) (List.drop 4 [c0,c1,c2,c3,c4,c5]))=xs[3]? from hf 3 _ rfl) (by omega)
  obtain⟨_,h4⟩:=X.dI (show DataW.trod enc Try.prog ww 0 (fun _=>true) true m 34 (List.take (Try.prog.cellsOf 34) (List.drop 5 [c0,c1,c2,c3,c4,c5]))=xs[4]? from hf 4 _ rfl) (by omega)
  rw [k0]at h0;rw [k1]at h1;rw [k2]at h2;rw [k3]at h3;rw [k4]at h4
  obtain⟨k,e0,_,wk⟩:=DataW.trod_int Try.underlying3 h0
  obtain⟨nn,e1,_,wn⟩:=DataW.trod_int Try.underlying60 h1
  obtain⟨b,s,e2,e3,wb⟩:=nG h2
  obtain⟨nm,e4,_,ws⟩:=DataW.trod_string Try.underlying9 h3
  simp at e0 e1 e4
  subst e0 e1 e2 e3 e4
  rcases DataW.trod_slice Try.underlying34 h4 with⟨e5,_⟩|⟨a,len,cap,elems,rest,m2,hm2,e5,_,_,hlc,hcm,hel,hks,_,_⟩
  ·simp at e5;subst e5
   exact⟨.mk k nn b s nm [], .mk k nn b s nm [] none 0 (fun _=>[]) (Nat.le_refl _) (Nat.zero_le _) (fun i x hx=>by simp at hx) (fun h0=>absurd h0 (Nat.lt_irrefl _)), .mk _ _ _ _ _ _ (W.wX wk) (W.XY wn) (W.wX wb) ws (fun x hx=>by simp at hx)⟩
  ·simp at e5;subst e5
   rw [h6]at hks
   have each:∀i,i<len→∃(y:X)(ys:List Value),eU ww y ys∧X.Wf y∧ww.cells? 0 (a.add (i*6)) 6=some ys:=fun i hi=>by
    obtain⟨z,hz⟩:=X.dI (hks i hi) (by omega)
    obtain⟨ys,hys,hz2⟩:=Option.bind_eq_some_iff.1 hz
    obtain⟨y,hy,hw⟩:=ih m2 (by omega) ys z hz2
    exact⟨y,ys,hy,hw,hys⟩
   have XZ:∃(Y:Nat→X)(C:Nat→List Value),∀i,i<len→eU ww (Y i) (C i)∧X.Wf (Y i)∧ww.cells? 0 (a.add (i*6)) 6=some (C i):=by
    refine⟨fun i=>if h:i<len then(each i h).choose else .mk 0 0 0 false nm [],fun i=>if h:i<len then(each i h).choose_spec.choose else[],fun i hi=>?_⟩
    simp only [dif_pos hi]
    exact(each i hi).choose_spec.choose_spec
   obtain⟨Y,C,IJ⟩:=XZ
   have hgi:∀i x,((List.range len).map Y)[i]?=some x→i<len∧x=Y i:=fun i x hx=>by
    rw [List.getElem?_map]at hx
    rcases Nat.lt_or_ge i len with h|h
    ·rw [List.getElem?_eq_getElem (by simpa using h)]at hx
     simp at hx;exact⟨h,hx.symm⟩
    ·rw [List.getElem?_eq_none (by simpa using h)]at hx;simp at hx
   have hlen:((List.range len).map Y).length=len:=by simp
   refine⟨.mk k nn b s nm ((List.range len).map Y),?_, .mk _ _ _ _ _ _ (W.wX wk) (W.XY wn) (W.wX wb) ws (fun x hx=>?_)⟩
   ·have hx:=eU.mk (w:=ww) k nn b s nm ((List.range len).map Y) (some a) cap C (by rw [hlen];exact hlc) hcm (fun i x hx=>by obtain⟨h1,rfl⟩:=hgi i x hx;exact(IJ i h1).1) (fun hz0=>by
     rw [hlen]at hz0
     obtain⟨ab,off,spot⟩:=a
     have hc0:=(World.cells?_some (IJ 0 hz0).2.2).2.2 0 (by omega)
     have h00:(C 0)[0]?=some (C 0)[0]!:=by
      have:=(IJ 0 hz0).1.six
      rw [List.getElem?_eq_getElem (by omega)];simp [List.getElem!_eq_getElem?_getD,List.getElem?_eq_getElem (show 0<(C 0).length by omega)]
     rw [h00]at hc0
     have hs:spot=none:=by simpa [Addr.add]using World.cell?_spot hc0
     subst hs
     refine⟨ab,off,rfl,fun i j u hi hu=>?_⟩
     rw [hlen]at hi
     have hj:j<6:=by
      have:=(IJ i hi).1.six
      have:=(List.getElem?_eq_some_iff.1 hu).1
      omega
     have:=(World.cells?_some (IJ i hi).2.2).2.2 j hj
     rw [X.bV,X.bV]at this
     rw [this,hu])
    rw [hlen]at hx
    exact hx
   ·obtain⟨i,hi,rfl⟩:=List.mem_map.1 hx
    exact(IJ i (by simpa using hi)).2.1
theorem ZL{base:Nat}{v:Value}{d:DataW H}{p:List MemPlace}(hv:Value.okWide Try.prog ww .any base 62 v)
 (h:DataW.Trod enc Try.prog ww 0 (fun _=>true) true 62 v d p):∃(e:X)(cs:List Value),v= .agg cs.toArray∧eU ww e cs∧X.Wf e:=by
 obtain⟨cs,rfl,hsz⟩:=okWide_struct Try.underlying62 hv
 obtain⟨fuel,hf⟩:=h
 obtain⟨e,h1,h2⟩:=iW fuel _ _ hf
 exact⟨e,_,by simp [Value.cells],h1,h2⟩
end
end
end Go.Proofs.Ythdckndjggljpaa
