/- Proofs of this claim, part 16. No condition. -/
import Derived.Test.YthdckndjggljpaaS8
namespace Go.Proofs.Ythdckndjggljpaa
set_option linter.unusedVariables false
set_option linter.unusedSimpArgs false
set_option maxRecDepth 100000
set_option maxHeartbeats 64000000
open Go.RowKit
theorem RU{w wi w2:World}{B0 B1 B2:Nat}{a0 a1 b0 b1 c0 c1:Value}(hb:Below wi.heap.size wi w2)(h0:wi.cell? ⟨B0,0,none⟩=some a0)(h1:wi.cell? ⟨B0,1,none⟩=some a1)(h2:wi.cell? ⟨B1,0,none⟩=some b0)(h3:wi.cell? ⟨B1,1,none⟩=some b1)
 (h4:wi.cell? ⟨B2,0,none⟩=some c0)(h5:wi.cell? ⟨B2,1,none⟩=some c1)(h6:Hid (Below w.heap.size w wi)):
 w2.cell? ⟨B0,0,none⟩=some a0∧w2.cell? ⟨B0,1,none⟩=some a1∧w2.cell? ⟨B1,0,none⟩=some b0∧w2.cell? ⟨B1,1,none⟩=some b1∧w2.cell? ⟨B2,0,none⟩=some c0∧w2.cell? ⟨B2,1,none⟩=some c1∧Hid (Below w.heap.size w w2):=by
 obtain⟨hc,_⟩:=xG hb
 exact⟨by rw [hc _ _ (World.block_lt_of_cell? _ _ h0)];exact h0,by rw [hc _ _ (World.block_lt_of_cell? _ _ h1)];exact h1,by rw [hc _ _ (World.block_lt_of_cell? _ _ h2)];exact h2,by rw [hc _ _ (World.block_lt_of_cell? _ _ h3)];exact h3,
  by rw [hc _ _ (World.block_lt_of_cell? _ _ h4)];exact h4,by rw [hc _ _ (World.block_lt_of_cell? _ _ h5)];exact h5,Ext.trans h6.out hb⟩
theorem UK{w wi w2:World}{B0 B1 B2:Nat}{a0 a1 b0 b1 c0 c1:Value}(hb:Below wi.heap.size wi w2)(h:wi.cell? ⟨B0,0,none⟩=some a0∧wi.cell? ⟨B0,1,none⟩=some a1∧wi.cell? ⟨B1,0,none⟩=some b0∧wi.cell? ⟨B1,1,none⟩=some b1∧
 wi.cell? ⟨B2,0,none⟩=some c0∧wi.cell? ⟨B2,1,none⟩=some c1∧Hid (Below w.heap.size w wi)):
 w2.cell? ⟨B0,0,none⟩=some a0∧w2.cell? ⟨B0,1,none⟩=some a1∧w2.cell? ⟨B1,0,none⟩=some b0∧w2.cell? ⟨B1,1,none⟩=some b1∧w2.cell? ⟨B2,0,none⟩=some c0∧w2.cell? ⟨B2,1,none⟩=some c1∧Hid (Below w.heap.size w w2):=
 RU hb h.1 h.2.1 h.2.2.1 h.2.2.2.1 h.2.2.2.2.1 h.2.2.2.2.2.1 h.2.2.2.2.2.2
def W.Di(k T:Int)(S:Bool)(p q:Int):Int×Int:=
 if k=9 then(W.mul T p q,0)
 else if k=10 then(if q%W.md T=0 then(0,10)else(W.quo T S p q,0))
 else if k=11 then(if q%W.md T=0 then(0,10)else(W.rem T S p q,0))
 else if k=12 then(W.add T p q,0)
 else if k=13 then(W.sub T p q,0)
 else if k=22 then(bits .and .u64 p q,0)
 else if k=23 then(bits .xor .u64 p q,0)
 else if k=24 then(bits .or .u64 p q,0)
 else(if W.cmp k (W.less T S p q) (W.less T S q p)then 1 else 0,0)
theorem Ea(k a b xb yb cb:Int)(xs ys cs:Bool)(hk:9≤k∧k≤24∧k≠14∧k≠15)(hx:W.ok xb)(hy:W.ok yb)(hc:W.ok cb)(hcb:W.cb xb yb=cb)(hcs:W.cs xb xs yb ys=cs)(ha:W.U a)(hb:W.U b)(p q:Int)(hp:W.conv xb xs cb a=p)(hq:W.conv yb ys cb b=q)(w:World):
 Calls Try.prog 46 #[.int .i64 k, .int .u64 a, .int .u64 b,W.ty xb xs,W.ty yb ys] w fun e w'=>e= .returned (.tuple #[.int .u64 (W.Di k cb cs p q).1, .int .i64 (W.Di k cb cs p q).2])∧Below w.heap.size w w':=by
 have HK:Hid (k=9∨k=10∨k=11∨k=12∨k=13∨k=16∨k=17∨k=18∨k=19∨k=20∨k=21∨k=22∨k=23∨k=24):=by show _∨_;omega
 have k9:¬k<9:=by omega
 have k24:¬24<k:=by omega
 have k14:(k==14)=false:=by have:=hk.2.2.1;simpa using this
 have k15:(k==15)=false:=by have:=hk.2.2.2;simpa using this
 obtain⟨r,hr⟩:∃r,r=W.Di k cb cs p q:=⟨_,rfl⟩
 rw [←hr]
 have HR:=Lib.hid hr
 clear hk hr
 have HC:=Lib.hid hcb;have HS:=Lib.hid hcs;clear hcb hcs
 have CC:Hid (∀w:World,Calls Try.prog 67 #[W.ty xb xs,W.ty yb ys] w fun e w'=>e= .returned (W.ty cb cs)∧Below w.heap.size w w'):=fun w=>by rw [←HC.out,←HS.out];exact xM xb yb xs ys w
 have CP:Hid (∀w:World,Calls Try.prog 44 #[.int .u64 a,W.ty xb xs,W.ty cb cs] w fun e w'=>e= .returned (.int .u64 p)∧Below w.heap.size w w'):=fun w=>by rw [←hp];exact fC a xb cb xs cs hx hc ha w
 have CQ:Hid (∀w:World,Calls Try.prog 44 #[.int .u64 b,W.ty yb ys,W.ty cb cs] w fun e w'=>e= .returned (.int .u64 q)∧Below w.heap.size w w'):=fun w=>by rw [←hq];exact fC b yb cb ys cs hy hc hb w
 have UP:Hid (W.U p):=by rw [←hp];exact W.uX _ _ _ _
 have UQ:Hid (W.U q):=by rw [←hq];exact W.uX _ _ _ _
 clear hp hq
 go_enter Try.func46,Try.ntmps46
 go_wp2_with(first|(go_at_call 38;refine(vX _ _ (by assumption) _).mono ?_;rintro e w1⟨rfl,hb1⟩;obtain⟨x0,x1,x2,x3⟩:=Ty.below (B:=w.heap.size) (b:=xb) (s:=xs) (by first|exact⟨x0,x1,x2,x3⟩|exact⟨by simp [go_sem],by simp [go_sem],by simp [go_sem],by simp [go_sem]⟩) hb1;obtain⟨y0,y1,y2,y3⟩:=Ty.below (B:=w.heap.size+1) (b:=yb) (s:=ys) (by first|exact⟨y0,y1,y2,y3⟩|exact⟨by simp [go_sem],by simp [go_sem],by simp [go_sem],by simp [go_sem]⟩) hb1;have HB:=Lib.hid (by first|exact Ext.trans HB.out hb1|exact Ext.trans (Ext.alloc (Ext.alloc (Below.refl w.heap.size w) _) _) hb1);clear hb1)|(go_at_call 67;refine(CC.out _).mono ?_;rintro e w1⟨rfl,hb1⟩;obtain⟨x0,x1,x2,x3⟩:=Ty.below (B:=w.heap.size) (b:=xb) (s:=xs) ⟨x0,x1,x2,x3⟩ hb1;obtain⟨y0,y1,y2,y3⟩:=Ty.below (B:=w.heap.size+1) (b:=yb) (s:=ys) ⟨y0,y1,y2,y3⟩ hb1;have HB:=Lib.hid (Ext.trans HB.out hb1);clear hb1))
 have HB:=Lib.hid (Ext.drew (Ext.alloc HB.out (.cells #[.int .i64 cb, .bool cs] 33)))
 obtain⟨x0,x1,x2,x3⟩:=Ty.below (B:=w.heap.size) (b:=xb) (s:=xs) ⟨x0,x1,x2,x3⟩ (Ext.drew (Ext.alloc (Below.refl _ w1) (.cells #[.int .i64 cb, .bool cs] 33)))
 obtain⟨y0,y1,y2,y3⟩:=Ty.below (B:=w.heap.size+1) (b:=yb) (s:=ys) ⟨y0,y1,y2,y3⟩ (Ext.drew (Ext.alloc (Below.refl _ w1) (.cells #[.int .i64 cb, .bool cs] 33)))
 obtain⟨z0,z1,z2,z3⟩:=Ty.below (Ty.new w1 rfl cb cs 33) (Ext.drew (Below.refl _ _))
 go_region_held3(fun w'=>w'.cell? ⟨w.heap.size,0,none⟩=some (.int .i64 xb)∧w'.cell? ⟨w.heap.size,1,none⟩=some (.bool xs)∧w'.cell? ⟨w.heap.size+1,0,none⟩=some (.int .i64 yb)∧w'.cell? ⟨w.heap.size+1,1,none⟩=some (.bool ys)
  ∧w'.cell? ⟨w1.heap.size,0,none⟩=some (.int .i64 cb)∧w'.cell? ⟨w1.heap.size,1,none⟩=some (.bool cs)∧Hid (Below w.heap.size w w'))
  (first|(refine⟨?_,?_,?_,?_,?_,?_,?_⟩<;>assumption)|exact UK hb2 (by assumption)|exact RU hb2 (by assumption) (by assumption) (by assumption) (by assumption) (by assumption) (by assumption) (by assumption))
  (first|(go_at_call_of 44(Value.int IntKind.u64 a);refine(CP.out _).mono ?_;rintro e w2⟨rfl,hb2⟩)|(go_at_call_of 44(Value.int IntKind.u64 b);refine(CQ.out _).mono ?_;rintro e w2⟨rfl,hb2⟩))
 rename_i hh
 obtain⟨r0,r1,r2,r3,r4,r5,uh⟩:=hh
 clear k9 k24 k14 k15
 have HK2:=HK.out
 clear HK
 have HE:Hid (∀v:Int×Int,W.Di k cb cs p q=v→Hid (r=v)):=fun v h=>HR.out.trans h
 have d10:∀k,k=10∨k=11→q%W.md cb=0→W.Di k cb cs p q=(0,10):=fun k hk hz=>by unfold W.Di;rcases hk with rfl|rfl<;>simp [hz]
 have n10:q%W.md cb≠0→W.Di 10 cb cs p q=(W.quo cb cs p q,0)∧W.Di 11 cb cs p q=(W.rem cb cs p q,0):=fun hz=>by unfold W.Di;simp [hz]
 have HD:=Lib.hid (And.intro d10 n10)
 clear d10 n10 HR
 rcases HK2 with rfl|rfl|rfl|rfl|rfl|rfl|rfl|rfl|rfl|rfl|rfl|rfl|rfl|rfl
 ·have E:=HE.out _ rfl
  go_wp2_with(go_at_call 68;refine(Vl _ _ _ hc UP.out UQ.out _).mono ?_;rintro e w'⟨rfl,rfl⟩)
  go_ret2
  exact⟨by rw [E.out];rfl,uh.out⟩
 ·by_cases hz:q%W.md cb=0
  ·have E:=HE.out _ (HD.out.1 10 (.inl rfl) hz)
   go_wp2_with(go_at_call 69;refine(div_zero _ _ _ _ hc UQ.out hz _).mono ?_;rintro e w'⟨rfl,rfl⟩)
   go_ret2
   exact⟨by rw [E.out];rfl,uh.out⟩
  ·have E:=HE.out _ (HD.out.2 hz).1
   go_wp2_with(go_at_call 69;refine(Vm _ _ _ _ hc UP.out UQ.out hz _).mono ?_;rintro e w'⟨rfl,nq,rfl⟩)
   go_ret2
   exact⟨by rw [E.out];rfl,below_drewN uh.out nq⟩
 ·by_cases hz:q%W.md cb=0
  ·have E:=HE.out _ (HD.out.1 11 (.inr rfl) hz)
   go_wp2_with(go_at_call 70;refine(NK _ _ _ _ hc UQ.out hz _).mono ?_;rintro e w'⟨rfl,rfl⟩)
   go_ret2
   exact⟨by rw [E.out];rfl,uh.out⟩
  ·have E:=HE.out _ (HD.out.2 hz).2
   go_wp2_with(go_at_call 70;refine(Vo _ _ _ _ hc UP.out UQ.out hz _).mono ?_;rintro e w'⟨rfl,nq,rfl⟩)
   go_ret2
   exact⟨by rw [E.out];rfl,below_drewN uh.out nq⟩
 ·have E:=HE.out _ rfl
  go_wp2_with(go_at_call 71;refine(Vp _ _ _ hc UP.out UQ.out _).mono ?_;rintro e w'⟨rfl,rfl⟩)
  go_ret2
  exact⟨by rw [E.out];rfl,uh.out⟩
 ·have E:=HE.out _ rfl
  go_wp2_with(go_at_call 62;refine(KT _ _ _ hc UP.out UQ.out _).mono ?_;rintro e w'⟨rfl,rfl⟩)
  go_ret2
  exact⟨by rw [E.out];rfl,uh.out⟩
 iterate 6
  focus
   have E:=HE.out _ rfl
   go_wp2_with(first|(go_at_call 72;refine(ER _ _ _ _ _ hc UP.out UQ.out _).mono ?_;rintro e w3⟨rfl,hb3⟩;have HB3:=Lib.hid hb3;clear hb3)|(go_at_call 63;refine(Bo _ _).mono ?_;rintro e w'⟨rfl,rfl⟩))
   all_goals go_ret2
   all_goals exact⟨by rw [E.out];first|rfl|(simp [W.Di, *]),Ext.trans uh.out HB3.out⟩
 all_goals
  have E:=HE.out _ rfl
  go_wp2
  go_ret2
  exact⟨by rw [E.out];rfl,uh.out⟩
end Go.Proofs.Ythdckndjggljpaa
