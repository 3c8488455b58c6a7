/- Proofs of this claim, part 6. No condition. -/
import Derived.Test.YthdckndjggljpaaS2
namespace Go.Proofs.Ythdckndjggljpaa
set_option linter.unusedVariables false
set_option linter.unusedSimpArgs false
set_option maxRecDepth 100000
set_option maxHeartbeats 64000000
open Go.RowKit
theorem Hu(a b A B:Int)(s t T:Bool)(hA:W.pb a=A)(hB:W.pb b=B)(hS:W.ps a s=false)(hT:W.ps b t=T)(h1:¬B<A)(h2:¬A<B)(w:World):
 Calls Try.prog 67 #[W.ty a s,W.ty b t] w fun e w'=>e= .returned (W.ty A false)∧Below w.heap.size w w':=by
 have HA:=Lib.hid hA;have HB:=Lib.hid hB;have HS:=Lib.hid hS;have HT:=Lib.hid hT;clear hA hB hS hT
 have PA:∀w:World,Calls Try.prog 61 #[W.ty a s] w fun e w'=>e= .returned (W.ty A false)∧Below w.heap.size w w':=fun w=>by rw [←HA.out,←HS.out];exact dB a s w
 have PB:∀w:World,Calls Try.prog 61 #[W.ty b t] w fun e w'=>e= .returned (W.ty B T)∧Below w.heap.size w w':=fun w=>by rw [←HB.out,←HT.out];exact dB b t w
 have QA:=Lib.hid PA;have QB:=Lib.hid PB;clear PA PB
 go_enter Try.func67,Try.ntmps67
 go_wp2
 go_region_with(first|(go_at_call 61;refine(QA.out _).mono ?_;rintro e w1⟨rfl,hb1⟩;have HB1:=Lib.hid (Ext.trans (Ext.drew (Ext.alloc (Ext.alloc (Ext.alloc (Below.refl w.heap.size w) _) _) _)) hb1);obtain⟨x0,x1,x2,x3⟩:=Ty.below (B:=w.heap.size+1+1) (b:=0) (s:=false) ⟨by simp [go_sem],by simp [go_sem],by simp [go_sem],by simp [go_sem]⟩ hb1;obtain⟨y0,y1,y2,y3⟩:=Ty.below (B:=w.heap.size+1) (b:=b) (s:=t) ⟨by simp [go_sem],by simp [go_sem],by simp [go_sem],by simp [go_sem]⟩ hb1;obtain⟨z0,z1,z2,z3⟩:=Ty.below (B:=w.heap.size) (b:=a) (s:=s) ⟨by simp [go_sem],by simp [go_sem],by simp [go_sem],by simp [go_sem]⟩ hb1;clear hb1)|(go_at_call 61;refine(QB.out _).mono ?_;rintro e w2⟨rfl,hb2⟩;have HB2:=Lib.hid (Ext.trans HB1.out hb2);obtain⟨x0,x1,x2,x3⟩:=Ty.below (B:=w.heap.size+1+1) (b:=0) (s:=false) ⟨x0,x1,x2,x3⟩ hb2;obtain⟨y0,y1,y2,y3⟩:=Ty.below (B:=w.heap.size+1) (b:=b) (s:=t) ⟨y0,y1,y2,y3⟩ hb2;obtain⟨z0,z1,z2,z3⟩:=Ty.below (B:=w.heap.size) (b:=a) (s:=s) ⟨z0,z1,z2,z3⟩ hb2;clear hb2))
 all_goals go_wp2
 all_goals exact bodyPost_ret (v:=W.ty A false) (by simp [results,Try.results67,go_sem,x0,x1,x2,x3,y0,y1,y2,y3,z0,z1,z2,z3]) rfl ⟨rfl,Ext.setCell (Ext.setCell (Ext.setCell (Ext.setCell (Ext.setCell (Ext.setCell HB2.out (Nat.le_refl _) _) (Nat.le_refl _) _) (Nat.le_succ _) _) (Nat.le_succ _) _) (Nat.le_add_right _ 2) _) (Nat.le_add_right _ 2) _⟩
end Go.Proofs.Ythdckndjggljpaa
