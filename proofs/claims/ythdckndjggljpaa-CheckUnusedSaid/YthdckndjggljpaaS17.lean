/- Proofs of this claim, part 17. No condition. -/
import Derived.Test.YthdckndjggljpaaS16
namespace Go.Proofs.Ythdckndjggljpaa
set_option linter.unusedVariables false
set_option linter.unusedSimpArgs false
set_option maxRecDepth 100000
set_option maxHeartbeats 64000000
section
open Go.RowKit
structure Tl(w:World)(a:Int)(s:Bool)(b:Int)(t:Bool)(wi:World):Prop where
 ext:Below w.heap.size w wi
 lt:w.heap.size+1<wi.heap.size
 x:Ty wi w.heap.size a s
 y:Ty wi (w.heap.size+1) b t
theorem Tl.below{w wi w':World}{a b:Int}{s t:Bool}(h:Tl w a s b t wi)(hb:Below wi.heap.size wi w'):Tl w a s b t w':=
 ⟨Ext.trans h.ext hb,Nat.lt_of_lt_of_le h.lt hb.size,h.x.below hb,h.y.below hb⟩
theorem Tl.start(w:World)(a b:Int)(s t:Bool):Tl w a s b t ((w.alloc (.cells #[.int .i64 a, .bool s] 33)).alloc (.cells #[.int .i64 b, .bool t] 33)):=
 ⟨Ext.alloc (Ext.alloc (Below.refl _ _) _) _,by simp,⟨by simp [go_sem],by simp [go_sem],by simp [go_sem],by simp [go_sem]⟩,⟨by simp [go_sem],by simp [go_sem],by simp [go_sem],by simp [go_sem]⟩⟩
abbrev Gives(f:Nat)(args:Array Value)(v:Value):Prop:=∀w:World,Calls Try.prog f args w fun e w'=>e= .returned v∧Below w.heap.size w w'
theorem nY(b:Int)(s:Bool):Gives 38 #[W.ty b s] (.bool (W.okB b)):=fun w=>by
 by_cases h:W.ok b
 ·rw [W.xP h];exact vX b s h w
 ·rw [W.Gp h];exact BQ b s h w
end
section
open Go.RowKit Go.Maps
theorem zH(C:Int)(h0:0≤C)(h1:C<18446744073709551616):bits .xor .u64 IntKind.u64.max C=18446744073709551615-C:=by
 obtain⟨c,rfl⟩:=Int.eq_ofNat_of_zero_le h0
 have h64:IntKind.u64.bits=64:=rfl
 have hm:IntKind.u64.max=18446744073709551615:=rfl
 have e:BitVec.ofInt 64 18446744073709551615=BitVec.allOnes 64:=by decide
 have e2:bits .xor .u64 IntKind.u64.max (c:Int)=IntKind.u64.wrap (((BitVec.ofInt 64 18446744073709551615^^^BitVec.ofInt 64 (c:Int)).toNat:Nat):Int):=rfl
 rw [e2,e,BitVec.allOnes_xor,BitVec.toNat_not,BitVec.ofInt_natCast,BitVec.toNat_ofNat,Nat.mod_eq_of_lt (by omega),IntKind.wrap_u64]
 omega
def nS(r b:Int)(s:Bool)(k:Int)(w:World)(e:Ending)(w':World):Prop:=e= .returned (.tuple #[.int .u64 r,W.ty b s, .int .i64 k])∧Below w.heap.size w w'
theorem unary_neg(a xb T C R:Int)(xs TS:Bool)(hT:W.ok T)(hC:W.U C)(hR:W.sub T 0 C=R)
 (VX:Hid (Gives 38 #[W.ty xb xs] (.bool true)))(NP:Hid (Gives 61 #[W.ty xb xs] (W.ty T TS)))(NC:Hid (Gives 44 #[.int .u64 a,W.ty xb xs,W.ty T TS] (.int .u64 C)))(w:World):
 Calls Try.prog 45 #[.int .i64 6, .int .u64 a,W.ty xb xs] w (nS R T TS 0 w):=by
 have K0:=Lib.hid (Tl.start w xb 0 xs false)
 have NS:Hid (∀w:World,Calls Try.prog 62 #[.int .u64 0, .int .u64 C, .int .i64 T] w fun e w'=>e= .returned (.tuple #[.int .u64 R, .int .i64 0])∧w=w'):=fun w=>by rw [←hR];exact KT 0 C T hT ⟨by omega,by omega⟩ hC w
 clear hT hC hR
 go_enter Try.func45,Try.ntmps45
 go_wp2_with(first|(go_at_call 38;refine(VX.out _).mono ?_;rintro e w1⟨rfl,hb1⟩;have K1:=Lib.hid (K0.out.below hb1);clear hb1;obtain⟨x0,x1,x2,x3⟩:=K1.out.x;obtain⟨y0,y1,y2,y3⟩:=K1.out.y;have hl1:=K1.out.lt)|(go_at_call 61;refine(NP.out _).mono ?_;rintro e w2⟨rfl,hb2⟩;have HS:Hid (w.heap.size+1<w2.heap.size):=Nat.lt_of_lt_of_le K1.out.lt hb2.size;have K2:=Lib.hid ((K1.out.below hb2).below (Ext.alloc (Below.refl _ _) (.cells #[.int .i64 T, .bool TS] 33)));have P2:=Lib.hid (Ty.new w2 rfl T TS 33);clear hb2 x0 x1 x2 x3 y0 y1 y2 y3 hl1;obtain⟨x0,x1,x2,x3⟩:=K2.out.x)|(go_at_call 44;refine(NC.out _).mono ?_;rintro e w3⟨rfl,hb3⟩;have K3:=Lib.hid (K2.out.below hb3);obtain⟨p0,p1,p2,p3⟩:=P2.out.below hb3;clear hb3 x0 x1 x2 x3;obtain⟨y0,y1,y2,y3⟩:=K3.out.y)|(go_at_call 62;refine(NS.out _).mono ?_;rintro e w4⟨rfl,rfl⟩))
 go_region
 go_wp2
 exact bodyPost_ret (v:= .tuple #[.int .u64 R,W.ty T TS, .int .i64 0]) (by simp [results,Try.results45,go_sem,y0,y1,y2,y3]) rfl ⟨rfl,(Ext.setCell (Ext.setCell K3.out.ext.drew (Nat.le_add_right _ 1) _) (Nat.le_add_right _ 1) _)⟩
theorem unary_not(a xb T C R:Int)(xs TS:Bool)(hT:W.ok T)(hC:W.U C)(hR:W.cut T (18446744073709551615-C)=R)
 (VX:Hid (Gives 38 #[W.ty xb xs] (.bool true)))(NP:Hid (Gives 61 #[W.ty xb xs] (W.ty T TS)))(NC:Hid (Gives 44 #[.int .u64 a,W.ty xb xs,W.ty T TS] (.int .u64 C)))(w:World):
 Calls Try.prog 45 #[.int .i64 7, .int .u64 a,W.ty xb xs] w (nS R T TS 0 w):=by
 have K0:=Lib.hid (Tl.start w xb 0 xs false)
 have NS:Hid (∀w:World,Calls Try.prog 60 #[.int .u64 (bits .xor .u64 IntKind.u64.max C), .int .i64 T] w fun e w'=>e= .returned (.tuple #[.int .u64 R, .int .i64 0])∧w=w'):=fun w=>by rw [←hR,←zH C hC.1 hC.2];exact Es _ T hT ⟨by rw [zH C hC.1 hC.2];have:=hC.2;omega,by rw [zH C hC.1 hC.2];have:=hC.1;omega⟩ w
 have h0:=hC.1;have h1:=hC.2
 have hsg:IntKind.u64.signed=false:=rfl
 clear hT hC hR
 go_enter Try.func45,Try.ntmps45
 go_wp2_with(first|(go_at_call 38;refine(VX.out _).mono ?_;rintro e w1⟨rfl,hb1⟩;have K1:=Lib.hid (K0.out.below hb1);clear hb1;obtain⟨x0,x1,x2,x3⟩:=K1.out.x;obtain⟨y0,y1,y2,y3⟩:=K1.out.y;have hl1:=K1.out.lt)|(go_at_call 61;refine(NP.out _).mono ?_;rintro e w2⟨rfl,hb2⟩;have HS:Hid (w.heap.size+1<w2.heap.size):=Nat.lt_of_lt_of_le K1.out.lt hb2.size;have K2:=Lib.hid ((K1.out.below hb2).below (Ext.alloc (Below.refl _ _) (.cells #[.int .i64 T, .bool TS] 33)));have P2:=Lib.hid (Ty.new w2 rfl T TS 33);clear hb2 x0 x1 x2 x3 y0 y1 y2 y3 hl1;obtain⟨x0,x1,x2,x3⟩:=K2.out.x)|(go_at_call 44;refine(NC.out _).mono ?_;rintro e w3⟨rfl,hb3⟩;have K3:=Lib.hid (K2.out.below hb3);obtain⟨p0,p1,p2,p3⟩:=P2.out.below hb3;clear hb3 x0 x1 x2 x3;obtain⟨y0,y1,y2,y3⟩:=K3.out.y)|(go_at_call 60;refine(NS.out _).mono ?_;rintro e w4⟨rfl,rfl⟩))
 go_region
 go_wp2
 exact bodyPost_ret (v:= .tuple #[.int .u64 R,W.ty T TS, .int .i64 0]) (by simp [results,Try.results45,go_sem,y0,y1,y2,y3]) rfl ⟨rfl,(Ext.setCell (Ext.setCell K3.out.ext.drew (Nat.le_add_right _ 1) _) (Nat.le_add_right _ 1) _)⟩
theorem IL(a xb T C:Int)(xs TS z:Bool)(hz:(C==0)=z)
 (VX:Hid (Gives 38 #[W.ty xb xs] (.bool true)))(NP:Hid (Gives 61 #[W.ty xb xs] (W.ty T TS)))(NC:Hid (Gives 44 #[.int .u64 a,W.ty xb xs,W.ty T TS] (.int .u64 C)))(w:World):
 Calls Try.prog 45 #[.int .i64 8, .int .u64 a,W.ty xb xs] w (nS (if z then 1 else 0) 16 true 0 w):=by
 have K0:=Lib.hid (Tl.start w xb 0 xs false)
 have NT:Hid (∀w:World,Calls Try.prog 63 #[.bool z] w fun e w'=>e= .returned (.int .u64 (if z then 1 else 0))∧w=w'):=fun w=>Bo z w
 obtain⟨R,hR⟩:∃R:Int,R=if z then 1 else 0:=⟨_,rfl⟩
 rw [←hR]at NT⊢
 clear hR
 go_enter Try.func45,Try.ntmps45
 go_wp2_with(first|(go_at_call 38;refine(VX.out _).mono ?_;rintro e w1⟨rfl,hb1⟩;have K1:=Lib.hid (K0.out.below hb1);clear hb1;obtain⟨x0,x1,x2,x3⟩:=K1.out.x;obtain⟨y0,y1,y2,y3⟩:=K1.out.y;have hl1:=K1.out.lt)|(go_at_call 61;refine(NP.out _).mono ?_;rintro e w2⟨rfl,hb2⟩;have HS:Hid (w.heap.size+1<w2.heap.size):=Nat.lt_of_lt_of_le K1.out.lt hb2.size;have K2:=Lib.hid ((K1.out.below hb2).below (Ext.alloc (Below.refl _ _) (.cells #[.int .i64 T, .bool TS] 33)));have P2:=Lib.hid (Ty.new w2 rfl T TS 33);clear hb2 x0 x1 x2 x3 y0 y1 y2 y3 hl1;obtain⟨x0,x1,x2,x3⟩:=K2.out.x)|(go_at_call 44;refine(NC.out _).mono ?_;rintro e w3⟨rfl,hb3⟩;have K3:=Lib.hid (K2.out.below hb3);obtain⟨p0,p1,p2,p3⟩:=P2.out.below hb3;clear hb3 x0 x1 x2 x3;obtain⟨y0,y1,y2,y3⟩:=K3.out.y)|(go_at_call 63;refine(NT.out _).mono ?_;rintro e w4⟨rfl,rfl⟩)|(go_at_call 43;refine(gX _).mono ?_;rintro e w5⟨rfl,hb5⟩;have K5:=Lib.hid (K3.out.below hb5);clear hb5 y0 y1 y2 y3 p0 p1 p2 p3;obtain⟨y0,y1,y2,y3⟩:=K5.out.y))
 exact bodyPost_ret (v:= .tuple #[.int .u64 R,W.ty 16 true, .int .i64 0]) (by simp [results,Try.results45,go_sem,y0,y1,y2,y3]) rfl ⟨rfl,(Ext.setCell (Ext.setCell K5.out.ext (Nat.le_add_right _ 1) _) (Nat.le_add_right _ 1) _)⟩
theorem DR(k a xb T C:Int)(xs TS:Bool)(h6:(k==6)=false)(h7:(k==7)=false)(h8:(k==8)=false)
 (VX:Hid (Gives 38 #[W.ty xb xs] (.bool true)))(NP:Hid (Gives 61 #[W.ty xb xs] (W.ty T TS)))(NC:Hid (Gives 44 #[.int .u64 a,W.ty xb xs,W.ty T TS] (.int .u64 C)))(w:World):
 Calls Try.prog 45 #[.int .i64 k, .int .u64 a,W.ty xb xs] w (nS 0 0 false 1 w):=by
 have K0:=Lib.hid (Tl.start w xb 0 xs false)
 go_enter Try.func45,Try.ntmps45
 go_wp2_with(first|(go_at_call 38;refine(VX.out _).mono ?_;rintro e w1⟨rfl,hb1⟩;have K1:=Lib.hid (K0.out.below hb1);clear hb1;obtain⟨x0,x1,x2,x3⟩:=K1.out.x;obtain⟨y0,y1,y2,y3⟩:=K1.out.y;have hl1:=K1.out.lt)|(go_at_call 61;refine(NP.out _).mono ?_;rintro e w2⟨rfl,hb2⟩;have HS:Hid (w.heap.size+1<w2.heap.size):=Nat.lt_of_lt_of_le K1.out.lt hb2.size;have K2:=Lib.hid ((K1.out.below hb2).below (Ext.alloc (Below.refl _ _) (.cells #[.int .i64 T, .bool TS] 33)));have P2:=Lib.hid (Ty.new w2 rfl T TS 33);clear hb2 x0 x1 x2 x3 y0 y1 y2 y3 hl1;obtain⟨x0,x1,x2,x3⟩:=K2.out.x)|(go_at_call 44;refine(NC.out _).mono ?_;rintro e w3⟨rfl,hb3⟩;have K3:=Lib.hid (K2.out.below hb3);obtain⟨p0,p1,p2,p3⟩:=P2.out.below hb3;clear hb3 x0 x1 x2 x3;obtain⟨y0,y1,y2,y3⟩:=K3.out.y))
 exact bodyPost_ret (v:= .tuple #[.int .u64 0,W.ty 0 false, .int .i64 1]) (by simp [results,Try.results45,go_sem,y0,y1,y2,y3]) rfl ⟨rfl,(Ext.setCell (Ext.setCell K3.out.ext (Nat.le_add_right _ 1) _) (Nat.le_add_right _ 1) _)⟩
theorem I8(k a xb:Int)(xs:Bool)(VX:Hid (Gives 38 #[W.ty xb xs] (.bool false)))(w:World):
 Calls Try.prog 45 #[.int .i64 k, .int .u64 a,W.ty xb xs] w (nS 0 0 false 1 w):=by
 have K0:=Lib.hid (Tl.start w xb 0 xs false)
 go_enter Try.func45,Try.ntmps45
 go_wp2_with(first|(go_at_call 38;refine(VX.out _).mono ?_;rintro e w1⟨rfl,hb1⟩;have K1:=Lib.hid (K0.out.below hb1);clear hb1;obtain⟨x0,x1,x2,x3⟩:=K1.out.x;obtain⟨y0,y1,y2,y3⟩:=K1.out.y;have hl1:=K1.out.lt))
 exact bodyPost_ret (v:= .tuple #[.int .u64 0,W.ty 0 false, .int .i64 1]) (by simp [results,Try.results45,go_sem,y0,y1,y2,y3]) rfl ⟨rfl,(Ext.setCell (Ext.setCell K1.out.ext (Nat.le_add_right _ 1) _) (Nat.le_add_right _ 1) _)⟩
end
section
open Go.RowKit Go.Maps
def BiR(r k:Int)(w:World)(e:Ending)(w':World):Prop:=e= .returned (.tuple #[.int .u64 r, .int .i64 k])∧Below w.heap.size w w'
theorem yX(k a b xb yb T A Nn R:Int)(xs ys TS:Bool)(hk:k=14∨k=15)
 (VX:Hid (Gives 38 #[W.ty xb xs] (.bool true)))(VY:Hid (Gives 38 #[W.ty yb ys] (.bool true)))(NP:Hid (Gives 61 #[W.ty xb xs] (W.ty T TS)))
 (CA:Hid (Gives 44 #[.int .u64 a,W.ty xb xs,W.ty T TS] (.int .u64 A)))(CB:Hid (Gives 44 #[.int .u64 b,W.ty yb ys,W.ty 16 false] (.int .u64 Nn)))
 (SH:Hid (k=14→Gives 65 #[.int .u64 A, .int .u64 Nn, .int .i64 T] (.tuple #[.int .u64 R, .int .i64 0])))(SR:Hid (k=15→Gives 66 #[.int .u64 A, .int .u64 Nn, .int .i64 T, .bool TS] (.tuple #[.int .u64 R, .int .i64 0])))(w:World):
 Calls Try.prog 46 #[.int .i64 k, .int .u64 a, .int .u64 b,W.ty xb xs,W.ty yb ys] w (BiR R 0 w):=by
 have K0:=Lib.hid (Tl.start w xb yb xs ys)
 have tok:=Lib.hid True.intro
 rcases hk with rfl|rfl
 ·have SH2:=Lib.hid (SH.out rfl);clear SH SR
  go_enter Try.func46,Try.ntmps46
  go_wp2_with(first|(go_at_call_of 38(Value.agg #[Value.int IntKind.i64 xb,Value.bool xs]);have _t:=tok;refine(VX.out _).mono ?_;rintro e w1⟨rfl,hb1⟩;have K1:=Lib.hid (K0.out.below hb1);clear hb1 tok _t;obtain⟨x0,x1,x2,x3⟩:=K1.out.x;obtain⟨y0,y1,y2,y3⟩:=K1.out.y)|(go_at_call 38;refine(VY.out _).mono ?_;rintro e w2⟨rfl,hb2⟩;have K2:=Lib.hid (K1.out.below hb2);clear hb2 x0 x1 x2 x3 y0 y1 y2 y3;obtain⟨x0,x1,x2,x3⟩:=K2.out.x;obtain⟨y0,y1,y2,y3⟩:=K2.out.y)|(go_at_call 61;refine(NP.out _).mono ?_;rintro e w3⟨rfl,hb3⟩;have K3:=Lib.hid ((K2.out.below hb3).below (Ext.alloc (Below.refl _ _) (.cells #[.int .i64 T, .bool TS] 33)));have P3:=Lib.hid (Ty.new w3 rfl T TS 33);clear hb3 x0 x1 x2 x3 y0 y1 y2 y3))
  generalize(w3.alloc (.cells #[.int .i64 T, .bool TS] 33))=wx at*
  apply Ix.wp_region 10 (fun wi=>Hid (Tl w xb xs yb ys wi)∧Hid (Ty wi w3.heap.size T TS)) (Ix.vk [(Ix.aA _),(Ix.aA _),(Ix.aA _),(Ix.aA (.int .u64 A)),(Ix.aA _),(Ix.aA _),(Ix.aA (W.ty 16 false)),(Ix.aA (.int .u64 Nn)),(Ix.aA _),(Ix.aA _)]) (fun _=>false) (by kernel_rfl) (by kernel_rfl) (by kernel_rfl) (fun _ _ h hb=>⟨h.1.out.below hb,h.2.out.below hb⟩) (Ix.aN _) (Ix.bP _) ⟨K3,P3⟩
  case step=>
   refine aP 9 0 1 [] (fun wi HB=>?_)<|aP 8 1 2 [] (fun wi HB=>?_)<|aP 7 2 3 [] (fun wi HB=>?_)<|aP 6 3 4 [(0,some 40),(1,some 41),(2,some 42)] (fun wi HB=>?_)<|aP 5 4 5 [] (fun wi HB=>?_)<|aP 4 5 6 [] (fun wi HB=>?_)<|aP 3 6 7 [] (fun wi HB=>?_)<|aP 2 7 8 [(4,some 44),(5,some 45),(6,some 46)] (fun wi HB=>?_)<|aP 1 8 9 [(3,some 43)] (fun wi HB=>?_)<|aP 0 9 10 [(7,some 47)] (fun wi HB=>?_)<|Ix.aC
   (·((repeat(refine aB ?_;rintro _ rfl));refine aF ?_;(try simp only [aj]);refine Ix.ah rfl rfl fun K hK=>?_;(try simp only [aj]at hK);go_wp2_with(first|fail);exact hK _ _ (Below.refl _ _) rfl))
   iterate 2(·(obtain⟨HB,HT⟩:=HB;obtain⟨x0,x1,x2,x3⟩:=HB.out.x;obtain⟨y0,y1,y2,y3⟩:=HB.out.y;obtain⟨t0,t1,t2,t3⟩:=HT.out;(repeat(refine aB ?_;rintro _ rfl));refine aF ?_;(try simp only [aj]);refine Ix.ah rfl rfl fun K hK=>?_;(try simp only [aj]at hK);go_wp2_with(first|fail);exact hK _ _ (Below.refl _ _) rfl))
   (·(obtain⟨HB,HT⟩:=HB;obtain⟨x0,x1,x2,x3⟩:=HB.out.x;obtain⟨y0,y1,y2,y3⟩:=HB.out.y;obtain⟨t0,t1,t2,t3⟩:=HT.out;(repeat(refine aB ?_;rintro _ rfl));refine aF ?_;(try simp only [aj]);refine Ix.ah rfl rfl fun K hK=>?_;(try simp only [aj]at hK);go_wp2_with(first|(go_at_call 44;refine(CA.out _).mono ?_;rintro e wa⟨rfl,hba⟩));exact hK _ _ hba rfl))
   (·((repeat(refine aB ?_;rintro _ rfl));refine aF ?_;(try simp only [aj]);refine Ix.ah rfl rfl fun K hK=>?_;(try simp only [aj]at hK);go_wp2_with(first|fail);exact hK _ _ (Below.refl _ _) rfl))
   (·(obtain⟨HB,HT⟩:=HB;obtain⟨x0,x1,x2,x3⟩:=HB.out.x;obtain⟨y0,y1,y2,y3⟩:=HB.out.y;obtain⟨t0,t1,t2,t3⟩:=HT.out;(repeat(refine aB ?_;rintro _ rfl));refine aF ?_;(try simp only [aj]);refine Ix.ah rfl rfl fun K hK=>?_;(try simp only [aj]at hK);go_wp2_with(first|fail);exact hK _ _ (Below.refl _ _) rfl))
   (·(obtain⟨HB,HT⟩:=HB;obtain⟨x0,x1,x2,x3⟩:=HB.out.x;obtain⟨y0,y1,y2,y3⟩:=HB.out.y;obtain⟨t0,t1,t2,t3⟩:=HT.out;(repeat(refine aB ?_;rintro _ rfl));refine aF ?_;(try simp only [aj]);refine Ix.ah rfl rfl fun K hK=>?_;(try simp only [aj]at hK);go_wp2_with(first|(go_at_call 64;refine(CJ _).mono ?_;rintro e wa⟨rfl,hba⟩));exact hK _ _ hba rfl))
   (·(obtain⟨HB,HT⟩:=HB;obtain⟨x0,x1,x2,x3⟩:=HB.out.x;obtain⟨y0,y1,y2,y3⟩:=HB.out.y;obtain⟨t0,t1,t2,t3⟩:=HT.out;(repeat(refine aB ?_;rintro _ rfl));refine aF ?_;(try simp only [aj]);refine Ix.ah rfl rfl fun K hK=>?_;(try simp only [aj]at hK);go_wp2_with(first|(go_at_call 44;refine(CB.out _).mono ?_;rintro e wa⟨rfl,hba⟩));exact hK _ _ hba rfl))
   iterate 2(·((repeat(refine aB ?_;rintro _ rfl));refine aF ?_;(try simp only [aj]);refine Ix.ah rfl rfl fun K hK=>?_;(try simp only [aj]at hK);go_wp2_with(first|fail);exact hK _ _ (Below.refl _ _) rfl))
  intro lM wf HF hdf
  refine au 9 0 1 ?_;rintro _ _ rfl;refine au 8 1 2 ?_;rintro _ _ rfl;refine au 7 2 3 ?_;rintro _ _ rfl;refine au 6 3 4 ?_;rintro _ _ rfl;refine au 5 4 5 ?_;rintro _ _ rfl;refine au 4 5 6 ?_;rintro _ _ rfl;refine au 3 6 7 ?_;rintro _ _ rfl;refine au 2 7 8 ?_;rintro _ _ rfl;refine au 1 8 9 ?_;rintro _ _ rfl;refine au 0 9 10 ?_;rintro _ _ rfl
  refine Ix.aI ?_
  obtain⟨HB,HT⟩:=HF;obtain⟨t0,t1,t2,t3⟩:=HT.out
  (try simp only [Act.put,List.setIfInBounds_toArray,List.set_cons_zero,List.set_cons_succ,List.drop_succ_cons,List.drop_zero])
  refine Ix.nil ?_
  go_wp2_with(first|(go_at_call 65;refine(SH2.out _).mono ?_;rintro e w5⟨rfl,hb5⟩;have H5:=Lib.hid (HB.out.below hb5);clear hb5))
  go_ret2
  exact⟨rfl,H5.out.ext⟩
 ·have SR2:=Lib.hid (SR.out rfl);clear SH SR
  go_enter Try.func46,Try.ntmps46
  go_wp2_with(first|(go_at_call_of 38(Value.agg #[Value.int IntKind.i64 xb,Value.bool xs]);have _t:=tok;refine(VX.out _).mono ?_;rintro e w1⟨rfl,hb1⟩;have K1:=Lib.hid (K0.out.below hb1);clear hb1 tok _t;obtain⟨x0,x1,x2,x3⟩:=K1.out.x;obtain⟨y0,y1,y2,y3⟩:=K1.out.y)|(go_at_call 38;refine(VY.out _).mono ?_;rintro e w2⟨rfl,hb2⟩;have K2:=Lib.hid (K1.out.below hb2);clear hb2 x0 x1 x2 x3 y0 y1 y2 y3;obtain⟨x0,x1,x2,x3⟩:=K2.out.x;obtain⟨y0,y1,y2,y3⟩:=K2.out.y)|(go_at_call 61;refine(NP.out _).mono ?_;rintro e w3⟨rfl,hb3⟩;have K3:=Lib.hid ((K2.out.below hb3).below (Ext.alloc (Below.refl _ _) (.cells #[.int .i64 T, .bool TS] 33)));have P3:=Lib.hid (Ty.new w3 rfl T TS 33);clear hb3 x0 x1 x2 x3 y0 y1 y2 y3))
  generalize(w3.alloc (.cells #[.int .i64 T, .bool TS] 33))=wx at*
  apply Ix.wp_region 10 (fun wi=>Hid (Tl w xb xs yb ys wi)∧Hid (Ty wi w3.heap.size T TS)) (Ix.vk [(Ix.aA _),(Ix.aA _),(Ix.aA _),(Ix.aA (.int .u64 A)),(Ix.aA _),(Ix.aA _),(Ix.aA (W.ty 16 false)),(Ix.aA (.int .u64 Nn)),(Ix.aA _),(Ix.aA _)]) (fun _=>false) (by kernel_rfl) (by kernel_rfl) (by kernel_rfl) (fun _ _ h hb=>⟨h.1.out.below hb,h.2.out.below hb⟩) (Ix.aN _) (Ix.bP _) ⟨K3,P3⟩
  case step=>
   refine aP 9 0 1 [] (fun wi HB=>?_)<|aP 8 1 2 [] (fun wi HB=>?_)<|aP 7 2 3 [] (fun wi HB=>?_)<|aP 6 3 4 [(0,some 40),(1,some 41),(2,some 42)] (fun wi HB=>?_)<|aP 5 4 5 [] (fun wi HB=>?_)<|aP 4 5 6 [] (fun wi HB=>?_)<|aP 3 6 7 [] (fun wi HB=>?_)<|aP 2 7 8 [(4,some 44),(5,some 45),(6,some 46)] (fun wi HB=>?_)<|aP 1 8 9 [(3,some 43)] (fun wi HB=>?_)<|aP 0 9 10 [(7,some 47)] (fun wi HB=>?_)<|Ix.aC
   (·((repeat(refine aB ?_;rintro _ rfl));refine aF ?_;(try simp only [aj]);refine Ix.ah rfl rfl fun K hK=>?_;(try simp only [aj]at hK);go_wp2_with(first|fail);exact hK _ _ (Below.refl _ _) rfl))
   iterate 2(·(obtain⟨HB,HT⟩:=HB;obtain⟨x0,x1,x2,x3⟩:=HB.out.x;obtain⟨y0,y1,y2,y3⟩:=HB.out.y;obtain⟨t0,t1,t2,t3⟩:=HT.out;(repeat(refine aB ?_;rintro _ rfl));refine aF ?_;(try simp only [aj]);refine Ix.ah rfl rfl fun K hK=>?_;(try simp only [aj]at hK);go_wp2_with(first|fail);exact hK _ _ (Below.refl _ _) rfl))
   (·(obtain⟨HB,HT⟩:=HB;obtain⟨x0,x1,x2,x3⟩:=HB.out.x;obtain⟨y0,y1,y2,y3⟩:=HB.out.y;obtain⟨t0,t1,t2,t3⟩:=HT.out;(repeat(refine aB ?_;rintro _ rfl));refine aF ?_;(try simp only [aj]);refine Ix.ah rfl rfl fun K hK=>?_;(try simp only [aj]at hK);go_wp2_with(first|(go_at_call 44;refine(CA.out _).mono ?_;rintro e wa⟨rfl,hba⟩));exact hK _ _ hba rfl))
   (·((repeat(refine aB ?_;rintro _ rfl));refine aF ?_;(try simp only [aj]);refine Ix.ah rfl rfl fun K hK=>?_;(try simp only [aj]at hK);go_wp2_with(first|fail);exact hK _ _ (Below.refl _ _) rfl))
   (·(obtain⟨HB,HT⟩:=HB;obtain⟨x0,x1,x2,x3⟩:=HB.out.x;obtain⟨y0,y1,y2,y3⟩:=HB.out.y;obtain⟨t0,t1,t2,t3⟩:=HT.out;(repeat(refine aB ?_;rintro _ rfl));refine aF ?_;(try simp only [aj]);refine Ix.ah rfl rfl fun K hK=>?_;(try simp only [aj]at hK);go_wp2_with(first|fail);exact hK _ _ (Below.refl _ _) rfl))
   (·(obtain⟨HB,HT⟩:=HB;obtain⟨x0,x1,x2,x3⟩:=HB.out.x;obtain⟨y0,y1,y2,y3⟩:=HB.out.y;obtain⟨t0,t1,t2,t3⟩:=HT.out;(repeat(refine aB ?_;rintro _ rfl));refine aF ?_;(try simp only [aj]);refine Ix.ah rfl rfl fun K hK=>?_;(try simp only [aj]at hK);go_wp2_with(first|(go_at_call 64;refine(CJ _).mono ?_;rintro e wa⟨rfl,hba⟩));exact hK _ _ hba rfl))
   (·(obtain⟨HB,HT⟩:=HB;obtain⟨x0,x1,x2,x3⟩:=HB.out.x;obtain⟨y0,y1,y2,y3⟩:=HB.out.y;obtain⟨t0,t1,t2,t3⟩:=HT.out;(repeat(refine aB ?_;rintro _ rfl));refine aF ?_;(try simp only [aj]);refine Ix.ah rfl rfl fun K hK=>?_;(try simp only [aj]at hK);go_wp2_with(first|(go_at_call 44;refine(CB.out _).mono ?_;rintro e wa⟨rfl,hba⟩));exact hK _ _ hba rfl))
   iterate 2(·((repeat(refine aB ?_;rintro _ rfl));refine aF ?_;(try simp only [aj]);refine Ix.ah rfl rfl fun K hK=>?_;(try simp only [aj]at hK);go_wp2_with(first|fail);exact hK _ _ (Below.refl _ _) rfl))
  intro lM wf HF hdf
  refine au 9 0 1 ?_;rintro _ _ rfl;refine au 8 1 2 ?_;rintro _ _ rfl;refine au 7 2 3 ?_;rintro _ _ rfl;refine au 6 3 4 ?_;rintro _ _ rfl;refine au 5 4 5 ?_;rintro _ _ rfl;refine au 4 5 6 ?_;rintro _ _ rfl;refine au 3 6 7 ?_;rintro _ _ rfl;refine au 2 7 8 ?_;rintro _ _ rfl;refine au 1 8 9 ?_;rintro _ _ rfl;refine au 0 9 10 ?_;rintro _ _ rfl
  refine Ix.aI ?_
  obtain⟨HB,HT⟩:=HF;obtain⟨t0,t1,t2,t3⟩:=HT.out
  (try simp only [Act.put,List.setIfInBounds_toArray,List.set_cons_zero,List.set_cons_succ,List.drop_succ_cons,List.drop_zero])
  refine Ix.nil ?_
  go_wp2_with(first|(go_at_call 66;refine(SR2.out _).mono ?_;rintro e w5⟨rfl,hb5⟩;have H5:=Lib.hid (HB.out.below hb5);clear hb5))
  go_ret2
  exact⟨rfl,H5.out.ext⟩
theorem D9(k a b xb yb:Int)(xs ys u v:Bool)(hk:u=false∨v=false∨k<9∨24<k)
 (VX:Hid (Gives 38 #[W.ty xb xs] (.bool u)))(VY:Hid (Gives 38 #[W.ty yb ys] (.bool v)))(w:World):
 Calls Try.prog 46 #[.int .i64 k, .int .u64 a, .int .u64 b,W.ty xb xs,W.ty yb ys] w (BiR 0 1 w):=by
 have K0:=Lib.hid (Tl.start w xb yb xs ys)
 have tok:=Lib.hid True.intro
 cases u
 ·clear hk
  go_enter Try.func46,Try.ntmps46
  go_wp2_with(first|(go_at_call_of 38(Value.agg #[Value.int IntKind.i64 xb,Value.bool xs]);have _t:=tok;refine(VX.out _).mono ?_;rintro e w1⟨rfl,hb1⟩;have K1:=Lib.hid (K0.out.below hb1);clear hb1 tok _t;obtain⟨x0,x1,x2,x3⟩:=K1.out.x;obtain⟨y0,y1,y2,y3⟩:=K1.out.y))
  go_ret2
  exact⟨rfl,K1.out.ext⟩
 cases v
 ·clear hk
  go_enter Try.func46,Try.ntmps46
  go_wp2_with(first|(go_at_call_of 38(Value.agg #[Value.int IntKind.i64 xb,Value.bool xs]);have _t:=tok;refine(VX.out _).mono ?_;rintro e w1⟨rfl,hb1⟩;have K1:=Lib.hid (K0.out.below hb1);clear hb1 tok _t;obtain⟨x0,x1,x2,x3⟩:=K1.out.x;obtain⟨y0,y1,y2,y3⟩:=K1.out.y)|(go_at_call 38;refine(VY.out _).mono ?_;rintro e w2⟨rfl,hb2⟩;have K2:=Lib.hid (K1.out.below hb2);clear hb2 x0 x1 x2 x3 y0 y1 y2 y3;obtain⟨x0,x1,x2,x3⟩:=K2.out.x;obtain⟨y0,y1,y2,y3⟩:=K2.out.y))
  go_ret2
  exact⟨rfl,K2.out.ext⟩
 have hk2:k<9∨24<k:=by simpa using hk
 clear hk
 rcases hk2 with h|h
 ·go_enter Try.func46,Try.ntmps46
  go_wp2_with(first|(go_at_call_of 38(Value.agg #[Value.int IntKind.i64 xb,Value.bool xs]);have _t:=tok;refine(VX.out _).mono ?_;rintro e w1⟨rfl,hb1⟩;have K1:=Lib.hid (K0.out.below hb1);clear hb1 tok _t;obtain⟨x0,x1,x2,x3⟩:=K1.out.x;obtain⟨y0,y1,y2,y3⟩:=K1.out.y)|(go_at_call 38;refine(VY.out _).mono ?_;rintro e w2⟨rfl,hb2⟩;have K2:=Lib.hid (K1.out.below hb2);clear hb2 x0 x1 x2 x3 y0 y1 y2 y3;obtain⟨x0,x1,x2,x3⟩:=K2.out.x;obtain⟨y0,y1,y2,y3⟩:=K2.out.y))
  go_ret2
  exact⟨rfl,K2.out.ext⟩
 ·have h9:¬k<9:=by omega
  go_enter Try.func46,Try.ntmps46
  go_wp2_with(first|(go_at_call_of 38(Value.agg #[Value.int IntKind.i64 xb,Value.bool xs]);have _t:=tok;refine(VX.out _).mono ?_;rintro e w1⟨rfl,hb1⟩;have K1:=Lib.hid (K0.out.below hb1);clear hb1 tok _t;obtain⟨x0,x1,x2,x3⟩:=K1.out.x;obtain⟨y0,y1,y2,y3⟩:=K1.out.y)|(go_at_call 38;refine(VY.out _).mono ?_;rintro e w2⟨rfl,hb2⟩;have K2:=Lib.hid (K1.out.below hb2);clear hb2 x0 x1 x2 x3 y0 y1 y2 y3;obtain⟨x0,x1,x2,x3⟩:=K2.out.x;obtain⟨y0,y1,y2,y3⟩:=K2.out.y))
  go_ret2
  exact⟨rfl,K2.out.ext⟩
theorem W.AQ{b:Int}(h:W.ok b):W.ok (W.pb b):=by
 unfold W.pb
 split
 ·simp [W.ok]
 ·exact h
theorem W.Sz{a b:Int}(h:W.ok a)(k:W.ok b):W.ok (W.cb a b):=by
 unfold W.cb
 split
 ·exact W.AQ h
 ·exact W.AQ k
theorem aco(b:Int)(h:W.ok b):W.md b≤W.md (W.pb b):=by rcases h with rfl|rfl|rfl|rfl<;>decide
end
end Go.Proofs.Ythdckndjggljpaa
