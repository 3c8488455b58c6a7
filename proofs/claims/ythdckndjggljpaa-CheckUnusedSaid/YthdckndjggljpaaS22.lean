/- Proofs of this claim, part 22. No condition. -/
import Derived.Laws.Tables
import Derived.Test.YthdckndjggljpaaS21
namespace Go.Proofs.Ythdckndjggljpaa
set_option linter.unusedVariables false
set_option linter.unusedSimpArgs false
set_option maxRecDepth 100000
set_option maxHeartbeats 64000000
section
open Go.RowKit
def Kz(n b:Int)(s ok:Bool)(w:World)(e:Ending)(w':World):Prop:=e= .returned (.tuple #[.int .u64 n,W.ty b s, .bool ok])∧Below w.heap.size w w'
structure Ks(w:World)(B:Nat)(k n b:Int)(s:Bool)(nm:ByteArray)(v:Value)(rb:Int)(rs:Bool)(wi:World):Prop where
 ext:Below w.heap.size w wi
 x:Bx wi B k n b s nm v
 y:Ty wi w.heap.size rb rs
 lt:B<w.heap.size
theorem Ty.set{w:World}{G:Nat}{rb:Int}{rs:Bool}(h:Ty w G rb rs)(b:Int)(s:Bool):Ty ((w.setCell ⟨G,0,none⟩ (.int .i64 b)).setCell ⟨G,1,none⟩ (.bool s)) G b s:=by
 obtain⟨h0,h1,f0,f1⟩:=h
 refine⟨?_,?_,by simp [f0],by simp [f1]⟩
 ·rw [World.cell?_setCell_other _ _ _ _ (by simp)];exact World.cell?_setCell_same _ _ _ h0
 ·exact World.cell?_setCell_same _ _ _ ((World.cell?_setCell_other _ _ _ _ (by simp)).trans h1)
theorem Ks.store{w wi:World}{B:Nat}{k n b:Int}{s:Bool}{nm:ByteArray}{v:Value}{rb:Int}{rs:Bool}(h:Ks w B k n b s nm v rb rs wi)(b':Int)(s':Bool):Ks w B k n b s nm v b' s' ((wi.setCell ⟨w.heap.size,0,none⟩ (.int .i64 b')).setCell ⟨w.heap.size,1,none⟩ (.bool s')):=
 ⟨Ext.setCell (Ext.setCell h.ext (Nat.le_refl _) _) (Nat.le_refl _) _,(h.x.far (by show B≠w.heap.size;have:=h.lt;omega) _).far (by show B≠w.heap.size;have:=h.lt;omega) _,h.y.set b' s',h.lt⟩
theorem Ks.below{w wi w':World}{B:Nat}{k n b:Int}{s:Bool}{nm:ByteArray}{v:Value}{rb:Int}{rs:Bool}(h:Ks w B k n b s nm v rb rs wi)(hb:Below wi.heap.size wi w'):Ks w B k n b s nm v rb rs w':=
 ⟨Ext.trans h.ext hb,h.x.keep hb,h.y.below hb,h.lt⟩
theorem Ks.start{w:World}{B:Nat}{k n b:Int}{s:Bool}{nm:ByteArray}{v:Value}(h:Bx w B k n b s nm v):Ks w B k n b s nm v 0 false (w.alloc (.cells #[.int .i64 0, .bool false] 33)):=
 ⟨Ext.alloc (Below.refl _ _) _,h.alloc _,Ty.new _ rfl _ _ _,h.lt⟩
theorem Jc(B:Nat)(n b:Int)(s:Bool)(nm:ByteArray)(v:Value)(w:World)(hB:Bx w B 1 n b s nm v):Calls Try.prog 40 #[P B] w (Kz n b s true w):=by
 have K1:=Lib.hid (Ks.start hB)
 obtain⟨x0,x1,x2,x3,x4,x5⟩:=Bx.six K1.out.x
 obtain⟨y0,y1,y2,y3⟩:=K1.out.y
 clear hB
 go_enter Try.func40,Try.ntmps40
 go_upto_region 1 with(fail)
 generalize hw1:World.alloc w _=w1
 rw [hw1]at K1 x0 x1 x2 x3 x4 x5 y0 y1 y2 y3
 clear hw1
 go_wp2
 go_region
 go_wp2
 exact bodyPost_ret (v:= .tuple #[.int .u64 n,W.ty b s, .bool true]) (by simp [results,Try.results40,go_sem,y0,y1,y2,y3]) rfl ⟨rfl,(Ext.setCell (Ext.setCell K1.out.ext.drew (Nat.le_refl _) _) (Nat.le_refl _) _)⟩
theorem NJ(B:Nat)(k n b:Int)(s:Bool)(nm:ByteArray)(v:Value)(h1:k≠1)(h5:k≠5)(w:World)(hB:Bx w B k n b s nm v):Calls Try.prog 40 #[P B] w (Kz 0 0 false false w):=by
 have K1:=Lib.hid (Ks.start hB)
 obtain⟨x0,x1,x2,x3,x4,x5⟩:=Bx.six K1.out.x
 obtain⟨y0,y1,y2,y3⟩:=K1.out.y
 have q1:(k==1)=false:=by simpa using h1
 have q5:(k==5)=false:=by simpa using h5
 clear hB h1 h5
 go_enter Try.func40,Try.ntmps40
 go_upto_region 1 with(fail)
 generalize hw1:World.alloc w _=w1
 rw [hw1]at K1 x0 x1 x2 x3 x4 x5 y0 y1 y2 y3
 clear hw1
 go_wp2
 exact bodyPost_ret (v:= .tuple #[.int .u64 0,W.ty 0 false, .bool false]) (by simp [results,Try.results40,go_sem,y0,y1,y2,y3]) rfl ⟨rfl,(Ext.setCell (Ext.setCell K1.out.ext (Nat.le_refl _) _) (Nat.le_refl _) _)⟩
theorem xk(B:Nat)(n b:Int)(s:Bool)(nm:ByteArray)(gk off L c:Nat)(hL:1≤L)(q:Int)(hq:q≠1)(w:World)(hB:Bx w B 5 n b s nm (.slice (some ⟨gk,off,none⟩) L c))(k0:w.cell? ⟨gk,off,none⟩=some (.int .i64 q)):
 Calls Try.prog 40 #[P B] w (Kz 0 0 false false w):=by
 have K1:=Lib.hid (Ks.start hB)
 obtain⟨x0,x1,x2,x3,x4,x5⟩:=Bx.six K1.out.x
 obtain⟨y0,y1,y2,y3⟩:=K1.out.y
 have cl:∀(o:Nat)(u:Value),w.cell? ⟨gk,o,none⟩=some u→(w.alloc (.cells #[.int .i64 0, .bool false] 33)).cell? ⟨gk,o,none⟩=some u:=fun o u h=>by
  rw [Below.cell (p:=⟨gk,o,none⟩) K1.out.ext (World.block_lt_of_cell? _ _ h)];exact h
 replace k0:=cl _ _ k0
 have qL:(0:Nat)<L:=by omega
 have q1:(q==1)=false:=by simpa using hq
 clear hB hq hL cl
 go_enter Try.func40,Try.ntmps40
 go_upto_region 1 with(fail)
 generalize hw1:World.alloc w _=w1
 rw [hw1]at K1 x0 x1 x2 x3 x4 x5 y0 y1 y2 y3 k0
 clear hw1
 go_wp2
 exact bodyPost_ret (v:= .tuple #[.int .u64 0,W.ty 0 false, .bool false]) (by simp [results,Try.results40,go_sem,y0,y1,y2,y3]) rfl ⟨rfl,(Ext.setCell (Ext.setCell K1.out.ext (Nat.le_refl _) _) (Nat.le_refl _) _)⟩
theorem EP(B:Nat)(n b:Int)(s:Bool)(nm:ByteArray)(gk off L c:Nat)(hL:1≤L)(yn yb R:Int)(ys:Bool)(w:World)(hB:Bx w B 5 n b s nm (.slice (some ⟨gk,off,none⟩) L c))(k0:w.cell? ⟨gk,off,none⟩=some (.int .i64 1))
 (k1:w.cell? ⟨gk,off+1,none⟩=some (.int .u64 yn))(k2:w.cell? ⟨gk,off+2,none⟩=some (.int .i64 yb))(k3:w.cell? ⟨gk,off+3,none⟩=some (.bool ys))
 (Yx:Hid (Gives 44 #[.int .u64 yn,W.ty yb ys,W.ty b s] (.int .u64 R))):
 Calls Try.prog 40 #[P B] w (Kz R b s true w):=by
 have K1:=Lib.hid (Ks.start hB)
 obtain⟨x0,x1,x2,x3,x4,x5⟩:=Bx.six K1.out.x
 obtain⟨y0,y1,y2,y3⟩:=K1.out.y
 have cl:∀(wi:World)(o:Nat)(u:Value),Below w.heap.size w wi→w.cell? ⟨gk,o,none⟩=some u→wi.cell? ⟨gk,o,none⟩=some u:=fun wi o u hb h=>by
  rw [Below.cell (p:=⟨gk,o,none⟩) hb (World.block_lt_of_cell? _ _ h)];exact h
 have KC:Hid (∀wi:World,Below w.heap.size w wi→wi.cell? ⟨gk,off,none⟩=some (.int .i64 1)∧wi.cell? ⟨gk,off+1,none⟩=some (.int .u64 yn)∧wi.cell? ⟨gk,off+2,none⟩=some (.int .i64 yb)∧wi.cell? ⟨gk,off+3,none⟩=some (.bool ys)):=
  fun wi hb=>⟨cl wi _ _ hb k0,cl wi _ _ hb k1,cl wi _ _ hb k2,cl wi _ _ hb k3⟩
 have qL:(0:Nat)<L:=by omega
 have HBl:=Lib.hid (World.block_lt_of_cell? _ _ k0:gk<w.heap.size)
 clear k0 k1 k2 k3
 obtain⟨k0,k1,k2,k3⟩:=KC.out _ K1.out.ext
 clear hB hL cl
 go_enter Try.func40,Try.ntmps40
 go_upto_region 1 with(fail)
 generalize hw1:World.alloc w _=w1
 rw [hw1]at K1 x0 x1 x2 x3 x4 x5 y0 y1 y2 y3 k0 k1 k2 k3
 clear hw1
 go_upto_region 4 with(fail)
 clear x0 x1 x2 x3 x4 x5 y0 y1 y2 y3 k0 k1 k2 k3
 have KF:∀wi:World,Ks w B 5 n b s nm (.slice (some ⟨gk,off,none⟩) L c) 0 false wi→Ks w B 5 n b s nm (.slice (some ⟨gk,off,none⟩) L c) 0 false wi:=fun _ h=>h
 apply Iy.wp_region 26 [24] (fun _=>[]) (Ix.Rb) (fun nn vs wi=>Hid (∃rb rs,Ks w B 5 n b s nm (.slice (some ⟨gk,off,none⟩) L c) rb rs wi∧(nn=0∨(rb=b∧rs=s)))) (Iy.vp [(Iy.is _),(Iy.is _),(Iy.is _),(Iy.is _),(Iy.is _),(Iy.is _),(Iy.is _),(Iy.is _),(Iy.is _),(Iy.is _),(Iy.is _),(Iy.is _),(Iy.is _),(Iy.is _),(Iy.is _),(Iy.is _),(Iy.is _),(Iy.is _),(Iy.is _),(Iy.is _),(Iy.is _),(Iy.is _),(Iy.is _),(Iy.is _),(fun _=>True),(Iy.is _)]) (fun _=>false) (by kernel_rfl) (by kernel_rfl) (by kernel_rfl) (by kernel_rfl) (by kernel_rfl) (fun _ _ _ _ _ h=>h) (fun _=>Below.refl _ _) (fun nn vs _ _ h hb=>by obtain⟨rb,rs,h1,h2⟩:=h.out;exact⟨rb,rs,h1.below hb,h2⟩) (fun _ _=>Iy.BJ _ _ _ _) (Ix.bP _) (fun vs=>⟨0,false,K1.out.below (Ext.drew (Below.refl _ _)), .inl rfl⟩)
 case step=>
  refine aZ 25 0 1 [] (fun _ _ wi HB=>?_)<|aZ 24 1 2 [(0,some 35)] (fun _ _ wi HB=>?_)<|aZ 23 2 3 [(1,some 36)] (fun _ _ wi HB=>?_)<|aZ 22 3 4 [(2,some 37)] (fun _ _ wi HB=>?_)<|aZ 21 4 5 [(3,some 38)] (fun _ _ wi HB=>?_)<|aZ 20 5 6 [(4,some 39)] (fun _ _ wi HB=>?_)<|aZ 19 6 7 [(5,some 40)] (fun _ _ wi HB=>?_)<|aZ 18 7 8 [] (fun _ _ wi HB=>?_)<|aZ 17 8 9 [(7,some 42)] (fun _ _ wi HB=>?_)<|aZ 16 9 10 [(8,some 43)] (fun _ _ wi HB=>?_)<|aZ 15 10 11 [(9,some 44)] (fun _ _ wi HB=>?_)<|aZ 14 11 12 [(10,some 45)] (fun _ _ wi HB=>?_)<|aZ 13 12 13 [(11,some 46)] (fun _ _ wi HB=>?_)<|aZ 12 13 14 [(12,some 47)] (fun _ _ wi HB=>?_)<|aZ 11 14 15 [] (fun _ _ wi HB=>?_)<|aZ 10 15 16 [(14,some 49)] (fun _ _ wi HB=>?_)<|aZ 9 16 17 [(15,some 50)] (fun _ _ wi HB=>?_)<|aZ 8 17 18 [(16,some 51)] (fun _ _ wi HB=>?_)<|aZ 7 18 19 [(6,some 41),(13,some 48),(17,some 52)] (fun _ _ wi HB=>?_)<|aZ 6 19 20 [] (fun _ _ wi HB=>?_)<|aZ 5 20 21 [(19,some 54)] (fun _ _ wi HB=>?_)<|aZ 4 21 22 [(20,some 55)] (fun _ _ wi HB=>?_)<|aZ 3 22 23 [(21,some 56)] (fun _ _ wi HB=>?_)<|aZ 2 23 24 [(18,some 53)] (fun _ _ wi HB=>?_)<|Aw 1 24 25 0 [(22,some 57)] (fun ji wi HB=>?_)<|aZ 0 25 26 [] (fun _ _ wi HB=>?_)<|Iy.aC
  iterate 3(·((repeat(refine aB ?_;rintro _ rfl));refine aF ?_;(try simp only [aj]);refine Iy.ah rfl rfl fun K hK=>?_;(try simp only [aj]at hK);go_wp2_with(first|fail);exact hK _ _ (Below.refl _ _) rfl))
  (·(obtain⟨rb,rs,hks,hnn⟩:=HB.out;obtain⟨x0,x1,x2,x3,x4,x5⟩:=Bx.six hks.x;obtain⟨k0,k1,k2,k3⟩:=KC.out _ hks.ext;(repeat(refine aB ?_;rintro _ rfl));refine aF ?_;(try simp only [aj]);refine Iy.ah rfl rfl fun K hK=>?_;(try simp only [aj]at hK);go_wp2_with(first|fail);exact hK _ _ (Below.refl _ _) rfl))
  iterate 2(·((repeat(refine aB ?_;rintro _ rfl));refine aF ?_;(try simp only [aj]);refine Iy.ah rfl rfl fun K hK=>?_;(try simp only [aj]at hK);go_wp2_with(first|fail);exact hK _ _ (Below.refl _ _) rfl))
  (·(obtain⟨rb,rs,hks,hnn⟩:=HB.out;obtain⟨x0,x1,x2,x3,x4,x5⟩:=Bx.six hks.x;obtain⟨k0,k1,k2,k3⟩:=KC.out _ hks.ext;(repeat(refine aB ?_;rintro _ rfl));refine aF ?_;(try simp only [aj]);refine Iy.ah rfl rfl fun K hK=>?_;(try simp only [aj]at hK);go_wp2_with(first|fail);exact hK _ _ (Below.refl _ _) rfl))
  iterate 3(·((repeat(refine aB ?_;rintro _ rfl));refine aF ?_;(try simp only [aj]);refine Iy.ah rfl rfl fun K hK=>?_;(try simp only [aj]at hK);go_wp2_with(first|fail);exact hK _ _ (Below.refl _ _) rfl))
  (·(obtain⟨rb,rs,hks,hnn⟩:=HB.out;obtain⟨x0,x1,x2,x3,x4,x5⟩:=Bx.six hks.x;obtain⟨k0,k1,k2,k3⟩:=KC.out _ hks.ext;(repeat(refine aB ?_;rintro _ rfl));refine aF ?_;(try simp only [aj]);refine Iy.ah rfl rfl fun K hK=>?_;(try simp only [aj]at hK);go_wp2_with(first|fail);exact hK _ _ (Below.refl _ _) rfl))
  iterate 2(·((repeat(refine aB ?_;rintro _ rfl));refine aF ?_;(try simp only [aj]);refine Iy.ah rfl rfl fun K hK=>?_;(try simp only [aj]at hK);go_wp2_with(first|fail);exact hK _ _ (Below.refl _ _) rfl))
  (·(obtain⟨rb,rs,hks,hnn⟩:=HB.out;obtain⟨x0,x1,x2,x3,x4,x5⟩:=Bx.six hks.x;obtain⟨k0,k1,k2,k3⟩:=KC.out _ hks.ext;(repeat(refine aB ?_;rintro _ rfl));refine aF ?_;(try simp only [aj]);refine Iy.ah rfl rfl fun K hK=>?_;(try simp only [aj]at hK);go_wp2_with(first|fail);exact hK _ _ (Below.refl _ _) rfl))
  iterate 3(·((repeat(refine aB ?_;rintro _ rfl));refine aF ?_;(try simp only [aj]);refine Iy.ah rfl rfl fun K hK=>?_;(try simp only [aj]at hK);go_wp2_with(first|fail);exact hK _ _ (Below.refl _ _) rfl))
  (·(obtain⟨rb,rs,hks,hnn⟩:=HB.out;obtain⟨x0,x1,x2,x3,x4,x5⟩:=Bx.six hks.x;obtain⟨k0,k1,k2,k3⟩:=KC.out _ hks.ext;(repeat(refine aB ?_;rintro _ rfl));refine aF ?_;(try simp only [aj]);refine Iy.ah rfl rfl fun K hK=>?_;(try simp only [aj]at hK);go_wp2_with(first|fail);exact hK _ _ (Below.refl _ _) rfl))
  (·(obtain⟨rb,rs,hks,hnn⟩:=HB.out;obtain⟨x0,x1,x2,x3,x4,x5⟩:=Bx.six hks.x;obtain⟨k0,k1,k2,k3⟩:=KC.out _ hks.ext;(repeat(refine aB ?_;rintro _ rfl));refine aF ?_;(try simp only [aj]);refine Iy.ah rfl rfl fun K hK=>?_;(try simp only [aj]at hK);go_wp2_with(first|(go_at_call 44;refine(Yx.out _).mono ?_;rintro e wa⟨rfl,hba⟩));exact hK _ _ hba rfl))
  iterate 3(·((repeat(refine aB ?_;rintro _ rfl));refine aF ?_;(try simp only [aj]);refine Iy.ah rfl rfl fun K hK=>?_;(try simp only [aj]at hK);go_wp2_with(first|fail);exact hK _ _ (Below.refl _ _) rfl))
  (·(obtain⟨rb,rs,hks,hnn⟩:=HB.out;obtain⟨x0,x1,x2,x3,x4,x5⟩:=Bx.six hks.x;obtain⟨k0,k1,k2,k3⟩:=KC.out _ hks.ext;(repeat(refine aB ?_;rintro _ rfl));refine aF ?_;(try simp only [aj]);refine Iy.ah rfl rfl fun K hK=>?_;(try simp only [aj]at hK);go_wp2_with(first|fail);exact hK _ _ (Below.refl _ _) rfl))
  (·((repeat(refine aB ?_;rintro _ rfl));refine aF ?_;(try simp only [aj]);refine Iy.ah rfl rfl fun K hK=>?_;(try simp only [aj]at hK);go_wp2_with(first|fail);exact hK _ _ (Below.refl _ _) rfl))
  (·(obtain⟨rb,rs,hks,hnn⟩:=HB.out;obtain⟨y0,y1,y2,y3⟩:=hks.y;refine aB ?_;rintro _⟨rfl,abn⟩;refine aF ?_;(try simp only [aj]);refine Iy.ah rfl rfl fun K hK=>?_;(try simp only [aj]at hK);go_wp2_with(first|fail);exact hK undef _ ⟨⟨b,s,hks.store b s, .inr ⟨rfl,rfl⟩⟩,fun _ _ h=>h⟩ trivial))
  (·((repeat(refine aB ?_;rintro _ rfl));refine aF ?_;(try simp only [aj]);refine Iy.ah rfl rfl fun K hK=>?_;(try simp only [aj]at hK);go_wp2_with(first|fail);exact hK _ _ (Below.refl _ _) rfl))
 intro lM wf HF hdf
 refine au 25 0 1 ?_;rintro _ _ rfl;refine au 24 1 2 ?_;rintro _ _ rfl;refine au 23 2 3 ?_;rintro _ _ rfl;refine au 22 3 4 ?_;rintro _ _ rfl;refine au 21 4 5 ?_;rintro _ _ rfl;refine au 20 5 6 ?_;rintro _ _ rfl;refine au 19 6 7 ?_;rintro _ _ rfl;refine au 18 7 8 ?_;rintro _ _ rfl;refine au 17 8 9 ?_;rintro _ _ rfl;refine au 16 9 10 ?_;rintro _ _ rfl;refine au 15 10 11 ?_;rintro _ _ rfl;refine au 14 11 12 ?_;rintro _ _ rfl;refine au 13 12 13 ?_;rintro _ _ rfl;refine au 12 13 14 ?_;rintro _ _ rfl;refine au 11 14 15 ?_;rintro _ _ rfl;refine au 10 15 16 ?_;rintro _ _ rfl;refine au 9 16 17 ?_;rintro _ _ rfl;refine au 8 17 18 ?_;rintro _ _ rfl;refine au 7 18 19 ?_;rintro _ _ rfl;refine au 6 19 20 ?_;rintro _ _ rfl;refine au 5 20 21 ?_;rintro _ _ rfl;refine au 4 21 22 ?_;rintro _ _ rfl;refine au 3 22 23 ?_;rintro _ _ rfl;refine au 2 23 24 ?_;rintro _ _ rfl;refine au 1 24 25 ?_;rintro _ _ _;refine au 0 25 26 ?_;rintro _ _ rfl
 refine Ix.aI ?_
 (try simp only [Act.put,List.setIfInBounds_toArray,List.set_cons_zero,List.set_cons_succ,List.drop_succ_cons,List.drop_zero])
 refine Ix.nil ?_
 obtain⟨rb,rs,hks,hz⟩:=HF.out
 obtain⟨rfl,rfl⟩:=hz.resolve_left (by decide)
 obtain⟨y0,y1,y2,y3⟩:=hks.y
 have HE:=Lib.hid hks.ext
 clear HF hz hks hdf
 go_wp2
 exact bodyPost_ret (v:= .tuple #[.int .u64 R,W.ty rb rs, .bool true]) (by simp [results,Try.results40,go_sem,y0,y1,y2,y3]) rfl ⟨rfl,HE.out⟩
namespace X
theorem BR(n b yn yb:Int)(s ys:Bool)(nm YF:ByteArray)(yks:List X):cst (.mk 5 n b s nm [.mk 1 yn yb ys YF yks])=⟨W.conv yb ys b yn,b,s,0⟩:=by
 rw [kS]
 show Cst.of 5 n b s (([X.mk 1 yn yb ys YF yks].map cst).getD 0 ⟨0,0,false,0⟩) _=_
 rw [show([X.mk 1 yn yb ys YF yks].map cst).getD 0 ⟨0,0,false,0⟩=cst (.mk 1 yn yb ys YF yks)from rfl,nZ]
 unfold Cst.of
 rw [if_neg (by omega),if_neg (by omega),if_neg (by simp),if_pos rfl]
end X
theorem NI(y:X)(hs:X.gK y)(hw:X.Wf y)(w:World)(B:Nat)(a:Option Addr)(c:Nat)(hX:eU w y (X.cells y.kind y.num y.bits y.sg y.name (.slice a y.kids.length c)))(hB:Bx w B y.kind y.num y.bits y.sg y.name (.slice a y.kids.length c)):
 Calls Try.prog 40 #[P B] w (Kz (if X.known y then(X.cst y).n else 0) (if X.known y then(X.cst y).b else 0) (if X.known y then(X.cst y).s else false) (X.known y) w):=by
 obtain⟨k,n,b,s,nm,ks⟩:=y
 simp only [X.kind,X.num,X.bits,X.sg,X.name,X.kids]at hX hB
 by_cases h1:k=1
 ·subst h1
  have e:X.known (.mk 1 n b s nm ks)=true:=rfl
  rw [e,X.nZ]
  exact Jc B n b s nm _ w hB
 by_cases h5:k=5
 ·subst h5
  obtain⟨z,hz⟩:=hs.one (show(5:Int)≤5 by omega) (show(5:Int)<9 by omega)
  have hz:ks=[z]:=hz
  subst hz
  obtain⟨q,zn,zb,zs,Q9,Rf⟩:=z
  obtain⟨g,off,ay,cy,rfl,hxz,k0,k1,k2,k3,k4,k5⟩:=hX.kid (i:=0) rfl
  simp only [Nat.zero_mul,Nat.add_zero,X.kind,X.num,X.bits,X.sg]at k0 k1 k2 k3
  by_cases hq:q=1
  ·subst hq
   have e:X.known (.mk 5 n b s nm [.mk 1 zn zb zs Q9 Rf])=true:=rfl
   rw [e,X.BR]
   have hsz:=hs.kid (y:= .mk 1 zn zb zs Q9 Rf) (List.mem_singleton.2 rfl)
   have hwz:=hw.kid (y:= .mk 1 zn zb zs Q9 Rf) (List.mem_singleton.2 rfl)
   have hb:W.ok b:=(X.eH hs.own).2.2.2.1 rfl
   have hzb:=W.um (show W.U zn from hwz.num) ((X.eH hsz.own).2.2.1 rfl)
   exact EP B n b s nm g off _ c (Nat.le_refl _) zn zb _ zs w hB k0 k1 k2 k3 (fun w1=>fC zn zb b zs s hzb.1 hb hwz.num w1)
  ·have e:X.known (.mk 5 n b s nm [.mk q zn zb zs Q9 Rf])=false:=by
    show((5:Int)==1||((5:Int)==5&&q==1))=false
    simp [hq]
   rw [e]
   exact xk B n b s nm g off _ c (Nat.le_refl _) q hq w hB k0
 ·have e:X.known (.mk k n b s nm ks)=false:=by
   show(k==1||(k==5&&_))=false
   simp [h1,h5]
  rw [e]
  exact NJ B k n b s nm _ h1 h5 w hB
end
section
open Go.RowKit
theorem W.Oi(n:Int)(u:Bool):(W.lit n u).2.2=0∨(W.lit n u).2.2=3:=by
 unfold W.lit
 split
 ·split
  ·exact .inl rfl
  split
  ·exact .inl rfl
  ·exact .inl rfl
 ·split
  ·exact .inl rfl
  split
  ·exact .inl rfl
  split
  ·exact .inl rfl
  ·exact .inr rfl
theorem dH{P:Program}{fn:Func}{p:Tmp}{ty:TypeId}(h:fn.results=#[.cell p ty])(tmps:Array Value)(w:World)(g:Nat)(t:TypeId)(cs:Array Value)(fr:Nat×Nat)(d:TypeDesc)
 (hp:tmps.getD p undef= .pointer (some ⟨g,0,none⟩))(hg:w.heap[g]?=some (.cells cs t fr))
 (hu:P.underlying ty=some d)(hd:(match d with| .struct _| .array _ _=>true|_=>false)=true)(hi:(P.info? ty).map (·.size)=some cs.size):
 (results fn tmps).run P w= .ok (.agg cs) w:=by
 have hp':tmps[p]?.getD undef= .pointer (some ⟨g,0,none⟩):=by simpa using hp
 simp [results,h,hp',asAddr,run_loadVar_row w g t ty cs fr d hg hu hd hi]
theorem ak.jQ{w:World}{g:Nat}{t:TypeId}{old:Array Value}(h:ak w g t old)(cs:Array Value):ak (w.setRow g cs) g t cs:=setRow_heap w g old cs t _ h
theorem Below.jQ{B:Nat}{w w':World}(h:Below B w w'){g:Nat}(hg:B≤g)(cs:Array Value):Below B w (w'.setRow g cs):=
 h.trans ⟨rfl,rfl,rfl,by simp [World.setRow],fun k hk=>setRow_other w' g k cs (by omega)⟩
theorem ak.yN{w:World}{g g':Nat}{t:TypeId}{old:Array Value}(h:ak w g t old)(hne:g≠g')(cs:Array Value):ak (w.setRow g' cs) g t old:=(setRow_other w g' g cs hne).trans h
theorem AO(k n b:Int)(s:Bool)(nm:ByteArray)(a:Option Addr)(l c:Nat):(#[.int .i64 k, .int .u64 n, .int .i64 b, .bool s, .string nm, .slice a l c]:Array Value).all (·.oneCell')=true:=by simp [Value.oneCell']
def zX:Array Value:=#[.int .i64 0, .int .u64 0, .int .i64 0, .bool false, .string ⟨#[]⟩, .slice none 0 0]
def zO(x:X)(w:World)(e:Ending)(w':World):Prop:=∃cs,e= .returned (.agg cs.toArray)∧dA w' (fun g=>w.heap.size≤g) x cs∧Below w.heap.size w w'
theorem Cb(n b:Int)(s:Bool)(hn:W.U n)(hl:W.lit n (!s)=(b,s,0))(w:World):Calls Try.prog 41 #[.int .u64 n,W.ty b s] w fun e w'=>e= .returned (.agg #[.int .i64 1, .int .u64 n, .int .i64 b, .bool s, .string ⟨#[]⟩, .slice none 0 0])∧Below w.heap.size w w':=by
 obtain⟨u,hu⟩:∃u,(!s)=u:=⟨_,rfl⟩
 have tu:Hid (∀w1:World,Calls Try.prog 55 #[.int .u64 n, .bool u] w1 (mJ b s 0 w1)):=fun w1=>by
  have:=lU n u hn w1;rw [←hu,hl]at this;rw [←hu];exact this
 clear hl hn
 have HB0:=Lib.hid (Ext.alloc (Ext.alloc (Below.refl w.heap.size w) (.cells #[.int .i64 b, .bool s] 33)) (.cells zX 62))
 have HT0:=Lib.hid ((Ty.new w rfl b s 33).alloc (.cells zX 62))
 have HZ0:Hid (ak ((w.alloc (.cells #[.int .i64 b, .bool s] 33)).alloc (.cells zX 62)) (w.heap.size+1) 62 zX):=by
  have:=ak.new (w.alloc (.cells #[.int .i64 b, .bool s] 33)) 62 zX
  show ak _ _ _ _
  simpa using this
 obtain⟨t0,t1,t2,t3⟩:=HT0.out
 go_enter Try.func41,Try.ntmps41
 go_wp2_with(first|(go_at_call 55;refine(tu.out _).mono ?_;rintro e w1⟨rfl,hb1⟩;have HB1:=Lib.hid (Ext.alloc (Ext.trans HB0.out hb1) (.cells #[.int .i64 b, .bool s] 33));have HZ1:=Lib.hid ((HZ0.out.keep hb1).alloc (.cells #[.int .i64 b, .bool s] 33));have HT1:=Lib.hid ((HT0.out.below hb1).alloc (.cells #[.int .i64 b, .bool s] 33));have Vy:=Lib.hid (Ty.new w1 rfl b s 33);clear hb1 t0 t1 t2 t3;obtain⟨t0,t1,t2,t3⟩:=HT1.out;obtain⟨u0,u1,u2,u3⟩:=Vy.out)|(refine wpList_store_row rfl 62 _ _ rfl (w.heap.size+1) #[.int .i64 1, .int .u64 n, .int .i64 b, .bool s, .string ⟨#[]⟩, .slice none 0 0] rfl rfl 62 zX HZ1.out (by kernel_rfl) rfl (AO _ _ _ _ _ _ _ _) ?_))
 exact bodyPost_ret (dH rfl _ _ (w.heap.size+1) 62 #[.int .i64 1, .int .u64 n, .int .i64 b, .bool s, .string ⟨#[]⟩, .slice none 0 0] (0,0) _ rfl (HZ1.out.jQ _) Try.underlying62 rfl (by kernel_rfl)) rfl ⟨rfl,Below.jQ HB1.out (Nat.le_succ _) _⟩
theorem ES{w:World}{p:Nat→Prop}(n b lb:Int)(s ls:Bool)(G:Nat)(h:ak w G 62 #[.int .i64 1, .int .u64 n, .int .i64 lb, .bool ls, .string ⟨#[]⟩, .slice none 0 0])(hp:p G):
 dA w p (.mk 5 0 b s ⟨#[]⟩ [.mk 1 n lb ls ⟨#[]⟩ []]) [.int .i64 5, .int .u64 0, .int .i64 b, .bool s, .string ⟨#[]⟩, .slice (some ⟨G,0,none⟩) 1 1]:=by
 refine .mk 5 0 b s ⟨#[]⟩ [.mk 1 n lb ls ⟨#[]⟩ []] (some ⟨G,0,none⟩) 1 (fun _=>X.cells 1 n lb ls ⟨#[]⟩ (.slice none 0 0)) (Nat.le_refl _) (by decide) (fun i x hx=>?_) (fun _=>⟨G,0,hp,rfl,fun i j u hi hu=>?_⟩)
 ·have:i=0:=by
   have:=(List.getElem?_eq_some_iff.1 hx).1
   simpa using this
  subst this
  simp at hx;subst hx
  exact .mk 1 n lb ls ⟨#[]⟩ [] none 0 (fun _=>[]) (Nat.le_refl _) (Nat.zero_le _) (fun i x hx=>by simp at hx) (fun h0=>absurd h0 (Nat.lt_irrefl _))
 ·have:i=0:=by simpa using hi
  subst this
  have e:0+0*6+j=j:=by omega
  rw [e,h.cell]
  rw [←hu];simp [X.cells]
theorem xw(n b lb l1:Int)(s ls s1:Bool)(w:World)
 (tu:Hid (∀(u:Bool),u=(!s)→∀w1:World,Calls Try.prog 55 #[.int .u64 n, .bool u] w1 (mJ l1 s1 3 w1)))(iD:Hid (∀w1:World,Calls Try.prog 55 #[.int .u64 n, .bool true] w1 (mJ lb ls 0 w1))):
 Calls Try.prog 41 #[.int .u64 n,W.ty b s] w (zO (.mk 5 0 b s ⟨#[]⟩ [.mk 1 n lb ls ⟨#[]⟩ []]) w):=by
 obtain⟨u,hu⟩:∃u,(!s)=u:=⟨_,rfl⟩
 have O4:=Lib.hid (tu.out u hu.symm)
 clear tu
 have HB0:=Lib.hid (Ext.alloc (Ext.alloc (Below.refl w.heap.size w) (.cells #[.int .i64 b, .bool s] 33)) (.cells zX 62))
 have HT0:=Lib.hid ((Ty.new w rfl b s 33).alloc (.cells zX 62))
 have HZ0:Hid (ak ((w.alloc (.cells #[.int .i64 b, .bool s] 33)).alloc (.cells zX 62)) (w.heap.size+1) 62 zX):=by
  have:=ak.new (w.alloc (.cells #[.int .i64 b, .bool s] 33)) 62 zX
  show ak _ _ _ _
  simpa using this
 obtain⟨t0,t1,t2,t3⟩:=HT0.out
 go_enter Try.func41,Try.ntmps41
 go_wp2_with(first|(go_at_call_of 55(Value.bool u);refine(O4.out _).mono ?_;rintro e w1⟨rfl,hb1⟩;have HB1:=Lib.hid (Ext.alloc (Ext.trans HB0.out hb1) (.cells #[.int .i64 l1, .bool s1] 33));have HZ1:=Lib.hid ((HZ0.out.keep hb1).alloc (.cells #[.int .i64 l1, .bool s1] 33));have HT1:=Lib.hid ((HT0.out.below hb1).alloc (.cells #[.int .i64 l1, .bool s1] 33));have Vy:=Lib.hid (Ty.new w1 rfl l1 s1 33);have KL:Hid (w.heap.size+1<w1.heap.size):=(HZ0.out.keep hb1).lt;clear hb1 t0 t1 t2 t3;obtain⟨t0,t1,t2,t3⟩:=HT1.out;obtain⟨u0,u1,u2,u3⟩:=Vy.out)|(go_at_call_of 55(Value.bool true);refine(iD.out _).mono ?_;rintro e w2⟨rfl,hb2⟩;have HB2:=Lib.hid (Ext.alloc (Ext.trans HB1.out hb2) (.cells #[.int .i64 lb, .bool ls] 33));have HZ2:=Lib.hid ((HZ1.out.keep hb2).alloc (.cells #[.int .i64 lb, .bool ls] 33));have HT2:=Lib.hid ((HT1.out.below hb2).alloc (.cells #[.int .i64 lb, .bool ls] 33));have N8:=Lib.hid (Ty.new w2 rfl lb ls 33);have HS2:Hid (w.heap.size+1<w2.heap.size):=Nat.lt_of_lt_of_le KL.out (Nat.le_trans (by simp) hb2.size);clear hb2 t0 t1 t2 t3 u0 u1 u2 u3;obtain⟨t0,t1,t2,t3⟩:=HT2.out;obtain⟨u0,u1,u2,u3⟩:=N8.out)|(refine wpList_store_row rfl 62 _ _ rfl (w.heap.size+1) #[.int .i64 5, .int .u64 0, .int .i64 b, .bool s, .string ⟨#[]⟩, .slice (some ⟨w2.heap.size+1,0,none⟩) 1 1] rfl rfl 62 zX (HZ2.out.alloc _) (by kernel_rfl) rfl (AO _ _ _ _ _ _ _ _) ?_))
 have HK:Hid (ak ((w2.alloc (.cells #[.int .i64 lb, .bool ls] 33)).alloc (.cells #[.int .i64 1, .int .u64 n, .int .i64 lb, .bool ls, .string ⟨#[]⟩, .slice none 0 0] 62)) (w2.heap.size+1) 62 #[.int .i64 1, .int .u64 n, .int .i64 lb, .bool ls, .string ⟨#[]⟩, .slice none 0 0]):=by
  have:=ak.new (w2.alloc (.cells #[.int .i64 lb, .bool ls] 33)) 62 #[.int .i64 1, .int .u64 n, .int .i64 lb, .bool ls, .string ⟨#[]⟩, .slice none 0 0]
  show ak _ _ _ _
  simpa using this
 have hsz:w.heap.size+1<w2.heap.size+1:=by
  have:=HS2.out;omega
 exact bodyPost_ret (dH rfl _ _ (w.heap.size+1) 62 #[.int .i64 5, .int .u64 0, .int .i64 b, .bool s, .string ⟨#[]⟩, .slice (some ⟨w2.heap.size+1,0,none⟩) 1 1] (0,0) _ rfl ((HZ2.out.alloc _).jQ _) Try.underlying62 rfl (by kernel_rfl)) rfl
  ⟨[.int .i64 5, .int .u64 0, .int .i64 b, .bool s, .string ⟨#[]⟩, .slice (some ⟨w2.heap.size+1,0,none⟩) 1 1],rfl,ES _ _ _ _ _ _ (HK.out.yN (by omega) _) (by omega),Below.jQ (Ext.alloc HB2.out _) (Nat.le_succ _) _⟩
theorem xu(n b lb l1:Int)(s ls s1:Bool)(hne:¬l1=b)(w:World)
 (tu:Hid (∀(u:Bool),u=(!s)→∀w1:World,Calls Try.prog 55 #[.int .u64 n, .bool u] w1 (mJ l1 s1 0 w1)))(iD:Hid (∀w1:World,Calls Try.prog 55 #[.int .u64 n, .bool true] w1 (mJ lb ls 0 w1))):
 Calls Try.prog 41 #[.int .u64 n,W.ty b s] w (zO (.mk 5 0 b s ⟨#[]⟩ [.mk 1 n lb ls ⟨#[]⟩ []]) w):=by
 obtain⟨u,hu⟩:∃u,(!s)=u:=⟨_,rfl⟩
 have O4:=Lib.hid (tu.out u hu.symm)
 clear tu
 have HB0:=Lib.hid (Ext.alloc (Ext.alloc (Below.refl w.heap.size w) (.cells #[.int .i64 b, .bool s] 33)) (.cells zX 62))
 have HT0:=Lib.hid ((Ty.new w rfl b s 33).alloc (.cells zX 62))
 have HZ0:Hid (ak ((w.alloc (.cells #[.int .i64 b, .bool s] 33)).alloc (.cells zX 62)) (w.heap.size+1) 62 zX):=by
  have:=ak.new (w.alloc (.cells #[.int .i64 b, .bool s] 33)) 62 zX
  show ak _ _ _ _
  simpa using this
 obtain⟨t0,t1,t2,t3⟩:=HT0.out
 go_enter Try.func41,Try.ntmps41
 go_wp2_with(first|(go_at_call_of 55(Value.bool u);refine(O4.out _).mono ?_;rintro e w1⟨rfl,hb1⟩;have HB1:=Lib.hid (Ext.alloc (Ext.trans HB0.out hb1) (.cells #[.int .i64 l1, .bool s1] 33));have HZ1:=Lib.hid ((HZ0.out.keep hb1).alloc (.cells #[.int .i64 l1, .bool s1] 33));have HT1:=Lib.hid ((HT0.out.below hb1).alloc (.cells #[.int .i64 l1, .bool s1] 33));have Vy:=Lib.hid (Ty.new w1 rfl l1 s1 33);have KL:Hid (w.heap.size+1<w1.heap.size):=(HZ0.out.keep hb1).lt;clear hb1 t0 t1 t2 t3;obtain⟨t0,t1,t2,t3⟩:=HT1.out;obtain⟨u0,u1,u2,u3⟩:=Vy.out)|(go_at_call_of 55(Value.bool true);refine(iD.out _).mono ?_;rintro e w2⟨rfl,hb2⟩;have HB2:=Lib.hid (Ext.alloc (Ext.trans HB1.out hb2) (.cells #[.int .i64 lb, .bool ls] 33));have HZ2:=Lib.hid ((HZ1.out.keep hb2).alloc (.cells #[.int .i64 lb, .bool ls] 33));have HT2:=Lib.hid ((HT1.out.below hb2).alloc (.cells #[.int .i64 lb, .bool ls] 33));have N8:=Lib.hid (Ty.new w2 rfl lb ls 33);have HS2:Hid (w.heap.size+1<w2.heap.size):=Nat.lt_of_lt_of_le KL.out (Nat.le_trans (by simp) hb2.size);clear hb2 t0 t1 t2 t3 u0 u1 u2 u3;obtain⟨t0,t1,t2,t3⟩:=HT2.out;obtain⟨u0,u1,u2,u3⟩:=N8.out)|(refine wpList_store_row rfl 62 _ _ rfl (w.heap.size+1) #[.int .i64 5, .int .u64 0, .int .i64 b, .bool s, .string ⟨#[]⟩, .slice (some ⟨w2.heap.size+1,0,none⟩) 1 1] rfl rfl 62 zX (HZ2.out.alloc _) (by kernel_rfl) rfl (AO _ _ _ _ _ _ _ _) ?_))
 have HK:Hid (ak ((w2.alloc (.cells #[.int .i64 lb, .bool ls] 33)).alloc (.cells #[.int .i64 1, .int .u64 n, .int .i64 lb, .bool ls, .string ⟨#[]⟩, .slice none 0 0] 62)) (w2.heap.size+1) 62 #[.int .i64 1, .int .u64 n, .int .i64 lb, .bool ls, .string ⟨#[]⟩, .slice none 0 0]):=by
  have:=ak.new (w2.alloc (.cells #[.int .i64 lb, .bool ls] 33)) 62 #[.int .i64 1, .int .u64 n, .int .i64 lb, .bool ls, .string ⟨#[]⟩, .slice none 0 0]
  show ak _ _ _ _
  simpa using this
 have hsz:w.heap.size+1<w2.heap.size+1:=by
  have:=HS2.out;omega
 exact bodyPost_ret (dH rfl _ _ (w.heap.size+1) 62 #[.int .i64 5, .int .u64 0, .int .i64 b, .bool s, .string ⟨#[]⟩, .slice (some ⟨w2.heap.size+1,0,none⟩) 1 1] (0,0) _ rfl ((HZ2.out.alloc _).jQ _) Try.underlying62 rfl (by kernel_rfl)) rfl
  ⟨[.int .i64 5, .int .u64 0, .int .i64 b, .bool s, .string ⟨#[]⟩, .slice (some ⟨w2.heap.size+1,0,none⟩) 1 1],rfl,ES _ _ _ _ _ _ (HK.out.yN (by omega) _) (by omega),Below.jQ (Ext.alloc HB2.out _) (Nat.le_succ _) _⟩
theorem xC(n b lb:Int)(s ls s1:Bool)(hne:¬s1=s)(w:World)
 (tu:Hid (∀(u:Bool),u=(!s)→∀w1:World,Calls Try.prog 55 #[.int .u64 n, .bool u] w1 (mJ b s1 0 w1)))(iD:Hid (∀w1:World,Calls Try.prog 55 #[.int .u64 n, .bool true] w1 (mJ lb ls 0 w1))):
 Calls Try.prog 41 #[.int .u64 n,W.ty b s] w (zO (.mk 5 0 b s ⟨#[]⟩ [.mk 1 n lb ls ⟨#[]⟩ []]) w):=by
 obtain⟨u,hu⟩:∃u,(!s)=u:=⟨_,rfl⟩
 have O4:=Lib.hid (tu.out u hu.symm)
 clear tu
 have HB0:=Lib.hid (Ext.alloc (Ext.alloc (Below.refl w.heap.size w) (.cells #[.int .i64 b, .bool s] 33)) (.cells zX 62))
 have HT0:=Lib.hid ((Ty.new w rfl b s 33).alloc (.cells zX 62))
 have HZ0:Hid (ak ((w.alloc (.cells #[.int .i64 b, .bool s] 33)).alloc (.cells zX 62)) (w.heap.size+1) 62 zX):=by
  have:=ak.new (w.alloc (.cells #[.int .i64 b, .bool s] 33)) 62 zX
  show ak _ _ _ _
  simpa using this
 obtain⟨t0,t1,t2,t3⟩:=HT0.out
 go_enter Try.func41,Try.ntmps41
 go_wp2_with(first|(go_at_call_of 55(Value.bool u);refine(O4.out _).mono ?_;rintro e w1⟨rfl,hb1⟩;have HB1:=Lib.hid (Ext.alloc (Ext.trans HB0.out hb1) (.cells #[.int .i64 b, .bool s1] 33));have HZ1:=Lib.hid ((HZ0.out.keep hb1).alloc (.cells #[.int .i64 b, .bool s1] 33));have HT1:=Lib.hid ((HT0.out.below hb1).alloc (.cells #[.int .i64 b, .bool s1] 33));have Vy:=Lib.hid (Ty.new w1 rfl b s1 33);have KL:Hid (w.heap.size+1<w1.heap.size):=(HZ0.out.keep hb1).lt;clear hb1 t0 t1 t2 t3;obtain⟨t0,t1,t2,t3⟩:=HT1.out;obtain⟨u0,u1,u2,u3⟩:=Vy.out)|(go_at_call_of 55(Value.bool true);refine(iD.out _).mono ?_;rintro e w2⟨rfl,hb2⟩;have HB2:=Lib.hid (Ext.alloc (Ext.trans HB1.out hb2) (.cells #[.int .i64 lb, .bool ls] 33));have HZ2:=Lib.hid ((HZ1.out.keep hb2).alloc (.cells #[.int .i64 lb, .bool ls] 33));have HT2:=Lib.hid ((HT1.out.below hb2).alloc (.cells #[.int .i64 lb, .bool ls] 33));have N8:=Lib.hid (Ty.new w2 rfl lb ls 33);have HS2:Hid (w.heap.size+1<w2.heap.size):=Nat.lt_of_lt_of_le KL.out (Nat.le_trans (by simp) hb2.size);clear hb2 t0 t1 t2 t3 u0 u1 u2 u3;obtain⟨t0,t1,t2,t3⟩:=HT2.out;obtain⟨u0,u1,u2,u3⟩:=N8.out)|(refine wpList_store_row rfl 62 _ _ rfl (w.heap.size+1) #[.int .i64 5, .int .u64 0, .int .i64 b, .bool s, .string ⟨#[]⟩, .slice (some ⟨w2.heap.size+1,0,none⟩) 1 1] rfl rfl 62 zX (HZ2.out.alloc _) (by kernel_rfl) rfl (AO _ _ _ _ _ _ _ _) ?_))
 have HK:Hid (ak ((w2.alloc (.cells #[.int .i64 lb, .bool ls] 33)).alloc (.cells #[.int .i64 1, .int .u64 n, .int .i64 lb, .bool ls, .string ⟨#[]⟩, .slice none 0 0] 62)) (w2.heap.size+1) 62 #[.int .i64 1, .int .u64 n, .int .i64 lb, .bool ls, .string ⟨#[]⟩, .slice none 0 0]):=by
  have:=ak.new (w2.alloc (.cells #[.int .i64 lb, .bool ls] 33)) 62 #[.int .i64 1, .int .u64 n, .int .i64 lb, .bool ls, .string ⟨#[]⟩, .slice none 0 0]
  show ak _ _ _ _
  simpa using this
 have hsz:w.heap.size+1<w2.heap.size+1:=by
  have:=HS2.out;omega
 exact bodyPost_ret (dH rfl _ _ (w.heap.size+1) 62 #[.int .i64 5, .int .u64 0, .int .i64 b, .bool s, .string ⟨#[]⟩, .slice (some ⟨w2.heap.size+1,0,none⟩) 1 1] (0,0) _ rfl ((HZ2.out.alloc _).jQ _) Try.underlying62 rfl (by kernel_rfl)) rfl
  ⟨[.int .i64 5, .int .u64 0, .int .i64 b, .bool s, .string ⟨#[]⟩, .slice (some ⟨w2.heap.size+1,0,none⟩) 1 1],rfl,ES _ _ _ _ _ _ (HK.out.yN (by omega) _) (by omega),Below.jQ (Ext.alloc HB2.out _) (Nat.le_succ _) _⟩
theorem zF(n b:Int)(s:Bool)(hn:W.U n)(w:World):Calls Try.prog 41 #[.int .u64 n,W.ty b s] w (zO (X.lit n b s) w):=by
 unfold X.lit
 split
 ·rename_i h
  refine(Cb n b s hn h w).mono ?_
  rintro e w'⟨rfl,hb⟩
  exact⟨[.int .i64 1, .int .u64 n, .int .i64 b, .bool s, .string ⟨#[]⟩, .slice none 0 0],rfl, .mk 1 n b s ⟨#[]⟩ [] none 0 (fun _=>[]) (Nat.le_refl _) (Nat.zero_le _) (fun i x hx=>by simp at hx) (fun h0=>absurd h0 (Nat.lt_irrefl _)),hb⟩
 ·rename_i h
  have iD:Hid (∀w1:World,Calls Try.prog 55 #[.int .u64 n, .bool true] w1 (mJ (W.lit n true).1 (W.lit n true).2.1 0 w1)):=fun w1=>by
   have:=lU n true hn w1;rw [(X.vU n hn).1]at this;exact this
  obtain⟨l1,s1,e1,hl⟩:∃l1 s1 e1,W.lit n (!s)=(l1,s1,e1):=⟨_,_,_,rfl⟩
  have O4:∀(u:Bool),u=(!s)→∀w1:World,Calls Try.prog 55 #[.int .u64 n, .bool u] w1 (mJ l1 s1 e1 w1):=fun u hu w1=>by
   have:=lU n u hn w1;rw [hu,hl]at this;rw [hu];exact this
  rw [hl]at h
  have hle:=W.Oi n (!s)
  rw [hl]at hle
  rcases hle with rfl|rfl
  ·by_cases hb:l1=b
   ·rw [hb]at O4
    exact xC n b _ s _ s1 (fun e=>h (by rw [hb,e])) w O4 iD
   ·exact xu n b _ l1 s _ s1 hb w O4 iD
  ·exact xw n b _ l1 s _ s1 w O4 iD
end
section
open Go.RowKit
theorem Ir:(Try.prog.info? 62).map (fun i=>(i.zero,i.size,i.bytes))=some (some (.agg zX),6,72):=by kernel_rfl
theorem mD{wv:World}{ops:Array Oper}{rest:List Oper}{o:Oper}{a:Act}{Q:Exit→Act→World→Prop}(hgd:o.guard=none)(s x:Operand)(ho:o.op= .call {callee:= .builtin .append,args:=#[s,x],argTypes:=#[34,34]})
 (B:Nat)(lv:Value)(m:Nat)(xs:List Value)(g:Nat)(k n b:Int)(sg:Bool)(nm:ByteArray)(ka:Option Addr)(kl kc:Nat)(hs:a.eval s=lv)(hx:a.eval x= .slice (some ⟨g,0,none⟩) 1 1)(hown:wv.ownsRow B 62 6 lv m xs)(hb:Bx wv g k n b sg nm (.slice ka kl kc))(hm:m+1≤1000000000)(hB:B≤wv.heap.size)
 (h:∀a' c' w',w'.ownsRow B 62 6 (.slice a' (m+1) c') (m+1) (xs++X.cells k n b sg nm (.slice ka kl kc))→wv.grownBy w' lv.ownBlock→((Value.slice a' (m+1) c').ownBlock=lv.ownBlock∨(Value.slice a' (m+1) c').ownBlock=some wv.heap.size)→wpList Try.prog ops Q rest (a.put o.dst (.slice a' (m+1) c')) w'):
 wpList Try.prog ops Q (o::rest) a wv:=by
 obtain⟨iI,hi,hz0,hz1,hz2⟩:=info_parts Ir
 refine wpList_append_own_at _ hgd s x 34 ho B 62 iI (.agg zX) 6 72 Try.underlying34 hi hz0 hz1 hz2 rfl (by decide) lv m xs hs hown ⟨g,0,none⟩ 1 1 (X.cells k n b sg nm (.slice ka kl kc)) hx rfl (fun j u hj=>?_) (fun u hu=>?_) (by unfold maxLen;omega) (by omega) hB ?_
 ·rw [X.bV,Nat.zero_add,hb.cell,←hj];simp [X.cells]
 ·simp only [X.cells,List.mem_cons,List.not_mem_nil,or_false]at hu
  rcases hu with rfl|rfl|rfl|rfl|rfl|rfl<;>rfl
 ·intro v' w' ho' hg' _ hat
  obtain⟨a',c',hv,_⟩:=bG ho'
  subst hv
  exact h a' c' w' ho' hg' hat
end
section
open Go.RowKit
structure kR(w:World)(k n b:Int)(s:Bool)(nm:ByteArray)(pv:Value)(fs:List X)(j:Nat)(av:Option Addr)(cv:Nat)(cs:Nat→List Value)(wr:World):Prop where
 ext:Below w.heap.size w wr
 bx:Bx wr w.heap.size k n b s nm pv
 rz:ak wr (w.heap.size+1) 62 zX
 ob:Bx wr (w.heap.size+2) k n b s nm (.slice av j cv)
 own:wr.ownsRow (w.heap.size+3) 62 6 (.slice av j cv) j (flat cs j)
 kids:∀i y,i<j→fs[i]?=some y→dA wr (fun g=>w.heap.size+3≤g∧(Value.slice av j cv).ownBlock≠some g) y (cs i)
 lt:w.heap.size+3≤wr.heap.size
theorem Jp{w w':World}{base e size n:Nat}{v:Value}{xs:List Value}(h:w.ownsRow base e size v n xs)(hb:Below w.heap.size w w'):w'.ownsRow base e size v n xs:=by
 refine⟨h.1,?_⟩
 rcases h.2 with⟨rfl,hz⟩|⟨g,cap,cur,rfl,hbg,hg,hnc,hcm,hcs,htake⟩
 ·exact .inl ⟨rfl,hz⟩
 ·have hlt:g<w.heap.size:=by
   rcases Nat.lt_or_ge g w.heap.size with h|h
   ·exact h
   ·rw [Array.getElem?_eq_none h]at hg;cases hg
  exact .inr ⟨g,cap,cur,rfl,hbg,(hb.block g hlt).trans hg,hnc,hcm,hcs,htake⟩
theorem OD{w:World}{B e s n:Nat}{v:Value}{xs:List Value}(h:w.ownsRow B e s v n xs){p:Addr}(hp:p.block<B)(u:Value):(w.setCell p u).ownsRow B e s v n xs:=by
 refine⟨h.1,?_⟩
 rcases h.2 with⟨rfl,hz⟩|⟨g,cap,cur,rfl,hbg,hg,hnc,hcm,hcs,htake⟩
 ·exact .inl ⟨rfl,hz⟩
 ·exact .inr ⟨g,cap,cur,rfl,hbg,(Below.heap_setCell w p u g (fun e=>by omega)).trans hg,hnc,hcm,hcs,htake⟩
theorem kR.keep{w wr w':World}{k n b:Int}{s:Bool}{nm:ByteArray}{pv:Value}{fs:List X}{j:Nat}{av:Option Addr}{cv:Nat}{cs:Nat→List Value}(h:kR w k n b s nm pv fs j av cv cs wr)(hb:Below wr.heap.size wr w'):kR w k n b s nm pv fs j av cv cs w':=
 ⟨Ext.trans h.ext hb,h.bx.keep hb,h.rz.keep hb,h.ob.keep hb,Jp h.own hb,fun i y hi hy=>(h.kids i y hi hy).keep hb,Nat.le_trans h.lt hb.size⟩
theorem kR.step{w wz w':World}{k n b:Int}{s:Bool}{nm:ByteArray}{pv:Value}{fs:List X}{j:Nat}{av:Option Addr}{cv:Nat}{cs:Nat→List Value}(h:kR w k n b s nm pv fs j av cv cs wz){y:X}(hy:fs[j]?=some y){ys:List Value}{B:Nat}
 (hin:dA wz (fun g=>B≤g) y ys)(hB:w.heap.size+3≤B)(hBo:∀g,(Value.slice av j cv).ownBlock=some g→g<B){a':Option Addr}{c':Nat}(ho:w'.ownsRow (w.heap.size+3) 62 6 (.slice a' (j+1) c') (j+1) (flat cs j++ys))(hg:wz.grownBy w' (Value.slice av j cv).ownBlock)
 (hat:(Value.slice a' (j+1) c').ownBlock=(Value.slice av j cv).ownBlock∨(Value.slice a' (j+1) c').ownBlock=some wz.heap.size):
 kR w k n b s nm pv fs (j+1) a' c' (fun i=>if i=j then ys else cs i) (w'.setCell ⟨w.heap.size+2,5,none⟩ (.slice a' (j+1) c')):=by
 have hlo:=h.own.lt
 have far:∀g,g<w.heap.size+3→some g≠(Value.slice av j cv).ownBlock:=fun g hg e=>by have:=(hlo g e.symm).1;omega
 have far':∀g,some g=(Value.slice a' (j+1) c').ownBlock→w.heap.size+3≤g:=fun g e=>(ho.lt g e.symm).1
 have heq:flat cs j++ys=flat (fun i=>if i=j then ys else cs i) (j+1):=by
  rw [jJ]
  congr 1
  ·exact lW (fun i hi=>by rw [if_neg (by omega)])
  ·rw [if_pos rfl]
 have mv:∀{q:X}{l:List Value}{p:Nat→Prop},dA wz p q l→(∀g,p g→g<wz.heap.size→w.heap.size+3≤g∧(Value.slice av j cv).ownBlock≠some g)→dA (w'.setCell ⟨w.heap.size+2,5,none⟩ (.slice a' (j+1) c')) (fun g=>w.heap.size+3≤g∧(Value.slice a' (j+1) c').ownBlock≠some g) q l:=fun hx hp=>
  hx.move fun g hpg hlt=>by
   obtain⟨h1,h2⟩:=hp g hpg hlt
   refine⟨⟨h1,?_⟩,?_⟩
   ·rcases hat with e|e
    ·rw [e];exact h2
    ·rw [e];intro e2;injection e2 with e2;omega
   ·rw [Below.heap_setCell _ _ _ _ (by show g≠w.heap.size+2;omega)]
    exact hg.block g hlt (fun e=>h2 e.symm)
 refine⟨?_,?_,?_,?_,?_,?_,?_⟩
 ·exact Ext.setCell ⟨hg.os.trans h.ext.os,hg.tape.trans h.ext.tape,hg.output.trans h.ext.output,Nat.le_trans h.ext.size hg.size,fun i hi=>(hg.block i (by have:=h.ext.size;omega) (far i (by omega))).trans (h.ext.block i hi)⟩ (by show w.heap.size≤w.heap.size+2;omega) _
 ·exact(h.bx.grown hg (far _ (by omega))).far (by show w.heap.size≠w.heap.size+2;omega) _
 ·exact(h.rz.grown hg (far _ (by omega))).far (by show w.heap.size+1≠w.heap.size+2;omega) _
 ·have:=(h.ob.grown hg (far _ (by omega))).dJ 5 (.slice a' (j+1) c')
  simpa using this
 ·rw [←heq]
  exact OD ho (by show w.heap.size+2<w.heap.size+3;omega) _
 ·intro i z hi hz
  by_cases he:i=j
  ·subst he
   rw [hy]at hz;injection hz with hz;subst hz
   rw [if_pos rfl]
   exact mv hin (fun g hg hlt=>⟨Nat.le_trans hB hg,fun e=>by have:=hBo g e;omega⟩)
  ·rw [if_neg he]
   exact mv (h.kids i z (by omega) hz) (fun g hg hlt=>hg)
 ·have:=Nat.le_trans h.lt hg.size
  simpa using this
def SV(y:X):Prop:=∀(w:World)(cs:List Value),eU w y cs→Calls Try.prog 20 #[.agg cs.toArray] w (zO (X.fold y) w)
theorem dA.form{w:World}{p:Nat→Prop}{x:X}{cs:List Value}(h:dA w p x cs):∃a c,cs=X.cells x.kind x.num x.bits x.sg x.name (.slice a x.kids.length c):=by
 obtain⟨a,c,e,_⟩:=h.at.open
 exact⟨a,c,e⟩
theorem kR.start(w:World)(k n b:Int)(s:Bool)(nm:ByteArray)(pv:Value)(fs:List X):kR w k n b s nm pv fs 0 none 0 (fun _=>[])
 (((w.alloc (.cells #[.int .i64 k, .int .u64 n, .int .i64 b, .bool s, .string nm,pv] 62)).alloc (.cells zX 62)).alloc (.cells #[.int .i64 k, .int .u64 n, .int .i64 b, .bool s, .string nm, .slice none 0 0] 62)):=by
 have hO:ak (((w.alloc (.cells #[.int .i64 k, .int .u64 n, .int .i64 b, .bool s, .string nm,pv] 62)).alloc (.cells zX 62)).alloc (.cells #[.int .i64 k, .int .u64 n, .int .i64 b, .bool s, .string nm, .slice none 0 0] 62)) (w.heap.size+2) 62 #[.int .i64 k, .int .u64 n, .int .i64 b, .bool s, .string nm, .slice none 0 0]:=by
  have:=ak.new ((w.alloc (.cells #[.int .i64 k, .int .u64 n, .int .i64 b, .bool s, .string nm,pv] 62)).alloc (.cells zX 62)) 62 #[.int .i64 k, .int .u64 n, .int .i64 b, .bool s, .string nm, .slice none 0 0]
  simpa using this
 have hR:ak ((w.alloc (.cells #[.int .i64 k, .int .u64 n, .int .i64 b, .bool s, .string nm,pv] 62)).alloc (.cells zX 62)) (w.heap.size+1) 62 zX:=by
  have:=ak.new (w.alloc (.cells #[.int .i64 k, .int .u64 n, .int .i64 b, .bool s, .string nm,pv] 62)) 62 zX
  simpa using this
 refine⟨?_,?_,?_,?_,?_,?_,?_⟩
 ·exact Ext.alloc (Ext.alloc (Ext.alloc (Below.refl _ _) _) _) _
 ·exact((ak.new w _ _).alloc _).alloc _
 ·exact hR.alloc _
 ·exact hO
 ·exact World.ownsRow_nil _ _ _ _
 ·intro i y hi;exact absurd hi (Nat.not_lt_zero _)
 ·simp
end
end Go.Proofs.Ythdckndjggljpaa
