/- Proofs of this claim, part 26. No condition. -/
import Derived.Test.YthdckndjggljpaaS24
import Derived.Test.YthdckndjggljpaaS25
namespace Go.Proofs.Ythdckndjggljpaa
set_option linter.unusedVariables false
set_option linter.unusedSimpArgs false
set_option maxRecDepth 100000
set_option maxHeartbeats 64000000
open Go.RowKit
def D5(w:World)(p:Nat→Prop)(g:Nat)(y:S)(e:Ending)(w':World):Prop:=e= .returned (.tuple #[])∧∃x0 x1 x2 x3 x4 x5 i0 i1 i2 i3 i4 i5 v0 v1 v2 v3,dP w p g y.kind y.bits y.sg y.name y.has y.xx y.ii y.ini y.step y.body y.els x0 x1 x2 x3 x4 x5 i0 i1 i2 i3 i4 i5 v0 v1 v2 v3 w'
def OY(p:Nat→Prop)(w:World)(x x':X):Prop:=∀(w1:World)(cs:List Value),dA w1 (Qp p w) x cs→Calls Try.prog 20 #[.agg cs.toArray] w1 (zO x' w1)
theorem zO.six{x:X}{w1 w2:World}{e:Ending}(h:zO x w1 e w2){N:Nat}(hN:N≤w1.heap.size):∃y0 y1 y2 y3 y4 y5,e= .returned (.agg #[y0,y1,y2,y3,y4,y5])∧dA w2 (fun q=>N≤q) x [y0,y1,y2,y3,y4,y5]∧Below w1.heap.size w1 w2:=by
 obtain⟨cs,e1,hx,hb⟩:=h
 have h6:=hx.six
 match cs,h6 with
 |[y0,y1,y2,y3,y4,y5],_=>exact⟨y0,y1,y2,y3,y4,y5,e1,hx.move fun q hq _=>⟨Nat.le_trans hN hq,rfl⟩,hb⟩
theorem dP.adB{w wi:World}{p:Nat→Prop}{g:Nat}{k b:Int}{s:Bool}{nm:ByteArray}{has:Bool}{x i:X}{l0 l1 l2 l3:List S}{x0 x1 x2 x3 x4 x5 i0 i1 i2 i3 i4 i5 v0 v1 v2 v3:Value}(h:dP w p g k b s nm has x i l0 l1 l2 l3 x0 x1 x2 x3 x4 x5 i0 i1 i2 i3 i4 i5 v0 v1 v2 v3 wi){l m:List S}{v u:Value}(hl:aQ wi (Qp p w) l v)(hm:aQ wi (Qp p w) m u):dP w p g k b s nm has x i l m l2 l3 x0 x1 x2 x3 x4 x5 i0 i1 i2 i3 i4 i5 v u v2 v3 ((wi.setCell ⟨g,17,none⟩ v).setCell ⟨g,18,none⟩ u):=
 (h.set0 hl).set1 (hm.move fun q hq hl=>⟨hq,((aH.of_below (Below.refl _ _)).setCell 17 v:aH g wi _).block q hl (fun e=>by injection e with e;exact h.q hq e)⟩)
def yO(q:Nat→Prop)(l:List S)(v:Value)(w:World):Prop:=∃a c,v= .slice a l.length c∧aQ w q l v
theorem yO.keep{q:Nat→Prop}{l:List S}{v:Value}{w w':World}(h:yO q l v w)(hb:Below w.heap.size w w'):yO q l v w':=by
 obtain⟨a,c,e,h⟩:=h;exact⟨a,c,e,h.keep hb⟩
theorem yO.turn{w wi:World}{p:Nat→Prop}{g:Nat}{k b:Int}{s:Bool}{nm:ByteArray}{has:Bool}{x i:X}{l0 l1 l2 l3:List S}{x0 x1 x2 x3 x4 x5 i0 i1 i2 i3 i4 i5 v0 v1 v2 v3:Value}(h:dP w p g k b s nm has x i l0 l1 l2 l3 x0 x1 x2 x3 x4 x5 i0 i1 i2 i3 i4 i5 v0 v1 v2 v3 wi)(o:Nat)(u:Value){l:List S}{v:Value}(hr:yO (Qp p w) l v wi):yO (Qp p w) l v (wi.setCell ⟨g,o,none⟩ u):=by
 obtain⟨a,c,e,h2⟩:=hr
 exact⟨a,c,e,h2.move fun q hq hl=>⟨hq,((aH.of_below (Below.refl _ _)).setCell o u:aH g wi _).block q hl (fun e=>by injection e with e;exact h.q hq e)⟩⟩
theorem Qd(w:World)(p:Nat→Prop)(g:Nat)(b:Int)(s:Bool)(nm:ByteArray)(x i:X)(l0 l1 l2 l3:List S)(x0 x1 x2 x3 x4 x5 i0 i1 i2 i3 i4 i5 v0 v1 v2 v3:Value)(h:dP w p g 2 b s nm true x i l0 l1 l2 l3 x0 x1 x2 x3 x4 x5 i0 i1 i2 i3 i4 i5 v0 v1 v2 v3 w)(fx:X)(hX:OY p w x fx):Calls Try.prog 42 #[P g] w (D5 w p g (.mk 2 b s nm true fx i l0 l1 l2 l3)):=by
 have HP:=Lib.hid h
 have HX:=Lib.hid hX
 clear h hX
 have c0:World.cell? w ⟨g,0,none⟩=some (.int .i64 2):=HP.out.blk.cell 0
 have c4:World.cell? w ⟨g,4,none⟩=some (.bool true):=HP.out.blk.cell 4
 have c5:World.cell? w ⟨g,5,none⟩=some (x0):=HP.out.blk.cell 5
 have c6:World.cell? w ⟨g,6,none⟩=some (x1):=HP.out.blk.cell 6
 have c7:World.cell? w ⟨g,7,none⟩=some (x2):=HP.out.blk.cell 7
 have c8:World.cell? w ⟨g,8,none⟩=some (x3):=HP.out.blk.cell 8
 have c9:World.cell? w ⟨g,9,none⟩=some (x4):=HP.out.blk.cell 9
 have c10:World.cell? w ⟨g,10,none⟩=some (x5):=HP.out.blk.cell 10
 have gl:=HP.out.blk.lt
 go_enter Try.func42,Try.ntmps42
 go_upto_region 11 with(first|(go_at_call 20;refine(HX.out _ [x0,x1,x2,x3,x4,x5] HP.out.x).mono ?_;intro e EI hx;obtain⟨y0,y1,y2,y3,y4,y5,rfl,hx1,hb1⟩:=hx.six (N:=w.heap.size) HP.out.bC.size;have iE:=Lib.hid (HP.out.keep hb1);have oL:=Lib.hid hx1;clear hx hx1 hb1)|(refine aT rfl 62 _ _ rfl g 5 [y0,y1,y2,y3,y4,y5] rfl rfl 102 _ #[.int .i64 2, .int .i64 b, .bool s, .string nm, .bool true,y0,y1,y2,y3,y4,y5,i0,i1,i2,i3,i4,i5,v0,v1,v2,v3] iE.out.blk (by kernel_rfl) (show 5+6≤21 by decide) (dA.ones oL.out) rfl ?_))
 have gY:=Lib.hid (iE.out.rM oL.out)
 generalize hw1:World.setRow EI g _=w1 at gY⊢
 clear c0 c4 c5 c6 c7 c8 c9 c10 gl
 clear hw1
 have c0:World.cell? w1 ⟨g,0,none⟩=some (.int .i64 2):=gY.out.blk.cell 0
 have c4:World.cell? w1 ⟨g,4,none⟩=some (.bool true):=gY.out.blk.cell 4
 have gl:=gY.out.blk.lt
 go_wp2
 go_end0
 exact⟨rfl,_,_,_,_,_,_,_,_,_,_,_,_,_,_,_,_,gY.out⟩
theorem LY(w:World)(p:Nat→Prop)(g:Nat)(b:Int)(s:Bool)(nm:ByteArray)(x i:X)(l0 l1 l2 l3:List S)(x0 x1 x2 x3 x4 x5 i0 i1 i2 i3 i4 i5 v0 v1 v2 v3:Value)(h:dP w p g 2 b s nm false x i l0 l1 l2 l3 x0 x1 x2 x3 x4 x5 i0 i1 i2 i3 i4 i5 v0 v1 v2 v3 w):Calls Try.prog 42 #[P g] w (D5 w p g (.mk 2 b s nm false x i l0 l1 l2 l3)):=by
 have HP:=Lib.hid h
 clear h
 have c0:World.cell? w ⟨g,0,none⟩=some (.int .i64 2):=HP.out.blk.cell 0
 have c4:World.cell? w ⟨g,4,none⟩=some (.bool false):=HP.out.blk.cell 4
 have gl:=HP.out.blk.lt
 go_enter Try.func42,Try.ntmps42
 go_wp2
 go_end0
 exact⟨rfl,_,_,_,_,_,_,_,_,_,_,_,_,_,_,_,_,HP.out⟩
theorem Qg(w:World)(p:Nat→Prop)(g:Nat)(b:Int)(s:Bool)(nm:ByteArray)(x i:X)(l0 l1 l2 l3:List S)(x0 x1 x2 x3 x4 x5 i0 i1 i2 i3 i4 i5 v0 v1 v2 v3:Value)(h:dP w p g 3 b s nm true x i l0 l1 l2 l3 x0 x1 x2 x3 x4 x5 i0 i1 i2 i3 i4 i5 v0 v1 v2 v3 w)(fx:X)(hX:OY p w x fx)(fi:X)(hI:OY p w i fi):Calls Try.prog 42 #[P g] w (D5 w p g (.mk 3 b s nm true fx fi l0 l1 l2 l3)):=by
 have HP:=Lib.hid h
 have HX:=Lib.hid hX
 have HI:=Lib.hid hI
 clear h hX hI
 have c0:World.cell? w ⟨g,0,none⟩=some (.int .i64 3):=HP.out.blk.cell 0
 have c4:World.cell? w ⟨g,4,none⟩=some (.bool true):=HP.out.blk.cell 4
 have c5:World.cell? w ⟨g,5,none⟩=some (x0):=HP.out.blk.cell 5
 have c6:World.cell? w ⟨g,6,none⟩=some (x1):=HP.out.blk.cell 6
 have c7:World.cell? w ⟨g,7,none⟩=some (x2):=HP.out.blk.cell 7
 have c8:World.cell? w ⟨g,8,none⟩=some (x3):=HP.out.blk.cell 8
 have c9:World.cell? w ⟨g,9,none⟩=some (x4):=HP.out.blk.cell 9
 have c10:World.cell? w ⟨g,10,none⟩=some (x5):=HP.out.blk.cell 10
 have gl:=HP.out.blk.lt
 go_enter Try.func42,Try.ntmps42
 go_upto_region 11 with(first|(go_at_call 20;refine(HX.out _ [x0,x1,x2,x3,x4,x5] HP.out.x).mono ?_;intro e EI hx;obtain⟨y0,y1,y2,y3,y4,y5,rfl,hx1,hb1⟩:=hx.six (N:=w.heap.size) HP.out.bC.size;have iE:=Lib.hid (HP.out.keep hb1);have oL:=Lib.hid hx1;clear hx hx1 hb1)|(refine aT rfl 62 _ _ rfl g 5 [y0,y1,y2,y3,y4,y5] rfl rfl 102 _ #[.int .i64 3, .int .i64 b, .bool s, .string nm, .bool true,y0,y1,y2,y3,y4,y5,i0,i1,i2,i3,i4,i5,v0,v1,v2,v3] iE.out.blk (by kernel_rfl) (show 5+6≤21 by decide) (dA.ones oL.out) rfl ?_))
 have gY:=Lib.hid (iE.out.rM oL.out)
 generalize hw1:World.setRow EI g _=w1 at gY⊢
 clear c0 c4 c5 c6 c7 c8 c9 c10 gl
 clear hw1
 have c0:World.cell? w1 ⟨g,0,none⟩=some (.int .i64 3):=gY.out.blk.cell 0
 have c4:World.cell? w1 ⟨g,4,none⟩=some (.bool true):=gY.out.blk.cell 4
 have c11:World.cell? w1 ⟨g,11,none⟩=some (i0):=gY.out.blk.cell 11
 have c12:World.cell? w1 ⟨g,12,none⟩=some (i1):=gY.out.blk.cell 12
 have c13:World.cell? w1 ⟨g,13,none⟩=some (i2):=gY.out.blk.cell 13
 have c14:World.cell? w1 ⟨g,14,none⟩=some (i3):=gY.out.blk.cell 14
 have c15:World.cell? w1 ⟨g,15,none⟩=some (i4):=gY.out.blk.cell 15
 have c16:World.cell? w1 ⟨g,16,none⟩=some (i5):=gY.out.blk.cell 16
 have gl:=gY.out.blk.lt
 go_upto_region 13 with(first|(go_at_call 20;refine(HI.out _ [i0,i1,i2,i3,i4,i5] gY.out.i).mono ?_;intro e w2a hx;obtain⟨j0,j1,j2,j3,j4,j5,rfl,hx1,hb1⟩:=hx.six (N:=w.heap.size) gY.out.bC.size;have HC2:=Lib.hid (gY.out.keep hb1);have Yl:=Lib.hid hx1;clear hx hx1 hb1)|(refine aT rfl 62 _ _ rfl g 11 [j0,j1,j2,j3,j4,j5] rfl rfl 102 _ #[.int .i64 3, .int .i64 b, .bool s, .string nm, .bool true,y0,y1,y2,y3,y4,y5,j0,j1,j2,j3,j4,j5,v0,v1,v2,v3] HC2.out.blk (by kernel_rfl) (show 11+6≤21 by decide) (dA.ones Yl.out) rfl ?_))
 have Tf:=Lib.hid (HC2.out.Xn Yl.out)
 generalize hw2:World.setRow w2a g _=w2 at Tf⊢
 clear c0 c4 c11 c12 c13 c14 c15 c16 gl
 clear hw2
 have c0:World.cell? w2 ⟨g,0,none⟩=some (.int .i64 3):=Tf.out.blk.cell 0
 have c4:World.cell? w2 ⟨g,4,none⟩=some (.bool true):=Tf.out.blk.cell 4
 have gl:=Tf.out.blk.lt
 go_wp2
 go_end0
 exact⟨rfl,_,_,_,_,_,_,_,_,_,_,_,_,_,_,_,_,Tf.out⟩
theorem LZ(w:World)(p:Nat→Prop)(g:Nat)(b:Int)(s:Bool)(nm:ByteArray)(x i:X)(l0 l1 l2 l3:List S)(x0 x1 x2 x3 x4 x5 i0 i1 i2 i3 i4 i5 v0 v1 v2 v3:Value)(h:dP w p g 3 b s nm false x i l0 l1 l2 l3 x0 x1 x2 x3 x4 x5 i0 i1 i2 i3 i4 i5 v0 v1 v2 v3 w)(fx:X)(hX:OY p w x fx):Calls Try.prog 42 #[P g] w (D5 w p g (.mk 3 b s nm false fx i l0 l1 l2 l3)):=by
 have HP:=Lib.hid h
 have HX:=Lib.hid hX
 clear h hX
 have c0:World.cell? w ⟨g,0,none⟩=some (.int .i64 3):=HP.out.blk.cell 0
 have c4:World.cell? w ⟨g,4,none⟩=some (.bool false):=HP.out.blk.cell 4
 have c5:World.cell? w ⟨g,5,none⟩=some (x0):=HP.out.blk.cell 5
 have c6:World.cell? w ⟨g,6,none⟩=some (x1):=HP.out.blk.cell 6
 have c7:World.cell? w ⟨g,7,none⟩=some (x2):=HP.out.blk.cell 7
 have c8:World.cell? w ⟨g,8,none⟩=some (x3):=HP.out.blk.cell 8
 have c9:World.cell? w ⟨g,9,none⟩=some (x4):=HP.out.blk.cell 9
 have c10:World.cell? w ⟨g,10,none⟩=some (x5):=HP.out.blk.cell 10
 have gl:=HP.out.blk.lt
 go_enter Try.func42,Try.ntmps42
 go_upto_region 11 with(first|(go_at_call 20;refine(HX.out _ [x0,x1,x2,x3,x4,x5] HP.out.x).mono ?_;intro e EI hx;obtain⟨y0,y1,y2,y3,y4,y5,rfl,hx1,hb1⟩:=hx.six (N:=w.heap.size) HP.out.bC.size;have iE:=Lib.hid (HP.out.keep hb1);have oL:=Lib.hid hx1;clear hx hx1 hb1)|(refine aT rfl 62 _ _ rfl g 5 [y0,y1,y2,y3,y4,y5] rfl rfl 102 _ #[.int .i64 3, .int .i64 b, .bool s, .string nm, .bool false,y0,y1,y2,y3,y4,y5,i0,i1,i2,i3,i4,i5,v0,v1,v2,v3] iE.out.blk (by kernel_rfl) (show 5+6≤21 by decide) (dA.ones oL.out) rfl ?_))
 have gY:=Lib.hid (iE.out.rM oL.out)
 generalize hw1:World.setRow EI g _=w1 at gY⊢
 clear c0 c4 c5 c6 c7 c8 c9 c10 gl
 clear hw1
 have c0:World.cell? w1 ⟨g,0,none⟩=some (.int .i64 3):=gY.out.blk.cell 0
 have c4:World.cell? w1 ⟨g,4,none⟩=some (.bool false):=gY.out.blk.cell 4
 have gl:=gY.out.blk.lt
 go_wp2
 go_end0
 exact⟨rfl,_,_,_,_,_,_,_,_,_,_,_,_,_,_,_,_,gY.out⟩
theorem Qh(w:World)(p:Nat→Prop)(g:Nat)(b:Int)(s:Bool)(nm:ByteArray)(has:Bool)(x i:X)(l0 l1 l2 l3:List S)(x0 x1 x2 x3 x4 x5 i0 i1 i2 i3 i4 i5 v0 v1 v2 v3:Value)(h:dP w p g 4 b s nm has x i l0 l1 l2 l3 x0 x1 x2 x3 x4 x5 i0 i1 i2 i3 i4 i5 v0 v1 v2 v3 w)(fx:X)(hX:OY p w x fx):Calls Try.prog 42 #[P g] w (D5 w p g (.mk 4 b s nm has fx i l0 l1 l2 l3)):=by
 have HP:=Lib.hid h
 have HX:=Lib.hid hX
 clear h hX
 have c0:World.cell? w ⟨g,0,none⟩=some (.int .i64 4):=HP.out.blk.cell 0
 have c4:World.cell? w ⟨g,4,none⟩=some (.bool has):=HP.out.blk.cell 4
 have c5:World.cell? w ⟨g,5,none⟩=some (x0):=HP.out.blk.cell 5
 have c6:World.cell? w ⟨g,6,none⟩=some (x1):=HP.out.blk.cell 6
 have c7:World.cell? w ⟨g,7,none⟩=some (x2):=HP.out.blk.cell 7
 have c8:World.cell? w ⟨g,8,none⟩=some (x3):=HP.out.blk.cell 8
 have c9:World.cell? w ⟨g,9,none⟩=some (x4):=HP.out.blk.cell 9
 have c10:World.cell? w ⟨g,10,none⟩=some (x5):=HP.out.blk.cell 10
 have gl:=HP.out.blk.lt
 go_enter Try.func42,Try.ntmps42
 go_upto_region 11 with(first|(go_at_call 20;refine(HX.out _ [x0,x1,x2,x3,x4,x5] HP.out.x).mono ?_;intro e EI hx;obtain⟨y0,y1,y2,y3,y4,y5,rfl,hx1,hb1⟩:=hx.six (N:=w.heap.size) HP.out.bC.size;have iE:=Lib.hid (HP.out.keep hb1);have oL:=Lib.hid hx1;clear hx hx1 hb1)|(refine aT rfl 62 _ _ rfl g 5 [y0,y1,y2,y3,y4,y5] rfl rfl 102 _ #[.int .i64 4, .int .i64 b, .bool s, .string nm, .bool has,y0,y1,y2,y3,y4,y5,i0,i1,i2,i3,i4,i5,v0,v1,v2,v3] iE.out.blk (by kernel_rfl) (show 5+6≤21 by decide) (dA.ones oL.out) rfl ?_))
 have gY:=Lib.hid (iE.out.rM oL.out)
 generalize hw1:World.setRow EI g _=w1 at gY⊢
 clear c0 c4 c5 c6 c7 c8 c9 c10 gl
 clear hw1
 have c0:World.cell? w1 ⟨g,0,none⟩=some (.int .i64 4):=gY.out.blk.cell 0
 have c4:World.cell? w1 ⟨g,4,none⟩=some (.bool has):=gY.out.blk.cell 4
 have gl:=gY.out.blk.lt
 go_wp2
 go_end0
 exact⟨rfl,_,_,_,_,_,_,_,_,_,_,_,_,_,_,_,_,gY.out⟩
theorem Qi(w:World)(p:Nat→Prop)(g:Nat)(b:Int)(s:Bool)(nm:ByteArray)(has:Bool)(x i:X)(l0 l1 l2 l3:List S)(x0 x1 x2 x3 x4 x5 i0 i1 i2 i3 i4 i5 v0 v1 v2 v3:Value)(h:dP w p g 5 b s nm has x i l0 l1 l2 l3 x0 x1 x2 x3 x4 x5 i0 i1 i2 i3 i4 i5 v0 v1 v2 v3 w)(fx:X)(hX:OY p w x fx)(h2:AA l2)(h3:AA l3):Calls Try.prog 42 #[P g] w (D5 w p g (.mk 5 b s nm has fx i l0 l1 (S.folds l2) (S.folds l3))):=by
 have HP:=Lib.hid h
 have HX:=Lib.hid hX
 have H2:=Lib.hid h2
 have H3:=Lib.hid h3
 clear h hX h2 h3
 have c0:World.cell? w ⟨g,0,none⟩=some (.int .i64 5):=HP.out.blk.cell 0
 have c4:World.cell? w ⟨g,4,none⟩=some (.bool has):=HP.out.blk.cell 4
 have c5:World.cell? w ⟨g,5,none⟩=some (x0):=HP.out.blk.cell 5
 have c6:World.cell? w ⟨g,6,none⟩=some (x1):=HP.out.blk.cell 6
 have c7:World.cell? w ⟨g,7,none⟩=some (x2):=HP.out.blk.cell 7
 have c8:World.cell? w ⟨g,8,none⟩=some (x3):=HP.out.blk.cell 8
 have c9:World.cell? w ⟨g,9,none⟩=some (x4):=HP.out.blk.cell 9
 have c10:World.cell? w ⟨g,10,none⟩=some (x5):=HP.out.blk.cell 10
 have gl:=HP.out.blk.lt
 go_enter Try.func42,Try.ntmps42
 go_upto_region 11 with(first|(go_at_call 20;refine(HX.out _ [x0,x1,x2,x3,x4,x5] HP.out.x).mono ?_;intro e EI hx;obtain⟨y0,y1,y2,y3,y4,y5,rfl,hx1,hb1⟩:=hx.six (N:=w.heap.size) HP.out.bC.size;have iE:=Lib.hid (HP.out.keep hb1);have oL:=Lib.hid hx1;clear hx hx1 hb1)|(refine aT rfl 62 _ _ rfl g 5 [y0,y1,y2,y3,y4,y5] rfl rfl 102 _ #[.int .i64 5, .int .i64 b, .bool s, .string nm, .bool has,y0,y1,y2,y3,y4,y5,i0,i1,i2,i3,i4,i5,v0,v1,v2,v3] iE.out.blk (by kernel_rfl) (show 5+6≤21 by decide) (dA.ones oL.out) rfl ?_))
 have gY:=Lib.hid (iE.out.rM oL.out)
 generalize hw1:World.setRow EI g _=w1 at gY⊢
 clear c0 c4 c5 c6 c7 c8 c9 c10 gl
 clear hw1
 have c0:World.cell? w1 ⟨g,0,none⟩=some (.int .i64 5):=gY.out.blk.cell 0
 have c4:World.cell? w1 ⟨g,4,none⟩=some (.bool has):=gY.out.blk.cell 4
 have c19:World.cell? w1 ⟨g,19,none⟩=some (v2):=gY.out.blk.cell 19
 have c20:World.cell? w1 ⟨g,20,none⟩=some (v3):=gY.out.blk.cell 20
 have gl:=gY.out.blk.lt
 have HZ:Hid (w.heap.size≤w1.heap.size):=gY.out.bC.size
 go_upto_region 20 with(fail)
 go_wp2_with(first|(go_at_call 21;refine(H2.out _ (Qp p w) v2 gY.out.l2).mono ?_;intro e we hx;obtain⟨a2,k2,rfl,hl2,hb2⟩:=hx.later HZ.out;have sZ:=Lib.hid (gY.out.keep hb2);have HL2:=Lib.hid hl2;have HB2:=Lib.hid hb2;clear hx hl2 hb2;have d0:World.cell? we ⟨g,0,none⟩=some (.int .i64 5):=sZ.out.blk.cell 0;have XB:World.cell? we ⟨g,20,none⟩=some v3:=sZ.out.blk.cell 20;have dl:=sZ.out.blk.lt)|(go_at_call 58;refine(JA _ (Qp p w) g l3 v3 H3.out d0 XB dl sZ.out.l3).mono ?_;intro e wf hx;obtain⟨a3,k3,rfl,hl3,hb3⟩:=hx.later (Nat.le_trans HZ.out HB2.out.size);have HE2:=Lib.hid (sZ.out.keep hb3);have LC:=Lib.hid (HL2.out.keep hb3);have P5:=Lib.hid hl3;clear hx hl3 hb3;have f0:=HE2.out.blk.cell 19;have f1:=HE2.out.blk.cell 20;have f2:=HE2.out.blk.frozen 19;have f3:=HE2.out.blk.frozen 20;have f4:=HE2.out.blk.lt))
 have HF:=Lib.hid (HE2.out.AB LC.out P5.out)
 generalize hwz:World.setCell _ _ _=wz at HF⊢
 clear hwz
 go_end0
 exact⟨rfl,_,_,_,_,_,_,_,_,_,_,_,_,_,_,_,_,HF.out⟩
theorem Qj(w:World)(p:Nat→Prop)(g:Nat)(b:Int)(s:Bool)(nm:ByteArray)(has:Bool)(x i:X)(l0 l1 l2 l3:List S)(x0 x1 x2 x3 x4 x5 i0 i1 i2 i3 i4 i5 v0 v1 v2 v3:Value)(h:dP w p g 6 b s nm has x i l0 l1 l2 l3 x0 x1 x2 x3 x4 x5 i0 i1 i2 i3 i4 i5 v0 v1 v2 v3 w)(fx:X)(hX:OY p w x fx)(h2:AA l2):Calls Try.prog 42 #[P g] w (D5 w p g (.mk 6 b s nm has fx i l0 l1 (S.folds l2) [])):=by
 have HP:=Lib.hid h
 have HX:=Lib.hid hX
 have H2:=Lib.hid h2
 clear h hX h2
 have c0:World.cell? w ⟨g,0,none⟩=some (.int .i64 6):=HP.out.blk.cell 0
 have c4:World.cell? w ⟨g,4,none⟩=some (.bool has):=HP.out.blk.cell 4
 have c5:World.cell? w ⟨g,5,none⟩=some (x0):=HP.out.blk.cell 5
 have c6:World.cell? w ⟨g,6,none⟩=some (x1):=HP.out.blk.cell 6
 have c7:World.cell? w ⟨g,7,none⟩=some (x2):=HP.out.blk.cell 7
 have c8:World.cell? w ⟨g,8,none⟩=some (x3):=HP.out.blk.cell 8
 have c9:World.cell? w ⟨g,9,none⟩=some (x4):=HP.out.blk.cell 9
 have c10:World.cell? w ⟨g,10,none⟩=some (x5):=HP.out.blk.cell 10
 have gl:=HP.out.blk.lt
 go_enter Try.func42,Try.ntmps42
 go_upto_region 11 with(first|(go_at_call 20;refine(HX.out _ [x0,x1,x2,x3,x4,x5] HP.out.x).mono ?_;intro e EI hx;obtain⟨y0,y1,y2,y3,y4,y5,rfl,hx1,hb1⟩:=hx.six (N:=w.heap.size) HP.out.bC.size;have iE:=Lib.hid (HP.out.keep hb1);have oL:=Lib.hid hx1;clear hx hx1 hb1)|(refine aT rfl 62 _ _ rfl g 5 [y0,y1,y2,y3,y4,y5] rfl rfl 102 _ #[.int .i64 6, .int .i64 b, .bool s, .string nm, .bool has,y0,y1,y2,y3,y4,y5,i0,i1,i2,i3,i4,i5,v0,v1,v2,v3] iE.out.blk (by kernel_rfl) (show 5+6≤21 by decide) (dA.ones oL.out) rfl ?_))
 have gY:=Lib.hid (iE.out.rM oL.out)
 generalize hw1:World.setRow EI g _=w1 at gY⊢
 clear c0 c4 c5 c6 c7 c8 c9 c10 gl
 clear hw1
 have c0:World.cell? w1 ⟨g,0,none⟩=some (.int .i64 6):=gY.out.blk.cell 0
 have c4:World.cell? w1 ⟨g,4,none⟩=some (.bool has):=gY.out.blk.cell 4
 have c19:World.cell? w1 ⟨g,19,none⟩=some (v2):=gY.out.blk.cell 19
 have c20:World.cell? w1 ⟨g,20,none⟩=some (v3):=gY.out.blk.cell 20
 have gl:=gY.out.blk.lt
 have HZ:Hid (w.heap.size≤w1.heap.size):=gY.out.bC.size
 go_upto_region 20 with(fail)
 go_wp2_with(first|(go_at_call 21;refine(H2.out _ (Qp p w) v2 gY.out.l2).mono ?_;intro e we hx;obtain⟨a2,k2,rfl,hl2,hb2⟩:=hx.later HZ.out;have sZ:=Lib.hid (gY.out.keep hb2);have HL2:=Lib.hid hl2;have HB2:=Lib.hid hb2;clear hx hl2 hb2;have d0:World.cell? we ⟨g,0,none⟩=some (.int .i64 6):=sZ.out.blk.cell 0;have XB:World.cell? we ⟨g,20,none⟩=some v3:=sZ.out.blk.cell 20;have dl:=sZ.out.blk.lt)|(go_at_call 58;refine(qg _ (Qp p w) g 6 (by decide) d0 dl).mono ?_;intro e wf hx;obtain⟨a3,k3,rfl,hl3,hb3⟩:=hx.later (Nat.le_trans HZ.out HB2.out.size);have HE2:=Lib.hid (sZ.out.keep hb3);have LC:=Lib.hid (HL2.out.keep hb3);have P5:=Lib.hid hl3;clear hx hl3 hb3;have f0:=HE2.out.blk.cell 19;have f1:=HE2.out.blk.cell 20;have f2:=HE2.out.blk.frozen 19;have f3:=HE2.out.blk.frozen 20;have f4:=HE2.out.blk.lt))
 have HF:=Lib.hid (HE2.out.AB LC.out P5.out)
 generalize hwz:World.setCell _ _ _=wz at HF⊢
 clear hwz
 go_end0
 exact⟨rfl,_,_,_,_,_,_,_,_,_,_,_,_,_,_,_,_,HF.out⟩
theorem Qk(w:World)(p:Nat→Prop)(g:Nat)(b:Int)(s:Bool)(nm:ByteArray)(x i:X)(l0 l1 l2 l3:List S)(x0 x1 x2 x3 x4 x5 i0 i1 i2 i3 i4 i5 v0 v1 v2 v3:Value)(h:dP w p g 7 b s nm true x i l0 l1 l2 l3 x0 x1 x2 x3 x4 x5 i0 i1 i2 i3 i4 i5 v0 v1 v2 v3 w)(fx:X)(hX:OY p w x fx)(h0:AA l0)(h1:AA l1)(h2:AA l2):Calls Try.prog 42 #[P g] w (D5 w p g (.mk 7 b s nm true fx i (S.folds l0) (S.folds l1) (S.folds l2) [])):=by
 obtain⟨a0,n0,e0,_⟩:=h.l0.parts
 obtain⟨a1,n1,e1,_⟩:=h.l1.parts
 subst e0 e1
 have HP:=Lib.hid h
 have HX:=Lib.hid hX
 have H0:=Lib.hid h0;have H1:=Lib.hid h1
 have H2:=Lib.hid h2
 clear h hX h0 h1 h2
 have c0:World.cell? w ⟨g,0,none⟩=some (.int .i64 7):=HP.out.blk.cell 0
 have c4:World.cell? w ⟨g,4,none⟩=some (.bool true):=HP.out.blk.cell 4
 have c5:World.cell? w ⟨g,5,none⟩=some (x0):=HP.out.blk.cell 5
 have c6:World.cell? w ⟨g,6,none⟩=some (x1):=HP.out.blk.cell 6
 have c7:World.cell? w ⟨g,7,none⟩=some (x2):=HP.out.blk.cell 7
 have c8:World.cell? w ⟨g,8,none⟩=some (x3):=HP.out.blk.cell 8
 have c9:World.cell? w ⟨g,9,none⟩=some (x4):=HP.out.blk.cell 9
 have c10:World.cell? w ⟨g,10,none⟩=some (x5):=HP.out.blk.cell 10
 have gl:=HP.out.blk.lt
 go_enter Try.func42,Try.ntmps42
 go_upto_region 11 with(first|(go_at_call 20;refine(HX.out _ [x0,x1,x2,x3,x4,x5] HP.out.x).mono ?_;intro e EI hx;obtain⟨y0,y1,y2,y3,y4,y5,rfl,hx1,hb1⟩:=hx.six (N:=w.heap.size) HP.out.bC.size;have iE:=Lib.hid (HP.out.keep hb1);have oL:=Lib.hid hx1;clear hx hx1 hb1)|(refine aT rfl 62 _ _ rfl g 5 [y0,y1,y2,y3,y4,y5] rfl rfl 102 _ #[.int .i64 7, .int .i64 b, .bool s, .string nm, .bool true,y0,y1,y2,y3,y4,y5,i0,i1,i2,i3,i4,i5,(.slice a0 l0.length n0),(.slice a1 l1.length n1),v2,v3] iE.out.blk (by kernel_rfl) (show 5+6≤21 by decide) (dA.ones oL.out) rfl ?_))
 have gY:=Lib.hid (iE.out.rM oL.out)
 generalize hw1:World.setRow EI g _=w1 at gY⊢
 clear c0 c4 c5 c6 c7 c8 c9 c10 gl
 clear hw1
 have c0:World.cell? w1 ⟨g,0,none⟩=some (.int .i64 7):=gY.out.blk.cell 0
 have c4:World.cell? w1 ⟨g,4,none⟩=some (.bool true):=gY.out.blk.cell 4
 have gl:=gY.out.blk.lt
 go_upto_region 14 with(fail)
 clear c0 c4 gl
 have HW0:Hid (w.heap.size≤w1.heap.size):=gY.out.bC.size
 apply lD.wp_region 18 [14,17] (fun n=>match n with|0=>[]|_=>[5,6,10,11]) (Ix.Rb) (fun m vs wi=>match m with|0=>Hid (w1.heap.size≤wi.heap.size∧dP w p g 7 b s nm true fx i l0 l1 l2 l3 y0 y1 y2 y3 y4 y5 i0 i1 i2 i3 i4 i5 (.slice a0 l0.length n0) (.slice a1 l1.length n1) v2 v3 wi)|1=>Hid (w1.heap.size≤wi.heap.size∧∃a c,dP w p g 7 b s nm true fx i (S.folds l0) l1 l2 l3 y0 y1 y2 y3 y4 y5 i0 i1 i2 i3 i4 i5 (.slice a (S.folds l0).length c) (.slice a1 l1.length n1) v2 v3 wi)|_=>Hid (w1.heap.size≤wi.heap.size∧∃a c a2 c2,dP w p g 7 b s nm true fx i (S.folds l0) (S.folds l1) l2 l3 y0 y1 y2 y3 y4 y5 i0 i1 i2 i3 i4 i5 (.slice a (S.folds l0).length c) (.slice a2 (S.folds l1).length c2) v2 v3 wi)) (Ix.vk [(Ix.aA _),(Ix.aA _),(Ix.aA _),(Ix.aA _),(Ix.aA _),(Ix.aA _),(Ix.dU (fun v w'=>yO (Qp p w) (S.folds l0) v w') (fun v w1 w2 h hb=>h.keep hb)),(Ix.aA _),(Ix.aA _),(Ix.aA _),(Ix.aA _),(Ix.dU (fun v w'=>yO (Qp p w) (S.folds l1) v w') (fun v w1 w2 h hb=>h.keep hb)),(Ix.aA _),(Ix.aA _),(Ix.mY (fun _=>True)),(Ix.aA _),(Ix.aA _),(Ix.mY (fun _=>True))]) (fun _=>false) (by kernel_rfl) (by kernel_rfl) (by kernel_rfl) (by kernel_rfl) (by kernel_rfl) (fun n vs vs2 wi _ h=>by match n,h with|0,h=>exact h|1,h=>exact h|n+2,h=>exact h) (fun _=>Below.refl _ _) (fun n vs wi wj h hb=>by match n,h with|0,h=>exact⟨Nat.le_trans h.out.1 hb.size,h.out.2.keep hb⟩|1,h=>(obtain⟨h1,a,c,h2⟩:=h.out;exact⟨Nat.le_trans h1 hb.size,a,c,h2.keep hb⟩)|n+2,h=>(obtain⟨h1,a,c,a2,c2,h2⟩:=h.out;exact⟨Nat.le_trans h1 hb.size,a,c,a2,c2,h2.keep hb⟩)) (Ix.aN _) (Ix.bP _) (fun vs=>⟨Nat.le_refl _,gY.out.keep (Below.refl _ _).drew⟩)
 case step=>
  refine lD.N 17 0 1 [] (fun jV ji wi HI HB=>?_)<|lD.N 16 1 2 [] (fun jV ji wi HI HB=>?_)<|lD.N 15 2 3 [] (fun jV ji wi HI HB=>?_)<|lD.N 14 3 4 [(2,some 61)] (fun jV ji wi HI HB=>?_)<|lD.N 13 4 5 [(3,some 62)] (fun jV ji wi HI HB=>?_)<|lD.N 12 5 6 [(4,some 63)] (fun jV ji wi HI HB=>?_)<|lD.N 11 6 7 [(5,some 64)] (fun jV ji wi HI HB=>?_)<|lD.N 10 7 8 [] (fun jV ji wi HI HB=>?_)<|lD.N 9 8 9 [(7,some 66)] (fun jV ji wi HI HB=>?_)<|lD.N 8 9 10 [(8,some 67)] (fun jV ji wi HI HB=>?_)<|lD.N 7 10 11 [(9,some 68)] (fun jV ji wi HI HB=>?_)<|lD.N 6 11 12 [(10,some 69)] (fun jV ji wi HI HB=>?_)<|lD.N 5 12 13 [(0,some 59)] (fun jV ji wi HI HB=>?_)<|lD.N 4 13 14 [(12,some 71)] (fun jV ji wi HI HB=>?_)<|lD.C 3 14 15 0 [(6,some 65),(13,some 72)] (fun ji wi HB=>?_)<|lD.N 2 15 16 [(1,some 60)] (fun jV ji wi HI HB=>?_)<|lD.N 1 16 17 [(15,some 73)] (fun jV ji wi HI HB=>?_)<|lD.C 0 17 18 1 [(11,some 70),(16,some 74)] (fun ji wi HB=>?_)<|lD.aC
  iterate 5(·((repeat(refine aB ?_;rintro _ rfl));refine aF ?_;(try simp only [aj]);refine Iy.ah rfl rfl fun K hK=>?_;(try simp only [aj]at hK);go_wp2_with(first|fail);exact hK _ _ (Below.refl _ _) rfl))
  (·((repeat(refine aB ?_;rintro _ rfl));refine aF ?_;obtain rfl:jV=0:=(by cases jV with|zero=>rfl|succ n=>exact absurd (by show _∈[5,6,10,11];decide) HI);have d17:=HB.out.2.blk.cell 17;have dl:=HB.out.2.blk.lt;(try simp only [aj]);refine Iy.ah rfl rfl fun K hK=>?_;(try simp only [aj]at hK);go_wp2_with(first|fail);exact hK _ _ (Below.refl _ _) rfl))
  (·((repeat(refine aB ?_;rintro _ rfl));refine aF ?_;obtain rfl:jV=0:=(by cases jV with|zero=>rfl|succ n=>exact absurd (by show _∈[5,6,10,11];decide) HI);(try simp only [aj]);refine Iy.ah rfl rfl fun K hK=>?_;(try simp only [aj]at hK);go_wp2_with(first|(go_at_call 21;refine(H0.out _ (Qp p w) (.slice a0 l0.length n0) HB.out.2.l0).mono ?_;intro e wa hx;obtain⟨a6,c6,rfl,hia,hba⟩:=hx.later (Nat.le_trans HW0.out HB.out.1)));exact hK _ _ hba ⟨_,_,rfl,hia⟩))
  iterate 3(·((repeat(refine aB ?_;rintro _ rfl));refine aF ?_;(try simp only [aj]);refine Iy.ah rfl rfl fun K hK=>?_;(try simp only [aj]at hK);go_wp2_with(first|fail);exact hK _ _ (Below.refl _ _) rfl))
  (·((repeat(refine aB ?_;rintro _ rfl));refine aF ?_;obtain rfl:jV=0:=(by cases jV with|zero=>rfl|succ n=>exact absurd (by show _∈[5,6,10,11];decide) HI);have d18:=HB.out.2.blk.cell 18;have dl:=HB.out.2.blk.lt;(try simp only [aj]);refine Iy.ah rfl rfl fun K hK=>?_;(try simp only [aj]at hK);go_wp2_with(first|fail);exact hK _ _ (Below.refl _ _) rfl))
  (·((repeat(refine aB ?_;rintro _ rfl));refine aF ?_;obtain rfl:jV=0:=(by cases jV with|zero=>rfl|succ n=>exact absurd (by show _∈[5,6,10,11];decide) HI);(try simp only [aj]);refine Iy.ah rfl rfl fun K hK=>?_;(try simp only [aj]at hK);go_wp2_with(first|(go_at_call 21;refine(H1.out _ (Qp p w) (.slice a1 l1.length n1) HB.out.2.l1).mono ?_;intro e wa hx;obtain⟨a11,c11,rfl,hia,hba⟩:=hx.later (Nat.le_trans HW0.out HB.out.1)));exact hK _ _ hba ⟨_,_,rfl,hia⟩))
  iterate 2(·((repeat(refine aB ?_;rintro _ rfl));refine aF ?_;(try simp only [aj]);refine Iy.ah rfl rfl fun K hK=>?_;(try simp only [aj]at hK);go_wp2_with(first|fail);exact hK _ _ (Below.refl _ _) rfl))
  (·(refine aB ?_;rintro _⟨h6,ev6⟩;refine aB ?_;rintro _⟨rfl,uV⟩;refine aF ?_;obtain⟨a6,c6,rfl,hs6⟩:=h6;have d17:=HB.out.2.blk.cell 17;have f17:=HB.out.2.blk.frozen 17;have dl:=HB.out.2.blk.lt;(try simp only [aj]);refine Iy.ah rfl rfl fun K hK=>?_;(try simp only [aj]at hK);go_wp2_with(first|fail);exact hK undef _ ⟨⟨(by simpa using HB.out.1),_,_,HB.out.2.set0 hs6⟩,(Iy.dG (by repeat(first|exact True.intro|refine And.intro (fun _ h=>h) ?_|refine And.intro (fun hne=>absurd rfl hne) ?_|refine And.intro (fun _ h=>yO.turn HB.out.2 17 _ h) ?_)))⟩ trivial))
  iterate 2(·((repeat(refine aB ?_;rintro _ rfl));refine aF ?_;(try simp only [aj]);refine Iy.ah rfl rfl fun K hK=>?_;(try simp only [aj]at hK);go_wp2_with(first|fail);exact hK _ _ (Below.refl _ _) rfl))
  (·(refine aB ?_;rintro _⟨h11,DK⟩;refine aB ?_;rintro _⟨rfl,aaI⟩;refine aF ?_;obtain⟨a11,c11,rfl,hs11⟩:=h11;obtain⟨hsz,a6,c6,hps⟩:=HB.out;have d18:=hps.blk.cell 18;have f18:=hps.blk.frozen 18;have dl:=hps.blk.lt;(try simp only [aj]);refine Iy.ah rfl rfl fun K hK=>?_;(try simp only [aj]at hK);go_wp2_with(first|fail);exact hK undef _ ⟨⟨(by simpa using hsz),_,_,_,_,hps.set1 hs11⟩,(Iy.dG (by repeat(first|exact True.intro|refine And.intro (fun _ h=>h) ?_|refine And.intro (fun hne=>absurd rfl hne) ?_|refine And.intro (fun _ h=>yO.turn hps 18 _ h) ?_)))⟩ trivial))
 intro lM wf HF hdf
 refine au 17 0 1 ?_;rintro _ _ rfl;refine au 16 1 2 ?_;rintro _ _ rfl;refine au 15 2 3 ?_;rintro _ _ rfl;refine au 14 3 4 ?_;rintro _ _ rfl;refine au 13 4 5 ?_;rintro _ _ rfl;refine au 12 5 6 ?_;rintro _ _ rfl;refine au 11 6 7 ?_;rintro _ _ h6;refine au 10 7 8 ?_;rintro _ _ rfl;refine au 9 8 9 ?_;rintro _ _ rfl;refine au 8 9 10 ?_;rintro _ _ rfl;refine au 7 10 11 ?_;rintro _ _ rfl;refine au 6 11 12 ?_;rintro _ _ h11;refine au 5 12 13 ?_;rintro _ _ rfl;refine au 4 13 14 ?_;rintro _ _ rfl;refine au 3 14 15 ?_;rintro _ _ _;refine au 2 15 16 ?_;rintro _ _ rfl;refine au 1 16 17 ?_;rintro _ _ rfl;refine au 0 17 18 ?_;rintro _ _ _
 refine Ix.aI ?_
 obtain⟨_,a6,c6,a11,c11,hps⟩:=HF.out;have HM:=Lib.hid hps;clear hps
 (try simp only [Act.put,List.setIfInBounds_toArray,List.set_cons_zero,List.set_cons_succ,List.drop_succ_cons,List.drop_zero])
 refine Ix.nil ?_
 clear h6 h11 hdf HF
 have c0:World.cell? wf ⟨g,0,none⟩=some (.int .i64 7):=HM.out.blk.cell 0
 have c4:World.cell? wf ⟨g,4,none⟩=some (.bool true):=HM.out.blk.cell 4
 have c19:World.cell? wf ⟨g,19,none⟩=some (v2):=HM.out.blk.cell 19
 have c20:World.cell? wf ⟨g,20,none⟩=some (v3):=HM.out.blk.cell 20
 have gl:=HM.out.blk.lt
 have HZ:Hid (w.heap.size≤wf.heap.size):=HM.out.bC.size
 go_upto_region 20 with(fail)
 go_wp2_with(first|(go_at_call 21;refine(H2.out _ (Qp p w) v2 HM.out.l2).mono ?_;intro e we hx;obtain⟨a2,k2,rfl,hl2,hb2⟩:=hx.later HZ.out;have sZ:=Lib.hid (HM.out.keep hb2);have HL2:=Lib.hid hl2;have HB2:=Lib.hid hb2;clear hx hl2 hb2;have d0:World.cell? we ⟨g,0,none⟩=some (.int .i64 7):=sZ.out.blk.cell 0;have XB:World.cell? we ⟨g,20,none⟩=some v3:=sZ.out.blk.cell 20;have dl:=sZ.out.blk.lt)|(go_at_call 58;refine(qg _ (Qp p w) g 7 (by decide) d0 dl).mono ?_;intro e wf hx;obtain⟨a3,k3,rfl,hl3,hb3⟩:=hx.later (Nat.le_trans HZ.out HB2.out.size);have HE2:=Lib.hid (sZ.out.keep hb3);have LC:=Lib.hid (HL2.out.keep hb3);have P5:=Lib.hid hl3;clear hx hl3 hb3;have f0:=HE2.out.blk.cell 19;have f1:=HE2.out.blk.cell 20;have f2:=HE2.out.blk.frozen 19;have f3:=HE2.out.blk.frozen 20;have f4:=HE2.out.blk.lt))
 have HF:=Lib.hid (HE2.out.AB LC.out P5.out)
 generalize hwz:World.setCell _ _ _=wz at HF⊢
 clear hwz
 go_end0
 exact⟨rfl,_,_,_,_,_,_,_,_,_,_,_,_,_,_,_,_,HF.out⟩
theorem Lu(w:World)(p:Nat→Prop)(g:Nat)(b:Int)(s:Bool)(nm:ByteArray)(x i:X)(l0 l1 l2 l3:List S)(x0 x1 x2 x3 x4 x5 i0 i1 i2 i3 i4 i5 v0 v1 v2 v3:Value)(h:dP w p g 7 b s nm false x i l0 l1 l2 l3 x0 x1 x2 x3 x4 x5 i0 i1 i2 i3 i4 i5 v0 v1 v2 v3 w)(h0:AA l0)(h1:AA l1)(h2:AA l2):Calls Try.prog 42 #[P g] w (D5 w p g (.mk 7 b s nm false x i (S.folds l0) (S.folds l1) (S.folds l2) [])):=by
 obtain⟨a0,n0,e0,_⟩:=h.l0.parts
 obtain⟨a1,n1,e1,_⟩:=h.l1.parts
 subst e0 e1
 have HP:=Lib.hid h
 have H0:=Lib.hid h0;have H1:=Lib.hid h1
 have H2:=Lib.hid h2
 clear h h0 h1 h2
 have c0:World.cell? w ⟨g,0,none⟩=some (.int .i64 7):=HP.out.blk.cell 0
 have c4:World.cell? w ⟨g,4,none⟩=some (.bool false):=HP.out.blk.cell 4
 have gl:=HP.out.blk.lt
 go_enter Try.func42,Try.ntmps42
 go_upto_region 14 with(fail)
 clear c0 c4 gl
 have HW0:Hid (w.heap.size≤w.heap.size):=HP.out.bC.size
 apply lD.wp_region 18 [14,17] (fun n=>match n with|0=>[]|_=>[5,6,10,11]) (Ix.Rb) (fun m vs wi=>match m with|0=>Hid (w.heap.size≤wi.heap.size∧dP w p g 7 b s nm false x i l0 l1 l2 l3 x0 x1 x2 x3 x4 x5 i0 i1 i2 i3 i4 i5 (.slice a0 l0.length n0) (.slice a1 l1.length n1) v2 v3 wi)|1=>Hid (w.heap.size≤wi.heap.size∧∃a c,dP w p g 7 b s nm false x i (S.folds l0) l1 l2 l3 x0 x1 x2 x3 x4 x5 i0 i1 i2 i3 i4 i5 (.slice a (S.folds l0).length c) (.slice a1 l1.length n1) v2 v3 wi)|_=>Hid (w.heap.size≤wi.heap.size∧∃a c a2 c2,dP w p g 7 b s nm false x i (S.folds l0) (S.folds l1) l2 l3 x0 x1 x2 x3 x4 x5 i0 i1 i2 i3 i4 i5 (.slice a (S.folds l0).length c) (.slice a2 (S.folds l1).length c2) v2 v3 wi)) (Ix.vk [(Ix.aA _),(Ix.aA _),(Ix.aA _),(Ix.aA _),(Ix.aA _),(Ix.aA _),(Ix.dU (fun v w'=>yO (Qp p w) (S.folds l0) v w') (fun v w1 w2 h hb=>h.keep hb)),(Ix.aA _),(Ix.aA _),(Ix.aA _),(Ix.aA _),(Ix.dU (fun v w'=>yO (Qp p w) (S.folds l1) v w') (fun v w1 w2 h hb=>h.keep hb)),(Ix.aA _),(Ix.aA _),(Ix.mY (fun _=>True)),(Ix.aA _),(Ix.aA _),(Ix.mY (fun _=>True))]) (fun _=>false) (by kernel_rfl) (by kernel_rfl) (by kernel_rfl) (by kernel_rfl) (by kernel_rfl) (fun n vs vs2 wi _ h=>by match n,h with|0,h=>exact h|1,h=>exact h|n+2,h=>exact h) (fun _=>Below.refl _ _) (fun n vs wi wj h hb=>by match n,h with|0,h=>exact⟨Nat.le_trans h.out.1 hb.size,h.out.2.keep hb⟩|1,h=>(obtain⟨h1,a,c,h2⟩:=h.out;exact⟨Nat.le_trans h1 hb.size,a,c,h2.keep hb⟩)|n+2,h=>(obtain⟨h1,a,c,a2,c2,h2⟩:=h.out;exact⟨Nat.le_trans h1 hb.size,a,c,a2,c2,h2.keep hb⟩)) (Ix.aN _) (Ix.bP _) (fun vs=>⟨Nat.le_refl _,HP.out.keep (Below.refl _ _).drew⟩)
 case step=>
  refine lD.N 17 0 1 [] (fun jV ji wi HI HB=>?_)<|lD.N 16 1 2 [] (fun jV ji wi HI HB=>?_)<|lD.N 15 2 3 [] (fun jV ji wi HI HB=>?_)<|lD.N 14 3 4 [(2,some 61)] (fun jV ji wi HI HB=>?_)<|lD.N 13 4 5 [(3,some 62)] (fun jV ji wi HI HB=>?_)<|lD.N 12 5 6 [(4,some 63)] (fun jV ji wi HI HB=>?_)<|lD.N 11 6 7 [(5,some 64)] (fun jV ji wi HI HB=>?_)<|lD.N 10 7 8 [] (fun jV ji wi HI HB=>?_)<|lD.N 9 8 9 [(7,some 66)] (fun jV ji wi HI HB=>?_)<|lD.N 8 9 10 [(8,some 67)] (fun jV ji wi HI HB=>?_)<|lD.N 7 10 11 [(9,some 68)] (fun jV ji wi HI HB=>?_)<|lD.N 6 11 12 [(10,some 69)] (fun jV ji wi HI HB=>?_)<|lD.N 5 12 13 [(0,some 59)] (fun jV ji wi HI HB=>?_)<|lD.N 4 13 14 [(12,some 71)] (fun jV ji wi HI HB=>?_)<|lD.C 3 14 15 0 [(6,some 65),(13,some 72)] (fun ji wi HB=>?_)<|lD.N 2 15 16 [(1,some 60)] (fun jV ji wi HI HB=>?_)<|lD.N 1 16 17 [(15,some 73)] (fun jV ji wi HI HB=>?_)<|lD.C 0 17 18 1 [(11,some 70),(16,some 74)] (fun ji wi HB=>?_)<|lD.aC
  iterate 5(·((repeat(refine aB ?_;rintro _ rfl));refine aF ?_;(try simp only [aj]);refine Iy.ah rfl rfl fun K hK=>?_;(try simp only [aj]at hK);go_wp2_with(first|fail);exact hK _ _ (Below.refl _ _) rfl))
  (·((repeat(refine aB ?_;rintro _ rfl));refine aF ?_;obtain rfl:jV=0:=(by cases jV with|zero=>rfl|succ n=>exact absurd (by show _∈[5,6,10,11];decide) HI);have d17:=HB.out.2.blk.cell 17;have dl:=HB.out.2.blk.lt;(try simp only [aj]);refine Iy.ah rfl rfl fun K hK=>?_;(try simp only [aj]at hK);go_wp2_with(first|fail);exact hK _ _ (Below.refl _ _) rfl))
  (·((repeat(refine aB ?_;rintro _ rfl));refine aF ?_;obtain rfl:jV=0:=(by cases jV with|zero=>rfl|succ n=>exact absurd (by show _∈[5,6,10,11];decide) HI);(try simp only [aj]);refine Iy.ah rfl rfl fun K hK=>?_;(try simp only [aj]at hK);go_wp2_with(first|(go_at_call 21;refine(H0.out _ (Qp p w) (.slice a0 l0.length n0) HB.out.2.l0).mono ?_;intro e wa hx;obtain⟨a6,c6,rfl,hia,hba⟩:=hx.later (Nat.le_trans HW0.out HB.out.1)));exact hK _ _ hba ⟨_,_,rfl,hia⟩))
  iterate 3(·((repeat(refine aB ?_;rintro _ rfl));refine aF ?_;(try simp only [aj]);refine Iy.ah rfl rfl fun K hK=>?_;(try simp only [aj]at hK);go_wp2_with(first|fail);exact hK _ _ (Below.refl _ _) rfl))
  (·((repeat(refine aB ?_;rintro _ rfl));refine aF ?_;obtain rfl:jV=0:=(by cases jV with|zero=>rfl|succ n=>exact absurd (by show _∈[5,6,10,11];decide) HI);have d18:=HB.out.2.blk.cell 18;have dl:=HB.out.2.blk.lt;(try simp only [aj]);refine Iy.ah rfl rfl fun K hK=>?_;(try simp only [aj]at hK);go_wp2_with(first|fail);exact hK _ _ (Below.refl _ _) rfl))
  (·((repeat(refine aB ?_;rintro _ rfl));refine aF ?_;obtain rfl:jV=0:=(by cases jV with|zero=>rfl|succ n=>exact absurd (by show _∈[5,6,10,11];decide) HI);(try simp only [aj]);refine Iy.ah rfl rfl fun K hK=>?_;(try simp only [aj]at hK);go_wp2_with(first|(go_at_call 21;refine(H1.out _ (Qp p w) (.slice a1 l1.length n1) HB.out.2.l1).mono ?_;intro e wa hx;obtain⟨a11,c11,rfl,hia,hba⟩:=hx.later (Nat.le_trans HW0.out HB.out.1)));exact hK _ _ hba ⟨_,_,rfl,hia⟩))
  iterate 2(·((repeat(refine aB ?_;rintro _ rfl));refine aF ?_;(try simp only [aj]);refine Iy.ah rfl rfl fun K hK=>?_;(try simp only [aj]at hK);go_wp2_with(first|fail);exact hK _ _ (Below.refl _ _) rfl))
  (·(refine aB ?_;rintro _⟨h6,ev6⟩;refine aB ?_;rintro _⟨rfl,uV⟩;refine aF ?_;obtain⟨a6,c6,rfl,hs6⟩:=h6;have d17:=HB.out.2.blk.cell 17;have f17:=HB.out.2.blk.frozen 17;have dl:=HB.out.2.blk.lt;(try simp only [aj]);refine Iy.ah rfl rfl fun K hK=>?_;(try simp only [aj]at hK);go_wp2_with(first|fail);exact hK undef _ ⟨⟨(by simpa using HB.out.1),_,_,HB.out.2.set0 hs6⟩,(Iy.dG (by repeat(first|exact True.intro|refine And.intro (fun _ h=>h) ?_|refine And.intro (fun hne=>absurd rfl hne) ?_|refine And.intro (fun _ h=>yO.turn HB.out.2 17 _ h) ?_)))⟩ trivial))
  iterate 2(·((repeat(refine aB ?_;rintro _ rfl));refine aF ?_;(try simp only [aj]);refine Iy.ah rfl rfl fun K hK=>?_;(try simp only [aj]at hK);go_wp2_with(first|fail);exact hK _ _ (Below.refl _ _) rfl))
  (·(refine aB ?_;rintro _⟨h11,DK⟩;refine aB ?_;rintro _⟨rfl,aaI⟩;refine aF ?_;obtain⟨a11,c11,rfl,hs11⟩:=h11;obtain⟨hsz,a6,c6,hps⟩:=HB.out;have d18:=hps.blk.cell 18;have f18:=hps.blk.frozen 18;have dl:=hps.blk.lt;(try simp only [aj]);refine Iy.ah rfl rfl fun K hK=>?_;(try simp only [aj]at hK);go_wp2_with(first|fail);exact hK undef _ ⟨⟨(by simpa using hsz),_,_,_,_,hps.set1 hs11⟩,(Iy.dG (by repeat(first|exact True.intro|refine And.intro (fun _ h=>h) ?_|refine And.intro (fun hne=>absurd rfl hne) ?_|refine And.intro (fun _ h=>yO.turn hps 18 _ h) ?_)))⟩ trivial))
 intro lM wf HF hdf
 refine au 17 0 1 ?_;rintro _ _ rfl;refine au 16 1 2 ?_;rintro _ _ rfl;refine au 15 2 3 ?_;rintro _ _ rfl;refine au 14 3 4 ?_;rintro _ _ rfl;refine au 13 4 5 ?_;rintro _ _ rfl;refine au 12 5 6 ?_;rintro _ _ rfl;refine au 11 6 7 ?_;rintro _ _ h6;refine au 10 7 8 ?_;rintro _ _ rfl;refine au 9 8 9 ?_;rintro _ _ rfl;refine au 8 9 10 ?_;rintro _ _ rfl;refine au 7 10 11 ?_;rintro _ _ rfl;refine au 6 11 12 ?_;rintro _ _ h11;refine au 5 12 13 ?_;rintro _ _ rfl;refine au 4 13 14 ?_;rintro _ _ rfl;refine au 3 14 15 ?_;rintro _ _ _;refine au 2 15 16 ?_;rintro _ _ rfl;refine au 1 16 17 ?_;rintro _ _ rfl;refine au 0 17 18 ?_;rintro _ _ _
 refine Ix.aI ?_
 obtain⟨_,a6,c6,a11,c11,hps⟩:=HF.out;have HM:=Lib.hid hps;clear hps
 (try simp only [Act.put,List.setIfInBounds_toArray,List.set_cons_zero,List.set_cons_succ,List.drop_succ_cons,List.drop_zero])
 refine Ix.nil ?_
 clear h6 h11 hdf HF
 have c0:World.cell? wf ⟨g,0,none⟩=some (.int .i64 7):=HM.out.blk.cell 0
 have c4:World.cell? wf ⟨g,4,none⟩=some (.bool false):=HM.out.blk.cell 4
 have c19:World.cell? wf ⟨g,19,none⟩=some (v2):=HM.out.blk.cell 19
 have c20:World.cell? wf ⟨g,20,none⟩=some (v3):=HM.out.blk.cell 20
 have gl:=HM.out.blk.lt
 have HZ:Hid (w.heap.size≤wf.heap.size):=HM.out.bC.size
 go_upto_region 20 with(fail)
 go_wp2_with(first|(go_at_call 21;refine(H2.out _ (Qp p w) v2 HM.out.l2).mono ?_;intro e we hx;obtain⟨a2,k2,rfl,hl2,hb2⟩:=hx.later HZ.out;have sZ:=Lib.hid (HM.out.keep hb2);have HL2:=Lib.hid hl2;have HB2:=Lib.hid hb2;clear hx hl2 hb2;have d0:World.cell? we ⟨g,0,none⟩=some (.int .i64 7):=sZ.out.blk.cell 0;have XB:World.cell? we ⟨g,20,none⟩=some v3:=sZ.out.blk.cell 20;have dl:=sZ.out.blk.lt)|(go_at_call 58;refine(qg _ (Qp p w) g 7 (by decide) d0 dl).mono ?_;intro e wf hx;obtain⟨a3,k3,rfl,hl3,hb3⟩:=hx.later (Nat.le_trans HZ.out HB2.out.size);have HE2:=Lib.hid (sZ.out.keep hb3);have LC:=Lib.hid (HL2.out.keep hb3);have P5:=Lib.hid hl3;clear hx hl3 hb3;have f0:=HE2.out.blk.cell 19;have f1:=HE2.out.blk.cell 20;have f2:=HE2.out.blk.frozen 19;have f3:=HE2.out.blk.frozen 20;have f4:=HE2.out.blk.lt))
 have HF:=Lib.hid (HE2.out.AB LC.out P5.out)
 generalize hwz:World.setCell _ _ _=wz at HF⊢
 clear hwz
 go_end0
 exact⟨rfl,_,_,_,_,_,_,_,_,_,_,_,_,_,_,_,_,HF.out⟩
theorem Ql(w:World)(p:Nat→Prop)(g:Nat)(b:Int)(s:Bool)(nm:ByteArray)(x i:X)(l0 l1 l2 l3:List S)(x0 x1 x2 x3 x4 x5 i0 i1 i2 i3 i4 i5 v0 v1 v2 v3:Value)(h:dP w p g 8 b s nm true x i l0 l1 l2 l3 x0 x1 x2 x3 x4 x5 i0 i1 i2 i3 i4 i5 v0 v1 v2 v3 w)(fx:X)(hX:OY p w x fx):Calls Try.prog 42 #[P g] w (D5 w p g (.mk 8 b s nm true fx i l0 l1 l2 l3)):=by
 have HP:=Lib.hid h
 have HX:=Lib.hid hX
 clear h hX
 have c0:World.cell? w ⟨g,0,none⟩=some (.int .i64 8):=HP.out.blk.cell 0
 have c4:World.cell? w ⟨g,4,none⟩=some (.bool true):=HP.out.blk.cell 4
 have c5:World.cell? w ⟨g,5,none⟩=some (x0):=HP.out.blk.cell 5
 have c6:World.cell? w ⟨g,6,none⟩=some (x1):=HP.out.blk.cell 6
 have c7:World.cell? w ⟨g,7,none⟩=some (x2):=HP.out.blk.cell 7
 have c8:World.cell? w ⟨g,8,none⟩=some (x3):=HP.out.blk.cell 8
 have c9:World.cell? w ⟨g,9,none⟩=some (x4):=HP.out.blk.cell 9
 have c10:World.cell? w ⟨g,10,none⟩=some (x5):=HP.out.blk.cell 10
 have gl:=HP.out.blk.lt
 go_enter Try.func42,Try.ntmps42
 go_upto_region 11 with(first|(go_at_call 20;refine(HX.out _ [x0,x1,x2,x3,x4,x5] HP.out.x).mono ?_;intro e EI hx;obtain⟨y0,y1,y2,y3,y4,y5,rfl,hx1,hb1⟩:=hx.six (N:=w.heap.size) HP.out.bC.size;have iE:=Lib.hid (HP.out.keep hb1);have oL:=Lib.hid hx1;clear hx hx1 hb1)|(refine aT rfl 62 _ _ rfl g 5 [y0,y1,y2,y3,y4,y5] rfl rfl 102 _ #[.int .i64 8, .int .i64 b, .bool s, .string nm, .bool true,y0,y1,y2,y3,y4,y5,i0,i1,i2,i3,i4,i5,v0,v1,v2,v3] iE.out.blk (by kernel_rfl) (show 5+6≤21 by decide) (dA.ones oL.out) rfl ?_))
 have gY:=Lib.hid (iE.out.rM oL.out)
 generalize hw1:World.setRow EI g _=w1 at gY⊢
 clear c0 c4 c5 c6 c7 c8 c9 c10 gl
 clear hw1
 have c0:World.cell? w1 ⟨g,0,none⟩=some (.int .i64 8):=gY.out.blk.cell 0
 have c4:World.cell? w1 ⟨g,4,none⟩=some (.bool true):=gY.out.blk.cell 4
 have gl:=gY.out.blk.lt
 go_wp2
 go_end0
 exact⟨rfl,_,_,_,_,_,_,_,_,_,_,_,_,_,_,_,_,gY.out⟩
theorem L6(w:World)(p:Nat→Prop)(g:Nat)(b:Int)(s:Bool)(nm:ByteArray)(x i:X)(l0 l1 l2 l3:List S)(x0 x1 x2 x3 x4 x5 i0 i1 i2 i3 i4 i5 v0 v1 v2 v3:Value)(h:dP w p g 8 b s nm false x i l0 l1 l2 l3 x0 x1 x2 x3 x4 x5 i0 i1 i2 i3 i4 i5 v0 v1 v2 v3 w):Calls Try.prog 42 #[P g] w (D5 w p g (.mk 8 b s nm false x i l0 l1 l2 l3)):=by
 have HP:=Lib.hid h
 clear h
 have c0:World.cell? w ⟨g,0,none⟩=some (.int .i64 8):=HP.out.blk.cell 0
 have c4:World.cell? w ⟨g,4,none⟩=some (.bool false):=HP.out.blk.cell 4
 have gl:=HP.out.blk.lt
 go_enter Try.func42,Try.ntmps42
 go_wp2
 go_end0
 exact⟨rfl,_,_,_,_,_,_,_,_,_,_,_,_,_,_,_,_,HP.out⟩
theorem LQ(w:World)(p:Nat→Prop)(g:Nat)(b:Int)(s:Bool)(nm:ByteArray)(has:Bool)(x i:X)(l0 l1 l2 l3:List S)(x0 x1 x2 x3 x4 x5 i0 i1 i2 i3 i4 i5 v0 v1 v2 v3:Value)(h:dP w p g 11 b s nm has x i l0 l1 l2 l3 x0 x1 x2 x3 x4 x5 i0 i1 i2 i3 i4 i5 v0 v1 v2 v3 w)(h2:AA l2):Calls Try.prog 42 #[P g] w (D5 w p g (.mk 11 b s nm has x i l0 l1 (S.folds l2) [])):=by
 have HP:=Lib.hid h
 have H2:=Lib.hid h2
 clear h h2
 have c0:World.cell? w ⟨g,0,none⟩=some (.int .i64 11):=HP.out.blk.cell 0
 have c4:World.cell? w ⟨g,4,none⟩=some (.bool has):=HP.out.blk.cell 4
 have c19:World.cell? w ⟨g,19,none⟩=some (v2):=HP.out.blk.cell 19
 have c20:World.cell? w ⟨g,20,none⟩=some (v3):=HP.out.blk.cell 20
 have gl:=HP.out.blk.lt
 go_enter Try.func42,Try.ntmps42
 have HZ:Hid (w.heap.size≤w.heap.size):=HP.out.bC.size
 go_upto_region 20 with(fail)
 go_wp2_with(first|(go_at_call 21;refine(H2.out _ (Qp p w) v2 HP.out.l2).mono ?_;intro e we hx;obtain⟨a2,k2,rfl,hl2,hb2⟩:=hx.later HZ.out;have sZ:=Lib.hid (HP.out.keep hb2);have HL2:=Lib.hid hl2;have HB2:=Lib.hid hb2;clear hx hl2 hb2;have d0:World.cell? we ⟨g,0,none⟩=some (.int .i64 11):=sZ.out.blk.cell 0;have XB:World.cell? we ⟨g,20,none⟩=some v3:=sZ.out.blk.cell 20;have dl:=sZ.out.blk.lt)|(go_at_call 58;refine(qg _ (Qp p w) g 11 (by decide) d0 dl).mono ?_;intro e wf hx;obtain⟨a3,k3,rfl,hl3,hb3⟩:=hx.later (Nat.le_trans HZ.out HB2.out.size);have HE2:=Lib.hid (sZ.out.keep hb3);have LC:=Lib.hid (HL2.out.keep hb3);have P5:=Lib.hid hl3;clear hx hl3 hb3;have f0:=HE2.out.blk.cell 19;have f1:=HE2.out.blk.cell 20;have f2:=HE2.out.blk.frozen 19;have f3:=HE2.out.blk.frozen 20;have f4:=HE2.out.blk.lt))
 have HF:=Lib.hid (HE2.out.AB LC.out P5.out)
 generalize hwz:World.setCell _ _ _=wz at HF⊢
 clear hwz
 go_end0
 exact⟨rfl,_,_,_,_,_,_,_,_,_,_,_,_,_,_,_,_,HF.out⟩
theorem Qm(w:World)(p:Nat→Prop)(g:Nat)(k:Int)(b:Int)(s:Bool)(nm:ByteArray)(has:Bool)(x i:X)(l0 l1 l2 l3:List S)(x0 x1 x2 x3 x4 x5 i0 i1 i2 i3 i4 i5 v0 v1 v2 v3:Value)(h:dP w p g k b s nm has x i l0 l1 l2 l3 x0 x1 x2 x3 x4 x5 i0 i1 i2 i3 i4 i5 v0 v1 v2 v3 w)(hk2:k≠2)(hk3:k≠3)(hk4:k≠4)(hk5:k≠5)(hk6:k≠6)(hk7:k≠7)(hk8:k≠8)(Yi:k≠11):Calls Try.prog 42 #[P g] w (D5 w p g (.mk k b s nm has x i l0 l1 l2 l3)):=by
 have q2:(k==2)=false:=by simpa using hk2
 have q3:(k==3)=false:=by simpa using hk3
 have q4:(k==4)=false:=by simpa using hk4
 have q5:(k==5)=false:=by simpa using hk5
 have q6:(k==6)=false:=by simpa using hk6
 have q7:(k==7)=false:=by simpa using hk7
 have q8:(k==8)=false:=by simpa using hk8
 have q11:(k==11)=false:=by simpa using Yi
 clear hk2 hk3 hk4 hk5 hk6 hk7 hk8 Yi
 have HP:=Lib.hid h
 clear h
 have c0:World.cell? w ⟨g,0,none⟩=some (.int .i64 k):=HP.out.blk.cell 0
 have c4:World.cell? w ⟨g,4,none⟩=some (.bool has):=HP.out.blk.cell 4
 have gl:=HP.out.blk.lt
 go_enter Try.func42,Try.ntmps42
 go_wp2
 go_end0
 exact⟨rfl,_,_,_,_,_,_,_,_,_,_,_,_,_,_,_,_,HP.out⟩
end Go.Proofs.Ythdckndjggljpaa
