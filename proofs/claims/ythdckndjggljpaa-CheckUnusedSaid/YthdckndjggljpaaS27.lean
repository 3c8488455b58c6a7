/- Proofs of this claim, part 27. No condition. -/
import Derived.Deep.CutRange
import Derived.Test.YthdckndjggljpaaS26
namespace Go.Proofs.Ythdckndjggljpaa
set_option linter.unusedVariables false
set_option linter.unusedSimpArgs false
set_option maxRecDepth 100000
set_option maxHeartbeats 64000000
section
open Go.RowKit
namespace X
def vY(k n b:Int)(s:Bool)(nm:ByteArray)(ks:List X):X:= .mk k (if k=1 then n else 0) (if k=1∨k=5 then b else 0) (if k=1∨k=5 then s else false) (if k=2∨k=3∨k=4 then nm else⟨#[]⟩) ks
mutual
def bare:X→X
 | .mk k n b s nm ks=>vY k n b s nm (bI ks)
def bI:List X→List X
 |[]=>[]
 |x::xs=>bare x::bI xs
end
theorem mW(xs:List X):bI xs=xs.map bare:=by
 induction xs with
 |nil=>rw [bI];rfl
 |cons x xs ih=>rw [bI,ih];rfl
end X
def WA(y:X):Prop:=∀(w:World)(cs:List Value),eU w y cs→Calls Try.prog 24 #[.agg cs.toArray] w (zO (X.bare y) w)
structure Ii(w wr:World)(k n b:Int)(s:Bool)(nm:ByteArray)(kv:Value)(n' b':Int)(s':Bool)(nm':ByteArray)(acc:List X)(a:Option Addr)(c:Nat):Prop where
 bel:Below w.heap.size w wr
 bx:ak wr w.heap.size 62 #[.int .i64 k, .int .u64 n, .int .i64 b, .bool s, .string nm,kv]
 b2:ak wr (w.heap.size+1) 62 #[.int .i64 0, .int .u64 0, .int .i64 0, .bool false, .string ⟨#[]⟩, .slice none 0 0]
 b3:ak wr (w.heap.size+1+1) 62 #[.int .i64 k, .int .u64 n', .int .i64 b', .bool s', .string nm', .slice a acc.length c]
 o:cZ (fun q=>w.heap.size+1+1<q) wr (w.heap.size+1+1+1) 62 6 LX acc a c
theorem GI:(Try.prog.info? 62).map (fun i=>(i.zero,i.size,i.bytes))=some (some (.agg #[.int .i64 0, .int .u64 0, .int .i64 0, .bool false, .string ⟨#[]⟩, .slice none 0 0]),6,72):=by kernel_rfl
theorem Ii.next{w wr oH rO w16:World}{k n b:Int}{s:Bool}{nm:ByteArray}{kv:Value}{n' b':Int}{s':Bool}{nm':ByteArray}{acc:List X}{a a':Option Addr}{c c':Nat}{y:X}(h:Ii w wr k n b s nm kv n' b' s' nm' acc a c)(qc:Below wr.heap.size wr oH)(h15:Below oH.heap.size oH rO)
 (hlo:∀q,(Value.slice a acc.length c).ownBlock=some q→w.heap.size+1+1+1≤q∧q<rO.heap.size)(hg:rO.grownBy w16 (Value.slice a acc.length c).ownBlock)(hq:cZ (fun q=>w.heap.size+1+1<q) w16 (w.heap.size+1+1+1) 62 6 LX (acc++[y]) a' c'):
 Ii w (w16.setCell ⟨w.heap.size+1+1,5,none⟩ (.slice a' (acc++[y]).length c')) k n b s nm kv n' b' s' nm' (acc++[y]) a' c':=by
 have f:∀q t cs,q≤w.heap.size+1+1→ak wr q t cs→ak w16 q t cs:=fun q t cs hq hb=>((hb.keep qc).keep h15).grown hg (fun e=>by have:=(hlo q e.symm).1;omega)
 have hb:Below w.heap.size w rO:=Ext.trans (Ext.trans h.bel qc) h15
 refine⟨Ext.setCell ⟨hg.os.trans hb.os,hg.tape.trans hb.tape,hg.output.trans hb.output,Nat.le_trans hb.size hg.size,fun q hq=>(hg.block q (Nat.lt_of_lt_of_le hq hb.size) (fun e=>by have:=(hlo q e.symm).1;omega)).trans (hb.block q hq)⟩ (by show w.heap.size≤w.heap.size+1+1;omega) _,(f _ _ _ (by omega) h.bx).far (by show w.heap.size≠w.heap.size+1+1;omega) _,(f _ _ _ (by omega) h.b2).far (by show w.heap.size+1≠w.heap.size+1+1;omega) _,
  by simpa using(f _ _ _ (Nat.le_refl _) h.b3).dJ 5 (.slice a' (acc++[y]).length c'),hq.bC D6 (fun q hq=>by omega) (Nat.lt_succ_self _) ((aH.of_below (Below.refl _ _)).setCell 5 _)⟩
theorem ak.at1{w:World}{n:Nat}(t:TypeId)(cs:Array Value)(h:w.heap.size=n):ak (w.alloc (.cells cs t)) n t cs:=by subst h;exact ak.new _ _ _
theorem Ii.set{w wr:World}{k n b:Int}{s:Bool}{nm:ByteArray}{kv:Value}{n' b':Int}{s':Bool}{nm':ByteArray}{n2 b2:Int}{s2:Bool}{zV:ByteArray}(h:Ii w wr k n b s nm kv n' b' s' nm' [] none 0){wj:World}(hc:aH (w.heap.size+1+1) wr wj)(hb:ak wj (w.heap.size+1+1) 62 #[.int .i64 k, .int .u64 n2, .int .i64 b2, .bool s2, .string zV, .slice none 0 0]):Ii w wj k n b s nm kv n2 b2 s2 zV [] none 0:=
 ⟨Below.bC h.bel (Nat.le_refl _) (by omega) hc,h.bx.grown hc (fun e=>by injection e with e;omega),h.b2.grown hc (fun e=>by injection e with e;omega),hb,cZ.nil _ _ _ _ _ _⟩
theorem Jd(w:World)(k n b:Int)(s:Bool)(nm:ByteArray)(ks:List X)(ka:Option Addr)(L kc:Nat)(hX:eU w (.mk k n b s nm ks) (X.cells k n b s nm (.slice ka L kc)))(hL:L≤100000)(IH:∀y∈ks,WA y):Calls Try.prog 24 #[.agg #[.int .i64 k, .int .u64 n, .int .i64 b, .bool s, .string nm, .slice ka L kc]] w (zO (X.vY k n b s nm (ks.map X.bare)) w):=by
 obtain⟨hkl,hkc,_⟩:=hX.lens
 have RY:(L:Int)≤(kc:Int):=by omega
 have HX:=Lib.hid hX
 have HIH:=Lib.hid IH
 have JM:=Lib.hid hkl
 clear hX IH hkl hkc
 unfold X.vY
 obtain⟨n2,hn2⟩:∃n2,n2=(if k=1 then n else 0):=⟨_,rfl⟩
 obtain⟨b2,hb2⟩:∃b2,b2=(if k=1∨k=5 then b else 0):=⟨_,rfl⟩
 obtain⟨s2,hs2⟩:∃s2,s2=(if k=1∨k=5 then s else false):=⟨_,rfl⟩
 obtain⟨zV,Vw⟩:∃zV,zV=(if k=2∨k=3∨k=4 then nm else⟨#[]⟩):=⟨_,rfl⟩
 rw [←hn2,←hb2,←hs2,←Vw]
 have HE:=Lib.hid (And.intro hn2 (And.intro hb2 (And.intro hs2 Vw)))
 clear hn2 hb2 hs2 Vw
 have HB0:Hid (Ii w ((((w.alloc (.cells #[.int .i64 k, .int .u64 n, .int .i64 b, .bool s, .string nm, .slice ka L kc] 62)).alloc (.cells #[.int .i64 0, .int .u64 0, .int .i64 0, .bool false, .string ⟨#[]⟩, .slice none 0 0] 62)).alloc (.cells #[.int .i64 k, .int .u64 0, .int .i64 0, .bool false, .string ⟨#[]⟩, .slice none 0 0] 62))) k n b s nm (.slice ka L kc) 0 0 false ⟨#[]⟩ [] none 0):=
  ⟨Ext.alloc (Ext.alloc (Ext.alloc (Below.refl _ _) _) _) _,((ak.new _ _ _).alloc _).alloc _,(ak.at1 _ _ (by simp)).alloc _,ak.at1 _ _ (by simp),cZ.nil _ _ _ _ _ _⟩
 go_enter Try.func24,Try.ntmps24
 go_upto_region 2 with(fail)
 generalize hw3:World.alloc _ _=w3
 rw [hw3]at HB0
 clear hw3
 obtain⟨g3,hg3⟩:∃g,g=w.heap.size+1+1:=⟨_,rfl⟩
 have hlt:w.heap.size<g3:=by omega
 have BI:=Lib.hid hg3
 have B3:=HB0.out.b3
 rw [←hg3]at B3⊢
 clear hg3
 have x0:=HB0.out.bx.cell 0;have x1:=HB0.out.bx.cell 1;have x2:=HB0.out.bx.cell 2;have x3:=HB0.out.bx.cell 3;have x4:=HB0.out.bx.cell 4;have xl:=HB0.out.bx.lt
 have y1:=B3.cell 1;have y2:=B3.cell 2;have y3:=B3.cell 3;have y4:=B3.cell 4;have z1:=B3.frozen 1;have z2:=B3.frozen 2;have z3:=B3.frozen 3;have z4:=B3.frozen 4;have yl:=B3.lt
 have HB3:=Lib.hid B3
 clear B3
 go_upto_block 0 with(fail)
 go_cut []from 11 to 30(fun wx=>Hid (Ii w wx k n b s nm (.slice ka L kc) n2 b2 s2 zV [] none 0))
 case first=>
  by_cases k1:k=1
  ·subst k1
   have HF:Hid (Ii w ((((w3.setCell ⟨g3,1,none⟩ (.int .u64 n)).setCell ⟨g3,2,none⟩ (.int .i64 b)).setCell ⟨g3,3,none⟩ (.bool s)).drew) 1 n b s nm (.slice ka L kc) n2 b2 s2 zV [] none 0):=by
    have h0:=HB3.out
    rw [HE.out.1,HE.out.2.1,HE.out.2.2.1,HE.out.2.2.2]
    rw [BI.out]at h0⊢
    exact HB0.out.set (((((aH.of_below (Below.refl _ _)).setCell 1 _).setCell 2 _).setCell 3 _).trans (aH.of_below (Below.refl _ _).drew)) (by have h:ak (((w3.setCell ⟨w.heap.size+1+1,1,none⟩ (.int .u64 n)).setCell ⟨w.heap.size+1+1,2,none⟩ (.int .i64 b)).setCell ⟨w.heap.size+1+1,3,none⟩ (.bool s)) (w.heap.size+1+1) 62 #[.int .i64 1, .int .u64 n, .int .i64 b, .bool s, .string ⟨#[]⟩, .slice none 0 0]:=(by simpa using((h0.dJ 1 (.int .u64 n)).dJ 2 (.int .i64 b)).dJ 3 (.bool s));exact h)
   go_upto_region 4 with(fail)
   go_region
   go_wp2
   go_meet
   case rel=>exact HF.out
  by_cases k5:k=5
  ·subst k5
   have HF:Hid (Ii w ((w3.setCell ⟨g3,2,none⟩ (.int .i64 b)).setCell ⟨g3,3,none⟩ (.bool s)) 5 n b s nm (.slice ka L kc) n2 b2 s2 zV [] none 0):=by
    have h0:=HB3.out
    rw [HE.out.1,HE.out.2.1,HE.out.2.2.1,HE.out.2.2.2]
    rw [BI.out]at h0⊢
    exact HB0.out.set (((aH.of_below (Below.refl _ _)).setCell 2 _).setCell 3 _) (by simpa using(h0.dJ 2 (.int .i64 b)).dJ 3 (.bool s))
   clear k1
   go_wp2
   go_meet
   case rel=>exact HF.out
  have q1:(k==1)=false:=by simpa using k1
  have q5:(k==5)=false:=by simpa using k5
  have e1:n2=0:=by rw [HE.out.1,if_neg k1]
  have e2:b2=0:=by rw [HE.out.2.1,if_neg (by omega)]
  have e3:s2=false:=by rw [HE.out.2.2.1,if_neg (by omega)]
  by_cases kn:k=2∨k=3∨k=4
  ·have HF:Hid (Ii w (w3.setCell ⟨g3,4,none⟩ (.string nm)) k n b s nm (.slice ka L kc) n2 b2 s2 zV [] none 0):=by
    have h0:=HB3.out
    rw [e1,e2,e3,HE.out.2.2.2,if_pos kn]
    rw [BI.out]at h0⊢
    exact HB0.out.set ((aH.of_below (Below.refl _ _)).setCell 4 _) (by simpa using h0.dJ 4 (.string nm))
   clear k1 k5 e1 e2 e3 q1 q5
   rcases kn with rfl|rfl|rfl
   ·go_wp2
    go_meet
    case rel=>exact HF.out
   ·go_wp2
    go_meet
    case rel=>exact HF.out
   ·go_wp2
    go_meet
    case rel=>exact HF.out
  ·have q2:(k==2)=false:=by simp;omega
   have q3:(k==3)=false:=by simp;omega
   have q4:(k==4)=false:=by simp;omega
   have HF:Hid (Ii w w3 k n b s nm (.slice ka L kc) n2 b2 s2 zV [] none 0):=by
    rw [e1,e2,e3,HE.out.2.2.2,if_neg kn];exact HB0.out
   clear k1 k5 e1 e2 e3 kn
   go_wp2
   go_meet
   case rel=>exact HF.out
 case rest=>
  have HC:=hcut
  clear hcut x0 x1 x2 x3 x4 xl y1 y2 y3 y4 z1 z2 z3 z4 yl HB0 HB3
  have x5:=HC.out.bx.cell 5;have xl:=HC.out.bx.lt
  go_upto_region 12 with(fail)
  go_loopw [34](fun iv wr=>∃(j:Nat),j≤L∧iv= .int .i64 (j:Int)∧Hid (∃a c,Ii w wr k n b s nm (.slice ka L kc) n2 b2 s2 zV ((ks.take j).map X.bare) a c))(fun iv wr=>L-(intOf iv).toNat)
  case atStart=>exact⟨0,Nat.zero_le _,rfl,none,0,by rw [List.take_zero];exact HC.out⟩
  case round=>
   obtain⟨j,hj,rfl,HQx⟩:=hrel
   obtain⟨oa,oc,hQ⟩:=HQx.out
   obtain⟨AC,tX⟩:∃AC,AC=(ks.take j).map X.bare:=⟨_,rfl⟩
   rw [←tX]at hQ
   have HQ:=Lib.hid hQ
   have Ar:=Lib.hid tX
   have KY:Hid (AC.length=j):=by show _=_;rw [tX,List.length_map,List.length_take];have:=JM.out;omega
   obtain⟨nr,hnr⟩:∃n,n=AC.length:=⟨_,rfl⟩
   have lI:=Lib.hid hnr
   clear hQ tX hnr HQx x5 xl
   have x5:=HQ.out.bx.cell 5;have xl:=HQ.out.bx.lt
   by_cases hlt:j<L
   ·obtain⟨y,hy⟩:∃y,ks[j]?=some y:=⟨_,List.getElem?_eq_getElem (by rw [JM.out];exact hlt)⟩
    obtain⟨kg,ko,ya,yc,rfl,hyx,c0,c1,c2,c3,c4,c5⟩:=HX.out.kid hy
    have kZ:Hid ((ks.take (j+1)).map X.bare=AC++[X.bare y]):=by
     show _=_
     rw [List.take_add_one,hy,List.map_append,Ar.out];rfl
    have up:∀i u,w.cell? ⟨kg,i,none⟩=some u→wr.cell? ⟨kg,i,none⟩=some u:=fun i u h=>by
     rw [Below.cell (p:=⟨kg,i,none⟩) HQ.out.bel (World.block_lt_of_cell? _ _ h)];exact h
    have d0:=up _ _ c0;have d1:=up _ _ c1;have d2:=up _ _ c2;have d3:=up _ _ c3;have d4:=up _ _ c4;have d5:=up _ _ c5
    have dl:=World.block_lt_of_cell? _ _ d0
    obtain⟨yl,hyl⟩:∃yl,yl=y.kids.length:=⟨_,rfl⟩
    have kU:Hid (∀w1,Below w.heap.size w w1→Calls Try.prog 24 #[.agg #[.int .i64 y.kind, .int .u64 y.num, .int .i64 y.bits, .bool y.sg, .string y.name, .slice ya yl yc]] w1 (zO (X.bare y) w1)):=fun w1 hb=>by
     rw [hyl]
     exact HIH.out y (List.mem_of_getElem? hy) w1 _ (hyx.frame fun b o v hv=>hb.block b (World.block_lt_of_cell? _ _ hv))
    rw [←hyl]at d5
    clear hy hyx c0 c1 c2 c3 c4 c5 up hyl
    go_upto_region 14 with(fail)
    generalize hw5:World.alloc wr _=w5
    have gU:Hid (Below wr.heap.size wr w5∧ak w5 wr.heap.size 62 #[.int .i64 y.kind, .int .u64 y.num, .int .i64 y.bits, .bool y.sg, .string y.name, .slice ya yl yc]∧w.heap.size≤wr.heap.size):=by
     subst hw5;exact⟨Ext.alloc (Below.refl _ _) _,ak.new _ _ _,HQ.out.bel.size⟩
    clear hw5 d0 d1 d2 d3 d4 d5 dl x5 xl
    have WS:Hid (ak w5 g3 62 #[.int .i64 k, .int .u64 n2, .int .i64 b2, .bool s2, .string zV, .slice oa nr oc]):=by
     have h:=HQ.out.b3.keep gU.out.1
     rw [←lI.out]at h;rw [BI.out];exact h
    apply Ix.wp_region 5 (fun wi=>Hid (Below w5.heap.size w5 wi)) (Ix.vk [(Ix.aA _),(Ix.aA (.slice oa nr oc)),(Ix.aA (.agg #[.int .i64 y.kind, .int .u64 y.num, .int .i64 y.bits, .bool y.sg, .string y.name, .slice ya yl yc])),(Ix.dU (fun v w'=>∃z0 z1 z2 z3 z4 z5,v=Value.agg #[z0,z1,z2,z3,z4,z5]∧dA w' (fun q=>wr.heap.size≤q) (X.bare y) [z0,z1,z2,z3,z4,z5]) (fun v w1 w2 h hb=>by obtain⟨z0,z1,z2,z3,z4,z5,e,h⟩:=h;exact⟨z0,z1,z2,z3,z4,z5,e,h.keep hb⟩)),(Ix.dU (fun v w'=>∃t z0 z1 z2 z3 z4 z5,v=Value.slice (some ⟨t,0,none⟩) 1 1∧ak w' t 62 #[z0,z1,z2,z3,z4,z5]∧dA w' (fun q=>wr.heap.size≤q) (X.bare y) [z0,z1,z2,z3,z4,z5]) (fun v w1 w2 h hb=>by obtain⟨t,z0,z1,z2,z3,z4,z5,e,h1,h2⟩:=h;exact⟨t,z0,z1,z2,z3,z4,z5,e,h1.keep hb,h2.keep hb⟩))]) (fun _=>false) (by kernel_rfl) (by kernel_rfl) (by kernel_rfl) (fun _ _ h hb=>Ext.trans h hb) (Ix.aN _) (Ix.bP _) (Below.refl _ _)
    case step=>
     refine aP 4 0 1 [] (fun wi HB=>?_)<|aP 3 1 2 [(0,some 38)] (fun wi HB=>?_)<|aP 2 2 3 [] (fun wi HB=>?_)<|aP 1 3 4 [(2,some 40)] (fun wi HB=>?_)<|aP 0 4 5 [(3,some 41)] (fun wi HB=>?_)<|Ix.aC
     (·((repeat(refine aB ?_;rintro _ rfl));refine aF ?_;(try simp only [aj]);refine Ix.ah rfl rfl fun K hK=>?_;(try simp only [aj]at hK);go_wp2_with(first|fail);exact hK _ _ (Below.refl _ _) rfl))
     iterate 2(·(have hx:=WS.out.keep HB.out;have e5:=hx.cell 5;have el:=hx.lt;have hy:=gU.out.2.1.keep HB.out;have k0:=hy.cell 0;have k1:=hy.cell 1;have k2:=hy.cell 2;have k3:=hy.cell 3;have k4:=hy.cell 4;have k5:=hy.cell 5;have kl:=hy.lt;clear hx hy;(repeat(refine aB ?_;rintro _ rfl));refine aF ?_;(try simp only [aj]);refine Ix.ah rfl rfl fun K hK=>?_;(try simp only [aj]at hK);go_wp2_with(first|fail);exact hK _ _ (Below.refl _ _) rfl))
     (·(have hx:=WS.out.keep HB.out;have e5:=hx.cell 5;have el:=hx.lt;have hy:=gU.out.2.1.keep HB.out;have k0:=hy.cell 0;have k1:=hy.cell 1;have k2:=hy.cell 2;have k3:=hy.cell 3;have k4:=hy.cell 4;have k5:=hy.cell 5;have kl:=hy.lt;clear hx hy;(repeat(refine aB ?_;rintro _ rfl));refine aF ?_;(try simp only [aj]);refine Ix.ah rfl rfl fun K hK=>?_;(try simp only [aj]at hK);go_wp2_with(first|(go_at_call 24;refine(kU.out _ (Ext.trans (Ext.trans HQ.out.bel gU.out.1) HB.out)).mono ?_;intro e wa hx;obtain⟨z0,z1,z2,z3,z4,z5,rfl,hia,hba⟩:=hx.six (N:=wr.heap.size) (Nat.le_trans gU.out.1.size HB.out.size)));exact hK _ _ hba ⟨_,_,_,_,_,_,rfl,hia⟩))
     (·(have hx:=WS.out.keep HB.out;have e5:=hx.cell 5;have el:=hx.lt;have hy:=gU.out.2.1.keep HB.out;have k0:=hy.cell 0;have k1:=hy.cell 1;have k2:=hy.cell 2;have k3:=hy.cell 3;have k4:=hy.cell 4;have k5:=hy.cell 5;have kl:=hy.lt;clear hx hy;refine aB ?_;rintro _⟨z0,z1,z2,z3,z4,z5,rfl,hz⟩;refine aF ?_;(try simp only [aj]);refine Ix.ah rfl rfl fun K hK=>?_;(try simp only [aj]at hK);go_wp2_with(first|fail);exact hK _ _ (Ext.alloc (Below.refl _ _) _) ⟨_,z0,z1,z2,z3,z4,z5,rfl,ak.new _ _ _,hz.keep (Ext.alloc (Below.refl _ _) _)⟩))
    intro lM wf HF hdf
    refine au 4 0 1 ?_;rintro _ _ rfl;refine au 3 1 2 ?_;rintro _ _ rfl;refine au 2 2 3 ?_;rintro _ _ rfl;refine au 1 3 4 ?_;rintro _ _⟨z0,z1,z2,z3,z4,z5,rfl,hz⟩;refine au 0 4 5 ?_;rintro _ _⟨tf,q0,q1,q2,q3,q4,q5,rfl,htb,htx⟩
    refine Ix.aI ?_
    obtain⟨lg,hof,hlo,hnx⟩:=cZ.BZ D6 HQ.out.o (Ext.trans gU.out.1 HF.out) (Below.refl _ _) (htx.move (fun q hq _=>⟨⟨(by have h1:=HQ.out.b3.lt;omega), .inr hq⟩,rfl⟩):LX wf _ (X.bare y) [q0,q1,q2,q3,q4,q5]);have Vx:=Lib.hid (WS.out.keep HF.out);have wo:=hof;rw [←lI.out]at wo
    (try simp only [Act.put,List.setIfInBounds_toArray,List.set_cons_zero,List.set_cons_succ,List.drop_succ_cons,List.drop_zero])
    go_wp2_with(first|(refine aS rfl _ _ 34 62 6 72 _ rfl Try.underlying34 GI rfl (by decide) (by decide) (w.heap.size+1+1+1) (.slice oa nr oc) nr (flat lg nr) tf [q0,q1,q2,q3,q4,q5] rfl rfl wo rfl (ak.at0 htb) (dA.ones htx) (by have h1:=lI.out;have h2:=KY.out;omega) (by have h1:=Vx.out.lt;have h2:=BI.out;omega) ?_;intro a9 c9 w9 jm eG dF;rw [lI.out]at jm eG dF;have pY:=Lib.hid (HQ.out.next (Ext.trans gU.out.1 HF.out) (Below.refl _ _) hlo eG (hnx a9 c9 w9 jm eG dF));have qR:ak w9 g3 62 _:=Vx.out.grown eG (fun e=>by have h1:=(hlo g3 e.symm).1;have h2:=BI.out;omega);have e5:=qR.cell 5;have f5:=qR.frozen 5;have el:=qR.lt;clear hof wo hnx hlo jm eG dF qR))
    all_goals(first|refine Ix.only ?_|(refine Ix.dK fun tz=>?_))
    go_wp2
    go_roundw
    case rel=>exact⟨j+1,by omega,by go_num,a9,c9,by
     rw [kZ.out]
     have h:=pY.out
     have h2:(AC++[X.bare y]).length=nr+1:=by rw [List.length_append,←lI.out];rfl
     rw [h2,←BI.out]at h;exact h⟩
    case measure=>simp [intOf];omega
   ·obtain rfl:j=L:=by omega
    have HAZ:Hid (AC=ks.map X.bare):=by show _=_;rw [Ar.out];congr 1;rw [←JM.out,List.take_length]
    have B3:ak wr g3 62 #[.int .i64 k, .int .u64 n2, .int .i64 b2, .bool s2, .string zV, .slice oa nr oc]:=by
     have h:=HQ.out.b3
     rw [←lI.out]at h;rw [BI.out];exact h
    have HB3:=Lib.hid B3
    have y0:=B3.cell 0;have y1:=B3.cell 1;have y2:=B3.cell 2;have y3:=B3.cell 3;have y4:=B3.cell 4;have y5:=B3.cell 5;have yl:=B3.lt
    clear B3 x5 xl
    obtain⟨row,hrow⟩:∃row:Array Value,row=#[.int .i64 k, .int .u64 n2, .int .i64 b2, .bool s2, .string zV, .slice oa nr oc]:=⟨_,rfl⟩
    go_wp2_with(first|(refine wpList_store_row rfl 62 _ _ rfl (w.heap.size+1) #[.int .i64 k, .int .u64 n2, .int .i64 b2, .bool s2, .string zV, .slice oa nr oc] rfl rfl 62 _ HQ.out.b2 (by kernel_rfl) rfl (AO _ _ _ _ _ _ _ _) ?_))
    rw [←hrow]
    refine bodyPost_ret (v:= .agg row) (dH rfl _ _ (w.heap.size+1) 62 row (0,0) _ rfl (HQ.out.b2.jQ row) Try.underlying62 rfl (by subst hrow;kernel_rfl)) rfl ?_
    subst hrow
    refine⟨[.int .i64 k, .int .u64 n2, .int .i64 b2, .bool s2, .string zV, .slice oa nr oc],rfl,?_,Below.jQ HQ.out.bel (Nat.le_succ _) _⟩
    have hr:=HQ.out.o
    rw [HAZ.out]at hr
    obtain⟨cs,ho,hk⟩:=hr
    have hlr:(ks.map X.bare).length=nr:=by rw [lI.out,HAZ.out]
    rw [hlr]at ho hk
    have h1:dA wr (fun q=>w.heap.size+1<q) (.mk k n2 b2 s2 zV (ks.map X.bare)) (X.cells k n2 b2 s2 zV (.slice oa nr oc)):=by
     rw [←hlr]at ho hk⊢
     exact dA.row ho (fun i y hy=>(hk i y hy).move fun q hq _=>⟨by have:=hq.1;omega,rfl⟩) (fun q hq=>by have:=(aK ho q hq).1;omega)
    exact h1.move fun q hq _=>⟨by omega,setRow_other wr (w.heap.size+1) q _ (by omega)⟩
theorem yJ(x:X):X.gK x→WA x:=by
 induction x using X.up with
 |_ x ih=>
  intro hs w cs h
  obtain⟨k,n,b,s,nm,ks⟩:=x
  obtain⟨ka,kc,rfl,_⟩:=h.open
  have h5:=(X.eH hs.own).2.2.2.2
  have hl:ks.length≤100000:=by
   have h5:(X.aX k=-1∧ks.length≤8)∨(0≤X.aX k∧X.aX k=(ks.length:Int)):=h5
   have h6:X.aX k≤2:=by unfold X.aX;split<;>(try split)<;>(try split)<;>(try split)<;>decide
   omega
  have h0:=Jd w k n b s nm ks ka ks.length kc h hl (fun y hy=>ih y hy (hs.kid hy))
  rw [X.bare,X.mW]
  exact h0
end
end Go.Proofs.Ythdckndjggljpaa
