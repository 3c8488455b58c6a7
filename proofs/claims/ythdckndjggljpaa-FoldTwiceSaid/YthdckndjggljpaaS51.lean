/- Proofs of this claim, part 51. No condition. -/
import Derived.Test.YthdckndjggljpaaS9
namespace Go.Proofs.Ythdckndjggljpaa
set_option linter.unusedVariables false
set_option linter.unusedSimpArgs false
set_option maxRecDepth 100000
set_option maxHeartbeats 64000000
section
open Go.RowKit
theorem eU.Xh{w:World}{k n b:Int}{s:Bool}{nm:ByteArray}{ks:List X}{a:Option Addr}{L c:Nat}(h:eU w (.mk k n b s nm ks) (X.cells k n b s nm (.slice a L c))){i:Nat}{y:X}(hy:ks[i]?=some y):
 ∃(g off:Nat)(ay:Option Addr)(cy:Nat),a=some ⟨g,off,none⟩∧eU w y (X.cells y.kind y.num y.bits y.sg y.name (.slice ay y.kids.length cy))∧
  w.cell? ⟨g,off+i*6,none⟩=some (.int .i64 y.kind)∧w.cell? ⟨g,off+i*6+1,none⟩=some (.int .u64 y.num)∧w.cell? ⟨g,off+i*6+2,none⟩=some (.int .i64 y.bits)∧w.cell? ⟨g,off+i*6+3,none⟩=some (.bool y.sg)∧w.cell? ⟨g,off+i*6+4,none⟩=some (.string y.name)∧w.cell? ⟨g,off+i*6+5,none⟩=some (.slice ay y.kids.length cy):=by
 obtain⟨a2,c2,e,_,_,hk⟩:=h.open
 have e2:a=a2:=by
  have:=congrArg (fun l=>l[5]?) e
  simp at this
  exact this.1
 obtain⟨g,off,ys,ha,hx,hc⟩:=hk i y hy
 obtain⟨ay,cy,ey,_⟩:=hx.open
 subst ey
 exact⟨g,off,ay,cy,e2.trans ha,hx,hc 0 _ rfl,hc 1 _ rfl,hc 2 _ rfl,hc 3 _ rfl,hc 4 _ rfl,hc 5 _ rfl⟩
theorem eU.lens'{w:World}{k n b:Int}{s:Bool}{nm:ByteArray}{ks:List X}{a:Option Addr}{L c:Nat}(h:eU w (.mk k n b s nm ks) (X.cells k n b s nm (.slice a L c))):ks.length=L∧L≤c∧c≤maxLen:=by
 obtain⟨a2,c2,e,h1,h2,_⟩:=h.open
 have:=congrArg (fun l=>l[5]?) e
 simp at this
 obtain⟨_,h3,h4⟩:=this
 have h1':ks.length≤c2:=h1
 exact⟨h3.symm,by omega,by omega⟩
theorem aJ{w w':World}{p:Addr}{v:Value}(hb:Below w.heap.size w w')(h:w.cell? p=some v):w'.cell? p=some v:=(Below.cell hb (World.block_lt_of_cell? _ _ h)).trans h
abbrev iw(k n b:Int)(s:Bool)(nm:ByteArray)(v:Value):Array Value:=#[.int .i64 k, .int .u64 n, .int .i64 b, .bool s, .string nm,v]
def Eb(w:World)(e:Ending)(w':World):Prop:=e= .returned (.bool true)∧Below w.heap.size w w'
def SmI(x:X):Prop:=∀(w:World)(a a':Option Addr)(c c':Nat),eU w x (X.cells x.kind x.num x.bits x.sg x.name (.slice a x.kids.length c))→eU w x (X.cells x.kind x.num x.bits x.sg x.name (.slice a' x.kids.length c'))→
 Calls Try.prog 22 #[.agg (iw x.kind x.num x.bits x.sg x.name (.slice a x.kids.length c)), .agg (iw x.kind x.num x.bits x.sg x.name (.slice a' x.kids.length c'))] w (Eb w)
theorem NV(k n b:Int)(s:Bool)(nm:ByteArray)(ks:List X)(IH:∀y∈ks,SmI y)(w:World)(a a':Option Addr)(L c c':Nat)
 (hX:eU w (.mk k n b s nm ks) (X.cells k n b s nm (.slice a L c)))(hY:eU w (.mk k n b s nm ks) (X.cells k n b s nm (.slice a' L c'))):
 Calls Try.prog 22 #[.agg (iw k n b s nm (.slice a L c)), .agg (iw k n b s nm (.slice a' L c'))] w (Eb w):=by
 obtain⟨hL,RY,hcm⟩:=hX.lens'
 obtain⟨_,Yq,hcm'⟩:=hY.lens'
 have WE:=Lib.hid hX
 have O1:=Lib.hid hY
 have HIH:=Lib.hid IH
 have HLEN:=Lib.hid hL
 obtain⟨r1,hr1⟩:∃r1,r1=iw k n b s nm (.slice a L c):=⟨_,rfl⟩
 obtain⟨r2,hr2⟩:∃r2,r2=iw k n b s nm (.slice a' L c'):=⟨_,rfl⟩
 rw [←hr1,←hr2]
 obtain⟨w2,hw2⟩:∃w2,w2=(w.alloc (.cells r1 62)).alloc (.cells r2 62):=⟨_,rfl⟩
 have HS2:Hid (Below w.heap.size w w2∧ak w2 w.heap.size 62 (iw k n b s nm (.slice a L c))∧ak w2 (w.heap.size+1) 62 (iw k n b s nm (.slice a' L c'))):=by
  rw [←hr1,←hr2]
  have h1:ak (w.alloc (.cells r1 62)) w.heap.size 62 r1:=ak.new _ _ _
  have h2:=ak.new (w.alloc (.cells r1 62)) 62 r2
  have hs:(w.alloc (.cells r1 62)).heap.size=w.heap.size+1:=by show(w.heap.push _).size=_;simp
  rw [hs]at h2
  refine⟨?_,?_,?_⟩
  ·rw [hw2];exact Ext.alloc (Ext.alloc (Below.refl _ _) _) _
  ·rw [hw2];exact h1.alloc _
  ·rw [hw2];exact h2
 have HW2:=Lib.hid hw2
 have OL:(L:Int)≤9223372036854775807:=by unfold maxLen at hcm;omega
 clear hX hY IH hL hr1 hr2 hw2
 go_enter Try.func22,Try.ntmps22
 go_upto_region 1 with(fail)
 rw [←HW2.out]
 have x0:=HS2.out.2.1.cell 0;have x1:=HS2.out.2.1.cell 1;have x2:=HS2.out.2.1.cell 2;have x3:=HS2.out.2.1.cell 3;have x4:=HS2.out.2.1.cell 4;have x5:=HS2.out.2.1.cell 5
 have y0:=HS2.out.2.2.cell 0;have y1:=HS2.out.2.2.cell 1;have y2:=HS2.out.2.2.cell 2;have y3:=HS2.out.2.2.cell 3;have y4:=HS2.out.2.2.cell 4;have y5:=HS2.out.2.2.cell 5
 go_upto_region 4 with(fail)
 clear x0 x1 x2 x3 x4 x5 y0 y1 y2 y3 y4 y5
 go_loopw [44](fun i wr=>∃j:Nat,j≤L∧i= .int .i64 (j:Int)∧Hid (Below w2.heap.size w2 wr))(fun i wr=>L-(intOf i).toNat)
 case atStart=>exact⟨0,Nat.zero_le _,rfl,Below.refl _ _⟩
 case round=>
  obtain⟨j,hj,rfl,HR⟩:=hrel
  by_cases hlt:j<L
  ·obtain⟨y,hy⟩:∃y,ks[j]?=some y:=⟨_,List.getElem?_eq_getElem (by rw [HLEN.out];exact hlt)⟩
   have aG:Hid (Below w.heap.size w wr):=Ext.trans HS2.out.1 HR.out
   obtain⟨ga,oa,ay,cy,ha,hxa,k0,k1,k2,k3,k4,k5⟩:=(WE.out.keep aG.out).Xh hy
   obtain⟨gb,ob,az,cz,hb,hxb,l0,l1,l2,l3,l4,l5⟩:=(O1.out.keep aG.out).Xh hy
   subst ha;subst hb
   have Gw:Hid (∀wi,Below wr.heap.size wr wi→wi.cell? ⟨ga,oa+j*6,none⟩=some (.int .i64 y.kind)∧wi.cell? ⟨ga,oa+j*6+1,none⟩=some (.int .u64 y.num)∧wi.cell? ⟨ga,oa+j*6+2,none⟩=some (.int .i64 y.bits)∧wi.cell? ⟨ga,oa+j*6+3,none⟩=some (.bool y.sg)∧wi.cell? ⟨ga,oa+j*6+4,none⟩=some (.string y.name)∧wi.cell? ⟨ga,oa+j*6+5,none⟩=some (.slice ay y.kids.length cy)):=fun wi hw=>⟨aJ hw k0,aJ hw k1,aJ hw k2,aJ hw k3,aJ hw k4,aJ hw k5⟩
   have HKB:Hid (∀wi,Below wr.heap.size wr wi→wi.cell? ⟨gb,ob+j*6,none⟩=some (.int .i64 y.kind)∧wi.cell? ⟨gb,ob+j*6+1,none⟩=some (.int .u64 y.num)∧wi.cell? ⟨gb,ob+j*6+2,none⟩=some (.int .i64 y.bits)∧wi.cell? ⟨gb,ob+j*6+3,none⟩=some (.bool y.sg)∧wi.cell? ⟨gb,ob+j*6+4,none⟩=some (.string y.name)∧wi.cell? ⟨gb,ob+j*6+5,none⟩=some (.slice az y.kids.length cz)):=fun wi hw=>⟨aJ hw l0,aJ hw l1,aJ hw l2,aJ hw l3,aJ hw l4,aJ hw l5⟩
   have Gx:Hid (∀wi,Below wr.heap.size wr wi→wi.cell? ⟨w.heap.size,5,none⟩=some (.slice (some ⟨ga,oa,none⟩) L c)∧wi.cell? ⟨w.heap.size+1,5,none⟩=some (.slice (some ⟨gb,ob,none⟩) L c')):=fun wi hw=>⟨(HS2.out.2.1.keep (Ext.trans HR.out hw)).cell 5,(HS2.out.2.2.keep (Ext.trans HR.out hw)).cell 5⟩
   have HC:Hid (∀wi,Below wr.heap.size wr wi→Calls Try.prog 22 #[.agg (iw y.kind y.num y.bits y.sg y.name (.slice ay y.kids.length cy)), .agg (iw y.kind y.num y.bits y.sg y.name (.slice az y.kids.length cz))] wi (Eb wi)):=fun wi hw=>HIH.out y (List.mem_of_getElem? hy) wi ay az cy cz (hxa.keep hw) (hxb.keep hw)
   have iD:=Lib.hid hlt
   clear k0 k1 k2 k3 k4 k5 l0 l1 l2 l3 l4 l5 hxa hxb hy aG
   go_upto_region 6 with(fail)
   apply Ix.wp_region 10 (fun wi=>Hid (Below wr.heap.size wr wi)) (Ix.vk [(Ix.aA _),(Ix.aA _),(Ix.aA _),(Ix.aA _),(Ix.aA (.agg (iw y.kind y.num y.bits y.sg y.name (.slice ay y.kids.length cy)))),(Ix.aA _),(Ix.aA _),(Ix.aA _),(Ix.aA _),(Ix.aA (.agg (iw y.kind y.num y.bits y.sg y.name (.slice az y.kids.length cz))))]) (fun _=>false) (by kernel_rfl) (by kernel_rfl) (by kernel_rfl) (fun _ _ h hb=>Ext.trans h.out hb) (Ix.aN _) (Ix.bP _) (Below.refl _ _:Below wr.heap.size wr wr)
   case step=>
    refine aP 9 0 1 [] (fun wi HB=>?_)<|aP 8 1 2 [(0,some 47)] (fun wi HB=>?_)<|aP 7 2 3 [] (fun wi HB=>?_)<|aP 6 3 4 [(1,some 48),(2,some 49)] (fun wi HB=>?_)<|aP 5 4 5 [(3,some 50)] (fun wi HB=>?_)<|aP 4 5 6 [] (fun wi HB=>?_)<|aP 3 6 7 [(5,some 52)] (fun wi HB=>?_)<|aP 2 7 8 [] (fun wi HB=>?_)<|aP 1 8 9 [(6,some 53),(7,some 54)] (fun wi HB=>?_)<|aP 0 9 10 [(8,some 55)] (fun wi HB=>?_)<|Ix.aC
    (·((repeat(refine aB ?_;rintro _ rfl));refine aF ?_;(try simp only [aj]);refine Ix.ah rfl rfl fun K hK=>?_;(try simp only [aj]at hK);go_wp2_with(first|fail);exact hK _ _ (Below.refl _ _) rfl))
    (·(obtain⟨k0,k1,k2,k3,k4,k5⟩:=Gw.out _ HB.out;obtain⟨l0,l1,l2,l3,l4,l5⟩:=HKB.out _ HB.out;obtain⟨x5,y5⟩:=Gx.out _ HB.out;(repeat(refine aB ?_;rintro _ rfl));refine aF ?_;(try simp only [aj]);refine Ix.ah rfl rfl fun K hK=>?_;(try simp only [aj]at hK);go_wp2_with(first|fail);exact hK _ _ (Below.refl _ _) rfl))
    iterate 2(·((repeat(refine aB ?_;rintro _ rfl));refine aF ?_;(try simp only [aj]);refine Ix.ah rfl rfl fun K hK=>?_;(try simp only [aj]at hK);go_wp2_with(first|fail);exact hK _ _ (Below.refl _ _) rfl))
    (·(obtain⟨k0,k1,k2,k3,k4,k5⟩:=Gw.out _ HB.out;obtain⟨l0,l1,l2,l3,l4,l5⟩:=HKB.out _ HB.out;obtain⟨x5,y5⟩:=Gx.out _ HB.out;(repeat(refine aB ?_;rintro _ rfl));refine aF ?_;(try simp only [aj]);refine Ix.ah rfl rfl fun K hK=>?_;(try simp only [aj]at hK);go_wp2_with(first|fail);exact hK _ _ (Below.refl _ _) rfl))
    (·((repeat(refine aB ?_;rintro _ rfl));refine aF ?_;(try simp only [aj]);refine Ix.ah rfl rfl fun K hK=>?_;(try simp only [aj]at hK);go_wp2_with(first|fail);exact hK _ _ (Below.refl _ _) rfl))
    (·(obtain⟨k0,k1,k2,k3,k4,k5⟩:=Gw.out _ HB.out;obtain⟨l0,l1,l2,l3,l4,l5⟩:=HKB.out _ HB.out;obtain⟨x5,y5⟩:=Gx.out _ HB.out;(repeat(refine aB ?_;rintro _ rfl));refine aF ?_;(try simp only [aj]);refine Ix.ah rfl rfl fun K hK=>?_;(try simp only [aj]at hK);go_wp2_with(first|fail);exact hK _ _ (Below.refl _ _) rfl))
    iterate 2(·((repeat(refine aB ?_;rintro _ rfl));refine aF ?_;(try simp only [aj]);refine Ix.ah rfl rfl fun K hK=>?_;(try simp only [aj]at hK);go_wp2_with(first|fail);exact hK _ _ (Below.refl _ _) rfl))
    (·(obtain⟨k0,k1,k2,k3,k4,k5⟩:=Gw.out _ HB.out;obtain⟨l0,l1,l2,l3,l4,l5⟩:=HKB.out _ HB.out;obtain⟨x5,y5⟩:=Gx.out _ HB.out;(repeat(refine aB ?_;rintro _ rfl));refine aF ?_;(try simp only [aj]);refine Ix.ah rfl rfl fun K hK=>?_;(try simp only [aj]at hK);go_wp2_with(first|fail);exact hK _ _ (Below.refl _ _) rfl))
   intro lM wf HF hdf
   refine au 9 0 1 ?_;rintro _ _ rfl;refine au 8 1 2 ?_;rintro _ _ rfl;refine au 7 2 3 ?_;rintro _ _ rfl;refine au 6 3 4 ?_;rintro _ _ rfl;refine au 5 4 5 ?_;rintro _ _ rfl;refine au 4 5 6 ?_;rintro _ _ rfl;refine au 3 6 7 ?_;rintro _ _ rfl;refine au 2 7 8 ?_;rintro _ _ rfl;refine au 1 8 9 ?_;rintro _ _ rfl;refine au 0 9 10 ?_;rintro _ _ rfl
   refine Ix.aI ?_
   (try simp only [Act.put,List.setIfInBounds_toArray,List.set_cons_zero,List.set_cons_succ,List.drop_succ_cons,List.drop_zero])
   go_wp2_with(first|(go_at_call 22;refine(HC.out _ HF.out).mono ?_;rintro e w4⟨rfl,hb4⟩;have HB4:=Lib.hid hb4;clear hb4))
   all_goals(first|refine Ix.only ?_|(refine Ix.dK fun tz=>?_))
   go_wp2_with(fail)
   go_round
   case rel=>exact⟨j+1,iD.out,by go_num,Ext.trans HR.out (Ext.trans HF.out HB4.out)⟩
   case measure=>have:=iD.out;simp [intOf];omega
  ·obtain rfl:j=L:=by omega
   go_wp2_with(fail)
   go_ret
   exact⟨rfl,Ext.trans HS2.out.1 HR.out⟩
theorem zJ(x:X):SmI x:=X.up (fun x ih=>by obtain⟨k,n,b,s,nm,ks⟩:=x;exact fun w a a' c c' h1 h2=>NV k n b s nm ks ih w a a' _ c c' h1 h2) x
end
section
open Go.RowKit
theorem qW{n:Nat}(h:n=21):(Try.prog.info? 102).map (·.size)=some n:=by subst h;kernel_rfl
theorem Below.xU{B:Nat}{w w':World}(h:Below B w w'){g:Nat}(hg:B≤g)(cs:Array Value):Below B w (w'.setRow g cs):=
 h.trans ⟨rfl,rfl,rfl,by simp [World.setRow],fun k hk=>setRow_other w' g k cs (by omega)⟩
theorem yG{P:Program}(w:World)(g o:Nat)(ty:TypeId)(vs:List Value)(d:TypeDesc)(hvs:∀j u,vs[j]?=some u→w.cell? ⟨g,o+j,none⟩=some u)
 (hu:P.underlying ty=some d)(hd:(match d with| .struct _| .array _ _=>true|_=>false)=true)(hi:(P.info? ty).map (·.size)=some vs.length):(loadVar ty ⟨g,o,none⟩).run P w= .ok (.agg vs.toArray) w:=by
 have hl:(loadCells ⟨g,o,none⟩ vs.length).run P w= .ok vs.toArray w:=
  run_loadCells_list (P:=P) w ⟨g,o,none⟩ vs (fun j v hv=>by rw [X.bV];exact hvs j v hv)
 cases hq:P.info? ty with
 |none=>simp [hq]at hi
 |some i=>
  have hs:i.size=vs.length:=by simpa [hq]using hi
  have hagg:(isAgg ty).run P w= .ok true w:=by
   unfold isAgg
   rw [Sem.run_bind,run_underlying hu w]
   cases d<;>simp_all
  simp [loadVar,Sem.run_bind,hagg,sizeOf,typeInfo,hq,hs,hl]
theorem iF{P:Program}{o:Oper}{a:Act}{w:World}{K:Act→World→Prop}{Q:Exit→Act→World→Prop}(ty:TypeId)(x:Operand)(ho:o.op= .load ty x)
 (g k:Nat)(hx:a.eval x= .pointer (some ⟨g,k,none⟩))(vs:List Value)(d:TypeDesc)(hvs:∀j u,vs[j]?=some u→w.cell? ⟨g,k+j,none⟩=some u)
 (hu:P.underlying ty=some d)(hd:(match d with| .struct _| .array _ _=>true|_=>false)=true)(hi:(P.info? ty).map (·.size)=some vs.length)
 (h:K (a.put o.dst (.agg vs.toArray)) w):o.wp P a w K Q:=by
 unfold Oper.wp execOp
 simp only [ho,hx,Instr.loadAt,Instr.sureAddr,Sem.run_bind,Sem.run_pure,Result.andThen_ok,yG w g k ty vs d hvs hu hd hi]
 exact h
theorem dA.ones'{w:World}{p:Nat→Prop}{x:X}{cs:List Value}(h:dA w p x cs):∀u∈cs,u.oneCell'=true:=by
 cases h
 intro u hu
 simp only [X.cells,List.mem_cons,List.not_mem_nil,or_false]at hu
 rcases hu with rfl|rfl|rfl|rfl|rfl|rfl<;>rfl
theorem fV.ones{w:World}{p:Nat→Prop}{x:S}{cs:List Value}(h:fV w p x cs):cs.toArray.all (·.oneCell')=true:=by
 obtain⟨xs,is,v0,v1,v2,v3,rfl,hx,hi,h0,h1,h2,h3⟩:=h.parts
 obtain⟨_,_,rfl,_⟩:=h0.parts
 obtain⟨_,_,rfl,_⟩:=h1.parts
 obtain⟨_,_,rfl,_⟩:=h2.parts
 obtain⟨_,_,rfl,_⟩:=h3.parts
 rw [List.all_toArray,List.all_eq_true]
 intro u hu
 simp only [S.cells,List.mem_append,List.mem_cons,List.not_mem_nil,or_false]at hu
 rcases hu with(((h|h|h|h|h)|h)|h)|h|h|h|h
 all_goals first|(subst h;rfl)|exact hx.ones' u h|exact hi.ones' u h
theorem aQ.at'{w:World}{p:Nat→Prop}{l:List S}{a:Option Addr}{L c:Nat}(h:aQ w p l (.slice a L c)){i:Nat}{y:S}(hy:l[i]?=some y):
 ∃g off cs,a=some ⟨g,off,none⟩∧fV w p y cs∧∀j u,cs[j]?=some u→w.cell? ⟨g,off+i*21+j,none⟩=some u:=by
 obtain⟨a2,c2,e,_,_,h⟩:=h.parts
 injection e with e1 e2 e3
 subst e1
 obtain⟨g,off,cs,_,ha,hx,hc⟩:=h i y hy
 exact⟨g,off,cs,ha,hx,hc⟩
theorem Oa{w:World}{g8 t B:Nat}{v:Value}{z8 zs:Array Value}{cs:List Value}(h8:ak w g8 102 z8)(hc:cs.length=21)(e:v=Value.pointer (some ⟨t,0,none⟩))(hl:B≤t)(hz:zs.size=21)(hb:ak w t 102 zs):
 ∃g,v=Value.pointer (some ⟨g,0,none⟩)∧B≤g∧∃zs:Array Value,zs.size=21∧ak (w.setRow g8 cs.toArray) g 102 zs:=by
 refine⟨t,e,hl,?_⟩
 by_cases h:t=g8
 ·subst h;exact⟨cs.toArray,by simpa using hc,setRow_heap _ _ _ _ _ _ h8⟩
 ·exact⟨zs,hz,(setRow_other _ _ _ _ h).trans hb⟩
def G5(l:List S):Prop:=∀(w:World)(v v':Value),aQ w (fun _=>True) l v→aQ w (fun _=>True) l v'→Calls Try.prog 23 #[v,v'] w (Eb w)
theorem nK(l:List S)(IH:∀x∈l,G5 x.ini∧G5 x.step∧G5 x.body∧G5 x.els):G5 l:=by
 intro w v v' h1 h2
 have HX:=Lib.hid h1
 have HY:=Lib.hid h2
 obtain⟨a,c,rfl,RY,hcm,_⟩:=h1.parts
 obtain⟨a',c',rfl,Yq,hcm',_⟩:=h2.parts
 have HIH:=Lib.hid IH
 obtain⟨L,hL⟩:∃L,l.length=L:=⟨_,rfl⟩
 rw [hL]at RY Yq HX HY⊢
 have OL:(L:Int)≤9223372036854775807:=by unfold maxLen at hcm;omega
 have HLEN:=Lib.hid hL
 clear h1 h2 IH hL
 go_enter Try.func23,Try.ntmps23
 go_upto_region 4 with(fail)
 go_loopw [15](fun i wr=>∃j:Nat,j≤L∧i= .int .i64 (j:Int)∧Hid (Below w.heap.size w wr))(fun i wr=>L-(intOf i).toNat)
 case atStart=>exact⟨0,Nat.zero_le _,rfl,Below.refl _ _⟩
 case round=>
  obtain⟨j,hj,rfl,HR⟩:=hrel
  by_cases hlt:j<L
  ·obtain⟨y,hy⟩:∃y,l[j]?=some y:=⟨_,List.getElem?_eq_getElem (by rw [HLEN.out];exact hlt)⟩
   obtain⟨L9,abH⟩:∃L9,L9=L:=⟨_,rfl⟩
   have h1:aQ wr (fun k=>k<wr.heap.size) l (.slice a L c):=(HX.out.keep HR.out).move fun g _ hg=>⟨hg,rfl⟩
   have h2:aQ wr (fun k=>k<wr.heap.size) l (.slice a' L c'):=(HY.out.keep HR.out).move fun g _ hg=>⟨hg,rfl⟩
   obtain⟨ga,oa,cs,hae,hcs,Tt⟩:=h1.at' hy
   obtain⟨gb,ob,ds,hbe,hds,Tv⟩:=h2.at' hy
   subst hae;subst hbe
   have FW:Hid (∀wi,Below wr.heap.size wr wi→∀i u,cs[i]?=some u→wi.cell? ⟨ga,oa+j*21+i,none⟩=some u):=fun wi hw i u hu=>aJ hw (Tt i u hu)
   have Tz:Hid (∀wi,Below wr.heap.size wr wi→∀i u,ds[i]?=some u→wi.cell? ⟨gb,ob+j*21+i,none⟩=some u):=fun wi hw i u hu=>aJ hw (Tv i u hu)
   have Ol:=Lib.hid hcs.len
   have Ry:=Lib.hid hds.len
   have JX:=Lib.hid hcs
   have Rz:=Lib.hid hds
   have kU:=Lib.hid (HIH.out y (List.mem_of_getElem? hy))
   have iD:=Lib.hid hlt
   clear h1 h2 Tt Tv hcs hds hy abH
   go_upto_region 6 with(fail)
   apply Iy.wp_region 11 [10] (fun n=>if n=0 then[]else[8]) (Ix.Rb) (fun n vs wi=>Hid (Below wr.heap.size wr wi)∧(match n with|0=>True|_+1=>∀g,vs 8=Value.pointer (some ⟨g,0,none⟩)→ak wi g 102 cs.toArray)) (Ix.vk [(Ix.aA _),(Ix.aA _),(Ix.aA _),(Ix.aA (.agg cs.toArray)),(Ix.aA _),(Ix.aA _),(Ix.aA _),(Ix.aA (.agg ds.toArray)),(Ix.dU (fun v w'=>∃g,v=Value.pointer (some ⟨g,0,none⟩)∧wr.heap.size≤g∧∃zs:Array Value,zs.size=21∧ak w' g 102 zs) (fun v w1 w2 h hb=>by obtain⟨g,e,hl,zs,hz,hi⟩:=h;exact⟨g,e,hl,zs,hz,hi.keep hb⟩)),(Ix.dU (fun v w'=>∃g,v=Value.pointer (some ⟨g,0,none⟩)∧wr.heap.size≤g∧∃zs:Array Value,zs.size=21∧ak w' g 102 zs) (fun v w1 w2 h hb=>by obtain⟨g,e,hl,zs,hz,hi⟩:=h;exact⟨g,e,hl,zs,hz,hi.keep hb⟩)),(Ix.mY (fun _=>True))]) (fun k=>k==8||k==9) (by kernel_rfl) (by kernel_rfl) (by kernel_rfl) (by kernel_rfl) (by kernel_rfl) (fun n vs vs' w hk h=>by cases n with|zero=>exact h|succ n=>exact⟨h.1,fun g e=>h.2 g ((hk 8 (by simp)).trans e)⟩) (fun _=>Below.refl _ _) (fun n vs _ _ h hb=>⟨Ext.trans h.1.out hb,by cases n with|zero=>trivial|succ n=>exact fun g e=>(h.2 g e).keep hb⟩) (Ix.aN _) (fun j v w hj hv=>by simp only [Bool.or_eq_true,beq_iff_eq]at hj;rcases hj with rfl|rfl<;>(obtain⟨g,e,_,_,_,hg⟩:=hv;exact⟨g,e,hg.lt⟩)) (fun vs=>⟨Ext.drew (Below.refl _ _),trivial⟩)
   case step=>
    refine aZ 10 0 1 [] (fun _ _ wi HB=>?_)<|aZ 9 1 2 [] (fun _ _ wi HB=>?_)<|aZ 8 2 3 [(0,some 18),(1,some 19)] (fun _ _ wi HB=>?_)<|aZ 7 3 4 [(2,some 20)] (fun _ _ wi HB=>?_)<|aZ 6 4 5 [] (fun _ _ wi HB=>?_)<|aZ 5 5 6 [] (fun _ _ wi HB=>?_)<|aZ 4 6 7 [(4,some 22),(5,some 23)] (fun _ _ wi HB=>?_)<|aZ 3 7 8 [(6,some 24)] (fun _ _ wi HB=>?_)<|aZ 2 8 9 [] (fun _ _ wi HB=>?_)<|aZ 1 9 10 [] (fun _ _ wi HB=>?_)<|Aw 0 10 11 0 [(3,some 21),(8,some 6)] (fun ji wi HB=>?_)<|Iy.aC
    iterate 3(·((repeat(refine aB ?_;rintro _ rfl));refine aF ?_;(try simp only [aj]);refine Iy.ah rfl rfl fun K hK=>?_;(try simp only [aj]at hK);go_wp2_with(first|fail);exact hK _ _ (Below.refl _ _) rfl))
    (·(obtain⟨iP,_⟩:=HB;(repeat(refine aB ?_;rintro _ rfl));refine aF ?_;(try simp only [aj]);refine Iy.ah rfl rfl fun K hK=>?_;(try simp only [aj]at hK);refine iF 102 _ rfl ga (oa+j*21) rfl cs _ (FW.out _ iP.out) Try.underlying102 rfl (qW Ol.out) ?_;exact hK _ _ (Below.refl _ _) rfl))
    iterate 3(·((repeat(refine aB ?_;rintro _ rfl));refine aF ?_;(try simp only [aj]);refine Iy.ah rfl rfl fun K hK=>?_;(try simp only [aj]at hK);go_wp2_with(first|fail);exact hK _ _ (Below.refl _ _) rfl))
    (·(obtain⟨iP,_⟩:=HB;(repeat(refine aB ?_;rintro _ rfl));refine aF ?_;(try simp only [aj]);refine Iy.ah rfl rfl fun K hK=>?_;(try simp only [aj]at hK);refine iF 102 _ rfl gb (ob+j*21) rfl ds _ (Tz.out _ iP.out) Try.underlying102 rfl (qW Ry.out) ?_;exact hK _ _ (Below.refl _ _) rfl))
    iterate 2(·(obtain⟨iP,_⟩:=HB;(repeat(refine aB ?_;rintro _ rfl));refine aF ?_;(try simp only [aj]);refine Iy.iV rfl fun K hK=>?_;(try simp only [aj]at hK);go_wp2_with(first|fail);exact hK _ (Ext.alloc (Below.refl _ _) _) ⟨_,rfl,iP.out.size,_,rfl,ak.new _ _ _⟩))
    (·(obtain⟨iP,_⟩:=HB;refine aB ?_;rintro _⟨rfl,ev3⟩;refine aB ?_;rintro _⟨⟨g8,rfl,TA,z8,Om,sN⟩,ev8⟩;refine aF ?_;(try simp only [aj]);refine Iy.ah rfl rfl fun K hK=>?_;(try simp only [aj]at hK);refine wp_store_row 102 _ _ rfl g8 cs.toArray rfl rfl 102 z8 sN (qW Ol.out) (Om.trans Ol.out.symm) (fV.ones JX.out) ?_;exact hK undef _ ⟨⟨Below.xU iP.out TA _,fun g e=>(by rw [ev8]at e;injection e with e;injection e with e;injection e with e;subst e;exact setRow_heap _ _ _ _ _ _ sN)⟩,Iy.dG (by repeat(first|exact True.intro|refine And.intro (fun _ h=>h) ?_|refine And.intro (fun hne=>absurd rfl hne) ?_|refine And.intro (fun _ h=>(by obtain⟨t9,e9,h9,z9,G6,h10⟩:=h;exact Oa sN Ol.out e9 h9 G6 h10)) ?_))⟩ trivial))
   intro lM wf HF hdf
   refine au 10 0 1 ?_;rintro _ _ rfl;refine au 9 1 2 ?_;rintro _ _ rfl;refine au 8 2 3 ?_;rintro _ _ rfl;refine au 7 3 4 ?_;rintro _ _ rfl;refine au 6 4 5 ?_;rintro _ _ rfl;refine au 5 5 6 ?_;rintro _ _ rfl;refine au 4 6 7 ?_;rintro _ _ rfl;refine au 3 7 8 ?_;rintro _ _ rfl;refine au 2 8 9 ?_;rintro _ ev8⟨g8,rfl,TA,z8,Om,sN⟩;refine au 1 9 10 ?_;rintro _ ev9⟨g9,rfl,YO,z9,G6,eG⟩;refine au 0 10 11 ?_;rintro _ _ _
   refine Ix.aI ?_
   obtain⟨Tc,TB⟩:=HF;have CU:=TB _ ev8;have hne:g8≠g9:=fun e=>hdf 8 9 (by decide) (by decide) rfl rfl (by decide) (by rw [ev8,ev9,e])
   (try simp only [Act.put,List.setIfInBounds_toArray,List.set_cons_zero,List.set_cons_succ,List.drop_succ_cons,List.drop_zero])
   go_wp2_with(first|(refine wpList_store_row rfl 102 _ _ rfl g9 ds.toArray rfl rfl 102 z9 eG (qW Ry.out) (G6.trans Ry.out.symm) (fV.ones Rz.out) ?_;generalize hw7:World.setRow _ _ _=w7))
   all_goals(first|refine Ix.only ?_|(refine Ix.dK fun tz=>?_))
   have lQ:Hid (Below wr.heap.size wr w7∧ak w7 g8 102 cs.toArray∧ak w7 g9 102 ds.toArray):=by
    show _∧_∧_
    rw [←hw7]
    exact⟨Below.xU Tc.out YO _,(setRow_other _ _ _ _ hne).trans CU,setRow_heap _ _ _ _ _ _ eG⟩
   clear hw7 sN eG CU TB hdf Om G6 FW Tz Ol Ry
   obtain⟨xs,is,v0,v1,v2,v3,e1,hx,hi,s0,s1,s2,s3⟩:=JX.out.parts
   obtain⟨ys,js,u0,u1,u2,u3,e2,hx',hi',t0,t1,t2,t3⟩:=Rz.out.parts
   clear JX Rz
   subst e1;subst e2
   obtain⟨xa,xc,rfl,_⟩:=hx.at.open
   obtain⟨ia,ic,rfl,_⟩:=hi.at.open
   obtain⟨ya,yc,rfl,_⟩:=hx'.at.open
   obtain⟨ja,jc,rfl,_⟩:=hi'.at.open
   have HCX:Hid (∀wi,Below w7.heap.size w7 wi→Calls Try.prog 22 #[.agg (iw y.xx.kind y.xx.num y.xx.bits y.xx.sg y.xx.name (.slice xa y.xx.kids.length xc)), .agg (iw y.xx.kind y.xx.num y.xx.bits y.xx.sg y.xx.name (.slice ya y.xx.kids.length yc))] wi (Eb wi)):=fun wi hw=>zJ y.xx wi xa ya xc yc ((hx.keep (Ext.trans lQ.out.1 hw)).at) ((hx'.keep (Ext.trans lQ.out.1 hw)).at)
   have JX:Hid (∀wi,Below w7.heap.size w7 wi→Calls Try.prog 22 #[.agg (iw y.ii.kind y.ii.num y.ii.bits y.ii.sg y.ii.name (.slice ia y.ii.kids.length ic)), .agg (iw y.ii.kind y.ii.num y.ii.bits y.ii.sg y.ii.name (.slice ja y.ii.kids.length jc))] wi (Eb wi)):=fun wi hw=>zJ y.ii wi ia ja ic jc ((hi.keep (Ext.trans lQ.out.1 hw)).at) ((hi'.keep (Ext.trans lQ.out.1 hw)).at)
   have HC0:Hid (∀wi,Below w7.heap.size w7 wi→Calls Try.prog 23 #[v0,u0] wi (Eb wi)):=fun wi hw=>kU.out.1 wi v0 u0 ((s0.keep (Ext.trans lQ.out.1 hw)).move fun g _ _=>⟨trivial,rfl⟩) ((t0.keep (Ext.trans lQ.out.1 hw)).move fun g _ _=>⟨trivial,rfl⟩)
   have iE:Hid (∀wi,Below w7.heap.size w7 wi→Calls Try.prog 23 #[v1,u1] wi (Eb wi)):=fun wi hw=>kU.out.2.1 wi v1 u1 ((s1.keep (Ext.trans lQ.out.1 hw)).move fun g _ _=>⟨trivial,rfl⟩) ((t1.keep (Ext.trans lQ.out.1 hw)).move fun g _ _=>⟨trivial,rfl⟩)
   have HC2:Hid (∀wi,Below w7.heap.size w7 wi→Calls Try.prog 23 #[v2,u2] wi (Eb wi)):=fun wi hw=>kU.out.2.2.1 wi v2 u2 ((s2.keep (Ext.trans lQ.out.1 hw)).move fun g _ _=>⟨trivial,rfl⟩) ((t2.keep (Ext.trans lQ.out.1 hw)).move fun g _ _=>⟨trivial,rfl⟩)
   have wM:Hid (∀wi,Below w7.heap.size w7 wi→Calls Try.prog 23 #[v3,u3] wi (Eb wi)):=fun wi hw=>kU.out.2.2.2 wi v3 u3 ((s3.keep (Ext.trans lQ.out.1 hw)).move fun g _ _=>⟨trivial,rfl⟩) ((t3.keep (Ext.trans lQ.out.1 hw)).move fun g _ _=>⟨trivial,rfl⟩)
   have H8:Hid (ak w7 g8 102 #[.int .i64 y.kind, .int .i64 y.bits, .bool y.sg, .string y.name, .bool y.has, .int .i64 y.xx.kind, .int .u64 y.xx.num, .int .i64 y.xx.bits, .bool y.xx.sg, .string y.xx.name, .slice xa y.xx.kids.length xc, .int .i64 y.ii.kind, .int .u64 y.ii.num, .int .i64 y.ii.bits, .bool y.ii.sg, .string y.ii.name, .slice ia y.ii.kids.length ic,v0,v1,v2,v3]):=lQ.out.2.1
   have H9:Hid (ak w7 g9 102 #[.int .i64 y.kind, .int .i64 y.bits, .bool y.sg, .string y.name, .bool y.has, .int .i64 y.xx.kind, .int .u64 y.xx.num, .int .i64 y.xx.bits, .bool y.xx.sg, .string y.xx.name, .slice ya y.xx.kids.length yc, .int .i64 y.ii.kind, .int .u64 y.ii.num, .int .i64 y.ii.bits, .bool y.ii.sg, .string y.ii.name, .slice ja y.ii.kids.length jc,u0,u1,u2,u3]):=lQ.out.2.2
   have dD:=Lib.hid lQ.out.1
   have aG:Hid (Below w7.heap.size w7 w7):=Below.refl _ _
   clear lQ hx hi hx' hi' s0 s1 s2 s3 t0 t1 t2 t3 kU
   have p0:=H8.out.cell 0;have p1:=H8.out.cell 1;have p2:=H8.out.cell 2;have p3:=H8.out.cell 3;have p4:=H8.out.cell 4;have p5:=H8.out.cell 5;have p6:=H8.out.cell 6;have p7:=H8.out.cell 7;have p8:=H8.out.cell 8;have p9:=H8.out.cell 9;have p10:=H8.out.cell 10;have p11:=H8.out.cell 11;have p12:=H8.out.cell 12;have p13:=H8.out.cell 13;have JY:=H8.out.cell 14;have JZ:=H8.out.cell 15;have p16:=H8.out.cell 16;have J3:=H8.out.cell 17;have J4:=H8.out.cell 18;have J5:=H8.out.cell 19;have J6:=H8.out.cell 20
   have q0:=H9.out.cell 0;have q1:=H9.out.cell 1;have q2:=H9.out.cell 2;have q3:=H9.out.cell 3;have q4:=H9.out.cell 4;have q5:=H9.out.cell 5;have q6:=H9.out.cell 6;have q7:=H9.out.cell 7;have q8:=H9.out.cell 8;have q9:=H9.out.cell 9;have q10:=H9.out.cell 10;have q11:=H9.out.cell 11;have q12:=H9.out.cell 12;have q13:=H9.out.cell 13;have J7:=H9.out.cell 14;have J8:=H9.out.cell 15;have q16:=H9.out.cell 16;have Ib:=H9.out.cell 17;have Ic:=H9.out.cell 18;have J9:=H9.out.cell 19;have Ko:=H9.out.cell 20
   go_wp2_with(first|(go_at_call 22;refine(HCX.out _ aG.out).mono ?_;rintro e w8⟨rfl,hb⟩;clear HCX;clear p0 p1 p2 p3 p4 p5 p6 p7 p8 p9 p10 p11 p12 p13 JY JZ p16 J3 J4 J5 J6 q0 q1 q2 q3 q4 q5 q6 q7 q8 q9 q10 q11 q12 q13 J7 J8 q16 Ib Ic J9 Ko;replace aG:=Lib.hid (Ext.trans aG.out hb);have p0:=(H8.out.keep aG.out).cell 0;have p1:=(H8.out.keep aG.out).cell 1;have p2:=(H8.out.keep aG.out).cell 2;have p3:=(H8.out.keep aG.out).cell 3;have p4:=(H8.out.keep aG.out).cell 4;have p5:=(H8.out.keep aG.out).cell 5;have p6:=(H8.out.keep aG.out).cell 6;have p7:=(H8.out.keep aG.out).cell 7;have p8:=(H8.out.keep aG.out).cell 8;have p9:=(H8.out.keep aG.out).cell 9;have p10:=(H8.out.keep aG.out).cell 10;have p11:=(H8.out.keep aG.out).cell 11;have p12:=(H8.out.keep aG.out).cell 12;have p13:=(H8.out.keep aG.out).cell 13;have JY:=(H8.out.keep aG.out).cell 14;have JZ:=(H8.out.keep aG.out).cell 15;have p16:=(H8.out.keep aG.out).cell 16;have J3:=(H8.out.keep aG.out).cell 17;have J4:=(H8.out.keep aG.out).cell 18;have J5:=(H8.out.keep aG.out).cell 19;have J6:=(H8.out.keep aG.out).cell 20;have q0:=(H9.out.keep aG.out).cell 0;have q1:=(H9.out.keep aG.out).cell 1;have q2:=(H9.out.keep aG.out).cell 2;have q3:=(H9.out.keep aG.out).cell 3;have q4:=(H9.out.keep aG.out).cell 4;have q5:=(H9.out.keep aG.out).cell 5;have q6:=(H9.out.keep aG.out).cell 6;have q7:=(H9.out.keep aG.out).cell 7;have q8:=(H9.out.keep aG.out).cell 8;have q9:=(H9.out.keep aG.out).cell 9;have q10:=(H9.out.keep aG.out).cell 10;have q11:=(H9.out.keep aG.out).cell 11;have q12:=(H9.out.keep aG.out).cell 12;have q13:=(H9.out.keep aG.out).cell 13;have J7:=(H9.out.keep aG.out).cell 14;have J8:=(H9.out.keep aG.out).cell 15;have q16:=(H9.out.keep aG.out).cell 16;have Ib:=(H9.out.keep aG.out).cell 17;have Ic:=(H9.out.keep aG.out).cell 18;have J9:=(H9.out.keep aG.out).cell 19;have Ko:=(H9.out.keep aG.out).cell 20;clear hb)|(go_at_call 22;refine(JX.out _ aG.out).mono ?_;rintro e w8⟨rfl,hb⟩;clear JX;clear p0 p1 p2 p3 p4 p5 p6 p7 p8 p9 p10 p11 p12 p13 JY JZ p16 J3 J4 J5 J6 q0 q1 q2 q3 q4 q5 q6 q7 q8 q9 q10 q11 q12 q13 J7 J8 q16 Ib Ic J9 Ko;replace aG:=Lib.hid (Ext.trans aG.out hb);have p0:=(H8.out.keep aG.out).cell 0;have p1:=(H8.out.keep aG.out).cell 1;have p2:=(H8.out.keep aG.out).cell 2;have p3:=(H8.out.keep aG.out).cell 3;have p4:=(H8.out.keep aG.out).cell 4;have p5:=(H8.out.keep aG.out).cell 5;have p6:=(H8.out.keep aG.out).cell 6;have p7:=(H8.out.keep aG.out).cell 7;have p8:=(H8.out.keep aG.out).cell 8;have p9:=(H8.out.keep aG.out).cell 9;have p10:=(H8.out.keep aG.out).cell 10;have p11:=(H8.out.keep aG.out).cell 11;have p12:=(H8.out.keep aG.out).cell 12;have p13:=(H8.out.keep aG.out).cell 13;have JY:=(H8.out.keep aG.out).cell 14;have JZ:=(H8.out.keep aG.out).cell 15;have p16:=(H8.out.keep aG.out).cell 16;have J3:=(H8.out.keep aG.out).cell 17;have J4:=(H8.out.keep aG.out).cell 18;have J5:=(H8.out.keep aG.out).cell 19;have J6:=(H8.out.keep aG.out).cell 20;have q0:=(H9.out.keep aG.out).cell 0;have q1:=(H9.out.keep aG.out).cell 1;have q2:=(H9.out.keep aG.out).cell 2;have q3:=(H9.out.keep aG.out).cell 3;have q4:=(H9.out.keep aG.out).cell 4;have q5:=(H9.out.keep aG.out).cell 5;have q6:=(H9.out.keep aG.out).cell 6;have q7:=(H9.out.keep aG.out).cell 7;have q8:=(H9.out.keep aG.out).cell 8;have q9:=(H9.out.keep aG.out).cell 9;have q10:=(H9.out.keep aG.out).cell 10;have q11:=(H9.out.keep aG.out).cell 11;have q12:=(H9.out.keep aG.out).cell 12;have q13:=(H9.out.keep aG.out).cell 13;have J7:=(H9.out.keep aG.out).cell 14;have J8:=(H9.out.keep aG.out).cell 15;have q16:=(H9.out.keep aG.out).cell 16;have Ib:=(H9.out.keep aG.out).cell 17;have Ic:=(H9.out.keep aG.out).cell 18;have J9:=(H9.out.keep aG.out).cell 19;have Ko:=(H9.out.keep aG.out).cell 20;clear hb)|(go_at_call 23;refine(HC0.out _ aG.out).mono ?_;rintro e w8⟨rfl,hb⟩;clear HC0;clear p0 p1 p2 p3 p4 p5 p6 p7 p8 p9 p10 p11 p12 p13 JY JZ p16 J3 J4 J5 J6 q0 q1 q2 q3 q4 q5 q6 q7 q8 q9 q10 q11 q12 q13 J7 J8 q16 Ib Ic J9 Ko;replace aG:=Lib.hid (Ext.trans aG.out hb);have p0:=(H8.out.keep aG.out).cell 0;have p1:=(H8.out.keep aG.out).cell 1;have p2:=(H8.out.keep aG.out).cell 2;have p3:=(H8.out.keep aG.out).cell 3;have p4:=(H8.out.keep aG.out).cell 4;have p5:=(H8.out.keep aG.out).cell 5;have p6:=(H8.out.keep aG.out).cell 6;have p7:=(H8.out.keep aG.out).cell 7;have p8:=(H8.out.keep aG.out).cell 8;have p9:=(H8.out.keep aG.out).cell 9;have p10:=(H8.out.keep aG.out).cell 10;have p11:=(H8.out.keep aG.out).cell 11;have p12:=(H8.out.keep aG.out).cell 12;have p13:=(H8.out.keep aG.out).cell 13;have JY:=(H8.out.keep aG.out).cell 14;have JZ:=(H8.out.keep aG.out).cell 15;have p16:=(H8.out.keep aG.out).cell 16;have J3:=(H8.out.keep aG.out).cell 17;have J4:=(H8.out.keep aG.out).cell 18;have J5:=(H8.out.keep aG.out).cell 19;have J6:=(H8.out.keep aG.out).cell 20;have q0:=(H9.out.keep aG.out).cell 0;have q1:=(H9.out.keep aG.out).cell 1;have q2:=(H9.out.keep aG.out).cell 2;have q3:=(H9.out.keep aG.out).cell 3;have q4:=(H9.out.keep aG.out).cell 4;have q5:=(H9.out.keep aG.out).cell 5;have q6:=(H9.out.keep aG.out).cell 6;have q7:=(H9.out.keep aG.out).cell 7;have q8:=(H9.out.keep aG.out).cell 8;have q9:=(H9.out.keep aG.out).cell 9;have q10:=(H9.out.keep aG.out).cell 10;have q11:=(H9.out.keep aG.out).cell 11;have q12:=(H9.out.keep aG.out).cell 12;have q13:=(H9.out.keep aG.out).cell 13;have J7:=(H9.out.keep aG.out).cell 14;have J8:=(H9.out.keep aG.out).cell 15;have q16:=(H9.out.keep aG.out).cell 16;have Ib:=(H9.out.keep aG.out).cell 17;have Ic:=(H9.out.keep aG.out).cell 18;have J9:=(H9.out.keep aG.out).cell 19;have Ko:=(H9.out.keep aG.out).cell 20;clear hb)|(go_at_call 23;refine(iE.out _ aG.out).mono ?_;rintro e w8⟨rfl,hb⟩;clear iE;clear p0 p1 p2 p3 p4 p5 p6 p7 p8 p9 p10 p11 p12 p13 JY JZ p16 J3 J4 J5 J6 q0 q1 q2 q3 q4 q5 q6 q7 q8 q9 q10 q11 q12 q13 J7 J8 q16 Ib Ic J9 Ko;replace aG:=Lib.hid (Ext.trans aG.out hb);have p0:=(H8.out.keep aG.out).cell 0;have p1:=(H8.out.keep aG.out).cell 1;have p2:=(H8.out.keep aG.out).cell 2;have p3:=(H8.out.keep aG.out).cell 3;have p4:=(H8.out.keep aG.out).cell 4;have p5:=(H8.out.keep aG.out).cell 5;have p6:=(H8.out.keep aG.out).cell 6;have p7:=(H8.out.keep aG.out).cell 7;have p8:=(H8.out.keep aG.out).cell 8;have p9:=(H8.out.keep aG.out).cell 9;have p10:=(H8.out.keep aG.out).cell 10;have p11:=(H8.out.keep aG.out).cell 11;have p12:=(H8.out.keep aG.out).cell 12;have p13:=(H8.out.keep aG.out).cell 13;have JY:=(H8.out.keep aG.out).cell 14;have JZ:=(H8.out.keep aG.out).cell 15;have p16:=(H8.out.keep aG.out).cell 16;have J3:=(H8.out.keep aG.out).cell 17;have J4:=(H8.out.keep aG.out).cell 18;have J5:=(H8.out.keep aG.out).cell 19;have J6:=(H8.out.keep aG.out).cell 20;have q0:=(H9.out.keep aG.out).cell 0;have q1:=(H9.out.keep aG.out).cell 1;have q2:=(H9.out.keep aG.out).cell 2;have q3:=(H9.out.keep aG.out).cell 3;have q4:=(H9.out.keep aG.out).cell 4;have q5:=(H9.out.keep aG.out).cell 5;have q6:=(H9.out.keep aG.out).cell 6;have q7:=(H9.out.keep aG.out).cell 7;have q8:=(H9.out.keep aG.out).cell 8;have q9:=(H9.out.keep aG.out).cell 9;have q10:=(H9.out.keep aG.out).cell 10;have q11:=(H9.out.keep aG.out).cell 11;have q12:=(H9.out.keep aG.out).cell 12;have q13:=(H9.out.keep aG.out).cell 13;have J7:=(H9.out.keep aG.out).cell 14;have J8:=(H9.out.keep aG.out).cell 15;have q16:=(H9.out.keep aG.out).cell 16;have Ib:=(H9.out.keep aG.out).cell 17;have Ic:=(H9.out.keep aG.out).cell 18;have J9:=(H9.out.keep aG.out).cell 19;have Ko:=(H9.out.keep aG.out).cell 20;clear hb)|(go_at_call 23;refine(HC2.out _ aG.out).mono ?_;rintro e w8⟨rfl,hb⟩;clear HC2;clear p0 p1 p2 p3 p4 p5 p6 p7 p8 p9 p10 p11 p12 p13 JY JZ p16 J3 J4 J5 J6 q0 q1 q2 q3 q4 q5 q6 q7 q8 q9 q10 q11 q12 q13 J7 J8 q16 Ib Ic J9 Ko;replace aG:=Lib.hid (Ext.trans aG.out hb);have p0:=(H8.out.keep aG.out).cell 0;have p1:=(H8.out.keep aG.out).cell 1;have p2:=(H8.out.keep aG.out).cell 2;have p3:=(H8.out.keep aG.out).cell 3;have p4:=(H8.out.keep aG.out).cell 4;have p5:=(H8.out.keep aG.out).cell 5;have p6:=(H8.out.keep aG.out).cell 6;have p7:=(H8.out.keep aG.out).cell 7;have p8:=(H8.out.keep aG.out).cell 8;have p9:=(H8.out.keep aG.out).cell 9;have p10:=(H8.out.keep aG.out).cell 10;have p11:=(H8.out.keep aG.out).cell 11;have p12:=(H8.out.keep aG.out).cell 12;have p13:=(H8.out.keep aG.out).cell 13;have JY:=(H8.out.keep aG.out).cell 14;have JZ:=(H8.out.keep aG.out).cell 15;have p16:=(H8.out.keep aG.out).cell 16;have J3:=(H8.out.keep aG.out).cell 17;have J4:=(H8.out.keep aG.out).cell 18;have J5:=(H8.out.keep aG.out).cell 19;have J6:=(H8.out.keep aG.out).cell 20;have q0:=(H9.out.keep aG.out).cell 0;have q1:=(H9.out.keep aG.out).cell 1;have q2:=(H9.out.keep aG.out).cell 2;have q3:=(H9.out.keep aG.out).cell 3;have q4:=(H9.out.keep aG.out).cell 4;have q5:=(H9.out.keep aG.out).cell 5;have q6:=(H9.out.keep aG.out).cell 6;have q7:=(H9.out.keep aG.out).cell 7;have q8:=(H9.out.keep aG.out).cell 8;have q9:=(H9.out.keep aG.out).cell 9;have q10:=(H9.out.keep aG.out).cell 10;have q11:=(H9.out.keep aG.out).cell 11;have q12:=(H9.out.keep aG.out).cell 12;have q13:=(H9.out.keep aG.out).cell 13;have J7:=(H9.out.keep aG.out).cell 14;have J8:=(H9.out.keep aG.out).cell 15;have q16:=(H9.out.keep aG.out).cell 16;have Ib:=(H9.out.keep aG.out).cell 17;have Ic:=(H9.out.keep aG.out).cell 18;have J9:=(H9.out.keep aG.out).cell 19;have Ko:=(H9.out.keep aG.out).cell 20;clear hb)|(go_at_call 23;refine(wM.out _ aG.out).mono ?_;rintro e w8⟨rfl,hb⟩;clear wM;clear p0 p1 p2 p3 p4 p5 p6 p7 p8 p9 p10 p11 p12 p13 JY JZ p16 J3 J4 J5 J6 q0 q1 q2 q3 q4 q5 q6 q7 q8 q9 q10 q11 q12 q13 J7 J8 q16 Ib Ic J9 Ko;replace aG:=Lib.hid (Ext.trans aG.out hb);have p0:=(H8.out.keep aG.out).cell 0;have p1:=(H8.out.keep aG.out).cell 1;have p2:=(H8.out.keep aG.out).cell 2;have p3:=(H8.out.keep aG.out).cell 3;have p4:=(H8.out.keep aG.out).cell 4;have p5:=(H8.out.keep aG.out).cell 5;have p6:=(H8.out.keep aG.out).cell 6;have p7:=(H8.out.keep aG.out).cell 7;have p8:=(H8.out.keep aG.out).cell 8;have p9:=(H8.out.keep aG.out).cell 9;have p10:=(H8.out.keep aG.out).cell 10;have p11:=(H8.out.keep aG.out).cell 11;have p12:=(H8.out.keep aG.out).cell 12;have p13:=(H8.out.keep aG.out).cell 13;have JY:=(H8.out.keep aG.out).cell 14;have JZ:=(H8.out.keep aG.out).cell 15;have p16:=(H8.out.keep aG.out).cell 16;have J3:=(H8.out.keep aG.out).cell 17;have J4:=(H8.out.keep aG.out).cell 18;have J5:=(H8.out.keep aG.out).cell 19;have J6:=(H8.out.keep aG.out).cell 20;have q0:=(H9.out.keep aG.out).cell 0;have q1:=(H9.out.keep aG.out).cell 1;have q2:=(H9.out.keep aG.out).cell 2;have q3:=(H9.out.keep aG.out).cell 3;have q4:=(H9.out.keep aG.out).cell 4;have q5:=(H9.out.keep aG.out).cell 5;have q6:=(H9.out.keep aG.out).cell 6;have q7:=(H9.out.keep aG.out).cell 7;have q8:=(H9.out.keep aG.out).cell 8;have q9:=(H9.out.keep aG.out).cell 9;have q10:=(H9.out.keep aG.out).cell 10;have q11:=(H9.out.keep aG.out).cell 11;have q12:=(H9.out.keep aG.out).cell 12;have q13:=(H9.out.keep aG.out).cell 13;have J7:=(H9.out.keep aG.out).cell 14;have J8:=(H9.out.keep aG.out).cell 15;have q16:=(H9.out.keep aG.out).cell 16;have Ib:=(H9.out.keep aG.out).cell 17;have Ic:=(H9.out.keep aG.out).cell 18;have J9:=(H9.out.keep aG.out).cell 19;have Ko:=(H9.out.keep aG.out).cell 20;clear hb))
   go_round
   case rel=>exact⟨j+1,iD.out,by go_num,Ext.trans HR.out (Ext.trans dD.out aG.out)⟩
   case measure=>have:=iD.out;simp [intOf];omega
  ·obtain rfl:j=L:=by omega
   go_wp2_with(fail)
   go_ret
   exact⟨rfl,HR.out⟩
theorem OB(l:List S):G5 l:=by
 have h:∀x:S,G5 x.ini∧G5 x.step∧G5 x.body∧G5 x.els:=fun x=>S.up (M:=fun x=>G5 x.ini∧G5 x.step∧G5 x.body∧G5 x.els) (fun x ih=>⟨nK _ fun y hy=>ih y (.inl hy),nK _ fun y hy=>ih y (.inr (.inl hy)),nK _ fun y hy=>ih y (.inr (.inr (.inl hy))),nK _ fun y hy=>ih y (.inr (.inr (.inr hy)))⟩) x
 exact nK l fun x _=>h x
end
end Go.Proofs.Ythdckndjggljpaa
