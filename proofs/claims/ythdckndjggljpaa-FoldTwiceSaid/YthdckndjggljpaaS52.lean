/- Proofs of this claim, part 52. No condition. -/
import Derived.Test.YthdckndjggljpaaS51
namespace Go.Proofs.Ythdckndjggljpaa
set_option linter.unusedVariables false
set_option linter.unusedSimpArgs false
set_option maxRecDepth 100000
set_option maxHeartbeats 64000000
section
open Go.RowKit
theorem uw{n:Nat}(h:n=5):(Try.prog.info? 36).map (·.size)=some n:=by subst h;kernel_rfl
theorem uz{n:Nat}(h:n=5):(Try.prog.info? 40).map (·.size)=some n:=by subst h;kernel_rfl
theorem yE{w:World}{T:TypeId}{n g8 t B:Nat}{v:Value}{z8 zs:Array Value}{cs:List Value}(h8:ak w g8 T z8)(hc:cs.length=n)(e:v=Value.pointer (some ⟨t,0,none⟩))(hl:B≤t)(hz:zs.size=n)(hb:ak w t T zs):
 ∃g,v=Value.pointer (some ⟨g,0,none⟩)∧B≤g∧∃zs:Array Value,zs.size=n∧ak (w.setRow g8 cs.toArray) g T zs:=by
 refine⟨t,e,hl,?_⟩
 by_cases h:t=g8
 ·subst h;exact⟨cs.toArray,by simpa using hc,setRow_heap _ _ _ _ _ _ h8⟩
 ·exact⟨zs,hz,(setRow_other _ _ _ _ h).trans hb⟩
section
variable{α:Type}{w:World}{p:Nat→Prop}{z:Nat}{At:α→List Value→Prop}{l:List α}
theorem Row.at'{a:Option Addr}{L c i:Nat}{y:α}(h:Row w p z At l (.slice a L c))(hy:l[i]?=some y):∃g off cs,a=some ⟨g,off,none⟩∧At y cs∧∀j u,cs[j]?=some u→w.cell? ⟨g,off+i*z+j,none⟩=some u:=by
 obtain⟨a2,c2,e,_,_,h⟩:=h.parts
 injection e with e1 e2 e3
 subst e1
 obtain⟨g,off,cs,_,ha,hx,hc⟩:=h i y hy
 exact⟨g,off,cs,ha,hx,hc⟩
theorem Row.sl{v:Value}(h:Row w p z At l v):∃a c,v= .slice a l.length c∧l.length≤c∧c≤maxLen:=by obtain⟨a,c,e,h1,h2,_⟩:=h.parts;exact⟨a,c,e,h1,h2⟩
theorem Row.one'{v:Value}(h:Row w p z At l v):v.oneCell'=true:=by obtain⟨a,c,rfl,_⟩:=h.sl;rfl
end
theorem kX.five{w:World}{p:Nat→Prop}{x:Gl}{cs:List Value}(h:kX w p x cs):cs.length=5∧cs.toArray.all (·.oneCell')=true:=by
 obtain⟨v,rfl,h⟩:=h
 obtain⟨_,_,rfl,_⟩:=h.sl
 exact⟨rfl,by simp [Value.oneCell']⟩
theorem lF.five{w:World}{p:Nat→Prop}{x:Fn}{cs:List Value}(h:lF w p x cs):cs.length=5∧cs.toArray.all (·.oneCell')=true:=by
 obtain⟨v,u,rfl,h,h2⟩:=h
 obtain⟨_,_,rfl,_⟩:=h2.parts
 obtain⟨_,_,rfl,_⟩:=h.sl
 exact⟨rfl,by simp [Value.oneCell']⟩
theorem Oy(x:Pg)(w:World)(v0 v1 u0 u1:Value)(h1:bM w (fun _=>True) x v0 v1)(h2:bM w (fun _=>True) x u0 u1):Calls Try.prog 11 #[.agg #[v0,v1], .agg #[u0,u1]] w (Eb w):=by
 obtain⟨a0,c0,rfl,hl0,hm0⟩:=h1.1.sl
 obtain⟨a1,c1,rfl,hl1,hm1⟩:=h1.2.sl
 obtain⟨b0,d0,rfl,hk0,hn0⟩:=h2.1.sl
 obtain⟨b1,d1,rfl,hk1,hn1⟩:=h2.2.sl
 have HX:=Lib.hid h1
 have HY:=Lib.hid h2
 obtain⟨G,hG⟩:∃G,x.gs.length=G:=⟨_,rfl⟩
 obtain⟨F,hF⟩:∃F,x.fs.length=F:=⟨_,rfl⟩
 rw [hG]at hl0 hk0 HX HY⊢
 rw [hF]at hl1 hk1 HX HY⊢
 have HG:=Lib.hid hG
 have vI:=Lib.hid hF
 have hG9:(G:Int)≤9223372036854775807:=by unfold maxLen at hm0;omega
 have hF9:(F:Int)≤9223372036854775807:=by unfold maxLen at hm1;omega
 obtain⟨r1,hr1⟩:∃r1:Array Value,r1=#[.slice a0 G c0, .slice a1 F c1]:=⟨_,rfl⟩
 obtain⟨r2,hr2⟩:∃r2:Array Value,r2=#[.slice b0 G d0, .slice b1 F d1]:=⟨_,rfl⟩
 rw [←hr1,←hr2]
 obtain⟨w2,hw2⟩:∃w2,w2=(w.alloc (.cells r1 25)).alloc (.cells r2 25):=⟨_,rfl⟩
 have HS2:Hid (Below w.heap.size w w2∧ak w2 w.heap.size 25 #[.slice a0 G c0, .slice a1 F c1]∧ak w2 (w.heap.size+1) 25 #[.slice b0 G d0, .slice b1 F d1]):=by
  rw [←hr1,←hr2]
  have h1:ak (w.alloc (.cells r1 25)) w.heap.size 25 r1:=ak.new _ _ _
  have h2:=ak.new (w.alloc (.cells r1 25)) 25 r2
  have hs:(w.alloc (.cells r1 25)).heap.size=w.heap.size+1:=by show(w.heap.push _).size=_;simp
  rw [hs]at h2
  refine⟨?_,?_,?_⟩
  ·rw [hw2];exact Ext.alloc (Ext.alloc (Below.refl _ _) _) _
  ·rw [hw2];exact h1.alloc _
  ·rw [hw2];exact h2
 have HW2:=Lib.hid hw2
 have sS:Hid (∀wi,Below w2.heap.size w2 wi→wi.cell? ⟨w.heap.size,0,none⟩=some (.slice a0 G c0)∧wi.cell? ⟨w.heap.size,1,none⟩=some (.slice a1 F c1)):=fun wi hw=>⟨(HS2.out.2.1.keep hw).cell 0,(HS2.out.2.1.keep hw).cell 1⟩
 have wU:Hid (∀wi,Below w2.heap.size w2 wi→wi.cell? ⟨w.heap.size+1,0,none⟩=some (.slice b0 G d0)∧wi.cell? ⟨w.heap.size+1,1,none⟩=some (.slice b1 F d1)):=fun wi hw=>⟨(HS2.out.2.2.keep hw).cell 0,(HS2.out.2.2.keep hw).cell 1⟩
 clear h1 h2 hr1 hr2 hw2 hG hF
 go_enter Try.func11,Try.ntmps11
 go_upto_region 1 with(fail)
 rw [←HW2.out]
 obtain⟨k1,k3⟩:=sS.out _ (Below.refl _ _)
 obtain⟨k2,k4⟩:=wU.out _ (Below.refl _ _)
 go_upto_region 4 with(fail)
 clear k1 k2 k3 k4
 go_loopw [32](fun i wr=>∃j:Nat,j≤G∧i= .int .i64 (j:Int)∧Hid (Below w2.heap.size w2 wr))(fun i wr=>G-(intOf i).toNat)
 case atStart=>exact⟨0,Nat.zero_le _,rfl,Below.refl _ _⟩
 case round=>
  obtain⟨j,hj,rfl,HR⟩:=hrel
  obtain⟨W0,hW0⟩:∃W0,W0=wr:=⟨_,rfl⟩
  rw [←hW0]at HR⊢
  clear hW0
  have ig:=Lib.hid (HX.out.keep (Ext.trans HS2.out.1 HR.out))
  have HYW:=Lib.hid (HY.out.keep (Ext.trans HS2.out.1 HR.out))
  by_cases hlt:j<G
  ·obtain⟨y,hy⟩:∃y,x.gs[j]?=some y:=⟨_,List.getElem?_eq_getElem (by rw [HG.out];exact hlt)⟩
   obtain⟨ga,oa,cs,hae,hcs,Tt⟩:=ig.out.1.at' hy
   obtain⟨gb,ob,ds,hbe,hds,Tv⟩:=HYW.out.1.at' hy
   subst hae;subst hbe
   have FW:Hid (∀wi,Below W0.heap.size W0 wi→∀i u,cs[i]?=some u→wi.cell? ⟨ga,oa+j*5+i,none⟩=some u):=fun wi hw i u hu=>aJ hw (Tt i u hu)
   have Tz:Hid (∀wi,Below W0.heap.size W0 wi→∀i u,ds[i]?=some u→wi.cell? ⟨gb,ob+j*5+i,none⟩=some u):=fun wi hw i u hu=>aJ hw (Tv i u hu)
   have mg:=Lib.hid hcs.five.1
   have HD5:=Lib.hid hds.five.1
   have iE:=Lib.hid hcs.five.2
   have HD1:=Lib.hid hds.five.2
   have JX:=Lib.hid hcs
   have Rz:=Lib.hid hds
   have iD:=Lib.hid hlt
   have V7:=sS
   have V8:=wU
   replace sS:=Lib.hid (fun wi(hw:Below W0.heap.size W0 wi)=>(V7.out wi (Ext.trans HR.out hw)).1)
   replace wU:=Lib.hid (fun wi(hw:Below W0.heap.size W0 wi)=>(V8.out wi (Ext.trans HR.out hw)).1)
   clear Tt Tv hcs hds hy
   go_upto_region 6 with(fail)
   apply Iy.wp_region 13 [12] (fun n=>if n=0 then[]else[10]) (Ix.Rb) (fun n vs wi=>Hid (Below W0.heap.size W0 wi)∧(match n with|0=>True|_+1=>∀g,vs 10=Value.pointer (some ⟨g,0,none⟩)→ak wi g 36 cs.toArray)) (Ix.vk [(Ix.aA _),(Ix.aA _),(Ix.aA _),(Ix.aA _),(Ix.aA (.agg cs.toArray)),(Ix.aA _),(Ix.aA _),(Ix.aA _),(Ix.aA _),(Ix.aA (.agg ds.toArray)),(Ix.dU (fun v w'=>∃g,v=Value.pointer (some ⟨g,0,none⟩)∧W0.heap.size≤g∧∃zs:Array Value,zs.size=5∧ak w' g 36 zs) (fun v w1 w2 h hb=>by obtain⟨g,e,hl,zs,hz,hi⟩:=h;exact⟨g,e,hl,zs,hz,hi.keep hb⟩)),(Ix.dU (fun v w'=>∃g,v=Value.pointer (some ⟨g,0,none⟩)∧W0.heap.size≤g∧∃zs:Array Value,zs.size=5∧ak w' g 36 zs) (fun v w1 w2 h hb=>by obtain⟨g,e,hl,zs,hz,hi⟩:=h;exact⟨g,e,hl,zs,hz,hi.keep hb⟩)),(Ix.mY (fun _=>True))]) (fun k=>k==10||k==11) (by kernel_rfl) (by kernel_rfl) (by kernel_rfl) (by kernel_rfl) (by kernel_rfl) (fun n vs vs' w hk h=>by cases n with|zero=>exact h|succ n=>exact⟨h.1,fun g e=>h.2 g ((hk 10 (by simp)).trans e)⟩) (fun _=>Below.refl _ _) (fun n vs _ _ h hb=>⟨Ext.trans h.1.out hb,by cases n with|zero=>trivial|succ n=>exact fun g e=>(h.2 g e).keep hb⟩) (Ix.aN _) (fun j v w hj hv=>by simp only [Bool.or_eq_true,beq_iff_eq]at hj;rcases hj with rfl|rfl<;>(obtain⟨g,e,_,_,_,hg⟩:=hv;exact⟨g,e,hg.lt⟩)) (fun vs=>⟨Ext.drew (Below.refl _ _),trivial⟩)
   case step=>
    refine aZ 12 0 1 [] (fun _ _ wi HB=>?_)<|aZ 11 1 2 [(0,some 35)] (fun _ _ wi HB=>?_)<|aZ 10 2 3 [] (fun _ _ wi HB=>?_)<|aZ 9 3 4 [(1,some 36),(2,some 37)] (fun _ _ wi HB=>?_)<|aZ 8 4 5 [(3,some 38)] (fun _ _ wi HB=>?_)<|aZ 7 5 6 [] (fun _ _ wi HB=>?_)<|aZ 6 6 7 [(5,some 40)] (fun _ _ wi HB=>?_)<|aZ 5 7 8 [] (fun _ _ wi HB=>?_)<|aZ 4 8 9 [(6,some 41),(7,some 42)] (fun _ _ wi HB=>?_)<|aZ 3 9 10 [(8,some 43)] (fun _ _ wi HB=>?_)<|aZ 2 10 11 [] (fun _ _ wi HB=>?_)<|aZ 1 11 12 [] (fun _ _ wi HB=>?_)<|Aw 0 12 13 0 [(4,some 39),(10,some 6)] (fun ji wi HB=>?_)<|Iy.aC
    (·((repeat(refine aB ?_;rintro _ rfl));refine aF ?_;(try simp only [aj]);refine Iy.ah rfl rfl fun K hK=>?_;(try simp only [aj]at hK);go_wp2_with(first|fail);exact hK _ _ (Below.refl _ _) rfl))
    (·(obtain⟨iP,_⟩:=HB;have k1:=sS.out _ iP.out;have k2:=wU.out _ iP.out;(repeat(refine aB ?_;rintro _ rfl));refine aF ?_;(try simp only [aj]);refine Iy.ah rfl rfl fun K hK=>?_;(try simp only [aj]at hK);go_wp2_with(first|fail);exact hK _ _ (Below.refl _ _) rfl))
    iterate 2(·((repeat(refine aB ?_;rintro _ rfl));refine aF ?_;(try simp only [aj]);refine Iy.ah rfl rfl fun K hK=>?_;(try simp only [aj]at hK);go_wp2_with(first|fail);exact hK _ _ (Below.refl _ _) rfl))
    (·(obtain⟨iP,_⟩:=HB;have k1:=sS.out _ iP.out;have k2:=wU.out _ iP.out;(repeat(refine aB ?_;rintro _ rfl));refine aF ?_;(try simp only [aj]);refine Iy.ah rfl rfl fun K hK=>?_;(try simp only [aj]at hK);refine iF 36 _ rfl ga (oa+j*5) rfl cs _ (FW.out _ iP.out) Try.underlying36 rfl (uw mg.out) ?_;exact hK _ _ (Below.refl _ _) rfl))
    (·((repeat(refine aB ?_;rintro _ rfl));refine aF ?_;(try simp only [aj]);refine Iy.ah rfl rfl fun K hK=>?_;(try simp only [aj]at hK);go_wp2_with(first|fail);exact hK _ _ (Below.refl _ _) rfl))
    (·(obtain⟨iP,_⟩:=HB;have k1:=sS.out _ iP.out;have k2:=wU.out _ iP.out;(repeat(refine aB ?_;rintro _ rfl));refine aF ?_;(try simp only [aj]);refine Iy.ah rfl rfl fun K hK=>?_;(try simp only [aj]at hK);go_wp2_with(first|fail);exact hK _ _ (Below.refl _ _) rfl))
    iterate 2(·((repeat(refine aB ?_;rintro _ rfl));refine aF ?_;(try simp only [aj]);refine Iy.ah rfl rfl fun K hK=>?_;(try simp only [aj]at hK);go_wp2_with(first|fail);exact hK _ _ (Below.refl _ _) rfl))
    (·(obtain⟨iP,_⟩:=HB;have k1:=sS.out _ iP.out;have k2:=wU.out _ iP.out;(repeat(refine aB ?_;rintro _ rfl));refine aF ?_;(try simp only [aj]);refine Iy.ah rfl rfl fun K hK=>?_;(try simp only [aj]at hK);refine iF 36 _ rfl gb (ob+j*5) rfl ds _ (Tz.out _ iP.out) Try.underlying36 rfl (uw HD5.out) ?_;exact hK _ _ (Below.refl _ _) rfl))
    iterate 2(·(obtain⟨iP,_⟩:=HB;have k1:=sS.out _ iP.out;have k2:=wU.out _ iP.out;(repeat(refine aB ?_;rintro _ rfl));refine aF ?_;(try simp only [aj]);refine Iy.iV rfl fun K hK=>?_;(try simp only [aj]at hK);go_wp2_with(first|fail);exact hK _ (Ext.alloc (Below.refl _ _) _) ⟨_,rfl,iP.out.size,_,rfl,ak.new _ _ _⟩))
    (·(obtain⟨iP,_⟩:=HB;refine aB ?_;rintro _⟨rfl,Zj⟩;refine aB ?_;rintro _⟨⟨g8,rfl,TA,z8,Om,sN⟩,sW⟩;refine aF ?_;(try simp only [aj]);refine Iy.ah rfl rfl fun K hK=>?_;(try simp only [aj]at hK);refine wp_store_row 36 _ _ rfl g8 cs.toArray rfl rfl 36 z8 sN (uw mg.out) (Om.trans mg.out.symm) iE.out ?_;exact hK undef _ ⟨⟨Below.xU iP.out TA _,fun g e=>(by rw [sW]at e;injection e with e;injection e with e;injection e with e;subst e;exact setRow_heap _ _ _ _ _ _ sN)⟩,Iy.dG (by repeat(first|exact True.intro|refine And.intro (fun _ h=>h) ?_|refine And.intro (fun hne=>absurd rfl hne) ?_|refine And.intro (fun _ h=>(by obtain⟨t9,e9,h9,z9,G6,h10⟩:=h;exact yE sN mg.out e9 h9 G6 h10)) ?_))⟩ trivial))
   intro lM wf HF hdf
   refine au 12 0 1 ?_;rintro _ _ rfl;refine au 11 1 2 ?_;rintro _ _ rfl;refine au 10 2 3 ?_;rintro _ _ rfl;refine au 9 3 4 ?_;rintro _ _ rfl;refine au 8 4 5 ?_;rintro _ _ rfl;refine au 7 5 6 ?_;rintro _ _ rfl;refine au 6 6 7 ?_;rintro _ _ rfl;refine au 5 7 8 ?_;rintro _ _ rfl;refine au 4 8 9 ?_;rintro _ _ rfl;refine au 3 9 10 ?_;rintro _ _ rfl;refine au 2 10 11 ?_;rintro _ sW⟨g8,rfl,TA,z8,Om,sN⟩;refine au 1 11 12 ?_;rintro _ DK⟨g9,rfl,YO,z9,G6,eG⟩;refine au 0 12 13 ?_;rintro _ _ _
   refine Ix.aI ?_
   obtain⟨Tc,TB⟩:=HF;have CU:=TB _ sW;have hne:g8≠g9:=fun e=>hdf 10 11 (by decide) (by decide) rfl rfl (by decide) (by rw [sW,DK,e])
   (try simp only [Act.put,List.setIfInBounds_toArray,List.set_cons_zero,List.set_cons_succ,List.drop_succ_cons,List.drop_zero])
   go_wp2_with(first|(refine wpList_store_row rfl 36 _ _ rfl g9 ds.toArray rfl rfl 36 z9 eG (uw HD5.out) (G6.trans HD5.out.symm) HD1.out ?_;generalize hw7:World.setRow _ _ _=w7))
   all_goals(first|refine Ix.only ?_|(refine Ix.dK fun tz=>?_))
   have lQ:Hid (Below W0.heap.size W0 w7∧ak w7 g8 36 cs.toArray∧ak w7 g9 36 ds.toArray):=by
    show _∧_∧_
    rw [←hw7]
    exact⟨Below.xU Tc.out YO _,(setRow_other _ _ _ _ hne).trans CU,setRow_heap _ _ _ _ _ _ eG⟩
   clear hw7 sN eG CU TB hdf Om G6 FW Tz mg HD5 iE HD1
   obtain⟨vv,e1,hx⟩:=JX.out
   obtain⟨uu,e2,hx'⟩:=Rz.out
   obtain⟨va,vc,rfl,hvl,hvm⟩:=hx.sl
   obtain⟨ua,uc,rfl,hul,hum⟩:=hx'.sl
   clear JX Rz
   subst e1;subst e2
   obtain⟨I,hI⟩:∃I,y.ini.length=I:=⟨_,rfl⟩
   rw [hI]at hx hx' hvl hul lQ
   have H8:Hid (∀wi,Below w7.heap.size w7 wi→ak wi g8 36 #[.int .i64 y.b, .bool y.s, .string y.nm, .int .i64 y.size, .slice va I vc]):=fun wi hw=>(show ak w7 g8 36 #[.int .i64 y.b, .bool y.s, .string y.nm, .int .i64 y.size, .slice va I vc]from lQ.out.2.1).keep hw
   have H9:Hid (∀wi,Below w7.heap.size w7 wi→ak wi g9 36 #[.int .i64 y.b, .bool y.s, .string y.nm, .int .i64 y.size, .slice ua I uc]):=fun wi hw=>(show ak w7 g9 36 #[.int .i64 y.b, .bool y.s, .string y.nm, .int .i64 y.size, .slice ua I uc]from lQ.out.2.2).keep hw
   have dD:=Lib.hid lQ.out.1
   have HXI:=Lib.hid hx
   have HYI:=Lib.hid hx'
   have HI:=Lib.hid hI
   have hI9:(I:Int)≤9223372036854775807:=by unfold maxLen at hvm;omega
   clear lQ hx hx' hI
   have p0:=(H8.out _ (Below.refl _ _)).cell 0;have p1:=(H8.out _ (Below.refl _ _)).cell 1;have p2:=(H8.out _ (Below.refl _ _)).cell 2;have p3:=(H8.out _ (Below.refl _ _)).cell 3;have p4:=(H8.out _ (Below.refl _ _)).cell 4
   have q0:=(H9.out _ (Below.refl _ _)).cell 0;have q1:=(H9.out _ (Below.refl _ _)).cell 1;have q2:=(H9.out _ (Below.refl _ _)).cell 2;have q3:=(H9.out _ (Below.refl _ _)).cell 3;have q4:=(H9.out _ (Below.refl _ _)).cell 4
   go_upto_region 10 with(fail)
   clear p0 p1 p2 p3 p4 q0 q1 q2 q3 q4
   go_loopw [76](fun i wr=>∃k:Nat,k≤I∧i= .int .i64 (k:Int)∧Hid (Below w7.heap.size w7 wr))(fun i wr=>I-(intOf i).toNat)
   case atStart=>exact⟨0,Nat.zero_le _,rfl,Below.refl _ _⟩
   case round=>
    obtain⟨k,hk,rfl,Oz⟩:=hrel
    by_cases hlt2:k<I
    ·obtain⟨t,ht⟩:∃t,y.ini[k]?=some t:=⟨_,List.getElem?_eq_getElem (by rw [HI.out];exact hlt2)⟩
     obtain⟨gx,ox,xs,hxe,hxs,Kq⟩:=HXI.out.at' ht
     obtain⟨gy,oy,ys,hye,hys,Kr⟩:=HYI.out.at' ht
     subst hxe;subst hye
     obtain⟨xa,xc,rfl,_⟩:=hxs.at.open
     obtain⟨ya,yc,rfl,_⟩:=hys.at.open
     have xE:Hid (∀wi,Below wr.heap.size wr wi→Below W0.heap.size W0 wi):=fun wi hw=>Ext.trans dD.out (Ext.trans Oz.out hw)
     have Gw:Hid (∀wi,Below wr.heap.size wr wi→wi.cell? ⟨gx,ox+k*6,none⟩=some (.int .i64 t.kind)∧wi.cell? ⟨gx,ox+k*6+1,none⟩=some (.int .u64 t.num)∧wi.cell? ⟨gx,ox+k*6+2,none⟩=some (.int .i64 t.bits)∧wi.cell? ⟨gx,ox+k*6+3,none⟩=some (.bool t.sg)∧wi.cell? ⟨gx,ox+k*6+4,none⟩=some (.string t.name)∧wi.cell? ⟨gx,ox+k*6+5,none⟩=some (.slice xa t.kids.length xc)):=fun wi hw=>⟨aJ (xE.out wi hw) (Kq 0 _ rfl),aJ (xE.out wi hw) (Kq 1 _ rfl),aJ (xE.out wi hw) (Kq 2 _ rfl),aJ (xE.out wi hw) (Kq 3 _ rfl),aJ (xE.out wi hw) (Kq 4 _ rfl),aJ (xE.out wi hw) (Kq 5 _ rfl)⟩
     have HKB:Hid (∀wi,Below wr.heap.size wr wi→wi.cell? ⟨gy,oy+k*6,none⟩=some (.int .i64 t.kind)∧wi.cell? ⟨gy,oy+k*6+1,none⟩=some (.int .u64 t.num)∧wi.cell? ⟨gy,oy+k*6+2,none⟩=some (.int .i64 t.bits)∧wi.cell? ⟨gy,oy+k*6+3,none⟩=some (.bool t.sg)∧wi.cell? ⟨gy,oy+k*6+4,none⟩=some (.string t.name)∧wi.cell? ⟨gy,oy+k*6+5,none⟩=some (.slice ya t.kids.length yc)):=fun wi hw=>⟨aJ (xE.out wi hw) (Kr 0 _ rfl),aJ (xE.out wi hw) (Kr 1 _ rfl),aJ (xE.out wi hw) (Kr 2 _ rfl),aJ (xE.out wi hw) (Kr 3 _ rfl),aJ (xE.out wi hw) (Kr 4 _ rfl),aJ (xE.out wi hw) (Kr 5 _ rfl)⟩
     have Gx:Hid (∀wi,Below wr.heap.size wr wi→wi.cell? ⟨g8,4,none⟩=some (.slice (some ⟨gx,ox,none⟩) I vc)∧wi.cell? ⟨g9,4,none⟩=some (.slice (some ⟨gy,oy,none⟩) I uc)):=fun wi hw=>⟨(H8.out _ (Ext.trans Oz.out hw)).cell 4,(H9.out _ (Ext.trans Oz.out hw)).cell 4⟩
     have HC:Hid (∀wi,Below wr.heap.size wr wi→Calls Try.prog 22 #[.agg (iw t.kind t.num t.bits t.sg t.name (.slice xa t.kids.length xc)), .agg (iw t.kind t.num t.bits t.sg t.name (.slice ya t.kids.length yc))] wi (Eb wi)):=fun wi hw=>zJ t wi xa ya xc yc (hxs.keep (xE.out wi hw)).at (hys.keep (xE.out wi hw)).at
     have OA:=Lib.hid hlt2
     clear Kq Kr hxs hys ht
     go_upto_region 12 with(fail)
     apply Ix.wp_region 10 (fun wi=>Hid (Below wr.heap.size wr wi)) (Ix.vk [(Ix.aA _),(Ix.aA _),(Ix.aA _),(Ix.aA _),(Ix.aA (.agg (iw t.kind t.num t.bits t.sg t.name (.slice xa t.kids.length xc)))),(Ix.aA _),(Ix.aA _),(Ix.aA _),(Ix.aA _),(Ix.aA (.agg (iw t.kind t.num t.bits t.sg t.name (.slice ya t.kids.length yc))))]) (fun _=>false) (by kernel_rfl) (by kernel_rfl) (by kernel_rfl) (fun _ _ h hb=>Ext.trans h.out hb) (Ix.aN _) (Ix.bP _) (Below.refl _ _:Below wr.heap.size wr wr)
     case step=>
      refine aP 9 0 1 [] (fun wi HB=>?_)<|aP 8 1 2 [(0,some 79)] (fun wi HB=>?_)<|aP 7 2 3 [] (fun wi HB=>?_)<|aP 6 3 4 [(1,some 80),(2,some 81)] (fun wi HB=>?_)<|aP 5 4 5 [(3,some 82)] (fun wi HB=>?_)<|aP 4 5 6 [] (fun wi HB=>?_)<|aP 3 6 7 [(5,some 84)] (fun wi HB=>?_)<|aP 2 7 8 [] (fun wi HB=>?_)<|aP 1 8 9 [(6,some 85),(7,some 86)] (fun wi HB=>?_)<|aP 0 9 10 [(8,some 87)] (fun wi HB=>?_)<|Ix.aC
      (·((repeat(refine aB ?_;rintro _ rfl));refine aF ?_;(try simp only [aj]);refine Ix.ah rfl rfl fun K hK=>?_;(try simp only [aj]at hK);go_wp2_with(first|fail);exact hK _ _ (Below.refl _ _) rfl))
      (·(obtain⟨k0,k1,k2,k3,k4,k5⟩:=Gw.out _ HB.out;obtain⟨l0,l1,l2,l3,l4,l5⟩:=HKB.out _ HB.out;obtain⟨x5,y5⟩:=Gx.out _ HB.out;(repeat(refine aB ?_;rintro _ rfl));refine aF ?_;(try simp only [aj]);refine Ix.ah rfl rfl fun K hK=>?_;(try simp only [aj]at hK);go_wp2_with(first|fail);exact hK _ _ (Below.refl _ _) rfl))
      iterate 2(·((repeat(refine aB ?_;rintro _ rfl));refine aF ?_;(try simp only [aj]);refine Ix.ah rfl rfl fun K hK=>?_;(try simp only [aj]at hK);go_wp2_with(first|fail);exact hK _ _ (Below.refl _ _) rfl))
      (·(obtain⟨k0,k1,k2,k3,k4,k5⟩:=Gw.out _ HB.out;obtain⟨l0,l1,l2,l3,l4,l5⟩:=HKB.out _ HB.out;obtain⟨x5,y5⟩:=Gx.out _ HB.out;(repeat(refine aB ?_;rintro _ rfl));refine aF ?_;(try simp only [aj]);refine Ix.ah rfl rfl fun K hK=>?_;(try simp only [aj]at hK);go_wp2_with(first|fail);exact hK _ _ (Below.refl _ _) rfl))
      (·((repeat(refine aB ?_;rintro _ rfl));refine aF ?_;(try simp only [aj]);refine Ix.ah rfl rfl fun K hK=>?_;(try simp only [aj]at hK);go_wp2_with(first|fail);exact hK _ _ (Below.refl _ _) rfl))
      (·(obtain⟨k0,k1,k2,k3,k4,k5⟩:=Gw.out _ HB.out;obtain⟨l0,l1,l2,l3,l4,l5⟩:=HKB.out _ HB.out;obtain⟨x5,y5⟩:=Gx.out _ HB.out;(repeat(refine aB ?_;rintro _ rfl));refine aF ?_;(try simp only [aj]);refine Ix.ah rfl rfl fun K hK=>?_;(try simp only [aj]at hK);go_wp2_with(first|fail);exact hK _ _ (Below.refl _ _) rfl))
      iterate 2(·((repeat(refine aB ?_;rintro _ rfl));refine aF ?_;(try simp only [aj]);refine Ix.ah rfl rfl fun K hK=>?_;(try simp only [aj]at hK);go_wp2_with(first|fail);exact hK _ _ (Below.refl _ _) rfl))
      (·(obtain⟨k0,k1,k2,k3,k4,k5⟩:=Gw.out _ HB.out;obtain⟨l0,l1,l2,l3,l4,l5⟩:=HKB.out _ HB.out;obtain⟨x5,y5⟩:=Gx.out _ HB.out;(repeat(refine aB ?_;rintro _ rfl));refine aF ?_;(try simp only [aj]);refine Ix.ah rfl rfl fun K hK=>?_;(try simp only [aj]at hK);go_wp2_with(first|fail);exact hK _ _ (Below.refl _ _) rfl))
     intro lM wf HF hdf
     refine au 9 0 1 ?_;rintro _ _ rfl;refine au 8 1 2 ?_;rintro _ _ rfl;refine au 7 2 3 ?_;rintro _ _ rfl;refine au 6 3 4 ?_;rintro _ _ rfl;refine au 5 4 5 ?_;rintro _ _ rfl;refine au 4 5 6 ?_;rintro _ _ rfl;refine au 3 6 7 ?_;rintro _ _ rfl;refine au 2 7 8 ?_;rintro _ _ rfl;refine au 1 8 9 ?_;rintro _ _ rfl;refine au 0 9 10 ?_;rintro _ _ rfl
     refine Ix.aI ?_
     (try simp only [Act.put,List.setIfInBounds_toArray,List.set_cons_zero,List.set_cons_succ,List.drop_succ_cons,List.drop_zero])
     go_wp2_with(first|(go_at_call 22;refine(HC.out _ HF.out).mono ?_;rintro e w4⟨rfl,hb4⟩;have HB4:=Lib.hid hb4;clear hb4))
     all_goals(first|refine Ix.only ?_|(refine Ix.dK fun tz=>?_))
     go_wp2_with(fail)
     go_round
     case rel=>exact⟨k+1,OA.out,by go_num,Ext.trans Oz.out (Ext.trans HF.out HB4.out)⟩
     case measure=>have:=OA.out;simp [intOf];omega
    ·go_wp2_with(fail)
     go_round
     case rel=>exact⟨j+1,iD.out,by go_num,Ext.trans HR.out (Ext.trans dD.out Oz.out)⟩
     case measure=>have:=iD.out;simp [intOf];omega
  ·obtain rfl:j=G:=by omega
   obtain⟨k1,k3⟩:=sS.out _ HR.out
   obtain⟨k2,k4⟩:=wU.out _ HR.out
   have HRG:=Lib.hid HR.out
   clear hlt hj ig HYW
   go_upto_region 17 with(fail)
   clear k1 k2 k3 k4
   go_loopw [96](fun i wr=>∃j:Nat,j≤F∧i= .int .i64 (j:Int)∧Hid (Below w2.heap.size w2 wr))(fun i wr=>F-(intOf i).toNat)
   case atStart=>exact⟨0,Nat.zero_le _,rfl,HRG.out⟩
   case round=>
    obtain⟨j,hj,rfl,HR⟩:=hrel
    clear HRG
    obtain⟨W0,hW0⟩:∃W0,W0=wr:=⟨_,rfl⟩
    rw [←hW0]at HR⊢
    clear hW0
    have ig:=Lib.hid (HX.out.keep (Ext.trans HS2.out.1 HR.out))
    have HYW:=Lib.hid (HY.out.keep (Ext.trans HS2.out.1 HR.out))
    by_cases hlt:j<F
    ·obtain⟨y,hy⟩:∃y,x.fs[j]?=some y:=⟨_,List.getElem?_eq_getElem (by rw [vI.out];exact hlt)⟩
     obtain⟨ga,oa,cs,hae,hcs,Tt⟩:=ig.out.2.at' hy
     obtain⟨gb,ob,ds,hbe,hds,Tv⟩:=HYW.out.2.at' hy
     subst hae;subst hbe
     have FW:Hid (∀wi,Below W0.heap.size W0 wi→∀i u,cs[i]?=some u→wi.cell? ⟨ga,oa+j*5+i,none⟩=some u):=fun wi hw i u hu=>aJ hw (Tt i u hu)
     have Tz:Hid (∀wi,Below W0.heap.size W0 wi→∀i u,ds[i]?=some u→wi.cell? ⟨gb,ob+j*5+i,none⟩=some u):=fun wi hw i u hu=>aJ hw (Tv i u hu)
     have mg:=Lib.hid hcs.five.1
     have HD5:=Lib.hid hds.five.1
     have iE:=Lib.hid hcs.five.2
     have HD1:=Lib.hid hds.five.2
     have JX:=Lib.hid hcs
     have Rz:=Lib.hid hds
     have iD:=Lib.hid hlt
     have V7:=sS
     have V8:=wU
     replace sS:=Lib.hid (fun wi(hw:Below W0.heap.size W0 wi)=>(V7.out wi (Ext.trans HR.out hw)).2)
     replace wU:=Lib.hid (fun wi(hw:Below W0.heap.size W0 wi)=>(V8.out wi (Ext.trans HR.out hw)).2)
     clear Tt Tv hcs hds hy
     go_upto_region 19 with(fail)
     apply Iy.wp_region 13 [12] (fun n=>if n=0 then[]else[10]) (Ix.Rb) (fun n vs wi=>Hid (Below W0.heap.size W0 wi)∧(match n with|0=>True|_+1=>∀g,vs 10=Value.pointer (some ⟨g,0,none⟩)→ak wi g 40 cs.toArray)) (Ix.vk [(Ix.aA _),(Ix.aA _),(Ix.aA _),(Ix.aA _),(Ix.aA (.agg cs.toArray)),(Ix.aA _),(Ix.aA _),(Ix.aA _),(Ix.aA _),(Ix.aA (.agg ds.toArray)),(Ix.dU (fun v w'=>∃g,v=Value.pointer (some ⟨g,0,none⟩)∧W0.heap.size≤g∧∃zs:Array Value,zs.size=5∧ak w' g 40 zs) (fun v w1 w2 h hb=>by obtain⟨g,e,hl,zs,hz,hi⟩:=h;exact⟨g,e,hl,zs,hz,hi.keep hb⟩)),(Ix.dU (fun v w'=>∃g,v=Value.pointer (some ⟨g,0,none⟩)∧W0.heap.size≤g∧∃zs:Array Value,zs.size=5∧ak w' g 40 zs) (fun v w1 w2 h hb=>by obtain⟨g,e,hl,zs,hz,hi⟩:=h;exact⟨g,e,hl,zs,hz,hi.keep hb⟩)),(Ix.mY (fun _=>True))]) (fun k=>k==10||k==11) (by kernel_rfl) (by kernel_rfl) (by kernel_rfl) (by kernel_rfl) (by kernel_rfl) (fun n vs vs' w hk h=>by cases n with|zero=>exact h|succ n=>exact⟨h.1,fun g e=>h.2 g ((hk 10 (by simp)).trans e)⟩) (fun _=>Below.refl _ _) (fun n vs _ _ h hb=>⟨Ext.trans h.1.out hb,by cases n with|zero=>trivial|succ n=>exact fun g e=>(h.2 g e).keep hb⟩) (Ix.aN _) (fun j v w hj hv=>by simp only [Bool.or_eq_true,beq_iff_eq]at hj;rcases hj with rfl|rfl<;>(obtain⟨g,e,_,_,_,hg⟩:=hv;exact⟨g,e,hg.lt⟩)) (fun vs=>⟨Ext.drew (Below.refl _ _),trivial⟩)
     case step=>
      refine aZ 12 0 1 [] (fun _ _ wi HB=>?_)<|aZ 11 1 2 [(0,some 99)] (fun _ _ wi HB=>?_)<|aZ 10 2 3 [] (fun _ _ wi HB=>?_)<|aZ 9 3 4 [(1,some 100),(2,some 101)] (fun _ _ wi HB=>?_)<|aZ 8 4 5 [(3,some 102)] (fun _ _ wi HB=>?_)<|aZ 7 5 6 [] (fun _ _ wi HB=>?_)<|aZ 6 6 7 [(5,some 104)] (fun _ _ wi HB=>?_)<|aZ 5 7 8 [] (fun _ _ wi HB=>?_)<|aZ 4 8 9 [(6,some 105),(7,some 106)] (fun _ _ wi HB=>?_)<|aZ 3 9 10 [(8,some 107)] (fun _ _ wi HB=>?_)<|aZ 2 10 11 [] (fun _ _ wi HB=>?_)<|aZ 1 11 12 [] (fun _ _ wi HB=>?_)<|Aw 0 12 13 0 [(4,some 103),(10,some 10)] (fun ji wi HB=>?_)<|Iy.aC
      (·((repeat(refine aB ?_;rintro _ rfl));refine aF ?_;(try simp only [aj]);refine Iy.ah rfl rfl fun K hK=>?_;(try simp only [aj]at hK);go_wp2_with(first|fail);exact hK _ _ (Below.refl _ _) rfl))
      (·(obtain⟨iP,_⟩:=HB;have k1:=sS.out _ iP.out;have k2:=wU.out _ iP.out;(repeat(refine aB ?_;rintro _ rfl));refine aF ?_;(try simp only [aj]);refine Iy.ah rfl rfl fun K hK=>?_;(try simp only [aj]at hK);go_wp2_with(first|fail);exact hK _ _ (Below.refl _ _) rfl))
      iterate 2(·((repeat(refine aB ?_;rintro _ rfl));refine aF ?_;(try simp only [aj]);refine Iy.ah rfl rfl fun K hK=>?_;(try simp only [aj]at hK);go_wp2_with(first|fail);exact hK _ _ (Below.refl _ _) rfl))
      (·(obtain⟨iP,_⟩:=HB;have k1:=sS.out _ iP.out;have k2:=wU.out _ iP.out;(repeat(refine aB ?_;rintro _ rfl));refine aF ?_;(try simp only [aj]);refine Iy.ah rfl rfl fun K hK=>?_;(try simp only [aj]at hK);refine iF 40 _ rfl ga (oa+j*5) rfl cs _ (FW.out _ iP.out) Try.underlying40 rfl (uz mg.out) ?_;exact hK _ _ (Below.refl _ _) rfl))
      (·((repeat(refine aB ?_;rintro _ rfl));refine aF ?_;(try simp only [aj]);refine Iy.ah rfl rfl fun K hK=>?_;(try simp only [aj]at hK);go_wp2_with(first|fail);exact hK _ _ (Below.refl _ _) rfl))
      (·(obtain⟨iP,_⟩:=HB;have k1:=sS.out _ iP.out;have k2:=wU.out _ iP.out;(repeat(refine aB ?_;rintro _ rfl));refine aF ?_;(try simp only [aj]);refine Iy.ah rfl rfl fun K hK=>?_;(try simp only [aj]at hK);go_wp2_with(first|fail);exact hK _ _ (Below.refl _ _) rfl))
      iterate 2(·((repeat(refine aB ?_;rintro _ rfl));refine aF ?_;(try simp only [aj]);refine Iy.ah rfl rfl fun K hK=>?_;(try simp only [aj]at hK);go_wp2_with(first|fail);exact hK _ _ (Below.refl _ _) rfl))
      (·(obtain⟨iP,_⟩:=HB;have k1:=sS.out _ iP.out;have k2:=wU.out _ iP.out;(repeat(refine aB ?_;rintro _ rfl));refine aF ?_;(try simp only [aj]);refine Iy.ah rfl rfl fun K hK=>?_;(try simp only [aj]at hK);refine iF 40 _ rfl gb (ob+j*5) rfl ds _ (Tz.out _ iP.out) Try.underlying40 rfl (uz HD5.out) ?_;exact hK _ _ (Below.refl _ _) rfl))
      iterate 2(·(obtain⟨iP,_⟩:=HB;have k1:=sS.out _ iP.out;have k2:=wU.out _ iP.out;(repeat(refine aB ?_;rintro _ rfl));refine aF ?_;(try simp only [aj]);refine Iy.iV rfl fun K hK=>?_;(try simp only [aj]at hK);go_wp2_with(first|fail);exact hK _ (Ext.alloc (Below.refl _ _) _) ⟨_,rfl,iP.out.size,_,rfl,ak.new _ _ _⟩))
      (·(obtain⟨iP,_⟩:=HB;refine aB ?_;rintro _⟨rfl,Zj⟩;refine aB ?_;rintro _⟨⟨g8,rfl,TA,z8,Om,sN⟩,sW⟩;refine aF ?_;(try simp only [aj]);refine Iy.ah rfl rfl fun K hK=>?_;(try simp only [aj]at hK);refine wp_store_row 40 _ _ rfl g8 cs.toArray rfl rfl 40 z8 sN (uz mg.out) (Om.trans mg.out.symm) iE.out ?_;exact hK undef _ ⟨⟨Below.xU iP.out TA _,fun g e=>(by rw [sW]at e;injection e with e;injection e with e;injection e with e;subst e;exact setRow_heap _ _ _ _ _ _ sN)⟩,Iy.dG (by repeat(first|exact True.intro|refine And.intro (fun _ h=>h) ?_|refine And.intro (fun hne=>absurd rfl hne) ?_|refine And.intro (fun _ h=>(by obtain⟨t9,e9,h9,z9,G6,h10⟩:=h;exact yE sN mg.out e9 h9 G6 h10)) ?_))⟩ trivial))
     intro lM wf HF hdf
     refine au 12 0 1 ?_;rintro _ _ rfl;refine au 11 1 2 ?_;rintro _ _ rfl;refine au 10 2 3 ?_;rintro _ _ rfl;refine au 9 3 4 ?_;rintro _ _ rfl;refine au 8 4 5 ?_;rintro _ _ rfl;refine au 7 5 6 ?_;rintro _ _ rfl;refine au 6 6 7 ?_;rintro _ _ rfl;refine au 5 7 8 ?_;rintro _ _ rfl;refine au 4 8 9 ?_;rintro _ _ rfl;refine au 3 9 10 ?_;rintro _ _ rfl;refine au 2 10 11 ?_;rintro _ sW⟨g8,rfl,TA,z8,Om,sN⟩;refine au 1 11 12 ?_;rintro _ DK⟨g9,rfl,YO,z9,G6,eG⟩;refine au 0 12 13 ?_;rintro _ _ _
     refine Ix.aI ?_
     obtain⟨Tc,TB⟩:=HF;have CU:=TB _ sW;have hne:g8≠g9:=fun e=>hdf 10 11 (by decide) (by decide) rfl rfl (by decide) (by rw [sW,DK,e])
     (try simp only [Act.put,List.setIfInBounds_toArray,List.set_cons_zero,List.set_cons_succ,List.drop_succ_cons,List.drop_zero])
     go_wp2_with(first|(refine wpList_store_row rfl 40 _ _ rfl g9 ds.toArray rfl rfl 40 z9 eG (uz HD5.out) (G6.trans HD5.out.symm) HD1.out ?_;generalize hw7:World.setRow _ _ _=w7))
     all_goals(first|refine Ix.only ?_|(refine Ix.dK fun tz=>?_))
     have lQ:Hid (Below W0.heap.size W0 w7∧ak w7 g8 40 cs.toArray∧ak w7 g9 40 ds.toArray):=by
      show _∧_∧_
      rw [←hw7]
      exact⟨Below.xU Tc.out YO _,(setRow_other _ _ _ _ hne).trans CU,setRow_heap _ _ _ _ _ _ eG⟩
     clear hw7 sN eG CU TB hdf Om G6 FW Tz mg HD5 iE HD1
     obtain⟨vv,bv,e1,hx,hbx⟩:=JX.out
     obtain⟨uu,bu,e2,hx',Y1⟩:=Rz.out
     obtain⟨va,vc,rfl,hvl,hvm⟩:=hx.sl
     obtain⟨ua,uc,rfl,hul,hum⟩:=hx'.sl
     clear JX Rz
     subst e1;subst e2
     obtain⟨I,hI⟩:∃I,y.ps.length=I:=⟨_,rfl⟩
     rw [hI]at hx hx' hvl hul lQ
     have H8:Hid (∀wi,Below w7.heap.size w7 wi→ak wi g8 40 #[.string y.nm, .int .i64 y.b, .bool y.s, .slice va I vc,bv]):=fun wi hw=>(show ak w7 g8 40 #[.string y.nm, .int .i64 y.b, .bool y.s, .slice va I vc,bv]from lQ.out.2.1).keep hw
     have H9:Hid (∀wi,Below w7.heap.size w7 wi→ak wi g9 40 #[.string y.nm, .int .i64 y.b, .bool y.s, .slice ua I uc,bu]):=fun wi hw=>(show ak w7 g9 40 #[.string y.nm, .int .i64 y.b, .bool y.s, .slice ua I uc,bu]from lQ.out.2.2).keep hw
     have dD:=Lib.hid lQ.out.1
     have HXI:=Lib.hid hx
     have HYI:=Lib.hid hx'
     have HI:=Lib.hid hI
     have HC:=Lib.hid (OB y.body w7 bv bu ((hbx.keep lQ.out.1)) ((Y1.keep lQ.out.1)))
     have hI9:(I:Int)≤9223372036854775807:=by unfold maxLen at hvm;omega
     clear lQ hx hx' hbx Y1 hI
     have p0:=(H8.out _ (Below.refl _ _)).cell 0;have p1:=(H8.out _ (Below.refl _ _)).cell 1;have p2:=(H8.out _ (Below.refl _ _)).cell 2;have p3:=(H8.out _ (Below.refl _ _)).cell 3;have p4:=(H8.out _ (Below.refl _ _)).cell 4
     have q0:=(H9.out _ (Below.refl _ _)).cell 0;have q1:=(H9.out _ (Below.refl _ _)).cell 1;have q2:=(H9.out _ (Below.refl _ _)).cell 2;have q3:=(H9.out _ (Below.refl _ _)).cell 3;have q4:=(H9.out _ (Below.refl _ _)).cell 4
     go_upto_region 23 with(first|(go_at_call 23;refine(HC.out).mono ?_;rintro e w8⟨rfl,hb8⟩;have nU:=Lib.hid hb8;clear p0 p1 p2 p3 p4 q0 q1 q2 q3 q4 hb8;have p0:=(H8.out _ nU.out).cell 0;have p1:=(H8.out _ nU.out).cell 1;have p2:=(H8.out _ nU.out).cell 2;have p3:=(H8.out _ nU.out).cell 3;have p4:=(H8.out _ nU.out).cell 4;have q0:=(H9.out _ nU.out).cell 0;have q1:=(H9.out _ nU.out).cell 1;have q2:=(H9.out _ nU.out).cell 2;have q3:=(H9.out _ nU.out).cell 3;have q4:=(H9.out _ nU.out).cell 4))
     clear p0 p1 p2 p3 p4 q0 q1 q2 q3 q4
     go_loopw [141](fun i wr=>∃k:Nat,k≤I∧i= .int .i64 (k:Int)∧Hid (Below w7.heap.size w7 wr))(fun i wr=>I-(intOf i).toNat)
     case atStart=>exact⟨0,Nat.zero_le _,rfl,nU.out⟩
     case round=>
      obtain⟨k,hk,rfl,Oz⟩:=hrel
      clear nU
      by_cases hlt2:k<I
      ·obtain⟨t,ht⟩:∃t,y.ps[k]?=some t:=⟨_,List.getElem?_eq_getElem (by rw [HI.out];exact hlt2)⟩
       obtain⟨gx,ox,xs,hxe,hxs,Kq⟩:=HXI.out.at' ht
       obtain⟨gy,oy,ys,hye,hys,Kr⟩:=HYI.out.at' ht
       subst hxe;subst hye
       subst hxs;subst hys
       have xE:Hid (∀wi,Below wr.heap.size wr wi→Below W0.heap.size W0 wi):=fun wi hw=>Ext.trans dD.out (Ext.trans Oz.out hw)
       have Gw:Hid (∀wi,Below wr.heap.size wr wi→wi.cell? ⟨gx,ox+k*3,none⟩=some (.int .i64 t.b)∧wi.cell? ⟨gx,ox+k*3+1,none⟩=some (.bool t.s)∧wi.cell? ⟨gx,ox+k*3+2,none⟩=some (.string t.nm)):=fun wi hw=>⟨aJ (xE.out wi hw) (Kq 0 _ rfl),aJ (xE.out wi hw) (Kq 1 _ rfl),aJ (xE.out wi hw) (Kq 2 _ rfl)⟩
       have HKB:Hid (∀wi,Below wr.heap.size wr wi→wi.cell? ⟨gy,oy+k*3,none⟩=some (.int .i64 t.b)∧wi.cell? ⟨gy,oy+k*3+1,none⟩=some (.bool t.s)∧wi.cell? ⟨gy,oy+k*3+2,none⟩=some (.string t.nm)):=fun wi hw=>⟨aJ (xE.out wi hw) (Kr 0 _ rfl),aJ (xE.out wi hw) (Kr 1 _ rfl),aJ (xE.out wi hw) (Kr 2 _ rfl)⟩
       have Gx:Hid (∀wi,Below wr.heap.size wr wi→wi.cell? ⟨g8,3,none⟩=some (.slice (some ⟨gx,ox,none⟩) I vc)∧wi.cell? ⟨g9,3,none⟩=some (.slice (some ⟨gy,oy,none⟩) I uc)):=fun wi hw=>⟨(H8.out _ (Ext.trans Oz.out hw)).cell 3,(H9.out _ (Ext.trans Oz.out hw)).cell 3⟩
       have OA:=Lib.hid hlt2
       clear Kq Kr ht
       go_upto_region 25 with(fail)
       apply Ix.wp_region 11 (fun wi=>Hid (Below wr.heap.size wr wi)) (Ix.vk [(Ix.aA _),(Ix.aA _),(Ix.aA _),(Ix.aA _),(Ix.aA (.agg #[.int .i64 t.b, .bool t.s, .string t.nm])),(Ix.aA _),(Ix.aA _),(Ix.aA _),(Ix.aA _),(Ix.aA (.agg #[.int .i64 t.b, .bool t.s, .string t.nm])),(Ix.aA (.bool false))]) (fun _=>false) (by kernel_rfl) (by kernel_rfl) (by kernel_rfl) (fun _ _ h hb=>Ext.trans h.out hb) (Ix.aN _) (Ix.bP _) (Below.refl _ _:Below wr.heap.size wr wr)
       case step=>
        refine aP 10 0 1 [] (fun wi HB=>?_)<|aP 9 1 2 [(0,some 144)] (fun wi HB=>?_)<|aP 8 2 3 [] (fun wi HB=>?_)<|aP 7 3 4 [(1,some 145),(2,some 146)] (fun wi HB=>?_)<|aP 6 4 5 [(3,some 147)] (fun wi HB=>?_)<|aP 5 5 6 [] (fun wi HB=>?_)<|aP 4 6 7 [(5,some 149)] (fun wi HB=>?_)<|aP 3 7 8 [] (fun wi HB=>?_)<|aP 2 8 9 [(6,some 150),(7,some 151)] (fun wi HB=>?_)<|aP 1 9 10 [(8,some 152)] (fun wi HB=>?_)<|aP 0 10 11 [(4,some 148),(9,some 153)] (fun wi HB=>?_)<|Ix.aC
        (·((repeat(refine aB ?_;rintro _ rfl));refine aF ?_;(try simp only [aj]);refine Ix.ah rfl rfl fun K hK=>?_;(try simp only [aj]at hK);go_wp2_with(first|fail);exact hK _ _ (Below.refl _ _) rfl))
        (·(obtain⟨k0,k1,k2⟩:=Gw.out _ HB.out;obtain⟨l0,l1,l2⟩:=HKB.out _ HB.out;obtain⟨x5,y5⟩:=Gx.out _ HB.out;(repeat(refine aB ?_;rintro _ rfl));refine aF ?_;(try simp only [aj]);refine Ix.ah rfl rfl fun K hK=>?_;(try simp only [aj]at hK);go_wp2_with(first|fail);exact hK _ _ (Below.refl _ _) rfl))
        iterate 2(·((repeat(refine aB ?_;rintro _ rfl));refine aF ?_;(try simp only [aj]);refine Ix.ah rfl rfl fun K hK=>?_;(try simp only [aj]at hK);go_wp2_with(first|fail);exact hK _ _ (Below.refl _ _) rfl))
        (·(obtain⟨k0,k1,k2⟩:=Gw.out _ HB.out;obtain⟨l0,l1,l2⟩:=HKB.out _ HB.out;obtain⟨x5,y5⟩:=Gx.out _ HB.out;(repeat(refine aB ?_;rintro _ rfl));refine aF ?_;(try simp only [aj]);refine Ix.ah rfl rfl fun K hK=>?_;(try simp only [aj]at hK);go_wp2_with(first|fail);exact hK _ _ (Below.refl _ _) rfl))
        (·((repeat(refine aB ?_;rintro _ rfl));refine aF ?_;(try simp only [aj]);refine Ix.ah rfl rfl fun K hK=>?_;(try simp only [aj]at hK);go_wp2_with(first|fail);exact hK _ _ (Below.refl _ _) rfl))
        (·(obtain⟨k0,k1,k2⟩:=Gw.out _ HB.out;obtain⟨l0,l1,l2⟩:=HKB.out _ HB.out;obtain⟨x5,y5⟩:=Gx.out _ HB.out;(repeat(refine aB ?_;rintro _ rfl));refine aF ?_;(try simp only [aj]);refine Ix.ah rfl rfl fun K hK=>?_;(try simp only [aj]at hK);go_wp2_with(first|fail);exact hK _ _ (Below.refl _ _) rfl))
        iterate 2(·((repeat(refine aB ?_;rintro _ rfl));refine aF ?_;(try simp only [aj]);refine Ix.ah rfl rfl fun K hK=>?_;(try simp only [aj]at hK);go_wp2_with(first|fail);exact hK _ _ (Below.refl _ _) rfl))
        (·(obtain⟨k0,k1,k2⟩:=Gw.out _ HB.out;obtain⟨l0,l1,l2⟩:=HKB.out _ HB.out;obtain⟨x5,y5⟩:=Gx.out _ HB.out;(repeat(refine aB ?_;rintro _ rfl));refine aF ?_;(try simp only [aj]);refine Ix.ah rfl rfl fun K hK=>?_;(try simp only [aj]at hK);go_wp2_with(first|fail);exact hK _ _ (Below.refl _ _) rfl))
        (·((repeat(refine aB ?_;rintro _ rfl));refine aF ?_;(try simp only [aj]);refine Ix.ah rfl rfl fun K hK=>?_;(try simp only [aj]at hK);go_wp2_with(first|fail);exact hK _ _ (Below.refl _ _) rfl))
       intro lM wf HF hdf
       refine au 10 0 1 ?_;rintro _ _ rfl;refine au 9 1 2 ?_;rintro _ _ rfl;refine au 8 2 3 ?_;rintro _ _ rfl;refine au 7 3 4 ?_;rintro _ _ rfl;refine au 6 4 5 ?_;rintro _ _ rfl;refine au 5 5 6 ?_;rintro _ _ rfl;refine au 4 6 7 ?_;rintro _ _ rfl;refine au 3 7 8 ?_;rintro _ _ rfl;refine au 2 8 9 ?_;rintro _ _ rfl;refine au 1 9 10 ?_;rintro _ _ rfl;refine au 0 10 11 ?_;rintro _ _ rfl
       refine Ix.aI ?_
       (try simp only [Act.put,List.setIfInBounds_toArray,List.set_cons_zero,List.set_cons_succ,List.drop_succ_cons,List.drop_zero])
       refine Ix.nil ?_
       go_wp2_with(fail)
       go_round
       case rel=>exact⟨k+1,OA.out,by go_num,Ext.trans Oz.out HF.out⟩
       case measure=>have:=OA.out;simp [intOf];omega
      ·go_wp2_with(fail)
       go_round
       case rel=>exact⟨j+1,iD.out,by go_num,Ext.trans HR.out (Ext.trans dD.out Oz.out)⟩
       case measure=>have:=iD.out;simp [intOf];omega
    ·obtain rfl:j=F:=by omega
     go_wp2_with(fail)
     go_ret
     exact⟨rfl,Ext.trans HS2.out.1 HR.out⟩
end
end Go.Proofs.Ythdckndjggljpaa
