/- Proofs of this claim, part 15. No condition. -/
import Derived.Test.YthdckndjggljpaaS14
namespace Go.Proofs.Ythdckndjggljpaa
set_option linter.unusedVariables false
set_option linter.unusedSimpArgs false
set_option maxRecDepth 100000
set_option maxHeartbeats 64000000
section
open Go.RowKit
section
variable{w w':World}{g q off:Nat}
theorem Row.xp{l:List X}{v:Value}(h:Row w (fun t=>t≠g) 6 (dA w (fun t=>t≠g)) l v):∃a c,v= .slice a l.length c∧l.length≤c∧c≤maxLen∧∀i y,l[i]?=some y→∃gk ok,a=some ⟨gk,ok,none⟩∧XP w g y gk (ok+i*6):=by
 obtain⟨a,c,e,h1,h2,h3⟩:=h.parts
 refine⟨a,c,e,h1,h2,fun i y hy=>?_⟩
 obtain⟨gk,ok,cs,hp,ea,hx,hc⟩:=h3 i y hy
 exact⟨gk,ok,ea,hp,cs,hx,hc⟩
theorem Row.abB{l:List X}{v:Value}(h:Row w (fun t=>t≠g) 6 (dA w (fun t=>t≠g)) l v)(hc:aH g w w'):Row w' (fun t=>t≠g) 6 (dA w' (fun t=>t≠g)) l v:=
 h.move (fun x _ cs h=>h.move (iH hc)) (fun x _ cs h e=>by have:=h.six;rw [e]at this;cases this) (iH hc)
structure GQ(w:World)(g:Nat)(x:Gl)(v:Value)(q off:Nat):Prop where
 ne:q≠g
 c0:w.cell? ⟨q,off,none⟩=some (.int .i64 x.b)
 c1:w.cell? ⟨q,off+1,none⟩=some (.bool x.s)
 c2:w.cell? ⟨q,off+2,none⟩=some (.string x.nm)
 c3:w.cell? ⟨q,off+3,none⟩=some (.int .i64 x.size)
 c4:w.cell? ⟨q,off+4,none⟩=some v
 row:Row w (fun t=>t≠g) 6 (dA w (fun t=>t≠g)) x.ini v
theorem GQ.bC{x:Gl}{v:Value}(h:GQ w g x v q off)(hc:aH g w w'):GQ w' g x v q off:=
 ⟨h.ne,hc.cell h.ne h.c0,hc.cell h.ne h.c1,hc.cell h.ne h.c2,hc.cell h.ne h.c3,hc.cell h.ne h.c4,h.row.abB hc⟩
end
theorem vS(g N q off:Nat)(x:Gl)(v:Value)(w:World)(hQ:GQ w g x v q off)(hB:bT w g N)(hN:N≤20000)(hw:Gl.Wf x):
 Calls Try.prog 18 #[P g, .pointer (some ⟨q,off,none⟩)] w (bU g w (Pg.gl x N)):=by
 obtain⟨R,hR⟩:∃R,R=Pg.gl x N:=⟨_,rfl⟩
 rw [←hR]
 unfold Pg.gl at hR
 obtain⟨b,s,nm,z,ini⟩:=x
 simp only at hR
 obtain⟨T,hT⟩:∃T,T=tyName b nm.data.toList:=⟨_,rfl⟩
 have S9:Hid (∀wi:World,Calls Try.prog 35 #[W.ty b s, .string nm] wi fun e w'=>e= .returned (.int .i64 T)∧Below wi.heap.size wi w'):=fun wi=>by rw [hT];exact rW b s nm hw.nm wi
 rw [←hT]at hR
 obtain⟨a,c,rfl,hlc,hcm,_⟩:=hQ.row.xp
 have HQ:=Lib.hid hQ
 have HB:=Lib.hid hB
 have HR:=Lib.hid hR
 have HIX:Hid (∀y∈ini,y9 g y):=fun y hy=>vT g y (hw.ini y hy)
 have uU:=Lib.hid hN
 obtain⟨L,hL⟩:∃L,ini.length=L:=⟨_,rfl⟩
 have hlc:L≤c:=by rw [←hL];exact hlc
 rw [hL]at HQ HR
 have Gn:=Lib.hid hL
 have OL:(L:Int)≤9223372036854775807:=by unfold maxLen at hcm;omega
 clear hR hT hQ hB hw hN hL hlc hcm
 go_enter Try.func18,Try.ntmps18
 go_upto_region 1 with(fail)
 apply Ix.wp_region 8 (fun wi=>Hid (Below w.heap.size w wi)) (Ix.vk [(Ix.aA _),(Ix.aA _),(Ix.aA _),(Ix.aA _),(Ix.aA _),(Ix.aA _),(Ix.aA _),(Ix.aA _)]) (fun _=>false) (by kernel_rfl) (by kernel_rfl) (by kernel_rfl) (fun _ _ h hb=>Ext.trans h.out hb) (Ix.aN _) (Ix.bP _) (Below.refl _ _:Below w.heap.size w w)
 case step=>
  refine aP 7 0 1 [] (fun wi HB=>?_)<|aP 6 1 2 [(0,some 9)] (fun wi HB=>?_)<|aP 5 2 3 [(1,some 10)] (fun wi HB=>?_)<|aP 4 3 4 [(2,some 11)] (fun wi HB=>?_)<|aP 3 4 5 [] (fun wi HB=>?_)<|aP 2 5 6 [(4,some 13)] (fun wi HB=>?_)<|aP 1 6 7 [(5,some 14)] (fun wi HB=>?_)<|aP 0 7 8 [(6,some 15)] (fun wi HB=>?_)<|Ix.aC
  iterate 3(·((repeat(refine aB ?_;rintro _ rfl));refine aF ?_;(try simp only [aj]);refine Ix.ah rfl rfl fun K hK=>?_;(try simp only [aj]at hK);go_wp2_with(first|fail);exact hK _ _ (Below.refl _ _) rfl))
  (·(obtain⟨_,c0,c1,c2,c3,c4,_⟩:=HQ.out.bC (aH.of_below HB.out);(repeat(refine aB ?_;rintro _ rfl));refine aF ?_;(try simp only [aj]);refine Ix.ah rfl rfl fun K hK=>?_;(try simp only [aj]at hK);go_wp2_with(first|fail);exact hK _ _ (Below.refl _ _) rfl))
  iterate 3(·((repeat(refine aB ?_;rintro _ rfl));refine aF ?_;(try simp only [aj]);refine Ix.ah rfl rfl fun K hK=>?_;(try simp only [aj]at hK);go_wp2_with(first|fail);exact hK _ _ (Below.refl _ _) rfl))
  (·(obtain⟨_,c0,c1,c2,c3,c4,_⟩:=HQ.out.bC (aH.of_below HB.out);(repeat(refine aB ?_;rintro _ rfl));refine aF ?_;(try simp only [aj]);refine Ix.ah rfl rfl fun K hK=>?_;(try simp only [aj]at hK);go_wp2_with(first|fail);exact hK _ _ (Below.refl _ _) rfl))
 intro lM wf HF hdf
 refine au 7 0 1 ?_;rintro _ _ rfl;refine au 6 1 2 ?_;rintro _ _ rfl;refine au 5 2 3 ?_;rintro _ _ rfl;refine au 4 3 4 ?_;rintro _ _ rfl;refine au 3 4 5 ?_;rintro _ _ rfl;refine au 2 5 6 ?_;rintro _ _ rfl;refine au 1 6 7 ?_;rintro _ _ rfl;refine au 0 7 8 ?_;rintro _ _ rfl
 refine Ix.aI ?_
 (try simp only [Act.put,List.setIfInBounds_toArray,List.set_cons_zero,List.set_cons_succ,List.drop_succ_cons,List.drop_zero])
 go_wp2_with(first|(go_at_call 35;refine(S9.out _).mono ?_;rintro e w4⟨rfl,hb4⟩;have HB4:=Lib.hid hb4;clear hb4))
 all_goals(first|refine Ix.only ?_|(refine Ix.dK fun tz=>?_))
 have HW1:=Lib.hid ((Ext.trans HF.out HB4.out):Below w.heap.size w w4)
 clear HF hdf HB4
 by_cases hT0:T=0
 rotate_left
 ·have HRR:Hid (R=(T,N)):=by show R=_;rw [HR.out,if_pos hT0]
  have qT:(T !=0)=true:=by simpa using hT0
  clear hT0
  go_wp2_with(fail)
  go_ret
  exact⟨by rw [HRR.out];rfl,aH.of_below HW1.out,by rw [HRR.out];exact HB.out.keep HW1.out⟩
 subst hT0
 have hQ2:=HQ.out.bC (aH.of_below HW1.out)
 obtain⟨_,c0,c1,c2,c3,c4,_⟩:=hQ2
 by_cases hz:z<0∨8000<z
 ·have HRR:Hid (R=(3,N)):=by show R=_;rw [HR.out,if_neg (by decide),if_pos hz]
  by_cases h0:z<0
  ·have q0:decide (z<0)=true:=by simpa using h0
   clear hz h0
   go_wp2_with(fail)
   go_ret
   exact⟨by rw [HRR.out];rfl,aH.of_below HW1.out,by rw [HRR.out];exact HB.out.keep HW1.out⟩
  ·have q0:decide (z<0)=false:=by simpa using h0
   have q8:decide (z>8000)=true:=by simp;omega
   clear hz h0
   go_wp2_with(fail)
   go_ret
   exact⟨by rw [HRR.out];rfl,aH.of_below HW1.out,by rw [HRR.out];exact HB.out.keep HW1.out⟩
 have q0:decide (z<0)=false:=by simp;omega
 have q8:decide (z>8000)=false:=by simp;omega
 go_upto_region 6 with(fail)
 clear c0 c1 c2 c3 c4
 apply Ix.wp_region 12 (fun wi=>Hid (Below w.heap.size w wi)) (Ix.vk [(Ix.aA _),(Ix.aA _),(Ix.aA _),(Ix.aA _),(Ix.aA _),(Ix.aA _),(Ix.aA _),(Ix.aA _),(Ix.aA _),(Ix.aA _),(Ix.aA _),(Ix.aA _)]) (fun _=>false) (by kernel_rfl) (by kernel_rfl) (by kernel_rfl) (fun _ _ h hb=>Ext.trans h.out hb) (Ix.aN _) (Ix.bP _) (HW1.out:Below w.heap.size w w4)
 case step=>
  refine aP 11 0 1 [] (fun wi HB=>?_)<|aP 10 1 2 [(0,some 35)] (fun wi HB=>?_)<|aP 9 2 3 [(1,some 36)] (fun wi HB=>?_)<|aP 8 3 4 [(2,some 37)] (fun wi HB=>?_)<|aP 7 4 5 [(3,some 38)] (fun wi HB=>?_)<|aP 6 5 6 [] (fun wi HB=>?_)<|aP 5 6 7 [(5,some 40)] (fun wi HB=>?_)<|aP 4 7 8 [(6,some 41)] (fun wi HB=>?_)<|aP 3 8 9 [(7,some 42)] (fun wi HB=>?_)<|aP 2 9 10 [(8,some 43)] (fun wi HB=>?_)<|aP 1 10 11 [(4,some 39),(9,some 44)] (fun wi HB=>?_)<|aP 0 11 12 [(10,some 45)] (fun wi HB=>?_)<|Ix.aC
  iterate 3(·((repeat(refine aB ?_;rintro _ rfl));refine aF ?_;(try simp only [aj]);refine Ix.ah rfl rfl fun K hK=>?_;(try simp only [aj]at hK);go_wp2_with(first|fail);exact hK _ _ (Below.refl _ _) rfl))
  iterate 2(·(obtain⟨_,c0,c1,c2,c3,c4,_⟩:=HQ.out.bC (aH.of_below HB.out);(repeat(refine aB ?_;rintro _ rfl));refine aF ?_;(try simp only [aj]);refine Ix.ah rfl rfl fun K hK=>?_;(try simp only [aj]at hK);go_wp2_with(first|fail);exact hK _ _ (Below.refl _ _) rfl))
  iterate 3(·((repeat(refine aB ?_;rintro _ rfl));refine aF ?_;(try simp only [aj]);refine Ix.ah rfl rfl fun K hK=>?_;(try simp only [aj]at hK);go_wp2_with(first|fail);exact hK _ _ (Below.refl _ _) rfl))
  iterate 2(·(obtain⟨_,c0,c1,c2,c3,c4,_⟩:=HQ.out.bC (aH.of_below HB.out);(repeat(refine aB ?_;rintro _ rfl));refine aF ?_;(try simp only [aj]);refine Ix.ah rfl rfl fun K hK=>?_;(try simp only [aj]at hK);go_wp2_with(first|fail);exact hK _ _ (Below.refl _ _) rfl))
  iterate 2(·((repeat(refine aB ?_;rintro _ rfl));refine aF ?_;(try simp only [aj]);refine Ix.ah rfl rfl fun K hK=>?_;(try simp only [aj]at hK);go_wp2_with(first|fail);exact hK _ _ (Below.refl _ _) rfl))
 intro lM wf HF hdf
 refine au 11 0 1 ?_;rintro _ _ rfl;refine au 10 1 2 ?_;rintro _ _ rfl;refine au 9 2 3 ?_;rintro _ _ rfl;refine au 8 3 4 ?_;rintro _ _ rfl;refine au 7 4 5 ?_;rintro _ _ rfl;refine au 6 5 6 ?_;rintro _ _ rfl;refine au 5 6 7 ?_;rintro _ _ rfl;refine au 4 7 8 ?_;rintro _ _ rfl;refine au 3 8 9 ?_;rintro _ _ rfl;refine au 2 9 10 ?_;rintro _ _ rfl;refine au 1 10 11 ?_;rintro _ _ rfl;refine au 0 11 12 ?_;rintro _ _ rfl
 refine Ix.aI ?_
 (try simp only [Act.put,List.setIfInBounds_toArray,List.set_cons_zero,List.set_cons_succ,List.drop_succ_cons,List.drop_zero])
 refine Ix.nil ?_
 have HW2:=Lib.hid HF.out
 clear HF hdf
 obtain⟨B,hBd⟩:∃B,decide (max 1 z<(L:Int))=B:=⟨_,rfl⟩
 rw [hBd]
 cases B with
 |true=>
  have h:max 1 z<(L:Int):=of_decide_eq_true hBd
  have HRR:Hid (R=(5,N)):=by show R=_;rw [HR.out,if_neg (by decide),if_neg hz,if_pos (by omega)]
  clear h hBd hz
  go_wp2_with(fail)
  go_ret
  exact⟨by rw [HRR.out];rfl,aH.of_below HW2.out,by rw [HRR.out];exact HB.out.keep HW2.out⟩
 |false=>
  have h:¬max 1 z<(L:Int):=of_decide_eq_false hBd
  have HR2:Hid (R=if 20000≤N then(4,N+1)else X.cnts ini (N+1) 2):=by show R=_;rw [HR.out,if_neg (by decide),if_neg hz,if_neg (by omega)]
  clear h hBd hz q0 q8
  by_cases Bv:20000≤N
  ·have wW:Hid (∀w1:World,bT w1 g N→Calls Try.prog 36 #[P g, .int .i64 1] w1 (bU g w1 (4,N+1))):=fun w1 hb=>by
    have:=kN w1 g N 1 uU.out hb;rw [if_pos (.inl Bv)]at this;exact this
   have HRR:Hid (R=(4,N+1)):=by show R=_;rw [HR2.out,if_pos Bv]
   clear Bv
   go_wp2_with(first|(go_at_call 36;refine(wW.out _ (HB.out.keep HW2.out)).mono ?_;rintro e w5⟨rfl,hc5,hb5⟩;have mg:=Lib.hid hc5;have bD:=Lib.hid hb5;clear hc5 hb5))
   go_ret
   exact⟨by rw [HRR.out];rfl,(aH.of_below HW2.out).trans mg.out,by rw [HRR.out];exact bD.out⟩
  ·have wW:Hid (∀w1:World,bT w1 g N→Calls Try.prog 36 #[P g, .int .i64 1] w1 (bU g w1 (0,N+1))):=fun w1 hb=>by
    have:=kN w1 g N 1 uU.out hb;rw [if_neg (by omega)]at this;exact this
   have pG:Hid (R=X.cnts ini (N+1) 2):=by show R=_;rw [HR2.out,if_neg Bv]
   have oL:Hid (N+1≤20000):=by show N+1≤20000;omega
   clear Bv
   go_upto_region 12 with(first|(go_at_call 36;refine(wW.out _ (HB.out.keep HW2.out)).mono ?_;rintro e w5⟨rfl,hc5,hb5⟩;have mg:=Lib.hid ((aH.of_below HW2.out).trans hc5);have bD:=Lib.hid hb5;obtain⟨_,c0,c1,c2,c3,c4,_⟩:=HQ.out.bC mg.out;clear hc5 hb5))
   go_loopw [56](fun i wr=>∃j:Nat,j≤L∧i= .int .i64 (j:Int)∧Hid (aH g w wr∧(X.cnts (ini.take j) (N+1) 2).1=0∧bT wr g (X.cnts (ini.take j) (N+1) 2).2))(fun i wr=>L-(intOf i).toNat)
   case atStart=>exact⟨0,Nat.zero_le _,rfl,mg.out,rfl,bD.out⟩
   case round=>
    obtain⟨j,hj,rfl,hrest⟩:=hrel
    have hq:=HQ.out.bC hrest.out.1
    clear c0 c1 c2 c3 c4
    have c4:=hq.c4
    by_cases hlt:j<L
    ·obtain⟨y,hy⟩:∃y,ini[j]?=some y:=⟨_,List.getElem?_eq_getElem (by rw [Gn.out];exact hlt)⟩
     obtain⟨a2,c2,e2,_,_,hat⟩:=hq.row.xp
     obtain⟨gk,ok,ha,hky⟩:=hat j y hy
     injection e2 with e3 e4 e5
     clear e4 e5
     subst e3 ha
     obtain⟨N',hN'⟩:∃N',N'=(X.cnts (ini.take j) (N+1) 2).2:=⟨_,rfl⟩
     have hr2:=hrest.out
     rw [←hN']at hr2
     have jY:N'≤20000:=by rw [hN'];exact X.lX _ _ oL.out hrest.out.2.1
     have kU:Hid (Calls Try.prog 37 #[P g, .pointer (some ⟨gk,ok+j*6,none⟩), .int .i64 2] wr (bU g wr (X.cnt y N' 2))):=HIX.out y (List.mem_of_getElem? hy) wr gk (ok+j*6) N' 2 hky hr2.2.2 jY (by omega) (by omega)
     obtain⟨re,rn,hrr⟩:∃re rn,X.cnt y N' 2=(re,rn):=⟨_,_,rfl⟩
     rw [hrr]at kU
     have HRR:=Lib.hid hrr
     have HY:=Lib.hid hy
     have HN':=Lib.hid hN'
     have iD:=Lib.hid hlt
     clear hrr hy hN' hr2 jY hky hat hq
     by_cases h0:re=0
     ·subst h0
      go_wp2_with(first|(go_at_call 37;refine kU.out.mono ?_;rintro e w6⟨rfl,hc4,hb4⟩;have Bz:=Lib.hid hc4;have iK:=Lib.hid hb4;clear hc4 hb4))
      go_round
      case rel=>
       have hst:=X.jI (x:= .mk 0 0 0 false nm ini) HY.out (N+1) 2 hrest.out.2.1
       have hst:X.cnts (ini.take (j+1)) (N+1) 2=(0,rn):=by rw [←HRR.out,HN'.out];exact hst
       exact⟨j+1,iD.out,by go_num,hrest.out.1.trans Bz.out,by rw [hst],by rw [hst];exact iK.out⟩
      case measure=>have:=iD.out;simp [intOf];omega
     ·have tC:Hid (R=(re,rn)):=by
       show R=_
       rw [pG.out,←HRR.out,HN'.out]
       exact X.qA (x:= .mk 0 0 0 false nm ini) HY.out (N+1) 2 hrest.out.2.1 (by show(X.cnt y (X.cnts (ini.take j) (N+1) 2).2 2).1≠0;rw [←HN'.out,HRR.out];exact h0)
      have q0:(re !=0)=true:=by simpa using h0
      clear h0
      go_wp2_with(first|(go_at_call 37;refine kU.out.mono ?_;rintro e w6⟨rfl,hc4,hb4⟩;have Bz:=Lib.hid hc4;have iK:=Lib.hid hb4;clear hc4 hb4))
      go_ret
      exact⟨by rw [tC.out];rfl,hrest.out.1.trans Bz.out,by rw [tC.out];exact iK.out⟩
    ·obtain rfl:j=L:=by omega
     have HE:Hid (R=(0,(X.cnts (ini.take j) (N+1) 2).2)):=by
      show R=_
      rw [pG.out,Prod.ext_iff]
      have:ini.take j=ini:=List.take_of_length_le (by rw [Gn.out];exact Nat.le_refl _)
      have h0:=hrest.out.2.1
      rw [this]at h0⊢
      exact⟨h0,rfl⟩
     clear hlt hq
     go_wp2
     go_ret
     exact⟨by rw [HE.out];rfl,hrest.out.1,by rw [HE.out];exact hrest.out.2.2⟩
end
section
open Go.RowKit
structure FQ(w:World)(g:Nat)(x:Fn)(v0 v1:Value)(q off:Nat):Prop where
 ne:q≠g
 c0:w.cell? ⟨q,off,none⟩=some (.string x.nm)
 c1:w.cell? ⟨q,off+1,none⟩=some (.int .i64 x.b)
 c2:w.cell? ⟨q,off+2,none⟩=some (.bool x.s)
 c3:w.cell? ⟨q,off+3,none⟩=some v0
 c4:w.cell? ⟨q,off+4,none⟩=some v1
 ps:Row w (fun t=>t≠g) 3 zq x.ps v0
 body:aQ w (fun t=>t≠g) x.body v1
section
variable{w w':World}{g q off:Nat}
theorem FQ.bC{x:Fn}{v0 v1:Value}(h:FQ w g x v0 v1 q off)(hc:aH g w w'):FQ w' g x v0 v1 q off:=
 ⟨h.ne,hc.cell h.ne h.c0,hc.cell h.ne h.c1,hc.cell h.ne h.c2,hc.cell h.ne h.c3,hc.cell h.ne h.c4,h.ps.move (fun _ _ _ h=>h) (fun x _ cs h=>by rw [h];simp) (iH hc),h.body.move (iH hc)⟩
theorem Row.pm{p:Nat→Prop}{l:List Pm}{v:Value}(h:Row w p 3 zq l v):∃a c,v= .slice a l.length c∧l.length≤c∧c≤maxLen∧∀(i:Nat)(y:Pm),l[i]?=some y→∃gk ok,a=some ⟨gk,ok,none⟩∧w.cell? ⟨gk,ok+i*3,none⟩=some (.int .i64 y.b)∧w.cell? ⟨gk,ok+i*3+1,none⟩=some (.bool y.s)∧w.cell? ⟨gk,ok+i*3+2,none⟩=some (.string y.nm):=by
 obtain⟨a,c,e,h1,h2,h3⟩:=h.parts
 refine⟨a,c,e,h1,h2,fun i y hy=>?_⟩
 obtain⟨gk,ok,cs,hp,ea,hx,hc⟩:=h3 i y hy
 unfold zq at hx
 subst hx
 exact⟨gk,ok,ea,hc 0 _ rfl,hc 1 _ rfl,hc 2 _ rfl⟩
end
theorem Pg.NG(l:List Pm)(y:Pm)(h:Pg.oV l=0):Pg.oV (l++[y])=tyName y.b y.nm.data.toList:=by
 induction l with
 |nil=>rw [List.nil_append,Pg.oV,Pg.oV];split
       ·rename_i h;exact h.symm
       ·rfl
 |cons x l ih=>
  rw [Pg.oV]at h
  rw [List.cons_append,Pg.oV]
  split at h
  ·rename_i h1;rw [if_pos h1];exact ih h
  ·rename_i h1;exact absurd h h1
theorem Pg.Ls(l m:List Pm)(h:Pg.oV l≠0):Pg.oV (l++m)=Pg.oV l:=by
 induction l with
 |nil=>exact absurd rfl h
 |cons x l ih=>
  rw [Pg.oV]at h
  rw [List.cons_append,Pg.oV,Pg.oV]
  split at h
  ·rename_i h1;rw [if_pos h1,if_pos h1];exact ih h
  ·rename_i h1;rw [if_neg h1,if_neg h1]
theorem Pg.BD{l:List Pm}{i:Nat}{y:Pm}(hy:l[i]?=some y)(h:Pg.oV (l.take i)=0):Pg.oV (l.take (i+1))=tyName y.b y.nm.data.toList:=by
 rw [List.take_add_one,hy];exact Pg.NG _ _ h
theorem Pg.QS{l:List Pm}{i:Nat}{y:Pm}(hy:l[i]?=some y)(h:Pg.oV (l.take i)=0)(hb:tyName y.b y.nm.data.toList≠0):Pg.oV l=tyName y.b y.nm.data.toList:=by
 rw [←Pg.BD hy h]at hb⊢
 have:=Pg.Ls (l.take (i+1)) (l.drop (i+1)) hb
 rw [List.take_append_drop]at this
 exact this
theorem qQ(g N q off:Nat)(x:Fn)(v0 v1:Value)(w:World)(hQ:FQ w g x v0 v1 q off)(hB:bT w g N)(hN:N≤20000)(hw:Fn.Wf x):
 Calls Try.prog 19 #[P g, .pointer (some ⟨q,off,none⟩)] w (bU g w (Pg.fn x N)):=by
 obtain⟨R,hR⟩:∃R,R=Pg.fn x N:=⟨_,rfl⟩
 rw [←hR]
 unfold Pg.fn at hR
 obtain⟨nm,b,s,ps,body⟩:=x
 simp only at hR
 have hIS:Dw g body:=lH g body (fun y hy=>ND g y (hw.body y hy))
 obtain⟨a,c,rfl,hlc,hcm,_⟩:=hQ.ps.pm
 obtain⟨ab,cb,rfl,_,_,_⟩:=hQ.body.at
 have HQ:=Lib.hid hQ
 have HB:=Lib.hid hB
 have HR:=Lib.hid hR
 have HIS:=Lib.hid hIS
 have uU:=Lib.hid hN
 have HPN:Hid (∀y∈ps,y.nm.size≤maxLen):=fun y hy=>(hw.ps y hy).nm
 have hnm:nm.size≤maxLen:=hw.nm
 obtain⟨V,hV⟩:∃V,V=Tk.oC nm.data.toList:=⟨_,rfl⟩
 have JR:Hid (∀w1:World,Calls Try.prog 7 #[.string nm] w1 fun e w'=>e= .returned (.bool V)∧Below w1.heap.size w1 w'):=fun w1=>by rw [hV];exact iR nm hnm w1
 rw [←hV]at HR
 obtain⟨U,hU⟩:∃U,U=W.okB b:=⟨_,rfl⟩
 have vg:Hid (∀w1:World,Calls Try.prog 38 #[W.ty b s] w1 fun e w'=>e= .returned (.bool U)∧Below w1.heap.size w1 w'):=fun w1=>by rw [hU];exact qI b s w1
 rw [←hU]at HR
 obtain⟨L,hL⟩:∃L,ps.length=L:=⟨_,rfl⟩
 obtain⟨LB,hLB⟩:∃L,body.length=L:=⟨_,rfl⟩
 have hlc:L≤c:=by rw [←hL];exact hlc
 rw [hL]at HQ HR
 rw [hLB]at HQ
 have Gn:=Lib.hid hL
 have OL:(L:Int)≤9223372036854775807:=by unfold maxLen at hcm;omega
 clear hR hV hQ hB hw hN hL hlc hcm hIS hnm hU hLB
 obtain⟨_,c0,c1,c2,c3,c4,_,_⟩:=HQ.out
 cases V with
 |false=>
  have HRR:Hid (R=(7,N)):=by show R=_;rw [HR.out,if_pos rfl]
  go_enter Try.func19,Try.ntmps19
  go_wp2_with(first|(go_at_call 7;refine(JR.out _).mono ?_;rintro e w1⟨rfl,hb1⟩;have HB1:=Lib.hid hb1;obtain⟨_,c0,c1,c2,c3,c4,_,_⟩:=HQ.out.bC (aH.of_below hb1);clear hb1))
  go_ret
  exact⟨by rw [HRR.out];rfl,aH.of_below HB1.out,by rw [HRR.out];exact HB.out.keep HB1.out⟩
 |true=>
  by_cases hbad:¬(b=0∧s=false)∧U=false
  ·have HRR:Hid (R=(9,N)):=by show R=_;rw [HR.out,if_neg (by decide),if_pos hbad]
   obtain⟨h1,rfl⟩:=hbad
   by_cases hb0:b=0
   ·subst hb0
    have hs0:s=true:=by cases s;exact absurd ⟨rfl,rfl⟩ h1;rfl
    subst hs0
    clear h1
    go_enter Try.func19,Try.ntmps19
    go_wp2_with(first|(go_at_call 7;refine(JR.out _).mono ?_;rintro e w1⟨rfl,hb1⟩;have HB1:=Lib.hid hb1;obtain⟨_,c0,c1,c2,c3,c4,_,_⟩:=HQ.out.bC (aH.of_below hb1);clear hb1)|(go_at_call 38;refine(vg.out _).mono ?_;rintro e w2⟨rfl,hb2⟩;have HB2:=Lib.hid (Ext.trans HB1.out hb2);clear c0 c1 c2 c3 c4;obtain⟨_,c0,c1,c2,c3,c4,_,_⟩:=HQ.out.bC (aH.of_below HB2.out);clear hb2))
    go_ret
    exact⟨by rw [HRR.out];rfl,aH.of_below HB2.out,by rw [HRR.out];exact HB.out.keep HB2.out⟩
   ·clear h1
    go_enter Try.func19,Try.ntmps19
    go_wp2_with(first|(go_at_call 7;refine(JR.out _).mono ?_;rintro e w1⟨rfl,hb1⟩;have HB1:=Lib.hid hb1;obtain⟨_,c0,c1,c2,c3,c4,_,_⟩:=HQ.out.bC (aH.of_below hb1);clear hb1)|(go_at_call 38;refine(vg.out _).mono ?_;rintro e w2⟨rfl,hb2⟩;have HB2:=Lib.hid (Ext.trans HB1.out hb2);clear c0 c1 c2 c3 c4;obtain⟨_,c0,c1,c2,c3,c4,_,_⟩:=HQ.out.bC (aH.of_below HB2.out);clear hb2))
    go_ret
    exact⟨by rw [HRR.out];rfl,aH.of_below HB2.out,by rw [HRR.out];exact HB.out.keep HB2.out⟩
  ·have HR2:Hid (R=if 8<L then(5,N)else if Pg.oV ps≠0 then(Pg.oV ps,N)else if 20000≤N then(4,N+1)else S.cnts body (N+1) 2):=by show R=_;rw [HR.out,if_neg (by decide),if_neg hbad]
   have hok:U=true∨(b=0∧s=false):=by
    cases U with
    |true=>exact .inl rfl
    |false=>exact .inr (Classical.byContradiction fun h=>hbad ⟨h,rfl⟩)
   clear hbad HR
   go_enter Try.func19,Try.ntmps19
   go_upto_region 3 with(first|(go_at_call 7;refine(JR.out _).mono ?_;rintro e w1⟨rfl,hb1⟩;have HB1:=Lib.hid hb1;obtain⟨_,c0,c1,c2,c3,c4,_,_⟩:=HQ.out.bC (aH.of_below hb1);clear hb1))
   go_cut [28](fun v wx=>v= .bool false∧Hid (Below w.heap.size w wx))
   case first=>
    rcases hok with rfl|⟨rfl,rfl⟩
    ·go_wp2_with(first|(go_at_call 38;refine(vg.out _).mono ?_;rintro e w2⟨rfl,hb2⟩;have HB2:=Lib.hid (Ext.trans HB1.out hb2);clear c0 c1 c2 c3 c4;obtain⟨_,c0,c1,c2,c3,c4,_,_⟩:=HQ.out.bC (aH.of_below HB2.out);clear hb2))
     go_meet
     case rel=>exact⟨rfl,HB2.out⟩
    ·cases U with
     |true=>
      go_wp2_with(first|(go_at_call 38;refine(vg.out _).mono ?_;rintro e w2⟨rfl,hb2⟩;have HB2:=Lib.hid (Ext.trans HB1.out hb2);clear c0 c1 c2 c3 c4;obtain⟨_,c0,c1,c2,c3,c4,_,_⟩:=HQ.out.bC (aH.of_below HB2.out);clear hb2))
      go_meet
      case rel=>exact⟨rfl,HB2.out⟩
     |false=>
      go_wp2_with(first|(go_at_call 38;refine(vg.out _).mono ?_;rintro e w2⟨rfl,hb2⟩;have HB2:=Lib.hid (Ext.trans HB1.out hb2);clear c0 c1 c2 c3 c4;obtain⟨_,c0,c1,c2,c3,c4,_,_⟩:=HQ.out.bC (aH.of_below HB2.out);clear hb2))
      go_meet
      case rel=>exact⟨rfl,HB2.out⟩
   case rest=>
    obtain⟨rfl,HW⟩:=hcut
    clear hok c0 c1 c2 c3 c4
    obtain⟨_,c0,c1,c2,c3,c4,_,_⟩:=HQ.out.bC (aH.of_below HW.out)
    by_cases h8:8<L
    ·have HRR:Hid (R=(5,N)):=by show R=_;rw [HR2.out,if_pos h8]
     have q8:decide ((L:Int)>8)=true:=by simp;omega
     clear h8
     go_wp2_with(fail)
     go_ret
     exact⟨by rw [HRR.out];rfl,aH.of_below HW.out,by rw [HRR.out];exact HB.out.keep HW.out⟩
    have HR3:Hid (R=if Pg.oV ps≠0 then(Pg.oV ps,N)else if 20000≤N then(4,N+1)else S.cnts body (N+1) 2):=by show R=_;rw [HR2.out,if_neg h8]
    have q8:decide ((L:Int)>8)=false:=by simp;omega
    clear h8 HR2
    go_upto_region 8 with(fail)
    go_loopw [40](fun i wr=>∃j:Nat,j≤L∧i= .int .i64 (j:Int)∧Hid (Below w.heap.size w wr∧Pg.oV (ps.take j)=0))(fun i wr=>L-(intOf i).toNat)
    case atStart=>exact⟨0,Nat.zero_le _,rfl,HW.out,rfl⟩
    case round=>
     obtain⟨j,hj,rfl,hrest⟩:=hrel
     have hq:=HQ.out.bC (aH.of_below hrest.out.1)
     clear c0 c1 c2 c3 c4
     by_cases hlt:j<L
     ·obtain⟨y,hy⟩:∃y,ps[j]?=some y:=⟨_,List.getElem?_eq_getElem (by rw [Gn.out];exact hlt)⟩
      obtain⟨a2,c2,e2,_,_,hat⟩:=hq.ps.pm
      obtain⟨gk,ok,ha,p0,p1,p2⟩:=hat j y hy
      injection e2 with e3 e4 e5
      clear e4 e5
      subst e3 ha
      obtain⟨pb,psg,pn⟩:=y
      simp only at p0 p1 p2
      obtain⟨T,hT⟩:∃T,T=tyName pb pn.data.toList:=⟨_,rfl⟩
      have S9:Hid (∀wi:World,Calls Try.prog 35 #[W.ty pb psg, .string pn] wi fun e w'=>e= .returned (.int .i64 T)∧Below wi.heap.size wi w'):=fun wi=>by rw [hT];exact rW pb psg pn (HPN.out _ (List.mem_of_getElem? hy)) wi
      have XO:=Lib.hid hT
      have HY:=Lib.hid hy
      have iD:=Lib.hid hlt
      clear hT hy hat hq
      by_cases h0:T=0
      ·subst h0
       go_wp2_with(first|(go_at_call 35;refine(S9.out _).mono ?_;rintro e w4⟨rfl,hb4⟩;have HB4:=Lib.hid hb4;clear hb4))
       go_round
       case rel=>exact⟨j+1,iD.out,by go_num,Ext.trans (Ext.alloc hrest.out.1 _) HB4.out,by rw [Pg.BD HY.out hrest.out.2];exact XO.out.symm⟩
       case measure=>have:=iD.out;simp [intOf];omega
      ·have HRR:Hid (R=(T,N)):=by
        show R=_
        have:Pg.oV ps=T:=by rw [XO.out];exact Pg.QS HY.out hrest.out.2 (by show tyName pb pn.data.toList≠0;rw [←XO.out];exact h0)
        rw [HR3.out,this,if_pos h0]
       have q0:(T !=0)=true:=by simpa using h0
       clear h0
       go_wp2_with(first|(go_at_call 35;refine(S9.out _).mono ?_;rintro e w4⟨rfl,hb4⟩;have HB4:=Lib.hid hb4;clear hb4))
       go_ret
       exact⟨by rw [HRR.out];rfl,aH.of_below (Ext.trans (Ext.alloc hrest.out.1 _) HB4.out),by rw [HRR.out];exact HB.out.keep (Ext.trans (Ext.alloc hrest.out.1 _) HB4.out)⟩
     ·obtain rfl:j=L:=by omega
      have hp0:Pg.oV ps=0:=by
       have:ps.take j=ps:=List.take_of_length_le (by rw [Gn.out];exact Nat.le_refl _)
       rw [←this];exact hrest.out.2
      have HR4:Hid (R=if 20000≤N then(4,N+1)else S.cnts body (N+1) 2):=by show R=_;rw [HR3.out,if_neg (fun h=>h hp0)]
      have c4:=hq.c4
      clear hlt hp0 hq
      by_cases Bv:20000≤N
      ·have wW:Hid (∀w1:World,bT w1 g N→Calls Try.prog 36 #[P g, .int .i64 1] w1 (bU g w1 (4,N+1))):=fun w1 hb=>by
        have:=kN w1 g N 1 uU.out hb;rw [if_pos (.inl Bv)]at this;exact this
       have HRR:Hid (R=(4,N+1)):=by show R=_;rw [HR4.out,if_pos Bv]
       clear Bv
       go_wp2_with(first|(go_at_call 36;refine(wW.out _ (HB.out.keep hrest.out.1)).mono ?_;rintro e w5⟨rfl,hc5,hb5⟩;have mg:=Lib.hid hc5;have bD:=Lib.hid hb5;clear hc5 hb5))
       go_ret
       exact⟨by rw [HRR.out];rfl,(aH.of_below hrest.out.1).trans mg.out,by rw [HRR.out];exact bD.out⟩
      ·have wW:Hid (∀w1:World,bT w1 g N→Calls Try.prog 36 #[P g, .int .i64 1] w1 (bU g w1 (0,N+1))):=fun w1 hb=>by
        have:=kN w1 g N 1 uU.out hb;rw [if_neg (by omega)]at this;exact this
       have HST:Hid (∀w1:World,aH g w w1→bT w1 g (N+1)→Calls Try.prog 39 #[P g, .slice ab LB cb, .int .i64 2] w1 (bU g w1 R)):=fun w1 hc hb=>by
        rw [HR4.out,if_neg Bv]
        exact HIS.out w1 _ (N+1) 2 (HQ.out.bC hc).body hb (by omega) (by omega) (by omega)
       clear Bv
       go_wp2_with(first|(go_at_call 36;refine(wW.out _ (HB.out.keep hrest.out.1)).mono ?_;rintro e w5⟨rfl,hc5,hb5⟩;have mg:=Lib.hid ((aH.of_below hrest.out.1).trans hc5:aH g w w5);have bD:=Lib.hid hb5;clear c4;have c4:=(HQ.out.bC mg.out).c4;clear hc5 hb5)|(go_at_call 39;refine(HST.out _ mg.out bD.out).mono ?_;rintro e w6⟨rfl,hc5,hb5⟩;have Bz:=Lib.hid hc5;have iK:=Lib.hid hb5;clear hc5 hb5))
       go_ret
       exact⟨rfl,mg.out.trans Bz.out,iK.out⟩
end
section
open Go.RowKit
namespace Pg
theorem I9(x:Gl)(N:Nat)(hN:N≤20000):eu (gl x N):=by
 unfold gl
 split
 ·rename_i h;exact fun h2=>absurd h2 h
 split
 ·exact fun h=>absurd (show(3:Int)=0 from h) (by decide)
 split
 ·exact fun h=>absurd (show(5:Int)=0 from h) (by decide)
 split
 ·exact fun h=>absurd (show(4:Int)=0 from h) (by decide)
 ·rename_i h;exact fun h2=>X.lX _ _ (by omega) h2
theorem JE(x:Fn)(N:Nat)(hN:N≤20000):eu (fn x N):=by
 unfold fn
 split
 ·exact fun h=>absurd (show(7:Int)=0 from h) (by decide)
 split
 ·exact fun h=>absurd (show(9:Int)=0 from h) (by decide)
 split
 ·exact fun h=>absurd (show(5:Int)=0 from h) (by decide)
 split
 ·rename_i h;exact fun h2=>absurd h2 h
 split
 ·exact fun h=>absurd (show(4:Int)=0 from h) (by decide)
 ·rename_i h;exact S.bF _ _ _ (by omega)
theorem Ie(xs:List Gl)(y:Gl):∀N,(gls xs N).1=0→gls (xs++[y]) N=gl y (gls xs N).2:=by
 induction xs with
 |nil=>intro N h;rw [List.nil_append,gls,gls,gls];split
       ·rename_i h1;rw [Prod.ext_iff];exact⟨h1.symm,rfl⟩
       ·rfl
 |cons x xs ih=>
  intro N h
  rw [List.cons_append,gls]
  rw [gls]at h
  split at h
  ·rename_i h1;rw [if_pos h1,ih _ h,gls,if_pos h1]
  ·rename_i h1;exact absurd h h1
theorem NW(xs zs:List Gl):∀N,(gls xs N).1≠0→gls (xs++zs) N=gls xs N:=by
 induction xs with
 |nil=>intro N h;exact absurd rfl h
 |cons x xs ih=>
  intro N h
  rw [gls]at h
  rw [List.cons_append,gls,gls]
  split at h
  ·rename_i h1;rw [if_pos h1,if_pos h1];exact ih _ h
  ·rename_i h1;rw [if_neg h1,if_neg h1]
theorem vP{l:List Gl}{i:Nat}{y:Gl}(hy:l[i]?=some y)(N:Nat)(h:(gls (l.take i) N).1=0):gls (l.take (i+1)) N=gl y (gls (l.take i) N).2:=by
 rw [List.take_add_one,hy];exact Ie _ _ _ h
theorem Gy{l:List Gl}{i:Nat}{y:Gl}(hy:l[i]?=some y)(N:Nat)(h:(gls (l.take i) N).1=0)(hb:(gl y (gls (l.take i) N).2).1≠0):gls l N=gl y (gls (l.take i) N).2:=by
 rw [←vP hy N h]at hb⊢
 have:=NW (l.take (i+1)) (l.drop (i+1)) N hb
 rw [List.take_append_drop]at this
 exact this
theorem l7(l:List Gl):∀N,N≤20000→eu (gls l N):=by
 induction l with
 |nil=>intro N hN _;exact hN
 |cons x xs ih=>
  intro N hN h
  rw [gls]at h⊢
  split at h
  ·rename_i h1;rw [if_pos h1];exact ih _ (I9 x N hN h1) h
  ·rename_i h1;exact absurd h h1
theorem Jm(xs:List Fn)(y:Fn):∀N,(fns xs N).1=0→fns (xs++[y]) N=fn y (fns xs N).2:=by
 induction xs with
 |nil=>intro N h;rw [List.nil_append,fns,fns,fns];split
       ·rename_i h1;rw [Prod.ext_iff];exact⟨h1.symm,rfl⟩
       ·rfl
 |cons x xs ih=>
  intro N h
  rw [List.cons_append,fns]
  rw [fns]at h
  split at h
  ·rename_i h1;rw [if_pos h1,ih _ h,fns,if_pos h1]
  ·rename_i h1;exact absurd h h1
theorem N7(xs zs:List Fn):∀N,(fns xs N).1≠0→fns (xs++zs) N=fns xs N:=by
 induction xs with
 |nil=>intro N h;exact absurd rfl h
 |cons x xs ih=>
  intro N h
  rw [fns]at h
  rw [List.cons_append,fns,fns]
  split at h
  ·rename_i h1;rw [if_pos h1,if_pos h1];exact ih _ h
  ·rename_i h1;rw [if_neg h1,if_neg h1]
theorem wH{l:List Fn}{i:Nat}{y:Fn}(hy:l[i]?=some y)(N:Nat)(h:(fns (l.take i) N).1=0):fns (l.take (i+1)) N=fn y (fns (l.take i) N).2:=by
 rw [List.take_add_one,hy];exact Jm _ _ _ h
theorem GU{l:List Fn}{i:Nat}{y:Fn}(hy:l[i]?=some y)(N:Nat)(h:(fns (l.take i) N).1=0)(hb:(fn y (fns (l.take i) N).2).1≠0):fns l N=fn y (fns (l.take i) N).2:=by
 rw [←wH hy N h]at hb⊢
 have:=N7 (l.take (i+1)) (l.drop (i+1)) N hb
 rw [List.take_append_drop]at this
 exact this
theorem wL(l:List Fn):∀N,N≤20000→eu (fns l N):=by
 induction l with
 |nil=>intro N hN _;exact hN
 |cons x xs ih=>
  intro N hN h
  rw [fns]at h⊢
  split at h
  ·rename_i h1;rw [if_pos h1];exact ih _ (JE x N hN h1) h
  ·rename_i h1;exact absurd h h1
end Pg
section
variable{w w':World}{g:Nat}
theorem bM.PN{x:Pg}{v0 v1:Value}(h:bM w (fun t=>t≠g) x v0 v1)(hc:aH g w w'):bM w' (fun t=>t≠g) x v0 v1:=h.move (iH hc)
theorem bM.new{p:Nat→Prop}{x:Pg}{v0 v1:Value}(h:bM w p x v0 v1)(hb:Below w.heap.size w w')(hg:w.heap.size≤g):bM w' (fun t=>t≠g) x v0 v1:=h.move fun t _ hlt=>⟨by omega,hb.block t hlt⟩
theorem bM.gls{x:Pg}{v0 v1:Value}(h:bM w (fun t=>t≠g) x v0 v1):∃a c,v0= .slice a x.gs.length c∧x.gs.length≤c∧c≤maxLen∧∀(i:Nat)(y:Gl),x.gs[i]?=some y→∃gk ok v,a=some ⟨gk,ok,none⟩∧GQ w g y v gk (ok+i*5):=by
 obtain⟨a,c,e,h1,h2,h3⟩:=h.1.parts
 refine⟨a,c,e,h1,h2,fun i y hy=>?_⟩
 obtain⟨gk,ok,cs,hp,ea,hx,hc⟩:=h3 i y hy
 obtain⟨v,rfl,hr⟩:=hx
 exact⟨gk,ok,v,ea,hp,hc 0 _ rfl,hc 1 _ rfl,hc 2 _ rfl,hc 3 _ rfl,hc 4 _ rfl,hr⟩
theorem bM.fns{x:Pg}{v0 v1:Value}(h:bM w (fun t=>t≠g) x v0 v1):∃a c,v1= .slice a x.fs.length c∧x.fs.length≤c∧c≤maxLen∧∀(i:Nat)(y:Fn),x.fs[i]?=some y→∃gk ok u0 u1,a=some ⟨gk,ok,none⟩∧FQ w g y u0 u1 gk (ok+i*5):=by
 obtain⟨a,c,e,h1,h2,h3⟩:=h.2.parts
 refine⟨a,c,e,h1,h2,fun i y hy=>?_⟩
 obtain⟨gk,ok,cs,hp,ea,hx,hc⟩:=h3 i y hy
 obtain⟨u0,u1,rfl,hr0,hr1⟩:=hx
 exact⟨gk,ok,u0,u1,ea,hp,hc 0 _ rfl,hc 1 _ rfl,hc 2 _ rfl,hc 3 _ rfl,hc 4 _ rfl,hr0,hr1⟩
end
end
section
open Go.RowKit
theorem qY(x:Pg)(v0 v1:Value)(w:World)(p:Nat→Prop)(hX:bM w p x v0 v1)(hw:Pg.Wf x):
 Calls Try.prog 8 #[.agg #[v0,v1]] w fun e w'=>e= .returned (.int .i64 (Pg.wrong x))∧Below w.heap.size w w':=by
 obtain⟨R,hR⟩:∃R,R=Pg.wrong x:=⟨_,rfl⟩
 rw [←hR]
 unfold Pg.wrong at hR
 obtain⟨w1,hw1⟩:∃w1,w1=w.alloc (.cells #[v0,v1] 25):=⟨_,rfl⟩
 obtain⟨g,hg⟩:∃g,g=w.heap.size+1:=⟨_,rfl⟩
 obtain⟨bp,hbp⟩:∃bp,bp=w.heap.size:=⟨_,rfl⟩
 obtain⟨w2,hw2⟩:∃w2,w2=w1.alloc (.cells #[.int .i64 0] 55):=⟨_,rfl⟩
 have hs1:w1.heap.size=g:=by rw [hw1,hg];simp
 have CX:Below w.heap.size w w1:=by rw [hw1];exact Ext.alloc (Below.refl _ _) _
 have CY:Below w.heap.size w w2:=by rw [hw2];exact Ext.alloc CX _
 have HP:Hid (bM w2 (fun t=>t≠g) x v0 v1):=hX.new CY (by omega)
 have HS0:Hid (bT w2 g 0):=by show bT w2 g 0;rw [hw2,←hs1];exact ak.new _ _ _
 have tJ:ak w1 bp 25 #[v0,v1]:=by rw [hw1,hbp];exact ak.new _ _ _
 have hbx2:ak w2 bp 25 #[v0,v1]:=by rw [hw2];exact tJ.alloc _
 have sS:Hid (∀wr,aH g w2 wr→wr.cell? ⟨bp,0,none⟩=some v0∧wr.cell? ⟨bp,1,none⟩=some v1):=fun wr hc=>⟨hc.cell (by omega) (by rw [hbx2.cell];rfl),hc.cell (by omega) (by rw [hbx2.cell];rfl)⟩
 have OE:Hid (∀wr,aH g w2 wr→Below w.heap.size w wr):=fun wr hc=>Below.bC CY (Nat.le_refl _) (by omega) hc
 have HF1:Hid (Below w.heap.size w w1):=CX
 obtain⟨ag,cg,rfl,hgc,hgm,_⟩:=HP.out.gls
 obtain⟨af,cf,rfl,hfc,hfm,_⟩:=HP.out.fns
 obtain⟨LG,O5⟩:∃L,x.gs.length=L:=⟨_,rfl⟩
 obtain⟨LF,O6⟩:∃L,x.fs.length=L:=⟨_,rfl⟩
 rw [O5,O6]at HP sS tJ hw1
 rw [O5]at hgc⊢
 rw [O6]at hfc hR⊢
 have hG9:(LG:Int)≤9223372036854775807:=by unfold maxLen at hgm;omega
 have hF9:(LF:Int)≤9223372036854775807:=by unfold maxLen at hfm;omega
 have Y2:=Lib.hid O5
 have Y3:=Lib.hid O6
 have WY:Hid (∀y∈x.gs,Gl.Wf y):=hw.gs
 have Gh:Hid (∀y∈x.fs,Fn.Wf y):=hw.fs
 have y0:=tJ.cell 0
 have y1:=tJ.cell 1
 have HR:=Lib.hid hR
 have HG:=Lib.hid hg
 by_cases RN:100<LF
 ·have HRR:Hid (R=5):=by show R=_;rw [HR.out,if_pos RN]
  have q0:decide ((LF:Int)>100)=true:=by simp;omega
  clear RN hX hw hR O5 O6 hgc hgm hfc hfm tJ hbx2 CX CY hs1 hw2
  go_enter Try.func8,Try.ntmps8
  go_upto_region 1 with(fail)
  rw [←hw1,←hbp]
  clear hw1 hbp hg
  go_wp2
  go_ret
  exact⟨by rw [HRR.out];rfl,HF1.out⟩
 have HR2:Hid (R=(thn (Pg.gls x.gs 0) (Pg.fns x.fs)).1):=by show R=_;rw [HR.out,if_neg RN]
 have q0:decide ((LF:Int)>100)=false:=by simp;omega
 clear RN hX hw hR O5 O6 hgc hgm hfc hfm tJ hbx2 CX CY HR
 go_enter Try.func8,Try.ntmps8
 go_upto_region 1 with(fail)
 rw [←hw1,←hbp]
 have HW2:=Lib.hid hw2
 have KL:=Lib.hid hs1
 clear hw1 hw2 hs1 hbp hg
 go_upto_region 4 with(fail)
 rw [←HW2.out,KL.out]
 clear y0 y1
 obtain⟨y0,y1⟩:=sS.out w2 (aH.of_below (Below.refl _ _))
 have Fq:Hid (aH g w2 w2∧(Pg.gls (x.gs.take 0) 0).1=0∧bT w2 g (Pg.gls (x.gs.take 0) 0).2):=⟨aH.of_below (Below.refl _ _),rfl,HS0.out⟩
 have Fv:Hid (0≤20000):=Nat.zero_le _
 go_upto_region 5 with(fail)
 go_loopw [17](fun i wr=>∃j:Nat,j≤LG∧i= .int .i64 (j:Int)∧Hid (aH g w2 wr∧(Pg.gls (x.gs.take j) 0).1=0∧bT wr g (Pg.gls (x.gs.take j) 0).2))(fun i wr=>LG-(intOf i).toNat)
 case atStart=>exact⟨0,Nat.zero_le _,rfl,Fq.out⟩
 case round=>
  obtain⟨j,hj,rfl,hrest⟩:=hrel
  have Wi:=Lib.hid (HP.out.PN hrest.out.1)
  have hcb:=sS.out wr hrest.out.1
  clear y0 y1
  obtain⟨y0,y1⟩:=hcb
  by_cases hlt:j<LG
  ·obtain⟨y,hy⟩:∃y,x.gs[j]?=some y:=⟨_,List.getElem?_eq_getElem (by rw [Y2.out];exact hlt)⟩
   obtain⟨a9,c9,e9,_,_,hat⟩:=Wi.out.gls
   obtain⟨gk,ok,v9,ha,hky⟩:=hat j y hy
   injection e9 with e3 e4 e5
   clear e4 e5
   subst e3 ha
   obtain⟨N',hN'⟩:∃N',N'=(Pg.gls (x.gs.take j) 0).2:=⟨_,rfl⟩
   have hr2:=hrest.out
   rw [←hN']at hr2
   have jY:N'≤20000:=by rw [hN'];exact Pg.l7 _ _ Fv.out hrest.out.2.1
   have kU:Hid (Calls Try.prog 18 #[P g, .pointer (some ⟨gk,ok+j*5,none⟩)] wr (bU g wr (Pg.gl y N'))):=vS g N' gk (ok+j*5) y v9 wr hky hr2.2.2 jY (WY.out y (List.mem_of_getElem? hy))
   obtain⟨re,rn,hrr⟩:∃re rn,Pg.gl y N'=(re,rn):=⟨_,_,rfl⟩
   rw [hrr]at kU
   have HRR:=Lib.hid hrr
   have HY:=Lib.hid hy
   have HN':=Lib.hid hN'
   have iD:=Lib.hid hlt
   clear hrr hy hN' hr2 jY hky hat
   by_cases h0:re=0
   ·subst h0
    go_wp2_with(first|(go_at_call 18;refine kU.out.mono ?_;rintro e w6⟨rfl,hc4,hb4⟩;have Bz:=Lib.hid hc4;have iK:=Lib.hid hb4;clear hc4 hb4))
    go_round
    case rel=>
     have hst:=Pg.vP HY.out 0 hrest.out.2.1
     rw [←HN'.out,HRR.out]at hst
     exact⟨j+1,iD.out,by go_num,hrest.out.1.trans Bz.out,by rw [hst],by rw [hst];exact iK.out⟩
    case measure=>have:=iD.out;simp [intOf];omega
   ·have tC:Hid (R=re):=by
     show R=_
     have hb:=Pg.Gy HY.out 0 hrest.out.2.1 (by rw [←HN'.out,HRR.out];exact h0)
     rw [←HN'.out,HRR.out]at hb
     rw [HR2.out,hb,zC (show(re,rn).1≠0 from h0)]
    have q0:(re !=0)=true:=by simpa using h0
    clear h0
    go_wp2_with(first|(go_at_call 18;refine kU.out.mono ?_;rintro e w6⟨rfl,hc4,hb4⟩;have Bz:=Lib.hid hc4;have iK:=Lib.hid hb4;clear hc4 hb4))
    go_ret
    exact⟨by rw [tC.out];rfl,OE.out _ (hrest.out.1.trans Bz.out)⟩
  ·obtain rfl:j=LG:=by omega
   obtain⟨M,hM⟩:∃M,M=(Pg.gls x.gs 0).2:=⟨_,rfl⟩
   have htk:x.gs.take j=x.gs:=List.take_of_length_le (by rw [Y2.out];exact Nat.le_refl _)
   have Ku:=hrest.out
   rw [htk,←hM]at Ku
   have HR3:Hid (R=(Pg.fns x.fs M).1):=by show R=_;rw [HR2.out,fU Ku.2.1,←hM]
   have Wj:Hid (M≤20000):=by show M≤_;rw [hM];exact Pg.l7 _ _ (Nat.zero_le _) Ku.2.1
   have Fz:Hid (aH g w2 wr∧(Pg.fns (x.fs.take 0) M).1=0∧bT wr g (Pg.fns (x.fs.take 0) M).2):=⟨Ku.1,rfl,Ku.2.2⟩
   have FB:=Wj
   clear hlt hM htk Ku hrest
   go_upto_region 12 with(fail)
   obtain⟨W0,rfl⟩:∃W0,W0=wr:=⟨_,rfl⟩
   go_loopw [33](fun i wr=>∃j:Nat,j≤LF∧i= .int .i64 (j:Int)∧Hid (aH g w2 wr∧(Pg.fns (x.fs.take j) M).1=0∧bT wr g (Pg.fns (x.fs.take j) M).2))(fun i wr=>LF-(intOf i).toNat)
   case atStart=>exact⟨0,Nat.zero_le _,rfl,Fz.out⟩
   case round=>
    obtain⟨j,hj,rfl,hrest⟩:=hrel
    have Wi:=Lib.hid (HP.out.PN hrest.out.1)
    have hcb:=sS.out wr hrest.out.1
    clear y0 y1
    obtain⟨y0,y1⟩:=hcb
    by_cases hlt:j<LF
    ·obtain⟨y,hy⟩:∃y,x.fs[j]?=some y:=⟨_,List.getElem?_eq_getElem (by rw [Y3.out];exact hlt)⟩
     obtain⟨a9,c9,e9,_,_,hat⟩:=Wi.out.fns
     obtain⟨gk,ok,u0,u1,ha,hky⟩:=hat j y hy
     injection e9 with e3 e4 e5
     clear e4 e5
     subst e3 ha
     obtain⟨N',hN'⟩:∃N',N'=(Pg.fns (x.fs.take j) M).2:=⟨_,rfl⟩
     have hr2:=hrest.out
     rw [←hN']at hr2
     have jY:N'≤20000:=by rw [hN'];exact Pg.wL _ _ FB.out hrest.out.2.1
     have kU:Hid (Calls Try.prog 19 #[P g, .pointer (some ⟨gk,ok+j*5,none⟩)] wr (bU g wr (Pg.fn y N'))):=qQ g N' gk (ok+j*5) y u0 u1 wr hky hr2.2.2 jY (Gh.out y (List.mem_of_getElem? hy))
     obtain⟨re,rn,hrr⟩:∃re rn,Pg.fn y N'=(re,rn):=⟨_,_,rfl⟩
     rw [hrr]at kU
     have HRR:=Lib.hid hrr
     have HY:=Lib.hid hy
     have HN':=Lib.hid hN'
     have iD:=Lib.hid hlt
     clear hrr hy hN' hr2 jY hky hat
     by_cases h0:re=0
     ·subst h0
      go_wp2_with(first|(go_at_call 19;refine kU.out.mono ?_;rintro e w6⟨rfl,hc4,hb4⟩;have Bz:=Lib.hid hc4;have iK:=Lib.hid hb4;clear hc4 hb4))
      go_round
      case rel=>
       have hst:=Pg.wH HY.out M hrest.out.2.1
       rw [←HN'.out,HRR.out]at hst
       exact⟨j+1,iD.out,by go_num,hrest.out.1.trans Bz.out,by rw [hst],by rw [hst];exact iK.out⟩
      case measure=>have:=iD.out;simp [intOf];omega
     ·have tC:Hid (R=re):=by
       show R=_
       have hb:=Pg.GU HY.out M hrest.out.2.1 (by rw [←HN'.out,HRR.out];exact h0)
       rw [←HN'.out,HRR.out]at hb
       rw [HR3.out,hb]
      have q0:(re !=0)=true:=by simpa using h0
      clear h0
      go_wp2_with(first|(go_at_call 19;refine kU.out.mono ?_;rintro e w6⟨rfl,hc4,hb4⟩;have Bz:=Lib.hid hc4;have iK:=Lib.hid hb4;clear hc4 hb4))
      go_ret
      exact⟨by rw [tC.out];rfl,OE.out _ (hrest.out.1.trans Bz.out)⟩
    ·obtain rfl:j=LF:=by omega
     have HE:Hid (R=0):=by
      show R=_
      have htk:x.fs.take j=x.fs:=List.take_of_length_le (by rw [Y3.out];exact Nat.le_refl _)
      have h0:=hrest.out.2.1
      rw [htk]at h0
      rw [HR3.out,h0]
     clear hlt
     go_wp2
     go_ret
     exact⟨by rw [HE.out];rfl,OE.out _ hrest.out.1⟩
end
end Go.Proofs.Ythdckndjggljpaa
