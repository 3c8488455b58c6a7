/- Proofs of this claim, part 12. No condition. -/
import Derived.Test.YthdckndjggljpaaS11
namespace Go.Proofs.Ythdckndjggljpaa
set_option linter.unusedVariables false
set_option linter.unusedSimpArgs false
set_option maxRecDepth 100000
set_option maxHeartbeats 64000000
section
open Go.RowKit
def SP(w:World)(g:Nat)(x:S)(q off:Nat):Prop:=q≠g∧∃cs,fV w (fun t=>t≠g) x cs∧∀j u,cs[j]?=some u→w.cell? ⟨q,off+j,none⟩=some u
structure SQ(w:World)(g:Nat)(k b:Int)(s:Bool)(nm:ByteArray)(has:Bool)(x i:X)(l0 l1 l2 l3:List S)(v0 v1 v2 v3:Value)(q off:Nat):Prop where
 ne:q≠g
 c0:w.cell? ⟨q,off,none⟩=some (.int .i64 k)
 c1:w.cell? ⟨q,off+1,none⟩=some (.int .i64 b)
 c2:w.cell? ⟨q,off+2,none⟩=some (.bool s)
 c3:w.cell? ⟨q,off+3,none⟩=some (.string nm)
 c4:w.cell? ⟨q,off+4,none⟩=some (.bool has)
 x:XP w g x q (off+5)
 i:XP w g i q (off+11)
 c17:w.cell? ⟨q,off+17,none⟩=some v0
 c18:w.cell? ⟨q,off+18,none⟩=some v1
 c19:w.cell? ⟨q,off+19,none⟩=some v2
 c20:w.cell? ⟨q,off+20,none⟩=some v3
 h0:aQ w (fun t=>t≠g) l0 v0
 h1:aQ w (fun t=>t≠g) l1 v1
 h2:aQ w (fun t=>t≠g) l2 v2
 h3:aQ w (fun t=>t≠g) l3 v3
section
variable{w w':World}{g q off:Nat}
theorem iH(hc:aH g w w'):∀t,t≠g→t<w.heap.size→t≠g∧w'.heap[t]?=w.heap[t]?:=fun t ht hlt=>⟨ht,hc.block t hlt (fun e=>by injection e with e;exact ht e)⟩
theorem SP.bC{x:S}(h:SP w g x q off)(hc:aH g w w'):SP w' g x q off:=by
 obtain⟨hne,cs,hx,h⟩:=h
 exact⟨hne,cs,fV.move (iH hc) x cs hx,fun j u hu=>hc.cell hne (h j u hu)⟩
theorem SP.open{k b:Int}{s:Bool}{nm:ByteArray}{has:Bool}{x i:X}{l0 l1 l2 l3:List S}(h:SP w g (.mk k b s nm has x i l0 l1 l2 l3) q off):∃v0 v1 v2 v3,SQ w g k b s nm has x i l0 l1 l2 l3 v0 v1 v2 v3 q off:=by
 obtain⟨hne,cs,hx,hc⟩:=h
 obtain⟨xs,is,v0,v1,v2,v3,e,hxx,hii,h0,h1,h2,h3⟩:=hx.parts
 have ex:=hxx.six
 have ei:=hii.six
 match xs,ex with
 |[x0,x1,x2,x3,x4,x5],_=>
 match is,ei with
 |[i0,i1,i2,i3,i4,i5],_=>
 subst e
 refine⟨v0,v1,v2,v3,hne,hc 0 _ rfl,hc 1 _ rfl,hc 2 _ rfl,hc 3 _ rfl,hc 4 _ rfl,⟨hne,_,hxx,fun j u hu=>?_⟩,⟨hne,_,hii,fun j u hu=>?_⟩,hc 17 _ rfl,hc 18 _ rfl,hc 19 _ rfl,hc 20 _ rfl,h0,h1,h2,h3⟩
 ·rw [Nat.add_assoc]
  refine hc (5+j) u ?_
  have hj:=(List.getElem?_eq_some_iff.1 hu).1
  match j,hj with
  |0,_=>exact hu
  |1,_=>exact hu
  |2,_=>exact hu
  |3,_=>exact hu
  |4,_=>exact hu
  |5,_=>exact hu
 ·rw [Nat.add_assoc]
  refine hc (11+j) u ?_
  have hj:=(List.getElem?_eq_some_iff.1 hu).1
  match j,hj with
  |0,_=>exact hu
  |1,_=>exact hu
  |2,_=>exact hu
  |3,_=>exact hu
  |4,_=>exact hu
  |5,_=>exact hu
theorem SQ.bC{k b:Int}{s:Bool}{nm:ByteArray}{has:Bool}{x i:X}{l0 l1 l2 l3:List S}{v0 v1 v2 v3:Value}(h:SQ w g k b s nm has x i l0 l1 l2 l3 v0 v1 v2 v3 q off)(hc:aH g w w'):SQ w' g k b s nm has x i l0 l1 l2 l3 v0 v1 v2 v3 q off:=
 ⟨h.ne,hc.cell h.ne h.c0,hc.cell h.ne h.c1,hc.cell h.ne h.c2,hc.cell h.ne h.c3,hc.cell h.ne h.c4,h.x.bC hc,h.i.bC hc,hc.cell h.ne h.c17,hc.cell h.ne h.c18,hc.cell h.ne h.c19,hc.cell h.ne h.c20,
   h.h0.move (iH hc),h.h1.move (iH hc),h.h2.move (iH hc),h.h3.move (iH hc)⟩
end
structure Cap(w:World)(g b3 b4 b8 q off:Nat)(d:Int):Prop where
 n3:b3≠g
 n4:b4≠g
 n8:b8≠g
 c3:w.cell? ⟨b3,0,none⟩=some (P g)
 c4:w.cell? ⟨b4,0,none⟩=some (.pointer (some ⟨q,off,none⟩))
 c8:w.cell? ⟨b8,0,none⟩=some (.int .i64 d)
theorem Cap.bC{w w':World}{g b3 b4 b8 q off:Nat}{d:Int}(h:Cap w g b3 b4 b8 q off d)(hc:aH g w w'):Cap w' g b3 b4 b8 q off d:=
 ⟨h.n3,h.n4,h.n8,hc.cell h.n3 h.c3,hc.cell h.n4 h.c4,hc.cell h.n8 h.c8⟩
def Ye(g:Nat)(y:S):Prop:=∀(w:World)(q off N:Nat)(d:Int),SP w g y q off→bT w g N→N≤20000→0≤d→d≤101→Calls Try.prog 57 #[P g, .pointer (some ⟨q,off,none⟩), .int .i64 d] w (bU g w (S.cnt y N d))
def Dw(g:Nat)(l:List S):Prop:=∀(w:World)(v:Value)(N:Nat)(d:Int),aQ w (fun t=>t≠g) l v→bT w g N→N≤20000→0≤d→d≤101→Calls Try.prog 39 #[P g,v, .int .i64 d] w (bU g w (S.cnts l N d))
def S.sets(l:List S)(N:Nat)(d:Int):Int×Nat:=if S.brk l≠0 then(S.brk l,N)else S.cnts l N d
def KG(g:Nat)(l:List S):Prop:=∀(w:World)(v:Value)(N:Nat)(d:Int),aQ w (fun t=>t≠g) l v→bT w g N→N≤20000→0≤d→d≤101→Calls Try.prog 87 #[P g,v, .int .i64 d] w (bU g w (S.sets l N d))
theorem PO(w:World)(g b3 b4 b8 q off N:Nat)(d k b:Int)(s:Bool)(nm:ByteArray)(has:Bool)(x i:X)(l0 l1 l2 l3:List S)(v0 v1 v2 v3:Value)(hQ:SQ w g k b s nm has x i l0 l1 l2 l3 v0 v1 v2 v3 q off)(hC:Cap w g b3 b4 b8 q off d)(hB:bT w g N)(hN:N≤20000)(hd:0≤d)(hd1:d≤101)(hI:y9 g x):
 Calls Try.prog 78 #[P b3,P b4,P b8] w (bU g w (X.cnt x N d)):=by
 have qX:Hid (∀wi:World,Below w.heap.size w wi→wi.cell? ⟨b3,0,none⟩=some (P g)∧wi.cell? ⟨b4,0,none⟩=some (.pointer (some ⟨q,off,none⟩))∧wi.cell? ⟨b8,0,none⟩=some (.int .i64 d)):=fun wi hb=>⟨(hC.bC (aH.of_below hb)).c3,(hC.bC (aH.of_below hb)).c4,(hC.bC (aH.of_below hb)).c8⟩
 obtain⟨R,hR⟩:∃R,R=X.cnt x N d:=⟨_,rfl⟩
 have HI:Hid (∀wi:World,Below w.heap.size w wi→Calls Try.prog 37 #[P g, .pointer (some ⟨q,off+5,none⟩), .int .i64 d] wi (bU g wi R)):=fun wi hb=>by
  rw [hR]
  have hc:aH g w wi:=aH.of_below hb
  exact hI wi q (off+5) N d (hQ.x.bC hc) (hB.keep hb) hN hd hd1
 rw [←hR]
 have HB:=Lib.hid hB
 clear hR hQ hC hB hN hd hd1
 go_enter Try.func78,Try.ntmps78
 go_upto_region 1 with(fail)
 apply Ix.wp_region 5 (fun wi=>Hid (Below w.heap.size w wi)) (Ix.vk [(Ix.aA _),(Ix.aA _),(Ix.aA _),(Ix.aA _),(Ix.aA _)]) (fun _=>false) (by kernel_rfl) (by kernel_rfl) (by kernel_rfl) (fun _ _ h hb=>Ext.trans h.out hb) (Ix.aN _) (Ix.bP _) (Below.refl _ _:Below w.heap.size w w)
 case step=>
  refine aP 4 0 1 [] (fun wi HB=>?_)<|aP 3 1 2 [] (fun wi HB=>?_)<|aP 2 2 3 [(1,some 5)] (fun wi HB=>?_)<|aP 1 3 4 [(2,some 6)] (fun wi HB=>?_)<|aP 0 4 5 [] (fun wi HB=>?_)<|Ix.aC
  iterate 2(·(obtain⟨c3,c4,c8⟩:=qX.out _ HB.out;(repeat(refine aB ?_;rintro _ rfl));refine aF ?_;(try simp only [aj]);refine Ix.ah rfl rfl fun K hK=>?_;(try simp only [aj]at hK);go_wp2_with(first|fail);exact hK _ _ (Below.refl _ _) rfl))
  iterate 2(·((repeat(refine aB ?_;rintro _ rfl));refine aF ?_;(try simp only [aj]);refine Ix.ah rfl rfl fun K hK=>?_;(try simp only [aj]at hK);go_wp2_with(first|fail);exact hK _ _ (Below.refl _ _) rfl))
  (·(obtain⟨c3,c4,c8⟩:=qX.out _ HB.out;(repeat(refine aB ?_;rintro _ rfl));refine aF ?_;(try simp only [aj]);refine Ix.ah rfl rfl fun K hK=>?_;(try simp only [aj]at hK);go_wp2_with(first|fail);exact hK _ _ (Below.refl _ _) rfl))
 intro lM wf HF hdf
 refine au 4 0 1 ?_;rintro _ _ rfl;refine au 3 1 2 ?_;rintro _ _ rfl;refine au 2 2 3 ?_;rintro _ _ rfl;refine au 1 3 4 ?_;rintro _ _ rfl;refine au 0 4 5 ?_;rintro _ _ rfl
 refine Ix.aI ?_
 (try simp only [Act.put,List.setIfInBounds_toArray,List.set_cons_zero,List.set_cons_succ,List.drop_succ_cons,List.drop_zero])
 go_wp2_with(first|(go_at_call 37;refine(HI.out _ HF.out).mono ?_;rintro e w4⟨rfl,hc4,hb4⟩;have oD:=Lib.hid hc4;have HB4:=Lib.hid hb4;clear hc4 hb4))
 all_goals(first|refine Ix.only ?_|(refine Ix.dK fun tz=>?_))
 go_wp2
 go_ret
 exact⟨rfl,(aH.of_below HF.out).trans oD.out,HB4.out⟩
theorem PS(w:World)(g b3 b4 b8 q off N:Nat)(d k b:Int)(s:Bool)(nm:ByteArray)(has:Bool)(x i:X)(l0 l1 l2 l3:List S)(v0 v1 v2 v3:Value)(hQ:SQ w g k b s nm has x i l0 l1 l2 l3 v0 v1 v2 v3 q off)(hC:Cap w g b3 b4 b8 q off d)(hB:bT w g N)(hN:N≤20000)(hd:0≤d)(hd1:d≤101)(hI:y9 g x):
 Calls Try.prog 79 #[P b3,P b4,P b8] w (bU g w (if has=true then X.cnt x N d else(0,N))):=by
 have qX:Hid (∀wi:World,Below w.heap.size w wi→wi.cell? ⟨b3,0,none⟩=some (P g)∧wi.cell? ⟨b4,0,none⟩=some (.pointer (some ⟨q,off,none⟩))∧wi.cell? ⟨b8,0,none⟩=some (.int .i64 d)∧wi.cell? ⟨q,off+4,none⟩=some (.bool has)):=fun wi hb=>⟨(hC.bC (aH.of_below hb)).c3,(hC.bC (aH.of_below hb)).c4,(hC.bC (aH.of_below hb)).c8,(hQ.bC (aH.of_below hb)).c4⟩
 obtain⟨R,hR⟩:∃R,R=if has=true then X.cnt x N d else(0,N):=⟨_,rfl⟩
 have HI:Hid (∀wi:World,Below w.heap.size w wi→Calls Try.prog 80 #[P g, .bool has, .pointer (some ⟨q,off+5,none⟩), .int .i64 d] wi (bU g wi R)):=fun wi hb=>by
  rw [hR]
  have hc:aH g w wi:=aH.of_below hb
  exact Bd g q (off+5) N has x d wi hI (hQ.x.bC hc) (hB.keep hb) hN hd hd1
 rw [←hR]
 have HB:=Lib.hid hB
 clear hR hQ hC hB hN hd hd1
 go_enter Try.func79,Try.ntmps79
 go_upto_region 1 with(fail)
 apply Ix.wp_region 9 (fun wi=>Hid (Below w.heap.size w wi)) (Ix.vk [(Ix.aA _),(Ix.aA _),(Ix.aA _),(Ix.aA _),(Ix.aA _),(Ix.aA _),(Ix.aA _),(Ix.aA _),(Ix.aA _)]) (fun _=>false) (by kernel_rfl) (by kernel_rfl) (by kernel_rfl) (fun _ _ h hb=>Ext.trans h.out hb) (Ix.aN _) (Ix.bP _) (Below.refl _ _:Below w.heap.size w w)
 case step=>
  refine aP 8 0 1 [] (fun wi HB=>?_)<|aP 7 1 2 [] (fun wi HB=>?_)<|aP 6 2 3 [(1,some 5)] (fun wi HB=>?_)<|aP 5 3 4 [(2,some 6)] (fun wi HB=>?_)<|aP 4 4 5 [(3,some 7)] (fun wi HB=>?_)<|aP 3 5 6 [] (fun wi HB=>?_)<|aP 2 6 7 [(5,some 9)] (fun wi HB=>?_)<|aP 1 7 8 [(6,some 10)] (fun wi HB=>?_)<|aP 0 8 9 [] (fun wi HB=>?_)<|Ix.aC
  iterate 2(·(obtain⟨c3,c4,c8,f4⟩:=qX.out _ HB.out;(repeat(refine aB ?_;rintro _ rfl));refine aF ?_;(try simp only [aj]);refine Ix.ah rfl rfl fun K hK=>?_;(try simp only [aj]at hK);go_wp2_with(first|fail);exact hK _ _ (Below.refl _ _) rfl))
  iterate 2(·((repeat(refine aB ?_;rintro _ rfl));refine aF ?_;(try simp only [aj]);refine Ix.ah rfl rfl fun K hK=>?_;(try simp only [aj]at hK);go_wp2_with(first|fail);exact hK _ _ (Below.refl _ _) rfl))
  iterate 2(·(obtain⟨c3,c4,c8,f4⟩:=qX.out _ HB.out;(repeat(refine aB ?_;rintro _ rfl));refine aF ?_;(try simp only [aj]);refine Ix.ah rfl rfl fun K hK=>?_;(try simp only [aj]at hK);go_wp2_with(first|fail);exact hK _ _ (Below.refl _ _) rfl))
  iterate 2(·((repeat(refine aB ?_;rintro _ rfl));refine aF ?_;(try simp only [aj]);refine Ix.ah rfl rfl fun K hK=>?_;(try simp only [aj]at hK);go_wp2_with(first|fail);exact hK _ _ (Below.refl _ _) rfl))
  (·(obtain⟨c3,c4,c8,f4⟩:=qX.out _ HB.out;(repeat(refine aB ?_;rintro _ rfl));refine aF ?_;(try simp only [aj]);refine Ix.ah rfl rfl fun K hK=>?_;(try simp only [aj]at hK);go_wp2_with(first|fail);exact hK _ _ (Below.refl _ _) rfl))
 intro lM wf HF hdf
 refine au 8 0 1 ?_;rintro _ _ rfl;refine au 7 1 2 ?_;rintro _ _ rfl;refine au 6 2 3 ?_;rintro _ _ rfl;refine au 5 3 4 ?_;rintro _ _ rfl;refine au 4 4 5 ?_;rintro _ _ rfl;refine au 3 5 6 ?_;rintro _ _ rfl;refine au 2 6 7 ?_;rintro _ _ rfl;refine au 1 7 8 ?_;rintro _ _ rfl;refine au 0 8 9 ?_;rintro _ _ rfl
 refine Ix.aI ?_
 (try simp only [Act.put,List.setIfInBounds_toArray,List.set_cons_zero,List.set_cons_succ,List.drop_succ_cons,List.drop_zero])
 go_wp2_with(first|(go_at_call 80;refine(HI.out _ HF.out).mono ?_;rintro e w4⟨rfl,hc4,hb4⟩;have oD:=Lib.hid hc4;have HB4:=Lib.hid hb4;clear hc4 hb4))
 all_goals(first|refine Ix.only ?_|(refine Ix.dK fun tz=>?_))
 go_wp2
 go_ret
 exact⟨rfl,(aH.of_below HF.out).trans oD.out,HB4.out⟩
theorem Px(w:World)(g b3 b4 b8 q off N:Nat)(d k b:Int)(s:Bool)(nm:ByteArray)(has:Bool)(x i:X)(l0 l1 l2 l3:List S)(v0 v1 v2 v3:Value)(hQ:SQ w g k b s nm has x i l0 l1 l2 l3 v0 v1 v2 v3 q off)(hC:Cap w g b3 b4 b8 q off d)(hB:bT w g N)(hN:N≤20000)(hd:0≤d)(hd1:d≤101)(hI:Dw g l2):
 Calls Try.prog 81 #[P b3,P b4,P b8] w (bU g w (S.cnts l2 N d)):=by
 have qX:Hid (∀wi:World,Below w.heap.size w wi→wi.cell? ⟨b3,0,none⟩=some (P g)∧wi.cell? ⟨b4,0,none⟩=some (.pointer (some ⟨q,off,none⟩))∧wi.cell? ⟨b8,0,none⟩=some (.int .i64 d)∧wi.cell? ⟨q,off+19,none⟩=some (v2)):=fun wi hb=>⟨(hC.bC (aH.of_below hb)).c3,(hC.bC (aH.of_below hb)).c4,(hC.bC (aH.of_below hb)).c8,(hQ.bC (aH.of_below hb)).c19⟩
 obtain⟨R,hR⟩:∃R,R=S.cnts l2 N d:=⟨_,rfl⟩
 have HI:Hid (∀wi:World,Below w.heap.size w wi→Calls Try.prog 39 #[P g,v2, .int .i64 d] wi (bU g wi R)):=fun wi hb=>by
  rw [hR]
  have hc:aH g w wi:=aH.of_below hb
  exact hI wi v2 N d (hQ.bC hc).h2 (hB.keep hb) hN hd hd1
 rw [←hR]
 have HB:=Lib.hid hB
 clear hR hQ hC hB hN hd hd1
 go_enter Try.func81,Try.ntmps81
 go_upto_region 1 with(fail)
 apply Ix.wp_region 6 (fun wi=>Hid (Below w.heap.size w wi)) (Ix.vk [(Ix.aA _),(Ix.aA _),(Ix.aA _),(Ix.aA _),(Ix.aA _),(Ix.aA _)]) (fun _=>false) (by kernel_rfl) (by kernel_rfl) (by kernel_rfl) (fun _ _ h hb=>Ext.trans h.out hb) (Ix.aN _) (Ix.bP _) (Below.refl _ _:Below w.heap.size w w)
 case step=>
  refine aP 5 0 1 [] (fun wi HB=>?_)<|aP 4 1 2 [] (fun wi HB=>?_)<|aP 3 2 3 [(1,some 5)] (fun wi HB=>?_)<|aP 2 3 4 [(2,some 6)] (fun wi HB=>?_)<|aP 1 4 5 [(3,some 7)] (fun wi HB=>?_)<|aP 0 5 6 [] (fun wi HB=>?_)<|Ix.aC
  iterate 2(·(obtain⟨c3,c4,c8,f19⟩:=qX.out _ HB.out;(repeat(refine aB ?_;rintro _ rfl));refine aF ?_;(try simp only [aj]);refine Ix.ah rfl rfl fun K hK=>?_;(try simp only [aj]at hK);go_wp2_with(first|fail);exact hK _ _ (Below.refl _ _) rfl))
  iterate 2(·((repeat(refine aB ?_;rintro _ rfl));refine aF ?_;(try simp only [aj]);refine Ix.ah rfl rfl fun K hK=>?_;(try simp only [aj]at hK);go_wp2_with(first|fail);exact hK _ _ (Below.refl _ _) rfl))
  iterate 2(·(obtain⟨c3,c4,c8,f19⟩:=qX.out _ HB.out;(repeat(refine aB ?_;rintro _ rfl));refine aF ?_;(try simp only [aj]);refine Ix.ah rfl rfl fun K hK=>?_;(try simp only [aj]at hK);go_wp2_with(first|fail);exact hK _ _ (Below.refl _ _) rfl))
 intro lM wf HF hdf
 refine au 5 0 1 ?_;rintro _ _ rfl;refine au 4 1 2 ?_;rintro _ _ rfl;refine au 3 2 3 ?_;rintro _ _ rfl;refine au 2 3 4 ?_;rintro _ _ rfl;refine au 1 4 5 ?_;rintro _ _ rfl;refine au 0 5 6 ?_;rintro _ _ rfl
 refine Ix.aI ?_
 (try simp only [Act.put,List.setIfInBounds_toArray,List.set_cons_zero,List.set_cons_succ,List.drop_succ_cons,List.drop_zero])
 go_wp2_with(first|(go_at_call 39;refine(HI.out _ HF.out).mono ?_;rintro e w4⟨rfl,hc4,hb4⟩;have oD:=Lib.hid hc4;have HB4:=Lib.hid hb4;clear hc4 hb4))
 all_goals(first|refine Ix.only ?_|(refine Ix.dK fun tz=>?_))
 go_wp2
 go_ret
 exact⟨rfl,(aH.of_below HF.out).trans oD.out,HB4.out⟩
theorem PV(w:World)(g b3 b4 b8 q off N:Nat)(d k b:Int)(s:Bool)(nm:ByteArray)(has:Bool)(x i:X)(l0 l1 l2 l3:List S)(v0 v1 v2 v3:Value)(hQ:SQ w g k b s nm has x i l0 l1 l2 l3 v0 v1 v2 v3 q off)(hC:Cap w g b3 b4 b8 q off d)(hB:bT w g N)(hN:N≤20000)(hd:0≤d)(hd1:d≤101)(hI:y9 g i):
 Calls Try.prog 84 #[P b3,P b4,P b8] w (bU g w (if has=true then X.cnt i N d else(0,N))):=by
 have qX:Hid (∀wi:World,Below w.heap.size w wi→wi.cell? ⟨b3,0,none⟩=some (P g)∧wi.cell? ⟨b4,0,none⟩=some (.pointer (some ⟨q,off,none⟩))∧wi.cell? ⟨b8,0,none⟩=some (.int .i64 d)∧wi.cell? ⟨q,off+4,none⟩=some (.bool has)):=fun wi hb=>⟨(hC.bC (aH.of_below hb)).c3,(hC.bC (aH.of_below hb)).c4,(hC.bC (aH.of_below hb)).c8,(hQ.bC (aH.of_below hb)).c4⟩
 obtain⟨R,hR⟩:∃R,R=if has=true then X.cnt i N d else(0,N):=⟨_,rfl⟩
 have HI:Hid (∀wi:World,Below w.heap.size w wi→Calls Try.prog 80 #[P g, .bool has, .pointer (some ⟨q,off+11,none⟩), .int .i64 d] wi (bU g wi R)):=fun wi hb=>by
  rw [hR]
  have hc:aH g w wi:=aH.of_below hb
  exact Bd g q (off+11) N has i d wi hI (hQ.i.bC hc) (hB.keep hb) hN hd hd1
 rw [←hR]
 have HB:=Lib.hid hB
 clear hR hQ hC hB hN hd hd1
 go_enter Try.func84,Try.ntmps84
 go_upto_region 1 with(fail)
 apply Ix.wp_region 9 (fun wi=>Hid (Below w.heap.size w wi)) (Ix.vk [(Ix.aA _),(Ix.aA _),(Ix.aA _),(Ix.aA _),(Ix.aA _),(Ix.aA _),(Ix.aA _),(Ix.aA _),(Ix.aA _)]) (fun _=>false) (by kernel_rfl) (by kernel_rfl) (by kernel_rfl) (fun _ _ h hb=>Ext.trans h.out hb) (Ix.aN _) (Ix.bP _) (Below.refl _ _:Below w.heap.size w w)
 case step=>
  refine aP 8 0 1 [] (fun wi HB=>?_)<|aP 7 1 2 [] (fun wi HB=>?_)<|aP 6 2 3 [(1,some 5)] (fun wi HB=>?_)<|aP 5 3 4 [(2,some 6)] (fun wi HB=>?_)<|aP 4 4 5 [(3,some 7)] (fun wi HB=>?_)<|aP 3 5 6 [] (fun wi HB=>?_)<|aP 2 6 7 [(5,some 9)] (fun wi HB=>?_)<|aP 1 7 8 [(6,some 10)] (fun wi HB=>?_)<|aP 0 8 9 [] (fun wi HB=>?_)<|Ix.aC
  iterate 2(·(obtain⟨c3,c4,c8,f4⟩:=qX.out _ HB.out;(repeat(refine aB ?_;rintro _ rfl));refine aF ?_;(try simp only [aj]);refine Ix.ah rfl rfl fun K hK=>?_;(try simp only [aj]at hK);go_wp2_with(first|fail);exact hK _ _ (Below.refl _ _) rfl))
  iterate 2(·((repeat(refine aB ?_;rintro _ rfl));refine aF ?_;(try simp only [aj]);refine Ix.ah rfl rfl fun K hK=>?_;(try simp only [aj]at hK);go_wp2_with(first|fail);exact hK _ _ (Below.refl _ _) rfl))
  iterate 2(·(obtain⟨c3,c4,c8,f4⟩:=qX.out _ HB.out;(repeat(refine aB ?_;rintro _ rfl));refine aF ?_;(try simp only [aj]);refine Ix.ah rfl rfl fun K hK=>?_;(try simp only [aj]at hK);go_wp2_with(first|fail);exact hK _ _ (Below.refl _ _) rfl))
  iterate 2(·((repeat(refine aB ?_;rintro _ rfl));refine aF ?_;(try simp only [aj]);refine Ix.ah rfl rfl fun K hK=>?_;(try simp only [aj]at hK);go_wp2_with(first|fail);exact hK _ _ (Below.refl _ _) rfl))
  (·(obtain⟨c3,c4,c8,f4⟩:=qX.out _ HB.out;(repeat(refine aB ?_;rintro _ rfl));refine aF ?_;(try simp only [aj]);refine Ix.ah rfl rfl fun K hK=>?_;(try simp only [aj]at hK);go_wp2_with(first|fail);exact hK _ _ (Below.refl _ _) rfl))
 intro lM wf HF hdf
 refine au 8 0 1 ?_;rintro _ _ rfl;refine au 7 1 2 ?_;rintro _ _ rfl;refine au 6 2 3 ?_;rintro _ _ rfl;refine au 5 3 4 ?_;rintro _ _ rfl;refine au 4 4 5 ?_;rintro _ _ rfl;refine au 3 5 6 ?_;rintro _ _ rfl;refine au 2 6 7 ?_;rintro _ _ rfl;refine au 1 7 8 ?_;rintro _ _ rfl;refine au 0 8 9 ?_;rintro _ _ rfl
 refine Ix.aI ?_
 (try simp only [Act.put,List.setIfInBounds_toArray,List.set_cons_zero,List.set_cons_succ,List.drop_succ_cons,List.drop_zero])
 go_wp2_with(first|(go_at_call 80;refine(HI.out _ HF.out).mono ?_;rintro e w4⟨rfl,hc4,hb4⟩;have oD:=Lib.hid hc4;have HB4:=Lib.hid hb4;clear hc4 hb4))
 all_goals(first|refine Ix.only ?_|(refine Ix.dK fun tz=>?_))
 go_wp2
 go_ret
 exact⟨rfl,(aH.of_below HF.out).trans oD.out,HB4.out⟩
theorem PW(w:World)(g b3 b4 b8 q off N:Nat)(d k b:Int)(s:Bool)(nm:ByteArray)(has:Bool)(x i:X)(l0 l1 l2 l3:List S)(v0 v1 v2 v3:Value)(hQ:SQ w g k b s nm has x i l0 l1 l2 l3 v0 v1 v2 v3 q off)(hC:Cap w g b3 b4 b8 q off d)(hB:bT w g N)(hN:N≤20000)(hd:0≤d)(hd1:d≤101)(hI:Dw g l3):
 Calls Try.prog 85 #[P b3,P b4,P b8] w (bU g w (S.cnts l3 N d)):=by
 have qX:Hid (∀wi:World,Below w.heap.size w wi→wi.cell? ⟨b3,0,none⟩=some (P g)∧wi.cell? ⟨b4,0,none⟩=some (.pointer (some ⟨q,off,none⟩))∧wi.cell? ⟨b8,0,none⟩=some (.int .i64 d)∧wi.cell? ⟨q,off+20,none⟩=some (v3)):=fun wi hb=>⟨(hC.bC (aH.of_below hb)).c3,(hC.bC (aH.of_below hb)).c4,(hC.bC (aH.of_below hb)).c8,(hQ.bC (aH.of_below hb)).c20⟩
 obtain⟨R,hR⟩:∃R,R=S.cnts l3 N d:=⟨_,rfl⟩
 have HI:Hid (∀wi:World,Below w.heap.size w wi→Calls Try.prog 39 #[P g,v3, .int .i64 d] wi (bU g wi R)):=fun wi hb=>by
  rw [hR]
  have hc:aH g w wi:=aH.of_below hb
  exact hI wi v3 N d (hQ.bC hc).h3 (hB.keep hb) hN hd hd1
 rw [←hR]
 have HB:=Lib.hid hB
 clear hR hQ hC hB hN hd hd1
 go_enter Try.func85,Try.ntmps85
 go_upto_region 1 with(fail)
 apply Ix.wp_region 6 (fun wi=>Hid (Below w.heap.size w wi)) (Ix.vk [(Ix.aA _),(Ix.aA _),(Ix.aA _),(Ix.aA _),(Ix.aA _),(Ix.aA _)]) (fun _=>false) (by kernel_rfl) (by kernel_rfl) (by kernel_rfl) (fun _ _ h hb=>Ext.trans h.out hb) (Ix.aN _) (Ix.bP _) (Below.refl _ _:Below w.heap.size w w)
 case step=>
  refine aP 5 0 1 [] (fun wi HB=>?_)<|aP 4 1 2 [] (fun wi HB=>?_)<|aP 3 2 3 [(1,some 5)] (fun wi HB=>?_)<|aP 2 3 4 [(2,some 6)] (fun wi HB=>?_)<|aP 1 4 5 [(3,some 7)] (fun wi HB=>?_)<|aP 0 5 6 [] (fun wi HB=>?_)<|Ix.aC
  iterate 2(·(obtain⟨c3,c4,c8,f20⟩:=qX.out _ HB.out;(repeat(refine aB ?_;rintro _ rfl));refine aF ?_;(try simp only [aj]);refine Ix.ah rfl rfl fun K hK=>?_;(try simp only [aj]at hK);go_wp2_with(first|fail);exact hK _ _ (Below.refl _ _) rfl))
  iterate 2(·((repeat(refine aB ?_;rintro _ rfl));refine aF ?_;(try simp only [aj]);refine Ix.ah rfl rfl fun K hK=>?_;(try simp only [aj]at hK);go_wp2_with(first|fail);exact hK _ _ (Below.refl _ _) rfl))
  iterate 2(·(obtain⟨c3,c4,c8,f20⟩:=qX.out _ HB.out;(repeat(refine aB ?_;rintro _ rfl));refine aF ?_;(try simp only [aj]);refine Ix.ah rfl rfl fun K hK=>?_;(try simp only [aj]at hK);go_wp2_with(first|fail);exact hK _ _ (Below.refl _ _) rfl))
 intro lM wf HF hdf
 refine au 5 0 1 ?_;rintro _ _ rfl;refine au 4 1 2 ?_;rintro _ _ rfl;refine au 3 2 3 ?_;rintro _ _ rfl;refine au 2 3 4 ?_;rintro _ _ rfl;refine au 1 4 5 ?_;rintro _ _ rfl;refine au 0 5 6 ?_;rintro _ _ rfl
 refine Ix.aI ?_
 (try simp only [Act.put,List.setIfInBounds_toArray,List.set_cons_zero,List.set_cons_succ,List.drop_succ_cons,List.drop_zero])
 go_wp2_with(first|(go_at_call 39;refine(HI.out _ HF.out).mono ?_;rintro e w4⟨rfl,hc4,hb4⟩;have oD:=Lib.hid hc4;have HB4:=Lib.hid hb4;clear hc4 hb4))
 all_goals(first|refine Ix.only ?_|(refine Ix.dK fun tz=>?_))
 go_wp2
 go_ret
 exact⟨rfl,(aH.of_below HF.out).trans oD.out,HB4.out⟩
theorem PX(w:World)(g b3 b4 b8 q off N:Nat)(d k b:Int)(s:Bool)(nm:ByteArray)(has:Bool)(x i:X)(l0 l1 l2 l3:List S)(v0 v1 v2 v3:Value)(hQ:SQ w g k b s nm has x i l0 l1 l2 l3 v0 v1 v2 v3 q off)(hC:Cap w g b3 b4 b8 q off d)(hB:bT w g N)(hN:N≤20000)(hd:0≤d)(hd1:d≤101)(hI:KG g l0):
 Calls Try.prog 86 #[P b3,P b4,P b8] w (bU g w (S.sets l0 N d)):=by
 have qX:Hid (∀wi:World,Below w.heap.size w wi→wi.cell? ⟨b3,0,none⟩=some (P g)∧wi.cell? ⟨b4,0,none⟩=some (.pointer (some ⟨q,off,none⟩))∧wi.cell? ⟨b8,0,none⟩=some (.int .i64 d)∧wi.cell? ⟨q,off+17,none⟩=some (v0)):=fun wi hb=>⟨(hC.bC (aH.of_below hb)).c3,(hC.bC (aH.of_below hb)).c4,(hC.bC (aH.of_below hb)).c8,(hQ.bC (aH.of_below hb)).c17⟩
 obtain⟨R,hR⟩:∃R,R=S.sets l0 N d:=⟨_,rfl⟩
 have HI:Hid (∀wi:World,Below w.heap.size w wi→Calls Try.prog 87 #[P g,v0, .int .i64 d] wi (bU g wi R)):=fun wi hb=>by
  rw [hR]
  have hc:aH g w wi:=aH.of_below hb
  exact hI wi v0 N d (hQ.bC hc).h0 (hB.keep hb) hN hd hd1
 rw [←hR]
 have HB:=Lib.hid hB
 clear hR hQ hC hB hN hd hd1
 go_enter Try.func86,Try.ntmps86
 go_upto_region 1 with(fail)
 apply Ix.wp_region 6 (fun wi=>Hid (Below w.heap.size w wi)) (Ix.vk [(Ix.aA _),(Ix.aA _),(Ix.aA _),(Ix.aA _),(Ix.aA _),(Ix.aA _)]) (fun _=>false) (by kernel_rfl) (by kernel_rfl) (by kernel_rfl) (fun _ _ h hb=>Ext.trans h.out hb) (Ix.aN _) (Ix.bP _) (Below.refl _ _:Below w.heap.size w w)
 case step=>
  refine aP 5 0 1 [] (fun wi HB=>?_)<|aP 4 1 2 [] (fun wi HB=>?_)<|aP 3 2 3 [(1,some 5)] (fun wi HB=>?_)<|aP 2 3 4 [(2,some 6)] (fun wi HB=>?_)<|aP 1 4 5 [(3,some 7)] (fun wi HB=>?_)<|aP 0 5 6 [] (fun wi HB=>?_)<|Ix.aC
  iterate 2(·(obtain⟨c3,c4,c8,f17⟩:=qX.out _ HB.out;(repeat(refine aB ?_;rintro _ rfl));refine aF ?_;(try simp only [aj]);refine Ix.ah rfl rfl fun K hK=>?_;(try simp only [aj]at hK);go_wp2_with(first|fail);exact hK _ _ (Below.refl _ _) rfl))
  iterate 2(·((repeat(refine aB ?_;rintro _ rfl));refine aF ?_;(try simp only [aj]);refine Ix.ah rfl rfl fun K hK=>?_;(try simp only [aj]at hK);go_wp2_with(first|fail);exact hK _ _ (Below.refl _ _) rfl))
  iterate 2(·(obtain⟨c3,c4,c8,f17⟩:=qX.out _ HB.out;(repeat(refine aB ?_;rintro _ rfl));refine aF ?_;(try simp only [aj]);refine Ix.ah rfl rfl fun K hK=>?_;(try simp only [aj]at hK);go_wp2_with(first|fail);exact hK _ _ (Below.refl _ _) rfl))
 intro lM wf HF hdf
 refine au 5 0 1 ?_;rintro _ _ rfl;refine au 4 1 2 ?_;rintro _ _ rfl;refine au 3 2 3 ?_;rintro _ _ rfl;refine au 2 3 4 ?_;rintro _ _ rfl;refine au 1 4 5 ?_;rintro _ _ rfl;refine au 0 5 6 ?_;rintro _ _ rfl
 refine Ix.aI ?_
 (try simp only [Act.put,List.setIfInBounds_toArray,List.set_cons_zero,List.set_cons_succ,List.drop_succ_cons,List.drop_zero])
 go_wp2_with(first|(go_at_call 87;refine(HI.out _ HF.out).mono ?_;rintro e w4⟨rfl,hc4,hb4⟩;have oD:=Lib.hid hc4;have HB4:=Lib.hid hb4;clear hc4 hb4))
 all_goals(first|refine Ix.only ?_|(refine Ix.dK fun tz=>?_))
 go_wp2
 go_ret
 exact⟨rfl,(aH.of_below HF.out).trans oD.out,HB4.out⟩
theorem PY(w:World)(g b3 b4 b8 q off N:Nat)(d k b:Int)(s:Bool)(nm:ByteArray)(has:Bool)(x i:X)(l0 l1 l2 l3:List S)(v0 v1 v2 v3:Value)(hQ:SQ w g k b s nm has x i l0 l1 l2 l3 v0 v1 v2 v3 q off)(hC:Cap w g b3 b4 b8 q off d)(hB:bT w g N)(hN:N≤20000)(hd:0≤d)(hd1:d≤101)(hI:KG g l1):
 Calls Try.prog 88 #[P b3,P b4,P b8] w (bU g w (S.sets l1 N d)):=by
 have qX:Hid (∀wi:World,Below w.heap.size w wi→wi.cell? ⟨b3,0,none⟩=some (P g)∧wi.cell? ⟨b4,0,none⟩=some (.pointer (some ⟨q,off,none⟩))∧wi.cell? ⟨b8,0,none⟩=some (.int .i64 d)∧wi.cell? ⟨q,off+18,none⟩=some (v1)):=fun wi hb=>⟨(hC.bC (aH.of_below hb)).c3,(hC.bC (aH.of_below hb)).c4,(hC.bC (aH.of_below hb)).c8,(hQ.bC (aH.of_below hb)).c18⟩
 obtain⟨R,hR⟩:∃R,R=S.sets l1 N d:=⟨_,rfl⟩
 have HI:Hid (∀wi:World,Below w.heap.size w wi→Calls Try.prog 87 #[P g,v1, .int .i64 d] wi (bU g wi R)):=fun wi hb=>by
  rw [hR]
  have hc:aH g w wi:=aH.of_below hb
  exact hI wi v1 N d (hQ.bC hc).h1 (hB.keep hb) hN hd hd1
 rw [←hR]
 have HB:=Lib.hid hB
 clear hR hQ hC hB hN hd hd1
 go_enter Try.func88,Try.ntmps88
 go_upto_region 1 with(fail)
 apply Ix.wp_region 6 (fun wi=>Hid (Below w.heap.size w wi)) (Ix.vk [(Ix.aA _),(Ix.aA _),(Ix.aA _),(Ix.aA _),(Ix.aA _),(Ix.aA _)]) (fun _=>false) (by kernel_rfl) (by kernel_rfl) (by kernel_rfl) (fun _ _ h hb=>Ext.trans h.out hb) (Ix.aN _) (Ix.bP _) (Below.refl _ _:Below w.heap.size w w)
 case step=>
  refine aP 5 0 1 [] (fun wi HB=>?_)<|aP 4 1 2 [] (fun wi HB=>?_)<|aP 3 2 3 [(1,some 5)] (fun wi HB=>?_)<|aP 2 3 4 [(2,some 6)] (fun wi HB=>?_)<|aP 1 4 5 [(3,some 7)] (fun wi HB=>?_)<|aP 0 5 6 [] (fun wi HB=>?_)<|Ix.aC
  iterate 2(·(obtain⟨c3,c4,c8,f18⟩:=qX.out _ HB.out;(repeat(refine aB ?_;rintro _ rfl));refine aF ?_;(try simp only [aj]);refine Ix.ah rfl rfl fun K hK=>?_;(try simp only [aj]at hK);go_wp2_with(first|fail);exact hK _ _ (Below.refl _ _) rfl))
  iterate 2(·((repeat(refine aB ?_;rintro _ rfl));refine aF ?_;(try simp only [aj]);refine Ix.ah rfl rfl fun K hK=>?_;(try simp only [aj]at hK);go_wp2_with(first|fail);exact hK _ _ (Below.refl _ _) rfl))
  iterate 2(·(obtain⟨c3,c4,c8,f18⟩:=qX.out _ HB.out;(repeat(refine aB ?_;rintro _ rfl));refine aF ?_;(try simp only [aj]);refine Ix.ah rfl rfl fun K hK=>?_;(try simp only [aj]at hK);go_wp2_with(first|fail);exact hK _ _ (Below.refl _ _) rfl))
 intro lM wf HF hdf
 refine au 5 0 1 ?_;rintro _ _ rfl;refine au 4 1 2 ?_;rintro _ _ rfl;refine au 3 2 3 ?_;rintro _ _ rfl;refine au 2 3 4 ?_;rintro _ _ rfl;refine au 1 4 5 ?_;rintro _ _ rfl;refine au 0 5 6 ?_;rintro _ _ rfl
 refine Ix.aI ?_
 (try simp only [Act.put,List.setIfInBounds_toArray,List.set_cons_zero,List.set_cons_succ,List.drop_succ_cons,List.drop_zero])
 go_wp2_with(first|(go_at_call 87;refine(HI.out _ HF.out).mono ?_;rintro e w4⟨rfl,hc4,hb4⟩;have oD:=Lib.hid hc4;have HB4:=Lib.hid hb4;clear hc4 hb4))
 all_goals(first|refine Ix.only ?_|(refine Ix.dK fun tz=>?_))
 go_wp2
 go_ret
 exact⟨rfl,(aH.of_below HF.out).trans oD.out,HB4.out⟩
theorem PU(w:World)(g b3 b4 b8 q off N:Nat)(d k b:Int)(s:Bool)(nm:ByteArray)(has:Bool)(x i:X)(l0 l1 l2 l3:List S)(v0 v1 v2 v3:Value)(hQ:SQ w g k b s nm has x i l0 l1 l2 l3 v0 v1 v2 v3 q off)(hC:Cap w g b3 b4 b8 q off d)(hB:bT w g N)(hN:N≤20000)(hd:0≤d)(hd1:d≤101)(hs:nm.size≤maxLen):
 Calls Try.prog 83 #[P b4] w (bU g w ((tyName b nm.data.toList,N))):=by
 have qX:Hid (∀wi:World,Below w.heap.size w wi→wi.cell? ⟨b3,0,none⟩=some (P g)∧wi.cell? ⟨b4,0,none⟩=some (.pointer (some ⟨q,off,none⟩))∧wi.cell? ⟨b8,0,none⟩=some (.int .i64 d)∧wi.cell? ⟨q,off+1,none⟩=some (.int .i64 b)∧wi.cell? ⟨q,off+2,none⟩=some (.bool s)∧wi.cell? ⟨q,off+3,none⟩=some (.string nm)):=fun wi hb=>⟨(hC.bC (aH.of_below hb)).c3,(hC.bC (aH.of_below hb)).c4,(hC.bC (aH.of_below hb)).c8,(hQ.bC (aH.of_below hb)).c1,(hQ.bC (aH.of_below hb)).c2,(hQ.bC (aH.of_below hb)).c3⟩
 obtain⟨R,hR⟩:∃R,R=(tyName b nm.data.toList,N):=⟨_,rfl⟩
 have HI:Hid (∀wi:World,Below w.heap.size w wi→Calls Try.prog 35 #[W.ty b s, .string nm] wi fun e w'=>e= .returned (.int .i64 R.1)∧Below wi.heap.size wi w'):=fun wi hb=>by
  rw [hR]
  have hc:aH g w wi:=aH.of_below hb
  exact rW b s nm hs wi
 have HR2:Hid (R.2=N):=by show R.2=N;rw [hR]
 rw [←hR]
 have HB:=Lib.hid hB
 clear hR hQ hC hB hN hd hd1
 go_enter Try.func83,Try.ntmps83
 go_upto_region 1 with(fail)
 apply Ix.wp_region 8 (fun wi=>Hid (Below w.heap.size w wi)) (Ix.vk [(Ix.aA _),(Ix.aA _),(Ix.aA _),(Ix.aA _),(Ix.aA _),(Ix.aA _),(Ix.aA _),(Ix.aA _)]) (fun _=>false) (by kernel_rfl) (by kernel_rfl) (by kernel_rfl) (fun _ _ h hb=>Ext.trans h.out hb) (Ix.aN _) (Ix.bP _) (Below.refl _ _:Below w.heap.size w w)
 case step=>
  refine aP 7 0 1 [] (fun wi HB=>?_)<|aP 6 1 2 [(0,some 2)] (fun wi HB=>?_)<|aP 5 2 3 [(1,some 3)] (fun wi HB=>?_)<|aP 4 3 4 [(2,some 4)] (fun wi HB=>?_)<|aP 3 4 5 [] (fun wi HB=>?_)<|aP 2 5 6 [(4,some 6)] (fun wi HB=>?_)<|aP 1 6 7 [(5,some 7)] (fun wi HB=>?_)<|aP 0 7 8 [(6,some 8)] (fun wi HB=>?_)<|Ix.aC
  (·(obtain⟨c3,c4,c8,f1,f2,f3⟩:=qX.out _ HB.out;(repeat(refine aB ?_;rintro _ rfl));refine aF ?_;(try simp only [aj]);refine Ix.ah rfl rfl fun K hK=>?_;(try simp only [aj]at hK);go_wp2_with(first|fail);exact hK _ _ (Below.refl _ _) rfl))
  iterate 2(·((repeat(refine aB ?_;rintro _ rfl));refine aF ?_;(try simp only [aj]);refine Ix.ah rfl rfl fun K hK=>?_;(try simp only [aj]at hK);go_wp2_with(first|fail);exact hK _ _ (Below.refl _ _) rfl))
  iterate 2(·(obtain⟨c3,c4,c8,f1,f2,f3⟩:=qX.out _ HB.out;(repeat(refine aB ?_;rintro _ rfl));refine aF ?_;(try simp only [aj]);refine Ix.ah rfl rfl fun K hK=>?_;(try simp only [aj]at hK);go_wp2_with(first|fail);exact hK _ _ (Below.refl _ _) rfl))
  iterate 2(·((repeat(refine aB ?_;rintro _ rfl));refine aF ?_;(try simp only [aj]);refine Ix.ah rfl rfl fun K hK=>?_;(try simp only [aj]at hK);go_wp2_with(first|fail);exact hK _ _ (Below.refl _ _) rfl))
  (·(obtain⟨c3,c4,c8,f1,f2,f3⟩:=qX.out _ HB.out;(repeat(refine aB ?_;rintro _ rfl));refine aF ?_;(try simp only [aj]);refine Ix.ah rfl rfl fun K hK=>?_;(try simp only [aj]at hK);go_wp2_with(first|fail);exact hK _ _ (Below.refl _ _) rfl))
 intro lM wf HF hdf
 refine au 7 0 1 ?_;rintro _ _ rfl;refine au 6 1 2 ?_;rintro _ _ rfl;refine au 5 2 3 ?_;rintro _ _ rfl;refine au 4 3 4 ?_;rintro _ _ rfl;refine au 3 4 5 ?_;rintro _ _ rfl;refine au 2 5 6 ?_;rintro _ _ rfl;refine au 1 6 7 ?_;rintro _ _ rfl;refine au 0 7 8 ?_;rintro _ _ rfl
 refine Ix.aI ?_
 (try simp only [Act.put,List.setIfInBounds_toArray,List.set_cons_zero,List.set_cons_succ,List.drop_succ_cons,List.drop_zero])
 go_wp2_with(first|(go_at_call 35;refine(HI.out _ HF.out).mono ?_;rintro e w4⟨rfl,hb4⟩;have HB4:=Lib.hid hb4;clear hb4))
 all_goals(first|refine Ix.only ?_|(refine Ix.dK fun tz=>?_))
 go_wp2
 go_ret
 exact⟨rfl,(aH.of_below HF.out).trans (aH.of_below HB4.out),by rw [HR2.out];exact(HB.out.keep HF.out).keep HB4.out⟩
end
end Go.Proofs.Ythdckndjggljpaa
