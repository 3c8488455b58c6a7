/- Proofs of this claim, part 31. No condition. -/
import Derived.Test.YthdckndjggljpaaS30
namespace Go.Proofs.Ythdckndjggljpaa
set_option linter.unusedVariables false
set_option linter.unusedSimpArgs false
set_option maxRecDepth 100000
set_option maxHeartbeats 64000000
open Go.RowKit
theorem BsL.app{w wr w6 w7:World}{acc:List S}{a:Option Addr}{c:Nat}{y:S}{ys:List Value}(hb:Below w.heap.size w wr)(ho:cZ (fun q=>w.heap.size≤q) wr w.heap.size 102 21 LS acc a c)(hw6:Below wr.heap.size wr w6)(hy:fV w6 (fun k=>wr.heap.size≤k) y ys)(h7:Below w6.heap.size w6 w7):
 ∃cs,w7.ownsRow w.heap.size 102 21 (.slice a acc.length c) acc.length (flat cs acc.length)∧∀a' c' w8,w8.ownsRow w.heap.size 102 21 (.slice a' (acc.length+1) c') (acc.length+1) (flat cs acc.length++ys)→w7.grownBy w8 (Value.slice a acc.length c).ownBlock→
  ((Value.slice a' (acc.length+1) c').ownBlock=(Value.slice a acc.length c).ownBlock∨(Value.slice a' (acc.length+1) c').ownBlock=some w7.heap.size)→Below w.heap.size w w8∧cZ (fun q=>w.heap.size≤q) w8 w.heap.size 102 21 LS (acc++[y]) a' c':=by
 have hlo:=ho.low
 have hs:w.heap.size≤wr.heap.size:=hb.size
 obtain⟨cs,h1,_,h2⟩:=ho.BZ oG hw6 h7 (oG.move (show LS w6 _ y ys from hy) fun k hk _=>⟨⟨Nat.le_trans hs hk, .inr hk⟩,rfl⟩)
 refine⟨cs,h1,fun a' c' w8 o8 g8 t8=>⟨?_,h2 a' c' w8 o8 g8 t8⟩⟩
 have b7:Below w.heap.size w w7:=Ext.trans (Ext.trans hb hw6) h7
 exact⟨g8.os.trans b7.os,g8.tape.trans b7.tape,g8.output.trans b7.output,Nat.le_trans b7.size g8.size,fun k hk=>(g8.block k (Nat.lt_of_lt_of_le hk b7.size) (fun e=>by have:=(hlo k e.symm).1;omega)).trans (b7.block k hk)⟩
theorem KZ{k:Int}{has:Bool}(h:(has&&(k==2||k==7||k==8))=true):S.looks k has=true:=by
 simp only [Bool.and_eq_true,Bool.or_eq_true,beq_iff_eq]at h
 obtain⟨rfl,(rfl|rfl)|rfl⟩:=h<;>rfl
theorem PE{k:Int}{has:Bool}(h:(has&&(k==2||k==7||k==8))=false)(x z:X):(if S.looks k has=true then x else z)=if k=3∨k=4∨k=5∨k=6 then x else z:=by
 have e:(S.looks k has=true)↔(k=3∨k=4∨k=5∨k=6):=by
  unfold S.looks
  cases has
  ·simp [or_assoc]
  ·simp only [Bool.true_and,Bool.or_eq_false_iff,beq_eq_false_iff_ne,ne_eq]at h
   simp only [Bool.true_and,Bool.or_eq_true,beq_iff_eq]
   omega
 by_cases h3:k=3∨k=4∨k=5∨k=6
 ·rw [if_pos h3,if_pos (e.2 h3)]
 ·rw [if_neg h3,if_neg (fun h=>h3 (e.1 h))]
theorem Aq(l:List S)(hlen:l.length≤100000)(TY:∀y∈l,(S.looks y.kind y.has=true→WA y.xx)∧(y.kind=3∧y.has=true→WA y.ii))(KX:∀y∈l,(y.kind=7→FP y.ini∧FP y.step)∧(y.kind=5∨y.kind=6∨y.kind=7∨y.kind=11→FP y.body)∧(y.kind=5→FP y.els))(w:World)(p:Nat→Prop)(v:Value)(hl:aQ w p l v):Calls Try.prog 25 #[v] w (Ua w (S.bI l)):=by
 obtain⟨a,c,rfl,hlc,hcm,hat⟩:=hl.parts
 obtain⟨L,hL⟩:∃L,L=l.length:=⟨_,rfl⟩
 rw [←hL]at hlc hlen⊢
 have OL:(L:Int)≤9223372036854775807:=by omega
 have RY:(L:Int)≤(c:Int):=by omega
 have JM:=Lib.hid hL
 have HAT:=Lib.hid hat
 have TY:=Lib.hid TY
 have KX:=Lib.hid KX
 clear hL hat hl hlc hcm
 go_enter Try.func25,Try.ntmps25
 go_upto_region 3 with(fail)
 go_loopw [3,9](fun ov iv wr=>∃(j:Nat)(a:Option Addr)(c:Nat),j≤L∧iv= .int .i64 (j:Int)∧ov= .slice a j c∧Hid (Below w.heap.size w wr∧cZ (fun q=>w.heap.size≤q) wr w.heap.size 102 21 LS (S.bI (l.take j)) a c))(fun ov iv wr=>L-(intOf iv).toNat)
 case atStart=>exact⟨0,none,0,Nat.zero_le _,rfl,rfl,Below.refl _ _,by rw [List.take_zero,S.bI];exact cZ.nil _ _ _ _ _ _⟩
 case round=>
  obtain⟨j,ra,rc,hj,rfl,rfl,HF⟩:=hrel
  have iM:=Lib.hid HF.out.1
  have Hy:=Lib.hid HF.out.2
  obtain⟨AC,tX⟩:∃AC,AC=S.bI (l.take j):=⟨_,rfl⟩
  have KY:Hid (AC.length=j):=by show _=_;rw [tX,S.mW,List.length_map,List.length_take];have:=JM.out;omega
  rw [←tX]at Hy
  have Ar:=Lib.hid tX
  clear tX HF
  by_cases hlt:j<L
  ·obtain⟨y,hy⟩:∃y,l[j]?=some y:=⟨_,List.getElem?_eq_getElem (by rw [←JM.out];exact hlt)⟩
   obtain⟨gk,ok,cs,hpg,rfl,hin,hcl⟩:=HAT.out j y hy
   obtain⟨x0,x1,x2,x3,x4,x5,i0,i1,i2,i3,i4,i5,v0,v1,v2,v3,rfl,hx,hi,h0,h1,h2,h3⟩:=fV.letters hin
   have kZ:Hid (S.bI (l.take (j+1))=AC++[S.bare y]):=by show _=_;rw [S.DI hy,Ar.out]
   have hxc:=TY.out y (List.mem_of_getElem? hy)
   have hlc:=KX.out y (List.mem_of_getElem? hy)
   have Ub:=Lib.hid hin.one
   obtain⟨k,b,s,nm,has,x,i,l0,l1,l2,l3⟩:=y
   simp only [S.kind,S.bits,S.sg,S.name,S.has,S.xx,S.ii,S.ini,S.step,S.body,S.els]at hx hi h0 h1 h2 h3 hcl Ub hxc hlc
   obtain⟨a0,n0,e0,-⟩:=h0.parts
   obtain⟨a1,n1,e1,-⟩:=h1.parts
   obtain⟨a2,n2,e2,-⟩:=h2.parts
   obtain⟨a3,n3,e3,-⟩:=h3.parts
   have hcw:∀jj u,[.int .i64 k, .int .i64 b, .bool s, .string nm, .bool has,x0,x1,x2,x3,x4,x5,i0,i1,i2,i3,i4,i5,v0,v1,v2,v3][jj]?=some u→w.cell? ⟨gk,ok+j*21+jj,none⟩=some u:=hcl
   have hkl:=World.block_lt_of_cell? _ _ (hcw 0 _ rfl)
   have FW:Hid (∀jj u,[.int .i64 k, .int .i64 b, .bool s, .string nm, .bool has,x0,x1,x2,x3,x4,x5,i0,i1,i2,i3,i4,i5,v0,v1,v2,v3][jj]?=some u→wr.cell? ⟨gk,ok+j*21+jj,none⟩=some u):=fun jj u hu=>by
    rw [Below.cell (p:=⟨gk,ok+j*21+jj,none⟩) iM.out hkl];exact hcl jj u hu
   have HX:Hid (S.looks k has=true→∀w1,Below w.heap.size w w1→Calls Try.prog 24 #[.agg #[x0,x1,x2,x3,x4,x5]] w1 (zO (X.bare x) w1)):=fun hk w1 hb=>hxc.1 hk w1 _ (hx.at.frame fun b o v hv=>hb.block b (World.block_lt_of_cell? _ _ hv))
   have HI:Hid (k=3∧has=true→∀w1,Below w.heap.size w w1→Calls Try.prog 24 #[.agg #[i0,i1,i2,i3,i4,i5]] w1 (zO (X.bare i) w1)):=fun hk w1 hb=>hxc.2 hk w1 _ (hi.at.frame fun b o v hv=>hb.block b (World.block_lt_of_cell? _ _ hv))
   have H0:Hid (k=7→∀w1,Below w.heap.size w w1→Calls Try.prog 25 #[v0] w1 (Ua w1 (S.bI l0))∧Calls Try.prog 25 #[v1] w1 (Ua w1 (S.bI l1))):=fun hk w1 hb=>⟨(hlc.1 hk).1 w1 p v0 (h0.keep hb),(hlc.1 hk).2 w1 p v1 (h1.keep hb)⟩
   have H2:Hid (k=5∨k=6∨k=7∨k=11→∀w1,Below w.heap.size w w1→Calls Try.prog 25 #[v2] w1 (Ua w1 (S.bI l2))):=fun hk w1 hb=>hlc.2.1 hk w1 p v2 (h2.keep hb)
   have H3:Hid (k=5→∀w1,Below w.heap.size w w1→Calls Try.prog 25 #[v3] w1 (Ua w1 (S.bI l3))):=fun hk w1 hb=>hlc.2.2 hk w1 p v3 (h3.keep hb)
   clear hcw hkl hcl hxc hlc hx hi h0 h1 h2 h3 hpg hin hy
   obtain⟨xl,hxl⟩:∃n,n=l0.length:=⟨_,rfl⟩
   subst e0 e1 e2 e3
   have Uc:Hid (ak (wr.alloc (.cells zS 102)) wr.heap.size 102 zS):=ak.new _ _ _
   obtain⟨w5,hw5⟩:∃w5,w5=(wr.alloc (.cells zS 102)).setRow wr.heap.size #[.int .i64 k, .int .i64 b, .bool s, .string nm, .bool has,x0,x1,x2,x3,x4,x5,i0,i1,i2,i3,i4,i5, .slice a0 l0.length n0, .slice a1 l1.length n1, .slice a2 l2.length n2, .slice a3 l3.length n3]:=⟨_,rfl⟩
   have bD:Hid (Below wr.heap.size wr w5):=by rw [hw5];exact Below.DJ (Ext.alloc (Below.refl _ _) _) (Nat.le_refl _) _
   have Au:Hid (ak w5 wr.heap.size 102 #[.int .i64 k, .int .i64 b, .bool s, .string nm, .bool has,x0,x1,x2,x3,x4,x5,i0,i1,i2,i3,i4,i5, .slice a0 l0.length n0, .slice a1 l1.length n1, .slice a2 l2.length n2, .slice a3 l3.length n3]):=by rw [hw5];exact Uc.out.DJ _
   clear hxl xl
   go_upto_region 5 with(first|(refine mX rfl 102 _ rfl gk (ok+j*21) rfl [.int .i64 k, .int .i64 b, .bool s, .string nm, .bool has,x0,x1,x2,x3,x4,x5,i0,i1,i2,i3,i4,i5, .slice a0 l0.length n0, .slice a1 l1.length n1, .slice a2 l2.length n2, .slice a3 l3.length n3] _ FW.out Try.underlying102 rfl (by kernel_rfl) ?_)|(refine wpList_store_row rfl 102 _ _ rfl wr.heap.size #[.int .i64 k, .int .i64 b, .bool s, .string nm, .bool has,x0,x1,x2,x3,x4,x5,i0,i1,i2,i3,i4,i5, .slice a0 l0.length n0, .slice a1 l1.length n1, .slice a2 l2.length n2, .slice a3 l3.length n3] rfl rfl 102 zS Uc.out (by kernel_rfl) rfl Ub.out ?_))
   rw [←hw5]
   clear hw5 FW Uc Ub
   obtain⟨gs,hgs⟩:∃g,g=wr.heap.size:=⟨_,rfl⟩
   rw [←hgs]at Au⊢
   have wS:=Lib.hid hgs
   clear hgs
   have c0:=Au.out.cell 0;have cl:=Au.out.lt
   have OO:Hid (ak (w5.alloc (.cells zS 102)) w5.heap.size 102 zS):=ak.new _ _ _
   obtain⟨w6,hw6⟩:∃w6,w6=(w5.alloc (.cells zS 102)).setRow w5.heap.size #[.int .i64 k, .int .i64 0, .bool false, .string ⟨#[]⟩, .bool false, .int .i64 0, .int .u64 0, .int .i64 0, .bool false, .string ⟨#[]⟩, .slice none 0 0, .int .i64 0, .int .u64 0, .int .i64 0, .bool false, .string ⟨#[]⟩, .slice none 0 0, .slice none 0 0, .slice none 0 0, .slice none 0 0, .slice none 0 0]:=⟨_,rfl⟩
   obtain⟨gb,hgb⟩:∃g,g=w5.heap.size:=⟨_,rfl⟩
   have iK:Hid (Below wr.heap.size wr w6∧ak w6 gs 102 #[.int .i64 k, .int .i64 b, .bool s, .string nm, .bool has,x0,x1,x2,x3,x4,x5,i0,i1,i2,i3,i4,i5, .slice a0 l0.length n0, .slice a1 l1.length n1, .slice a2 l2.length n2, .slice a3 l3.length n3]∧dP w6 no gb k 0 false ⟨#[]⟩ false X.zero X.zero [] [] [] [] (.int .i64 0) (.int .u64 0) (.int .i64 0) (.bool false) (.string ⟨#[]⟩) (.slice none 0 0) (.int .i64 0) (.int .u64 0) (.int .i64 0) (.bool false) (.string ⟨#[]⟩) (.slice none 0 0) (.slice none 0 0) (.slice none 0 0) (.slice none 0 0) (.slice none 0 0) w6∧gs<gb∧gs=wr.heap.size∧gb<w6.heap.size):=by
    have hb:Below w5.heap.size w5 w6:=by rw [hw6];exact Below.DJ (Ext.alloc (Below.refl _ _) _) (Nat.le_refl _) _
    have hg:ak w6 gb 102 #[.int .i64 k, .int .i64 0, .bool false, .string ⟨#[]⟩, .bool false, .int .i64 0, .int .u64 0, .int .i64 0, .bool false, .string ⟨#[]⟩, .slice none 0 0, .int .i64 0, .int .u64 0, .int .i64 0, .bool false, .string ⟨#[]⟩, .slice none 0 0, .slice none 0 0, .slice none 0 0, .slice none 0 0, .slice none 0 0]:=by rw [hw6,hgb];exact OO.out.DJ _
    exact⟨Ext.trans bD.out hb,Au.out.keep hb,⟨aH.of_below (Below.refl _ _),hg,X.nP _ _,X.nP _ _,aQ.nil0 _ _,aQ.nil0 _ _,aQ.nil0 _ _,aQ.nil0 _ _,fun _ h=>h.elim,hg.lt⟩,by have:=Au.out.lt;omega,wS.out,hg.lt⟩
   go_upto_region 6 with(first|(refine wpList_store_row rfl 102 _ _ rfl w5.heap.size #[.int .i64 k, .int .i64 0, .bool false, .string ⟨#[]⟩, .bool false, .int .i64 0, .int .u64 0, .int .i64 0, .bool false, .string ⟨#[]⟩, .slice none 0 0, .int .i64 0, .int .u64 0, .int .i64 0, .bool false, .string ⟨#[]⟩, .slice none 0 0, .slice none 0 0, .slice none 0 0, .slice none 0 0, .slice none 0 0] rfl rfl 102 zS OO.out (by kernel_rfl) rfl (by simp [Value.oneCell']) ?_))
   rw [←hw6,←hgb]
   clear hw6 hgb OO c0 cl
   obtain⟨b2,hb2⟩:∃z,z=(if k=2 then b else 0):=⟨_,rfl⟩
   obtain⟨s2,hs2⟩:∃z,z=(if k=2 then s else false):=⟨_,rfl⟩
   obtain⟨m2,hm2⟩:∃z,z=(if k=2∨k=3 then nm else⟨#[]⟩):=⟨_,rfl⟩
   obtain⟨h2,hh2⟩:∃z,z=(if k=2∨k=3∨k=7∨k=8 then has else false):=⟨_,rfl⟩
   obtain⟨xA,hxA⟩:∃z,z=(if k=3∨k=4∨k=5∨k=6 then X.bare x else X.zero):=⟨_,rfl⟩
   obtain⟨xB,hxB⟩:∃z,z=(if S.looks k has=true then X.bare x else X.zero):=⟨_,rfl⟩
   obtain⟨iA,hiA⟩:∃z,z=(if k=3∧has=true then X.bare i else X.zero):=⟨_,rfl⟩
   obtain⟨f0,hf0⟩:∃z,z=(if k=7 then S.bI l0 else[]):=⟨_,rfl⟩
   obtain⟨f1,hf1⟩:∃z,z=(if k=7 then S.bI l1 else[]):=⟨_,rfl⟩
   obtain⟨f2,hf2⟩:∃z,z=(if k=5∨k=6∨k=7∨k=11 then S.bI l2 else[]):=⟨_,rfl⟩
   obtain⟨f3,hf3⟩:∃z,z=(if k=5 then S.bI l3 else[]):=⟨_,rfl⟩
   have wU:Hid (S.bare (.mk k b s nm has x i l0 l1 l2 l3)= .mk k b2 s2 m2 h2 xB iA f0 f1 f2 f3):=by show _=_;rw [S.bare,hb2,hs2,hm2,hh2,hxB,hiA,hf0,hf1,hf2,hf3];rfl
   have HE:=Lib.hid (And.intro hb2 (And.intro hs2 (And.intro hm2 (And.intro hh2 (And.intro hxA (And.intro hiA (And.intro hf0 hf1)))))))
   have Zh:=Lib.hid hxB
   have HE2:=Lib.hid hf2
   have WB:=Lib.hid hf3
   clear hb2 hs2 hm2 hh2 hxA hxB hiA hf0 hf1 hf2 hf3
   have c0:=iK.out.2.1.cell 0;have cl:=iK.out.2.1.lt
   simp only [Act.put]
   go_cut [9,17]from 9 to 127(fun iv kv wx=>iv= .int .i64 (j:Int)∧kv= .int .i64 k∧w6=wx)
   case first=>
    go_wp2
    go_meet
    case rel=>exact⟨rfl,rfl,rfl⟩
   case rest=>
   obtain⟨rfl,rfl,rfl⟩:=hcut
   have HP:=Lib.hid iK.out.2.2.1;have HG:=Lib.hid iK.out.2.1;have adL:gs<gb:=iK.out.2.2.2.1
   have PD:Hid (Below w.heap.size w w6):=Ext.trans iM.out iK.out.1
   go_upto_block 2 with(fail)
   go_cut [9]from 9 to 127(fun iv wx=>iv= .int .i64 (j:Int)∧Hid (∃z0 z1 z2 z3 z4 z5 j0 j1 j2 j3 j4 j5 u0 u1 u2 u3,dP w6 no gb k b2 s2 m2 h2 xA iA f0 f1 [] [] z0 z1 z2 z3 z4 z5 j0 j1 j2 j3 j4 j5 u0 u1 u2 u3 wx))
   case first=>
    clear kZ wU Zh HE2 WB Hy Ar KY HAT JM TY KX H2 H3
    by_cases k2:k=2
    ·subst k2
     have ee:b2=b∧s2=s∧m2=nm∧h2=has∧xA=X.zero∧iA=X.zero∧f0=[]∧f1=[]:=⟨HE.out.1,HE.out.2.1,HE.out.2.2.1,HE.out.2.2.2.1,HE.out.2.2.2.2.1,HE.out.2.2.2.2.2.1,HE.out.2.2.2.2.2.2.1,HE.out.2.2.2.2.2.2.2⟩
     have c1:=HG.out.cell 1;have c2:=HG.out.cell 2;have c3:=HG.out.cell 3;have c4:=HG.out.cell 4;have y1:=HP.out.blk.cell 1;have q1:=HP.out.blk.frozen 1;have y2:=HP.out.blk.cell 2;have q2:=HP.out.blk.frozen 2;have y3:=HP.out.blk.cell 3;have q3:=HP.out.blk.frozen 3;have y4:=HP.out.blk.cell 4;have q4:=HP.out.blk.frozen 4;have yl:=HP.out.lt
     go_upto_region 8 with(fail)
     go_region
     go_wp2
     go_meet
     case rel=>exact⟨rfl,by rw [ee.1,ee.2.1,ee.2.2.1,ee.2.2.2.1,ee.2.2.2.2.1,ee.2.2.2.2.2.1,ee.2.2.2.2.2.2.1,ee.2.2.2.2.2.2.2];exact⟨_,_,_,_,_,_,_,_,_,_,_,_,_,_,_,_,(((HP.out.aax b s).Xk nm).setH has).drew⟩⟩
    by_cases k3:k=3
    ·subst k3
     have ee:b2=0∧s2=false∧m2=nm∧h2=has∧xA=X.bare x∧f0=[]∧f1=[]:=⟨HE.out.1,HE.out.2.1,HE.out.2.2.1,HE.out.2.2.2.1,HE.out.2.2.2.2.1,HE.out.2.2.2.2.2.2.1,HE.out.2.2.2.2.2.2.2⟩
     have OQ:=Lib.hid (HX.out rfl)
     have HIX:=Lib.hid (fun h:has=true=>HI.out ⟨rfl,h⟩)
     have WC:Hid ((has=false→iA=X.zero)∧(has=true→iA=X.bare i)):=⟨fun h=>by rw [HE.out.2.2.2.2.2.1,if_neg (fun e=>by rw [h]at e;cases e.2)],fun h=>by rw [HE.out.2.2.2.2.2.1,if_pos ⟨rfl,h⟩]⟩
     have y0:=HP.out.lt
     go_upto_region 10 with(fail)
     replace ee:=Lib.hid ee
     clear y0 c0 cl HE HX HI H0 k2
     apply Iy.wp_region 13 [8,10,12] (fun _=>[]) (Ix.Rb) (fun m vs wi=>Hid (Below w.heap.size w wi∧w6.heap.size≤wi.heap.size∧ak wi gs 102 #[.int .i64 3, .int .i64 b, .bool s, .string nm, .bool has,x0,x1,x2,x3,x4,x5,i0,i1,i2,i3,i4,i5, .slice a0 l0.length n0, .slice a1 l1.length n1, .slice a2 l2.length n2, .slice a3 l3.length n3])∧(match m with|0=>Hid (dP w6 no gb 3 0 false ⟨#[]⟩ false X.zero X.zero [] [] [] [] (.int .i64 0) (.int .u64 0) (.int .i64 0) (.bool false) (.string ⟨#[]⟩) (.slice none 0 0) (.int .i64 0) (.int .u64 0) (.int .i64 0) (.bool false) (.string ⟨#[]⟩) (.slice none 0 0) (.slice none 0 0) (.slice none 0 0) (.slice none 0 0) (.slice none 0 0) wi)|1=>Hid (dP w6 no gb 3 0 false nm false X.zero X.zero [] [] [] [] (.int .i64 0) (.int .u64 0) (.int .i64 0) (.bool false) (.string ⟨#[]⟩) (.slice none 0 0) (.int .i64 0) (.int .u64 0) (.int .i64 0) (.bool false) (.string ⟨#[]⟩) (.slice none 0 0) (.slice none 0 0) (.slice none 0 0) (.slice none 0 0) (.slice none 0 0) wi)|2=>Hid (dP w6 no gb 3 0 false nm has X.zero X.zero [] [] [] [] (.int .i64 0) (.int .u64 0) (.int .i64 0) (.bool false) (.string ⟨#[]⟩) (.slice none 0 0) (.int .i64 0) (.int .u64 0) (.int .i64 0) (.bool false) (.string ⟨#[]⟩) (.slice none 0 0) (.slice none 0 0) (.slice none 0 0) (.slice none 0 0) (.slice none 0 0) wi)|_=>Hid (∃z0 z1 z2 z3 z4 z5,dP w6 no gb 3 0 false nm has (X.bare x) X.zero [] [] [] [] z0 z1 z2 z3 z4 z5 (.int .i64 0) (.int .u64 0) (.int .i64 0) (.bool false) (.string ⟨#[]⟩) (.slice none 0 0) (.slice none 0 0) (.slice none 0 0) (.slice none 0 0) (.slice none 0 0) wi))) (Ix.vk [(Ix.aA _),(Ix.aA _),(Ix.aA _),(Ix.aA _),(Ix.aA _),(Ix.aA (.agg #[x0,x1,x2,x3,x4,x5])),(Ix.dU (fun v w'=>Ia w6.heap.size (X.bare x) v w') (fun v w1 w2 h hb=>h.keep hb)),(Ix.aA _),(Ix.mY (fun _=>True)),(Ix.aA _),(Ix.mY (fun _=>True)),(Ix.aA _),(Ix.mY (fun _=>True))]) (fun _=>false) (by kernel_rfl) (by kernel_rfl) (by kernel_rfl) (by kernel_rfl) (by kernel_rfl) (fun n vs vs2 wi _ h=>by match n,h with|0,h=>exact h|1,h=>exact h|2,h=>exact h|n+3,h=>exact h) (fun _=>Below.refl _ _) (fun n vs wi wj h hb=>⟨⟨Ext.trans h.1.out.1 hb,Nat.le_trans h.1.out.2.1 hb.size,h.1.out.2.2.keep hb⟩,by match n,h with|0,h=>exact h.2.out.keep hb|1,h=>exact h.2.out.keep hb|2,h=>exact h.2.out.keep hb|n+3,h=>(obtain⟨z0,z1,z2,z3,z4,z5,h2⟩:=h.2.out;exact⟨_,_,_,_,_,_,h2.keep hb⟩)⟩) (Ix.aN _) (Ix.bP _) (fun vs=>⟨⟨Ext.drew PD.out,Nat.le_refl _,HG.out.keep (Below.refl _ _).drew⟩,HP.out.drew⟩)
     case step=>
      refine aZ 12 0 1 [] (fun _ _ wi HB=>?_)<|aZ 11 1 2 [(0,some 31)] (fun _ _ wi HB=>?_)<|aZ 10 2 3 [] (fun _ _ wi HB=>?_)<|aZ 9 3 4 [(2,some 33)] (fun _ _ wi HB=>?_)<|aZ 8 4 5 [] (fun _ _ wi HB=>?_)<|aZ 7 5 6 [(4,some 35)] (fun _ _ wi HB=>?_)<|aZ 6 6 7 [(5,some 36)] (fun _ _ wi HB=>?_)<|aZ 5 7 8 [] (fun _ _ wi HB=>?_)<|Aw 4 8 9 0 [(1,some 32),(7,some 38)] (fun ji wi HB=>?_)<|aZ 3 9 10 [] (fun _ _ wi HB=>?_)<|Aw 2 10 11 1 [(3,some 34),(9,some 39)] (fun ji wi HB=>?_)<|aZ 1 11 12 [] (fun _ _ wi HB=>?_)<|Aw 0 12 13 2 [(6,some 37),(11,some 40)] (fun ji wi HB=>?_)<|Iy.aC
      (·((repeat(refine aB ?_;rintro _ rfl));refine aF ?_;(try simp only [aj]);refine Iy.ah rfl rfl fun K hK=>?_;(try simp only [aj]at hK);go_wp2_with(first|fail);exact hK _ _ (Below.refl _ _) rfl))
      (·(obtain⟨HS,_⟩:=HB;have hs:=HS.out.2.2;have c3:=hs.cell 3;have c4:=hs.cell 4;have c5:=hs.cell 5;have c6:=hs.cell 6;have c7:=hs.cell 7;have c8:=hs.cell 8;have c9:=hs.cell 9;have c10:=hs.cell 10;have sl:=hs.lt;clear hs;(repeat(refine aB ?_;rintro _ rfl));refine aF ?_;(try simp only [aj]);refine Iy.ah rfl rfl fun K hK=>?_;(try simp only [aj]at hK);go_wp2_with(first|fail);exact hK _ _ (Below.refl _ _) rfl))
      (·((repeat(refine aB ?_;rintro _ rfl));refine aF ?_;(try simp only [aj]);refine Iy.ah rfl rfl fun K hK=>?_;(try simp only [aj]at hK);go_wp2_with(first|fail);exact hK _ _ (Below.refl _ _) rfl))
      (·(obtain⟨HS,_⟩:=HB;have hs:=HS.out.2.2;have c3:=hs.cell 3;have c4:=hs.cell 4;have c5:=hs.cell 5;have c6:=hs.cell 6;have c7:=hs.cell 7;have c8:=hs.cell 8;have c9:=hs.cell 9;have c10:=hs.cell 10;have sl:=hs.lt;clear hs;(repeat(refine aB ?_;rintro _ rfl));refine aF ?_;(try simp only [aj]);refine Iy.ah rfl rfl fun K hK=>?_;(try simp only [aj]at hK);go_wp2_with(first|fail);exact hK _ _ (Below.refl _ _) rfl))
      (·((repeat(refine aB ?_;rintro _ rfl));refine aF ?_;(try simp only [aj]);refine Iy.ah rfl rfl fun K hK=>?_;(try simp only [aj]at hK);go_wp2_with(first|fail);exact hK _ _ (Below.refl _ _) rfl))
      (·(obtain⟨HS,_⟩:=HB;have hs:=HS.out.2.2;have c3:=hs.cell 3;have c4:=hs.cell 4;have c5:=hs.cell 5;have c6:=hs.cell 6;have c7:=hs.cell 7;have c8:=hs.cell 8;have c9:=hs.cell 9;have c10:=hs.cell 10;have sl:=hs.lt;clear hs;(repeat(refine aB ?_;rintro _ rfl));refine aF ?_;(try simp only [aj]);refine Iy.ah rfl rfl fun K hK=>?_;(try simp only [aj]at hK);go_wp2_with(first|fail);exact hK _ _ (Below.refl _ _) rfl))
      (·(obtain⟨HS,_⟩:=HB;have hs:=HS.out.2.2;have c3:=hs.cell 3;have c4:=hs.cell 4;have c5:=hs.cell 5;have c6:=hs.cell 6;have c7:=hs.cell 7;have c8:=hs.cell 8;have c9:=hs.cell 9;have c10:=hs.cell 10;have sl:=hs.lt;clear hs;(repeat(refine aB ?_;rintro _ rfl));refine aF ?_;(try simp only [aj]);refine Iy.ah rfl rfl fun K hK=>?_;(try simp only [aj]at hK);go_wp2_with(first|(go_at_call 24;refine(OQ.out _ HS.out.1).mono ?_;intro e wa hx;obtain⟨z0,z1,z2,z3,z4,z5,rfl,hz,hba⟩:=hx.six (N:=w6.heap.size) HS.out.2.1));exact hK _ _ hba ⟨_,_,_,_,_,_,rfl,hz⟩))
      (·((repeat(refine aB ?_;rintro _ rfl));refine aF ?_;(try simp only [aj]);refine Iy.ah rfl rfl fun K hK=>?_;(try simp only [aj]at hK);go_wp2_with(first|fail);exact hK _ _ (Below.refl _ _) rfl))
      (·(obtain⟨HS,HQ⟩:=HB;refine aB ?_;rintro _⟨rfl,ev1⟩;refine aB ?_;rintro _⟨rfl,ev7⟩;refine aF ?_;have y3:=HQ.out.blk.cell 3;have q3:=HQ.out.blk.frozen 3;have yl:=HQ.out.blk.lt;(try simp only [aj]);refine Iy.ah rfl rfl fun K hK=>?_;(try simp only [aj]at hK);go_wp2_with(first|fail);exact hK undef _ ⟨⟨⟨Ext.setCell HS.out.1 (show w.heap.size≤gb by have h1:=iM.out.size;have h2:=wS.out;omega) _,(by simpa using HS.out.2.1),HS.out.2.2.far (by show gs≠gb;omega) _⟩,HQ.out.Xk nm⟩,Iy.dG (by repeat(first|exact True.intro|refine And.intro (fun _ h=>h) ?_|refine And.intro (fun hne=>absurd rfl hne) ?_|refine And.intro (fun _ h=>Ia.turn HP.out.lt _ _ h) ?_))⟩ trivial))
      (·((repeat(refine aB ?_;rintro _ rfl));refine aF ?_;(try simp only [aj]);refine Iy.ah rfl rfl fun K hK=>?_;(try simp only [aj]at hK);go_wp2_with(first|fail);exact hK _ _ (Below.refl _ _) rfl))
      (·(obtain⟨HS,HQ⟩:=HB;refine aB ?_;rintro _⟨rfl,ev3⟩;refine aB ?_;rintro _⟨rfl,ev9⟩;refine aF ?_;have y4:=HQ.out.blk.cell 4;have q4:=HQ.out.blk.frozen 4;have yl:=HQ.out.blk.lt;(try simp only [aj]);refine Iy.ah rfl rfl fun K hK=>?_;(try simp only [aj]at hK);go_wp2_with(first|fail);exact hK undef _ ⟨⟨⟨Ext.setCell HS.out.1 (show w.heap.size≤gb by have h1:=iM.out.size;have h2:=wS.out;omega) _,(by simpa using HS.out.2.1),HS.out.2.2.far (by show gs≠gb;omega) _⟩,HQ.out.setH has⟩,Iy.dG (by repeat(first|exact True.intro|refine And.intro (fun _ h=>h) ?_|refine And.intro (fun hne=>absurd rfl hne) ?_|refine And.intro (fun _ h=>Ia.turn HP.out.lt _ _ h) ?_))⟩ trivial))
      (·((repeat(refine aB ?_;rintro _ rfl));refine aF ?_;(try simp only [aj]);refine Iy.ah rfl rfl fun K hK=>?_;(try simp only [aj]at hK);go_wp2_with(first|fail);exact hK _ _ (Below.refl _ _) rfl))
      (·(obtain⟨HS,HQ⟩:=HB;refine aB ?_;rintro _⟨h6,ev6⟩;refine aB ?_;rintro _⟨rfl,DK⟩;refine aF ?_;obtain⟨z0,z1,z2,z3,z4,z5,rfl,hz⟩:=h6;(try simp only [aj]);refine Iy.ah rfl rfl fun K hK=>?_;(try simp only [aj]at hK);refine wV 62 _ _ rfl gb 5 [z0,z1,z2,z3,z4,z5] rfl rfl 102 _ _ HQ.out.blk (by kernel_rfl) (show 5+6≤21 by decide) (dA.ones hz) rfl ?_;exact hK undef _ ⟨⟨⟨Below.jQ HS.out.1 (show w.heap.size≤gb by have h1:=iM.out.size;have h2:=wS.out;omega) _,(by simpa [World.setRow]using HS.out.2.1),HS.out.2.2.yN (by omega) _⟩,_,_,_,_,_,_,HQ.out.rM hz⟩,Iy.dG (by repeat(first|exact True.intro|refine And.intro (fun _ h=>h) ?_|refine And.intro (fun hne=>absurd rfl hne) ?_|refine And.intro (fun _ h=>Ia.Xl HP.out.lt _ h) ?_))⟩ trivial))
     intro lM wf HF hdf
     refine au 12 0 1 ?_;rintro _ _ rfl;refine au 11 1 2 ?_;rintro _ _ rfl;refine au 10 2 3 ?_;rintro _ _ rfl;refine au 9 3 4 ?_;rintro _ _ rfl;refine au 8 4 5 ?_;rintro _ _ rfl;refine au 7 5 6 ?_;rintro _ _ rfl;refine au 6 6 7 ?_;rintro _ _ h6;refine au 5 7 8 ?_;rintro _ _ rfl;refine au 4 8 9 ?_;rintro _ _ _;refine au 3 9 10 ?_;rintro _ _ rfl;refine au 2 10 11 ?_;rintro _ _ _;refine au 1 11 12 ?_;rintro _ _ rfl;refine au 0 12 13 ?_;rintro _ _ _
     refine Ix.aI ?_
     obtain⟨JO,HQF⟩:=HF;obtain⟨z0,z1,z2,z3,z4,z5,Xm⟩:=HQF.out;have HQ:=Lib.hid Xm;clear Xm
     (try simp only [Act.put,List.setIfInBounds_toArray,List.set_cons_zero,List.set_cons_succ,List.drop_succ_cons,List.drop_zero])
     refine Ix.nil ?_
     clear h6 hdf
     replace ee:=ee.out
     have c4:=JO.out.2.2.cell 4;have cl:=JO.out.2.2.lt
     cases has with
     |false=>
      have ei:iA=X.zero:=WC.out.1 rfl
      go_wp2
      go_meet
      case rel=>exact⟨rfl,by rw [ee.1,ee.2.1,ee.2.2.1,ee.2.2.2.1,ee.2.2.2.2.1,ee.2.2.2.2.2.1,ee.2.2.2.2.2.2];rw [ei];exact⟨_,_,_,_,_,_,_,_,_,_,_,_,_,_,_,_,HQ.out⟩⟩
     |true=>
      have ei:iA=X.bare i:=WC.out.2 rfl
      have c11:=JO.out.2.2.cell 11;have c12:=JO.out.2.2.cell 12;have c13:=JO.out.2.2.cell 13;have c14:=JO.out.2.2.cell 14;have c15:=JO.out.2.2.cell 15;have c16:=JO.out.2.2.cell 16
      go_upto_region 13 with(first|(go_at_call 24;refine(HIX.out rfl _ JO.out.1).mono ?_;intro e Zi hx;obtain⟨t0,t1,t2,t3,t4,t5,rfl,hz3,pX⟩:=hx.six (N:=w6.heap.size) HQ.out.bC.size;have wM:=Lib.hid (HQ.out.keep pX);have FX:=Lib.hid hz3;clear hx hz3 pX)|(refine aT rfl 62 _ _ rfl gb 11 [t0,t1,t2,t3,t4,t5] rfl rfl 102 _ #[.int .i64 3, .int .i64 0, .bool false, .string nm, .bool true,z0,z1,z2,z3,z4,z5,t0,t1,t2,t3,t4,t5, .slice none 0 0, .slice none 0 0, .slice none 0 0, .slice none 0 0] wM.out.blk (by kernel_rfl) (show 11+6≤21 by decide) (dA.ones FX.out) rfl ?_))
      go_meet
      case rel=>exact⟨rfl,by rw [ee.1,ee.2.1,ee.2.2.1,ee.2.2.2.1,ee.2.2.2.2.1,ee.2.2.2.2.2.1,ee.2.2.2.2.2.2];rw [ei];exact⟨_,_,_,_,_,_,_,_,_,_,_,_,_,_,_,_,wM.out.Xn FX.out⟩⟩
    by_cases k4:k=4
    ·subst k4
     have ee:b2=0∧s2=false∧m2=⟨#[]⟩∧h2=false∧xA=X.bare x∧iA=X.zero∧f0=[]∧f1=[]:=⟨HE.out.1,HE.out.2.1,HE.out.2.2.1,HE.out.2.2.2.1,HE.out.2.2.2.2.1,HE.out.2.2.2.2.2.1,HE.out.2.2.2.2.2.2.1,HE.out.2.2.2.2.2.2.2⟩
     have c5:=HG.out.cell 5;have c6:=HG.out.cell 6;have c7:=HG.out.cell 7;have c8:=HG.out.cell 8;have c9:=HG.out.cell 9;have c10:=HG.out.cell 10
     have y0:=HP.out.lt
     go_upto_region 21 with(first|(go_at_call 24;refine(HX.out rfl _ PD.out).mono ?_;intro e Zi hx;obtain⟨t0,t1,t2,t3,t4,t5,rfl,hz3,pX⟩:=hx.six (N:=w6.heap.size) HP.out.bC.size;have wM:=Lib.hid (HP.out.keep pX);have FX:=Lib.hid hz3;clear hx hz3 pX)|(refine aT rfl 62 _ _ rfl gb 5 [t0,t1,t2,t3,t4,t5] rfl rfl 102 _ #[.int .i64 4, .int .i64 0, .bool false, .string ⟨#[]⟩, .bool false,t0,t1,t2,t3,t4,t5, .int .i64 0, .int .u64 0, .int .i64 0, .bool false, .string ⟨#[]⟩, .slice none 0 0, .slice none 0 0, .slice none 0 0, .slice none 0 0, .slice none 0 0] wM.out.blk (by kernel_rfl) (show 5+6≤21 by decide) (dA.ones FX.out) rfl ?_))
     go_meet
     case rel=>exact⟨rfl,by rw [ee.1,ee.2.1,ee.2.2.1,ee.2.2.2.1,ee.2.2.2.2.1,ee.2.2.2.2.2.1,ee.2.2.2.2.2.2.1,ee.2.2.2.2.2.2.2];exact⟨_,_,_,_,_,_,_,_,_,_,_,_,_,_,_,_,wM.out.rM FX.out⟩⟩
    by_cases k5:k=5
    ·subst k5
     have ee:b2=0∧s2=false∧m2=⟨#[]⟩∧h2=false∧xA=X.bare x∧iA=X.zero∧f0=[]∧f1=[]:=⟨HE.out.1,HE.out.2.1,HE.out.2.2.1,HE.out.2.2.2.1,HE.out.2.2.2.2.1,HE.out.2.2.2.2.2.1,HE.out.2.2.2.2.2.2.1,HE.out.2.2.2.2.2.2.2⟩
     have c5:=HG.out.cell 5;have c6:=HG.out.cell 6;have c7:=HG.out.cell 7;have c8:=HG.out.cell 8;have c9:=HG.out.cell 9;have c10:=HG.out.cell 10
     have y0:=HP.out.lt
     go_upto_region 21 with(first|(go_at_call 24;refine(HX.out rfl _ PD.out).mono ?_;intro e Zi hx;obtain⟨t0,t1,t2,t3,t4,t5,rfl,hz3,pX⟩:=hx.six (N:=w6.heap.size) HP.out.bC.size;have wM:=Lib.hid (HP.out.keep pX);have FX:=Lib.hid hz3;clear hx hz3 pX)|(refine aT rfl 62 _ _ rfl gb 5 [t0,t1,t2,t3,t4,t5] rfl rfl 102 _ #[.int .i64 5, .int .i64 0, .bool false, .string ⟨#[]⟩, .bool false,t0,t1,t2,t3,t4,t5, .int .i64 0, .int .u64 0, .int .i64 0, .bool false, .string ⟨#[]⟩, .slice none 0 0, .slice none 0 0, .slice none 0 0, .slice none 0 0, .slice none 0 0] wM.out.blk (by kernel_rfl) (show 5+6≤21 by decide) (dA.ones FX.out) rfl ?_))
     go_meet
     case rel=>exact⟨rfl,by rw [ee.1,ee.2.1,ee.2.2.1,ee.2.2.2.1,ee.2.2.2.2.1,ee.2.2.2.2.2.1,ee.2.2.2.2.2.2.1,ee.2.2.2.2.2.2.2];exact⟨_,_,_,_,_,_,_,_,_,_,_,_,_,_,_,_,wM.out.rM FX.out⟩⟩
    by_cases k6:k=6
    ·subst k6
     have ee:b2=0∧s2=false∧m2=⟨#[]⟩∧h2=false∧xA=X.bare x∧iA=X.zero∧f0=[]∧f1=[]:=⟨HE.out.1,HE.out.2.1,HE.out.2.2.1,HE.out.2.2.2.1,HE.out.2.2.2.2.1,HE.out.2.2.2.2.2.1,HE.out.2.2.2.2.2.2.1,HE.out.2.2.2.2.2.2.2⟩
     have c5:=HG.out.cell 5;have c6:=HG.out.cell 6;have c7:=HG.out.cell 7;have c8:=HG.out.cell 8;have c9:=HG.out.cell 9;have c10:=HG.out.cell 10
     have y0:=HP.out.lt
     go_upto_region 21 with(first|(go_at_call 24;refine(HX.out rfl _ PD.out).mono ?_;intro e Zi hx;obtain⟨t0,t1,t2,t3,t4,t5,rfl,hz3,pX⟩:=hx.six (N:=w6.heap.size) HP.out.bC.size;have wM:=Lib.hid (HP.out.keep pX);have FX:=Lib.hid hz3;clear hx hz3 pX)|(refine aT rfl 62 _ _ rfl gb 5 [t0,t1,t2,t3,t4,t5] rfl rfl 102 _ #[.int .i64 6, .int .i64 0, .bool false, .string ⟨#[]⟩, .bool false,t0,t1,t2,t3,t4,t5, .int .i64 0, .int .u64 0, .int .i64 0, .bool false, .string ⟨#[]⟩, .slice none 0 0, .slice none 0 0, .slice none 0 0, .slice none 0 0, .slice none 0 0] wM.out.blk (by kernel_rfl) (show 5+6≤21 by decide) (dA.ones FX.out) rfl ?_))
     go_meet
     case rel=>exact⟨rfl,by rw [ee.1,ee.2.1,ee.2.2.1,ee.2.2.2.1,ee.2.2.2.2.1,ee.2.2.2.2.2.1,ee.2.2.2.2.2.2.1,ee.2.2.2.2.2.2.2];exact⟨_,_,_,_,_,_,_,_,_,_,_,_,_,_,_,_,wM.out.rM FX.out⟩⟩
    by_cases k7:k=7
    ·subst k7
     have ee:b2=0∧s2=false∧m2=⟨#[]⟩∧h2=has∧xA=X.zero∧iA=X.zero∧f0=S.bI l0∧f1=S.bI l1:=⟨HE.out.1,HE.out.2.1,HE.out.2.2.1,HE.out.2.2.2.1,HE.out.2.2.2.2.1,HE.out.2.2.2.2.2.1,HE.out.2.2.2.2.2.2.1,HE.out.2.2.2.2.2.2.2⟩
     have OQ:=Lib.hid (H0.out rfl)
     have y0:=HP.out.lt
     go_upto_region 18 with(fail)
     replace ee:=Lib.hid ee
     clear y0 c0 cl HE HX HI H0 k2 k3 k4 k5 k6
     apply Iy.wp_region 14 [9,11,13] (fun _=>[]) (Ix.Rb) (fun m vs wi=>Hid (Below w.heap.size w wi∧w6.heap.size≤wi.heap.size∧ak wi gs 102 #[.int .i64 7, .int .i64 b, .bool s, .string nm, .bool has,x0,x1,x2,x3,x4,x5,i0,i1,i2,i3,i4,i5, .slice a0 l0.length n0, .slice a1 l1.length n1, .slice a2 l2.length n2, .slice a3 l3.length n3])∧(match m with|0=>Hid (dP w6 no gb 7 0 false ⟨#[]⟩ false X.zero X.zero [] [] [] [] (.int .i64 0) (.int .u64 0) (.int .i64 0) (.bool false) (.string ⟨#[]⟩) (.slice none 0 0) (.int .i64 0) (.int .u64 0) (.int .i64 0) (.bool false) (.string ⟨#[]⟩) (.slice none 0 0) (.slice none 0 0) (.slice none 0 0) (.slice none 0 0) (.slice none 0 0) wi)|1=>Hid (dP w6 no gb 7 0 false ⟨#[]⟩ has X.zero X.zero [] [] [] [] (.int .i64 0) (.int .u64 0) (.int .i64 0) (.bool false) (.string ⟨#[]⟩) (.slice none 0 0) (.int .i64 0) (.int .u64 0) (.int .i64 0) (.bool false) (.string ⟨#[]⟩) (.slice none 0 0) (.slice none 0 0) (.slice none 0 0) (.slice none 0 0) (.slice none 0 0) wi)|2=>Hid (∃u0,dP w6 no gb 7 0 false ⟨#[]⟩ has X.zero X.zero (S.bI l0) [] [] [] (.int .i64 0) (.int .u64 0) (.int .i64 0) (.bool false) (.string ⟨#[]⟩) (.slice none 0 0) (.int .i64 0) (.int .u64 0) (.int .i64 0) (.bool false) (.string ⟨#[]⟩) (.slice none 0 0) u0 (.slice none 0 0) (.slice none 0 0) (.slice none 0 0) wi)|_=>Hid (∃u0 u1,dP w6 no gb 7 0 false ⟨#[]⟩ has X.zero X.zero (S.bI l0) (S.bI l1) [] [] (.int .i64 0) (.int .u64 0) (.int .i64 0) (.bool false) (.string ⟨#[]⟩) (.slice none 0 0) (.int .i64 0) (.int .u64 0) (.int .i64 0) (.bool false) (.string ⟨#[]⟩) (.slice none 0 0) u0 u1 (.slice none 0 0) (.slice none 0 0) wi))) (Ix.vk [(Ix.aA _),(Ix.aA _),(Ix.aA _),(Ix.aA _),(Ix.dU (fun v w'=>yO (Qp no w6) (S.bI l0) v w') (fun v w1 w2 h hb=>h.keep hb)),(Ix.aA _),(Ix.aA _),(Ix.dU (fun v w'=>yO (Qp no w6) (S.bI l1) v w') (fun v w1 w2 h hb=>h.keep hb)),(Ix.aA _),(Ix.mY (fun _=>True)),(Ix.aA _),(Ix.mY (fun _=>True)),(Ix.aA _),(Ix.mY (fun _=>True))]) (fun _=>false) (by kernel_rfl) (by kernel_rfl) (by kernel_rfl) (by kernel_rfl) (by kernel_rfl) (fun n vs vs2 wi _ h=>by match n,h with|0,h=>exact h|1,h=>exact h|2,h=>exact h|n+3,h=>exact h) (fun _=>Below.refl _ _) (fun n vs wi wj h hb=>⟨⟨Ext.trans h.1.out.1 hb,Nat.le_trans h.1.out.2.1 hb.size,h.1.out.2.2.keep hb⟩,by match n,h with|0,h=>exact h.2.out.keep hb|1,h=>exact h.2.out.keep hb|2,h=>(obtain⟨u0,h2⟩:=h.2.out;exact⟨_,h2.keep hb⟩)|n+3,h=>(obtain⟨u0,u1,h2⟩:=h.2.out;exact⟨_,_,h2.keep hb⟩)⟩) (Ix.aN _) (Ix.bP _) (fun vs=>⟨⟨Ext.drew PD.out,Nat.le_refl _,HG.out.keep (Below.refl _ _).drew⟩,HP.out.drew⟩)
     case step=>
      refine aZ 13 0 1 [] (fun _ _ wi HB=>?_)<|aZ 12 1 2 [(0,some 57)] (fun _ _ wi HB=>?_)<|aZ 11 2 3 [] (fun _ _ wi HB=>?_)<|aZ 10 3 4 [(2,some 59)] (fun _ _ wi HB=>?_)<|aZ 9 4 5 [(3,some 60)] (fun _ _ wi HB=>?_)<|aZ 8 5 6 [] (fun _ _ wi HB=>?_)<|aZ 7 6 7 [(5,some 62)] (fun _ _ wi HB=>?_)<|aZ 6 7 8 [(6,some 63)] (fun _ _ wi HB=>?_)<|aZ 5 8 9 [] (fun _ _ wi HB=>?_)<|Aw 4 9 10 0 [(1,some 58),(8,some 65)] (fun ji wi HB=>?_)<|aZ 3 10 11 [] (fun _ _ wi HB=>?_)<|Aw 2 11 12 1 [(4,some 61),(10,some 66)] (fun ji wi HB=>?_)<|aZ 1 12 13 [] (fun _ _ wi HB=>?_)<|Aw 0 13 14 2 [(7,some 64),(12,some 67)] (fun ji wi HB=>?_)<|Iy.aC
      (·((repeat(refine aB ?_;rintro _ rfl));refine aF ?_;(try simp only [aj]);refine Iy.ah rfl rfl fun K hK=>?_;(try simp only [aj]at hK);go_wp2_with(first|fail);exact hK _ _ (Below.refl _ _) rfl))
      (·(obtain⟨HS,_⟩:=HB;have hs:=HS.out.2.2;have c4:=hs.cell 4;have c17:=hs.cell 17;have c18:=hs.cell 18;have sl:=hs.lt;clear hs;(repeat(refine aB ?_;rintro _ rfl));refine aF ?_;(try simp only [aj]);refine Iy.ah rfl rfl fun K hK=>?_;(try simp only [aj]at hK);go_wp2_with(first|fail);exact hK _ _ (Below.refl _ _) rfl))
      (·((repeat(refine aB ?_;rintro _ rfl));refine aF ?_;(try simp only [aj]);refine Iy.ah rfl rfl fun K hK=>?_;(try simp only [aj]at hK);go_wp2_with(first|fail);exact hK _ _ (Below.refl _ _) rfl))
      (·(obtain⟨HS,_⟩:=HB;have hs:=HS.out.2.2;have c4:=hs.cell 4;have c17:=hs.cell 17;have c18:=hs.cell 18;have sl:=hs.lt;clear hs;(repeat(refine aB ?_;rintro _ rfl));refine aF ?_;(try simp only [aj]);refine Iy.ah rfl rfl fun K hK=>?_;(try simp only [aj]at hK);go_wp2_with(first|fail);exact hK _ _ (Below.refl _ _) rfl))
      (·(obtain⟨HS,_⟩:=HB;have hs:=HS.out.2.2;have c4:=hs.cell 4;have c17:=hs.cell 17;have c18:=hs.cell 18;have sl:=hs.lt;clear hs;(repeat(refine aB ?_;rintro _ rfl));refine aF ?_;(try simp only [aj]);refine Iy.ah rfl rfl fun K hK=>?_;(try simp only [aj]at hK);go_wp2_with(first|(go_at_call 25;refine((OQ.out _ HS.out.1).1).mono ?_;rintro e wa⟨ax,cx,rfl,hsx,hba⟩));exact hK _ _ hba ⟨_,_,rfl,hsx.move fun q hq _=>⟨.inr (Nat.le_trans HS.out.2.1 hq),rfl⟩⟩))
      (·((repeat(refine aB ?_;rintro _ rfl));refine aF ?_;(try simp only [aj]);refine Iy.ah rfl rfl fun K hK=>?_;(try simp only [aj]at hK);go_wp2_with(first|fail);exact hK _ _ (Below.refl _ _) rfl))
      (·(obtain⟨HS,_⟩:=HB;have hs:=HS.out.2.2;have c4:=hs.cell 4;have c17:=hs.cell 17;have c18:=hs.cell 18;have sl:=hs.lt;clear hs;(repeat(refine aB ?_;rintro _ rfl));refine aF ?_;(try simp only [aj]);refine Iy.ah rfl rfl fun K hK=>?_;(try simp only [aj]at hK);go_wp2_with(first|fail);exact hK _ _ (Below.refl _ _) rfl))
      (·(obtain⟨HS,_⟩:=HB;have hs:=HS.out.2.2;have c4:=hs.cell 4;have c17:=hs.cell 17;have c18:=hs.cell 18;have sl:=hs.lt;clear hs;(repeat(refine aB ?_;rintro _ rfl));refine aF ?_;(try simp only [aj]);refine Iy.ah rfl rfl fun K hK=>?_;(try simp only [aj]at hK);go_wp2_with(first|(go_at_call 25;refine((OQ.out _ HS.out.1).2).mono ?_;rintro e wa⟨ax,cx,rfl,hsx,hba⟩));exact hK _ _ hba ⟨_,_,rfl,hsx.move fun q hq _=>⟨.inr (Nat.le_trans HS.out.2.1 hq),rfl⟩⟩))
      (·((repeat(refine aB ?_;rintro _ rfl));refine aF ?_;(try simp only [aj]);refine Iy.ah rfl rfl fun K hK=>?_;(try simp only [aj]at hK);go_wp2_with(first|fail);exact hK _ _ (Below.refl _ _) rfl))
      (·(obtain⟨HS,HQ⟩:=HB;refine aB ?_;rintro _⟨rfl,ev1⟩;refine aB ?_;rintro _⟨rfl,ev8⟩;refine aF ?_;have y4:=HQ.out.blk.cell 4;have q4:=HQ.out.blk.frozen 4;have yl:=HQ.out.blk.lt;(try simp only [aj]);refine Iy.ah rfl rfl fun K hK=>?_;(try simp only [aj]at hK);go_wp2_with(first|fail);exact hK undef _ ⟨⟨⟨Ext.setCell HS.out.1 (show w.heap.size≤gb by have h1:=iM.out.size;have h2:=wS.out;omega) _,(by simpa using HS.out.2.1),HS.out.2.2.far (by show gs≠gb;omega) _⟩,HQ.out.setH has⟩,Iy.dG (by repeat(first|exact True.intro|refine And.intro (fun _ h=>h) ?_|refine And.intro (fun hne=>absurd rfl hne) ?_|refine And.intro (fun _ h=>yO.turn HQ.out _ _ h) ?_))⟩ trivial))
      (·((repeat(refine aB ?_;rintro _ rfl));refine aF ?_;(try simp only [aj]);refine Iy.ah rfl rfl fun K hK=>?_;(try simp only [aj]at hK);go_wp2_with(first|fail);exact hK _ _ (Below.refl _ _) rfl))
      (·(obtain⟨HS,HQ⟩:=HB;refine aB ?_;rintro _⟨h4,Zj⟩;refine aB ?_;rintro _⟨rfl,sW⟩;refine aF ?_;obtain⟨a4,c4,rfl,hs4⟩:=h4;have y17:=HQ.out.blk.cell 17;have Ib:=HQ.out.blk.frozen 17;have yl:=HQ.out.blk.lt;(try simp only [aj]);refine Iy.ah rfl rfl fun K hK=>?_;(try simp only [aj]at hK);go_wp2_with(first|fail);exact hK undef _ ⟨⟨⟨Ext.setCell HS.out.1 (show w.heap.size≤gb by have h1:=iM.out.size;have h2:=wS.out;omega) _,(by simpa using HS.out.2.1),HS.out.2.2.far (by show gs≠gb;omega) _⟩,_,HQ.out.set0 hs4⟩,Iy.dG (by repeat(first|exact True.intro|refine And.intro (fun _ h=>h) ?_|refine And.intro (fun hne=>absurd rfl hne) ?_|refine And.intro (fun _ h=>yO.turn HQ.out _ _ h) ?_))⟩ trivial))
      (·((repeat(refine aB ?_;rintro _ rfl));refine aF ?_;(try simp only [aj]);refine Iy.ah rfl rfl fun K hK=>?_;(try simp only [aj]at hK);go_wp2_with(first|fail);exact hK _ _ (Below.refl _ _) rfl))
      (·(obtain⟨HS,HQ⟩:=HB;refine aB ?_;rintro _⟨h7,ev7⟩;refine aB ?_;rintro _⟨rfl,aaB⟩;refine aF ?_;obtain⟨a7,c7,rfl,hs7⟩:=h7;obtain⟨uu,hqq⟩:=HQ.out;have y18:=hqq.blk.cell 18;have Ic:=hqq.blk.frozen 18;have yl:=hqq.blk.lt;(try simp only [aj]);refine Iy.ah rfl rfl fun K hK=>?_;(try simp only [aj]at hK);go_wp2_with(first|fail);exact hK undef _ ⟨⟨⟨Ext.setCell HS.out.1 (show w.heap.size≤gb by have h1:=iM.out.size;have h2:=wS.out;omega) _,(by simpa using HS.out.2.1),HS.out.2.2.far (by show gs≠gb;omega) _⟩,_,_,hqq.set1 hs7⟩,Iy.dG (by repeat(first|exact True.intro|refine And.intro (fun _ h=>h) ?_|refine And.intro (fun hne=>absurd rfl hne) ?_|refine And.intro (fun _ h=>yO.turn hqq _ _ h) ?_))⟩ trivial))
     intro lM wf HF hdf
     refine au 13 0 1 ?_;rintro _ _ rfl;refine au 12 1 2 ?_;rintro _ _ rfl;refine au 11 2 3 ?_;rintro _ _ rfl;refine au 10 3 4 ?_;rintro _ _ rfl;refine au 9 4 5 ?_;rintro _ _ h4;refine au 8 5 6 ?_;rintro _ _ rfl;refine au 7 6 7 ?_;rintro _ _ rfl;refine au 6 7 8 ?_;rintro _ _ h7;refine au 5 8 9 ?_;rintro _ _ rfl;refine au 4 9 10 ?_;rintro _ _ _;refine au 3 10 11 ?_;rintro _ _ rfl;refine au 2 11 12 ?_;rintro _ _ _;refine au 1 12 13 ?_;rintro _ _ rfl;refine au 0 13 14 ?_;rintro _ _ _
     refine Ix.aI ?_
     obtain⟨JO,HQF⟩:=HF;obtain⟨u0,u1,Xm⟩:=HQF.out;have HQ:=Lib.hid Xm;clear Xm
     (try simp only [Act.put,List.setIfInBounds_toArray,List.set_cons_zero,List.set_cons_succ,List.drop_succ_cons,List.drop_zero])
     refine Ix.nil ?_
     clear h4 h7 hdf
     replace ee:=ee.out
     go_wp2
     go_meet
     case rel=>exact⟨rfl,by rw [ee.1,ee.2.1,ee.2.2.1,ee.2.2.2.1,ee.2.2.2.2.1,ee.2.2.2.2.2.1,ee.2.2.2.2.2.2.1,ee.2.2.2.2.2.2.2];exact⟨_,_,_,_,_,_,_,_,_,_,_,_,_,_,_,_,HQ.out⟩⟩
    by_cases k8:k=8
    ·subst k8
     have ee:b2=0∧s2=false∧m2=⟨#[]⟩∧h2=has∧xA=X.zero∧iA=X.zero∧f0=[]∧f1=[]:=⟨HE.out.1,HE.out.2.1,HE.out.2.2.1,HE.out.2.2.2.1,HE.out.2.2.2.2.1,HE.out.2.2.2.2.2.1,HE.out.2.2.2.2.2.2.1,HE.out.2.2.2.2.2.2.2⟩
     have c4:=HG.out.cell 4;have y4:=HP.out.blk.cell 4;have q4:=HP.out.blk.frozen 4;have yl:=HP.out.lt
     go_wp2
     go_meet
     case rel=>exact⟨rfl,by rw [ee.1,ee.2.1,ee.2.2.1,ee.2.2.2.1,ee.2.2.2.2.1,ee.2.2.2.2.2.1,ee.2.2.2.2.2.2.1,ee.2.2.2.2.2.2.2];exact⟨_,_,_,_,_,_,_,_,_,_,_,_,_,_,_,_,HP.out.setH has⟩⟩
    have q2:(k==2)=false:=by simpa using k2
    have q3:(k==3)=false:=by simpa using k3
    have q4:(k==4)=false:=by simpa using k4
    have q5:(k==5)=false:=by simpa using k5
    have q6:(k==6)=false:=by simpa using k6
    have q7:(k==7)=false:=by simpa using k7
    have q8:(k==8)=false:=by simpa using k8
    have ee:b2=0∧s2=false∧m2=⟨#[]⟩∧h2=false∧xA=X.zero∧iA=X.zero∧f0=[]∧f1=[]:=⟨by rw [HE.out.1,if_neg k2],by rw [HE.out.2.1,if_neg k2],by rw [HE.out.2.2.1,if_neg (by omega)],by rw [HE.out.2.2.2.1,if_neg (by omega)],by rw [HE.out.2.2.2.2.1,if_neg (by omega)],by rw [HE.out.2.2.2.2.2.1,if_neg (fun h=>k3 h.1)],by rw [HE.out.2.2.2.2.2.2.1,if_neg k7],by rw [HE.out.2.2.2.2.2.2.2,if_neg k7]⟩
    clear k2 k3 k4 k5 k6 k7 k8
    go_wp2
    go_meet
    case rel=>exact⟨rfl,by rw [ee.1,ee.2.1,ee.2.2.1,ee.2.2.2.1,ee.2.2.2.2.1,ee.2.2.2.2.2.1,ee.2.2.2.2.2.2.1,ee.2.2.2.2.2.2.2];exact⟨_,_,_,_,_,_,_,_,_,_,_,_,_,_,_,_,HP.out⟩⟩
   case rest=>
    have WE:Hid ((has&&(k==2||k==7||k==8))=false→xB=xA):=fun hq=>by rw [Zh.out,HE.out.2.2.2.2.1];exact PE hq _ _
    have Xo:Hid ((has&&(k==2||k==7||k==8))=true→S.looks k has=true):=KZ
    clear c0 cl HE HP
    obtain⟨rfl,hA⟩:=hcut
    obtain⟨z0,z1,z2,z3,z4,z5,j0,j1,j2,j3,j4,j5,u0,u1,u2,u3,hA⟩:=hA.out
    obtain⟨W1,rfl⟩:∃W,W=wc:=⟨_,rfl⟩
    have HA:=Lib.hid hA
    clear hA
    have zQ:Hid (Below w.heap.size w W1):=Below.bC PD.out (Nat.le_refl _) (by have h1:=iM.out.size;have h2:=wS.out;omega:w.heap.size≤gb) HA.out.bC
    have l9:Hid (ak W1 gs 102 #[.int .i64 k, .int .i64 b, .bool s, .string nm, .bool has,x0,x1,x2,x3,x4,x5,i0,i1,i2,i3,i4,i5, .slice a0 l0.length n0, .slice a1 l1.length n1, .slice a2 l2.length n2, .slice a3 l3.length n3]):=(HA.out.bC.block gs HG.out.lt (by intro e;injection e with e;omega)).trans HG.out
    have c0:=l9.out.cell 0;have cl:=l9.out.lt
    have c4:=l9.out.cell 4
    go_upto_region 21 with(fail)
    go_cut [9,89]from 9 to 127(fun iv tv wx=>iv= .int .i64 (j:Int)∧tv= .bool (has&&(k==2||k==7||k==8))∧W1=wx)
    case first=>
     clear HX HI H0 H2 H3 WE Xo HA iK bD Au TY KX
     cases has with
     |false=>(go_wp2;go_meet;case rel=>exact⟨rfl,rfl,rfl⟩)
     |true=>
      by_cases k2:k=2
      ·(subst k2;go_wp2;go_meet;case rel=>exact⟨rfl,rfl,rfl⟩)
      by_cases k7:k=7
      ·(subst k7;go_wp2;go_meet;case rel=>exact⟨rfl,rfl,rfl⟩)
      by_cases k8:k=8
      ·(subst k8;go_wp2;go_meet;case rel=>exact⟨rfl,rfl,rfl⟩)
      have q2:(k==2)=false:=by simpa using k2
      have q7:(k==7)=false:=by simpa using k7
      have q8:(k==8)=false:=by simpa using k8
      clear k2 k7 k8
      go_wp2
      go_meet
      case rel=>exact⟨rfl,by simp [q2,q7,q8],rfl⟩
    case rest=>
    obtain⟨rfl,rfl,rfl⟩:=hcut
    obtain⟨qB,hqB⟩:∃z,z=(has&&(k==2||k==7||k==8)):=⟨_,rfl⟩
    rw [←hqB]at WE Xo⊢
    clear hqB
    go_upto_if 89 with(fail)
    go_cut [9]from 9 to 127(fun iv wx=>iv= .int .i64 (j:Int)∧Hid (∃z0 z1 z2 z3 z4 z5 j0 j1 j2 j3 j4 j5 u0 u1 u2 u3,dP w6 no gb k b2 s2 m2 h2 xB iA f0 f1 [] [] z0 z1 z2 z3 z4 z5 j0 j1 j2 j3 j4 j5 u0 u1 u2 u3 wx))
    case first=>
     cases qB with
     |false=>
      have ex:xB=xA:=WE.out rfl
      go_wp2
      go_meet
      case rel=>exact⟨rfl,by rw [ex];exact⟨_,_,_,_,_,_,_,_,_,_,_,_,_,_,_,_,HA.out⟩⟩
     |true=>
      have ex:xB=X.bare x:=Zh.out.trans (if_pos (Xo.out rfl))
      have OQ:=Lib.hid (HX.out (Xo.out rfl))
      clear HX HI H0 H2 H3 iK bD Au
      have c5:=l9.out.cell 5;have c6:=l9.out.cell 6;have c7:=l9.out.cell 7;have c8:=l9.out.cell 8;have c9:=l9.out.cell 9;have c10:=l9.out.cell 10
      have y0:=HA.out.lt
      go_upto_region 23 with(first|(go_at_call 24;refine(OQ.out _ zQ.out).mono ?_;intro e Zi hx;obtain⟨t0,t1,t2,t3,t4,t5,rfl,hz3,pX⟩:=hx.six (N:=w6.heap.size) HA.out.bC.size;have wM:=Lib.hid (HA.out.keep pX);have FX:=Lib.hid hz3;clear hx hz3 pX)|(refine aT rfl 62 _ _ rfl gb 5 [t0,t1,t2,t3,t4,t5] rfl rfl 102 _ #[.int .i64 k, .int .i64 b2, .bool s2, .string m2, .bool h2,t0,t1,t2,t3,t4,t5,j0,j1,j2,j3,j4,j5,u0,u1,u2,u3] wM.out.blk (by kernel_rfl) (show 5+6≤21 by decide) (dA.ones FX.out) rfl ?_))
      go_meet
      case rel=>exact⟨rfl,by rw [ex];exact⟨_,_,_,_,_,_,_,_,_,_,_,_,_,_,_,_,wM.out.rM FX.out⟩⟩
    case rest=>
    clear c0 cl c4 HA zQ l9 WE Xo
    obtain⟨rfl,hA⟩:=hcut
    obtain⟨z0,z1,z2,z3,z4,z5,j0,j1,j2,j3,j4,j5,u0,u1,u2,u3,hA⟩:=hA.out
    obtain⟨W2,rfl⟩:∃W,W=wc:=⟨_,rfl⟩
    have HA:=Lib.hid hA
    clear hA
    have zQ:Hid (Below w.heap.size w W2):=Below.bC PD.out (Nat.le_refl _) (by have h1:=iM.out.size;have h2:=wS.out;omega:w.heap.size≤gb) HA.out.bC
    have l9:Hid (ak W2 gs 102 #[.int .i64 k, .int .i64 b, .bool s, .string nm, .bool has,x0,x1,x2,x3,x4,x5,i0,i1,i2,i3,i4,i5, .slice a0 l0.length n0, .slice a1 l1.length n1, .slice a2 l2.length n2, .slice a3 l3.length n3]):=(HA.out.bC.block gs HG.out.lt (by intro e;injection e with e;omega)).trans HG.out
    have c0:=l9.out.cell 0;have cl:=l9.out.lt
    go_upto_region 23 with(fail)
    go_cut [9,111]from 9 to 127(fun iv tv wx=>iv= .int .i64 (j:Int)∧tv= .bool (k==5||k==6||k==7||k==11)∧W2=wx)
    case first=>
     clear HX HI H0 H2 H3 HA iK bD Au TY KX
     by_cases k5:k=5
     ·(subst k5;go_wp2;go_meet;case rel=>exact⟨rfl,rfl,rfl⟩)
     by_cases k6:k=6
     ·(subst k6;go_wp2;go_meet;case rel=>exact⟨rfl,rfl,rfl⟩)
     by_cases k7:k=7
     ·(subst k7;go_wp2;go_meet;case rel=>exact⟨rfl,rfl,rfl⟩)
     by_cases k11:k=11
     ·(subst k11;go_wp2;go_meet;case rel=>exact⟨rfl,rfl,rfl⟩)
     have q5:(k==5)=false:=by simpa using k5
     have q6:(k==6)=false:=by simpa using k6
     have q7:(k==7)=false:=by simpa using k7
     have q11:(k==11)=false:=by simpa using k11
     clear k5 k6 k7 k11
     go_wp2
     go_meet
     case rel=>exact⟨rfl,by simp [q5,q6,q7,q11],rfl⟩
    case rest=>
    obtain⟨rfl,rfl,rfl⟩:=hcut
    have jR:Hid ((k==5||k==6||k==7||k==11)=false→f2=[]):=fun hq=>HE2.out.trans (if_neg (fun h=>by rcases h with h|h|h|h<;>(subst h;exact absurd hq (by decide))))
    have PG:Hid ((k==5||k==6||k==7||k==11)=true→k=5∨k=6∨k=7∨k=11):=fun hq=>by simpa [or_assoc]using hq
    obtain⟨qC,hqC⟩:∃z,z=(k==5||k==6||k==7||k==11):=⟨_,rfl⟩
    rw [←hqC]at jR PG⊢
    clear hqC
    go_upto_if 111 with(fail)
    go_cut [9]from 9 to 127(fun iv wx=>iv= .int .i64 (j:Int)∧Hid (∃z0 z1 z2 z3 z4 z5 j0 j1 j2 j3 j4 j5 u0 u1 u2 u3,dP w6 no gb k b2 s2 m2 h2 xB iA f0 f1 f2 [] z0 z1 z2 z3 z4 z5 j0 j1 j2 j3 j4 j5 u0 u1 u2 u3 wx))
    case first=>
     cases qC with
     |false=>
      have ef:f2=[]:=jR.out rfl
      go_wp2
      go_meet
      case rel=>exact⟨rfl,by rw [ef];exact⟨_,_,_,_,_,_,_,_,_,_,_,_,_,_,_,_,HA.out⟩⟩
     |true=>
      have ef:f2=S.bI l2:=HE2.out.trans (if_pos (PG.out rfl))
      have OQ:=Lib.hid (H2.out (PG.out rfl))
      clear HX HI H0 H2 H3 iK bD Au
      have c19:=l9.out.cell 19;have y0:=HA.out.lt
      go_upto_region 25 with(first|(go_at_call 25;refine(OQ.out _ zQ.out).mono ?_;rintro e wa⟨ax,cx,rfl,hsx,hba⟩;have HC:=Lib.hid (HA.out.keep hba);have HN:=Lib.hid hsx;clear hsx hba;have y1:=HC.out.blk.cell 19;have y2:=HC.out.blk.frozen 19;have y3:=HC.out.lt;have y4:=HC.out.blk.lt))
      go_meet
      case rel=>exact⟨rfl,by rw [ef];exact⟨_,_,_,_,_,_,_,_,_,_,_,_,_,_,_,_,HC.out.set2 (HN.out.move fun q hq _=>⟨.inr (Nat.le_trans HA.out.bC.size hq),rfl⟩)⟩⟩
    case rest=>
    clear c0 cl HA zQ l9 jR PG
    obtain⟨rfl,hA⟩:=hcut
    obtain⟨z0,z1,z2,z3,z4,z5,j0,j1,j2,j3,j4,j5,u0,u1,u2,u3,hA⟩:=hA.out
    obtain⟨W3,rfl⟩:∃W,W=wc:=⟨_,rfl⟩
    have HA:=Lib.hid hA
    clear hA
    have zQ:Hid (Below w.heap.size w W3):=Below.bC PD.out (Nat.le_refl _) (by have h1:=iM.out.size;have h2:=wS.out;omega:w.heap.size≤gb) HA.out.bC
    have l9:Hid (ak W3 gs 102 #[.int .i64 k, .int .i64 b, .bool s, .string nm, .bool has,x0,x1,x2,x3,x4,x5,i0,i1,i2,i3,i4,i5, .slice a0 l0.length n0, .slice a1 l1.length n1, .slice a2 l2.length n2, .slice a3 l3.length n3]):=(HA.out.bC.block gs HG.out.lt (by intro e;injection e with e;omega)).trans HG.out
    have c0:=l9.out.cell 0;have cl:=l9.out.lt
    have jR:Hid ((k==5)=false→f3=[]):=fun hq=>WB.out.trans (if_neg (fun h=>by subst h;exact absurd hq (by decide)))
    have PG:Hid ((k==5)=true→k=5):=fun hq=>by simpa using hq
    go_upto_if 118 with(fail)
    obtain⟨qD,hqD⟩:∃z,z=(k==5):=⟨_,rfl⟩
    rw [←hqD]at jR PG⊢
    clear hqD
    go_cut [9]from 9 to 127(fun iv wx=>iv= .int .i64 (j:Int)∧Hid (∃z0 z1 z2 z3 z4 z5 j0 j1 j2 j3 j4 j5 u0 u1 u2 u3,dP w6 no gb k b2 s2 m2 h2 xB iA f0 f1 f2 f3 z0 z1 z2 z3 z4 z5 j0 j1 j2 j3 j4 j5 u0 u1 u2 u3 wx))
    case first=>
     cases qD with
     |false=>
      have ef:f3=[]:=jR.out rfl
      go_wp2
      go_meet
      case rel=>exact⟨rfl,by rw [ef];exact⟨_,_,_,_,_,_,_,_,_,_,_,_,_,_,_,_,HA.out⟩⟩
     |true=>
      have ef:f3=S.bI l3:=WB.out.trans (if_pos (PG.out rfl))
      have OQ:=Lib.hid (H3.out (PG.out rfl))
      clear HX HI H0 H2 H3 iK bD Au
      have c20:=l9.out.cell 20;have y0:=HA.out.lt
      go_upto_region 27 with(first|(go_at_call 25;refine(OQ.out _ zQ.out).mono ?_;rintro e wa⟨ax,cx,rfl,hsx,hba⟩;have HC:=Lib.hid (HA.out.keep hba);have HN:=Lib.hid hsx;clear hsx hba;have y1:=HC.out.blk.cell 20;have y2:=HC.out.blk.frozen 20;have y3:=HC.out.lt;have y4:=HC.out.blk.lt))
      go_meet
      case rel=>exact⟨rfl,by rw [ef];exact⟨_,_,_,_,_,_,_,_,_,_,_,_,_,_,_,_,HC.out.aaC (HN.out.move fun q hq _=>⟨.inr (Nat.le_trans HA.out.bC.size hq),rfl⟩)⟩⟩
    case rest=>
    clear c0 cl HA zQ l9 jR PG HX HI H0 H2 H3 HE2 WB Zh TY KX bD Au
    obtain⟨rfl,hA⟩:=hcut
    obtain⟨z0,z1,z2,z3,z4,z5,j0,j1,j2,j3,j4,j5,u0,u1,u2,u3,hA⟩:=hA.out
    obtain⟨W4,rfl⟩:∃W,W=wc:=⟨_,rfl⟩
    have HA:=Lib.hid hA
    clear hA
    have zQ:Hid (Below w.heap.size w W4):=Below.bC PD.out (Nat.le_refl _) (by have h1:=iM.out.size;have h2:=wS.out;omega:w.heap.size≤gb) HA.out.bC
    have l9:Hid (ak W4 gs 102 #[.int .i64 k, .int .i64 b, .bool s, .string nm, .bool has,x0,x1,x2,x3,x4,x5,i0,i1,i2,i3,i4,i5, .slice a0 l0.length n0, .slice a1 l1.length n1, .slice a2 l2.length n2, .slice a3 l3.length n3]):=(HA.out.bC.block gs HG.out.lt (by intro e;injection e with e;omega)).trans HG.out
    have c0:=l9.out.cell 0;have cl:=l9.out.lt
    clear c0 cl
    have HW4:Hid (Below wr.heap.size wr W4):=Below.bC iK.out.1 (Nat.le_refl _) (by have h1:=wS.out;omega:wr.heap.size≤gb) HA.out.bC
    have HY4:Hid (fV W4 (fun q=>wr.heap.size≤q) (.mk k b2 s2 m2 h2 xB iA f0 f1 f2 f3) [.int .i64 k, .int .i64 b2, .bool s2, .string m2, .bool h2,z0,z1,z2,z3,z4,z5,j0,j1,j2,j3,j4,j5,u0,u1,u2,u3]):=HA.out.sin (fun q hq=>by rcases hq with hq|hq;exact hq.elim;exact Nat.le_trans iK.out.1.size hq)
    have gl:=HA.out.blk.lt
    clear iK HG l9
    go_wp2_with(first|(refine wpList_load_row rfl 102 _ rfl gb rfl 102 #[.int .i64 k, .int .i64 b2, .bool s2, .string m2, .bool h2,z0,z1,z2,z3,z4,z5,j0,j1,j2,j3,j4,j5,u0,u1,u2,u3] (0,0) _ HA.out.blk Try.underlying102 rfl (by kernel_rfl) ?_)|(obtain⟨lg,hof,hnx⟩:=BsL.app iM.out Hy.out HW4.out HY4.out (Ext.alloc (Below.refl _ _) (.cells #[.int .i64 k, .int .i64 b2, .bool s2, .string m2, .bool h2,z0,z1,z2,z3,z4,z5,j0,j1,j2,j3,j4,j5,u0,u1,u2,u3] 102));rw [KY.out]at hof hnx;refine aS rfl _ _ 38 102 21 288 (.agg zS) rfl Try.underlying38 (by kernel_rfl) rfl (by decide) (by decide) w.heap.size (.slice ra j rc) j (flat lg j) (W4).heap.size [.int .i64 k, .int .i64 b2, .bool s2, .string m2, .bool h2,z0,z1,z2,z3,z4,z5,j0,j1,j2,j3,j4,j5,u0,u1,u2,u3] rfl rfl hof rfl (ak.at0 (ak.new _ _ _)) (oG.one (show LS _ _ _ _ from HY4.out)) (by omega) (by have h1:=iM.out.size;have h2:=HW4.out.size;simp;omega) ?_;intro a9 c9 w9 jm eG dF;have pY:=Lib.hid (hnx a9 c9 w9 jm eG dF);clear hof hnx jm eG dF))
    go_roundw
    case rel=>exact⟨j+1,a9,c9,by omega,by go_num,rfl,by rw [kZ.out,wU.out];exact pY.out⟩
    case measure=>simp [intOf];omega
  ·obtain rfl:j=L:=by omega
   have RZ:Hid (S.bI l=AC):=by show _=_;rw [Ar.out];congr 1;rw [JM.out,List.take_length]
   go_wp2
   go_ret
   rw [RZ.out]
   exact⟨ra,rc,by rw [KY.out];rfl,aQ.oU (Hy.out.row oG (fun q hq=>hq)),iM.out⟩
end Go.Proofs.Ythdckndjggljpaa
