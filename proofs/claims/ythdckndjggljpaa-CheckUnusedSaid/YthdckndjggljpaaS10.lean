/- Proofs of this claim, part 10. No condition. -/
import Derived.Deep.CutBlock
import Derived.Deep.DeepCutAuto
import Derived.StillTailTactics
import Derived.Test.YthdckndjggljpaaS9
namespace Go.Proofs.Ythdckndjggljpaa
set_option linter.unusedVariables false
set_option linter.unusedSimpArgs false
set_option maxRecDepth 100000
set_option maxHeartbeats 64000000
open Go.RowKit
def y9(g:Nat)(y:X):Prop:=∀(w:World)(q off N:Nat)(d:Int),XP w g y q off→bT w g N→N≤20000→0≤d→d≤101→Calls Try.prog 37 #[P g, .pointer (some ⟨q,off,none⟩), .int .i64 d] w (bU g w (X.cnt y N d))
theorem Fh(g N q off:Nat)(d k n b:Int)(s:Bool)(nm:ByteArray)(ks:List X)(a:Option Addr)(L c:Nat)(w:World)(hX:XQ w g k n b s nm ks a L c q off)(hN:N≤20000)(hB:bT w g N)
 (h:(20000≤N∨100<d)∨k<1∨26<k):
 Calls Try.prog 37 #[P g, .pointer (some ⟨q,off,none⟩), .int .i64 d] w (bU g w (if 20000≤N∨100<d then 4 else 1,N+1)):=by
 have HX:=Lib.hid hX
 have HB0:=Lib.hid hB
 have wW:Hid (∀w1:World,bT w1 g N→Calls Try.prog 36 #[P g, .int .i64 d] w1 (bU g w1 (if 20000≤N∨100<d then 4 else 0,N+1))):=fun w1 hb=>kN w1 g N d hN hb
 clear hX hB hN
 by_cases hm:20000≤N∨100<d
 ·rw [if_pos hm]at wW⊢
  clear h hm
  go_enter Try.func37,Try.ntmps37
  go_wp2_with(first|(go_at_call 36;refine(wW.out _ HB0.out).mono ?_;rintro e w1⟨rfl,hc1,hb1⟩;have iE:=Lib.hid hc1;have HB1:=Lib.hid hb1;have nI:=Lib.hid (HX.out.bC hc1);obtain⟨_,_,_,_,_,c0,c1,c2,c3,c4,c5⟩:=nI.out;clear hc1 hb1))
  go_ret
  exact⟨rfl,iE.out,HB1.out⟩
 ·have hk:=h.resolve_left hm
  have HKI:Hid (∀w1:World,Calls Try.prog 54 #[.int .i64 k] w1 fun e w'=>e= .returned (.tuple #[.int .i64 0, .int .i64 1])∧w1=w'):=fun w1=>by
   have:=Gf k w1;rw [if_pos hk,if_pos hk]at this;exact this
  rw [if_neg hm]at wW⊢
  clear h hm hk
  go_enter Try.func37,Try.ntmps37
  go_wp2_with(first|(go_at_call 36;refine(wW.out _ HB0.out).mono ?_;rintro e w1⟨rfl,hc1,hb1⟩;have iE:=Lib.hid hc1;have HB1:=Lib.hid hb1;have nI:=Lib.hid (HX.out.bC hc1);obtain⟨_,_,_,_,_,c0,c1,c2,c3,c4,c5⟩:=nI.out;clear hc1 hb1)|(go_at_call 54;refine(HKI.out _).mono ?_;rintro e w'⟨rfl,rfl⟩))
  go_ret
  exact⟨rfl,iE.out,HB1.out⟩
theorem Fb(g N q off:Nat)(d k n b:Int)(s:Bool)(nm:ByteArray)(ks:List X)(a:Option Addr)(L c:Nat)(w:World)(hX:XQ w g k n b s nm ks a L c q off)(hN:N≤20000)(hd:0≤d)(hB:bT w g N)
 (hm:¬(20000≤N∨100<d))(hk:1≤k∧k≤26)(hn:W.U n)(hs:nm.size≤maxLen)(IH:∀y∈ks,y9 g y):
 Calls Try.prog 37 #[P g, .pointer (some ⟨q,off,none⟩), .int .i64 d] w (bU g w (X.cnt (.mk k n b s nm ks) N d)):=by
 have HX:=Lib.hid hX
 have HB0:=Lib.hid hB
 have wW:Hid (∀w1:World,bT w1 g N→Calls Try.prog 36 #[P g, .int .i64 d] w1 (bU g w1 (0,N+1))):=fun w1 hb=>by
  have:=kN w1 g N d hN hb;rw [if_neg hm]at this;exact this
 obtain⟨M,hM⟩:∃M,M=X.aX k:=⟨_,rfl⟩
 have HKI:Hid (∀w1:World,Calls Try.prog 54 #[.int .i64 k] w1 fun e w'=>e= .returned (.tuple #[.int .i64 M, .int .i64 0])∧w1=w'):=fun w1=>by
  have:=Gf k w1;rw [if_neg (by omega),if_neg (by omega),←hM]at this;exact this
 obtain⟨R,hR⟩:∃R,R=X.cnt (.mk k n b s nm ks) N d:=⟨_,rfl⟩
 rw [←hR]
 have HR:=Lib.hid hR
 have HM:=Lib.hid hM
 have HIH:=Lib.hid IH
 have HK:=Lib.hid hk
 have ZU:=Lib.hid hm
 have hd1:d≤100:=by omega
 have uU:Hid (N+1≤20000):=by show N+1≤20000;omega
 have HN:=Lib.hid hn
 have HS:=Lib.hid hs
 have OL:(L:Int)≤9223372036854775807:=by have h0:=hX.le;have h1:=hX.lm;unfold maxLen at h1;omega
 clear hX hB hN hm hk hM hR IH hn hs
 go_enter Try.func37,Try.ntmps37
 go_upto_block 0 with(first|(go_at_call 36;refine(wW.out _ HB0.out).mono ?_;rintro e w1⟨rfl,hc1,hb1⟩;have iE:=Lib.hid hc1;have HB1:=Lib.hid hb1;have nI:=Lib.hid (HX.out.bC hc1);obtain⟨_,_,_,_,_,c0,c1,c2,c3,c4,c5⟩:=nI.out;clear hc1 hb1)|(go_at_call 54;refine(HKI.out _).mono ?_;rintro e w'⟨rfl,rfl⟩))
 go_cut [](fun wx=>Hid (aH g w wx∧bT wx g (N+1))∧Hid (X.Dy k n b s nm.data.toList))
 case first=>
  by_cases h1:k=1
  ·subst h1
   obtain⟨lb,ls,le,hl⟩:∃lb ls le,W.lit n (!s)=(lb,ls,le):=⟨_,_,_,rfl⟩
   have tu:Hid (∀w1:World,Calls Try.prog 55 #[.int .u64 n, .bool (!s)] w1 (mJ lb ls le w1)):=fun w1=>by
    have:=lU n (!s) HN.out w1;rw [hl]at this;exact this
   have Hl:=Lib.hid hl
   clear hl
   go_upto_region 9 with(fail)
   clear c0 c1 c2 c3 c4 c5
   apply Iy.wp_region 16 [15] (fun n=>if n=0 then[]else[14]) (Ix.Rb) (fun m vs wi=>(Hid (aH g w1 wi∧bT wi g (N+1))∧Hid (w1.heap.size≤wi.heap.size))∧(match m with|0=>True|_+1=>∀t,vs 14=Value.pointer (some ⟨t,0,none⟩)→ak wi t 33 #[.int .i64 lb, .bool ls])) (Ix.vk [(Ix.aA _),(Ix.aA _),(Ix.aA _),(Ix.aA _),(Ix.aA _),(Ix.aA _),(Ix.aA _),(Ix.aA _),(Ix.aA _),(Ix.aA (.bool (!s))),(Ix.aA (.tuple #[W.ty lb ls, .int .i64 le])),(Ix.aA _),(Ix.aA _),(Ix.aA _),(Ix.dU (fun v w'=>∃t,v=Value.pointer (some ⟨t,0,none⟩)∧w1.heap.size≤t∧∃(a0:Int)(a1:Bool),ak w' t 33 #[.int .i64 a0, .bool a1]) (fun v w1 w2 h hb=>by obtain⟨t,e,hl,a0,a1,hi⟩:=h;exact⟨t,e,hl,a0,a1,hi.keep hb⟩)),(Ix.mY (fun _=>True))]) (fun k=>k==14) (by kernel_rfl) (by kernel_rfl) (by kernel_rfl) (by kernel_rfl) (by kernel_rfl) (fun n vs vs' w hk h=>by cases n with|zero=>exact h|succ n=>exact⟨h.1,fun g e=>h.2 g ((hk 14 (by simp)).trans e)⟩) (fun _=>Below.refl _ _) (fun n vs _ _ h hb=>⟨⟨⟨h.1.1.out.1.trans (aH.of_below hb),h.1.1.out.2.keep hb⟩,Nat.le_trans h.1.2.out hb.size⟩,by cases n with|zero=>trivial|succ n=>exact fun g e=>(h.2 g e).keep hb⟩) (Ix.aN _) (fun j v w hj hv=>by simp only [beq_iff_eq]at hj;subst hj;obtain⟨t,e,_,a0,a1,hg⟩:=hv;exact⟨t,e,hg.lt⟩) (fun vs=>⟨⟨⟨aH.of_below (Ext.drew (Below.refl _ _)),HB1.out⟩,Nat.le_refl _⟩,trivial⟩)
   case step=>
    refine aZ 15 0 1 [] (fun _ _ wi HB=>?_)<|aZ 14 1 2 [(0,some 38)] (fun _ _ wi HB=>?_)<|aZ 13 2 3 [(1,some 39)] (fun _ _ wi HB=>?_)<|aZ 12 3 4 [(2,some 40)] (fun _ _ wi HB=>?_)<|aZ 11 4 5 [] (fun _ _ wi HB=>?_)<|aZ 10 5 6 [(4,some 42)] (fun _ _ wi HB=>?_)<|aZ 9 6 7 [(5,some 43)] (fun _ _ wi HB=>?_)<|aZ 8 7 8 [(6,some 44)] (fun _ _ wi HB=>?_)<|aZ 7 8 9 [(7,some 45)] (fun _ _ wi HB=>?_)<|aZ 6 9 10 [(8,some 46)] (fun _ _ wi HB=>?_)<|aZ 5 10 11 [(3,some 41),(9,some 47)] (fun _ _ wi HB=>?_)<|aZ 4 11 12 [(10,some 48)] (fun _ _ wi HB=>?_)<|aZ 3 12 13 [(11,some 37)] (fun _ _ wi HB=>?_)<|aZ 2 13 14 [(11,some 37)] (fun _ _ wi HB=>?_)<|aZ 1 14 15 [] (fun _ _ wi HB=>?_)<|Aw 0 15 16 0 [(12,some 49),(14,some 10)] (fun ji wi HB=>?_)<|Iy.aC
    iterate 3(·((repeat(refine aB ?_;rintro _ rfl));refine aF ?_;(try simp only [aj]);refine Iy.ah rfl rfl fun K hK=>?_;(try simp only [aj]at hK);go_wp2_with(first|fail);exact hK _ _ (Below.refl _ _) rfl))
    (·(obtain⟨⟨HM,HZ⟩,_⟩:=HB;obtain⟨_,_,_,_,_,c0,c1,c2,c3,c4,c5⟩:=nI.out.bC HM.out.1;(repeat(refine aB ?_;rintro _ rfl));refine aF ?_;(try simp only [aj]);refine Iy.ah rfl rfl fun K hK=>?_;(try simp only [aj]at hK);go_wp2_with(first|fail);exact hK _ _ (Below.refl _ _) rfl))
    iterate 4(·((repeat(refine aB ?_;rintro _ rfl));refine aF ?_;(try simp only [aj]);refine Iy.ah rfl rfl fun K hK=>?_;(try simp only [aj]at hK);go_wp2_with(first|fail);exact hK _ _ (Below.refl _ _) rfl))
    iterate 2(·(obtain⟨⟨HM,HZ⟩,_⟩:=HB;obtain⟨_,_,_,_,_,c0,c1,c2,c3,c4,c5⟩:=nI.out.bC HM.out.1;(repeat(refine aB ?_;rintro _ rfl));refine aF ?_;(try simp only [aj]);refine Iy.ah rfl rfl fun K hK=>?_;(try simp only [aj]at hK);go_wp2_with(first|fail);exact hK _ _ (Below.refl _ _) rfl))
    (·(obtain⟨⟨HM,HZ⟩,_⟩:=HB;obtain⟨_,_,_,_,_,c0,c1,c2,c3,c4,c5⟩:=nI.out.bC HM.out.1;(repeat(refine aB ?_;rintro _ rfl));refine aF ?_;(try simp only [aj]);refine Iy.ah rfl rfl fun K hK=>?_;(try simp only [aj]at hK);go_wp2_with(first|(go_at_call 55;refine(tu.out _).mono ?_;rintro e wa⟨rfl,hba⟩));exact hK _ _ hba rfl))
    iterate 3(·((repeat(refine aB ?_;rintro _ rfl));refine aF ?_;(try simp only [aj]);refine Iy.ah rfl rfl fun K hK=>?_;(try simp only [aj]at hK);go_wp2_with(first|fail);exact hK _ _ (Below.refl _ _) rfl))
    (·(obtain⟨⟨HM,HZ⟩,_⟩:=HB;obtain⟨_,_,_,_,_,c0,c1,c2,c3,c4,c5⟩:=nI.out.bC HM.out.1;(repeat(refine aB ?_;rintro _ rfl));refine aF ?_;(try simp only [aj]);refine Iy.iV rfl fun K hK=>?_;(try simp only [aj]at hK);go_wp2_with(first|fail);exact hK _ (Ext.alloc (Below.refl _ _) _) ⟨_,rfl,HZ.out,0,false,ak.new _ _ _⟩))
    (·(obtain⟨⟨HM,HZ⟩,_⟩:=HB;refine aB ?_;rintro _⟨rfl,aaB⟩;refine aB ?_;rintro _⟨⟨t,rfl,htl,a0,a1,hgb⟩,VK⟩;refine aF ?_;have i0:=hgb.cell 0;have i1:=hgb.cell 1;have z0:=hgb.frozen 0;have z1:=hgb.frozen 1;(try simp only [aj]);refine Iy.ah rfl rfl fun K hK=>?_;(try simp only [aj]at hK);go_wp2_with(first|fail);exact hK undef _ ⟨⟨⟨⟨(HM.out.1.LD htl _).LD htl _,(HM.out.2.far (by show g≠t;have:=HB1.out.lt;omega) _).far (by show g≠t;have:=HB1.out.lt;omega) _⟩,(by show w1.heap.size≤_;simpa using HZ.out)⟩,TJ VK (qo hgb lb ls)⟩,Iy.dG (by repeat(first|exact True.intro|refine And.intro (fun _ h=>h) ?_|refine And.intro (fun hne=>absurd rfl hne) ?_|refine And.intro (fun _ h=>yZ hgb lb ls h) ?_))⟩ trivial))
   intro lM wf HF hdf
   refine au 15 0 1 ?_;rintro _ _ rfl;refine au 14 1 2 ?_;rintro _ _ rfl;refine au 13 2 3 ?_;rintro _ _ rfl;refine au 12 3 4 ?_;rintro _ _ rfl;refine au 11 4 5 ?_;rintro _ _ rfl;refine au 10 5 6 ?_;rintro _ _ rfl;refine au 9 6 7 ?_;rintro _ _ rfl;refine au 8 7 8 ?_;rintro _ _ rfl;refine au 7 8 9 ?_;rintro _ _ rfl;refine au 6 9 10 ?_;rintro _ _ rfl;refine au 5 10 11 ?_;rintro _ _ rfl;refine au 4 11 12 ?_;rintro _ _ rfl;refine au 3 12 13 ?_;rintro _ _ rfl;refine au 2 13 14 ?_;rintro _ _ rfl;refine au 1 14 15 ?_;rintro _ VK⟨t,rfl,htl,a0,a1,hgb⟩;refine au 0 15 16 ?_;rintro _ _ _
   refine Ix.aI ?_
   obtain⟨⟨HM,HZ⟩,hgf⟩:=HF;have HG:=Lib.hid (hgf t VK);clear hgf hgb
   (try simp only [Act.put,List.setIfInBounds_toArray,List.set_cons_zero,List.set_cons_succ,List.drop_succ_cons,List.drop_zero])
   go_wp2_with(first|fail)
   all_goals(first|refine Ix.only ?_|(refine Ix.dK fun tz=>?_))
   have HA:=Lib.hid (iE.out.trans HM.out.1)
   have HZ2:=Lib.hid HM.out.2
   have hx:=nI.out.bC HM.out.1
   obtain⟨_,_,_,_,_,c0,c1,c2,c3,c4,c5⟩:=hx
   have i0:=HG.out.cell 0
   have i1:=HG.out.cell 1
   have HBAD:¬(lb=b∧ls=s∧le=0)→Hid (R=(9,N+1)):=fun hne=>by
    show R=_
    rw [HR.out,X.jP,if_neg ZU.out]
    show(if X.own 1 n b s nm.data.toList ks.length=0 then _ else(X.own 1 n b s nm.data.toList ks.length,N+1))=_
    rw [X.Rl (by rw [Hl.out];intro h;injection h with h1 h2;injection h2 with h2 h3;exact hne ⟨h1,h2,h3⟩),if_neg (by decide)]
   clear HM HZ hdf
   by_cases hle:le=0
   ·subst hle
    by_cases hls:lb=b∧ls=s
    ·obtain⟨rfl,rfl⟩:=hls
     have Rx:Hid (X.Dy 1 n lb ls nm.data.toList):=⟨⟨by decide,by decide⟩,fun _=>Hl.out,fun h=>absurd h (by decide),fun h=>absurd h (by decide)⟩
     clear HBAD
     go_upto_region 10 with(fail)
     go_quiet(fail)
     go_wp2_with(fail)
     go_meet
     case rel=>exact⟨⟨HA.out.trans (aH.of_below (below_drewN (Below.refl _ _) _)),HZ2.out.keep (below_drewN (Below.refl _ _) _)⟩,Rx⟩
    ·have pG:=HBAD (fun h=>hls ⟨h.1,h.2.1⟩)
     clear HBAD
     by_cases hb:lb=b
     ·subst hb
      have hs2:¬ls=s:=fun e=>hls ⟨rfl,e⟩
      clear hls
      go_upto_region 10 with(fail)
      go_quiet(fail)
      go_wp2_with(fail)
      go_ret
      exact⟨by rw [pG.out];rfl,HA.out.trans (aH.of_below (below_drewN (Below.refl _ _) _)),by rw [pG.out];exact HZ2.out.keep (below_drewN (Below.refl _ _) _)⟩
     ·clear hls
      go_upto_region 10 with(fail)
      go_quiet(fail)
      go_wp2_with(fail)
      go_ret
      exact⟨by rw [pG.out];rfl,HA.out.trans (aH.of_below (below_drewN (Below.refl _ _) _)),by rw [pG.out];exact HZ2.out.keep (below_drewN (Below.refl _ _) _)⟩
   ·have pG:=HBAD (fun h=>hle h.2.2)
    have hlb:(le !=0)=true:=by simpa using hle
    clear HBAD hle
    go_upto_region 10 with(fail)
    go_quiet(fail)
    go_wp2_with(fail)
    go_ret
    exact⟨by rw [pG.out];rfl,HA.out.trans (aH.of_below (below_drewN (Below.refl _ _) _)),by rw [pG.out];exact HZ2.out.keep (below_drewN (Below.refl _ _) _)⟩
  have q1:(k==1)=false:=by simpa using h1
  by_cases VL:k=2∨k=3∨k=4
  ·cases hv:Tk.oC nm.data.toList with
   |false=>
    have JR:Hid (∀w1:World,Calls Try.prog 7 #[.string nm] w1 fun e w'=>e= .returned (.bool false)∧Below w1.heap.size w1 w'):=fun w1=>by
     have:=iR nm HS.out w1;rw [hv]at this;exact this
    have pG:Hid (R=(7,N+1)):=by
     show R=_
     rw [HR.out,X.jP,if_neg ZU.out]
     show(if X.own k n b s nm.data.toList ks.length=0 then _ else(X.own k n b s nm.data.toList ks.length,N+1))=_
     rw [X.Vf VL hv,if_neg (by decide)]
    clear hv h1
    rcases VL with rfl|rfl|rfl<;>
    ·go_wp2_with(first|(go_at_call 7;refine(JR.out _).mono ?_;rintro e w2⟨rfl,hb2⟩;have HB2:=Lib.hid hb2;clear hb2))
     go_ret
     exact⟨by rw [pG.out];rfl,iE.out.trans (aH.of_below HB2.out),by rw [pG.out];exact HB1.out.keep HB2.out⟩
   |true=>
    have JR:Hid (∀w1:World,Calls Try.prog 7 #[.string nm] w1 fun e w'=>e= .returned (.bool true)∧Below w1.heap.size w1 w'):=fun w1=>by
     have:=iR nm HS.out w1;rw [hv]at this;exact this
    have Rx:Hid (X.Dy k n b s nm.data.toList):=⟨HK.out,fun h=>absurd h h1,fun _=>hv,fun h=>by omega⟩
    clear hv h1
    rcases VL with rfl|rfl|rfl<;>
    ·go_wp2_with(first|(go_at_call 7;refine(JR.out _).mono ?_;rintro e w2⟨rfl,hb2⟩;have HB2:=Lib.hid hb2;clear hb2))
     go_meet
     case rel=>exact⟨⟨iE.out.trans (aH.of_below HB2.out),HB1.out.keep HB2.out⟩,Rx⟩
  have q2:(k==2)=false:=by simp;omega
  have q3:(k==3)=false:=by simp;omega
  have q4:(k==4)=false:=by simp;omega
  by_cases h5:k=5
  ·subst h5
   cases hv:W.okB b with
   |false=>
    have vg:Hid (∀w1:World,Calls Try.prog 38 #[W.ty b s] w1 fun e w'=>e= .returned (.bool false)∧Below w1.heap.size w1 w'):=fun w1=>by
     have:=qI b s w1;rw [hv]at this;exact this
    have pG:Hid (R=(9,N+1)):=by
     show R=_
     rw [HR.out,X.jP,if_neg ZU.out]
     show(if X.own 5 n b s nm.data.toList ks.length=0 then _ else(X.own 5 n b s nm.data.toList ks.length,N+1))=_
     rw [X.Oe hv,if_neg (by decide)]
    clear hv h1 VL
    go_wp2_with(first|(go_at_call 38;refine(vg.out _).mono ?_;rintro e w2⟨rfl,hb2⟩;have HB2:=Lib.hid hb2;clear hb2))
    go_ret
    exact⟨by rw [pG.out];rfl,iE.out.trans (aH.of_below HB2.out),by rw [pG.out];exact HB1.out.keep HB2.out⟩
   |true=>
    have vg:Hid (∀w1:World,Calls Try.prog 38 #[W.ty b s] w1 fun e w'=>e= .returned (.bool true)∧Below w1.heap.size w1 w'):=fun w1=>by
     have:=qI b s w1;rw [hv]at this;exact this
    have Rx:Hid (X.Dy 5 n b s nm.data.toList):=⟨HK.out,fun h=>absurd h (by decide),fun h=>absurd h (by decide),fun _=>hv⟩
    clear hv h1 VL
    go_wp2_with(first|(go_at_call 38;refine(vg.out _).mono ?_;rintro e w2⟨rfl,hb2⟩;have HB2:=Lib.hid hb2;clear hb2))
    go_meet
    case rel=>exact⟨⟨iE.out.trans (aH.of_below HB2.out),HB1.out.keep HB2.out⟩,Rx⟩
  have q5:(k==5)=false:=by simpa using h5
  have Rx:Hid (X.Dy k n b s nm.data.toList):=⟨HK.out,fun h=>absurd h h1,fun h=>absurd h VL,fun h=>absurd h h5⟩
  clear h1 VL h5
  go_wp2_with(fail)
  go_meet
  case rel=>exact⟨⟨iE.out,HB1.out⟩,Rx⟩
 case rest=>
  obtain⟨HW,Rx⟩:=hcut
  have HX2:=Lib.hid (HX.out.bC HW.out.1)
  clear c0 c1 c2 c3 c4 c5
  obtain⟨_,_,hlen,_,_,c0,c1,c2,c3,c4,c5⟩:=HX2.out
  have hcnt:=X.KP (ks:=ks) ZU.out Rx.out
  rw [←HM.out,←HR.out,hlen]at hcnt
  have jR:=Lib.hid hcnt
  have Gn:=Lib.hid hlen
  have hMV:M=-1∨0≤M:=by
   rw [HM.out];unfold X.aX;have:=HK.out;rw [if_neg (by omega)]
   split
   ·omega
   split
   ·omega
   split<;>omega
  clear hcnt hlen
  go_upto_region 20 with(fail)
  go_cut [101](fun v wx=>∃z:Bool,wc=wx∧v= .bool z∧Hid (R=if z then(5,N+1)else X.cnts ks (N+1) (d+1)))
  case first=>
   rcases hMV with h1|h0
   ·by_cases h8:8<L
    ·have pG:Hid (R=(5,N+1)):=by show R=_;rw [jR.out,if_pos (.inl ⟨h1,h8⟩)]
     have q8:decide ((L:Int)>8)=true:=by simp;omega
     subst h1
     clear h8
     go_wp2_with(fail)
     go_meet
     case rel=>exact⟨true,rfl,rfl,pG⟩
    ·have pG:Hid (R=X.cnts ks (N+1) (d+1)):=by show R=_;rw [jR.out,if_neg (by omega)]
     have q8:decide ((L:Int)>8)=false:=by simp;omega
     subst h1
     clear h8
     go_wp2_with(fail)
     go_meet
     case rel=>exact⟨false,rfl,rfl,pG⟩
   ·have q0:decide (M<0)=false:=by simp;omega
    have q1:decide (M≥0)=true:=by simp;omega
    by_cases hl:(L:Int)=M
    ·have pG:Hid (R=X.cnts ks (N+1) (d+1)):=by show R=_;rw [jR.out,if_neg (by omega)]
     have q8:((L:Int)!=M)=false:=by simpa using hl
     clear hl h0
     go_wp2_with(fail)
     go_meet
     case rel=>exact⟨false,rfl,rfl,pG⟩
    ·have pG:Hid (R=(5,N+1)):=by show R=_;rw [jR.out,if_pos (.inr ⟨h0,fun e=>hl e.symm⟩)]
     have q8:((L:Int)!=M)=true:=by simpa using hl
     clear hl h0
     go_wp2_with(fail)
     go_meet
     case rel=>exact⟨true,rfl,rfl,pG⟩
  case rest=>
   obtain⟨z,rfl,rfl,HRC⟩:=hcut
   clear hMV
   cases z with
   |true=>
    go_wp2_with(fail)
    go_ret
    exact⟨by rw [HRC.out];rfl,HW.out.1,by rw [HRC.out];exact HW.out.2⟩
   |false=>
    have pG:Hid (R=X.cnts ks (N+1) (d+1)):=HRC
    go_upto_region 23 with(fail)
    go_loopw [107](fun i wr=>∃j:Nat,j≤L∧i= .int .i64 (j:Int)∧Hid (aH g w wr∧(X.cnts (ks.take j) (N+1) (d+1)).1=0∧bT wr g (X.cnts (ks.take j) (N+1) (d+1)).2))(fun i wr=>L-(intOf i).toNat)
    case atStart=>exact⟨0,Nat.zero_le _,rfl,HW.out.1,rfl,HW.out.2⟩
    case round=>
     obtain⟨j,hj,rfl,hrest⟩:=hrel
     have Yu:=Lib.hid (HX.out.bC hrest.out.1)
     clear c0 c1 c2 c3 c4 c5
     obtain⟨_,_,_,_,_,c0,c1,c2,c3,c4,c5⟩:=Yu.out
     by_cases hlt:j<L
     ·obtain⟨y,hy⟩:∃y,ks[j]?=some y:=⟨_,List.getElem?_eq_getElem (by rw [Gn.out];exact hlt)⟩
      obtain⟨gk,ok,rfl,hky⟩:=Yu.out.kid hy
      obtain⟨N',hN'⟩:∃N',N'=(X.cnts (ks.take j) (N+1) (d+1)).2:=⟨_,rfl⟩
      have hr2:=hrest.out
      rw [←hN']at hr2
      have jY:N'≤20000:=by rw [hN'];exact X.lX _ _ uU.out hrest.out.2.1
      have kU:Hid (Calls Try.prog 37 #[P g, .pointer (some ⟨gk,ok+j*6,none⟩), .int .i64 (d+1)] wr (bU g wr (X.cnt y N' (d+1)))):=HIH.out y (List.mem_of_getElem? hy) wr gk (ok+j*6) N' (d+1) hky hr2.2.2 jY (by omega) (by omega)
      obtain⟨re,rn,hrr⟩:∃re rn,X.cnt y N' (d+1)=(re,rn):=⟨_,_,rfl⟩
      rw [hrr]at kU
      have HRR:=Lib.hid hrr
      have HY:=Lib.hid hy
      have HN':=Lib.hid hN'
      have iD:=Lib.hid hlt
      clear hrr hy hN' hr2 jY hky
      by_cases h0:re=0
      ·subst h0
       go_wp2_with(first|(go_at_call 37;refine kU.out.mono ?_;rintro e w4⟨rfl,hc4,hb4⟩;have oD:=Lib.hid hc4;have HB4:=Lib.hid hb4;clear hc4 hb4))
       go_round
       case rel=>
        have hst:=X.jI (x:= .mk k n b s nm ks) HY.out (N+1) (d+1) hrest.out.2.1
        have hst:X.cnts (ks.take (j+1)) (N+1) (d+1)=(0,rn):=by rw [←HRR.out,HN'.out];exact hst
        exact⟨j+1,iD.out,by go_num,hrest.out.1.trans oD.out,by rw [hst],by rw [hst];exact HB4.out⟩
       case measure=>have:=iD.out;simp [intOf];omega
      ·have tC:Hid (R=(re,rn)):=by
        show R=_
        rw [pG.out,←HRR.out,HN'.out]
        exact X.qA (x:= .mk k n b s nm ks) HY.out (N+1) (d+1) hrest.out.2.1 (by show(X.cnt y (X.cnts (ks.take j) (N+1) (d+1)).2 (d+1)).1≠0;rw [←HN'.out,HRR.out];exact h0)
       have q0:(re !=0)=true:=by simpa using h0
       clear h0
       go_wp2_with(first|(go_at_call 37;refine kU.out.mono ?_;rintro e w4⟨rfl,hc4,hb4⟩;have oD:=Lib.hid hc4;have HB4:=Lib.hid hb4;clear hc4 hb4))
       go_ret
       exact⟨by rw [tC.out];rfl,hrest.out.1.trans oD.out,by rw [tC.out];exact HB4.out⟩
     ·obtain rfl:j=L:=by omega
      have HE:Hid (R=(0,(X.cnts (ks.take j) (N+1) (d+1)).2)):=by
       show R=_
       rw [pG.out,Prod.ext_iff]
       have:ks.take j=ks:=List.take_of_length_le (by rw [Gn.out];exact Nat.le_refl _)
       have h0:=hrest.out.2.1
       rw [this]at h0⊢
       exact⟨h0,rfl⟩
      clear hlt
      go_wp2
      go_ret
      exact⟨by rw [HE.out];rfl,hrest.out.1,by rw [HE.out];exact hrest.out.2.2⟩
theorem vT(g:Nat)(x:X):X.Wf x→y9 g x:=by
 induction x using X.up with
 |_ x ih=>
  intro hw w q off N d hX hB hN hd hd1
  obtain⟨k,n,b,s,nm,ks⟩:=x
  obtain⟨a,c,hQ⟩:=hX.open
  by_cases hf:(20000≤N∨100<d)∨k<1∨26<k
  ·have:=Fh g N q off d k n b s nm ks a _ c w hQ hN hB hf
   have e:X.cnt (.mk k n b s nm ks) N d=(if 20000≤N∨100<d then 4 else 1,N+1):=by
    rw [X.jP]
    by_cases hm:20000≤N∨100<d
    ·rw [if_pos hm,if_pos hm]
    ·rw [if_neg hm,if_neg hm]
     show(if X.own k n b s nm.data.toList ks.length=0 then _ else(X.own k n b s nm.data.toList ks.length,N+1))=_
     rw [X.QM (hf.resolve_left hm),if_neg (by decide)]
   rw [e];exact this
  ·exact Fb g N q off d k n b s nm ks a _ c w hQ hN hd hB (fun h=>hf (.inl h)) (by omega) hw.num hw.nms (fun y hy=>ih y hy (hw.kid hy))
end Go.Proofs.Ythdckndjggljpaa
