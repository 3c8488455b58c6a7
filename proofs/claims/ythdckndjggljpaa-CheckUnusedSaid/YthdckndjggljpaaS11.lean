/- Proofs of this claim, part 11. No condition. -/
import Derived.Test.YthdckndjggljpaaS10
namespace Go.Proofs.Ythdckndjggljpaa
set_option linter.unusedVariables false
set_option linter.unusedSimpArgs false
set_option maxRecDepth 100000
set_option maxHeartbeats 64000000
open Go.RowKit
theorem Bd(g q off N:Nat)(has:Bool)(x:X)(d:Int)(w:World)(hI:y9 g x)(hX:XP w g x q off)(hB:bT w g N)(hN:N≤20000)(hd:0≤d)(hd1:d≤101):
 Calls Try.prog 80 #[P g, .bool has, .pointer (some ⟨q,off,none⟩), .int .i64 d] w (bU g w (if has=true then X.cnt x N d else(0,N))):=by
 cases has with
 |false=>
  rw [if_neg (by decide)]
  have HB:=Lib.hid hB
  clear hB hX hI
  go_enter Try.func80,Try.ntmps80
  go_wp2
  go_ret
  exact⟨rfl,aH.of_below (Below.refl _ _),HB.out⟩
 |true=>
  rw [if_pos rfl]
  have HI:Hid (Calls Try.prog 37 #[P g, .pointer (some ⟨q,off,none⟩), .int .i64 d] w (bU g w (X.cnt x N d))):=hI w q off N d hX hB hN hd hd1
  clear hB hX hI
  obtain⟨r,hr⟩:∃r,r=X.cnt x N d:=⟨_,rfl⟩
  rw [←hr]at HI⊢
  clear hr
  go_enter Try.func80,Try.ntmps80
  go_wp2_with(first|(go_at_call 37;refine HI.out.mono ?_;rintro e w4⟨rfl,hc4,hb4⟩;have oD:=Lib.hid hc4;have HB4:=Lib.hid hb4;clear hc4 hb4))
  go_ret
  exact⟨rfl,oD.out,HB4.out⟩
theorem rW(b:Int)(s:Bool)(nm:ByteArray)(hs:nm.size≤maxLen)(w:World):Calls Try.prog 35 #[W.ty b s, .string nm] w fun e w'=>e= .returned (.int .i64 (tyName b nm.data.toList))∧Below w.heap.size w w':=by
 obtain⟨R,hR⟩:∃R,R=tyName b nm.data.toList:=⟨_,rfl⟩
 rw [←hR]
 unfold tyName at hR
 have HT:=Lib.hid (Ty.new w rfl b s 33)
 cases hv:W.okB b with
 |false=>
  have HV:Hid (∀w1:World,Calls Try.prog 38 #[W.ty b s] w1 fun e w'=>e= .returned (.bool false)∧Below w1.heap.size w1 w'):=fun w1=>by have:=qI b s w1;rw [hv]at this;exact this
  rw [if_pos hv]at hR
  subst hR
  clear hv
  obtain⟨t0,t1,t2,t3⟩:=HT.out
  go_enter Try.func35,Try.ntmps35
  go_wp2_with(first|(go_at_call 38;refine(HV.out _).mono ?_;rintro e w2⟨rfl,hb2⟩;have HB2:=Lib.hid hb2;clear hb2))
  go_ret
  exact⟨rfl,Ext.trans (Ext.alloc (Below.refl _ _) _) HB2.out⟩
 |true=>
  have HV:Hid (∀w1:World,Calls Try.prog 38 #[W.ty b s] w1 fun e w'=>e= .returned (.bool true)∧Below w1.heap.size w1 w'):=fun w1=>by have:=qI b s w1;rw [hv]at this;exact this
  rw [if_neg (by rw [hv];decide)]at hR
  have HN:Hid (∀w1:World,Calls Try.prog 7 #[.string nm] w1 fun e w'=>e= .returned (.bool (Tk.oC nm.data.toList))∧Below w1.heap.size w1 w'):=fun w1=>iR nm hs w1
  clear hv
  obtain⟨t0,t1,t2,t3⟩:=HT.out
  cases hn:Tk.oC nm.data.toList with
  |false=>
   rw [if_pos hn]at hR
   rw [hn]at HN
   subst hR
   clear hn
   go_enter Try.func35,Try.ntmps35
   go_wp2_with(first|(go_at_call 38;refine(HV.out _).mono ?_;rintro e w2⟨rfl,hb2⟩;have HB2:=Lib.hid hb2;clear hb2)|(go_at_call 7;refine(HN.out _).mono ?_;rintro e w3⟨rfl,hb3⟩;have HB3:=Lib.hid hb3;clear hb3))
   go_ret
   exact⟨rfl,Ext.trans (Ext.trans (Ext.alloc (Below.refl _ _) _) HB2.out) HB3.out⟩
  |true=>
   rw [if_neg (by rw [hn];decide)]at hR
   rw [hn]at HN
   subst hR
   clear hn
   go_enter Try.func35,Try.ntmps35
   go_wp2_with(first|(go_at_call 38;refine(HV.out _).mono ?_;rintro e w2⟨rfl,hb2⟩;have HB2:=Lib.hid hb2;clear hb2)|(go_at_call 7;refine(HN.out _).mono ?_;rintro e w3⟨rfl,hb3⟩;have HB3:=Lib.hid hb3;clear hb3))
   go_ret
   exact⟨rfl,Ext.trans (Ext.trans (Ext.alloc (Below.refl _ _) _) HB2.out) HB3.out⟩
structure Part where
 f:Nat
 cap:Array Value
 A:Nat→Int×Nat
def fK:List Part→Nat→Int×Nat
 |[],N=>(0,N)
 |t::ts,N=>thn (t.A N) (fK ts)
theorem IK(ts us:List Part):∀N,(fK ts N).1≠0→fK (ts++us) N=fK ts N:=by
 induction ts with
 |nil=>intro N h;exact absurd rfl h
 |cons t ts ih=>
  intro N h
  unfold fK at h
  rw [List.cons_append];unfold fK
  unfold thn at h⊢
  split
  ·rename_i h1;rw [if_pos h1]at h;exact ih _ h
  ·rfl
theorem Hq(ts:List Part)(t:Part):∀N,(fK ts N).1=0→fK (ts++[t]) N=t.A (fK ts N).2:=by
 induction ts with
 |nil=>
  intro N _
  show thn (t.A N) (fK [])=t.A N
  unfold thn
  split
  ·rename_i h;show((0:Int),(t.A N).2)=t.A N;rw [Prod.ext_iff];exact⟨h.symm,rfl⟩
  ·rfl
 |cons u ts ih=>
  intro N h
  unfold fK at h
  rw [List.cons_append];unfold fK
  unfold thn at h⊢
  split at h
  ·rename_i h1;rw [if_pos h1,if_pos h1];exact ih _ h
  ·rename_i h1;exact absurd h h1
theorem xZ{L:List Part}{i:Nat}{t:Part}(h:L[i]?=some t)(N:Nat)(h0:(fK (L.take i) N).1=0):fK (L.take (i+1)) N=t.A (fK (L.take i) N).2:=by
 rw [List.take_add_one,h];exact Hq _ _ _ h0
theorem Na{L:List Part}{i:Nat}{t:Part}(h:L[i]?=some t)(N:Nat)(h0:(fK (L.take i) N).1=0)(hb:(t.A (fK (L.take i) N).2).1≠0):fK L N=t.A (fK (L.take i) N).2:=by
 rw [←xZ h N h0]at hb⊢
 have:=IK (L.take (i+1)) (L.drop (i+1)) N hb
 rw [List.take_append_drop]at this
 exact this
theorem BO{L:List Part}(hL:∀t∈L,∀N,N≤20000→eu (t.A N)):∀N,N≤20000→eu (fK L N):=by
 induction L with
 |nil=>intro N hN _;exact hN
 |cons t L ih=>intro N hN;exact fB (hL t (List.mem_cons_self ..) N hN) (ih (fun u hu=>hL u (List.mem_cons_of_mem _ hu)))
theorem lC(g B:Nat)(hgB:B≠g)(S:World→Prop)(hS:∀w w',S w→aH g w w'→S w')(L:List Part)(OL:L.length≤4)(hA:∀t∈L,∀N,N≤20000→eu (t.A N))
 (hC:∀t∈L,∀(w:World)(N:Nat),S w→bT w g N→N≤20000→Calls Try.prog t.f t.cap w (bU g w (t.A N)))
 (hE:∀t∈L,∀w,(callFunc t.f t.cap).run Try.prog w= .ok (.enter t.f t.cap) w)(w:World)(N:Nat)(hw:S w)(hB:bT w g N)(hN:N≤20000)(hc:∀(i:Nat)(t:Part),L[i]?=some t→w.cell? ⟨B,i,none⟩=some (.func (.func t.f) #[] t.cap)):
 Calls Try.prog 82 #[.slice (some ⟨B,0,none⟩) L.length L.length] w (bU g w (fK L N)):=by
 obtain⟨n,hn⟩:∃n,L.length=n:=⟨_,rfl⟩
 rw [hn]
 obtain⟨R,hR⟩:∃R,R=fK L N:=⟨_,rfl⟩
 rw [←hR]
 have HR:=Lib.hid hR
 have HS:=Lib.hid hS;have HA:=Lib.hid hA;have HC:=Lib.hid hC;have HW:=Lib.hid hw;have HB:=Lib.hid hB;have HN:=Lib.hid hN;have HCC:=Lib.hid hc
 have Gn:=Lib.hid hn
 have hn4:n≤4:=by omega
 have Ve:=Lib.hid hgB
 have WL:=Lib.hid hE
 clear hE hR hS hA hC hw hB hN hc hn OL hgB
 go_enter Try.func82,Try.ntmps82
 go_upto_region 2 with(fail)
 go_loopw [8](fun i wr=>∃j:Nat,j≤n∧i= .int .i64 (j:Int)∧Hid (aH g w wr∧(fK (L.take j) N).1=0∧bT wr g (fK (L.take j) N).2))(fun i wr=>n-(intOf i).toNat)
 case atStart=>exact⟨0,Nat.zero_le _,rfl,aH.of_below (Below.refl _ _),rfl,HB.out⟩
 case round=>
  obtain⟨j,hj,rfl,hrest⟩:=hrel
  by_cases hlt:j<n
  ·obtain⟨t,ht⟩:∃t,L[j]?=some t:=⟨_,List.getElem?_eq_getElem (by rw [Gn.out];exact hlt)⟩
   obtain⟨N',hN'⟩:∃N',N'=(fK (L.take j) N).2:=⟨_,rfl⟩
   have hr2:=hrest.out
   rw [←hN']at hr2
   have jY:N'≤20000:=by
    rw [hN']
    exact BO (fun u hu=>HA.out u (List.mem_of_mem_take hu)) N HN.out hrest.out.2.1
   have htm:=List.mem_of_getElem? ht
   have ZH:Hid (Calls Try.prog t.f t.cap wr (bU g wr (t.A N'))):=HC.out t htm wr N' (HS.out _ _ HW.out hrest.out.1) hr2.2.2 jY
   have cf:=hrest.out.1.cell Ve.out (HCC.out j t ht)
   obtain⟨re,rn,hrr⟩:∃re rn,t.A N'=(re,rn):=⟨_,_,rfl⟩
   rw [hrr]at ZH
   have HRR:=Lib.hid hrr
   have HT:=Lib.hid ht
   have HN':=Lib.hid hN'
   have iD:=Lib.hid hlt
   clear hrr ht hN' hr2 jY htm
   have he:∀w,(callFunc t.f t.cap).run Try.prog w= .ok (.enter t.f t.cap) w:=WL.out t (List.mem_of_getElem? HT.out)
   obtain⟨k,hk⟩:∃k,k=t.f:=⟨_,rfl⟩
   obtain⟨cp,hcp⟩:∃cp,cp=t.cap:=⟨_,rfl⟩
   rw [←hk,←hcp]at cf ZH he
   clear hk hcp
   by_cases h0:re=0
   ·subst h0
    go_wp2_with(first|(refine ZH.out.mono ?_;rintro e w4⟨rfl,hc4,hb4⟩;have oD:=Lib.hid hc4;have HB4:=Lib.hid hb4;clear hc4 hb4))
    go_round
    case rel=>
     have hst:=xZ HT.out N hrest.out.2.1
     rw [←HN'.out,HRR.out]at hst
     exact⟨j+1,iD.out,by go_num,hrest.out.1.trans oD.out,by rw [hst],by rw [hst];exact HB4.out⟩
    case measure=>have:=iD.out;simp [intOf];omega
   ·have pG:Hid (R=(re,rn)):=by
     show R=_
     rw [HR.out,←HRR.out,HN'.out]
     exact Na HT.out N hrest.out.2.1 (by rw [←HN'.out,HRR.out];exact h0)
    have q0:(re !=0)=true:=by simpa using h0
    clear h0
    go_wp2_with(first|(refine ZH.out.mono ?_;rintro e w4⟨rfl,hc4,hb4⟩;have oD:=Lib.hid hc4;have HB4:=Lib.hid hb4;clear hc4 hb4))
    go_ret
    exact⟨by rw [pG.out];rfl,hrest.out.1.trans oD.out,by rw [pG.out];exact HB4.out⟩
  ·obtain rfl:j=n:=by omega
   have HE:Hid (R=(0,(fK (L.take j) N).2)):=by
    show R=_
    rw [HR.out,Prod.ext_iff]
    have:L.take j=L:=List.take_of_length_le (by rw [Gn.out];exact Nat.le_refl _)
    have h0:=hrest.out.2.1
    rw [this]at h0⊢
    exact⟨h0,rfl⟩
   clear hlt
   go_wp2
   go_ret
   exact⟨by rw [HE.out];rfl,hrest.out.1,by rw [HE.out];exact hrest.out.2.2⟩
end Go.Proofs.Ythdckndjggljpaa
