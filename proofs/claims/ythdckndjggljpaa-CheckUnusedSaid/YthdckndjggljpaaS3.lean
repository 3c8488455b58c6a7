/- Proofs of this claim, part 3. No condition. -/
import Derived.Lib.ConvBytes
import Derived.Test.YthdckndjggljpaaS1
import Derived.Test.YthdckndjggljpaaS2
namespace Go.Proofs.Ythdckndjggljpaa
set_option linter.unusedVariables false
set_option linter.unusedSimpArgs false
set_option maxRecDepth 100000
set_option maxHeartbeats 64000000
open Go.RowKit
def Tk.ZC(l:List UInt8):Bool:=Tk.isWord l||(W.nt l).2.2
def Tk.Il(l:List UInt8):Bool:=l.all (fun c=>Tk.JU c.toNat)
def Tk.oC(l:List UInt8):Bool:=decide (1≤l.length∧l.length≤32)&&Tk.JJ (l.headD 0).toNat&&!Tk.ZC l&&Tk.Il l
theorem Ci(s:ByteArray)(hs:s.size≤maxLen)(w:World):Calls Try.prog 16 #[.string s] w fun e w'=>e= .returned (.bool (Tk.ZC s.data.toList))∧Below w.heap.size w w':=
 Cj s _ _ _ w (fun w1=>named_ok s hs w1)
theorem Tk.byte_at(s:ByteArray)(k:Nat)(h:k<s.size):s[k]=s.data.toList[k]'(by rw [←Tk.tZ];exact h):=rfl
theorem Tk.Gu(l:List UInt8)(h:∀j,(hj:j<l.length)→Tk.JU (l[j]).toNat=true):Tk.Il l=true:=by
 unfold Tk.Il
 rw [List.all_eq_true]
 intro x hx
 obtain⟨j,hj,rfl⟩:=List.mem_iff_getElem.1 hx
 exact h j hj
theorem Tk.F5(l:List UInt8)(j:Nat)(hj:j<l.length)(h:Tk.JU (l[j]).toNat=false):Tk.Il l=false:=by
 unfold Tk.Il
 rw [Bool.eq_false_iff,Ne,List.all_eq_true]
 intro h2
 rw [h2 _ (List.getElem_mem hj)]at h;cases h
theorem iR(s:ByteArray)(hs:s.size≤maxLen)(w:World):Calls Try.prog 7 #[.string s] w fun e w'=>e= .returned (.bool (Tk.oC s.data.toList))∧Below w.heap.size w w':=by
 obtain⟨V,hV⟩:∃V,V=Tk.oC s.data.toList:=⟨_,rfl⟩
 rw [←hV]
 have HV:=Lib.hid hV
 clear hV
 have HS:=Lib.hid hs
 have hsz:=Tk.tZ s
 have HZ:=Lib.hid hsz
 clear hsz
 by_cases h1:s.size<1
 ·have d1:decide ((s.size:Int)<1)=true:=by simp;omega
  have HF:Hid (V=false):=by show V=false;rw [HV.out];unfold Tk.oC;rw [decide_eq_false (by have:=HZ.out;omega)];rfl
  clear hs
  go_enter Try.func7,Try.ntmps7
  go_wp2
  go_ret
  exact⟨by rw [HF.out];rfl,Below.refl _ _⟩
 by_cases h2:32<s.size
 ·have d1:decide ((s.size:Int)<1)=false:=by simp;omega
  have d2:decide ((s.size:Int)>32)=true:=by simp;omega
  have HF:Hid (V=false):=by show V=false;rw [HV.out];unfold Tk.oC;rw [decide_eq_false (by have:=HZ.out;omega)];rfl
  clear hs
  go_enter Try.func7,Try.ntmps7
  go_wp2
  go_ret
  exact⟨by rw [HF.out];rfl,Below.refl _ _⟩
 have d1:decide ((s.size:Int)<1)=false:=by simp;omega
 have d2:decide ((s.size:Int)>32)=false:=by simp;omega
 have h0:0<s.size:=by omega
 have oL:=Lib.hid h1
 have Yl:=Lib.hid h2
 clear h1 h2 hs
 obtain⟨b0,hb0⟩:∃b,b=Tk.JJ (s[0]).toNat:=⟨_,rfl⟩
 have HB0:=Lib.hid hb0
 have KX:Hid (∀w1:World,Calls Try.prog 15 #[.int .u8 (s[0].toNat:Int)] w1 fun e w'=>e= .returned (.bool b0)∧w1=w'):=by rw [hb0];exact fun w1=>xJ _ w1
 clear hb0
 have HHD:Hid ((s.data.toList.headD 0)=s[0]):=by
  have:0<s.data.toList.length:=by rw [←HZ.out];exact h0
  obtain⟨⟨l⟩⟩:=s
  cases l with
  |nil=>exact absurd this (Nat.lt_irrefl _)
  |cons a l=>rfl
 obtain⟨r,hr⟩:∃b,b=Tk.ZC s.data.toList:=⟨_,rfl⟩
 have HR:Hid (∀w1:World,Calls Try.prog 16 #[.string s] w1 fun e w'=>e= .returned (.bool r)∧Below w1.heap.size w1 w'):=by rw [hr];exact fun w1=>Ci s HS.out w1
 have HRr:=Lib.hid hr
 clear hr
 rcases b0 with _|_
 ·have HF:Hid (V=false):=by show V=false;rw [HV.out];unfold Tk.oC;rw [HHD.out,←HB0.out];simp
  go_enter Try.func7,Try.ntmps7
  go_wp2_with(first|(go_at_call 15;refine(KX.out _).mono ?_;rintro e w'⟨rfl,rfl⟩))
  go_ret
  exact⟨by rw [HF.out];rfl,Below.refl _ _⟩
 rcases r with _|_
 rotate_left
 ·have HF:Hid (V=false):=by show V=false;rw [HV.out];unfold Tk.oC;rw [←HRr.out];simp
  go_enter Try.func7,Try.ntmps7
  go_wp2_with(first|(go_at_call 15;refine(KX.out _).mono ?_;rintro e w'⟨rfl,rfl⟩)|(go_at_call 16;refine(HR.out _).mono ?_;rintro e w1⟨rfl,hb1⟩;have HB1:=Lib.hid hb1;clear hb1))
  go_ret
  exact⟨by rw [HF.out];rfl,HB1.out⟩
 have HT:Hid (V=Tk.Il s.data.toList):=by
  show V=_;rw [HV.out];unfold Tk.oC;rw [HHD.out,←HB0.out,←HRr.out]
  rw [decide_eq_true (by have:=HZ.out;have:=oL.out;have:=Yl.out;omega)];rfl
 have HLW:Hid (∀(j:Nat)(h:j<s.size),s[j]=s.data.toList[j]'(by rw [←Tk.tZ];exact h)):=fun j h=>Tk.byte_at s j h
 go_enter Try.func7,Try.ntmps7
 go_upto_region 4 with(first|(go_at_call 15;refine(KX.out _).mono ?_;rintro e w'⟨rfl,rfl⟩)|(go_at_call 16;refine(HR.out _).mono ?_;rintro e w1⟨rfl,hb1⟩;have HB1:=Lib.hid hb1;clear hb1))
 have h32:s.size≤32:=(by have:=Yl.out;omega)
 go_loopw [24](fun i wr=>Below w.heap.size w wr∧∃k:Nat,k≤s.size∧i= .int .i64 (k:Int)∧Hid (∀j,(h:j<s.size)→j<k→Tk.JU (s[j]).toNat=true))(fun i wr=>s.size-(intOf i).toNat)
 case atStart=>exact⟨HB1.out,0,Nat.zero_le _,rfl,fun j h hj=>absurd hj (Nat.not_lt_zero _)⟩
 case round=>
  obtain⟨hbel,k,hk,rfl,hall⟩:=hrel
  have RH:=Lib.hid hbel
  clear hbel
  by_cases hlt:k<s.size
  ·obtain⟨u,hu⟩:∃u,u=Tk.JJ (s[k]).toNat:=⟨_,rfl⟩
   obtain⟨v,hv⟩:∃v,v=Tk.sK (s[k]).toNat:=⟨_,rfl⟩
   have OX:Hid (∀w1:World,Calls Try.prog 15 #[.int .u8 ((s[k]).toNat:Int)] w1 fun e w'=>e= .returned (.bool u)∧w1=w'):=by rw [hu];exact fun w1=>xJ _ w1
   have HDK:Hid (∀w1:World,Calls Try.prog 17 #[.int .u8 ((s[k]).toNat:Int)] w1 fun e w'=>e= .returned (.bool v)∧w1=w'):=by rw [hv];exact fun w1=>digit_ok _ w1
   have HUV:Hid (Tk.JU (s[k]).toNat=(u||v)):=by show _=_;rw [hu,hv];rfl
   have iD:=Lib.hid hlt
   clear hu hv
   have go_on:(u||v)=true→Hid (∀j,(h:j<s.size)→j<k+1→Tk.JU (s[j]).toNat=true):=fun huv j h hj=>by
    rcases Nat.lt_or_ge j k with h5|h5
    ·exact hall.out j h h5
    ·obtain rfl:j=k:=by omega
     rw [HUV.out];exact huv
   rcases u with _|_
   ·rcases v with _|_
    ·have HF:Hid (V=false):=by
      show V=false
      rw [HT.out]
      have hkl:k<s.data.toList.length:=by rw [←HZ.out];exact iD.out
      refine Tk.F5 _ k hkl ?_
      have:=HUV.out
      rw [HLW.out k iD.out]at this
      exact this
     clear go_on
     go_wp2_with(first|(go_at_call 15;refine(OX.out _).mono ?_;rintro e w'⟨rfl,rfl⟩)|(go_at_call 17;refine(HDK.out _).mono ?_;rintro e w'⟨rfl,rfl⟩))
     go_ret
     exact⟨by rw [HF.out];rfl,RH.out⟩
    ·have HG:=go_on rfl
     clear go_on
     go_wp2_with(first|(go_at_call 15;refine(OX.out _).mono ?_;rintro e w'⟨rfl,rfl⟩)|(go_at_call 17;refine(HDK.out _).mono ?_;rintro e w'⟨rfl,rfl⟩))
     go_round
     case rel=>exact⟨RH.out,k+1,iD.out,by go_num,HG⟩
     case measure=>have:=iD.out;simp [intOf];omega
   ·have HG:=go_on rfl
    clear go_on
    go_wp2_with(first|(go_at_call 15;refine(OX.out _).mono ?_;rintro e w'⟨rfl,rfl⟩)|(go_at_call 17;refine(HDK.out _).mono ?_;rintro e w'⟨rfl,rfl⟩))
    go_round
    case rel=>exact⟨RH.out,k+1,iD.out,by go_num,HG⟩
    case measure=>have:=iD.out;simp [intOf];omega
  ·obtain rfl:k=s.size:=by omega
   have HF:Hid (V=true):=by
    show V=true
    rw [HT.out]
    refine Tk.Gu _ (fun j hj=>?_)
    have h2:j<s.size:=by rw [HZ.out];exact hj
    have:=hall.out j h2 h2
    rw [HLW.out j h2]at this
    exact this
   go_wp2
   go_ret
   exact⟨by rw [HF.out];rfl,RH.out⟩
theorem pW(w:World)(e:TypeId)(s:ByteArray):Below w.heap.size w (Lib.bytesWorld w e s):=
 ⟨rfl,rfl,rfl,by rw [Lib.bytesWorld_size];omega,fun b hb=>Lib.bytesWorld_at_old w e s b hb⟩
theorem O7{P:Program}{ops:Array Oper}{rest:List Oper}{o:Oper}{a:Act}{w:World}{Q:Exit→Act→World→Prop}(hgd:o.guard=none)(src dst e:TypeId)(x:Operand)(ho:o.op= .convert src dst x)(s:ByteArray)(hx:a.eval x= .string s)(u:TypeDesc)
 (hs:P.underlying src=some u)(hd:P.underlying dst=some (.slice e))(he:P.underlying e=some (.int .u8))
 (h:∀(w1:World)(cap:Nat),Below w.heap.size w w1→(∀j,j<s.size→w1.cell? ⟨w.heap.size,j,none⟩=some (.int .u8 (s.data.toList.getD j 0).toNat))→wpList P ops Q rest (a.put o.dst (.slice (some ⟨w.heap.size,0,none⟩) s.size cap)) w1):wpList P ops Q (o::rest) a w:=
 wpList_plain hgd fun _ hK=>by
  unfold Oper.wp execOp
  simp only [ho,hx,Sem.run_bind,Sem.run_pure,Result.andThen_ok,Lib.run_convert_string_bytes w src dst e s hs hd he]
  exact hK _ _ (h _ _ (pW w e s) (fun j hj=>Lib.bytesWorld_cell w e s j hj))
theorem Tk.FZ(l:List UInt8)(k:Nat)(h:k<l.length):l.getD k 0=l[k]:=by rw [List.getD_eq_getElem?_getD,List.getElem?_eq_getElem h];rfl
theorem Tk.Zo(l:List UInt8)(k:Nat)(hk:k<l.length)(h:Tk.JJ (l.getD k 0).toNat=false∧(k=0∨Tk.sK (l.getD k 0).toNat=false)):Tk.oC l=false:=by
 have e:=Tk.FZ l k hk
 rcases h.2 with rfl|h2
 ·unfold Tk.oC
  have:l.headD 0=l.getD 0 0:=by cases l<;>rfl
  rw [this,h.1];simp
 ·unfold Tk.oC
  rw [Tk.F5 l k hk (by rw [←e];unfold Tk.JU;rw [h.1,h2];rfl)];simp
theorem Tk.Yg(l:List UInt8)(h1:1≤l.length)(h2:l.length≤32)(h:∀j,j<l.length→Tk.JJ (l.getD j 0).toNat=true∨(0<j∧Tk.sK (l.getD j 0).toNat=true)):Tk.oC l=!Tk.ZC l:=by
 unfold Tk.oC
 have:l.headD 0=l.getD 0 0:=by cases l<;>rfl
 have h0:Tk.JJ (l.getD 0 0).toNat=true:=by
  rcases h 0 h1 with h|h
  ·exact h
  ·exact absurd h.1 (Nat.lt_irrefl _)
 rw [this,h0,decide_eq_true ⟨h1,h2⟩,Tk.Gu l (fun j hj=>by
  have:=h j hj;rw [Tk.FZ l j hj]at this;unfold Tk.JU
  rcases this with h|h
  ·rw [h];rfl
  ·rw [h.2];exact Bool.or_true _)]
 simp
theorem Tk.X6(l:List UInt8)(h:¬(1≤l.length∧l.length≤32)):Tk.oC l=false:=by
 unfold Tk.oC;rw [decide_eq_false h];rfl
end Go.Proofs.Ythdckndjggljpaa
