/- Proofs of this claim, part 34. No condition. -/
import Derived.Test.YthdckndjggljpaaS33
namespace Go.Proofs.Ythdckndjggljpaa
set_option linter.unusedVariables false
set_option linter.unusedSimpArgs false
set_option maxRecDepth 100000
set_option maxHeartbeats 64000000
open Go.RowKit Go.Maps
namespace Ck
theorem yg(n:Nm):∀(l:List Gl)(k:Nat),((l.zipIdx k).find? (fun g=>g.1.nm.data.toList==n)).map (fun g=>(g.2,g.1))=match idx (fun g:Gl=>g.nm.data.toList) l n with|none=>none|some i=>(l[i]?).map fun g=>(k+i,g)
 |[],k=>rfl
 |x::l,k=>by
  rw [List.zipIdx_cons,List.find?_cons]
  unfold idx
  rw [List.findIdx?_cons]
  cases hx:(x.nm.data.toList==n)with
  |true=>simp
  |false=>
   have ih:=yg n l (k+1)
   simp only [Bool.false_eq_true,if_false]
   rw [ih]
   unfold idx
   cases List.findIdx? (fun g:Gl=>g.nm.data.toList==n) l with
   |none=>rfl
   |some i=>simp [Nat.add_assoc,Nat.add_comm 1 i]
theorem QV(l:List Gl)(n:Nm):sQ l n=match idx (fun g:Gl=>g.nm.data.toList) l n with|none=>none|some i=>(l[i]?).map fun g=>(i,g):=by
 have:=yg n l 0
 simpa [sQ]using this
theorem Ew{α:Type}{nm:α→Nm}{l:List α}{n:Nm}{i:Nat}(h:idx nm l n=some i):i<l.length:=by
 unfold idx at h
 rw [List.findIdx?_eq_some_iff_getElem]at h
 exact h.1
def OT:Option Pl→Value
 |some p=> .tuple #[zM p.b p.s p.loc p.slot p.size, .bool true]
 |none=> .tuple #[zM 0 false false 0 0, .bool false]
end Ck
def Xr(w:World)(R:Option Ck.Pl)(e:Ending)(w':World):Prop:=e= .returned (Ck.OT R)∧Below w.heap.size w w'
theorem QU{w:World}{b n:Nat}{l:List Ck.Loc}{s:ByteArray}(h:SMap FD Ck.uD w b n (Ck.wQ l))(hs:s.size≤maxLen):
 (Instr.lookup 135 (.map (some b)) (.string s) true).run Try.prog w= .ok (.tuple #[match Ck.wQ l s.data.toList with|some x=>zM x.b x.s true x.slot 0|none=>zM 0 false false 0 0, .bool (Ck.wQ l s.data.toList).isSome]) w:=by
 obtain⟨v,ps,hr,hv⟩:=h.look_ok Try.underlying135 (z:=zM 0 false false 0 0) (by kernel_rfl) (LV 0 false false 0 0) hs
 rw [hr]
 cases hx:Ck.wQ l s.data.toList with
 |none=>rw [hx]at hv;rw [FI hv]
 |some x=>rw [hx]at hv;rw [FI (b:=x.b) hv]
theorem look_in{w:World}{b n:Nat}{f:List UInt8→Option Nat}{s:ByteArray}(h:SMap FN (fun i:Nat=> .lit (.int .i64 (i:Int))) w b n f)(hs:s.size≤maxLen):
 (Instr.lookup 69 (.map (some b)) (.string s) true).run Try.prog w= .ok (.tuple #[.int .i64 (((f s.data.toList).getD 0:Nat):Int), .bool (f s.data.toList).isSome]) w:=by
 obtain⟨v,ps,hr,hv⟩:=h.look_ok Try.underlying69 (z:= .int .i64 0) (by kernel_rfl) (plainElem_int Try.underlying3 (by decide)) hs
 rw [hr]
 cases hx:f s.data.toList with
 |none=>rw [hx]at hv;rw [GV hv];rfl
 |some x=>rw [hx]at hv;rw [GV hv];rfl
theorem qj{w:World}{r:Nat}{t:TypeId}{a0 a1 a2 a3 a4:Value}(h:ak w r t #[a0,a1,a2,a3,a4])(x0 x1 x2 x3 x4:Value):
 ak (((((w.setCell ⟨r,0,none⟩ x0).setCell ⟨r,1,none⟩ x1).setCell ⟨r,2,none⟩ x2).setCell ⟨r,3,none⟩ x3).setCell ⟨r,4,none⟩ x4) r t #[x0,x1,x2,x3,x4]:=by
 simpa using((((h.dJ 0 x0).dJ 1 x1).dJ 2 x2).dJ 3 x3).dJ 4 x4
theorem pI{W0 w:World}{B r:Nat}(h:Below B W0 w)(hr:B≤r)(x0 x1 x2 x3 x4:Value):
 Below B W0 (((((w.setCell ⟨r,0,none⟩ x0).setCell ⟨r,1,none⟩ x1).setCell ⟨r,2,none⟩ x2).setCell ⟨r,3,none⟩ x3).setCell ⟨r,4,none⟩ x4):=
 ((((h.setCell hr _).setCell hr _).setCell hr _).setCell hr _).setCell hr _
theorem find_ok(w:World)(B g tb fq fo gb fb:Nat)(e:Ck.Env)(P0:Pg)(v0 v1:Value)(nm:ByteArray)(hs:nm.size≤maxLen)(h:kF w B g tb fq fo e)(ht:Tb w B tb P0 v0 v1 gb fb)(hl:e.lv.length≤1000):
 Calls Try.prog 97 #[P g, .string nm] w (Xr w (Ck.find P0 e nm.data.toList)):=by
 obtain⟨la,lc,ub,sa,sc,bs,h⟩:=h
 obtain⟨R,hR⟩:∃R,R=Ck.find P0 e nm.data.toList:=⟨_,rfl⟩
 rw [←hR]
 obtain⟨n,hn⟩:∃n,n=e.lv.length:=⟨_,rfl⟩
 have hle:n≤lc:=by obtain⟨_,_,e2,h2,h3⟩:=bG h.lv;injection e2 with _ _ e2;omega
 have H:=Lib.hid h
 have HT:=Lib.hid ht
 have HR:=Lib.hid hR
 have HN:=Lib.hid hn
 have HS:=Lib.hid hs
 have HG:Hid (∀w1,Below w.heap.size w w1→w1.cell? ⟨g,1,none⟩=some (.slice la n lc)∧w1.cell? ⟨g,0,none⟩=some (P tb)):=fun w1 hb=>by
  have h0:=(h.keep hb).blk
  exact⟨by rw [h0.cell 1,hn];rfl,h0.cell 0⟩
 rw [←hn]at hl
 have c1:=(HG.out w (Below.refl _ _)).1
 have hgl:=h.blk.lt
 clear h ht hR hn hs
 go_enter Try.func97,Try.ntmps97
 go_wp2
 generalize hw1:World.alloc _ _=w1
 have HB1:Hid (Below w.heap.size w w1∧ak w1 w.heap.size 112 #[.int .i64 0, .bool false, .bool false, .int .i64 0, .int .i64 0]):=by
  subst hw1;exact⟨Ext.alloc (Below.refl _ _) _,ak.new w _ _⟩
 clear hw1 c1
 go_loopw [6](fun i wr=>∃k:Nat,k≤n∧i= .int .i64 ((k:Int)-1)∧Hid (Below w1.heap.size w1 wr)∧Hid (Ck.Gg (e.lv.take k) nm.data.toList=Ck.Gg e.lv nm.data.toList))(fun i wr=>(intOf i+1).toNat)
 case atStart=>exact⟨n,Nat.le_refl _,rfl,Below.refl _ _,by show _=_;rw [HN.out,List.take_length]⟩
 case round=>
  obtain⟨k,hk,rfl,HB,OX⟩:=hrel
  have aG:Hid (Below w.heap.size w wr):=Ext.trans HB1.out.1 HB.out
  have IX:=HB1.out.2.keep HB.out
  have r0:=IX.cell 0;have r1:=IX.cell 1;have r2:=IX.cell 2;have r3:=IX.cell 3;have r4:=IX.cell 4
  have s0:=IX.frozen 0;have s1:=IX.frozen 1;have s2:=IX.frozen 2;have s3:=IX.frozen 3;have s4:=IX.frozen 4
  have hrl:=IX.lt
  have X8:=Lib.hid IX
  clear IX
  by_cases hk1:1≤k
  ·obtain⟨j,rfl⟩:∃j,k=j+1:=⟨k-1,by omega⟩
   have ej:((j+1:Nat):Int)-1=(j:Int):=by omega
   rw [ej]
   obtain⟨lb,rfl⟩:∃lb,la=some ⟨lb,0,none⟩:=by
    rcases H.out.lv.2 with⟨_,h0⟩|⟨g',cap,cur,ev,_⟩
    ·have:=HN.out;omega
    ·injection ev with ev;exact⟨_,ev⟩
   obtain⟨b,hb⟩:∃b,bs[j]?=some b:=⟨_,List.getElem?_eq_getElem (by rw [H.out.len,←HN.out];omega)⟩
   have hc:=((H.out.keep aG.out).lv).cells (g:=lb) rfl j (.map (some b)) (by rw [List.getElem?_map,hb];rfl)
   rw [X.bV,Nat.zero_add]at hc
   have hrun:=QU (((H.out.keep aG.out).maps j b hb).2) HS.out
   have c1:=(HG.out wr aG.out).1
   have kZ:Hid (Ck.Gg (e.lv.take (j+1)) nm.data.toList=(Ck.wQ (e.lv.getD j []) nm.data.toList).or (Ck.Gg (e.lv.take j) nm.data.toList)):=Ck.Nk (by rw [←HN.out];omega) _
   clear hb ej hk1
   cases hx:Ck.wQ (e.lv.getD j []) nm.data.toList with
   |some x=>
    rw [hx]at hrun kZ
    have Td:Hid (R=some ⟨x.b,x.s,true,x.slot,0⟩):=by
     have h1:Ck.Gg e.lv nm.data.toList=some x:=by rw [←OX.out,kZ.out];rfl
     show R=_
     rw [HR.out];unfold Ck.find;rw [Ck.BH,h1]
    clear hx
    go_wp2
    generalize hW:World.alloc _ _=W
    have HW:Hid (ak W w.heap.size 112 #[.int .i64 x.b, .bool x.s, .bool true, .int .i64 (x.slot:Int), .int .i64 0]∧Below w.heap.size w W):=by
     subst hW
     exact⟨(qj X8.out _ _ _ _ _).alloc _,Ext.alloc (pI aG.out (Nat.le_refl _) _ _ _ _ _) _⟩
    clear hW r0 r1 r2 r3 r4 s0 s1 s2 s3 s4
    have q0:=HW.out.1.cell 0;have q1:=HW.out.1.cell 1;have q2:=HW.out.1.cell 2;have q3:=HW.out.1.cell 3;have q4:=HW.out.1.cell 4
    have ql:=HW.out.1.lt
    exact bodyPost_ret (v:= .tuple #[zM x.b x.s true x.slot 0, .bool true]) (by simp [results,Try.results97,go_sem,q0,q1,q2,q3,q4,ql]) rfl ⟨by rw [Td.out];rfl,HW.out.2⟩
   |none=>
    rw [hx]at hrun kZ
    have Td:Hid (Ck.Gg (e.lv.take j) nm.data.toList=Ck.Gg e.lv nm.data.toList):=by
     show _=_
     rw [←OX.out,kZ.out];rfl
    clear hx
    go_wp2
    go_roundw
    case rel=>exact⟨j,by omega,rfl,Ext.alloc HB.out _,Td⟩
    case measure=>simp [intOf]
  ·obtain rfl:k=0:=by omega
   have wW:Hid (e.jO nm.data.toList=none):=by
    show _=_
    rw [Ck.BH,←OX.out,List.take_zero];rfl
   have hti:=HT.out.below (aG.out.mono HT.out.le)
   obtain⟨a0,c0,e0,h01,h02,hga⟩:=hti.pg.1.parts
   have l9:=Lib.hid hga
   subst e0
   have t0:=hti.blk.cell 0
   have t2:=hti.blk.cell 2
   have hbl:=hti.blk.lt
   have hrun:=look_in hti.gm HS.out
   have hg0:=(HG.out wr aG.out).2
   have hgw:=(H.out.keep aG.out).blk.lt
   have WM:=Lib.hid (Ck.QV P0.gs nm.data.toList)
   clear hga hti
   cases hx:Ck.idx (fun g:Gl=>g.nm.data.toList) P0.gs nm.data.toList with
   |none=>
    rw [hx]at hrun WM
    have Td:Hid (R=none):=by
     show R=_
     rw [HR.out];unfold Ck.find;rw [wW.out];show((Ck.sQ P0.gs nm.data.toList).map _)=none;rw [WM.out];rfl
    clear hx
    go_wp2
    generalize hW:World.setCell _ _ _=W
    have HW:Hid (ak W w.heap.size 112 #[.int .i64 0, .bool false, .bool false, .int .i64 0, .int .i64 0]∧Below w.heap.size w W):=by
     subst hW
     exact⟨(qj X8.out _ _ _ _ _),pI aG.out (Nat.le_refl _) _ _ _ _ _⟩
    clear hW r0 r1 r2 r3 r4 s0 s1 s2 s3 s4
    have q0:=HW.out.1.cell 0;have q1:=HW.out.1.cell 1;have q2:=HW.out.1.cell 2;have q3:=HW.out.1.cell 3;have q4:=HW.out.1.cell 4
    have ql:=HW.out.1.lt
    exact bodyPost_ret (v:= .tuple #[zM 0 false false 0 0, .bool false]) (by simp [results,Try.results97,go_sem,q0,q1,q2,q3,q4,ql]) rfl ⟨by rw [Td.out];rfl,HW.out.2⟩
   |some i=>
    rw [hx]at hrun WM
    have hil:=Ck.Ew hx
    obtain⟨gg,off,cs,hpb,ea,⟨vi,rfl,hrow⟩,hcell⟩:=l9.out i P0.gs[i] (List.getElem?_eq_getElem hil)
    subst ea
    obtain⟨ai,ci,ei,_,_,_⟩:=hrow.parts
    obtain⟨Li,hLi⟩:∃Li,Li=P0.gs[i].ini.length:=⟨_,rfl⟩
    rw [←hLi]at ei
    subst ei
    have Td:Hid (R=some ⟨P0.gs[i].b,P0.gs[i].s,false,i,P0.gs[i].size⟩):=by
     show R=_
     rw [HR.out];unfold Ck.find;rw [wW.out];show((Ck.sQ P0.gs nm.data.toList).map _)=_;rw [WM.out]
     show(((P0.gs[i]?).map _).map _)=_
     rw [List.getElem?_eq_getElem hil];rfl
    have g0:=hcell 0 _ rfl;have g1:=hcell 1 _ rfl;have g2:=hcell 2 _ rfl;have g3:=hcell 3 _ rfl;have g4:=hcell 4 _ rfl
    obtain⟨G,hG⟩:∃G,G=P0.gs[i]:=⟨_,rfl⟩
    rw [←hG]at g0 g1 g2 g3 Td
    obtain⟨L,hL⟩:∃L,L=P0.gs.length:=⟨_,rfl⟩
    rw [←hL]at t0 hil h01
    simp only [Option.getD_some,Option.isSome_some]at hrun
    rw [Nat.add_zero]at g0
    have aa4:=World.block_lt_of_cell? _ _ g0
    clear hx hcell hG hL hrow hLi
    go_wp2
    generalize hW:World.alloc _ _=W
    have HW:Hid (ak W w.heap.size 112 #[.int .i64 G.b, .bool G.s, .bool false, .int .i64 (i:Int), .int .i64 G.size]∧Below w.heap.size w W):=by
     subst hW
     exact⟨(qj X8.out _ _ _ _ _).alloc _,Ext.alloc (pI aG.out (Nat.le_refl _) _ _ _ _ _) _⟩
    clear hW r0 r1 r2 r3 r4 s0 s1 s2 s3 s4
    have q0:=HW.out.1.cell 0;have q1:=HW.out.1.cell 1;have q2:=HW.out.1.cell 2;have q3:=HW.out.1.cell 3;have q4:=HW.out.1.cell 4
    have ql:=HW.out.1.lt
    exact bodyPost_ret (v:= .tuple #[zM G.b G.s false i G.size, .bool true]) (by simp [results,Try.results97,go_sem,q0,q1,q2,q3,q4,ql]) rfl ⟨by rw [Td.out];rfl,HW.out.2⟩
end Go.Proofs.Ythdckndjggljpaa
