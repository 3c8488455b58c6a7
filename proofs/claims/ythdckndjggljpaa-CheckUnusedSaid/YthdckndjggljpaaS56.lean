/- Proofs of this claim, part 56. No condition. -/
import Derived.Test.YthdckndjggljpaaS47
namespace Go.Proofs.Ythdckndjggljpaa
set_option linter.unusedVariables false
set_option linter.unusedSimpArgs false
set_option maxRecDepth 100000
set_option maxHeartbeats 64000000
open Go.RowKit Go.Maps
structure TW(w:World)(P0:Pg)(a0 a1:Option Addr)(n0 c0 n1 c1:Nat)(nm:ByteArray)(E at':Int)(nb:Bool):Prop where
 ck:∀w1,Below w.heap.size w w1→Calls Try.prog 6 #[.agg #[.slice a0 n0 c0, .slice a1 n1 c1]] w1 fun e w'=>e= .returned (.agg #[.int .i64 E, .int .i64 at'])∧Below w1.heap.size w1 w'
 nd:∀w1:World,Calls Try.prog 7 #[.string nm] w1 fun e w'=>e= .returned (.bool nb)∧Below w1.heap.size w1 w'
theorem JD(w:World)(P0:Pg)(a0 a1:Option Addr)(n0 c0 n1 c1:Nat)(nm:ByteArray)(E at':Int)(nb:Bool)(h:TW w P0 a0 a1 n0 c0 n1 c1 nm E at' nb)(hE:E≠0):Calls Try.prog 3 #[.agg #[.slice a0 n0 c0, .slice a1 n1 c1], .string nm] w fun e w'=>e= .returned (.bool true)∧Below w.heap.size w w':=by
 have hfd:∀(x y:Int)(w:World),(Instr.field 29 (.agg #[.int .i64 x, .int .i64 y]) 0).run Try.prog w= .ok (.int .i64 x) w:=fun x y w=>by simp [Instr.field,asAgg,go_sem]
 have H:=Lib.hid h
 have q:(E !=0)=true:=by simpa using hE
 clear h hE
 go_enter Try.func3,Try.ntmps3
 go_wp2_with(first|(go_at_call 5;refine(jE _).mono ?_;rintro e w2⟨rfl,hb2⟩;have HB2:=Lib.hid (Ext.trans (Ext.alloc (Below.refl _ _) _) hb2:Below w.heap.size w w2);have HP2:=Lib.hid ((ak.new w 25 #[.slice a0 n0 c0, .slice a1 n1 c1]).keep hb2);have p0:=HP2.out.cell 0;have p1:=HP2.out.cell 1;have pl:=HP2.out.lt;clear hb2)|(go_at_call 6;refine(H.out.ck _ HB2.out).mono ?_;rintro e w3⟨rfl,hb3⟩;have HB3:=Lib.hid (Ext.trans HB2.out hb3);have OM:=Lib.hid (HP2.out.keep hb3);clear hb3))
 go_ret
 exact⟨rfl,HB3.out⟩
theorem Jz(w:World)(P0:Pg)(a0 a1:Option Addr)(n0 c0 n1 c1:Nat)(nm:ByteArray)(at':Int)(h:TW w P0 a0 a1 n0 c0 n1 c1 nm 0 at' false):Calls Try.prog 3 #[.agg #[.slice a0 n0 c0, .slice a1 n1 c1], .string nm] w fun e w'=>e= .returned (.bool true)∧Below w.heap.size w w':=by
 have hfd:∀(x y:Int)(w:World),(Instr.field 29 (.agg #[.int .i64 x, .int .i64 y]) 0).run Try.prog w= .ok (.int .i64 x) w:=fun x y w=>by simp [Instr.field,asAgg,go_sem]
 have H:=Lib.hid h
 clear h
 go_enter Try.func3,Try.ntmps3
 go_wp2_with(first|(go_at_call 5;refine(jE _).mono ?_;rintro e w2⟨rfl,hb2⟩;have HB2:=Lib.hid (Ext.trans (Ext.alloc (Below.refl _ _) _) hb2:Below w.heap.size w w2);have HP2:=Lib.hid ((ak.new w 25 #[.slice a0 n0 c0, .slice a1 n1 c1]).keep hb2);have p0:=HP2.out.cell 0;have p1:=HP2.out.cell 1;have pl:=HP2.out.lt;clear hb2)|(go_at_call 6;refine(H.out.ck _ HB2.out).mono ?_;rintro e w3⟨rfl,hb3⟩;have HB3:=Lib.hid (Ext.trans HB2.out hb3);have OM:=Lib.hid (HP2.out.keep hb3);clear hb3)|(go_at_call 7;refine(H.out.nd _).mono ?_;rintro e w4⟨rfl,hb4⟩;have HB4:=Lib.hid (Ext.trans HB3.out hb4);have xO:=Lib.hid (OM.out.keep hb4);have p0:=xO.out.cell 0;have p1:=xO.out.cell 1;have pl:=xO.out.lt;clear hb4))
 go_ret
 exact⟨rfl,HB4.out⟩
theorem JH(w:World)(P0:Pg)(a0 a1:Option Addr)(n0 c0 n1 c1:Nat)(nm:ByteArray)(at':Int)(h:TW w P0 a0 a1 n0 c0 n1 c1 nm 0 at' true)(hn:nm.data.toList=Ck.put):Calls Try.prog 3 #[.agg #[.slice a0 n0 c0, .slice a1 n1 c1], .string nm] w fun e w'=>e= .returned (.bool true)∧Below w.heap.size w w':=by
 have hfd:∀(x y:Int)(w:World),(Instr.field 29 (.agg #[.int .i64 x, .int .i64 y]) 0).run Try.prog w= .ok (.int .i64 x) w:=fun x y w=>by simp [Instr.field,asAgg,go_sem]
 have q1:(nm.toList==[112,117,116])=true:=by rw [ByteArray.toList_eq,hn];rfl
 have H:=Lib.hid h
 clear h hn
 go_enter Try.func3,Try.ntmps3
 go_wp2_with(first|(go_at_call 5;refine(jE _).mono ?_;rintro e w2⟨rfl,hb2⟩;have HB2:=Lib.hid (Ext.trans (Ext.alloc (Below.refl _ _) _) hb2:Below w.heap.size w w2);have HP2:=Lib.hid ((ak.new w 25 #[.slice a0 n0 c0, .slice a1 n1 c1]).keep hb2);have p0:=HP2.out.cell 0;have p1:=HP2.out.cell 1;have pl:=HP2.out.lt;clear hb2)|(go_at_call 6;refine(H.out.ck _ HB2.out).mono ?_;rintro e w3⟨rfl,hb3⟩;have HB3:=Lib.hid (Ext.trans HB2.out hb3);have OM:=Lib.hid (HP2.out.keep hb3);clear hb3)|(go_at_call 7;refine(H.out.nd _).mono ?_;rintro e w4⟨rfl,hb4⟩;have HB4:=Lib.hid (Ext.trans HB3.out hb4);have xO:=Lib.hid (OM.out.keep hb4);have p0:=xO.out.cell 0;have p1:=xO.out.cell 1;have pl:=xO.out.lt;clear hb4))
 go_ret
 exact⟨rfl,HB4.out⟩
theorem JF(w:World)(P0:Pg)(a0 a1:Option Addr)(n0 c0 n1 c1:Nat)(nm:ByteArray)(at':Int)(h:TW w P0 a0 a1 n0 c0 n1 c1 nm 0 at' true)(hp:nm.data.toList≠Ck.put)(hn:nm.data.toList=Ck.get):Calls Try.prog 3 #[.agg #[.slice a0 n0 c0, .slice a1 n1 c1], .string nm] w fun e w'=>e= .returned (.bool true)∧Below w.heap.size w w':=by
 have hfd:∀(x y:Int)(w:World),(Instr.field 29 (.agg #[.int .i64 x, .int .i64 y]) 0).run Try.prog w= .ok (.int .i64 x) w:=fun x y w=>by simp [Instr.field,asAgg,go_sem]
 have q1:(nm.toList==[112,117,116])=false:=by rw [ByteArray.toList_eq];simpa [Ck.put]using hp
 have q2:(nm.toList==[103,101,116])=true:=by rw [ByteArray.toList_eq,hn];rfl
 have H:=Lib.hid h
 clear h hn hp
 go_enter Try.func3,Try.ntmps3
 go_wp2_with(first|(go_at_call 5;refine(jE _).mono ?_;rintro e w2⟨rfl,hb2⟩;have HB2:=Lib.hid (Ext.trans (Ext.alloc (Below.refl _ _) _) hb2:Below w.heap.size w w2);have HP2:=Lib.hid ((ak.new w 25 #[.slice a0 n0 c0, .slice a1 n1 c1]).keep hb2);have p0:=HP2.out.cell 0;have p1:=HP2.out.cell 1;have pl:=HP2.out.lt;clear hb2)|(go_at_call 6;refine(H.out.ck _ HB2.out).mono ?_;rintro e w3⟨rfl,hb3⟩;have HB3:=Lib.hid (Ext.trans HB2.out hb3);have OM:=Lib.hid (HP2.out.keep hb3);clear hb3)|(go_at_call 7;refine(H.out.nd _).mono ?_;rintro e w4⟨rfl,hb4⟩;have HB4:=Lib.hid (Ext.trans HB3.out hb4);have xO:=Lib.hid (OM.out.keep hb4);have p0:=xO.out.cell 0;have p1:=xO.out.cell 1;have pl:=xO.out.lt;clear hb4))
 go_ret
 exact⟨rfl,HB4.out⟩
theorem Hw(w:World)(P0:Pg)(a0 a1:Option Addr)(n0 c0 n1 c1:Nat)(nm:ByteArray)(at':Int)(h:TW w P0 a0 a1 n0 c0 n1 c1 nm 0 at' true)(hp:nm.data.toList≠Ck.put)(hg:nm.data.toList≠Ck.get)(hl:100≤n1):Calls Try.prog 3 #[.agg #[.slice a0 n0 c0, .slice a1 n1 c1], .string nm] w fun e w'=>e= .returned (.bool true)∧Below w.heap.size w w':=by
 have hfd:∀(x y:Int)(w:World),(Instr.field 29 (.agg #[.int .i64 x, .int .i64 y]) 0).run Try.prog w= .ok (.int .i64 x) w:=fun x y w=>by simp [Instr.field,asAgg,go_sem]
 have q1:(nm.toList==[112,117,116])=false:=by rw [ByteArray.toList_eq];simpa [Ck.put]using hp
 have q2:(nm.toList==[103,101,116])=false:=by rw [ByteArray.toList_eq];simpa [Ck.get]using hg
 have q3:decide ((n1:Int)≥100)=true:=by simp;omega
 have H:=Lib.hid h
 clear h hg hp hl
 go_enter Try.func3,Try.ntmps3
 go_wp2_with(first|(go_at_call 5;refine(jE _).mono ?_;rintro e w2⟨rfl,hb2⟩;have HB2:=Lib.hid (Ext.trans (Ext.alloc (Below.refl _ _) _) hb2:Below w.heap.size w w2);have HP2:=Lib.hid ((ak.new w 25 #[.slice a0 n0 c0, .slice a1 n1 c1]).keep hb2);have p0:=HP2.out.cell 0;have p1:=HP2.out.cell 1;have pl:=HP2.out.lt;clear hb2)|(go_at_call 6;refine(H.out.ck _ HB2.out).mono ?_;rintro e w3⟨rfl,hb3⟩;have HB3:=Lib.hid (Ext.trans HB2.out hb3);have OM:=Lib.hid (HP2.out.keep hb3);clear hb3)|(go_at_call 7;refine(H.out.nd _).mono ?_;rintro e w4⟨rfl,hb4⟩;have HB4:=Lib.hid (Ext.trans HB3.out hb4);have xO:=Lib.hid (OM.out.keep hb4);have p0:=xO.out.cell 0;have p1:=xO.out.cell 1;have pl:=xO.out.lt;clear hb4))
 go_ret
 exact⟨rfl,HB4.out⟩
theorem Ot{w wr:World}{P0:Pg}{a0:Option Addr}{n0 c0:Nat}{v1:Value}(h:bM w (fun _=>True) P0 (.slice a0 n0 c0) v1)(hb:Below w.heap.size w wr){j:Nat}{g:Gl}(hg:P0.gs[j]?=some g):
 ∃q off ia il ic,a0=some ⟨q,off,none⟩∧q<wr.heap.size∧wr.cell? ⟨q,off+j*5,none⟩=some (.int .i64 g.b)∧wr.cell? ⟨q,off+j*5+1,none⟩=some (.bool g.s)∧wr.cell? ⟨q,off+j*5+2,none⟩=some (.string g.nm)∧wr.cell? ⟨q,off+j*5+3,none⟩=some (.int .i64 g.size)∧wr.cell? ⟨q,off+j*5+4,none⟩=some (.slice ia il ic):=by
 obtain⟨q,off,cs,ea,_,⟨v,rfl,hr⟩,hc⟩:=Row.IB (h.1.move (fun _ _ _ hx=>hx) (fun x _ cs hx=>by obtain⟨_,rfl,_⟩:=hx;simp) (fun k _ hk=>⟨(⟨trivial,hk⟩:True∧k<w.heap.size),rfl⟩):Row w (fun k=>True∧k<w.heap.size) 5 _ _ _) hg
 obtain⟨ia,ic,rfl,_⟩:=hr.parts
 have hq:=World.block_lt_of_cell? w _ (hc 0 _ rfl)
 have k:∀i u,[Value.int .i64 g.b, .bool g.s, .string g.nm, .int .i64 g.size, .slice ia g.ini.length ic][i]?=some u→wr.cell? ⟨q,off+j*5+i,none⟩=some u:=fun i u hu=>by
  rw [Below.cell (p:=⟨q,off+j*5+i,none⟩) hb hq];exact hc i u hu
 exact⟨q,off,ia,g.ini.length,ic,ea,Nat.lt_of_lt_of_le hq hb.size,k 0 _ rfl,k 1 _ rfl,k 2 _ rfl,k 3 _ rfl,k 4 _ rfl⟩
theorem kW{w wr:World}{P0:Pg}{a1:Option Addr}{n1 c1:Nat}{v0:Value}(h:bM w (fun _=>True) P0 v0 (.slice a1 n1 c1))(hb:Below w.heap.size w wr){j:Nat}{f:Fn}(hg:P0.fs[j]?=some f):
 ∃q off ia il ic ja jl jc,a1=some ⟨q,off,none⟩∧q<wr.heap.size∧wr.cell? ⟨q,off+j*5,none⟩=some (.string f.nm)∧wr.cell? ⟨q,off+j*5+1,none⟩=some (.int .i64 f.b)∧wr.cell? ⟨q,off+j*5+2,none⟩=some (.bool f.s)∧wr.cell? ⟨q,off+j*5+3,none⟩=some (.slice ia il ic)∧wr.cell? ⟨q,off+j*5+4,none⟩=some (.slice ja jl jc):=by
 obtain⟨q,off,cs,ea,_,⟨v,v',rfl,hr,hr'⟩,hc⟩:=Row.IB (h.2.move (fun _ _ _ hx=>hx) (fun x _ cs hx=>by obtain⟨_,_,rfl,_⟩:=hx;simp) (fun k _ hk=>⟨(⟨trivial,hk⟩:True∧k<w.heap.size),rfl⟩):Row w (fun k=>True∧k<w.heap.size) 5 _ _ _) hg
 obtain⟨ia,ic,rfl,_⟩:=hr.parts
 obtain⟨ja,jc,rfl,_⟩:=hr'.parts
 have hq:=World.block_lt_of_cell? w _ (hc 0 _ rfl)
 have k:∀i u,[Value.string f.nm, .int .i64 f.b, .bool f.s, .slice ia f.ps.length ic, .slice ja f.body.length jc][i]?=some u→wr.cell? ⟨q,off+j*5+i,none⟩=some u:=fun i u hu=>by
  rw [Below.cell (p:=⟨q,off+j*5+i,none⟩) hb hq];exact hc i u hu
 exact⟨q,off,ia,_,ic,ja,_,jc,ea,Nat.lt_of_lt_of_le hq hb.size,k 0 _ rfl,k 1 _ rfl,k 2 _ rfl,k 3 _ rfl,k 4 _ rfl⟩
theorem EX{w:World}{cs:Nat→List Value}{z n q off:Nat}(hz:0<z)(hl:∀i,i<n→(cs i).length=z)(hc:∀i j u,i<n→(cs i)[j]?=some u→w.cell? ⟨q,off+i*z+j,none⟩=some u):∀j u,(flat cs n)[j]?=some u→w.cell? ((⟨q,off,none⟩:Addr).add j)=some u:=by
 intro j u hu
 have hj:j<n*z:=by have h:=(List.getElem?_eq_some_iff.1 hu).1;rw [qP cs z n hl]at h;exact h
 obtain⟨i,r,e,h1,h2⟩:∃i r,j=i*z+r∧i<n∧r<z:=⟨j/z,j%z,(Nat.div_add_mod' j z).symm,Nat.div_lt_of_lt_mul (by rw [Nat.mul_comm];exact hj),Nat.mod_lt _ hz⟩
 subst e
 rw [og cs z n hl _ _ h1 h2]at hu
 rw [X.bV,←Nat.add_assoc]
 exact hc _ _ u h1 hu
theorem NH{α:Type}{w w9:World}{B T z:Nat}{L:World→(Nat→Prop)→α→List Value→Prop}(hL:Lay z L){l:List α}{y:α}{cs:Nat→List Value}{ys:List Value}{a':Option Addr}{c':Nat}(ho:w9.ownsRow B T z (.slice a' (l.length+1) c') (l.length+1) (flat cs l.length++ys))(hk:∀i x,l[i]?=some x→L w (fun _=>True) x (cs i))(hy:L w (fun _=>True) y ys)
 (hs:∀k,k<w.heap.size→w9.heap[k]?=w.heap[k]?):Row w9 (fun _=>True) z (L w9 (fun _=>True)) (l++[y]) (.slice a' (l.length+1) c'):=by
 have hn:(l++[y]).length=l.length+1:=by simp
 obtain⟨_,_,e,h1,h2⟩:=bG ho
 injection e with _ _ e
 subst e
 have mv:∀x cs,L w (fun _=>True) x cs→L w9 (fun _=>True) x cs:=fun x cs h=>hL.move h fun g _ hg=>⟨trivial,hs g hg⟩
 have hall:∀i x,(l++[y])[i]?=some x→L w9 (fun _=>True) x (if i<l.length then cs i else ys):=fun i x hx=>by
  by_cases hi:i<l.length
  ·rw [if_pos hi];rw [List.getElem?_append_left hi]at hx;exact mv _ _ (hk i x hx)
  ·have hi2:i=l.length:=by have:=(List.getElem?_eq_some_iff.1 hx).1;rw [hn]at this;omega
   subst hi2
   rw [if_neg hi];rw [List.getElem?_append_right (Nat.le_refl _),Nat.sub_self]at hx;injection hx with hx;subst hx;exact mv _ _ hy
 have hlen:∀i,i<l.length+1→(if i<l.length then cs i else ys).length=z:=fun i hi=>hL.len (hall i (l++[y])[i] (List.getElem?_eq_getElem (by omega)))
 refine⟨a',c',fun i=>if i<l.length then cs i else ys,by rw [hn],by rw [hn];exact h1,h2,hall,fun h0=>?_⟩
 rcases ho.2 with⟨_,hz⟩|⟨g,cap,cur,ev,hbb,hg,hc,hm,hsz,htake⟩
 ·omega
 ·injection ev with ea _ _
  subst ea
  refine⟨g,0,trivial,rfl,fun i j u hi hu=>?_⟩
  rw [hn]at hi
  have hj:j<(if i<l.length then cs i else ys).length:=(List.getElem?_eq_some_iff.1 hu).1
  rw [hlen i hi]at hj
  have e1:flat (fun i=>if i<l.length then cs i else ys) (l.length+1)=flat cs l.length++ys:=by
   rw [jJ,lW (ds:=cs) fun i hi=>if_pos hi];simp
  have:=ho.cells (g:=g) rfl (i*z+j) u (by rw [←e1,og _ z (l.length+1) hlen i j hi hj];exact hu)
  rw [X.bV]at this
  rw [Nat.zero_add]at this⊢
  exact this
theorem nX{B:Nat}{w w1 w2:World}{row:Option Nat}(h:Below B w w1)(hg:w1.grownBy w2 row)(hr:∀k,row=some k→B≤k)(hB:B≤w1.heap.size):Below B w w2:=
 ⟨hg.os.trans h.os,hg.tape.trans h.tape,hg.output.trans h.output,Nat.le_trans h.size hg.size,fun k hk=>(hg.block k (Nat.lt_of_lt_of_le hk hB) (fun e=>by have:=hr k e.symm;omega)).trans (h.block k hk)⟩
theorem GK:(Try.prog.info? 40).map (fun i=>(i.zero,i.size,i.bytes))=some (some (.agg #[.string ⟨#[]⟩, .int .i64 0, .bool false, .slice none 0 0, .slice none 0 0]),5,80):=by kernel_rfl
theorem CW(w:World)(P0:Pg)(a0 a1:Option Addr)(c0 c1:Nat)(nm:ByteArray)(at':Int)(hs:nm.size≤maxLen)(hP:bM w (fun _=>True) P0 (.slice a0 P0.gs.length c0) (.slice a1 P0.fs.length c1))(hw:Pg.Wf P0)(hc:(Ck.check P0).1=0)(h:TW w P0 a0 a1 P0.gs.length c0 P0.fs.length c1 nm 0 at' true)
 (hn:Tk.oC nm.data.toList=true)(hp:nm.data.toList≠Ck.put)(hg:nm.data.toList≠Ck.get)(hl:P0.fs.length<100):Calls Try.prog 3 #[.agg #[.slice a0 P0.gs.length c0, .slice a1 P0.fs.length c1], .string nm] w fun e w'=>e= .returned (.bool true)∧Below w.heap.size w w':=by
 have hfd:∀(x y:Int)(w:World),(Instr.field 29 (.agg #[.int .i64 x, .int .i64 y]) 0).run Try.prog w= .ok (.int .i64 x) w:=fun x y w=>by simp [Instr.field,asAgg,go_sem]
 have q1:(nm.toList==[112,117,116])=false:=by rw [ByteArray.toList_eq];simpa [Ck.put]using hp
 have q2:(nm.toList==[103,101,116])=false:=by rw [ByteArray.toList_eq];simpa [Ck.get]using hg
 obtain⟨n0,hn0⟩:∃n,n=P0.gs.length:=⟨_,rfl⟩
 obtain⟨n1,hn1⟩:∃n,n=P0.fs.length:=⟨_,rfl⟩
 have h0c:n0≤c0∧c0≤maxLen:=by
  obtain⟨a,c,e,x,y,_⟩:=hP.1.parts
  injection e with _ _ e;subst e;exact⟨by rw [hn0];exact x,y⟩
 have h1c:n1≤c1∧c1≤maxLen:=by
  obtain⟨a,c,e,x,y,_⟩:=hP.2.parts
  injection e with _ _ e;subst e;exact⟨by rw [hn1];exact x,y⟩
 have Un:(n0:Int)≤(c0:Int):=by omega
 have Uo:(n1:Int)≤(c1:Int):=by omega
 have hn9:(n0:Int)≤9223372036854775807:=by unfold maxLen at h0c;omega
 have q3:decide ((n1:Int)≥100)=false:=by simp;omega
 have H1:(n1:Int)<100:=by omega
 have H:=Lib.hid h
 have HP:=Lib.hid hP
 have HW:=Lib.hid hw
 have HC:=Lib.hid hc
 have S9:=Lib.hid (And.intro hn (And.intro hp hg))
 have HS:=Lib.hid hs
 have HL:=Lib.hid hl
 rw [←hn0,←hn1]at H HP⊢
 have HN:=Lib.hid (And.intro hn0 hn1)
 clear h hP hw hc hn hp hg hl hs hn0 hn1 h0c h1c
 go_enter Try.func3,Try.ntmps3
 go_upto_region 6 with(first|(go_at_call 5;refine(jE _).mono ?_;rintro e w2⟨rfl,hb2⟩;have HB2:=Lib.hid (Ext.trans (Ext.alloc (Below.refl _ _) _) hb2:Below w.heap.size w w2);have HP2:=Lib.hid ((ak.new w 25 #[.slice a0 n0 c0, .slice a1 n1 c1]).keep hb2);have p0:=HP2.out.cell 0;have p1:=HP2.out.cell 1;have pl:=HP2.out.lt;clear hb2)|(go_at_call 6;refine(H.out.ck _ HB2.out).mono ?_;rintro e w3⟨rfl,hb3⟩;have HB3:=Lib.hid (Ext.trans HB2.out hb3);have OM:=Lib.hid (HP2.out.keep hb3);clear hb3)|(go_at_call 7;refine(H.out.nd _).mono ?_;rintro e w4⟨rfl,hb4⟩;have HB4:=Lib.hid (Ext.trans HB3.out hb4);have xO:=Lib.hid (OM.out.keep hb4);have p0:=xO.out.cell 0;have p1:=xO.out.cell 1;have pl:=xO.out.lt;clear hb4))
 go_wp2
 go_loopw [39](fun i wr=>∃(j:Nat),j≤n0∧i= .int .i64 (j:Int)∧Hid (Below w4.heap.size w4 wr)∧Hid (∀k g,k<j→P0.gs[k]?=some g→g.nm.data.toList≠nm.data.toList))(fun i wr=>n0-(intOf i).toNat)
 case atStart=>exact⟨0,Nat.zero_le _,rfl,Below.refl _ _,fun k g hk=>absurd hk (Nat.not_lt_zero _)⟩
 case round=>
  obtain⟨j,hj,rfl,VO,HNo⟩:=hrel
  clear p0 p1 pl
  have Z5:=Lib.hid (xO.out.keep VO.out)
  have p0:=Z5.out.cell 0;have p1:=Z5.out.cell 1;have pl:=Z5.out.lt
  by_cases hlt:j<n0
  ·have hjl:j<P0.gs.length:=by rw [←HN.out.1];exact hlt
   obtain⟨g,hge⟩:∃g,P0.gs[j]?=some g:=⟨_,List.getElem?_eq_getElem hjl⟩
   obtain⟨q,off,ia,il,ic,rfl,hq,k0,k1,k2,k3,k4⟩:=Ot HP.out (Ext.trans HB4.out VO.out) hge
   have WM:=Lib.hid hge
   clear hjl hge
   by_cases he:g.nm.data.toList=nm.data.toList
   ·have qe:(g.nm.toList==nm.toList)=true:=by rw [ByteArray.toList_eq,ByteArray.toList_eq,he];simp
    clear he
    go_wp2
    go_ret
    exact⟨rfl,Ext.alloc (Ext.trans HB4.out VO.out) _⟩
   ·have qe:(g.nm.toList==nm.toList)=false:=by rw [ByteArray.toList_eq,ByteArray.toList_eq];simpa using he
    have HE:=Lib.hid he
    clear he
    go_wp2
    go_roundw
    case rel=>exact⟨j+1,by omega,by go_num,Ext.alloc VO.out _,fun k x hk hx=>by
     rcases Nat.lt_or_ge k j with h1|h1
     ·exact HNo.out k x h1 hx
     ·obtain rfl:k=j:=by omega
      rw [WM.out]at hx;injection hx with hx;subst hx;exact HE.out⟩
    case measure=>simp [intOf];omega
  ·obtain rfl:j=n0:=by omega
   clear hlt hj
   obtain⟨w5,rfl⟩:∃W0,W0=wr:=⟨_,rfl⟩
   go_upto_region 12 with(fail)
   go_wp2
   go_loopw [51](fun i wr=>∃(k:Nat),k≤n1∧i= .int .i64 (k:Int)∧Hid (Below w5.heap.size w5 wr)∧Hid (∀i f,i<k→P0.fs[i]?=some f→f.nm.data.toList≠nm.data.toList))(fun i wr=>n1-(intOf i).toNat)
   case atStart=>exact⟨0,Nat.zero_le _,rfl,Below.refl _ _,fun k g hk=>absurd hk (Nat.not_lt_zero _)⟩
   case round=>
    obtain⟨k,hk,rfl,YQ,HNf⟩:=hrel
    clear p0 p1 pl
    have YR:=Lib.hid (Z5.out.keep YQ.out)
    have p0:=YR.out.cell 0;have p1:=YR.out.cell 1;have pl:=YR.out.lt
    by_cases hlt:k<n1
    ·have hkl:k<P0.fs.length:=by rw [←HN.out.2];exact hlt
     obtain⟨f,hfe⟩:∃f,P0.fs[k]?=some f:=⟨_,List.getElem?_eq_getElem hkl⟩
     obtain⟨q,off,ia,il,ic,ja,jl,jc,rfl,hq,k0,k1,k2,k3,k4⟩:=kW HP.out (Ext.trans (Ext.trans HB4.out VO.out) YQ.out) hfe
     have HFE:=Lib.hid hfe
     clear hkl hfe
     by_cases he:f.nm.data.toList=nm.data.toList
     ·have qe:(f.nm.toList==nm.toList)=true:=by rw [ByteArray.toList_eq,ByteArray.toList_eq,he];simp
      clear he
      go_wp2
      go_ret
      exact⟨rfl,Ext.alloc (Ext.trans (Ext.trans HB4.out VO.out) YQ.out) _⟩
     ·have qe:(f.nm.toList==nm.toList)=false:=by rw [ByteArray.toList_eq,ByteArray.toList_eq];simpa using he
      have HE:=Lib.hid he
      clear he
      go_wp2
      go_roundw
      case rel=>exact⟨k+1,by omega,by go_num,Ext.alloc YQ.out _,fun i x hi hx=>by
       rcases Nat.lt_or_ge i k with h1|h1
       ·exact HNf.out i x h1 hx
       ·obtain rfl:i=k:=by omega
        rw [HFE.out]at hx;injection hx with hx;subst hx;exact HE.out⟩
      case measure=>simp [intOf];omega
    ·obtain rfl:k=n1:=by omega
     clear hlt hk
     go_upto_region 18 with(fail)
     obtain⟨gq,hgq⟩:∃g,g=wr.heap.size:=⟨_,rfl⟩
     generalize hw6:World.alloc wr _=w6
     have mM:Hid (ak w6 gq 25 #[.slice a0 j c0, .slice a1 k c1]∧Below wr.heap.size wr w6∧gq<w6.heap.size∧w.heap.size<gq):=by
      subst hw6;rw [hgq]
      exact⟨ak.new _ _ _,Ext.alloc (Below.refl _ _) _,by simp,by have h1:=YR.out.lt;exact h1⟩
     rw [←hgq]
     have HPt:=Lib.hid (YR.out.keep mM.out.2.1)
     have iK:Hid (Below w.heap.size w w6):=Ext.trans (Ext.trans (Ext.trans HB4.out VO.out) YQ.out) mM.out.2.1
     clear hw6 hgq p0 p1 pl
     have p0:=HPt.out.cell 0;have p1:=HPt.out.cell 1;have pl:=HPt.out.lt
     obtain⟨_,_,lg,e1,hcc,hcm,hk,ha⟩:=HP.out.2
     injection e1 with e1 e2 e3
     subst e1 e3
     have hn1:0<P0.fs.length:=by
      have h0:=(Ck.dS.1 HC.out).2.2.2.2
      rcases hfs:P0.fs with _|⟨x,l⟩
      ·unfold Ck.jw at h0;rw [hfs]at h0;cases h0
      ·simp
     obtain⟨fq,fo,_,rfl,hcell⟩:=ha hn1
     have Jk:Hid ((∀i x,P0.fs[i]?=some x→LF w (fun _=>True) x (lg i))∧(∀i,i<k→(lg i).length=5)∧(∀j u,(flat lg k)[j]?=some u→w.cell? ((⟨fq,fo,none⟩:Addr).add j)=some u)∧(∀u∈flat lg k,u.oneCell'=true)∧0<k∧fq<w.heap.size):=by
      have hl5:∀i,i<k→(lg i).length=5:=fun i hi=>uQ.len (hk i P0.fs[i] (List.getElem?_eq_getElem (by omega)))
      refine⟨hk,hl5,EX (by decide) hl5 (fun i j u hi hu=>hcell i j u (by omega) hu),fun u hu=>?_,by omega,?_⟩
      ·obtain⟨i,hi,hu⟩:=List.mem_flatMap.1 (by unfold flat at hu;exact hu)
       have hi:i<k:=by simpa using hi
       exact uQ.one (hk i P0.fs[i] (List.getElem?_eq_getElem (by omega))) u hu
      ·have h5:=hl5 0 (by omega)
       exact World.block_lt_of_cell? w _ (hcell 0 0 ((lg 0)[0]'(by omega)) hn1 (List.getElem?_eq_getElem (by omega)))
     clear hcc hcm hk ha hn1 hcell e2
     obtain⟨iI,hi,hz0,hz1,hz2⟩:=info_parts GK
     have HI:=Lib.hid (And.intro hi (And.intro hz0 (And.intro hz1 hz2)))
     clear hi hz0 hz1 hz2
     obtain⟨z6,hz6⟩:∃z,z=w6.heap.size:=⟨_,rfl⟩
     have OO:=Lib.hid hz6
     clear hz6
     go_upto_region 19 with(first
      |(at_builtin;(refine aS rfl _ _ 23 40 5 80 _ rfl Try.underlying23 GK rfl (by decide) (by decide) z6 (.slice aa k ca) k (flat lg k) w7.heap.size [.string nm, .int .i64 0, .bool false, .slice none 0 0, .slice none 0 0] rfl rfl (aU CS.out fun b hb=>(Ext.alloc (Below.refl _ _) _:Below w7.heap.size w7 _).block b (aK CS.out b hb).2) rfl (fun j u hu=>by match j,hu with|0,hu=>simpa using hu|1,hu=>simpa using hu|2,hu=>simpa using hu|3,hu=>simpa using hu|4,hu=>simpa using hu) (by simp [Value.oneCell']) (by omega) (by have h1:=OO.out;have h2:=iO.out.size;simp at h2⊢;omega) ?_);intro a' c' w8 ho8 sN abK;have TD:=Lib.hid ho8;have IC:=Lib.hid sN;have Z7:=Lib.hid (((((mM.out.1.alloc _).grown iO.out (fun e=>by have e1:some gq=some w6.heap.size:=e;injection e1 with e1;have:=mM.out.2.2.1;omega)).alloc _).grown IC.out (fun e=>by have h1:=(aK CS.out gq e.symm).1;have h2:=mM.out.2.2.1;have h3:=OO.out;omega)):ak w8 gq 25 #[.slice a0 j c0, .slice (some ⟨fq,fo,none⟩) k c1]);have g1:=Z7.out.cell 1;have y1:=Z7.out.frozen 1;have gl:=Z7.out.lt;clear ho8 sN abK)
      |(at_builtin;go_loud(refine wpList_append_own_at _ rfl _ _ 23 rfl z6 40 iI _ 5 80 Try.underlying23 HI.out.1 HI.out.2.1 HI.out.2.2.1 HI.out.2.2.2 rfl (by decide) (.slice (some ⟨w6.heap.size,0,none⟩) 0 0) 0 [] rfl (World.ownsRow_made w6 #[] 0 (Nat.le_of_eq OO.out) (by decide) rfl) ⟨fq,fo,none⟩ k c1 (flat lg k) rfl (qP lg 5 k Jk.out.2.1) (fun j u hu=>by rw [X.bV,Below.cell (p:=⟨fq,fo+j,none⟩) (Ext.alloc iK.out _) Jk.out.2.2.2.2.2,←X.bV];exact Jk.out.2.2.1 j u hu) Jk.out.2.2.2.1 (by have:=H1;unfold maxLen;omega) (by omega) (by have:=OO.out;simp;omega) ?_);intro va w7 YC wO _ abL;rw [Nat.zero_add,List.nil_append]at YC;have CS:=Lib.hid YC;have iO:=Lib.hid wO;clear YC wO abL;obtain⟨aa,ca,rfl,_,_⟩:=bG CS.out))
     generalize YS:World.setCell w8 _ _=w9
     obtain⟨Q0,Z8⟩:∃Q0:Pg,Q0=⟨P0.gs,P0.fs++[⟨nm,0,false,[],[]⟩]⟩:=⟨_,rfl⟩
     have HQ0:=Lib.hid Z8
     have hgq:gq<z6∧w.heap.size≤z6:=by have h1:=mM.out.2.2;have h2:=OO.out;omega
     have uh:Hid (Below w.heap.size w w9∧ak w9 gq 25 #[.slice a0 j c0, .slice a' (k+1) c']∧w9.ownsRow z6 40 5 (.slice a' (k+1) c') (k+1) (flat lg k++[.string nm, .int .i64 0, .bool false, .slice none 0 0, .slice none 0 0])):=by
      subst YS
      refine⟨Ext.setCell (nX (Ext.alloc (nX (Ext.alloc iK.out _) iO.out (fun b hb=>?_) ?_) _) IC.out (fun b hb=>?_) ?_) (by show w.heap.size≤gq;have:=mM.out.2.2.2;omega) _,by simpa using Z7.out.dJ 1 (.slice a' (k+1) c'),aU TD.out fun b hb=>Below.heap_setCell w8 ⟨gq,1,none⟩ _ b (fun e=>?_)⟩
      ·simp [Value.ownBlock]at hb;have h2:=OO.out;omega
      ·have h2:=iK.out.size;simp;omega
      ·have h2:=(aK CS.out b hb).1;omega
      ·have h1:=iK.out.size;have h2:=iO.out.size;simp at h2⊢;omega
      ·have h2:=(aK TD.out b hb).1;have h3:b=gq:=e;omega
     have HPQ:Hid (bM w9 (fun _=>True) Q0 (.slice a0 j c0) (.slice a' (k+1) c')∧Pg.Wf Q0):=by
      rw [Z8]
      have hk1:k=P0.fs.length:=HN.out.2
      have ho:=uh.out.2.2
      have hp1:=(HP.out.keep uh.out.1).1
      rw [hk1]at ho⊢
      refine⟨⟨hp1,NH uQ (l:=P0.fs) (y:=⟨nm,0,false,[],[]⟩) (cs:=lg) ho Jk.out.1 ⟨_,_,rfl,Row.nil _ _ _ _,?_⟩ fun x hx=>uh.out.1.block x hx⟩,⟨HW.out.gs,fun y hy=>?_⟩⟩
      ·exact .mk _ none 0 (fun _=>[]) (Nat.le_refl _) (Nat.zero_le _) (fun i x h=>by simp at h) (fun h=>absurd h (Nat.lt_irrefl _))
      ·rcases List.mem_append.1 hy with hy|hy
       ·exact HW.out.fs y hy
       ·rw [List.mem_singleton]at hy;subst hy
        exact⟨HS.out,(show W.I 0 by constructor<;>decide),fun y hy=>by simp at hy,fun y hy=>by simp at hy⟩
     have hun:(Ck.check Q0).1=0∨((Ck.check Q0).1=4∧Pg.wrong Q0=4):=by
      rw [Z8]
      refine Ck.unused P0 nm HC.out S9.out.1 S9.out.2.1 S9.out.2.2 HL.out (fun g hg=>?_) (fun f hf=>?_)
      ·obtain⟨i,hi⟩:=List.getElem?_of_mem hg
       exact HNo.out i g (by rw [HN.out.1];exact(List.getElem?_eq_some_iff.1 hi).1) hi
      ·obtain⟨i,hi⟩:=List.getElem?_of_mem hf
       exact HNf.out i f (by rw [HN.out.2];exact(List.getElem?_eq_some_iff.1 hi).1) hi
     obtain⟨E,hE⟩:∃E,E=(Ck.check Q0).1:=⟨_,rfl⟩
     obtain⟨A,hA⟩:∃A,A=(Ck.check Q0).2:=⟨_,rfl⟩
     rw [←hE]at hun
     have HCQ:Hid (Calls Try.prog 6 #[.agg #[.slice a0 j c0, .slice a' (k+1) c']] w9 fun e w'=>e= .returned (.agg #[.int .i64 E, .int .i64 (A:Int)])∧Below w9.heap.size w9 w'):=by
      rw [hE,hA];exact dS w9 Q0 _ _ HPQ.out.1 HPQ.out.2
     clear YS g1 y1 gl hgq Z8 hE hA p0 p1 pl
     have g0:=uh.out.2.1.cell 0;have g1:=uh.out.2.1.cell 1;have gl:=uh.out.2.1.lt
     rcases hun with rfl|⟨rfl,hw4⟩
     ·go_wp2_with(first|(go_at_call 6;refine HCQ.out.mono ?_;rintro e w10⟨rfl,oK⟩;have YT:=Lib.hid oK;clear oK))
      go_ret
      exact⟨rfl,Ext.alloc (Ext.trans uh.out.1 YT.out) _⟩
     ·have HWQ:Hid (∀w1,Below w9.heap.size w9 w1→Calls Try.prog 8 #[.agg #[.slice a0 j c0, .slice a' (k+1) c']] w1 fun e w'=>e= .returned (.int .i64 4)∧Below w1.heap.size w1 w'):=fun w1 hb=>by
       have h0:=qY Q0 _ _ w1 _ (HPQ.out.1.keep hb) HPQ.out.2;rw [hw4]at h0;exact h0
      clear hw4
      go_wp2_with(first|(go_at_call 6;refine HCQ.out.mono ?_;rintro e w10⟨rfl,oK⟩;have YT:=Lib.hid oK;have VP:=Lib.hid (uh.out.2.1.keep oK);have YU:Hid (Below w9.heap.size w9 (w10.alloc (.cells #[.int .i64 4, .int .i64 (A:Int)] 29))):=Ext.alloc oK _;clear oK;have g0:=VP.out.cell 0;have g1:=VP.out.cell 1;have gl:=VP.out.lt)|(go_at_call 8;refine(HWQ.out _ YU.out).mono ?_;rintro e w12⟨rfl,YV⟩;have abM:=Lib.hid YV;clear YV))
      go_ret
      exact⟨rfl,Ext.trans (Ext.trans uh.out.1 YU.out) abM.out⟩
theorem Ho(w:World)(P0:Pg)(v0 v1:Value)(hp:bM w (fun _=>True) P0 v0 v1)(hw:Pg.Wf P0)(nm:ByteArray)(hs:nm.size≤maxLen):Calls Try.prog 3 #[.agg #[v0,v1], .string nm] w fun e w'=>e= .returned (.bool true)∧Below w.heap.size w w':=by
 obtain⟨a0,c0,e0,_⟩:=hp.1.parts
 obtain⟨a1,c1,e1,_⟩:=hp.2.parts
 subst e0 e1
 have H:TW w P0 a0 a1 P0.gs.length c0 P0.fs.length c1 nm (Ck.check P0).1 ((Ck.check P0).2:Int) (Tk.oC nm.data.toList):=⟨fun w1 hb=>dS w1 P0 _ _ (hp.keep hb) hw,fun w1=>iR nm hs w1⟩
 by_cases hc:(Ck.check P0).1=0
 ·rw [hc]at H
  cases hn:Tk.oC nm.data.toList with
  |false=>rw [hn]at H;exact Jz w P0 _ _ _ _ _ _ nm _ H
  |true=>
   rw [hn]at H
   by_cases h1:nm.data.toList=Ck.put
   ·exact JH w P0 _ _ _ _ _ _ nm _ H h1
   by_cases h2:nm.data.toList=Ck.get
   ·exact JF w P0 _ _ _ _ _ _ nm _ H h1 h2
   by_cases h3:P0.fs.length<100
   ·exact CW w P0 _ _ _ _ nm _ hs hp hw hc H hn h1 h2 h3
   ·exact Hw w P0 _ _ _ _ _ _ nm _ H h1 h2 (by omega)
 ·exact JD w P0 _ _ _ _ _ _ nm _ _ _ H hc
end Go.Proofs.Ythdckndjggljpaa
