/- Proofs of this claim, part 33. No condition. -/
import Derived.Test.YthdckndjggljpaaS32
namespace Go.Proofs.Ythdckndjggljpaa
set_option linter.unusedVariables false
set_option linter.unusedSimpArgs false
set_option maxRecDepth 100000
set_option maxHeartbeats 64000000
open Go.RowKit Go.Maps
theorem Dl:(Try.prog.info? 135).map (fun i=>(i.zero,i.size,i.bytes))=some (some (.map none),1,8):=by kernel_rfl
theorem yw:(Try.prog.info? 33).map (fun i=>(i.zero,i.size,i.bytes))=some (some (.agg #[.int .i64 0, .bool false]),2,16):=by kernel_rfl
theorem ak.newAt{w:World}{n:Nat}(t:TypeId)(cs:Array Value)(h:w.heap.size=n):ak (w.alloc (.cells cs t)) n t cs:=by subst h;exact ak.new w t cs
def Ya(B g tb fq fo:Nat)(w:World)(e:Ck.Env)(v:Value)(r:Ending)(w':World):Prop:=r= .returned v∧(Below B w w'∧Kx w w')∧kF w' B g tb fq fo e
theorem FT(w:World)(B g tb fq fo:Nat)(e:Ck.Env)(hB:B≤w.heap.size)(h:kF w B g tb fq fo e)(hl:e.lv.length≤1000):Calls Try.prog 48 #[P g] w (Ya B g tb fq fo w e.open (.tuple #[])):=by
 obtain⟨la,lc,ub,sa,sc,bs,h⟩:=h
 have H:=Lib.hid h
 have HG:=Lib.hid h.blk.lt
 obtain⟨n,hn⟩:∃n,n=e.lv.length:=⟨_,rfl⟩
 have c1:w.cell? ⟨g,1,none⟩=some (.slice la n lc):=by rw [h.blk.cell 1,hn];rfl
 have z1:=h.blk.frozen 1
 have HO:Hid (∀w1,Below w.heap.size w w1→w1.ownsRow B 135 1 (.slice la n lc) n (bs.map fun b=>Value.map (some b))):=fun w1 hb=>by rw [hn];exact(h.keep hb).lv
 have HK:Hid (∀(w2 w3:World)(a':Option Addr)(c' mb:Nat),w.heap.size≤mb→Below w.heap.size w w2→SMap FD Ck.uD w2 mb 0 (fun _=>none)→w3.ownsRow B 135 1 (.slice a' (n+1) c') (n+1) (bs.map (fun b=>Value.map (some b))++[.map (some mb)])→
  w2.grownBy w3 (Value.slice la n lc).ownBlock→(Below B w (w3.setCell ⟨g,1,none⟩ (.slice a' (n+1) c'))∧Kx w (w3.setCell ⟨g,1,none⟩ (.slice a' (n+1) c')))∧kF (w3.setCell ⟨g,1,none⟩ (.slice a' (n+1) c')) B g tb fq fo e.open):=fun w2 w3 a' c' mb h1 h2 h3 h4 h5=>by
  rw [hn]at h4 h5⊢
  obtain⟨k1,k2⟩:=h.opened h1 hB h2 h3 h4 h5
  exact⟨k2,_,_,_,_,_,_,k1⟩
 have HC:Hid (∀(w2 w3:World),Below w.heap.size w w2→w2.grownBy w3 (Value.slice la n lc).ownBlock→w3.cell? ⟨g,1,none⟩=some (.slice la n lc)∧w3.frozen? ⟨g,1,none⟩=false):=fun w2 w3 h2 h5=>by
  rw [hn]at h5⊢
  have hk:=h.keep h2
  have hb3:=hk.blk.grown h5 (bn hk.lv hk.blk jL)
  exact⟨hb3.cell 1,hb3.frozen 1⟩
 have hl1:n+1≤100000000:=by omega
 have HL:=Lib.hid hl1
 have iP:=Lib.hid hB
 have hgl:=h.blk.lt
 have hgB:=h.hB
 clear h hn hl hl1 hB
 have hmm:=run_makeMap (P:=Try.prog)
 go_enter Try.func48,Try.ntmps48
 go_wp2_with(first|(at_builtin;go_loud(refine aS rfl _ _ 83 135 1 8 (.map none) rfl Try.underlying83 Dl rfl (by decide) (by decide) B (.slice la n lc) n _ (w.heap.size+1) [.map (some w.heap.size)] rfl rfl (HO.out _ (Ext.alloc (Ext.alloc (Below.refl _ _) _) _)) rfl (fun j u hu=>by match j,hu with|0,hu=>simpa using hu) (by simp [Value.oneCell']) HL.out (by have:=iP.out;simp;omega) ?_);intro a' c' w3 ho hg3 hat;have HO3:=Lib.hid ho;have BI:=Lib.hid hg3;obtain⟨d1,e1⟩:=HC.out _ _ (Ext.alloc (Ext.alloc (Below.refl _ _) _) _) hg3;clear ho hg3 hat))
 go_end0
 obtain⟨k1,k2⟩:=HK.out _ _ _ _ w.heap.size (Nat.le_refl _) (Ext.alloc (Ext.alloc (Below.refl _ _) _) _) ((SMap.made w).keep (Ext.alloc (Below.refl _ _) _)) HO3.out BI.out
 exact⟨rfl,k1,k2⟩
theorem Yz(w:World)(B g tb fq fo:Nat)(e:Ck.Env)(h:kF w B g tb fq fo e)(h1:1≤e.lv.length):Calls Try.prog 50 #[P g] w (Ya B g tb fq fo w e.close (.tuple #[])):=by
 obtain⟨la,lc,ub,sa,sc,bs,h⟩:=h
 obtain⟨lb,rfl⟩:∃lb,la=some ⟨lb,0,none⟩:=by
  rcases h.lv.2 with⟨_,hn⟩|⟨g',cap,cur,ev,_⟩
  ·omega
  ·injection ev with ev;exact⟨_,ev⟩
 have hle:e.lv.length≤lc:=by obtain⟨_,_,e2,h2,h3⟩:=bG h.lv;injection e2 with _ _ e2;omega
 have hlm:lc≤maxLen:=by obtain⟨_,_,e2,h2,h3⟩:=bG h.lv;injection e2 with _ _ e2;omega
 obtain⟨n,hn⟩:∃n,n=e.lv.length:=⟨_,rfl⟩
 have c1:w.cell? ⟨g,1,none⟩=some (.slice (some ⟨lb,0,none⟩) n lc):=by rw [h.blk.cell 1,hn];rfl
 have z1:=h.blk.frozen 1
 have HK:Hid ((Below B w (w.setCell ⟨g,1,none⟩ (.slice (some ⟨lb,0,none⟩) (n-1) lc)).drew∧Kx w (w.setCell ⟨g,1,none⟩ (.slice (some ⟨lb,0,none⟩) (n-1) lc)).drew)∧kF (w.setCell ⟨g,1,none⟩ (.slice (some ⟨lb,0,none⟩) (n-1) lc)).drew B g tb fq fo e.close):=by
  rw [hn]
  obtain⟨k1,k2⟩:=h.closed
  exact⟨⟨k2.1.drew,k2.2⟩,_,_,_,_,_,_,k1.keep (Below.refl _ _).drew⟩
 rw [←hn]at h1 hle
 unfold maxLen at hlm
 clear h hn
 have i1:((n:Int)-1).toNat=n-1:=by omega
 have HI:=Lib.hid i1
 have hi0:0≤(n:Int)-1:=by omega
 have hi2:(n:Int)-1≤(lc:Int):=by omega
 have hi3:(n:Int)≤9223372036854775807:=by omega
 clear i1
 go_enter Try.func50,Try.ntmps50
 refine Rg.wp_region [] (by kernel_rfl) (by kernel_rfl) ?_
 repeat(first|(refine Rg.cO ?_)|(refine Rg.bJ rfl ?_;simp only [Act.put,List.setIfInBounds_toArray,List.set_cons_zero,List.set_cons_succ])|(refine Rg.fP rfl rfl (fun K hK=>?_);go_big_quiet_op;refine hK _ ?_;clear hK K)|(refine Rg.fQ rfl rfl (fun K hK=>?_);go_wp2_with(first|fail|fail)))
 go_wp2
 go_end0
 exact⟨rfl,HK.out⟩
theorem str_eq(s:ByteArray)(X:List UInt8):(s.toList==(⟨X.toArray⟩:ByteArray).toList)=(s.data.toList==X):=by
 rw [ByteArray.toList_eq,ByteArray.toList_eq]
def X5(B g tb fq fo:Nat)(w:World)(r:Option Ck.Env)(e0:Ck.Env)(e:Ending)(w':World):Prop:=∃v,e= .returned (.tuple #[v, .bool r.isSome])∧(∃(b:Int)(s l:Bool)(n z:Int),v=zM b s l n z)∧(Below B w w'∧Kx w w')∧kF w' B g tb fq fo (r.getD e0)
theorem EM(w:World)(B g tb fq fo:Nat)(e:Ck.Env)(b:Int)(s:Bool)(nm:ByteArray)(hs:nm.size≤maxLen)(hB:B≤w.heap.size)(h:kF w B g tb fq fo e)(hu:e.used.contains nm.data.toList=true):
 Calls Try.prog 49 #[P g,W.ty b s, .string nm] w (X5 B g tb fq fo w none e):=by
 obtain⟨la,lc,ub,sa,sc,bs,h⟩:=h
 have HL:Hid (∀w1,Below w.heap.size w w1→(Instr.lookup 84 (.map (some ub)) (.string nm) false).run Try.prog w1= .ok (.bool true) w1):=fun w1 hb=>by
  obtain⟨v,ps,hr,hv⟩:=(h.us.keep hb).look Try.underlying84 (z:= .bool false) (by kernel_rfl) (plainElem_bool Try.underlying4 false) hs
  have e1:Ck.OJ e.used nm.data.toList=some ():=by unfold Ck.OJ;rw [if_pos hu]
  rw [e1]at hv
  rw [Gv hv]at hr;exact hr
 have hk:=HL.out _ (Ext.alloc (Ext.alloc (Below.refl _ _) (.cells #[.int .i64 b, .bool s] 33)) (.cells #[.int .i64 0, .bool false, .bool false, .int .i64 0, .int .i64 0] 112))
 have c2:w.cell? ⟨g,2,none⟩=some (.map (some ub)):=h.blk.cell 2
 have hgl:=h.blk.lt
 have HS:Hid (∀w1,Below w.heap.size w w1→kF w1 B g tb fq fo e):=fun w1 hb=>⟨_,_,_,_,_,_,h.keep hb⟩
 have iP:=Lib.hid hB
 clear h hu hs hB HL
 go_enter Try.func49,Try.ntmps49
 go_wp2
 exact bodyPost_ret (v:= .tuple #[zM 0 false false 0 0, .bool false]) (by simp [results,Try.results49,go_sem]) rfl ⟨_,rfl,⟨_,_,_,_,_,rfl⟩,⟨(Ext.alloc (Ext.alloc (Below.refl _ _) _) _).mono iP.out,Kx.below (Ext.alloc (Ext.alloc (Below.refl _ _) _) _)⟩,HS.out _ (Ext.alloc (Ext.alloc (Below.refl _ _) _) _)⟩
theorem E5{V:Type}{elem:Value→Option (DataW Unit×List MemPlace)}{d:V→DataW Unit}{w:World}{B n:Nat}{f:List UInt8→Option V}{ops:Array Oper}{rest:List Oper}{o:Oper}{a:Act}{Q:Exit→Act→World→Prop}(hg:o.guard=none)(m x v:Operand)(t e:TypeId)(hop:o.op=Op.mapUpdate t m x v)
 (ht:Try.prog.underlying t=some (.map 9 e))(hm:a.eval m= .map (some B))(h:SMap elem d w B n f)(hn:n<maxLen)(s:ByteArray)(hs:s.size≤maxLen)(hx:a.eval x= .string s)(u:V)(val:Value)(hv:a.eval v=val)(hval:elem val=some (d u,[]))
 (hK:∀w',SMap elem d w' B (n+1) (fun l=>if l=s.data.toList then some u else f l)→w.grownBy w' (some B)→wpList Try.prog ops Q rest (a.put o.dst undef) w'):wpList Try.prog ops Q (o::rest) a w:=by
 refine wpList_plain hg fun K' hK'=>?_
 obtain⟨w',hrun,r1,r2⟩:=h.put ht hn hs hval
 unfold Oper.wp
 simp [execOp,hop,hm,hx,hv,hrun,Result.andThen]
 exact hK' _ _ (hK w' r1 r2)
theorem Rn{w3 wi w':World}{B T z m:Nat}{v v':Value}{xs:List Value}(hb:Below w3.heap.size w3 wi)(ho:w'.ownsRow B T z v' (m+1) xs)(hg:wi.grownBy w' v.ownBlock):
 ∃a c wb wc,v'= .slice a (m+1) c∧Below w3.heap.size w3 wb∧wb.grownBy wc v.ownBlock∧wc.ownsRow B T z (.slice a (m+1) c) (m+1) xs∧Below wc.heap.size wc w':=by
 obtain⟨a,c,e,_⟩:=bG ho
 subst e
 exact⟨a,c,wi,w',rfl,hb,hg,ho,Below.refl _ _⟩
theorem Cc{wi w':World}{v u:Value}{M:Nat}{T:TypeId}{cs:Array Value}(hlow:∀k,v.ownBlock=some k→k<M)(hg:wi.grownBy w' v.ownBlock)(h:∃g1,u= .slice (some ⟨g1,0,none⟩) 1 1∧M≤g1∧ak wi g1 T cs):
 ∃g1,u= .slice (some ⟨g1,0,none⟩) 1 1∧M≤g1∧ak w' g1 T cs:=by
 obtain⟨g1,e,hl,hb⟩:=h
 exact⟨g1,e,hl,hb.grown hg (fun e2=>by have:=hlow g1 e2.symm;omega)⟩
theorem D7{v:Value}{k:Nat}(hlow:∀j,v.ownBlock=some j→k≠j):some k≠v.ownBlock:=fun e2=>hlow k e2.symm rfl
theorem TL{w:World}{g:Nat}{T:TypeId}{x y:Value}(h:ak w g T #[x,y]):∀j u,([x,y]:List Value)[j]?=some u→w.cell? ((⟨g,0,none⟩:Addr).add j)=some u:=fun j u hu=>by rw [X.bV,Nat.zero_add,h.cell];simpa using hu
theorem Gs{b:Int}{s:Bool}:∀u∈([.int .i64 b, .bool s]:List Value),u.oneCell'=true:=fun u hu=>by
 simp only [List.mem_cons,List.not_mem_nil,or_false]at hu
 rcases hu with rfl|rfl<;>rfl
theorem BN(w:World)(B g tb fq fo:Nat)(e e':Ck.Env)(b:Int)(s:Bool)(nm:ByteArray)(hs:nm.size≤maxLen)(hB:B≤w.heap.size)(h:kF w B g tb fq fo e)(h1:1≤e.lv.length)(hl:e.lv.length≤1000)(hsl:e.slots.length≤100000)(hd:e.declare b s nm.data.toList=some e'):
 Calls Try.prog 49 #[P g,W.ty b s, .string nm] w (X5 B g tb fq fo w (some e') e):=by
 have hu:e.used.contains nm.data.toList=false:=by
  unfold Ck.Env.declare at hd
  split at hd
  ·cases hd
  ·rename_i h;simpa using h
 have he':e'={e with lv:=e.lv.dropLast++[(e.lv.getLastD [])++[⟨nm.data.toList,b,s,e.slots.length⟩]],used:=e.used++[nm.data.toList],slots:=e.slots++[(b,s)]}:=by
  unfold Ck.Env.declare at hd
  rw [if_neg (by rw [hu];decide)]at hd
  injection hd with hd;exact hd.symm
 obtain⟨la,lc,ub,sa,sc,bs,h⟩:=h
 obtain⟨lb,rfl⟩:∃lb,la=some ⟨lb,0,none⟩:=by
  rcases h.lv.2 with⟨_,hn⟩|⟨g',cap,cur,ev,_⟩
  ·omega
  ·injection ev with ev;exact⟨_,ev⟩
 obtain⟨mb,hmb⟩:∃mb,bs[e.lv.length-1]?=some mb:=⟨_,List.getElem?_eq_getElem (by rw [h.len];omega)⟩
 have OX:Hid (∀w1,Below w.heap.size w w1→(Instr.lookup 84 (.map (some ub)) (.string nm) false).run Try.prog w1= .ok (.bool false) w1):=fun w1 hb=>by
  obtain⟨v,ps,hr,hv⟩:=(h.us.keep hb).look Try.underlying84 (z:= .bool false) (by kernel_rfl) (plainElem_bool Try.underlying4 false) hs
  have e1:Ck.OJ e.used nm.data.toList=none:=by unfold Ck.OJ;rw [if_neg (by rw [hu];decide)]
  rw [e1]at hv
  rw [Gv hv]at hr;exact hr
 have hk:=OX.out _ (Ext.alloc (Ext.alloc (Below.refl _ _) (.cells #[.int .i64 b, .bool s] 33)) (.cells #[.int .i64 0, .bool false, .bool false, .int .i64 0, .int .i64 0] 112))
 obtain⟨n,hn⟩:∃n,n=e.lv.length:=⟨_,rfl⟩
 obtain⟨m,hm⟩:∃m,m=e.slots.length:=⟨_,rfl⟩
 have c2:w.cell? ⟨g,2,none⟩=some (.map (some ub)):=h.blk.cell 2
 have c3:w.cell? ⟨g,3,none⟩=some (.slice sa m sc):=by rw [h.blk.cell 3,hm];rfl
 have hgl:=h.blk.lt
 have H:=Lib.hid h
 have HE:=Lib.hid he'
 have HN:=Lib.hid hn
 have HM:=Lib.hid hm
 have Dc:=Lib.hid hmb
 have iP:=Lib.hid hB
 have HS:=Lib.hid hs
 have hm1:m≤100000:=by omega
 have oL:Hid (1≤n∧n≤lc∧n≤1000):=by
  have hle:e.lv.length≤lc:=by obtain⟨_,_,e2,h2,h3⟩:=bG h.lv;injection e2 with _ _ e2;omega
  exact⟨by omega,by omega,by omega⟩
 clear h he' hn hm hmb hB hs hu hd OX h1 hl hsl
 go_enter Try.func49,Try.ntmps49
 go_upto_region 3 with(fail)
 generalize hw1:World.alloc _ _=w1
 have HB1:Hid (Below w.heap.size w w1∧ak w1 w.heap.size 33 #[.int .i64 b, .bool s]∧ak w1 (w.heap.size+1) 112 #[.int .i64 0, .bool false, .bool false, .int .i64 0, .int .i64 0]):=by
  subst hw1
  exact⟨Ext.alloc (Ext.alloc (Below.refl _ _) _) _,(ak.new w _ _).alloc _,ak.newAt _ _ (by simp)⟩
 clear hw1 hk
 have H1:=Lib.hid (H.out.keep HB1.out.1)
 have C3:Hid (ak w1 g 87 #[P tb, .slice (some ⟨lb,0,none⟩) n lc, .map (some ub), .slice sa m sc, .int .i64 (e.loops:Int), .pointer (some ⟨fq,fo,none⟩)]):=by have:=H1.out.blk;rw [←HN.out,←HM.out]at this;exact this
 clear c2 c3
 apply Ix.wp_region 8 (fun wi=>Hid (Below w1.heap.size w1 wi)) (Ix.vk [(Ix.aA (.agg #[.int .i64 b, .bool s])),(Ix.aA _),(Ix.aA _),(Ix.aA _),(Ix.aA _),(Ix.aA _),(Ix.aA _),(Ix.dU (fun v w'=>∃g,v=P g∧w1.heap.size≤g∧ak w' g 112 #[.int .i64 0, .bool false, .bool false, .int .i64 0, .int .i64 0]) (fun v w1 w2 h hb=>by obtain⟨g,e,hl,hi⟩:=h;exact⟨g,e,hl,hi.keep hb⟩))]) (fun k=>k==7) (by kernel_rfl) (by kernel_rfl) (by kernel_rfl) (fun _ _ h hb=>Ext.trans h hb) (Ix.aN _) (fun j v w hj hv=>by simp only [Bool.or_eq_true,beq_iff_eq]at hj;subst hj;(obtain⟨g,e,_,hg⟩:=hv;first|exact⟨g,e,hg.lt⟩|exact⟨g,e,hg.1⟩)) (Below.refl _ _)
 case step=>
  refine aP 7 0 1 [] (fun wi HB=>?_)<|aP 6 1 2 [] (fun wi HB=>?_)<|aP 5 2 3 [(1,some 17)] (fun wi HB=>?_)<|aP 4 3 4 [(2,some 18)] (fun wi HB=>?_)<|aP 3 4 5 [(3,some 19)] (fun wi HB=>?_)<|aP 2 5 6 [(4,some 20)] (fun wi HB=>?_)<|aP 1 6 7 [(0,some 16),(5,some 21)] (fun wi HB=>?_)<|aP 0 7 8 [] (fun wi HB=>?_)<|Ix.aC
  (·(have x0:=(HB1.out.2.1.keep HB.out).cell 0;have x1:=(HB1.out.2.1.keep HB.out).cell 1;have c3:=(C3.out.keep HB.out).cell 3;(repeat(refine aB ?_;rintro _ rfl));refine aF ?_;(try simp only [aj]);refine Ix.ah rfl rfl fun K hK=>?_;(try simp only [aj]at hK);go_wp2_with(first|fail);exact hK _ _ (Below.refl _ _) rfl))
  iterate 3(·((repeat(refine aB ?_;rintro _ rfl));refine aF ?_;(try simp only [aj]);refine Ix.ah rfl rfl fun K hK=>?_;(try simp only [aj]at hK);go_wp2_with(first|fail);exact hK _ _ (Below.refl _ _) rfl))
  iterate 2(·(have x0:=(HB1.out.2.1.keep HB.out).cell 0;have x1:=(HB1.out.2.1.keep HB.out).cell 1;have c3:=(C3.out.keep HB.out).cell 3;(repeat(refine aB ?_;rintro _ rfl));refine aF ?_;(try simp only [aj]);refine Ix.ah rfl rfl fun K hK=>?_;(try simp only [aj]at hK);go_wp2_with(first|fail);exact hK _ _ (Below.refl _ _) rfl))
  (·((repeat(refine aB ?_;rintro _ rfl));refine aF ?_;(try simp only [aj]);refine Ix.ah rfl rfl fun K hK=>?_;(try simp only [aj]at hK);go_wp2_with(first|fail);exact hK _ _ (Below.refl _ _) rfl))
  (·(have x0:=(HB1.out.2.1.keep HB.out).cell 0;have x1:=(HB1.out.2.1.keep HB.out).cell 1;have c3:=(C3.out.keep HB.out).cell 3;(repeat(refine aB ?_;rintro _ rfl));refine aF ?_;(try simp only [aj]);refine Ix.iV rfl fun K hK=>?_;(try simp only [aj]at hK);go_wp2_with(first|fail);exact hK _ (Ext.alloc (Below.refl _ _) _) ⟨_,rfl,HB.out.size,ak.new _ _ _⟩))
 intro lM wf HF hdf
 refine au 7 0 1 ?_;rintro _ _ rfl;refine au 6 1 2 ?_;rintro _ _ rfl;refine au 5 2 3 ?_;rintro _ _ rfl;refine au 4 3 4 ?_;rintro _ _ rfl;refine au 3 4 5 ?_;rintro _ _ rfl;refine au 2 5 6 ?_;rintro _ _ rfl;refine au 1 6 7 ?_;rintro _ _ rfl;refine au 0 7 8 ?_;rintro _ ev7⟨g7,rfl,Vz,wO⟩
 refine Ix.aI ?_
 have z0:=wO.cell 0;have z1:=wO.cell 1;have z2:=wO.cell 2;have z3:=wO.cell 3;have z4:=wO.cell 4;have y0:=wO.frozen 0;have y1:=wO.frozen 1;have y2:=wO.frozen 2;have y3:=wO.frozen 3;have y4:=wO.frozen 4
 (try simp only [Act.put,List.setIfInBounds_toArray,List.set_cons_zero,List.set_cons_succ,List.drop_succ_cons,List.drop_zero])
 go_wp2_with(first|fail)
 all_goals(first|refine Ix.only ?_|(refine Ix.dK fun tz=>?_))
 generalize hw2:World.setCell _ _ _=w2
 have HB2:Hid (Below w1.heap.size w1 w2∧ak w2 g7 112 #[.int .i64 b, .bool s, .bool true, .int .i64 (m:Int), .int .i64 0]):=by
  subst hw2
  exact⟨((((HF.out.setCell Vz _).setCell Vz _).setCell Vz _).setCell Vz _).setCell Vz _,by simpa using((((wO.dJ 0 (.int .i64 b)).dJ 1 (.bool s)).dJ 2 (.bool true)).dJ 3 (.int .i64 (m:Int))).dJ 4 (.int .i64 0)⟩
 have HL7:=Lib.hid Vz
 clear hw2 z0 z1 z2 z3 z4 y0 y1 y2 y3 y4 hdf wO HF Vz
 have H2:=Lib.hid (H1.out.keep HB2.out.1)
 have N8:=Lib.hid H2.out.us
 have c2:=(C3.out.keep HB2.out.1).cell 2
 rw [←HM.out]at N8
 have HMX:Hid (m<maxLen):=by show m<maxLen;unfold maxLen;omega
 go_upto_region 5 with(first|(at_mapUpdate;go_loud(refine E5 rfl _ _ _ 84 4 rfl Try.underlying84 rfl N8.out HMX.out nm HS.out rfl () (.bool true) rfl (plainElem_bool Try.underlying4 true) ?_);intro w3 hu3 hg3;have HU3:=Lib.hid hu3;have BI:=Lib.hid hg3;clear hu3 hg3))
 have ZM:Hid (∀wb,Below w3.heap.size w3 wb→ak wb g 87 #[P tb, .slice (some ⟨lb,0,none⟩) n lc, .map (some ub), .slice sa m sc, .int .i64 (e.loops:Int), .pointer (some ⟨fq,fo,none⟩)]∧wb.ownsRow B 33 2 (.slice sa m sc) m (Ck.slc e.slots)∧
  ∀wc,wb.grownBy wc (Value.slice sa m sc).ownBlock→ak wc g 87 #[P tb, .slice (some ⟨lb,0,none⟩) n lc, .map (some ub), .slice sa m sc, .int .i64 (e.loops:Int), .pointer (some ⟨fq,fo,none⟩)]):=fun wb hb=>by
  rw [HN.out,HM.out]
  have e0:=H2.out.SE BI.out hb ⟨rfl,rfl,rfl,Nat.le_refl _,fun _ _ _=>rfl⟩
  exact⟨e0.1.keep hb,e0.2.2.1,fun wc hc=>(H2.out.SE BI.out hb hc).2.2.2⟩
 have Yu:Hid (ak w3 w.heap.size 33 #[.int .i64 b, .bool s]∧w2.heap.size≤w3.heap.size):=by
  have hq:=(HB1.out.2.1.keep HB2.out.1)
  exact⟨hq.grown BI.out (fun e2=>by injection e2 with e2;exact aV hq N8.out e2.symm),BI.out.size⟩
 clear c2
 have aG:Hid (B≤w3.heap.size):=by have h1:=HB1.out.1.size;have h2:=HB2.out.1.size;have h3:=Yu.out.2;have h4:=iP.out;show B≤_;omega
 have abm:Hid (ak w3 g 87 #[P tb, .slice (some ⟨lb,0,none⟩) n lc, .map (some ub), .slice sa m sc, .int .i64 (e.loops:Int), .pointer (some ⟨fq,fo,none⟩)]):=(ZM.out w3 (Below.refl _ _)).1
 have HLO:Hid (∀k,(Value.slice sa m sc).ownBlock=some k→k<w3.heap.size):=fun k hk=>(aK (ZM.out w3 (Below.refl _ _)).2.1 k hk).2
 have HLB:Hid (∀k,(Value.slice sa m sc).ownBlock=some k→w.heap.size≠k):=fun k hk=>by have h0:=H.out.sl;rw [←HM.out]at h0;have:=(aK h0 k hk).2;omega
 obtain⟨iI,hi,hz0,hz1,hz2⟩:=info_parts yw
 apply Iy.wp_region 8 [7] (fun _=>[]) (Ix.Rb) (fun k vs wi=>(Hid (ak wi w.heap.size 33 #[.int .i64 b, .bool s])∧Hid (ak wi g 87 #[P tb, .slice (some ⟨lb,0,none⟩) n lc, .map (some ub), .slice sa m sc, .int .i64 (e.loops:Int), .pointer (some ⟨fq,fo,none⟩)])∧Hid (w3.heap.size≤wi.heap.size))∧(match k with|0=>Hid (Below w3.heap.size w3 wi)|_+1=>True)) (Ix.vk [(Ix.aA _),(Ix.aA _),(Ix.aA _),(Ix.aA _),(Ix.aA _),(Ix.aA (.agg #[.int .i64 b, .bool s])),(Ix.dU (fun v w'=>∃g1,v=Value.slice (some ⟨g1,0,none⟩) 1 1∧w3.heap.size≤g1∧ak w' g1 33 #[.int .i64 b, .bool s]) (fun v w1 w2 h hb=>by obtain⟨g1,e,hl,hi⟩:=h;exact⟨g1,e,hl,hi.keep hb⟩)),(Ix.dU (fun v w'=>∃a c wb wc,v=Value.slice a (m+1) c∧Below w3.heap.size w3 wb∧wb.grownBy wc (Value.slice sa m sc).ownBlock∧wc.ownsRow B 33 2 (.slice a (m+1) c) (m+1) (Ck.slc e.slots++[.int .i64 b, .bool s])∧Below wc.heap.size wc w') (fun v w1 w2 h hb=>by obtain⟨a,c,wb,wc,e1,h1,h2,h3,h4⟩:=h;exact⟨a,c,wb,wc,e1,h1,h2,h3,Ext.trans h4 hb⟩))]) (fun _=>false) (by kernel_rfl) (by kernel_rfl) (by kernel_rfl) (by kernel_rfl) (by kernel_rfl) (fun _ _ _ _ _ h=>h) (fun _=>Below.refl _ _) (fun k vs _ _ h hb=>⟨⟨h.1.1.out.keep hb,h.1.2.1.out.keep hb,Nat.le_trans h.1.2.2.out hb.size⟩,by cases k with|zero=>exact Ext.trans h.2.out hb|succ k=>trivial⟩) (Ix.aN _) (Ix.bP _) (fun vs=>⟨⟨Yu.out.1.drew,abm.drew,Nat.le_refl _⟩,(Below.refl _ _).drew⟩)
 case step=>
  refine aZ 7 0 1 [] (fun _ _ wi HB=>?_)<|aZ 6 1 2 [] (fun _ _ wi HB=>?_)<|aZ 5 2 3 [(1,some 29)] (fun _ _ wi HB=>?_)<|aZ 4 3 4 [(2,some 30)] (fun _ _ wi HB=>?_)<|aZ 3 4 5 [(3,some 31)] (fun _ _ wi HB=>?_)<|aZ 2 5 6 [] (fun _ _ wi HB=>?_)<|aZ 1 6 7 [(5,some 33)] (fun _ _ wi HB=>?_)<|Aw 0 7 8 0 [(4,some 32),(6,some 34)] (fun ji wi HB=>?_)<|Iy.aC
  iterate 4(·((repeat(refine aB ?_;rintro _ rfl));refine aF ?_;(try simp only [aj]);refine Iy.ah rfl rfl fun K hK=>?_;(try simp only [aj]at hK);go_wp2_with(first|fail);exact hK _ _ (Below.refl _ _) rfl))
  iterate 2(·(obtain⟨⟨HX,HG,wP⟩,HO⟩:=HB;have x0:=HX.out.cell 0;have x1:=HX.out.cell 1;have c3:=HG.out.cell 3;(repeat(refine aB ?_;rintro _ rfl));refine aF ?_;(try simp only [aj]);refine Iy.ah rfl rfl fun K hK=>?_;(try simp only [aj]at hK);go_wp2_with(first|fail);exact hK _ _ (Below.refl _ _) rfl))
  (·(obtain⟨⟨HX,HG,wP⟩,HO⟩:=HB;have x0:=HX.out.cell 0;have x1:=HX.out.cell 1;have c3:=HG.out.cell 3;(repeat(refine aB ?_;rintro _ rfl));refine aF ?_;(try simp only [aj]);refine Iy.ah rfl rfl fun K hK=>?_;(try simp only [aj]at hK);go_wp2_with(first|fail);exact hK _ _ (Ext.alloc (Below.refl _ _) _) ⟨_,rfl,wP.out,ak.new _ _ _⟩))
  (·(obtain⟨⟨HX,HG,wP⟩,HO⟩:=HB;have x0:=HX.out.cell 0;have x1:=HX.out.cell 1;have c3:=HG.out.cell 3;refine aB ?_;rintro _⟨rfl,Zj⟩;refine aB ?_;rintro _⟨⟨g1,rfl,hl1,hg1⟩,ev6⟩;refine aF ?_;(try simp only [aj]);refine Iy.ah rfl rfl fun K hK=>?_;(try simp only [aj]at hK);refine wp_append_own _ _ _ 85 rfl B 33 iI (.agg #[.int .i64 0, .bool false]) 2 16 Try.underlying85 hi hz0 hz1 hz2 rfl (by decide) (.slice sa m sc) m (Ck.slc e.slots) rfl (ZM.out _ HO.out).2.1 ⟨g1,0,none⟩ 1 1 [.int .i64 b, .bool s] rfl rfl (TL hg1) Gs (by unfold maxLen;omega) (by omega) (Nat.le_trans aG.out wP.out) ?_;intro v' w' ho hgr hnl;exact hK _ _ ⟨⟨⟨HX.out.grown hgr (D7 HLB.out),HG.out.grown hgr (bn (ZM.out _ HO.out).2.1 HG.out jK),Nat.le_trans wP.out hgr.size⟩,True.intro⟩,Iy.dG (by repeat(first|exact True.intro|refine And.intro (fun _ h=>h) ?_|refine And.intro (fun hne=>absurd rfl hne) ?_|refine And.intro (fun _ h=>Cc HLO.out hgr h) ?_))⟩ (Rn HO.out ho hgr)))
 intro lM wf HF hdf
 refine au 7 0 1 ?_;rintro _ _ rfl;refine au 6 1 2 ?_;rintro _ _ rfl;refine au 5 2 3 ?_;rintro _ _ rfl;refine au 4 3 4 ?_;rintro _ _ rfl;refine au 3 4 5 ?_;rintro _ _ rfl;refine au 2 5 6 ?_;rintro _ _ rfl;refine au 1 6 7 ?_;rintro _ _⟨g1,rfl,hl1,hg1⟩;refine au 0 7 8 ?_;rintro _ _⟨a',c',wb,wc,rfl,hb3,hgr,hown,hbc⟩
 refine Ix.aI ?_
 obtain⟨⟨HX,HG,wP⟩,_⟩:=HF;have d3:=HG.out.cell 3;have e3:=HG.out.frozen 3
 (try simp only [Act.put,List.setIfInBounds_toArray,List.set_cons_zero,List.set_cons_succ,List.drop_succ_cons,List.drop_zero])
 go_wp2_with(first|fail)
 all_goals(first|refine Ix.only ?_|(refine Ix.dK fun tz=>?_))
 have hgf:wb.grownBy wf (Value.slice sa m sc).ownBlock:=⟨hbc.os.trans hgr.os,hbc.tape.trans hgr.tape,hbc.output.trans hgr.output,Nat.le_trans hgr.size hbc.size,fun k hk hne=>(hbc.block k (Nat.lt_of_lt_of_le hk hgr.size)).trans (hgr.block k hk hne)⟩
 have hof:=aU hown fun k hk=>hbc.block k (aK hown k hk).2
 generalize hw5:World.setCell _ _ _=w5
 have Au:Hid (ak w5 g 87 #[P tb, .slice (some ⟨lb,0,none⟩) n lc, .map (some ub), .slice a' (m+1) c', .int .i64 (e.loops:Int), .pointer (some ⟨fq,fo,none⟩)]):=by
  subst hw5
  have h0:=HG.out.dJ 3 (.slice a' (m+1) c')
  show ak _ _ _ _
  simpa using h0
 have HST:Hid (∀k,k<w2.heap.size→k≠ub→k≠g→some k≠(Value.slice sa m sc).ownBlock→w5.heap[k]?=w2.heap[k]?):=by
  subst hw5
  intro k h1 h2 h3 h4
  rw [HM.out]at h4 hgf
  exact H2.out.stay BI.out hb3 hgf k h1 h2 h3 h4
 have HTP:=Lib.hid (H2.out.top Dc.out)
 have Pv:Hid (w5.cell? ⟨lb,n-1,none⟩=some (.map (some mb))):=by
  have h0:=HTP.out
  rw [←HN.out,←HM.out]at h0
  show w5.cell? _=_
  rw [World.cell?_of_block (w:=w2) (HST.out lb h0.2.1 h0.2.2.1 h0.2.2.2.1 h0.2.2.2.2)];exact h0.1
 have HSL:=Lib.hid H2.out.sl
 have JW:Hid (ak w5 g7 112 #[.int .i64 b, .bool s, .bool true, .int .i64 (m:Int), .int .i64 0]):=(HST.out g7 HB2.out.2.lt (fun e2=>aV HB2.out.2 N8.out e2.symm) (HB2.out.2.XV H2.out.blk (by decide)) (by rw [HM.out];exact bn HSL.out HB2.out.2 (by decide))).trans HB2.out.2
 have hr2:=HB1.out.2.2.keep HB2.out.1
 have X8:Hid (ak w5 (w.heap.size+1) 112 #[.int .i64 0, .bool false, .bool false, .int .i64 0, .int .i64 0]):=(HST.out _ hr2.lt (fun e2=>aV hr2 N8.out e2.symm) (hr2.XV H2.out.blk (by decide)) (by rw [HM.out];exact bn HSL.out hr2 (by decide))).trans hr2
 have hm2:=(H2.out.maps _ mb Dc.out).2
 have HM5:Hid (SMap FD Ck.uD w5 mb m (Ck.wQ (e.lv.getLastD []))):=by
  have h1:1≤e.lv.length:=by rw [←HN.out];exact oL.out.1
  have h0:=H2.out.last h1 Dc.out
  rw [←HM.out]at h0
  exact h0.same (HST.out mb h0.lt (fun e2=>(List.nodup_cons.1 H2.out.nd).1 (e2▸List.mem_of_getElem? Dc.out)) (aV H2.out.blk h0) (by rw [HM.out];exact bW HSL.out h0))
 have RZ:Hid (∀wd,w5.grownBy wd (some mb)→SMap FD Ck.uD wd mb (m+1) (fun l=>if l=nm.data.toList then some ⟨nm.data.toList,b,s,m⟩else Ck.wQ (e.lv.getLastD []) l)→kF wd B g tb fq fo e'∧Below B w2 wd∧Kx w2 wd):=fun wd h1 h2=>by
  subst hw5
  have hb2:B≤w2.heap.size:=Nat.le_trans iP.out (Nat.le_trans HB1.out.1.size HB2.out.1.size)
  have hl1:1≤e.lv.length:=by rw [←HN.out];exact oL.out.1
  have hu3:=HU3.out
  rw [HM.out]at h1 h2 hof hgf hu3
  obtain⟨k1,k2⟩:=H2.out.declared (b:=0) hb2 hl1 Dc.out b BI.out hu3 hb3 hof hgf h1 h2
  rw [HE.out]
  exact⟨⟨_,_,_,_,_,_,k1⟩,k2⟩
 have HIJ:=Lib.hid (And.intro hi (And.intro hz0 (And.intro hz1 hz2)))
 clear hm2 hr2 hw5 d3 e3 hgf hof hbc hgr hown hb3 hi hz0 hz1 hz2
 have hn1:=oL.out.1;have hn2:=oL.out.2.1;have hn3:=oL.out.2.2
 have i1:((n:Int)-1).toNat=n-1:=by omega
 have hi0:0≤(n:Int)-1:=by omega
 have hi2:(n:Int)-1<(n:Int):=by omega
 have hi3:(n:Int)≤9223372036854775807:=by omega
 have p0:=JW.out.cell 0;have p1:=JW.out.cell 1;have p2:=JW.out.cell 2;have p3:=JW.out.cell 3;have p4:=JW.out.cell 4
 have c1:=Au.out.cell 1
 have l5:=Pv.out
 have Yv:SMap FD Ck.uD w5.drew mb m (Ck.wQ (e.lv.getLastD [])):=HM5.out.same rfl
 obtain⟨w6,hr6,hm6,zf⟩:=Yv.put (v:=⟨nm.data.toList,b,s,m⟩) (val:=zM b s true m 0) Try.underlying135 HMX.out HS.out (LV _ _ _ _ _)
 have hgu:w5.grownBy w6 (some mb):=aH.y8 zf
 have HF6:=Lib.hid (RZ.out w6 hgu hm6)
 have hpm:∀(t:TypeId)(cs:Array Value)(k:Nat),ak w5 k t cs→ak w6 k t cs:=fun t cs k hb=>hb.grown hgu (fun e2=>by injection e2 with e2;exact aV hb HM5.out e2.symm)
 have q6:=hpm _ _ _ JW.out
 have r6:=hpm _ _ _ X8.out
 have mM:=Lib.hid (And.intro q6 r6)
 clear hpm q6 r6 hgu zf hm6 Yv
 go_upto_region 6 with(fail)
 refine Rg.wp_region [] (by kernel_rfl) (by kernel_rfl) ?_
 repeat(first|(refine Rg.cO ?_)|(refine Rg.bJ rfl ?_;simp only [Act.put,List.setIfInBounds_toArray,List.set_cons_zero,List.set_cons_succ])|(refine Rg.fP rfl rfl (fun K hK=>?_);go_big_quiet_op;refine hK _ ?_;clear hK K)|(refine Rg.fQ rfl rfl (fun K hK=>?_);go_wp2_with(first|fail|fail)))
 clear p0 p1 p2 p3 p4 c1 l5 hr6
 have p0:=mM.out.1.cell 0;have p1:=mM.out.1.cell 1;have p2:=mM.out.1.cell 2;have p3:=mM.out.1.cell 3;have p4:=mM.out.1.cell 4
 have r0:=mM.out.2.cell 0;have r1:=mM.out.2.cell 1;have r2:=mM.out.2.cell 2;have r3:=mM.out.2.cell 3;have r4:=mM.out.2.cell 4
 have s0:=mM.out.2.frozen 0;have s1:=mM.out.2.frozen 1;have s2:=mM.out.2.frozen 2;have s3:=mM.out.2.frozen 3;have s4:=mM.out.2.frozen 4
 go_wp2
 have hset:∀(W:World)(o:Nat)(u:Value),(∀k,k≠w.heap.size+1→W.heap[k]?=w6.heap[k]?)→∀k,k≠w.heap.size+1→(W.setCell ⟨w.heap.size+1,o,none⟩ u).heap[k]?=w6.heap[k]?:=fun W o u h k hk=>(Below.heap_setCell W ⟨w.heap.size+1,o,none⟩ u k hk).trans (h k hk)
 have hse:=hset _ 4 (.int .i64 0) (hset _ 3 (.int .i64 (m:Int)) (hset _ 2 (.bool true) (hset _ 1 (.bool s) (hset w6 0 (.int .i64 b) (fun _ _=>rfl)))))
 have HSE:=Lib.hid hse
 have hBr:B≤w.heap.size+1:=Nat.le_succ_of_le iP.out
 have iM:Hid (Below B w w6):=(HB1.out.1.mono iP.out).trans ((HB2.out.1.mono (Nat.le_trans iP.out HB1.out.1.size)).trans HF6.out.2.1)
 have Yw:Hid (Below B w (((((w6.setCell ⟨w.heap.size+1,0,none⟩ (.int .i64 b)).setCell ⟨w.heap.size+1,1,none⟩ (.bool s)).setCell ⟨w.heap.size+1,2,none⟩ (.bool true)).setCell ⟨w.heap.size+1,3,none⟩ (.int .i64 (m:Int))).setCell ⟨w.heap.size+1,4,none⟩ (.int .i64 0))):=((((iM.out.setCell hBr _).setCell hBr _).setCell hBr _).setCell hBr _).setCell hBr _
 have HKX:Hid (Kx w (((((w6.setCell ⟨w.heap.size+1,0,none⟩ (.int .i64 b)).setCell ⟨w.heap.size+1,1,none⟩ (.bool s)).setCell ⟨w.heap.size+1,2,none⟩ (.bool true)).setCell ⟨w.heap.size+1,3,none⟩ (.int .i64 (m:Int))).setCell ⟨w.heap.size+1,4,none⟩ (.int .i64 0))):=by
  have ka:Kx w w6:=((Kx.below HB1.out.1).trans (Kx.below HB2.out.1)).trans HF6.out.2.2
  exact ka.res (Nat.le_succ _) HSE.out
 have JO:Hid (kF (((((w6.setCell ⟨w.heap.size+1,0,none⟩ (.int .i64 b)).setCell ⟨w.heap.size+1,1,none⟩ (.bool s)).setCell ⟨w.heap.size+1,2,none⟩ (.bool true)).setCell ⟨w.heap.size+1,3,none⟩ (.int .i64 (m:Int))).setCell ⟨w.heap.size+1,4,none⟩ (.int .i64 0)) B g tb fq fo e'):=by
  obtain⟨la,lc,ub,sa,sc,bs,h⟩:=HF6.out.1
  exact⟨_,_,_,_,_,_,h.other mM.out.2 (by decide) (by decide) (by decide) HSE.out⟩
 have hrw:w.heap.size+1<w6.heap.size:=mM.out.2.lt
 clear hset hse hBr
 exact bodyPost_ret (v:= .tuple #[zM b s true m 0, .bool true]) (by simp [results,Try.results49,go_sem,r0,r1,r2,r3,r4,hrw]) rfl ⟨_,rfl,⟨_,_,_,_,_,rfl⟩,⟨Yw.out,HKX.out⟩,JO.out⟩
end Go.Proofs.Ythdckndjggljpaa
