/- Proofs of this claim, part 36. No condition. -/
import Derived.Test.YthdckndjggljpaaS35
namespace Go.Proofs.Ythdckndjggljpaa
set_option linter.unusedVariables false
set_option linter.unusedSimpArgs false
set_option maxRecDepth 100000
set_option maxHeartbeats 64000000
open Go.RowKit Go.Maps
namespace Ck
theorem y7(P0:Pg)(e:Env)(ks:List X):(tys P0 e ks).length=ks.length:=by
 induction ks with
 |nil=>rw [tys];rfl
 |cons k ks ih=>rw [tys,List.length_cons,ih,List.length_cons]
theorem F8(P0:Pg)(e:Env)(ks:List X)(j:Nat):(tys P0 e ks)[j]?=(ks[j]?).map fun y=>(ty P0 e y).val:=by
 induction ks generalizing j with
 |nil=>rw [tys];rfl
 |cons k ks ih=>
  rw [tys]
  cases j with
  |zero=>rfl
  |succ j=>rw [List.getElem?_cons_succ,List.getElem?_cons_succ];exact ih j
theorem vC{ts:List Ty}{j:Nat}{t:Ty}(h:first (ts.take j)=0)(ht:ts[j]?=some t)(hne:t.e≠0):first ts=t.e:=by
 induction ts generalizing j with
 |nil=>simp at ht
 |cons u ts ih=>
  cases j with
  |zero=>simp at ht;subst ht;rw [first,if_neg hne]
  |succ j=>
   rw [List.take_succ_cons,first]at h
   split at h
   ·rename_i h1;rw [first,if_pos h1];exact ih h (by simpa using ht)
   ·rename_i h1;exact absurd h h1
theorem vw{ts:List Ty}{j:Nat}{t:Ty}(h:first (ts.take j)=0)(ht:ts[j]?=some t)(hz:t.e=0):first (ts.take (j+1))=0:=by
 induction ts generalizing j with
 |nil=>simp at ht
 |cons u ts ih=>
  cases j with
  |zero=>simp at ht;subst ht;simp [first,hz]
  |succ j=>
   rw [List.take_succ_cons,first]at h⊢
   split at h
   ·rename_i h1;rw [if_pos h1];exact ih h (by simpa using ht)
   ·rename_i h1;exact absurd h h1
end Ck
theorem P9(w:World)(B g tb fq fo gb fb q off:Nat)(e:Ck.Env)(P0:Pg)(v0 v1:Value)(n b:Int)(s:Bool)(nm:ByteArray)(hs:nm.size≤maxLen)(ks:List X)(hk8:ks.length≤8)(HK:∀y∈ks,WG B g tb fq fo gb fb e P0 v0 v1 y)(hc:Cx w B g tb fq fo gb fb e P0 v0 v1)(hx:D8 w B (.mk 4 n b s nm ks) q off):
 Calls Try.prog 98 #[P g, .pointer (some ⟨q,off,none⟩)] w (OV w (Ck.jv P0 e 4 b s nm.data.toList (Ck.tys P0 e ks))):=by
 obtain⟨V,hV⟩:∃V,V=Ck.jv P0 e 4 b s nm.data.toList (Ck.tys P0 e ks):=⟨_,rfl⟩
 rw [←hV]
 unfold Ck.jv at hV
 rw [if_pos rfl]at hV
 obtain⟨a,c,hxc⟩:=hx.parts
 obtain⟨L,hL⟩:∃L,L=ks.length:=⟨_,rfl⟩
 rw [←hL]at hxc hk8
 have HX:=Lib.hid hxc
 have HC:=Lib.hid hc
 have Qa:=Lib.hid hV
 have HL:=Lib.hid hL
 have HKK:=Lib.hid HK
 have Io:Hid (∀w1:World,Below w.heap.size w w1→Calls Try.prog 101 #[P tb, .string nm] w1 (Zb w1 (Ck.called P0 nm.data.toList))):=fun w1 hb=>Ip w1 B tb gb fb nm hs P0 v0 v1 (hc.keep hb).tb hc.ps
 have xQ:Hid (∀w1,Below w.heap.size w w1→w1.cell? ⟨g,0,none⟩=some (P tb)):=fun w1 hb=>by
  obtain⟨_,_,_,_,_,_,h⟩:=(hc.keep hb).sc;exact h.blk.cell 0
 have ig:Hid (∀w1,Below w.heap.size w w1→XC w1 B 4 n b s nm ks a L c q off):=fun w1 hb=>hxc.below (hb.mono hc.tb.le)
 clear hV hx hL hxc hc HK hs
 go_enter Try.func98,Try.ntmps98
 go_upto_region 1 with(fail)
 generalize hw1:World.alloc _ _=w1
 have H1:Hid (Below w.heap.size w w1∧ak w1 w.heap.size 33 #[.int .i64 0, .bool false]):=by
  subst hw1;exact⟨Ext.alloc (Below.refl _ _) _,ak.new _ _ _⟩
 clear hw1
 cases hca:Ck.called P0 nm.data.toList with
 |none=>
  rw [hca]at Qa Io
  have HV:Hid (V=⟨0,false,7⟩):=Qa.out
  clear hca
  apply Iy.wp_region 16 [14] (fun n=>if n=0 then[]else[13]) (Ix.Rb) (fun m vs wi=>Hid (Below w1.heap.size w1 wi)∧(match m with|0=>True|_+1=>∀t,vs 13=Value.pointer (some ⟨t,0,none⟩)→ak wi t 33 #[.int .i64 0, .bool false])) (Ix.vk [(Ix.aA _),(Ix.aA _),(Ix.aA _),(Ix.aA _),(Ix.aA _),(Ix.aA _),(Ix.aA _),(Ix.aA _),(Ix.aA (.tuple #[W.ty 0 false, .slice none 0 0, .bool false])),(Ix.aA _),(Ix.aA _),(Ix.aA _),(Ix.aA _),(Ix.dU (fun v w'=>∃t,v=Value.pointer (some ⟨t,0,none⟩)∧w1.heap.size≤t∧∃(a0:Int)(a1:Bool),ak w' t 33 #[.int .i64 a0, .bool a1]) (fun v w1 w2 h hb=>by obtain⟨t,e,hl,a0,a1,hi⟩:=h;exact⟨t,e,hl,a0,a1,hi.keep hb⟩)),(Ix.mY (fun _=>True)),(Ix.aA _)]) (fun k=>k==13) (by kernel_rfl) (by kernel_rfl) (by kernel_rfl) (by kernel_rfl) (by kernel_rfl) (fun n vs vs' w hk h=>by cases n with|zero=>exact h|succ n=>exact⟨h.1,fun g e=>h.2 g ((hk 13 (by simp)).trans e)⟩) (fun _=>Below.refl _ _) (fun n vs _ _ h hb=>⟨Ext.trans h.1.out hb,by cases n with|zero=>trivial|succ n=>exact fun g e=>(h.2 g e).keep hb⟩) (Ix.aN _) (fun j v w hj hv=>by simp only [beq_iff_eq]at hj;subst hj;obtain⟨t,e,_,a0,a1,hg⟩:=hv;exact⟨t,e,hg.lt⟩) (fun vs=>⟨(Below.refl _ _).drew,trivial⟩)
  case step=>
   refine aZ 15 0 1 [] (fun _ _ wi HB=>?_)<|aZ 14 1 2 [(0,some 13)] (fun _ _ wi HB=>?_)<|aZ 13 2 3 [(1,some 14)] (fun _ _ wi HB=>?_)<|aZ 12 3 4 [(2,some 15)] (fun _ _ wi HB=>?_)<|aZ 11 4 5 [] (fun _ _ wi HB=>?_)<|aZ 10 5 6 [(4,some 17)] (fun _ _ wi HB=>?_)<|aZ 9 6 7 [(5,some 18)] (fun _ _ wi HB=>?_)<|aZ 8 7 8 [(6,some 19)] (fun _ _ wi HB=>?_)<|aZ 7 8 9 [(3,some 16),(7,some 20)] (fun _ _ wi HB=>?_)<|aZ 6 9 10 [(8,some 21)] (fun _ _ wi HB=>?_)<|aZ 5 10 11 [(9,some 12)] (fun _ _ wi HB=>?_)<|aZ 4 11 12 [(9,some 12)] (fun _ _ wi HB=>?_)<|aZ 3 12 13 [(9,some 12)] (fun _ _ wi HB=>?_)<|aZ 2 13 14 [] (fun _ _ wi HB=>?_)<|Aw 1 14 15 0 [(10,some 22),(13,some 6)] (fun ji wi HB=>?_)<|aZ 0 15 16 [(11,some 23)] (fun _ _ wi HB=>?_)<|Iy.aC
   iterate 3(·((repeat(refine aB ?_;rintro _ rfl));refine aF ?_;(try simp only [aj]);refine Iy.ah rfl rfl fun K hK=>?_;(try simp only [aj]at hK);go_wp2_with(first|fail);exact hK _ _ (Below.refl _ _) rfl))
   (·(obtain⟨HB,_⟩:=HB;have c4:=(ig.out _ (Ext.trans H1.out.1 HB.out)).c4;have g0:=xQ.out _ (Ext.trans H1.out.1 HB.out);(repeat(refine aB ?_;rintro _ rfl));refine aF ?_;(try simp only [aj]);refine Iy.ah rfl rfl fun K hK=>?_;(try simp only [aj]at hK);go_wp2_with(first|fail);exact hK _ _ (Below.refl _ _) rfl))
   iterate 3(·((repeat(refine aB ?_;rintro _ rfl));refine aF ?_;(try simp only [aj]);refine Iy.ah rfl rfl fun K hK=>?_;(try simp only [aj]at hK);go_wp2_with(first|fail);exact hK _ _ (Below.refl _ _) rfl))
   (·(obtain⟨HB,_⟩:=HB;have c4:=(ig.out _ (Ext.trans H1.out.1 HB.out)).c4;have g0:=xQ.out _ (Ext.trans H1.out.1 HB.out);(repeat(refine aB ?_;rintro _ rfl));refine aF ?_;(try simp only [aj]);refine Iy.ah rfl rfl fun K hK=>?_;(try simp only [aj]at hK);go_wp2_with(first|fail);exact hK _ _ (Below.refl _ _) rfl))
   (·(obtain⟨HB,_⟩:=HB;have c4:=(ig.out _ (Ext.trans H1.out.1 HB.out)).c4;have g0:=xQ.out _ (Ext.trans H1.out.1 HB.out);(repeat(refine aB ?_;rintro _ rfl));refine aF ?_;(try simp only [aj]);refine Iy.ah rfl rfl fun K hK=>?_;(try simp only [aj]at hK);go_wp2_with(first|(go_at_call 101;refine(Io.out _ (Ext.trans H1.out.1 HB.out)).mono ?_;rintro e wa⟨hba,rfl⟩));exact hK _ _ hba rfl))
   iterate 4(·((repeat(refine aB ?_;rintro _ rfl));refine aF ?_;(try simp only [aj]);refine Iy.ah rfl rfl fun K hK=>?_;(try simp only [aj]at hK);go_wp2_with(first|fail);exact hK _ _ (Below.refl _ _) rfl))
   (·(obtain⟨HB,_⟩:=HB;have c4:=(ig.out _ (Ext.trans H1.out.1 HB.out)).c4;have g0:=xQ.out _ (Ext.trans H1.out.1 HB.out);(repeat(refine aB ?_;rintro _ rfl));refine aF ?_;(try simp only [aj]);refine Iy.iV rfl fun K hK=>?_;(try simp only [aj]at hK);go_wp2_with(first|fail);exact hK _ (Ext.alloc (Below.refl _ _) _) ⟨_,rfl,HB.out.size,0,false,ak.new _ _ _⟩))
   (·(obtain⟨HB,_⟩:=HB;refine aB ?_;rintro _⟨rfl,sW⟩;refine aB ?_;rintro _⟨⟨t,rfl,htl,a0,a1,hgb⟩,uV⟩;refine aF ?_;have i0:=hgb.cell 0;have i1:=hgb.cell 1;have z0:=hgb.frozen 0;have z1:=hgb.frozen 1;(try simp only [aj]);refine Iy.ah rfl rfl fun K hK=>?_;(try simp only [aj]at hK);go_wp2_with(first|fail);exact hK undef _ ⟨⟨Ext.setCell (Ext.setCell HB.out htl _) htl _,TJ uV (qo hgb 0 false)⟩,Iy.dG (by repeat(first|exact True.intro|refine And.intro (fun _ h=>h) ?_|refine And.intro (fun hne=>absurd rfl hne) ?_|refine And.intro (fun _ h=>yZ hgb 0 false h) ?_))⟩ trivial))
   (·((repeat(refine aB ?_;rintro _ rfl));refine aF ?_;(try simp only [aj]);refine Iy.ah rfl rfl fun K hK=>?_;(try simp only [aj]at hK);go_wp2_with(first|fail);exact hK _ _ (Below.refl _ _) rfl))
  intro lM wf HF hdf
  refine au 15 0 1 ?_;rintro _ _ rfl;refine au 14 1 2 ?_;rintro _ _ rfl;refine au 13 2 3 ?_;rintro _ _ rfl;refine au 12 3 4 ?_;rintro _ _ rfl;refine au 11 4 5 ?_;rintro _ _ rfl;refine au 10 5 6 ?_;rintro _ _ rfl;refine au 9 6 7 ?_;rintro _ _ rfl;refine au 8 7 8 ?_;rintro _ _ rfl;refine au 7 8 9 ?_;rintro _ _ rfl;refine au 6 9 10 ?_;rintro _ _ rfl;refine au 5 10 11 ?_;rintro _ _ rfl;refine au 4 11 12 ?_;rintro _ _ rfl;refine au 3 12 13 ?_;rintro _ _ rfl;refine au 2 13 14 ?_;rintro _ uV⟨t,rfl,htl,a0,a1,hgb⟩;refine au 1 14 15 ?_;rintro _ _ _;refine au 0 15 16 ?_;rintro _ _ rfl
  refine Ix.aI ?_
  obtain⟨Qb,hgf⟩:=HF;have HG:=Lib.hid (hgf t uV);clear hgf hgb
  (try simp only [Act.put,List.setIfInBounds_toArray,List.set_cons_zero,List.set_cons_succ,List.drop_succ_cons,List.drop_zero])
  go_wp2_with(first|fail)
  all_goals(first|refine Ix.only ?_|(refine Ix.dK fun tz=>?_))
  have hq:=H1.out.2.keep Qb
  have x0:=hq.cell 0;have x1:=hq.cell 1;have u0:=hq.frozen 0;have u1:=hq.frozen 1
  have HQ:=Lib.hid hq
  have WH:=hq.lt
  have g0:=HG.out.cell 0;have g1:=HG.out.cell 1
  have hgl:=HG.out.lt
  have aG:Hid (Below w.heap.size w wf):=Ext.trans H1.out.1 Qb
  have XG:=Lib.hid Qb
  clear hq hdf Qb
  go_wp2
  generalize hW:World.setCell _ _ _=wz
  have HW:Hid (ak wz w.heap.size 33 #[.int .i64 0, .bool false]∧Below w.heap.size w wz):=by
   subst hW
   exact⟨aW HQ.out _ _,Ext.setCell (Ext.setCell aG.out (Nat.le_refl _) _) (Nat.le_refl _) _⟩
  clear hW x0 x1 u0 u1
  have q0:=HW.out.1.cell 0;have q1:=HW.out.1.cell 1
  have ql:=HW.out.1.lt
  exact bodyPost_ret (v:= .tuple #[W.ty 0 false, .int .i64 7]) (by simp [results,Try.results98,go_sem,q0,q1,ql]) rfl ⟨0,false,by rw [HV.out],fun h=>by rw [HV.out]at h;exact absurd (show(7:Int)=0 from h) (by decide),HW.out.2⟩
 |some r=>
  obtain⟨⟨r1,r2⟩,ps⟩:=r
  rw [hca]at Qa Io
  have hvd:=Qa.out
  obtain⟨NP,hNP⟩:∃NP,NP=ps.length:=⟨_,rfl⟩
  have aaJ:Hid (∀w1:World,Below w.heap.size w w1→Calls Try.prog 101 #[P tb, .string nm] w1 (fun e w'=>Below w1.heap.size w1 w'∧∃a c,e= .returned (.tuple #[W.ty r1 r2, .slice a NP c, .bool true]))):=fun w1 hb=>(Io.out w1 hb).mono fun e w'⟨h1,a,c,h2,_⟩=>⟨h1,a,c,by rw [hNP];exact h2⟩
  simp only [←hNP,Ck.y7,←HL.out]at hvd
  have Ui:=Lib.hid hvd
  clear hca hvd hNP Qa Io
  apply Iy.wp_region 16 [14] (fun n=>if n=0 then[]else[13]) (Ix.Rb) (fun m vs wi=>Hid (Below w1.heap.size w1 wi)∧(match m with|0=>True|_+1=>∀t,vs 13=Value.pointer (some ⟨t,0,none⟩)→ak wi t 33 #[.int .i64 r1, .bool r2])) (Ix.vk [(Ix.aA _),(Ix.aA _),(Ix.aA _),(Ix.aA _),(Ix.aA _),(Ix.aA _),(Ix.aA _),(Ix.aA _),(Ix.dU (fun v w'=>∃a c,v=Value.tuple #[W.ty r1 r2, .slice a NP c, .bool true]) (fun v w1 w2 h hb=>h)),(Ix.dU (fun v w'=>∃a c,v=Value.tuple #[W.ty r1 r2, .slice a NP c, .bool true]) (fun v w1 w2 h hb=>h)),(Ix.aA _),(Ix.dU (fun v w'=>∃a c,v=Value.slice a NP c) (fun v w1 w2 h hb=>h)),(Ix.aA _),(Ix.dU (fun v w'=>∃t,v=Value.pointer (some ⟨t,0,none⟩)∧w1.heap.size≤t∧∃(a0:Int)(a1:Bool),ak w' t 33 #[.int .i64 a0, .bool a1]) (fun v w1 w2 h hb=>by obtain⟨t,e,hl,a0,a1,hi⟩:=h;exact⟨t,e,hl,a0,a1,hi.keep hb⟩)),(Ix.mY (fun _=>True)),(Ix.dU (fun v w'=>∃a c,v=Value.slice a NP c) (fun v w1 w2 h hb=>h))]) (fun k=>k==13) (by kernel_rfl) (by kernel_rfl) (by kernel_rfl) (by kernel_rfl) (by kernel_rfl) (fun n vs vs' w hk h=>by cases n with|zero=>exact h|succ n=>exact⟨h.1,fun g e=>h.2 g ((hk 13 (by simp)).trans e)⟩) (fun _=>Below.refl _ _) (fun n vs _ _ h hb=>⟨Ext.trans h.1.out hb,by cases n with|zero=>trivial|succ n=>exact fun g e=>(h.2 g e).keep hb⟩) (Ix.aN _) (fun j v w hj hv=>by simp only [beq_iff_eq]at hj;subst hj;obtain⟨t,e,_,a0,a1,hg⟩:=hv;exact⟨t,e,hg.lt⟩) (fun vs=>⟨(Below.refl _ _).drew,trivial⟩)
  case step=>
   refine aZ 15 0 1 [] (fun _ _ wi HB=>?_)<|aZ 14 1 2 [(0,some 13)] (fun _ _ wi HB=>?_)<|aZ 13 2 3 [(1,some 14)] (fun _ _ wi HB=>?_)<|aZ 12 3 4 [(2,some 15)] (fun _ _ wi HB=>?_)<|aZ 11 4 5 [] (fun _ _ wi HB=>?_)<|aZ 10 5 6 [(4,some 17)] (fun _ _ wi HB=>?_)<|aZ 9 6 7 [(5,some 18)] (fun _ _ wi HB=>?_)<|aZ 8 7 8 [(6,some 19)] (fun _ _ wi HB=>?_)<|aZ 7 8 9 [(3,some 16),(7,some 20)] (fun _ _ wi HB=>?_)<|aZ 6 9 10 [(8,some 21)] (fun _ _ wi HB=>?_)<|aZ 5 10 11 [(9,some 12)] (fun _ _ wi HB=>?_)<|aZ 4 11 12 [(9,some 12)] (fun _ _ wi HB=>?_)<|aZ 3 12 13 [(9,some 12)] (fun _ _ wi HB=>?_)<|aZ 2 13 14 [] (fun _ _ wi HB=>?_)<|Aw 1 14 15 0 [(10,some 22),(13,some 6)] (fun ji wi HB=>?_)<|aZ 0 15 16 [(11,some 23)] (fun _ _ wi HB=>?_)<|Iy.aC
   iterate 3(·((repeat(refine aB ?_;rintro _ rfl));refine aF ?_;(try simp only [aj]);refine Iy.ah rfl rfl fun K hK=>?_;(try simp only [aj]at hK);go_wp2_with(first|fail);exact hK _ _ (Below.refl _ _) rfl))
   (·(obtain⟨HB,_⟩:=HB;have c4:=(ig.out _ (Ext.trans H1.out.1 HB.out)).c4;have g0:=xQ.out _ (Ext.trans H1.out.1 HB.out);(repeat(refine aB ?_;rintro _ rfl));refine aF ?_;(try simp only [aj]);refine Iy.ah rfl rfl fun K hK=>?_;(try simp only [aj]at hK);go_wp2_with(first|fail);exact hK _ _ (Below.refl _ _) rfl))
   iterate 3(·((repeat(refine aB ?_;rintro _ rfl));refine aF ?_;(try simp only [aj]);refine Iy.ah rfl rfl fun K hK=>?_;(try simp only [aj]at hK);go_wp2_with(first|fail);exact hK _ _ (Below.refl _ _) rfl))
   (·(obtain⟨HB,_⟩:=HB;have c4:=(ig.out _ (Ext.trans H1.out.1 HB.out)).c4;have g0:=xQ.out _ (Ext.trans H1.out.1 HB.out);(repeat(refine aB ?_;rintro _ rfl));refine aF ?_;(try simp only [aj]);refine Iy.ah rfl rfl fun K hK=>?_;(try simp only [aj]at hK);go_wp2_with(first|fail);exact hK _ _ (Below.refl _ _) rfl))
   (·(obtain⟨HB,_⟩:=HB;have c4:=(ig.out _ (Ext.trans H1.out.1 HB.out)).c4;have g0:=xQ.out _ (Ext.trans H1.out.1 HB.out);(repeat(refine aB ?_;rintro _ rfl));refine aF ?_;(try simp only [aj]);refine Iy.ah rfl rfl fun K hK=>?_;(try simp only [aj]at hK);go_wp2_with(first|(go_at_call 101;refine(aaJ.out _ (Ext.trans H1.out.1 HB.out)).mono ?_;rintro e wa⟨hba,pa,pc,rfl⟩));exact hK _ _ hba ⟨_,_,rfl⟩))
   (·(obtain⟨HB,_⟩:=HB;have c4:=(ig.out _ (Ext.trans H1.out.1 HB.out)).c4;have g0:=xQ.out _ (Ext.trans H1.out.1 HB.out);refine aB ?_;rintro _⟨a8,c8,rfl⟩;refine aF ?_;(try simp only [aj]);refine Iy.ah rfl rfl fun K hK=>?_;(try simp only [aj]at hK);go_wp2_with(first|fail);exact hK _ _ (Below.refl _ _) ⟨_,_,rfl⟩))
   (·(refine aB ?_;rintro _⟨a9,c9,rfl⟩;refine aF ?_;(try simp only [aj]);refine Iy.ah rfl rfl fun K hK=>?_;(try simp only [aj]at hK);go_wp2_with(first|fail);exact hK _ _ (Below.refl _ _) rfl))
   (·(obtain⟨HB,_⟩:=HB;have c4:=(ig.out _ (Ext.trans H1.out.1 HB.out)).c4;have g0:=xQ.out _ (Ext.trans H1.out.1 HB.out);refine aB ?_;rintro _⟨a9,c9,rfl⟩;refine aF ?_;(try simp only [aj]);refine Iy.ah rfl rfl fun K hK=>?_;(try simp only [aj]at hK);go_wp2_with(first|fail);exact hK _ _ (Below.refl _ _) ⟨_,_,rfl⟩))
   (·(refine aB ?_;rintro _⟨a9,c9,rfl⟩;refine aF ?_;(try simp only [aj]);refine Iy.ah rfl rfl fun K hK=>?_;(try simp only [aj]at hK);go_wp2_with(first|fail);exact hK _ _ (Below.refl _ _) rfl))
   (·(obtain⟨HB,_⟩:=HB;have c4:=(ig.out _ (Ext.trans H1.out.1 HB.out)).c4;have g0:=xQ.out _ (Ext.trans H1.out.1 HB.out);(repeat(refine aB ?_;rintro _ rfl));refine aF ?_;(try simp only [aj]);refine Iy.iV rfl fun K hK=>?_;(try simp only [aj]at hK);go_wp2_with(first|fail);exact hK _ (Ext.alloc (Below.refl _ _) _) ⟨_,rfl,HB.out.size,0,false,ak.new _ _ _⟩))
   (·(obtain⟨HB,_⟩:=HB;refine aB ?_;rintro _⟨rfl,sW⟩;refine aB ?_;rintro _⟨⟨t,rfl,htl,a0,a1,hgb⟩,uV⟩;refine aF ?_;have i0:=hgb.cell 0;have i1:=hgb.cell 1;have z0:=hgb.frozen 0;have z1:=hgb.frozen 1;(try simp only [aj]);refine Iy.ah rfl rfl fun K hK=>?_;(try simp only [aj]at hK);go_wp2_with(first|fail);exact hK undef _ ⟨⟨Ext.setCell (Ext.setCell HB.out htl _) htl _,TJ uV (qo hgb r1 r2)⟩,Iy.dG (by repeat(first|exact True.intro|refine And.intro (fun _ h=>h) ?_|refine And.intro (fun hne=>absurd rfl hne) ?_|refine And.intro (fun _ h=>yZ hgb r1 r2 h) ?_))⟩ trivial))
   (·(obtain⟨HB,_⟩:=HB;have c4:=(ig.out _ (Ext.trans H1.out.1 HB.out)).c4;have g0:=xQ.out _ (Ext.trans H1.out.1 HB.out);refine aB ?_;rintro _⟨a11,c11,rfl⟩;refine aF ?_;(try simp only [aj]);refine Iy.ah rfl rfl fun K hK=>?_;(try simp only [aj]at hK);go_wp2_with(first|fail);exact hK _ _ (Below.refl _ _) ⟨_,_,rfl⟩))
  intro lM wf HF hdf
  refine au 15 0 1 ?_;rintro _ _ rfl;refine au 14 1 2 ?_;rintro _ _ rfl;refine au 13 2 3 ?_;rintro _ _ rfl;refine au 12 3 4 ?_;rintro _ _ rfl;refine au 11 4 5 ?_;rintro _ _ rfl;refine au 10 5 6 ?_;rintro _ _ rfl;refine au 9 6 7 ?_;rintro _ _ rfl;refine au 8 7 8 ?_;rintro _ _ rfl;refine au 7 8 9 ?_;rintro _ _⟨a8,c8,rfl⟩;refine au 6 9 10 ?_;rintro _ _⟨a9,c9,rfl⟩;refine au 5 10 11 ?_;rintro _ _ rfl;refine au 4 11 12 ?_;rintro _ _⟨a11,c11,rfl⟩;refine au 3 12 13 ?_;rintro _ _ rfl;refine au 2 13 14 ?_;rintro _ uV⟨t,rfl,htl,a0,a1,hgb⟩;refine au 1 14 15 ?_;rintro _ _ _;refine au 0 15 16 ?_;rintro _ _⟨a15,c15,rfl⟩
  refine Ix.aI ?_
  obtain⟨Qb,hgf⟩:=HF;have HG:=Lib.hid (hgf t uV);clear hgf hgb
  (try simp only [Act.put,List.setIfInBounds_toArray,List.set_cons_zero,List.set_cons_succ,List.drop_succ_cons,List.drop_zero])
  go_wp2_with(first|fail)
  all_goals(first|refine Ix.only ?_|(refine Ix.dK fun tz=>?_))
  have hq:=H1.out.2.keep Qb
  have x0:=hq.cell 0;have x1:=hq.cell 1;have u0:=hq.frozen 0;have u1:=hq.frozen 1
  have HQ:=Lib.hid hq
  have WH:=hq.lt
  have g0:=HG.out.cell 0;have g1:=HG.out.cell 1
  have hgl:=HG.out.lt
  have aG:Hid (Below w.heap.size w wf):=Ext.trans H1.out.1 Qb
  have XG:=Lib.hid Qb
  clear hq hdf Qb
  have c5:=(ig.out _ aG.out).c5
  have hlq:=(ig.out _ aG.out).lt
  by_cases hlen:NP=L
  ·subst hlen
   obtain⟨ts,hts⟩:∃ts,ts=Ck.tys P0 e ks:=⟨_,rfl⟩
   have hvd:=Ui.out
   rw [←hts,if_neg (fun h=>h rfl)]at hvd
   have Ee:=Lib.hid hvd
   have Zt:=Lib.hid hts
   have qn:((NP:Int)!=(NP:Int))=false:=by simp
   clear hvd hts Ui
   go_wp2
   go_loopw [42](fun i wr=>∃j:Nat,j≤NP∧i= .int .i64 (j:Int)∧Hid (Below wf.heap.size wf wr)∧Hid (Ck.first (ts.take j)=0))(fun i wr=>NP-(intOf i).toNat)
   case atStart=>exact⟨0,Nat.zero_le _,rfl,Below.refl _ _,rfl⟩
   case round=>
    obtain⟨j,hj,rfl,iM,Iq⟩:=hrel
    clear x0 x1 u0 u1 g0 g1 c5
    have oP:Hid (Below w.heap.size w wr):=Ext.trans aG.out iM.out
    have hqr:=HQ.out.keep iM.out
    have x0:=hqr.cell 0;have x1:=hqr.cell 1;have u0:=hqr.frozen 0;have u1:=hqr.frozen 1
    have Ef:=Lib.hid hqr
    have aaK:=hqr.lt
    clear hqr
    by_cases hlt:j<NP
    ·have hjl:j<ks.length:=by rw [←HL.out];exact hlt
     obtain⟨gk,ok,ea,hxy⟩:=(ig.out wr oP.out).kid j ks[j] (List.getElem?_eq_getElem hjl)
     subst ea
     have hcr:=HC.out.keep oP.out
     obtain⟨T,hT⟩:∃T,T=(Ck.ty P0 e ks[j]).val:=⟨_,rfl⟩
     have vg:Hid (Calls Try.prog 76 #[P g, .pointer (some ⟨gk,ok+j*6,none⟩)] wr (OV wr T)):=by
      rw [hT];exact value_of wr B g tb fq fo gb fb gk (ok+j*6) e P0 v0 v1 ks[j] (HKK.out _ (List.getElem_mem hjl)) hcr hxy
     have WI:Hid (ts[j]?=some T):=by show _=_;rw [Zt.out,Ck.F8,List.getElem?_eq_getElem hjl,hT];rfl
     have c5:=(ig.out wr oP.out).c5
     have oI:=(ig.out wr oP.out).lt
     have aaL:NP≤8:=hk8
     obtain⟨tb0,F9,te⟩:=T
     clear hT hcr hxy
     by_cases he:te=0
     ·subst he
      go_wp2_with(first|(go_at_call 76;refine vg.out.mono ?_;rintro e w5⟨b5,s5,rfl,_,hb5⟩;have bD:=Lib.hid hb5;clear hb5))
      go_roundw
      case rel=>exact⟨j+1,by omega,by go_num,Ext.alloc (Ext.trans iM.out bD.out) _,Ck.vw Iq.out WI.out rfl⟩
      case measure=>simp [intOf];omega
     ·have qe:(te !=0)=true:=by simpa using he
      have HV:Hid (V=⟨0,false,te⟩):=by
       show V=_
       have h0:=Ck.vC Iq.out WI.out he
       rw [Ee.out,h0,if_pos he]
      have XH:=Lib.hid he
      clear he
      go_wp2_with(first|(go_at_call 76;refine vg.out.mono ?_;rintro e w5⟨b5,s5,rfl,_,hb5⟩;have bD:=Lib.hid hb5;have jo:=Lib.hid (Ef.out.keep hb5);have y0:=jo.out.cell 0;have y1:=jo.out.cell 1;have y2:=jo.out.frozen 0;have y3:=jo.out.frozen 1;have y4:=jo.out.lt;clear hb5))
      generalize hW:World.alloc _ _=wz
      have HW:Hid (ak wz w.heap.size 33 #[.int .i64 0, .bool false]∧Below w.heap.size w wz):=by
       subst hW
       exact⟨(aW jo.out _ _).alloc _,Ext.alloc (Ext.setCell (Ext.setCell (Ext.trans oP.out bD.out) (Nat.le_refl _) _) (Nat.le_refl _) _) _⟩
      clear hW x0 x1 u0 u1 y0 y1 y2 y3
      have q0:=HW.out.1.cell 0;have q1:=HW.out.1.cell 1
      have ql:=HW.out.1.lt
      exact bodyPost_ret (v:= .tuple #[W.ty 0 false, .int .i64 te]) (by simp [results,Try.results98,go_sem,q0,q1,ql]) rfl ⟨0,false,by rw [HV.out],fun h=>by rw [HV.out]at h;exact absurd h XH.out,HW.out.2⟩
    ·obtain rfl:j=NP:=by omega
     have HV:Hid (V=⟨r1,r2,0⟩):=by
      show V=_
      have h0:=Iq.out
      rw [List.take_of_length_le (by rw [Zt.out,Ck.y7,←HL.out];exact Nat.le_refl _)]at h0
      rw [Ee.out,if_neg (fun h=>h h0)]
     have hgr:=HG.out.keep iM.out
     have g0:=hgr.cell 0;have g1:=hgr.cell 1
     have adS:=hgr.lt
     clear hgr
     go_wp2
     generalize hW:World.setCell _ _ _=wz
     have HW:Hid (ak wz w.heap.size 33 #[.int .i64 r1, .bool r2]∧Below w.heap.size w wz):=by
      subst hW
      exact⟨aW Ef.out _ _,Ext.setCell (Ext.setCell oP.out (Nat.le_refl _) _) (Nat.le_refl _) _⟩
     clear hW x0 x1 u0 u1 g0 g1
     have q0:=HW.out.1.cell 0;have q1:=HW.out.1.cell 1
     have ql:=HW.out.1.lt
     exact bodyPost_ret (v:= .tuple #[W.ty r1 r2, .int .i64 0]) (by simp [results,Try.results98,go_sem,q0,q1,ql]) rfl ⟨r1,r2,by rw [HV.out],fun _=>by rw [HV.out];exact⟨rfl,rfl⟩,HW.out.2⟩
  ·have HV:Hid (V=⟨0,false,5⟩):=by show V=_;rw [Ui.out,if_pos hlen]
   have qn:((NP:Int)!=(L:Int))=true:=by simp only [bne_iff_ne,ne_eq];omega
   go_wp2
   generalize hW:World.setCell _ _ _=wz
   have HW:Hid (ak wz w.heap.size 33 #[.int .i64 0, .bool false]∧Below w.heap.size w wz):=by
    subst hW
    exact⟨aW HQ.out _ _,Ext.setCell (Ext.setCell aG.out (Nat.le_refl _) _) (Nat.le_refl _) _⟩
   clear hW x0 x1 u0 u1
   have q0:=HW.out.1.cell 0;have q1:=HW.out.1.cell 1
   have ql:=HW.out.1.lt
   exact bodyPost_ret (v:= .tuple #[W.ty 0 false, .int .i64 5]) (by simp [results,Try.results98,go_sem,q0,q1,ql]) rfl ⟨0,false,by rw [HV.out],fun h=>by rw [HV.out]at h;exact absurd (show(5:Int)=0 from h) (by decide),HW.out.2⟩
end Go.Proofs.Ythdckndjggljpaa
