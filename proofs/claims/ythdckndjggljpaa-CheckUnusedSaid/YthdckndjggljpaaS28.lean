/- Proofs of this claim, part 28. No condition. -/
import Derived.Test.YthdckndjggljpaaS22
namespace Go.Proofs.Ythdckndjggljpaa
set_option linter.unusedVariables false
set_option linter.unusedSimpArgs false
set_option maxRecDepth 100000
set_option maxHeartbeats 64000000
section
open Go.RowKit
structure By(w:World)(B:Nat)(k n b:Int)(s:Bool)(nm:ByteArray)(v:Value):Prop where
 six:w.cell? ⟨B,5,none⟩=some (.int .i64 k)∧w.cell? ⟨B,6,none⟩=some (.int .u64 n)∧w.cell? ⟨B,7,none⟩=some (.int .i64 b)∧w.cell? ⟨B,8,none⟩=some (.bool s)∧w.cell? ⟨B,9,none⟩=some (.string nm)∧w.cell? ⟨B,10,none⟩=some v
 lt:B<w.heap.size
section
variable{w w':World}{B:Nat}{k n b:Int}{s:Bool}{nm:ByteArray}{v:Value}
theorem By.same(h:By w B k n b s nm v)(e:w'.heap[B]?=w.heap[B]?):By w' B k n b s nm v:=by
 obtain⟨⟨a0,a1,a2,a3,a4,a5⟩,hl⟩:=h
 have c:∀i,w'.cell? ⟨B,i,none⟩=w.cell? ⟨B,i,none⟩:=fun i=>World.cell?_of_block e
 exact⟨⟨(c 5).trans a0,(c 6).trans a1,(c 7).trans a2,(c 8).trans a3,(c 9).trans a4,(c 10).trans a5⟩,World.block_lt_of_cell? w' ⟨B,5,none⟩ ((c 5).trans a0)⟩
theorem By.keep(h:By w B k n b s nm v)(hb:Below w.heap.size w w'):By w' B k n b s nm v:=h.same (hb.block B h.lt)
theorem By.alloc(h:By w B k n b s nm v)(o:Obj):By (w.alloc o) B k n b s nm v:=h.keep (Ext.alloc (Below.refl _ _) _)
theorem By.far(h:By w B k n b s nm v){p:Addr}(hp:B≠p.block)(u:Value):By (w.setCell p u) B k n b s nm v:=h.same (Below.heap_setCell w p u B hp)
end
structure Kt(w:World)(B:Nat)(k n b:Int)(s:Bool)(nm:ByteArray)(v:Value)(rb:Int)(rs:Bool)(wi:World):Prop where
 ext:Below w.heap.size w wi
 x:By wi B k n b s nm v
 y:Ty wi w.heap.size rb rs
 lt:B<w.heap.size
theorem Kt.store{w wi:World}{B:Nat}{k n b:Int}{s:Bool}{nm:ByteArray}{v:Value}{rb:Int}{rs:Bool}(h:Kt w B k n b s nm v rb rs wi)(b':Int)(s':Bool):Kt w B k n b s nm v b' s' ((wi.setCell ⟨w.heap.size,0,none⟩ (.int .i64 b')).setCell ⟨w.heap.size,1,none⟩ (.bool s')):=
 ⟨Ext.setCell (Ext.setCell h.ext (Nat.le_refl _) _) (Nat.le_refl _) _,(h.x.far (by show B≠w.heap.size;have:=h.lt;omega) _).far (by show B≠w.heap.size;have:=h.lt;omega) _,h.y.set b' s',h.lt⟩
theorem Kt.below{w wi w':World}{B:Nat}{k n b:Int}{s:Bool}{nm:ByteArray}{v:Value}{rb:Int}{rs:Bool}(h:Kt w B k n b s nm v rb rs wi)(hb:Below wi.heap.size wi w'):Kt w B k n b s nm v rb rs w':=
 ⟨Ext.trans h.ext hb,h.x.keep hb,h.y.below hb,h.lt⟩
theorem Kt.start{w:World}{B:Nat}{k n b:Int}{s:Bool}{nm:ByteArray}{v:Value}(h:By w B k n b s nm v):Kt w B k n b s nm v 0 false (w.alloc (.cells #[.int .i64 0, .bool false] 33)):=
 ⟨Ext.alloc (Below.refl _ _) _,h.alloc _,Ty.new _ rfl _ _ _,h.lt⟩
theorem EY(B:Nat)(n b:Int)(s:Bool)(nm:ByteArray)(v:Value)(w:World)(hB:By w B 1 n b s nm v):Calls Try.prog 40 #[.pointer (some ⟨B,5,none⟩)] w (Kz n b s true w):=by
 have K1:=Lib.hid (Kt.start hB)
 obtain⟨x0,x1,x2,x3,x4,x5⟩:=By.six K1.out.x
 obtain⟨y0,y1,y2,y3⟩:=K1.out.y
 clear hB
 go_enter Try.func40,Try.ntmps40
 go_upto_region 1 with(fail)
 generalize hw1:World.alloc w _=w1
 rw [hw1]at K1 x0 x1 x2 x3 x4 x5 y0 y1 y2 y3
 clear hw1
 go_wp2
 go_region
 go_wp2
 exact bodyPost_ret (v:= .tuple #[.int .u64 n,W.ty b s, .bool true]) (by simp [results,Try.results40,go_sem,y0,y1,y2,y3]) rfl ⟨rfl,(Ext.setCell (Ext.setCell K1.out.ext.drew (Nat.le_refl _) _) (Nat.le_refl _) _)⟩
theorem Jb(B:Nat)(k n b:Int)(s:Bool)(nm:ByteArray)(v:Value)(h1:k≠1)(h5:k≠5)(w:World)(hB:By w B k n b s nm v):Calls Try.prog 40 #[.pointer (some ⟨B,5,none⟩)] w (Kz 0 0 false false w):=by
 have K1:=Lib.hid (Kt.start hB)
 obtain⟨x0,x1,x2,x3,x4,x5⟩:=By.six K1.out.x
 obtain⟨y0,y1,y2,y3⟩:=K1.out.y
 have q1:(k==1)=false:=by simpa using h1
 have q5:(k==5)=false:=by simpa using h5
 clear hB h1 h5
 go_enter Try.func40,Try.ntmps40
 go_upto_region 1 with(fail)
 generalize hw1:World.alloc w _=w1
 rw [hw1]at K1 x0 x1 x2 x3 x4 x5 y0 y1 y2 y3
 clear hw1
 go_wp2
 exact bodyPost_ret (v:= .tuple #[.int .u64 0,W.ty 0 false, .bool false]) (by simp [results,Try.results40,go_sem,y0,y1,y2,y3]) rfl ⟨rfl,(Ext.setCell (Ext.setCell K1.out.ext (Nat.le_refl _) _) (Nat.le_refl _) _)⟩
theorem wF(B:Nat)(n b:Int)(s:Bool)(nm:ByteArray)(gk off L c:Nat)(hL:1≤L)(q:Int)(hq:q≠1)(w:World)(hB:By w B 5 n b s nm (.slice (some ⟨gk,off,none⟩) L c))(k0:w.cell? ⟨gk,off,none⟩=some (.int .i64 q)):
 Calls Try.prog 40 #[.pointer (some ⟨B,5,none⟩)] w (Kz 0 0 false false w):=by
 have K1:=Lib.hid (Kt.start hB)
 obtain⟨x0,x1,x2,x3,x4,x5⟩:=By.six K1.out.x
 obtain⟨y0,y1,y2,y3⟩:=K1.out.y
 have cl:∀(o:Nat)(u:Value),w.cell? ⟨gk,o,none⟩=some u→(w.alloc (.cells #[.int .i64 0, .bool false] 33)).cell? ⟨gk,o,none⟩=some u:=fun o u h=>by
  rw [Below.cell (p:=⟨gk,o,none⟩) K1.out.ext (World.block_lt_of_cell? _ _ h)];exact h
 replace k0:=cl _ _ k0
 have qL:(0:Nat)<L:=by omega
 have q1:(q==1)=false:=by simpa using hq
 clear hB hq hL cl
 go_enter Try.func40,Try.ntmps40
 go_upto_region 1 with(fail)
 generalize hw1:World.alloc w _=w1
 rw [hw1]at K1 x0 x1 x2 x3 x4 x5 y0 y1 y2 y3 k0
 clear hw1
 go_wp2
 exact bodyPost_ret (v:= .tuple #[.int .u64 0,W.ty 0 false, .bool false]) (by simp [results,Try.results40,go_sem,y0,y1,y2,y3]) rfl ⟨rfl,(Ext.setCell (Ext.setCell K1.out.ext (Nat.le_refl _) _) (Nat.le_refl _) _)⟩
theorem Ce(B:Nat)(n b:Int)(s:Bool)(nm:ByteArray)(gk off L c:Nat)(hL:1≤L)(yn yb R:Int)(ys:Bool)(w:World)(hB:By w B 5 n b s nm (.slice (some ⟨gk,off,none⟩) L c))(k0:w.cell? ⟨gk,off,none⟩=some (.int .i64 1))
 (k1:w.cell? ⟨gk,off+1,none⟩=some (.int .u64 yn))(k2:w.cell? ⟨gk,off+2,none⟩=some (.int .i64 yb))(k3:w.cell? ⟨gk,off+3,none⟩=some (.bool ys))
 (Yx:Hid (Gives 44 #[.int .u64 yn,W.ty yb ys,W.ty b s] (.int .u64 R))):
 Calls Try.prog 40 #[.pointer (some ⟨B,5,none⟩)] w (Kz R b s true w):=by
 have K1:=Lib.hid (Kt.start hB)
 obtain⟨x0,x1,x2,x3,x4,x5⟩:=By.six K1.out.x
 obtain⟨y0,y1,y2,y3⟩:=K1.out.y
 have cl:∀(wi:World)(o:Nat)(u:Value),Below w.heap.size w wi→w.cell? ⟨gk,o,none⟩=some u→wi.cell? ⟨gk,o,none⟩=some u:=fun wi o u hb h=>by
  rw [Below.cell (p:=⟨gk,o,none⟩) hb (World.block_lt_of_cell? _ _ h)];exact h
 have KC:Hid (∀wi:World,Below w.heap.size w wi→wi.cell? ⟨gk,off,none⟩=some (.int .i64 1)∧wi.cell? ⟨gk,off+1,none⟩=some (.int .u64 yn)∧wi.cell? ⟨gk,off+2,none⟩=some (.int .i64 yb)∧wi.cell? ⟨gk,off+3,none⟩=some (.bool ys)):=
  fun wi hb=>⟨cl wi _ _ hb k0,cl wi _ _ hb k1,cl wi _ _ hb k2,cl wi _ _ hb k3⟩
 have qL:(0:Nat)<L:=by omega
 have HBl:=Lib.hid (World.block_lt_of_cell? _ _ k0:gk<w.heap.size)
 clear k0 k1 k2 k3
 obtain⟨k0,k1,k2,k3⟩:=KC.out _ K1.out.ext
 clear hB hL cl
 go_enter Try.func40,Try.ntmps40
 go_upto_region 1 with(fail)
 generalize hw1:World.alloc w _=w1
 rw [hw1]at K1 x0 x1 x2 x3 x4 x5 y0 y1 y2 y3 k0 k1 k2 k3
 clear hw1
 go_upto_region 4 with(fail)
 clear x0 x1 x2 x3 x4 x5 y0 y1 y2 y3 k0 k1 k2 k3
 have KF:∀wi:World,Kt w B 5 n b s nm (.slice (some ⟨gk,off,none⟩) L c) 0 false wi→Kt w B 5 n b s nm (.slice (some ⟨gk,off,none⟩) L c) 0 false wi:=fun _ h=>h
 apply Iy.wp_region 26 [24] (fun _=>[]) (Ix.Rb) (fun nn vs wi=>Hid (∃rb rs,Kt w B 5 n b s nm (.slice (some ⟨gk,off,none⟩) L c) rb rs wi∧(nn=0∨(rb=b∧rs=s)))) (Iy.vp [(Iy.is _),(Iy.is _),(Iy.is _),(Iy.is _),(Iy.is _),(Iy.is _),(Iy.is _),(Iy.is _),(Iy.is _),(Iy.is _),(Iy.is _),(Iy.is _),(Iy.is _),(Iy.is _),(Iy.is _),(Iy.is _),(Iy.is _),(Iy.is _),(Iy.is _),(Iy.is _),(Iy.is _),(Iy.is _),(Iy.is _),(Iy.is _),(fun _=>True),(Iy.is _)]) (fun _=>false) (by kernel_rfl) (by kernel_rfl) (by kernel_rfl) (by kernel_rfl) (by kernel_rfl) (fun _ _ _ _ _ h=>h) (fun _=>Below.refl _ _) (fun nn vs _ _ h hb=>by obtain⟨rb,rs,h1,h2⟩:=h.out;exact⟨rb,rs,h1.below hb,h2⟩) (fun _ _=>Iy.BJ _ _ _ _) (Ix.bP _) (fun vs=>⟨0,false,K1.out.below (Ext.drew (Below.refl _ _)), .inl rfl⟩)
 case step=>
  refine aZ 25 0 1 [] (fun _ _ wi HB=>?_)<|aZ 24 1 2 [(0,some 35)] (fun _ _ wi HB=>?_)<|aZ 23 2 3 [(1,some 36)] (fun _ _ wi HB=>?_)<|aZ 22 3 4 [(2,some 37)] (fun _ _ wi HB=>?_)<|aZ 21 4 5 [(3,some 38)] (fun _ _ wi HB=>?_)<|aZ 20 5 6 [(4,some 39)] (fun _ _ wi HB=>?_)<|aZ 19 6 7 [(5,some 40)] (fun _ _ wi HB=>?_)<|aZ 18 7 8 [] (fun _ _ wi HB=>?_)<|aZ 17 8 9 [(7,some 42)] (fun _ _ wi HB=>?_)<|aZ 16 9 10 [(8,some 43)] (fun _ _ wi HB=>?_)<|aZ 15 10 11 [(9,some 44)] (fun _ _ wi HB=>?_)<|aZ 14 11 12 [(10,some 45)] (fun _ _ wi HB=>?_)<|aZ 13 12 13 [(11,some 46)] (fun _ _ wi HB=>?_)<|aZ 12 13 14 [(12,some 47)] (fun _ _ wi HB=>?_)<|aZ 11 14 15 [] (fun _ _ wi HB=>?_)<|aZ 10 15 16 [(14,some 49)] (fun _ _ wi HB=>?_)<|aZ 9 16 17 [(15,some 50)] (fun _ _ wi HB=>?_)<|aZ 8 17 18 [(16,some 51)] (fun _ _ wi HB=>?_)<|aZ 7 18 19 [(6,some 41),(13,some 48),(17,some 52)] (fun _ _ wi HB=>?_)<|aZ 6 19 20 [] (fun _ _ wi HB=>?_)<|aZ 5 20 21 [(19,some 54)] (fun _ _ wi HB=>?_)<|aZ 4 21 22 [(20,some 55)] (fun _ _ wi HB=>?_)<|aZ 3 22 23 [(21,some 56)] (fun _ _ wi HB=>?_)<|aZ 2 23 24 [(18,some 53)] (fun _ _ wi HB=>?_)<|Aw 1 24 25 0 [(22,some 57)] (fun ji wi HB=>?_)<|aZ 0 25 26 [] (fun _ _ wi HB=>?_)<|Iy.aC
  iterate 3(·((repeat(refine aB ?_;rintro _ rfl));refine aF ?_;(try simp only [aj]);refine Iy.ah rfl rfl fun K hK=>?_;(try simp only [aj]at hK);go_wp2_with(first|fail);exact hK _ _ (Below.refl _ _) rfl))
  (·(obtain⟨rb,rs,hks,hnn⟩:=HB.out;obtain⟨x0,x1,x2,x3,x4,x5⟩:=By.six hks.x;obtain⟨k0,k1,k2,k3⟩:=KC.out _ hks.ext;(repeat(refine aB ?_;rintro _ rfl));refine aF ?_;(try simp only [aj]);refine Iy.ah rfl rfl fun K hK=>?_;(try simp only [aj]at hK);go_wp2_with(first|fail);exact hK _ _ (Below.refl _ _) rfl))
  iterate 2(·((repeat(refine aB ?_;rintro _ rfl));refine aF ?_;(try simp only [aj]);refine Iy.ah rfl rfl fun K hK=>?_;(try simp only [aj]at hK);go_wp2_with(first|fail);exact hK _ _ (Below.refl _ _) rfl))
  (·(obtain⟨rb,rs,hks,hnn⟩:=HB.out;obtain⟨x0,x1,x2,x3,x4,x5⟩:=By.six hks.x;obtain⟨k0,k1,k2,k3⟩:=KC.out _ hks.ext;(repeat(refine aB ?_;rintro _ rfl));refine aF ?_;(try simp only [aj]);refine Iy.ah rfl rfl fun K hK=>?_;(try simp only [aj]at hK);go_wp2_with(first|fail);exact hK _ _ (Below.refl _ _) rfl))
  iterate 3(·((repeat(refine aB ?_;rintro _ rfl));refine aF ?_;(try simp only [aj]);refine Iy.ah rfl rfl fun K hK=>?_;(try simp only [aj]at hK);go_wp2_with(first|fail);exact hK _ _ (Below.refl _ _) rfl))
  (·(obtain⟨rb,rs,hks,hnn⟩:=HB.out;obtain⟨x0,x1,x2,x3,x4,x5⟩:=By.six hks.x;obtain⟨k0,k1,k2,k3⟩:=KC.out _ hks.ext;(repeat(refine aB ?_;rintro _ rfl));refine aF ?_;(try simp only [aj]);refine Iy.ah rfl rfl fun K hK=>?_;(try simp only [aj]at hK);go_wp2_with(first|fail);exact hK _ _ (Below.refl _ _) rfl))
  iterate 2(·((repeat(refine aB ?_;rintro _ rfl));refine aF ?_;(try simp only [aj]);refine Iy.ah rfl rfl fun K hK=>?_;(try simp only [aj]at hK);go_wp2_with(first|fail);exact hK _ _ (Below.refl _ _) rfl))
  (·(obtain⟨rb,rs,hks,hnn⟩:=HB.out;obtain⟨x0,x1,x2,x3,x4,x5⟩:=By.six hks.x;obtain⟨k0,k1,k2,k3⟩:=KC.out _ hks.ext;(repeat(refine aB ?_;rintro _ rfl));refine aF ?_;(try simp only [aj]);refine Iy.ah rfl rfl fun K hK=>?_;(try simp only [aj]at hK);go_wp2_with(first|fail);exact hK _ _ (Below.refl _ _) rfl))
  iterate 3(·((repeat(refine aB ?_;rintro _ rfl));refine aF ?_;(try simp only [aj]);refine Iy.ah rfl rfl fun K hK=>?_;(try simp only [aj]at hK);go_wp2_with(first|fail);exact hK _ _ (Below.refl _ _) rfl))
  (·(obtain⟨rb,rs,hks,hnn⟩:=HB.out;obtain⟨x0,x1,x2,x3,x4,x5⟩:=By.six hks.x;obtain⟨k0,k1,k2,k3⟩:=KC.out _ hks.ext;(repeat(refine aB ?_;rintro _ rfl));refine aF ?_;(try simp only [aj]);refine Iy.ah rfl rfl fun K hK=>?_;(try simp only [aj]at hK);go_wp2_with(first|fail);exact hK _ _ (Below.refl _ _) rfl))
  (·(obtain⟨rb,rs,hks,hnn⟩:=HB.out;obtain⟨x0,x1,x2,x3,x4,x5⟩:=By.six hks.x;obtain⟨k0,k1,k2,k3⟩:=KC.out _ hks.ext;(repeat(refine aB ?_;rintro _ rfl));refine aF ?_;(try simp only [aj]);refine Iy.ah rfl rfl fun K hK=>?_;(try simp only [aj]at hK);go_wp2_with(first|(go_at_call 44;refine(Yx.out _).mono ?_;rintro e wa⟨rfl,hba⟩));exact hK _ _ hba rfl))
  iterate 3(·((repeat(refine aB ?_;rintro _ rfl));refine aF ?_;(try simp only [aj]);refine Iy.ah rfl rfl fun K hK=>?_;(try simp only [aj]at hK);go_wp2_with(first|fail);exact hK _ _ (Below.refl _ _) rfl))
  (·(obtain⟨rb,rs,hks,hnn⟩:=HB.out;obtain⟨x0,x1,x2,x3,x4,x5⟩:=By.six hks.x;obtain⟨k0,k1,k2,k3⟩:=KC.out _ hks.ext;(repeat(refine aB ?_;rintro _ rfl));refine aF ?_;(try simp only [aj]);refine Iy.ah rfl rfl fun K hK=>?_;(try simp only [aj]at hK);go_wp2_with(first|fail);exact hK _ _ (Below.refl _ _) rfl))
  (·((repeat(refine aB ?_;rintro _ rfl));refine aF ?_;(try simp only [aj]);refine Iy.ah rfl rfl fun K hK=>?_;(try simp only [aj]at hK);go_wp2_with(first|fail);exact hK _ _ (Below.refl _ _) rfl))
  (·(obtain⟨rb,rs,hks,hnn⟩:=HB.out;obtain⟨y0,y1,y2,y3⟩:=hks.y;refine aB ?_;rintro _⟨rfl,abn⟩;refine aF ?_;(try simp only [aj]);refine Iy.ah rfl rfl fun K hK=>?_;(try simp only [aj]at hK);go_wp2_with(first|fail);exact hK undef _ ⟨⟨b,s,hks.store b s, .inr ⟨rfl,rfl⟩⟩,fun _ _ h=>h⟩ trivial))
  (·((repeat(refine aB ?_;rintro _ rfl));refine aF ?_;(try simp only [aj]);refine Iy.ah rfl rfl fun K hK=>?_;(try simp only [aj]at hK);go_wp2_with(first|fail);exact hK _ _ (Below.refl _ _) rfl))
 intro lM wf HF hdf
 refine au 25 0 1 ?_;rintro _ _ rfl;refine au 24 1 2 ?_;rintro _ _ rfl;refine au 23 2 3 ?_;rintro _ _ rfl;refine au 22 3 4 ?_;rintro _ _ rfl;refine au 21 4 5 ?_;rintro _ _ rfl;refine au 20 5 6 ?_;rintro _ _ rfl;refine au 19 6 7 ?_;rintro _ _ rfl;refine au 18 7 8 ?_;rintro _ _ rfl;refine au 17 8 9 ?_;rintro _ _ rfl;refine au 16 9 10 ?_;rintro _ _ rfl;refine au 15 10 11 ?_;rintro _ _ rfl;refine au 14 11 12 ?_;rintro _ _ rfl;refine au 13 12 13 ?_;rintro _ _ rfl;refine au 12 13 14 ?_;rintro _ _ rfl;refine au 11 14 15 ?_;rintro _ _ rfl;refine au 10 15 16 ?_;rintro _ _ rfl;refine au 9 16 17 ?_;rintro _ _ rfl;refine au 8 17 18 ?_;rintro _ _ rfl;refine au 7 18 19 ?_;rintro _ _ rfl;refine au 6 19 20 ?_;rintro _ _ rfl;refine au 5 20 21 ?_;rintro _ _ rfl;refine au 4 21 22 ?_;rintro _ _ rfl;refine au 3 22 23 ?_;rintro _ _ rfl;refine au 2 23 24 ?_;rintro _ _ rfl;refine au 1 24 25 ?_;rintro _ _ _;refine au 0 25 26 ?_;rintro _ _ rfl
 refine Ix.aI ?_
 (try simp only [Act.put,List.setIfInBounds_toArray,List.set_cons_zero,List.set_cons_succ,List.drop_succ_cons,List.drop_zero])
 refine Ix.nil ?_
 obtain⟨rb,rs,hks,hz⟩:=HF.out
 obtain⟨rfl,rfl⟩:=hz.resolve_left (by decide)
 obtain⟨y0,y1,y2,y3⟩:=hks.y
 have HE:=Lib.hid hks.ext
 clear HF hz hks hdf
 go_wp2
 exact bodyPost_ret (v:= .tuple #[.int .u64 R,W.ty rb rs, .bool true]) (by simp [results,Try.results40,go_sem,y0,y1,y2,y3]) rfl ⟨rfl,HE.out⟩
theorem Jy(y:X)(hs:X.gK y)(hw:X.Wf y)(w:World)(B:Nat)(a:Option Addr)(c:Nat)(hX:eU w y (X.cells y.kind y.num y.bits y.sg y.name (.slice a y.kids.length c)))(hB:By w B y.kind y.num y.bits y.sg y.name (.slice a y.kids.length c)):
 Calls Try.prog 40 #[.pointer (some ⟨B,5,none⟩)] w (Kz (if X.known y then(X.cst y).n else 0) (if X.known y then(X.cst y).b else 0) (if X.known y then(X.cst y).s else false) (X.known y) w):=by
 obtain⟨k,n,b,s,nm,ks⟩:=y
 simp only [X.kind,X.num,X.bits,X.sg,X.name,X.kids]at hX hB
 by_cases h1:k=1
 ·subst h1
  have e:X.known (.mk 1 n b s nm ks)=true:=rfl
  rw [e,X.nZ]
  exact EY B n b s nm _ w hB
 by_cases h5:k=5
 ·subst h5
  obtain⟨z,hz⟩:=hs.one (show(5:Int)≤5 by omega) (show(5:Int)<9 by omega)
  have hz:ks=[z]:=hz
  subst hz
  obtain⟨q,zn,zb,zs,Q9,Rf⟩:=z
  obtain⟨g,off,ay,cy,rfl,hxz,k0,k1,k2,k3,k4,k5⟩:=hX.kid (i:=0) rfl
  simp only [Nat.zero_mul,Nat.add_zero,X.kind,X.num,X.bits,X.sg]at k0 k1 k2 k3
  by_cases hq:q=1
  ·subst hq
   have e:X.known (.mk 5 n b s nm [.mk 1 zn zb zs Q9 Rf])=true:=rfl
   rw [e,X.BR]
   have hsz:=hs.kid (y:= .mk 1 zn zb zs Q9 Rf) (List.mem_singleton.2 rfl)
   have hwz:=hw.kid (y:= .mk 1 zn zb zs Q9 Rf) (List.mem_singleton.2 rfl)
   have hb:W.ok b:=(X.eH hs.own).2.2.2.1 rfl
   have hzb:=W.um (show W.U zn from hwz.num) ((X.eH hsz.own).2.2.1 rfl)
   exact Ce B n b s nm g off _ c (Nat.le_refl _) zn zb _ zs w hB k0 k1 k2 k3 (fun w1=>fC zn zb b zs s hzb.1 hb hwz.num w1)
  ·have e:X.known (.mk 5 n b s nm [.mk q zn zb zs Q9 Rf])=false:=by
    show((5:Int)==1||((5:Int)==5&&q==1))=false
    simp [hq]
   rw [e]
   exact wF B n b s nm g off _ c (Nat.le_refl _) q hq w hB k0
 ·have e:X.known (.mk k n b s nm ks)=false:=by
   show(k==1||(k==5&&_))=false
   simp [h1,h5]
  rw [e]
  exact Jb B k n b s nm _ h1 h5 w hB
end
end Go.Proofs.Ythdckndjggljpaa
