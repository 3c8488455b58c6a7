/- Proofs of this claim, part 20. No condition. -/
import Derived.Test.YthdckndjggljpaaS19
namespace Go.Proofs.Ythdckndjggljpaa
set_option linter.unusedVariables false
set_option linter.unusedSimpArgs false
set_option maxRecDepth 100000
set_option maxHeartbeats 64000000
open Go.RowKit
theorem Qo(n b:Int)(s:Bool)(nm:ByteArray)(v:Value)(w:World):Calls Try.prog 29 #[.agg #[.int .i64 1, .int .u64 n, .int .i64 b, .bool s, .string nm,v]] w (nS n b s 0 w):=by
 have K1:=Lib.hid (Cs.start w 1 n b s nm v)
 obtain⟨x0,x1,x2,x3,x4,x5⟩:=Bx.six K1.out.x
 obtain⟨y0,y1,y2,y3⟩:=K1.out.y
 go_enter Try.func29,Try.ntmps29
 go_upto_region 1 with(fail)
 generalize hw1:World.alloc (World.alloc w _) _=w1
 rw [hw1]at K1 x0 x1 x2 x3 x4 x5 y0 y1 y2 y3
 clear hw1
 go_wp2
 go_region
 go_wp2
 exact bodyPost_ret (v:= .tuple #[.int .u64 n,W.ty b s, .int .i64 0]) (by simp [results,Try.results29,go_sem,y0,y1,y2,y3]) rfl ⟨rfl,(Ext.setCell (Ext.setCell K1.out.ext.drew (Nat.le_add_right _ 1) _) (Nat.le_add_right _ 1) _)⟩
theorem Qq(k n b:Int)(s:Bool)(nm:ByteArray)(v:Value)(h1:k≠1)(hk:k<5∨26<k)(hi:1≤k∧k≤26)(w:World):Calls Try.prog 29 #[.agg #[.int .i64 k, .int .u64 n, .int .i64 b, .bool s, .string nm,v]] w (nS 0 0 false 8 w):=by
 have K1:=Lib.hid (Cs.start w k n b s nm v)
 obtain⟨x0,x1,x2,x3,x4,x5⟩:=Bx.six K1.out.x
 obtain⟨y0,y1,y2,y3⟩:=K1.out.y
 have q1:(k==1)=false:=by simpa using h1
 have q4:decide (k<5)=true:=by simp;omega
 have q5:decide (k≤4)=true:=by simp;omega
 clear h1 hk hi
 go_enter Try.func29,Try.ntmps29
 go_upto_region 1 with(fail)
 generalize hw1:World.alloc (World.alloc w _) _=w1
 rw [hw1]at K1 x0 x1 x2 x3 x4 x5 y0 y1 y2 y3
 clear hw1
 go_wp2
 exact bodyPost_ret (v:= .tuple #[.int .u64 0,W.ty 0 false, .int .i64 8]) (by simp [results,Try.results29,go_sem,y0,y1,y2,y3]) rfl ⟨rfl,(Ext.setCell (Ext.setCell K1.out.ext (Nat.le_add_right _ 1) _) (Nat.le_add_right _ 1) _)⟩
theorem Md(k n b n0 b0 e0:Int)(s s0:Bool)(nm:ByteArray)(gk off L c:Nat)(y:X)(ay:Option Addr)(cy:Nat)(hL:1≤L)(hk:5≤k∧k≤26)(he:e0≠0)(w:World)(hy:eU w y (Xc y ay cy))
 (k0:w.cell? ⟨gk,off,none⟩=some (.int .i64 y.kind))(k1:w.cell? ⟨gk,off+1,none⟩=some (.int .u64 y.num))(k2:w.cell? ⟨gk,off+2,none⟩=some (.int .i64 y.bits))(k3:w.cell? ⟨gk,off+3,none⟩=some (.bool y.sg))(k4:w.cell? ⟨gk,off+4,none⟩=some (.string y.name))(k5:w.cell? ⟨gk,off+5,none⟩=some (.slice ay y.kids.length cy))
 (yQ:Hid (∀w1:World,eU w1 y (Xc y ay cy)→Calls Try.prog 29 #[.agg (Xc y ay cy).toArray] w1 (nS n0 b0 s0 e0 w1))):
 Calls Try.prog 29 #[.agg #[.int .i64 k, .int .u64 n, .int .i64 b, .bool s, .string nm, .slice (some ⟨gk,off,none⟩) L c]] w (nS 0 b0 s0 e0 w):=by
 have K1:=Lib.hid (Cs.start w k n b s nm (.slice (some ⟨gk,off,none⟩) L c))
 obtain⟨x0,x1,x2,x3,x4,x5⟩:=Bx.six K1.out.x
 obtain⟨y0,y1,y2,y3⟩:=K1.out.y
 have Le:=Lib.hid hy
 have cl:∀(o:Nat)(u:Value),w.cell? ⟨gk,o,none⟩=some u→((w.alloc (.cells #[.int .i64 k, .int .u64 n, .int .i64 b, .bool s, .string nm, .slice (some ⟨gk,off,none⟩) L c] 62)).alloc (.cells #[.int .i64 0, .bool false] 33)).cell? ⟨gk,o,none⟩=some u:=fun o u h=>by
  rw [Below.cell (p:=⟨gk,o,none⟩) K1.out.ext (World.block_lt_of_cell? _ _ h)];exact h
 replace k0:=cl _ _ k0;replace k1:=cl _ _ k1;replace k2:=cl _ _ k2;replace k3:=cl _ _ k3;replace k4:=cl _ _ k4;replace k5:=cl _ _ k5
 clear cl hy
 have q1:(k==1)=false:=by simp;omega
 have q4:decide (k<5)=false:=by simp;omega
 have q5:decide (k≤4)=false:=by simp;omega
 have q6:decide (k>26)=false:=by simp;omega
 have qL:(0:Nat)<L:=by omega
 have qe:(e0==0)=false:=by simpa using he
 clear he hk
 go_enter Try.func29,Try.ntmps29
 go_upto_region 1 with(fail)
 generalize hw1:World.alloc (World.alloc w _) _=w1
 rw [hw1]at K1 x0 x1 x2 x3 x4 x5 y0 y1 y2 y3 k0 k1 k2 k3 k4 k5
 clear hw1
 go_wp2_with(first|(go_at_call 29;refine(yQ.out _ (Le.out.keep K1.out.ext)).mono ?_;rintro e w2⟨rfl,hb2⟩;have K2:=Lib.hid ((K1.out.below hb2).below (Ext.alloc (Below.refl _ _) (.cells #[.int .i64 b0, .bool s0] 33)));have T2:=Lib.hid (Ty.new w2 rfl b0 s0 33);have HB2:=Lib.hid (Ext.trans K1.out.ext (Ext.trans hb2 (Ext.alloc (Below.refl _ _) (.cells #[.int .i64 b0, .bool s0] 33))));have HS2:Hid (w.heap.size+1<w2.heap.size):=Nat.lt_of_lt_of_le K1.out.lt hb2.size;clear hb2 k0 k1 k2 k3 k4 k5 x0 x1 x2 x3 x4 x5 y0 y1 y2 y3;obtain⟨x0,x1,x2,x3,x4,x5⟩:=Bx.six K2.out.x;obtain⟨y0,y1,y2,y3⟩:=K2.out.y;obtain⟨t0,t1,t2,t3⟩:=T2.out))
 go_region
 go_wp2
 exact bodyPost_ret (v:= .tuple #[.int .u64 0,W.ty b0 s0, .int .i64 e0]) (by simp [results,Try.results29,go_sem,y0,y1,y2,y3]) rfl ⟨rfl,(Ext.setCell (Ext.setCell K2.out.ext.drew (Nat.le_add_right _ 1) _) (Nat.le_add_right _ 1) _)⟩
theorem Me(n b n0 b0 R:Int)(s s0:Bool)(nm:ByteArray)(gk off L c:Nat)(y:X)(ay:Option Addr)(cy:Nat)(hL:L=1)(w:World)(hy:eU w y (Xc y ay cy))
 (k0:w.cell? ⟨gk,off,none⟩=some (.int .i64 y.kind))(k1:w.cell? ⟨gk,off+1,none⟩=some (.int .u64 y.num))(k2:w.cell? ⟨gk,off+2,none⟩=some (.int .i64 y.bits))(k3:w.cell? ⟨gk,off+3,none⟩=some (.bool y.sg))(k4:w.cell? ⟨gk,off+4,none⟩=some (.string y.name))(k5:w.cell? ⟨gk,off+5,none⟩=some (.slice ay y.kids.length cy))
 (yQ:Hid (∀w1:World,eU w1 y (Xc y ay cy)→Calls Try.prog 29 #[.agg (Xc y ay cy).toArray] w1 (nS n0 b0 s0 0 w1)))
 (Yx:Hid (Gives 44 #[.int .u64 n0,W.ty b0 s0,W.ty b s] (.int .u64 R))):
 Calls Try.prog 29 #[.agg #[.int .i64 5, .int .u64 n, .int .i64 b, .bool s, .string nm, .slice (some ⟨gk,off,none⟩) L c]] w (nS R b s 0 w):=by
 obtain⟨k,hk5⟩:∃k:Int,k=5:=⟨_,rfl⟩
 rw [←hk5]
 have hk:5≤k∧k≤26:=by omega
 have K1:=Lib.hid (Cs.start w k n b s nm (.slice (some ⟨gk,off,none⟩) L c))
 obtain⟨x0,x1,x2,x3,x4,x5⟩:=Bx.six K1.out.x
 obtain⟨y0,y1,y2,y3⟩:=K1.out.y
 have Le:=Lib.hid hy
 have cl:∀(o:Nat)(u:Value),w.cell? ⟨gk,o,none⟩=some u→((w.alloc (.cells #[.int .i64 k, .int .u64 n, .int .i64 b, .bool s, .string nm, .slice (some ⟨gk,off,none⟩) L c] 62)).alloc (.cells #[.int .i64 0, .bool false] 33)).cell? ⟨gk,o,none⟩=some u:=fun o u h=>by
  rw [Below.cell (p:=⟨gk,o,none⟩) K1.out.ext (World.block_lt_of_cell? _ _ h)];exact h
 replace k0:=cl _ _ k0;replace k1:=cl _ _ k1;replace k2:=cl _ _ k2;replace k3:=cl _ _ k3;replace k4:=cl _ _ k4;replace k5:=cl _ _ k5
 clear cl hy
 have q1:(k==1)=false:=by simp;omega
 have q4:decide (k<5)=false:=by simp;omega
 have q5:decide (k≤4)=false:=by simp;omega
 have q6:decide (k>26)=false:=by simp;omega
 have qL:(0:Nat)<L:=by omega
 have q7:(k==5)=true:=by simp;omega
 clear hk hk5 hL
 go_enter Try.func29,Try.ntmps29
 go_upto_region 1 with(fail)
 generalize hw1:World.alloc (World.alloc w _) _=w1
 rw [hw1]at K1 x0 x1 x2 x3 x4 x5 y0 y1 y2 y3 k0 k1 k2 k3 k4 k5
 clear hw1
 go_upto_region 9 with(first|(go_at_call 29;refine(yQ.out _ (Le.out.keep K1.out.ext)).mono ?_;rintro e w2⟨rfl,hb2⟩;have K2:=Lib.hid ((K1.out.below hb2).below (Ext.alloc (Below.refl _ _) (.cells #[.int .i64 b0, .bool s0] 33)));have T2:=Lib.hid (Ty.new w2 rfl b0 s0 33);have HB2:=Lib.hid (Ext.trans K1.out.ext (Ext.trans hb2 (Ext.alloc (Below.refl _ _) (.cells #[.int .i64 b0, .bool s0] 33))));have HS2:Hid (w.heap.size+1<w2.heap.size):=Nat.lt_of_lt_of_le K1.out.lt hb2.size;clear hb2 k0 k1 k2 k3 k4 k5 x0 x1 x2 x3 x4 x5 y0 y1 y2 y3;obtain⟨x0,x1,x2,x3,x4,x5⟩:=Bx.six K2.out.x;obtain⟨y0,y1,y2,y3⟩:=K2.out.y;obtain⟨t0,t1,t2,t3⟩:=T2.out))
 have KD:=Lib.hid (K2.out.below (Ext.drew (Below.refl _ _)))
 go_region_with(first|(go_at_call 44;refine(Yx.out _).mono ?_;rintro e wa⟨rfl,hba⟩;have HC:=Lib.hid (KD.out.below hba);clear hba x0 x1 x2 x3 x4 x5 y0 y1 y2 y3 t0 t1 t2 t3;obtain⟨x0,x1,x2,x3,x4,x5⟩:=Bx.six HC.out.x;obtain⟨y0,y1,y2,y3⟩:=HC.out.y))
 all_goals go_wp2
 all_goals
  exact bodyPost_ret (v:= .tuple #[.int .u64 R,W.ty b s, .int .i64 0]) (by simp [results,Try.results29,go_sem,y0,y1,y2,y3]) rfl ⟨rfl,(Ext.setCell (Ext.setCell HC.out.ext (Nat.le_add_right _ 1) _) (Nat.le_add_right _ 1) _)⟩
theorem Um(k n b n0 b0 R rb re:Int)(s s0 rs:Bool)(nm:ByteArray)(gk off L c:Nat)(y:X)(ay:Option Addr)(cy:Nat)(hL:L=1)(hk9:5<k∧k<9)(w:World)(hy:eU w y (Xc y ay cy))
 (k0:w.cell? ⟨gk,off,none⟩=some (.int .i64 y.kind))(k1:w.cell? ⟨gk,off+1,none⟩=some (.int .u64 y.num))(k2:w.cell? ⟨gk,off+2,none⟩=some (.int .i64 y.bits))(k3:w.cell? ⟨gk,off+3,none⟩=some (.bool y.sg))(k4:w.cell? ⟨gk,off+4,none⟩=some (.string y.name))(k5:w.cell? ⟨gk,off+5,none⟩=some (.slice ay y.kids.length cy))
 (yQ:Hid (∀w1:World,eU w1 y (Xc y ay cy)→Calls Try.prog 29 #[.agg (Xc y ay cy).toArray] w1 (nS n0 b0 s0 0 w1)))
 (HUN:Hid (∀w:World,Calls Try.prog 45 #[.int .i64 k, .int .u64 n0,W.ty b0 s0] w (nS R rb rs re w))):
 Calls Try.prog 29 #[.agg #[.int .i64 k, .int .u64 n, .int .i64 b, .bool s, .string nm, .slice (some ⟨gk,off,none⟩) L c]] w (nS R rb rs re w):=by
 have hk:5≤k∧k≤26:=by omega
 have K1:=Lib.hid (Cs.start w k n b s nm (.slice (some ⟨gk,off,none⟩) L c))
 obtain⟨x0,x1,x2,x3,x4,x5⟩:=Bx.six K1.out.x
 obtain⟨y0,y1,y2,y3⟩:=K1.out.y
 have Le:=Lib.hid hy
 have cl:∀(o:Nat)(u:Value),w.cell? ⟨gk,o,none⟩=some u→((w.alloc (.cells #[.int .i64 k, .int .u64 n, .int .i64 b, .bool s, .string nm, .slice (some ⟨gk,off,none⟩) L c] 62)).alloc (.cells #[.int .i64 0, .bool false] 33)).cell? ⟨gk,o,none⟩=some u:=fun o u h=>by
  rw [Below.cell (p:=⟨gk,o,none⟩) K1.out.ext (World.block_lt_of_cell? _ _ h)];exact h
 replace k0:=cl _ _ k0;replace k1:=cl _ _ k1;replace k2:=cl _ _ k2;replace k3:=cl _ _ k3;replace k4:=cl _ _ k4;replace k5:=cl _ _ k5
 clear cl hy
 have q1:(k==1)=false:=by simp;omega
 have q4:decide (k<5)=false:=by simp;omega
 have q5:decide (k≤4)=false:=by simp;omega
 have q6:decide (k>26)=false:=by simp;omega
 have qL:(0:Nat)<L:=by omega
 have q7:(k==5)=false:=by simp;omega
 have q8:decide (k<9)=true:=by simp;omega
 have q9:((L:Int)==1)=true:=by simp;omega
 clear hk hk9 hL
 go_enter Try.func29,Try.ntmps29
 go_upto_region 1 with(fail)
 generalize hw1:World.alloc (World.alloc w _) _=w1
 rw [hw1]at K1 x0 x1 x2 x3 x4 x5 y0 y1 y2 y3 k0 k1 k2 k3 k4 k5
 clear hw1
 go_wp2_with(first|(go_at_call 29;refine(yQ.out _ (Le.out.keep K1.out.ext)).mono ?_;rintro e w2⟨rfl,hb2⟩;have K2:=Lib.hid ((K1.out.below hb2).below (Ext.alloc (Below.refl _ _) (.cells #[.int .i64 b0, .bool s0] 33)));have T2:=Lib.hid (Ty.new w2 rfl b0 s0 33);have HB2:=Lib.hid (Ext.trans K1.out.ext (Ext.trans hb2 (Ext.alloc (Below.refl _ _) (.cells #[.int .i64 b0, .bool s0] 33))));have HS2:Hid (w.heap.size+1<w2.heap.size):=Nat.lt_of_lt_of_le K1.out.lt hb2.size;clear hb2 k0 k1 k2 k3 k4 k5 x0 x1 x2 x3 x4 x5 y0 y1 y2 y3;obtain⟨x0,x1,x2,x3,x4,x5⟩:=Bx.six K2.out.x;obtain⟨y0,y1,y2,y3⟩:=K2.out.y;obtain⟨t0,t1,t2,t3⟩:=T2.out)|(go_at_call 45;refine(HUN.out _).mono ?_;rintro e w4⟨rfl,hb4⟩;have K4:=Lib.hid (K2.out.below hb4);clear hb4 x0 x1 x2 x3 x4 x5 y0 y1 y2 y3 t0 t1 t2 t3;obtain⟨y0,y1,y2,y3⟩:=K4.out.y))
 exact bodyPost_ret (v:= .tuple #[.int .u64 R,W.ty rb rs, .int .i64 re]) (by simp [results,Try.results29,go_sem,y0,y1,y2,y3]) rfl ⟨rfl,(Ext.setCell (Ext.setCell K4.out.ext (Nat.le_add_right _ 1) _) (Nat.le_add_right _ 1) _)⟩
theorem Ld(k n b n0 b0 n1 b1 e1:Int)(s s0 s1:Bool)(nm:ByteArray)(gk off L c:Nat)(y z:X)(ay:Option Addr)(cy:Nat)(az:Option Addr)(cz:Nat)(hL:L=2)(hk9:9≤k∧k≤26)(he:e1≠0)(w:World)(hy:eU w y (Xc y ay cy))
 (k0:w.cell? ⟨gk,off,none⟩=some (.int .i64 y.kind))(k1:w.cell? ⟨gk,off+1,none⟩=some (.int .u64 y.num))(k2:w.cell? ⟨gk,off+2,none⟩=some (.int .i64 y.bits))(k3:w.cell? ⟨gk,off+3,none⟩=some (.bool y.sg))(k4:w.cell? ⟨gk,off+4,none⟩=some (.string y.name))(k5:w.cell? ⟨gk,off+5,none⟩=some (.slice ay y.kids.length cy))
 (yQ:Hid (∀w1:World,eU w1 y (Xc y ay cy)→Calls Try.prog 29 #[.agg (Xc y ay cy).toArray] w1 (nS n0 b0 s0 0 w1)))(hz:eU w z (Xc z az cz))
 (z0:w.cell? ⟨gk,off+6,none⟩=some (.int .i64 z.kind))(z1:w.cell? ⟨gk,off+6+1,none⟩=some (.int .u64 z.num))(z2:w.cell? ⟨gk,off+6+2,none⟩=some (.int .i64 z.bits))(z3:w.cell? ⟨gk,off+6+3,none⟩=some (.bool z.sg))(z4:w.cell? ⟨gk,off+6+4,none⟩=some (.string z.name))(z5:w.cell? ⟨gk,off+6+5,none⟩=some (.slice az z.kids.length cz))
 (zT:Hid (∀w1:World,eU w1 z (Xc z az cz)→Calls Try.prog 29 #[.agg (Xc z az cz).toArray] w1 (nS n1 b1 s1 e1 w1))):
 Calls Try.prog 29 #[.agg #[.int .i64 k, .int .u64 n, .int .i64 b, .bool s, .string nm, .slice (some ⟨gk,off,none⟩) L c]] w (nS 0 b1 s1 e1 w):=by
 have hk:5≤k∧k≤26:=by omega
 have K1:=Lib.hid (Cs.start w k n b s nm (.slice (some ⟨gk,off,none⟩) L c))
 have HZ0:=Lib.hid hz
 have Xp:=Lib.hid (⟨z0,z1,z2,z3,z4,z5⟩:w.cell? ⟨gk,off+6,none⟩=some (.int .i64 z.kind)∧w.cell? ⟨gk,off+6+1,none⟩=some (.int .u64 z.num)∧w.cell? ⟨gk,off+6+2,none⟩=some (.int .i64 z.bits)∧w.cell? ⟨gk,off+6+3,none⟩=some (.bool z.sg)∧w.cell? ⟨gk,off+6+4,none⟩=some (.string z.name)∧w.cell? ⟨gk,off+6+5,none⟩=some (.slice az z.kids.length cz))
 clear hz z0 z1 z2 z3 z4 z5
 obtain⟨x0,x1,x2,x3,x4,x5⟩:=Bx.six K1.out.x
 obtain⟨y0,y1,y2,y3⟩:=K1.out.y
 have Le:=Lib.hid hy
 have cl:∀(o:Nat)(u:Value),w.cell? ⟨gk,o,none⟩=some u→((w.alloc (.cells #[.int .i64 k, .int .u64 n, .int .i64 b, .bool s, .string nm, .slice (some ⟨gk,off,none⟩) L c] 62)).alloc (.cells #[.int .i64 0, .bool false] 33)).cell? ⟨gk,o,none⟩=some u:=fun o u h=>by
  rw [Below.cell (p:=⟨gk,o,none⟩) K1.out.ext (World.block_lt_of_cell? _ _ h)];exact h
 replace k0:=cl _ _ k0;replace k1:=cl _ _ k1;replace k2:=cl _ _ k2;replace k3:=cl _ _ k3;replace k4:=cl _ _ k4;replace k5:=cl _ _ k5
 clear cl hy
 have q1:(k==1)=false:=by simp;omega
 have q4:decide (k<5)=false:=by simp;omega
 have q5:decide (k≤4)=false:=by simp;omega
 have q6:decide (k>26)=false:=by simp;omega
 have qL:(0:Nat)<L:=by omega
 have q7:(k==5)=false:=by simp;omega
 have q8:decide (k<9)=false:=by simp;omega
 have q9:((L:Int)==1)=false:=by simp;omega
 have qL2:(1:Nat)<L:=by omega
 have qe:(e1==0)=false:=by simpa using he
 clear he hk hk9 hL
 go_enter Try.func29,Try.ntmps29
 go_upto_region 1 with(fail)
 generalize hw1:World.alloc (World.alloc w _) _=w1
 rw [hw1]at K1 x0 x1 x2 x3 x4 x5 y0 y1 y2 y3 k0 k1 k2 k3 k4 k5
 clear hw1
 go_upto_region 12 with(first|(go_at_call 29;refine(yQ.out _ (Le.out.keep K1.out.ext)).mono ?_;rintro e w2⟨rfl,hb2⟩;have K2:=Lib.hid ((K1.out.below hb2).below (Ext.alloc (Below.refl _ _) (.cells #[.int .i64 b0, .bool s0] 33)));have T2:=Lib.hid (Ty.new w2 rfl b0 s0 33);have HB2:=Lib.hid (Ext.trans K1.out.ext (Ext.trans hb2 (Ext.alloc (Below.refl _ _) (.cells #[.int .i64 b0, .bool s0] 33))));have HS2:Hid (w.heap.size+1<w2.heap.size):=Nat.lt_of_lt_of_le K1.out.lt hb2.size;clear hb2 k0 k1 k2 k3 k4 k5 x0 x1 x2 x3 x4 x5 y0 y1 y2 y3;obtain⟨x0,x1,x2,x3,x4,x5⟩:=Bx.six K2.out.x;obtain⟨y0,y1,y2,y3⟩:=K2.out.y;obtain⟨t0,t1,t2,t3⟩:=T2.out))
 have clz:∀(o:Nat)(u:Value),w.cell? ⟨gk,o,none⟩=some u→(w2.alloc (.cells #[.int .i64 b0, .bool s0] 33)).cell? ⟨gk,o,none⟩=some u:=fun o u h=>by
  rw [Below.cell (p:=⟨gk,o,none⟩) K2.out.ext (World.block_lt_of_cell? _ _ h)];exact h
 obtain⟨Si,Sj,Sl,Sm,Sr,Sv⟩:=Xp.out
 obtain⟨zk,Lh⟩:∃q,q=z.kind:=⟨_,rfl⟩
 have z0:=clz _ _ Si;have z1:=clz _ _ Sj;have z2:=clz _ _ Sl;have z3:=clz _ _ Sm;have z4:=clz _ _ Sr;have z5:=clz _ _ Sv
 rw [←Lh]at z0
 replace zT:Hid (∀w1:World,eU w1 z (Xc z az cz)→Calls Try.prog 29 #[.agg #[.int .i64 zk, .int .u64 z.num, .int .i64 z.bits, .bool z.sg, .string z.name, .slice az z.kids.length cz]] w1 (nS n1 b1 s1 e1 w1)):=by rw [Lh];exact zT
 clear clz Si Sj Sl Sm Sr Sv Lh
 go_wp2_with(first|(go_at_call_of 29(Value.int IntKind.i64 zk);refine(zT.out _ (HZ0.out.keep K2.out.ext)).mono ?_;rintro e w3⟨rfl,hb3⟩;have K3:=Lib.hid ((K2.out.below hb3).below (Ext.alloc (Below.refl _ _) (.cells #[.int .i64 b1, .bool s1] 33)));have T3:=Lib.hid ((T2.out.below hb3).below (Ext.alloc (Below.refl _ _) (.cells #[.int .i64 b1, .bool s1] 33)));have U3:=Lib.hid (Ty.new w3 rfl b1 s1 33);have Zk:Hid (w2.heap.size<w3.heap.size):=Nat.lt_of_lt_of_le (by simp) hb3.size;clear hb3 x0 x1 x2 x3 x4 x5 y0 y1 y2 y3 t0 t1 t2 t3 z0 z1 z2 z3 z4 z5;obtain⟨x0,x1,x2,x3,x4,x5⟩:=Bx.six K3.out.x;obtain⟨y0,y1,y2,y3⟩:=K3.out.y;obtain⟨t0,t1,t2,t3⟩:=T3.out;obtain⟨u0,u1,u2,u3⟩:=U3.out))
 go_region
 go_wp2
 exact bodyPost_ret (v:= .tuple #[.int .u64 0,W.ty b1 s1, .int .i64 e1]) (by simp [results,Try.results29,go_sem,y0,y1,y2,y3]) rfl ⟨rfl,(Ext.setCell (Ext.setCell K3.out.ext.drew (Nat.le_add_right _ 1) _) (Nat.le_add_right _ 1) _)⟩
theorem Qs(k n b n0 b0 n1 b1 R re rb:Int)(s s0 s1 rs:Bool)(nm:ByteArray)(gk off L c:Nat)(y z:X)(ay:Option Addr)(cy:Nat)(az:Option Addr)(cz:Nat)(hL:L=2)(hk9:9≤k∧k≤24)(w:World)(hy:eU w y (Xc y ay cy))
 (k0:w.cell? ⟨gk,off,none⟩=some (.int .i64 y.kind))(k1:w.cell? ⟨gk,off+1,none⟩=some (.int .u64 y.num))(k2:w.cell? ⟨gk,off+2,none⟩=some (.int .i64 y.bits))(k3:w.cell? ⟨gk,off+3,none⟩=some (.bool y.sg))(k4:w.cell? ⟨gk,off+4,none⟩=some (.string y.name))(k5:w.cell? ⟨gk,off+5,none⟩=some (.slice ay y.kids.length cy))
 (yQ:Hid (∀w1:World,eU w1 y (Xc y ay cy)→Calls Try.prog 29 #[.agg (Xc y ay cy).toArray] w1 (nS n0 b0 s0 0 w1)))(hz:eU w z (Xc z az cz))
 (z0:w.cell? ⟨gk,off+6,none⟩=some (.int .i64 z.kind))(z1:w.cell? ⟨gk,off+6+1,none⟩=some (.int .u64 z.num))(z2:w.cell? ⟨gk,off+6+2,none⟩=some (.int .i64 z.bits))(z3:w.cell? ⟨gk,off+6+3,none⟩=some (.bool z.sg))(z4:w.cell? ⟨gk,off+6+4,none⟩=some (.string z.name))(z5:w.cell? ⟨gk,off+6+5,none⟩=some (.slice az z.kids.length cz))
 (zT:Hid (∀w1:World,eU w1 z (Xc z az cz)→Calls Try.prog 29 #[.agg (Xc z az cz).toArray] w1 (nS n1 b1 s1 0 w1)))
 (VD:Hid (Gives 46 #[.int .i64 k, .int .u64 n0, .int .u64 n1,W.ty b0 s0,W.ty b1 s1] (.tuple #[.int .u64 R, .int .i64 re])))
 (HRE:Hid (Gives 47 #[.int .i64 k,W.ty b0 s0,W.ty b1 s1] (W.ty rb rs))):
 Calls Try.prog 29 #[.agg #[.int .i64 k, .int .u64 n, .int .i64 b, .bool s, .string nm, .slice (some ⟨gk,off,none⟩) L c]] w (nS R rb rs re w):=by
 have hk:5≤k∧k≤26:=by omega
 have K1:=Lib.hid (Cs.start w k n b s nm (.slice (some ⟨gk,off,none⟩) L c))
 have HZ0:=Lib.hid hz
 have Xp:=Lib.hid (⟨z0,z1,z2,z3,z4,z5⟩:w.cell? ⟨gk,off+6,none⟩=some (.int .i64 z.kind)∧w.cell? ⟨gk,off+6+1,none⟩=some (.int .u64 z.num)∧w.cell? ⟨gk,off+6+2,none⟩=some (.int .i64 z.bits)∧w.cell? ⟨gk,off+6+3,none⟩=some (.bool z.sg)∧w.cell? ⟨gk,off+6+4,none⟩=some (.string z.name)∧w.cell? ⟨gk,off+6+5,none⟩=some (.slice az z.kids.length cz))
 clear hz z0 z1 z2 z3 z4 z5
 obtain⟨x0,x1,x2,x3,x4,x5⟩:=Bx.six K1.out.x
 obtain⟨y0,y1,y2,y3⟩:=K1.out.y
 have Le:=Lib.hid hy
 have cl:∀(o:Nat)(u:Value),w.cell? ⟨gk,o,none⟩=some u→((w.alloc (.cells #[.int .i64 k, .int .u64 n, .int .i64 b, .bool s, .string nm, .slice (some ⟨gk,off,none⟩) L c] 62)).alloc (.cells #[.int .i64 0, .bool false] 33)).cell? ⟨gk,o,none⟩=some u:=fun o u h=>by
  rw [Below.cell (p:=⟨gk,o,none⟩) K1.out.ext (World.block_lt_of_cell? _ _ h)];exact h
 replace k0:=cl _ _ k0;replace k1:=cl _ _ k1;replace k2:=cl _ _ k2;replace k3:=cl _ _ k3;replace k4:=cl _ _ k4;replace k5:=cl _ _ k5
 clear cl hy
 have q1:(k==1)=false:=by simp;omega
 have q4:decide (k<5)=false:=by simp;omega
 have q5:decide (k≤4)=false:=by simp;omega
 have q6:decide (k>26)=false:=by simp;omega
 have qL:(0:Nat)<L:=by omega
 have q7:(k==5)=false:=by simp;omega
 have q8:decide (k<9)=false:=by simp;omega
 have q9:((L:Int)==1)=false:=by simp;omega
 have qL2:(1:Nat)<L:=by omega
 have q10:(k==25)=false:=by simp;omega
 have q11:(k==26)=false:=by simp;omega
 clear hk hk9 hL
 go_enter Try.func29,Try.ntmps29
 go_upto_region 1 with(fail)
 generalize hw1:World.alloc (World.alloc w _) _=w1
 rw [hw1]at K1 x0 x1 x2 x3 x4 x5 y0 y1 y2 y3 k0 k1 k2 k3 k4 k5
 clear hw1
 go_upto_region 12 with(first|(go_at_call 29;refine(yQ.out _ (Le.out.keep K1.out.ext)).mono ?_;rintro e w2⟨rfl,hb2⟩;have K2:=Lib.hid ((K1.out.below hb2).below (Ext.alloc (Below.refl _ _) (.cells #[.int .i64 b0, .bool s0] 33)));have T2:=Lib.hid (Ty.new w2 rfl b0 s0 33);have HB2:=Lib.hid (Ext.trans K1.out.ext (Ext.trans hb2 (Ext.alloc (Below.refl _ _) (.cells #[.int .i64 b0, .bool s0] 33))));have HS2:Hid (w.heap.size+1<w2.heap.size):=Nat.lt_of_lt_of_le K1.out.lt hb2.size;clear hb2 k0 k1 k2 k3 k4 k5 x0 x1 x2 x3 x4 x5 y0 y1 y2 y3;obtain⟨x0,x1,x2,x3,x4,x5⟩:=Bx.six K2.out.x;obtain⟨y0,y1,y2,y3⟩:=K2.out.y;obtain⟨t0,t1,t2,t3⟩:=T2.out))
 have clz:∀(o:Nat)(u:Value),w.cell? ⟨gk,o,none⟩=some u→(w2.alloc (.cells #[.int .i64 b0, .bool s0] 33)).cell? ⟨gk,o,none⟩=some u:=fun o u h=>by
  rw [Below.cell (p:=⟨gk,o,none⟩) K2.out.ext (World.block_lt_of_cell? _ _ h)];exact h
 obtain⟨Si,Sj,Sl,Sm,Sr,Sv⟩:=Xp.out
 obtain⟨zk,Lh⟩:∃q,q=z.kind:=⟨_,rfl⟩
 have z0:=clz _ _ Si;have z1:=clz _ _ Sj;have z2:=clz _ _ Sl;have z3:=clz _ _ Sm;have z4:=clz _ _ Sr;have z5:=clz _ _ Sv
 rw [←Lh]at z0
 replace zT:Hid (∀w1:World,eU w1 z (Xc z az cz)→Calls Try.prog 29 #[.agg #[.int .i64 zk, .int .u64 z.num, .int .i64 z.bits, .bool z.sg, .string z.name, .slice az z.kids.length cz]] w1 (nS n1 b1 s1 0 w1)):=by rw [Lh];exact zT
 clear clz Si Sj Sl Sm Sr Sv Lh
 go_wp2_with(first|(go_at_call_of 29(Value.int IntKind.i64 zk);refine(zT.out _ (HZ0.out.keep K2.out.ext)).mono ?_;rintro e w3⟨rfl,hb3⟩;have K3:=Lib.hid ((K2.out.below hb3).below (Ext.alloc (Below.refl _ _) (.cells #[.int .i64 b1, .bool s1] 33)));have T3:=Lib.hid ((T2.out.below hb3).below (Ext.alloc (Below.refl _ _) (.cells #[.int .i64 b1, .bool s1] 33)));have U3:=Lib.hid (Ty.new w3 rfl b1 s1 33);have Zk:Hid (w2.heap.size<w3.heap.size):=Nat.lt_of_lt_of_le (by simp) hb3.size;clear hb3 x0 x1 x2 x3 x4 x5 y0 y1 y2 y3 t0 t1 t2 t3 z0 z1 z2 z3 z4 z5;obtain⟨x0,x1,x2,x3,x4,x5⟩:=Bx.six K3.out.x;obtain⟨y0,y1,y2,y3⟩:=K3.out.y;obtain⟨t0,t1,t2,t3⟩:=T3.out;obtain⟨u0,u1,u2,u3⟩:=U3.out)|(go_at_call 46;refine(VD.out _).mono ?_;rintro e w4⟨rfl,hb4⟩;have K4:=Lib.hid (K3.out.below hb4);have T4:=Lib.hid (T3.out.below hb4);have U4:=Lib.hid (U3.out.below hb4);clear hb4 x0 x1 x2 x3 x4 x5 y0 y1 y2 y3 t0 t1 t2 t3 u0 u1 u2 u3;obtain⟨x0,x1,x2,x3,x4,x5⟩:=Bx.six K4.out.x;obtain⟨t0,t1,t2,t3⟩:=T4.out;obtain⟨u0,u1,u2,u3⟩:=U4.out)|(go_at_call 47;refine(HRE.out _).mono ?_;rintro e w5⟨rfl,hb5⟩;have K5:=Lib.hid (K4.out.below hb5);clear hb5 x0 x1 x2 x3 x4 x5 t0 t1 t2 t3 u0 u1 u2 u3;obtain⟨y0,y1,y2,y3⟩:=K5.out.y))
 exact bodyPost_ret (v:= .tuple #[.int .u64 R,W.ty rb rs, .int .i64 re]) (by simp [results,Try.results29,go_sem,y0,y1,y2,y3]) rfl ⟨rfl,(Ext.setCell (Ext.setCell K5.out.ext (Nat.le_add_right _ 1) _) (Nat.le_add_right _ 1) _)⟩
theorem Qr(k n b n0 b0 n1 b1:Int)(s s0 s1:Bool)(nm:ByteArray)(gk off L c:Nat)(y z:X)(ay:Option Addr)(cy:Nat)(az:Option Addr)(cz:Nat)(hL:L=2)(hk9:k=25∨k=26)(w:World)(hy:eU w y (Xc y ay cy))
 (k0:w.cell? ⟨gk,off,none⟩=some (.int .i64 y.kind))(k1:w.cell? ⟨gk,off+1,none⟩=some (.int .u64 y.num))(k2:w.cell? ⟨gk,off+2,none⟩=some (.int .i64 y.bits))(k3:w.cell? ⟨gk,off+3,none⟩=some (.bool y.sg))(k4:w.cell? ⟨gk,off+4,none⟩=some (.string y.name))(k5:w.cell? ⟨gk,off+5,none⟩=some (.slice ay y.kids.length cy))
 (yQ:Hid (∀w1:World,eU w1 y (Xc y ay cy)→Calls Try.prog 29 #[.agg (Xc y ay cy).toArray] w1 (nS n0 b0 s0 0 w1)))(hz:eU w z (Xc z az cz))
 (z0:w.cell? ⟨gk,off+6,none⟩=some (.int .i64 z.kind))(z1:w.cell? ⟨gk,off+6+1,none⟩=some (.int .u64 z.num))(z2:w.cell? ⟨gk,off+6+2,none⟩=some (.int .i64 z.bits))(z3:w.cell? ⟨gk,off+6+3,none⟩=some (.bool z.sg))(z4:w.cell? ⟨gk,off+6+4,none⟩=some (.string z.name))(z5:w.cell? ⟨gk,off+6+5,none⟩=some (.slice az z.kids.length cz))
 (zT:Hid (∀w1:World,eU w1 z (Xc z az cz)→Calls Try.prog 29 #[.agg (Xc z az cz).toArray] w1 (nS n1 b1 s1 0 w1))):
 Calls Try.prog 29 #[.agg #[.int .i64 k, .int .u64 n, .int .i64 b, .bool s, .string nm, .slice (some ⟨gk,off,none⟩) L c]] w (nS (if((n0 !=0)&&(n1 !=0))||((k==26)&&((n0 !=0)||(n1 !=0)))then 1 else 0) 16 true 0 w):=by
 have hk:5≤k∧k≤26:=by omega
 have K1:=Lib.hid (Cs.start w k n b s nm (.slice (some ⟨gk,off,none⟩) L c))
 have HZ0:=Lib.hid hz
 have Xp:=Lib.hid (⟨z0,z1,z2,z3,z4,z5⟩:w.cell? ⟨gk,off+6,none⟩=some (.int .i64 z.kind)∧w.cell? ⟨gk,off+6+1,none⟩=some (.int .u64 z.num)∧w.cell? ⟨gk,off+6+2,none⟩=some (.int .i64 z.bits)∧w.cell? ⟨gk,off+6+3,none⟩=some (.bool z.sg)∧w.cell? ⟨gk,off+6+4,none⟩=some (.string z.name)∧w.cell? ⟨gk,off+6+5,none⟩=some (.slice az z.kids.length cz))
 clear hz z0 z1 z2 z3 z4 z5
 obtain⟨x0,x1,x2,x3,x4,x5⟩:=Bx.six K1.out.x
 obtain⟨y0,y1,y2,y3⟩:=K1.out.y
 have Le:=Lib.hid hy
 have cl:∀(o:Nat)(u:Value),w.cell? ⟨gk,o,none⟩=some u→((w.alloc (.cells #[.int .i64 k, .int .u64 n, .int .i64 b, .bool s, .string nm, .slice (some ⟨gk,off,none⟩) L c] 62)).alloc (.cells #[.int .i64 0, .bool false] 33)).cell? ⟨gk,o,none⟩=some u:=fun o u h=>by
  rw [Below.cell (p:=⟨gk,o,none⟩) K1.out.ext (World.block_lt_of_cell? _ _ h)];exact h
 replace k0:=cl _ _ k0;replace k1:=cl _ _ k1;replace k2:=cl _ _ k2;replace k3:=cl _ _ k3;replace k4:=cl _ _ k4;replace k5:=cl _ _ k5
 clear cl hy
 have q1:(k==1)=false:=by simp;omega
 have q4:decide (k<5)=false:=by simp;omega
 have q5:decide (k≤4)=false:=by simp;omega
 have q6:decide (k>26)=false:=by simp;omega
 have qL:(0:Nat)<L:=by omega
 have q7:(k==5)=false:=by simp;omega
 have q8:decide (k<9)=false:=by simp;omega
 have q9:((L:Int)==1)=false:=by simp;omega
 have qL2:(1:Nat)<L:=by omega
 clear hk hL
 obtain⟨R,hR⟩:∃R:Int,R=if((n0 !=0)&&(n1 !=0))||((k==26)&&((n0 !=0)||(n1 !=0)))then 1 else 0:=⟨_,rfl⟩
 rw [←hR]
 go_enter Try.func29,Try.ntmps29
 go_upto_region 1 with(fail)
 generalize hw1:World.alloc (World.alloc w _) _=w1
 rw [hw1]at K1 x0 x1 x2 x3 x4 x5 y0 y1 y2 y3 k0 k1 k2 k3 k4 k5
 clear hw1
 have HR:=Lib.hid hR
 have HK9:=Lib.hid hk9
 clear hR hk9
 go_upto_region 12 with(first|(go_at_call 29;refine(yQ.out _ (Le.out.keep K1.out.ext)).mono ?_;rintro e w2⟨rfl,hb2⟩;have K2:=Lib.hid ((K1.out.below hb2).below (Ext.alloc (Below.refl _ _) (.cells #[.int .i64 b0, .bool s0] 33)));have T2:=Lib.hid (Ty.new w2 rfl b0 s0 33);have HB2:=Lib.hid (Ext.trans K1.out.ext (Ext.trans hb2 (Ext.alloc (Below.refl _ _) (.cells #[.int .i64 b0, .bool s0] 33))));have HS2:Hid (w.heap.size+1<w2.heap.size):=Nat.lt_of_lt_of_le K1.out.lt hb2.size;clear hb2 k0 k1 k2 k3 k4 k5 x0 x1 x2 x3 x4 x5 y0 y1 y2 y3;obtain⟨x0,x1,x2,x3,x4,x5⟩:=Bx.six K2.out.x;obtain⟨y0,y1,y2,y3⟩:=K2.out.y;obtain⟨t0,t1,t2,t3⟩:=T2.out))
 have clz:∀(o:Nat)(u:Value),w.cell? ⟨gk,o,none⟩=some u→(w2.alloc (.cells #[.int .i64 b0, .bool s0] 33)).cell? ⟨gk,o,none⟩=some u:=fun o u h=>by
  rw [Below.cell (p:=⟨gk,o,none⟩) K2.out.ext (World.block_lt_of_cell? _ _ h)];exact h
 obtain⟨Si,Sj,Sl,Sm,Sr,Sv⟩:=Xp.out
 obtain⟨zk,Lh⟩:∃q,q=z.kind:=⟨_,rfl⟩
 have z0:=clz _ _ Si;have z1:=clz _ _ Sj;have z2:=clz _ _ Sl;have z3:=clz _ _ Sm;have z4:=clz _ _ Sr;have z5:=clz _ _ Sv
 rw [←Lh]at z0
 replace zT:Hid (∀w1:World,eU w1 z (Xc z az cz)→Calls Try.prog 29 #[.agg #[.int .i64 zk, .int .u64 z.num, .int .i64 z.bits, .bool z.sg, .string z.name, .slice az z.kids.length cz]] w1 (nS n1 b1 s1 0 w1)):=by rw [Lh];exact zT
 clear clz Si Sj Sl Sm Sr Sv Lh
 go_upto_region 15 with(first|(go_at_call_of 29(Value.int IntKind.i64 zk);refine(zT.out _ (HZ0.out.keep K2.out.ext)).mono ?_;rintro e w3⟨rfl,hb3⟩;have K3:=Lib.hid ((K2.out.below hb3).below (Ext.alloc (Below.refl _ _) (.cells #[.int .i64 b1, .bool s1] 33)));have T3:=Lib.hid ((T2.out.below hb3).below (Ext.alloc (Below.refl _ _) (.cells #[.int .i64 b1, .bool s1] 33)));have U3:=Lib.hid (Ty.new w3 rfl b1 s1 33);have Zk:Hid (w2.heap.size<w3.heap.size):=Nat.lt_of_lt_of_le (by simp) hb3.size;clear hb3 x0 x1 x2 x3 x4 x5 y0 y1 y2 y3 t0 t1 t2 t3 z0 z1 z2 z3 z4 z5;obtain⟨x0,x1,x2,x3,x4,x5⟩:=Bx.six K3.out.x;obtain⟨y0,y1,y2,y3⟩:=K3.out.y;obtain⟨t0,t1,t2,t3⟩:=T3.out;obtain⟨u0,u1,u2,u3⟩:=U3.out))
 have hR:=HR.out
 clear HR
 rcases HK9.out with hk|hk
 ·subst hk
  by_cases h0:n0=0
  ·subst h0
   by_cases h1:n1=0
   ·subst h1
    have hv:R=0:=(by rw [hR];unfold bne;rfl)
    subst hv
    clear hR
    go_wp2_with(first|(go_at_call 43;refine(gX _).mono ?_;rintro e w5⟨rfl,hb5⟩;have K5:=Lib.hid (K3.out.below hb5);clear hb5 x0 x1 x2 x3 x4 x5 y0 y1 y2 y3 t0 t1 t2 t3 u0 u1 u2 u3;obtain⟨y0,y1,y2,y3⟩:=K5.out.y))
    exact bodyPost_ret (v:= .tuple #[.int .u64 0,W.ty 16 true, .int .i64 0]) (by simp [results,Try.results29,go_sem,y0,y1,y2,y3]) rfl ⟨rfl,(Ext.setCell (Ext.setCell K5.out.ext (Nat.le_add_right _ 1) _) (Nat.le_add_right _ 1) _)⟩
   ·have g1:(n1==0)=false:=(by simpa using h1)
    have hv:R=0:=(by rw [hR];unfold bne;rw [g1];rfl)
    subst hv
    clear hR
    go_wp2_with(first|(go_at_call 43;refine(gX _).mono ?_;rintro e w5⟨rfl,hb5⟩;have K5:=Lib.hid (K3.out.below hb5);clear hb5 x0 x1 x2 x3 x4 x5 y0 y1 y2 y3 t0 t1 t2 t3 u0 u1 u2 u3;obtain⟨y0,y1,y2,y3⟩:=K5.out.y))
    exact bodyPost_ret (v:= .tuple #[.int .u64 0,W.ty 16 true, .int .i64 0]) (by simp [results,Try.results29,go_sem,y0,y1,y2,y3]) rfl ⟨rfl,(Ext.setCell (Ext.setCell K5.out.ext (Nat.le_add_right _ 1) _) (Nat.le_add_right _ 1) _)⟩
  ·have g0:(n0==0)=false:=(by simpa using h0)
   by_cases h1:n1=0
   ·subst h1
    have hv:R=0:=(by rw [hR];unfold bne;rw [g0];rfl)
    subst hv
    clear hR
    go_wp2_with(first|(go_at_call 43;refine(gX _).mono ?_;rintro e w5⟨rfl,hb5⟩;have K5:=Lib.hid (K3.out.below hb5);clear hb5 x0 x1 x2 x3 x4 x5 y0 y1 y2 y3 t0 t1 t2 t3 u0 u1 u2 u3;obtain⟨y0,y1,y2,y3⟩:=K5.out.y))
    exact bodyPost_ret (v:= .tuple #[.int .u64 0,W.ty 16 true, .int .i64 0]) (by simp [results,Try.results29,go_sem,y0,y1,y2,y3]) rfl ⟨rfl,(Ext.setCell (Ext.setCell K5.out.ext (Nat.le_add_right _ 1) _) (Nat.le_add_right _ 1) _)⟩
   ·have g1:(n1==0)=false:=(by simpa using h1)
    have hv:R=1:=(by rw [hR];unfold bne;rw [g0];rw [g1];rfl)
    subst hv
    clear hR
    go_wp2_with(first|(go_at_call 43;refine(gX _).mono ?_;rintro e w5⟨rfl,hb5⟩;have K5:=Lib.hid (K3.out.below hb5);clear hb5 x0 x1 x2 x3 x4 x5 y0 y1 y2 y3 t0 t1 t2 t3 u0 u1 u2 u3;obtain⟨y0,y1,y2,y3⟩:=K5.out.y))
    exact bodyPost_ret (v:= .tuple #[.int .u64 1,W.ty 16 true, .int .i64 0]) (by simp [results,Try.results29,go_sem,y0,y1,y2,y3]) rfl ⟨rfl,(Ext.setCell (Ext.setCell K5.out.ext (Nat.le_add_right _ 1) _) (Nat.le_add_right _ 1) _)⟩
 ·subst hk
  by_cases h0:n0=0
  ·subst h0
   by_cases h1:n1=0
   ·subst h1
    have hv:R=0:=(by rw [hR];unfold bne;rfl)
    subst hv
    clear hR
    go_wp2_with(first|(go_at_call 43;refine(gX _).mono ?_;rintro e w5⟨rfl,hb5⟩;have K5:=Lib.hid (K3.out.below hb5);clear hb5 x0 x1 x2 x3 x4 x5 y0 y1 y2 y3 t0 t1 t2 t3 u0 u1 u2 u3;obtain⟨y0,y1,y2,y3⟩:=K5.out.y))
    exact bodyPost_ret (v:= .tuple #[.int .u64 0,W.ty 16 true, .int .i64 0]) (by simp [results,Try.results29,go_sem,y0,y1,y2,y3]) rfl ⟨rfl,(Ext.setCell (Ext.setCell K5.out.ext (Nat.le_add_right _ 1) _) (Nat.le_add_right _ 1) _)⟩
   ·have g1:(n1==0)=false:=(by simpa using h1)
    have hv:R=1:=(by rw [hR];unfold bne;rw [g1];rfl)
    subst hv
    clear hR
    go_wp2_with(first|(go_at_call 43;refine(gX _).mono ?_;rintro e w5⟨rfl,hb5⟩;have K5:=Lib.hid (K3.out.below hb5);clear hb5 x0 x1 x2 x3 x4 x5 y0 y1 y2 y3 t0 t1 t2 t3 u0 u1 u2 u3;obtain⟨y0,y1,y2,y3⟩:=K5.out.y))
    exact bodyPost_ret (v:= .tuple #[.int .u64 1,W.ty 16 true, .int .i64 0]) (by simp [results,Try.results29,go_sem,y0,y1,y2,y3]) rfl ⟨rfl,(Ext.setCell (Ext.setCell K5.out.ext (Nat.le_add_right _ 1) _) (Nat.le_add_right _ 1) _)⟩
  ·have g0:(n0==0)=false:=(by simpa using h0)
   by_cases h1:n1=0
   ·subst h1
    have hv:R=1:=(by rw [hR];unfold bne;rw [g0];rfl)
    subst hv
    clear hR
    go_wp2_with(first|(go_at_call 43;refine(gX _).mono ?_;rintro e w5⟨rfl,hb5⟩;have K5:=Lib.hid (K3.out.below hb5);clear hb5 x0 x1 x2 x3 x4 x5 y0 y1 y2 y3 t0 t1 t2 t3 u0 u1 u2 u3;obtain⟨y0,y1,y2,y3⟩:=K5.out.y))
    exact bodyPost_ret (v:= .tuple #[.int .u64 1,W.ty 16 true, .int .i64 0]) (by simp [results,Try.results29,go_sem,y0,y1,y2,y3]) rfl ⟨rfl,(Ext.setCell (Ext.setCell K5.out.ext (Nat.le_add_right _ 1) _) (Nat.le_add_right _ 1) _)⟩
   ·have g1:(n1==0)=false:=(by simpa using h1)
    have hv:R=1:=(by rw [hR];unfold bne;rw [g0];rw [g1];rfl)
    subst hv
    clear hR
    go_wp2_with(first|(go_at_call 43;refine(gX _).mono ?_;rintro e w5⟨rfl,hb5⟩;have K5:=Lib.hid (K3.out.below hb5);clear hb5 x0 x1 x2 x3 x4 x5 y0 y1 y2 y3 t0 t1 t2 t3 u0 u1 u2 u3;obtain⟨y0,y1,y2,y3⟩:=K5.out.y))
    exact bodyPost_ret (v:= .tuple #[.int .u64 1,W.ty 16 true, .int .i64 0]) (by simp [results,Try.results29,go_sem,y0,y1,y2,y3]) rfl ⟨rfl,(Ext.setCell (Ext.setCell K5.out.ext (Nat.le_add_right _ 1) _) (Nat.le_add_right _ 1) _)⟩
end Go.Proofs.Ythdckndjggljpaa
