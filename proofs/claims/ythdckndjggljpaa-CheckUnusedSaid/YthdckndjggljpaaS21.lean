/- Proofs of this claim, part 21. No condition. -/
import Derived.Test.YthdckndjggljpaaS20
namespace Go.Proofs.Ythdckndjggljpaa
set_option linter.unusedVariables false
set_option linter.unusedSimpArgs false
set_option maxRecDepth 100000
set_option maxHeartbeats 64000000
open Go.RowKit
theorem aal{w:World}{k n b:Int}{s:Bool}{nm:ByteArray}{ks:List X}{a:Option Addr}{L c:Nat}(h:eU w (.mk k n b s nm ks) (X.cells k n b s nm (.slice a L c))){y:X}(hy:ks[0]?=some y):
 ∃(g off:Nat)(ay:Option Addr)(cy:Nat),a=some ⟨g,off,none⟩∧eU w y (Xc y ay cy)∧
  w.cell? ⟨g,off,none⟩=some (.int .i64 y.kind)∧w.cell? ⟨g,off+1,none⟩=some (.int .u64 y.num)∧w.cell? ⟨g,off+2,none⟩=some (.int .i64 y.bits)∧w.cell? ⟨g,off+3,none⟩=some (.bool y.sg)∧w.cell? ⟨g,off+4,none⟩=some (.string y.name)∧w.cell? ⟨g,off+5,none⟩=some (.slice ay y.kids.length cy):=by
 have:=h.kid hy
 simpa only [Nat.zero_mul,Nat.add_zero]using this
theorem aaQ{w:World}{k n b:Int}{s:Bool}{nm:ByteArray}{ks:List X}{g off L c:Nat}(h:eU w (.mk k n b s nm ks) (X.cells k n b s nm (.slice (some ⟨g,off,none⟩) L c))){y:X}(hy:ks[1]?=some y):
 ∃(ay:Option Addr)(cy:Nat),eU w y (Xc y ay cy)∧
  w.cell? ⟨g,off+6,none⟩=some (.int .i64 y.kind)∧w.cell? ⟨g,off+6+1,none⟩=some (.int .u64 y.num)∧w.cell? ⟨g,off+6+2,none⟩=some (.int .i64 y.bits)∧w.cell? ⟨g,off+6+3,none⟩=some (.bool y.sg)∧w.cell? ⟨g,off+6+4,none⟩=some (.string y.name)∧w.cell? ⟨g,off+6+5,none⟩=some (.slice ay y.kids.length cy):=by
 obtain⟨g2,off2,ay,cy,e,h1⟩:=h.kid hy
 simp only [Option.some.injEq,Addr.mk.injEq,and_true]at e
 obtain⟨rfl,rfl⟩:=e
 exact⟨ay,cy,by simpa only [Nat.one_mul]using h1⟩
theorem Mc(x:X):X.gK x→X.Wf x→∀(w:World)(cs:List Value),eU w x cs→Calls Try.prog 29 #[.agg cs.toArray] w (nS (X.cst x).n (X.cst x).b (X.cst x).s (X.cst x).e w):=by
 induction x using X.up with
 |_ x ih=>
  intro hs hw w cs hX
  have ho:=X.eH hs.own
  rw [X.kS]
  obtain⟨k,n,b,s,nm,ks⟩:=x
  obtain⟨a,c,rfl,RY,hcm,_⟩:=hX.open
  simp only [X.kind,X.num,X.bits,X.sg,X.name,X.kids]at ho⊢hX
  have IH:∀y∈ks,∀(w:World)(cs:List Value),eU w y cs→Calls Try.prog 29 #[.agg cs.toArray] w (nS (X.cst y).n (X.cst y).b (X.cst y).s (X.cst y).e w):=fun y hy=>ih y hy (hs.kid hy) (hw.kid hy)
  unfold Cst.of
  by_cases h1:k=1
  ·subst h1;rw [if_pos rfl];exact Qo n b s nm _ w
  rw [if_neg h1]
  by_cases h2:k<5∨26<k
  ·rw [if_pos h2];exact Qq k n b s nm _ h1 h2 ⟨ho.1,ho.2.1⟩ w
  rw [if_neg h2]
  have hy:∃y,ks[0]?=some y:=by
   rcases Int.lt_or_le k 9 with h|h
   ·obtain⟨y,hy⟩:=hs.one (show 5≤k by omega) h
    have hy:ks=[y]:=hy
    exact⟨y,by rw [hy];rfl⟩
   ·obtain⟨y,z,hy⟩:=hs.two h
    have hy:ks=[y,z]:=hy
    exact⟨y,by rw [hy];rfl⟩
  obtain⟨y,hy⟩:=hy
  have hym:=List.mem_of_getElem? hy
  have fy:Cst.Fine (X.cst y):=X.fD y (hs.kid hym) (hw.kid hym)
  rw [show(ks.map X.cst).getD 0 ⟨0,0,false,0⟩=X.cst y from X.uf (x:= .mk k n b s nm ks) hy]
  obtain⟨gk,off,ay,cy,rfl,hxy,k0,k1,k2,k3,k4,k5⟩:=aal hX hy
  have hl1:1≤ks.length:=by have:=(List.getElem?_eq_some_iff.1 hy).1;omega
  have yQ:Hid (∀w1:World,eU w1 y (Xc y ay cy)→Calls Try.prog 29 #[.agg (Xc y ay cy).toArray] w1 (nS (X.cst y).n (X.cst y).b (X.cst y).s (X.cst y).e w1)):=fun w1 h=>IH y hym w1 _ h
  by_cases he:(X.cst y).e≠0
  ·rw [if_pos he]
   exact Md k n b _ _ _ s _ nm gk off _ c y ay cy hl1 (by omega) he w hxy k0 k1 k2 k3 k4 k5 yQ
  rw [if_neg he]
  have he:(X.cst y).e=0:=by omega
  have fyu:=fy.U he
  rw [he]at yQ
  by_cases h5:k=5
  ·subst h5;rw [if_pos rfl]
   have hl:ks.length=1:=by
    obtain⟨y,hy⟩:=hs.one (show(5:Int)≤5 by omega) (show(5:Int)<9 by omega)
    have hy:ks=[y]:=hy
    rw [hy];rfl
   exact Me n b _ _ _ s _ nm gk off _ c y ay cy hl w hxy k0 k1 k2 k3 k4 k5 yQ (fun w1=>fC _ _ b _ s (fy he).1 (ho.2.2.2.1 rfl) fyu w1)
  rw [if_neg h5]
  by_cases h9:k<9
  ·rw [if_pos h9]
   have hl:ks.length=1:=by
    obtain⟨y,hy⟩:=hs.one (show 5≤k by omega) h9
    have hy:ks=[y]:=hy
    rw [hy];rfl
   exact Um k n b _ _ _ _ _ s _ _ nm gk off _ c y ay cy hl (by omega) w hxy k0 k1 k2 k3 k4 k5 yQ (W.tK k (X.cst y).n (X.cst y).b (X.cst y).s fyu).1
  rw [if_neg h9]
  obtain⟨y2,z,hyz⟩:=hs.two (show 9≤k by omega)
  have hyz:ks=[y2,z]:=hyz
  have hz:ks[1]?=some z:=by rw [hyz];rfl
  have hl:ks.length=2:=by rw [hyz];rfl
  have hzm:=List.mem_of_getElem? hz
  have fz:Cst.Fine (X.cst z):=X.fD z (hs.kid hzm) (hw.kid hzm)
  rw [show(ks.map X.cst).getD 1 ⟨0,0,false,0⟩=X.cst z from X.uf (x:= .mk k n b s nm ks) hz]
  obtain⟨az,cz,hxz,z0,z1,z2,z3,z4,z5⟩:=aaQ hX hz
  have zT:Hid (∀w1:World,eU w1 z (Xc z az cz)→Calls Try.prog 29 #[.agg (Xc z az cz).toArray] w1 (nS (X.cst z).n (X.cst z).b (X.cst z).s (X.cst z).e w1)):=fun w1 h=>IH z hzm w1 _ h
  by_cases he1:(X.cst z).e≠0
  ·rw [if_pos he1]
   exact Ld k n b _ _ _ _ _ s _ _ nm gk off _ c y z ay cy az cz hl (by omega) he1 w hxy k0 k1 k2 k3 k4 k5 yQ hxz z0 z1 z2 z3 z4 z5 zT
  rw [if_neg he1]
  have he1:(X.cst z).e=0:=by omega
  have fzu:=fz.U he1
  rw [he1]at zT
  by_cases h25:k=25∨k=26
  ·rw [if_pos h25]
   exact Qr k n b _ _ _ _ s _ _ nm gk off _ c y z ay cy az cz hl h25 w hxy k0 k1 k2 k3 k4 k5 yQ hxz z0 z1 z2 z3 z4 z5 zT
  rw [if_neg h25]
  exact Qs k n b _ _ _ _ _ _ _ s _ _ _ nm gk off _ c y z ay cy az cz hl (by omega) w hxy k0 k1 k2 k3 k4 k5 yQ hxz z0 z1 z2 z3 z4 z5 zT (W.AP k (X.cst y).n (X.cst z).n (X.cst y).b (X.cst z).b (X.cst y).s (X.cst z).s fyu fzu).1 (fun w1=>xR _ _ _ _ _ w1)
end Go.Proofs.Ythdckndjggljpaa
