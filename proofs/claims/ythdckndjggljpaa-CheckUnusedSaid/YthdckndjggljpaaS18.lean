/- Proofs of this claim, part 18. No condition. -/
import Derived.Test.YthdckndjggljpaaS9
import Derived.Test.YthdckndjggljpaaS17
namespace Go.Proofs.Ythdckndjggljpaa
set_option linter.unusedVariables false
set_option linter.unusedSimpArgs false
set_option maxRecDepth 100000
set_option maxHeartbeats 64000000
section
open Go.RowKit
theorem W.rng(x T:Int):0≤x%W.md T∧x%W.md T<W.md T:=⟨W.dZ _ _,W.rQ _ _⟩
theorem W.RI(T:Int)(s:Bool)(a b:Int):0≤W.quo T s a b∧W.quo T s a b<W.md T:=by
 unfold W.quo
 split
 ·exact W.rng _ _
 ·have h1:=W.rng a T;have h2:=W.rng b T
  have h3:a%W.md T/(b%W.md T)≤a%W.md T:=Int.ediv_le_self _ h1.1
  exact⟨Int.ediv_nonneg h1.1 h2.1,by omega⟩
theorem W.P6(T:Int)(s:Bool)(a b:Int):0≤W.rem T s a b∧W.rem T s a b<W.md T:=by
 unfold W.rem
 split
 ·exact W.rng _ _
 ·have h1:=W.rng a T;have h2:=W.rng b T
  rcases Int.lt_or_le 0 (b%W.md T)with h3|h3
  ·have h4:=Int.emod_lt_of_pos (a%W.md T) h3
   exact⟨Int.emod_nonneg _ (by omega),by omega⟩
  ·have:b%W.md T=0:=by omega
   rw [this,Int.emod_zero];exact h1
theorem W.O9(T:Int)(s:Bool)(a n:Int):0≤W.shr T s a n∧W.shr T s a n<W.md T:=by
 unfold W.shr
 split
 ·exact W.rng _ _
 ·have h1:=W.rng a T
  have h2:(0:Int)<2^min n.toNat 64:=Int.pow_pos (by decide)
  have h3:a%W.md T/2^min n.toNat 64≤a%W.md T:=Int.ediv_le_self _ h1.1
  exact⟨Int.ediv_nonneg h1.1 (by omega),by omega⟩
theorem W.yR(T:Int)(h:W.ok T)(x:Nat)(hx:x<2^(T.toNat)):(0:Int)≤(x:Int)∧(x:Int)<W.md T:=by
 rcases h with rfl|rfl|rfl|rfl<;>simp [W.md]at hx⊢<;>omega
theorem W.uT(T:Int)(h:W.ok T)(x:Nat)(hx:(x:Int)<W.md T):x<2^(T.toNat):=by
 rcases h with rfl|rfl|rfl|rfl<;>simp [W.md]at hx⊢<;>omega
theorem W.F7(T:Int)(h:W.ok T)(z:Bool):(0:Int)≤(if z then 1 else 0)∧(if z then 1 else 0)<W.md T:=by
 have:2≤W.md T:=by rcases h with rfl|rfl|rfl|rfl<;>decide
 cases z<;>simp<;>omega
theorem W.YJ(fb:Int)(fs:Bool)(T x:Int):0≤W.conv fb fs T x∧W.conv fb fs T x<W.md T:=W.rng _ _
theorem W.XD{k a b:Int}(h:¬(k=14∨k=15)∧¬(16≤k∧k≤21)):W.rb k a b=W.cb a b:=by unfold W.rb;rw [if_neg h.1,if_neg h.2]
theorem W.SA{k a b:Int}(h:k=14∨k=15):W.rb k a b=W.pb a:=by unfold W.rb;rw [if_pos h]
def W.bin(k a b xb yb:Int)(xs ys:Bool):Int×Int:=
 if W.okB xb=false∨W.okB yb=false∨k<9∨24<k then(0,1)
 else if k=14 then(W.shl (W.pb xb) (W.conv xb xs (W.pb xb) a) (W.conv yb ys 16 b),0)
 else if k=15 then(W.shr (W.pb xb) (W.ps xb xs) (W.conv xb xs (W.pb xb) a) (W.conv yb ys 16 b),0)
 else W.Di k (W.cb xb yb) (W.cs xb xs yb ys) (W.conv xb xs (W.cb xb yb) a) (W.conv yb ys (W.cb xb yb) b)
def W.un(k a xb:Int)(xs:Bool):Int×Int×Bool×Int:=
 if W.okB xb=false then(0,0,false,1)
 else if k=6 then(W.sub (W.pb xb) 0 (W.conv xb xs (W.pb xb) a),W.pb xb,W.ps xb xs,0)
 else if k=7 then(W.cut (W.pb xb) (18446744073709551615-W.conv xb xs (W.pb xb) a),W.pb xb,W.ps xb xs,0)
 else if k=8 then(if W.conv xb xs (W.pb xb) a==0 then 1 else 0,16,true,0)
 else(0,0,false,1)
theorem uS(o:BinOp)(ho:o= .and∨o= .xor∨o= .or)(T p q:Int)(hT:W.ok T)(hp:0≤p∧p<W.md T)(hq:0≤q∧q<W.md T):0≤bits o .u64 p q∧bits o .u64 p q<W.md T:=by
 have hm:=W.uI T
 obtain⟨p',rfl⟩:=Int.eq_ofNat_of_zero_le hp.1
 obtain⟨q',rfl⟩:=Int.eq_ofNat_of_zero_le hq.1
 have hp2:=Int.lt_of_lt_of_le hp.2 hm
 have hq2:=Int.lt_of_lt_of_le hq.2 hm
 rcases ho with rfl|rfl|rfl
 ·rw [u64_and _ _ hp.1 hp2 hq.1 hq2];exact W.yR T hT _ (Nat.and_lt_two_pow _ (W.uT T hT q' hq.2))
 ·rw [u64_xor _ _ hp.1 hp2 hq.1 hq2];exact W.yR T hT _ (Nat.xor_lt_two_pow (W.uT T hT p' hp.2) (W.uT T hT q' hq.2))
 ·rw [u64_or _ _ hp.1 hp2 hq.1 hq2];exact W.yR T hT _ (Nat.or_lt_two_pow (W.uT T hT p' hp.2) (W.uT T hT q' hq.2))
theorem W.P8{k T:Int}{S:Bool}{p q:Int}(hT:W.ok T)(hk:¬(16≤k∧k≤21))(h9:9≤k∧k≤24∧k≠14∧k≠15)(hp:0≤p∧p<W.md T)(hq:0≤q∧q<W.md T)(h:(W.Di k T S p q).2=0):0≤(W.Di k T S p q).1∧(W.Di k T S p q).1<W.md T:=by
 unfold W.Di at h⊢
 split at h
 ·rename_i e;rw [if_pos e];exact W.rng _ _
 rename_i e;rw [if_neg e]
 split at h
 ·rename_i e;rw [if_pos e]
  split at h
  ·cases h
  ·rename_i e;rw [if_neg e];exact W.RI _ _ _ _
 rename_i e;rw [if_neg e]
 split at h
 ·rename_i e;rw [if_pos e]
  split at h
  ·cases h
  ·rename_i e;rw [if_neg e];exact W.P6 _ _ _ _
 rename_i e;rw [if_neg e]
 split at h
 ·rename_i e;rw [if_pos e];exact W.rng _ _
 rename_i e;rw [if_neg e]
 split at h
 ·rename_i e;rw [if_pos e];exact W.rng _ _
 rename_i e;rw [if_neg e]
 split at h
 ·rename_i e;rw [if_pos e];exact uS _ (.inl rfl) T p q hT hp hq
 rename_i e;rw [if_neg e]
 split at h
 ·rename_i e;rw [if_pos e];exact uS _ (.inr (.inl rfl)) T p q hT hp hq
 rename_i e;rw [if_neg e]
 split at h
 ·rename_i e;rw [if_pos e];exact uS _ (.inr (.inr rfl)) T p q hT hp hq
 ·omega
theorem W.yV{b:Int}(h:W.okB b≠false):W.ok b:=Classical.byContradiction fun h2=>h (W.Gp h2)
theorem W.AP(k a b xb yb:Int)(xs ys:Bool)(ha:W.U a)(hb:W.U b):Gives 46 #[.int .i64 k, .int .u64 a, .int .u64 b,W.ty xb xs,W.ty yb ys] (.tuple #[.int .u64 (W.bin k a b xb yb xs ys).1, .int .i64 (W.bin k a b xb yb xs ys).2])∧
 Gives 46 #[.int .i64 k, .int .u64 a, .int .u64 b,W.ty xb xs,W.ty yb ys] (.tuple #[.int .u64 (W.bin k a b xb yb xs ys).1, .int .i64 (W.bin k a b xb yb xs ys).2])∧((W.bin k a b xb yb xs ys).2=0→(W.ok xb∧W.ok yb)∧0≤(W.bin k a b xb yb xs ys).1∧(W.bin k a b xb yb xs ys).1<W.md (W.rb k xb yb)):=by
 refine(fun h=>⟨h.1,h.1,h.2⟩:_∧_→_) ?_
 have VX:Hid (Gives 38 #[W.ty xb xs] (.bool (W.okB xb))):=nY xb xs
 have VY:Hid (Gives 38 #[W.ty yb ys] (.bool (W.okB yb))):=nY yb ys
 unfold W.bin
 by_cases hbad:W.okB xb=false∨W.okB yb=false∨k<9∨24<k
 ·rw [if_pos hbad];exact⟨fun w=>D9 k a b xb yb xs ys _ _ hbad VX VY w,fun h=>absurd h (by decide)⟩
 rw [if_neg hbad]
 have hx:W.ok xb:=W.yV fun h=>hbad (.inl h)
 have hy:W.ok yb:=W.yV fun h=>hbad (.inr (.inl h))
 have hk9:9≤k∧k≤24:=⟨Classical.byContradiction fun h=>hbad (.inr (.inr (.inl (by omega)))),Classical.byContradiction fun h=>hbad (.inr (.inr (.inr (by omega))))⟩
 rw [W.xP hx]at VX;rw [W.xP hy]at VY
 have o16:W.ok 16:=by simp [W.ok]
 have hT:=W.AQ hx
 have hC:=W.Sz hx hy
 have UA:=W.uX xb xs (W.pb xb) a;have UN:=W.uX yb ys 16 b
 have sh:∀R,(hk:k=14∨k=15)→(k=14→R=W.shl (W.pb xb) (W.conv xb xs (W.pb xb) a) (W.conv yb ys 16 b))→(k=15→R=W.shr (W.pb xb) (W.ps xb xs) (W.conv xb xs (W.pb xb) a) (W.conv yb ys 16 b))→Gives 46 #[.int .i64 k, .int .u64 a, .int .u64 b,W.ty xb xs,W.ty yb ys] (.tuple #[.int .u64 R, .int .i64 0]):=fun R hk qc h15 w=>
  yX k a b xb yb (W.pb xb) _ _ _ xs ys (W.ps xb xs) hk VX VY (fun w=>dB xb xs w) (fun w=>fC a xb (W.pb xb) xs (W.ps xb xs) hx hT ha w) (fun w=>fC b yb 16 ys false hy o16 hb w)
   (fun e w=>(Uh _ _ (W.pb xb) hT UA UN.1 w).mono fun e' w'⟨h1,h2⟩=>⟨by rw [qc e];exact h1,by rw [h2];exact Ext.alloc (Below.refl _ _) _⟩)
   (fun e w=>(P7 _ _ (W.pb xb) (W.ps xb xs) hT UA UN.1 w).mono fun e' w'⟨h1,h2⟩=>⟨by rw [h15 e];exact h1,h2▸Below.refl _ _⟩) w
 by_cases qc:k=14
 ·rw [if_pos qc]
  exact⟨sh _ (.inl qc) (fun _=>rfl) (fun h=>by omega),fun _=>⟨⟨hx,hy⟩,by rw [W.SA (.inl qc)];exact W.rng _ _⟩⟩
 rw [if_neg qc]
 by_cases h15:k=15
 ·rw [if_pos h15]
  exact⟨sh _ (.inr h15) (fun h=>by omega) (fun _=>rfl),fun _=>⟨⟨hx,hy⟩,by rw [W.SA (.inr h15)];exact W.O9 _ _ _ _⟩⟩
 rw [if_neg h15]
 refine⟨fun w=>Ea k a b xb yb _ xs ys _ ⟨hk9.1,hk9.2,qc,h15⟩ hx hy hC rfl rfl ha hb _ _ rfl rfl w,fun h=>⟨⟨hx,hy⟩,?_⟩⟩
 by_cases h16:16≤k∧k≤21
 ·have e:W.rb k xb yb=16:=by unfold W.rb;rw [if_neg (by omega),if_pos h16]
  rw [e]
  unfold W.Di
  rw [if_neg (by omega),if_neg (by omega),if_neg (by omega),if_neg (by omega),if_neg (by omega),if_neg (by omega),if_neg (by omega),if_neg (by omega)]
  exact W.F7 16 o16 _
 ·rw [W.XD ⟨by omega,h16⟩]
  exact W.P8 hC h16 ⟨hk9.1,hk9.2,qc,h15⟩ (W.rng _ _) (W.rng _ _) h
theorem W.tK(k a xb:Int)(xs:Bool)(ha:W.U a):(∀w:World,Calls Try.prog 45 #[.int .i64 k, .int .u64 a,W.ty xb xs] w (nS (W.un k a xb xs).1 (W.un k a xb xs).2.1 (W.un k a xb xs).2.2.1 (W.un k a xb xs).2.2.2 w))∧(∀w:World,Calls Try.prog 45 #[.int .i64 k, .int .u64 a,W.ty xb xs] w (nS (W.un k a xb xs).1 (W.un k a xb xs).2.1 (W.un k a xb xs).2.2.1 (W.un k a xb xs).2.2.2 w))∧
 ((W.un k a xb xs).2.2.2=0→W.ok xb∧W.ok (W.un k a xb xs).2.1∧0≤(W.un k a xb xs).1∧(W.un k a xb xs).1<W.md (W.un k a xb xs).2.1)∧(k=6→W.ok xb→W.un k a xb xs=(W.sub (W.pb xb) 0 (W.conv xb xs (W.pb xb) a),W.pb xb,W.ps xb xs,0))∧
 ((W.un k a xb xs).2.2.2=0→(k=6∨k=7→(W.un k a xb xs).2.1=W.pb xb∧(W.un k a xb xs).2.2.1=W.ps xb xs)∧(k=8→(W.un k a xb xs).2.1=16∧(W.un k a xb xs).2.2.1=true)):=by
 refine(fun h=>⟨h.1,h.1,h.2⟩:_∧_→_) ?_
 unfold W.un
 by_cases hx:¬W.ok xb
 ·have e:=W.Gp hx
  rw [if_pos e]
  exact⟨fun w=>I8 k a xb xs (fun w=>by rw [←e];exact nY xb xs w) w,fun h=>absurd h (by decide),fun _ h=>absurd h hx,fun h=>absurd h (by decide)⟩
 have hx:W.ok xb:=Classical.byContradiction hx
 have e:=W.xP hx
 rw [if_neg (by rw [e];decide)]
 have VX:Hid (Gives 38 #[W.ty xb xs] (.bool true)):=fun w=>by rw [←e];exact nY xb xs w
 have hT:=W.AQ hx
 have NP:Hid (Gives 61 #[W.ty xb xs] (W.ty (W.pb xb) (W.ps xb xs))):=fun w=>dB xb xs w
 have NC:Hid (Gives 44 #[.int .u64 a,W.ty xb xs,W.ty (W.pb xb) (W.ps xb xs)] (.int .u64 (W.conv xb xs (W.pb xb) a))):=fun w=>fC a xb (W.pb xb) xs (W.ps xb xs) hx hT ha w
 have UC:=W.uX xb xs (W.pb xb) a
 by_cases h6:k=6
 ·rw [if_pos h6];subst h6
  exact⟨fun w=>unary_neg a xb (W.pb xb) _ _ xs (W.ps xb xs) hT UC rfl VX NP NC w,fun _=>⟨hx,hT,W.rng _ _⟩,fun _ _=>rfl,fun _=>⟨fun _=>⟨rfl,rfl⟩,fun h=>by omega⟩⟩
 rw [if_neg h6]
 by_cases h7:k=7
 ·rw [if_pos h7];subst h7
  exact⟨fun w=>unary_not a xb (W.pb xb) _ _ xs (W.ps xb xs) hT UC rfl VX NP NC w,fun _=>⟨hx,hT,W.rng _ _⟩,fun h=>by omega,fun _=>⟨fun _=>⟨rfl,rfl⟩,fun h=>by omega⟩⟩
 rw [if_neg h7]
 by_cases h8:k=8
 ·rw [if_pos h8];subst h8
  exact⟨fun w=>IL a xb (W.pb xb) _ xs (W.ps xb xs) _ rfl VX NP NC w,fun _=>⟨hx,by simp [W.ok],W.F7 16 (by simp [W.ok]) _⟩,fun h=>by omega,fun _=>⟨fun h=>by omega,fun _=>⟨rfl,rfl⟩⟩⟩
 ·rw [if_neg h8]
  exact⟨fun w=>DR k a xb (W.pb xb) _ xs (W.ps xb xs) (by simpa using h6) (by simpa using h7) (by simpa using h8) VX NP NC w,fun h=>absurd h (by decide),fun h=>absurd h h6,fun h=>absurd h (by decide)⟩
end
section
open Go.RowKit
theorem W.Xd(k a xb:Int)(xs:Bool)(ha:W.U a)(h:(W.un k a xb xs).2.2.2=0)(hx:W.ok xb):(k=6∨k=7→(W.un k a xb xs).2.1=W.pb xb∧(W.un k a xb xs).2.2.1=W.ps xb xs)∧(k=8→(W.un k a xb xs).2.1=16∧(W.un k a xb xs).2.2.1=true):=(W.tK k a xb xs ha).2.2.2.2 h
structure Cst where
 n:Int
 b:Int
 s:Bool
 e:Int
noncomputable def Cst.of(k n b:Int)(s:Bool)(r0 r1:Cst):Cst:=
 if k=1 then⟨n,b,s,0⟩
 else if k<5∨26<k then⟨0,0,false,8⟩
 else if r0.e≠0 then⟨0,r0.b,r0.s,r0.e⟩
 else if k=5 then⟨W.conv r0.b r0.s b r0.n,b,s,0⟩
 else if k<9 then⟨(W.un k r0.n r0.b r0.s).1,(W.un k r0.n r0.b r0.s).2.1,(W.un k r0.n r0.b r0.s).2.2.1,(W.un k r0.n r0.b r0.s).2.2.2⟩
 else if r1.e≠0 then⟨0,r1.b,r1.s,r1.e⟩
 else if k=25∨k=26 then⟨if((r0.n !=0)&&(r1.n !=0))||((k==26)&&((r0.n !=0)||(r1.n !=0)))then 1 else 0,16,true,0⟩
 else⟨(W.bin k r0.n r1.n r0.b r1.b r0.s r1.s).1,W.rb k r0.b r1.b,W.rs k r0.b r0.s r1.b r1.s,(W.bin k r0.n r1.n r0.b r1.b r0.s r1.s).2⟩
namespace X
mutual
noncomputable def cst:X→Cst
 | .mk k n b s nm ks=>Cst.of k n b s ((IY ks).getD 0 ⟨0,0,false,0⟩) ((IY ks).getD 1 ⟨0,0,false,0⟩)
noncomputable def IY:List X→List Cst
 |[]=>[]
 |x::xs=>cst x::IY xs
end
theorem Ri(xs:List X):IY xs=xs.map cst:=by
 induction xs with
 |nil=>rw [IY];rfl
 |cons x xs ih=>rw [IY,ih];rfl
theorem kS(x:X):cst x=Cst.of x.kind x.num x.bits x.sg ((x.kids.map cst).getD 0 ⟨0,0,false,0⟩) ((x.kids.map cst).getD 1 ⟨0,0,false,0⟩):=by
 cases x with|mk k n b s nm ks=>rw [cst,Ri];rfl
theorem uf{x y:X}{i:Nat}(h:x.kids[i]?=some y):(x.kids.map cst).getD i ⟨0,0,false,0⟩=cst y:=by
 rw [List.getD_eq_getElem?_getD,List.getElem?_map,h];rfl
end X
def Cst.Fine(c:Cst):Prop:=c.e=0→W.ok c.b∧0≤c.n∧c.n<W.md c.b
theorem Cst.Fine.U{c:Cst}(h:Cst.Fine c)(he:c.e=0):W.U c.n:=⟨(h he).2.1,Int.lt_of_lt_of_le (h he).2.2 (W.uI _)⟩
theorem W.um{n:Int}{u:Bool}{b:Int}{s:Bool}(hn:W.U n)(h:W.lit n u=(b,s,0)):W.ok b∧n<W.md b:=by
 have h0:=hn.1;have h1:=hn.2
 unfold W.lit at h
 cases u
 ·simp only [Bool.false_eq_true,if_false]at h
  split at h
  ·simp only [Prod.mk.injEq]at h;obtain⟨rfl,_,_⟩:=h;exact⟨by simp [W.ok],by rw [W.Pn];omega⟩
  split at h
  ·simp only [Prod.mk.injEq]at h;obtain⟨rfl,_,_⟩:=h;exact⟨by simp [W.ok],by rw [W.Q7];omega⟩
  split at h
  ·simp only [Prod.mk.injEq]at h;obtain⟨rfl,_,_⟩:=h;exact⟨by simp [W.ok],by rw [W.QG];omega⟩
  ·simp at h
 ·simp only [if_true]at h
  split at h
  ·simp only [Prod.mk.injEq]at h;obtain⟨rfl,_,_⟩:=h;exact⟨by simp [W.ok],by rw [W.Pn];omega⟩
  split at h
  ·simp only [Prod.mk.injEq]at h;obtain⟨rfl,_,_⟩:=h;exact⟨by simp [W.ok],by rw [W.Q7];omega⟩
  ·simp only [Prod.mk.injEq]at h;obtain⟨rfl,_,_⟩:=h;exact⟨by simp [W.ok],by rw [W.QG];omega⟩
theorem W.XI{k a b:Int}(ha:W.ok a)(hb:W.ok b):W.ok (W.rb k a b):=by
 unfold W.rb
 split
 ·exact W.AQ ha
 ·split
  ·simp [W.ok]
  ·exact W.Sz ha hb
theorem W.adG{n b:Int}(h0:0≤n)(h:n<W.md b):W.U n:=⟨h0,Int.lt_of_lt_of_le h (W.uI b)⟩
namespace X
theorem eH{k n b:Int}{s:Bool}{nm:List UInt8}{c:Nat}(h:own k n b s nm c=0):1≤k∧k≤26∧(k=1→W.lit n (!s)=(b,s,0))∧(k=5→W.ok b)∧((aX k=-1∧c≤8)∨(0≤aX k∧aX k=(c:Int))):=by
 unfold own at h
 split at h
 ·exact absurd h (by decide)
 rename_i h1
 split at h
 ·exact absurd h (by decide)
 rename_i h2
 split at h
 ·exact absurd h (by decide)
 split at h
 ·exact absurd h (by decide)
 rename_i h4
 split at h
 ·exact absurd h (by decide)
 rename_i h5
 refine⟨by omega,by omega,fun hk=>Classical.byContradiction fun h=>h2 ⟨hk,h⟩,fun hk=>W.yV (fun h=>h4 ⟨hk,h⟩),?_⟩
 have hm:aX k=0∨aX k=-1∨aX k=1∨aX k=2:=by
  unfold aX;rw [if_neg h1];split
  ·exact .inl rfl
  split
  ·exact .inr (.inl rfl)
  split
  ·exact .inr (.inr (.inl rfl))
  ·exact .inr (.inr (.inr rfl))
 rcases hm with hm|hm|hm|hm<;>rw [hm]at h5⊢<;>omega
theorem gK.two{x:X}(h:gK x)(hk:9≤x.kind):∃y z,x.kids=[y,z]:=by
 have:=eH h.own
 have e:aX x.kind=2:=by unfold aX;rw [if_neg (by omega),if_neg (by omega),if_neg (by omega),if_neg (by omega)]
 have hl:x.kids.length=2:=by omega
 match hx:x.kids,hl with
 |[y,z],_=>exact⟨y,z,rfl⟩
theorem gK.one{x:X}(h:gK x)(hk:5≤x.kind)(hk2:x.kind<9):∃y,x.kids=[y]:=by
 have:=eH h.own
 have e:aX x.kind=1:=by unfold aX;rw [if_neg (by omega),if_neg (by omega),if_neg (by omega),if_pos (by omega)]
 have hl:x.kids.length=1:=by omega
 match hx:x.kids,hl with
 |[y],_=>exact⟨y,rfl⟩
theorem fD(x:X):gK x→Wf x→Cst.Fine (cst x):=by
 induction x using X.up with
 |_ x ih=>
  intro hs hw
  have ho:=eH hs.own
  rw [kS]
  unfold Cst.of
  split
  ·rename_i h1
   have:=W.um hw.num (ho.2.2.1 h1)
   exact fun _=>⟨this.1,hw.num.1,this.2⟩
  split
  ·exact fun h=>absurd h (by decide)
  rename_i h1 h2
  have h5:5≤x.kind:=by omega
  have hy:∃y,x.kids[0]?=some y:=by
   rcases Int.lt_or_le x.kind 9 with h|h
   ·obtain⟨y,hy⟩:=hs.one h5 h;exact⟨y,by rw [hy];rfl⟩
   ·obtain⟨y,z,hy⟩:=hs.two h;exact⟨y,by rw [hy];rfl⟩
  obtain⟨y,hy⟩:=hy
  rw [uf hy]
  have hym:=List.mem_of_getElem? hy
  have fy:=ih y hym (hs.kid hym) (hw.kid hym)
  split
  ·rename_i he;exact fun h=>absurd h he
  rename_i he
  have he:(cst y).e=0:=by omega
  have uy:=fy.U he
  split
  ·rename_i hk
   exact fun _=>⟨ho.2.2.2.1 hk,W.dZ _ _,W.rQ _ _⟩
  split
  ·have:=(W.tK x.kind (cst y).n (cst y).b (cst y).s uy).2.2.1
   exact fun h=>(this h).2
  rename_i h6 h7
  obtain⟨y2,z,hyz⟩:=hs.two (by omega)
  have hz:x.kids[1]?=some z:=by rw [hyz];rfl
  rw [uf hz]
  have hzm:=List.mem_of_getElem? hz
  have fz:=ih z hzm (hs.kid hzm) (hw.kid hzm)
  split
  ·rename_i he2;exact fun h=>absurd h he2
  rename_i he2
  have he2:(cst z).e=0:=by omega
  split
  ·intro _;refine⟨by simp [W.ok],?_⟩
   show 0≤(if _ then(1:Int)else 0)∧(if _ then(1:Int)else 0)<W.md 16
   split<;>decide
  ·have:=(W.AP x.kind (cst y).n (cst z).n (cst y).b (cst z).b (cst y).s (cst z).s uy (fz.U he2)).2.2
   intro h
   exact⟨W.XI (this h).1.1 (this h).1.2,(this h).2.1,(this h).2.2⟩
end X
end
section
open Go.RowKit
namespace X
def lit(n b:Int)(s:Bool):X:=if W.lit n (!s)=(b,s,0)then .mk 1 n b s ⟨#[]⟩ []else .mk 5 0 b s ⟨#[]⟩ [.mk 1 n (W.lit n true).1 (W.lit n true).2.1 ⟨#[]⟩ []]
def known(x:X):Bool:=x.kind==1||(x.kind==5&&(x.kids.map X.kind).getD 0 0==1)
noncomputable def bQ(k n b:Int)(s:Bool)(nm:ByteArray)(fs:List X):X:=
 if(decide (5≤k)&&fs.all known)=true∧(cst (.mk k n b s nm fs)).e=0 then lit (cst (.mk k n b s nm fs)).n (cst (.mk k n b s nm fs)).b (cst (.mk k n b s nm fs)).s else .mk k n b s nm fs
mutual
noncomputable def fold:X→X
 | .mk k n b s nm ks=>bQ k n b s nm (folds ks)
noncomputable def folds:List X→List X
 |[]=>[]
 |x::xs=>fold x::folds xs
end
theorem gQ(xs:List X):folds xs=xs.map fold:=by
 induction xs with
 |nil=>rw [folds];rfl
 |cons x xs ih=>rw [folds,ih];rfl
theorem fold_eq(x:X):fold x=bQ x.kind x.num x.bits x.sg x.name (x.kids.map fold):=by
 cases x with|mk k n b s nm ks=>rw [fold,gQ];rfl
theorem vU(n:Int)(hn:W.U n):(W.lit n true).2.2=0∧(W.lit n true).2.1=false:=by
 unfold W.lit;rw [if_pos rfl]
 split
 ·exact⟨rfl,rfl⟩
 split
 ·exact⟨rfl,rfl⟩
 ·exact⟨rfl,rfl⟩
theorem BA(n:Int)(hn:W.U n):W.lit n (!(W.lit n true).2.1)=((W.lit n true).1,(W.lit n true).2.1,0):=by
 obtain⟨h1,h2⟩:=vU n hn
 rw [h2]
 show W.lit n true=_
 rw [Prod.ext_iff,Prod.ext_iff];exact⟨rfl,h2,h1⟩
theorem rX{b:Int}(h:W.ok b):W.I b:=by rcases h with rfl|rfl|rfl|rfl<;>constructor<;>decide
theorem nZ(n b:Int)(s:Bool)(nm:ByteArray)(ks:List X):cst (.mk 1 n b s nm ks)=⟨n,b,s,0⟩:=by rw [kS];exact if_pos rfl
theorem qy(n b:Int)(s:Bool)(hn:W.U n)(hb:W.ok b)(hlt:n<W.md b):gK (lit n b s)∧Wf (lit n b s)∧cst (lit n b s)=⟨n,b,s,0⟩∧known (lit n b s)=true:=by
 unfold lit
 split
 ·rename_i h
  refine⟨.mk _ _ _ _ _ _ ?_ (fun x hx=>by simp at hx), .mk _ _ _ _ _ _ ⟨by decide,by decide⟩ hn (rX hb) (Nat.zero_le _) (fun x hx=>by simp at hx),?_,rfl⟩
  ·unfold own;rw [if_neg (by omega),if_neg (fun hh=>hh.2 h),if_neg (by omega),if_neg (by omega),if_neg (by simp [aX])]
  ·exact nZ _ _ _ _ _
 ·have h1:=vU n hn
  have h2:=BA n hn
  have hlb:=W.um hn (show W.lit n true=((W.lit n true).1,(W.lit n true).2.1,0)by rw [Prod.ext_iff,Prod.ext_iff];exact⟨rfl,rfl,h1.1⟩)
  refine⟨.mk _ _ _ _ _ _ ?_ (fun x hx=>?_), .mk _ _ _ _ _ _ ⟨by decide,by decide⟩ ⟨by decide,by decide⟩ (rX hb) (Nat.zero_le _) (fun x hx=>?_),?_,rfl⟩
  ·unfold own;rw [if_neg (by omega),if_neg (by omega),if_neg (by omega),if_neg (fun hh=>by rw [W.xP hb]at hh;exact absurd hh.2 (by decide)),if_neg (by simp [aX])]
  ·rw [List.mem_singleton]at hx;subst hx
   refine .mk _ _ _ _ _ _ ?_ (fun x hx=>by simp at hx)
   unfold own;rw [if_neg (by omega),if_neg (fun hh=>hh.2 h2),if_neg (by omega),if_neg (by omega),if_neg (by simp [aX])]
  ·rw [List.mem_singleton]at hx;subst hx
   exact .mk _ _ _ _ _ _ ⟨by decide,by decide⟩ hn (rX hlb.1) (Nat.zero_le _) (fun x hx=>by simp at hx)
  ·have ek:cst (.mk 1 n (W.lit n true).1 (W.lit n true).2.1 ⟨#[]⟩ [])=⟨n,(W.lit n true).1,(W.lit n true).2.1,0⟩:=by exact nZ _ _ _ _ _
   rw [kS]
   show Cst.of 5 0 b s (([X.mk 1 n (W.lit n true).1 (W.lit n true).2.1 ⟨#[]⟩ []].map cst).getD 0 _) _=_
   rw [show([X.mk 1 n (W.lit n true).1 (W.lit n true).2.1 ⟨#[]⟩ []].map cst).getD 0 ⟨0,0,false,0⟩=cst (.mk 1 n (W.lit n true).1 (W.lit n true).2.1 ⟨#[]⟩ [])from rfl,ek]
   unfold Cst.of
   rw [if_neg (by omega),if_neg (by omega),if_neg (by simp),if_pos rfl]
   have:W.conv (W.lit n true).1 (W.lit n true).2.1 b n=n:=by
    unfold W.conv;rw [h1.2]
    show W.cut (W.lit n true).1 n%W.md b=n
    unfold W.cut
    rw [Int.emod_eq_of_lt hn.1 hlb.2,Int.emod_eq_of_lt hn.1 hlt]
   rw [this]
theorem Zq{k n b:Int}{s:Bool}{nm:List UInt8}{c c':Nat}(h:c=c'):own k n b s nm c=own k n b s nm c':=by rw [h]
theorem dL(x:X):gK x→Wf x→gK (fold x)∧Wf (fold x)∧cst (fold x)=cst x∧((cst x).e=0→known (fold x)=true):=by
 induction x using X.up with
 |_ x ih=>
  intro hs hw
  obtain⟨k,n,b,s,nm,ks⟩:=x
  have IH:∀y∈ks,gK (fold y)∧Wf (fold y)∧cst (fold y)=cst y∧((cst y).e=0→known (fold y)=true):=fun y hy=>ih y hy (hs.kid hy) (hw.kid hy)
  have hso:gK (.mk k n b s nm (ks.map fold)):=by
   refine .mk _ _ _ _ _ _ ?_ (fun y hy=>?_)
   ·rw [List.length_map];exact hs.own
   ·obtain⟨z,hz,rfl⟩:=List.mem_map.1 hy;exact(IH z hz).1
  have hwo:Wf (.mk k n b s nm (ks.map fold)):=by
   cases hw with|mk _ _ _ _ _ _ hk hn hb hs2 h=>
   refine .mk _ _ _ _ _ _ hk hn hb hs2 (fun y hy=>?_)
   obtain⟨z,hz,rfl⟩:=List.mem_map.1 hy;exact(IH z hz).2.1
  have hco:cst (.mk k n b s nm (ks.map fold))=cst (.mk k n b s nm ks):=by
   rw [kS,kS]
   show Cst.of k n b s (((ks.map fold).map cst).getD 0 _) (((ks.map fold).map cst).getD 1 _)=Cst.of k n b s ((ks.map cst).getD 0 _) ((ks.map cst).getD 1 _)
   have:(ks.map fold).map cst=ks.map cst:=by
    rw [List.map_map];exact List.map_congr_left (fun y hy=>(IH y hy).2.2.1)
   rw [this]
  rw [fold_eq]
  show gK (bQ k n b s nm (ks.map fold))∧Wf (bQ k n b s nm (ks.map fold))∧cst (bQ k n b s nm (ks.map fold))=_∧(_→known (bQ k n b s nm (ks.map fold))=true)
  unfold bQ
  split
  ·rename_i h
   have hf:Cst.Fine (cst (.mk k n b s nm (ks.map fold))):=fD _ hso hwo
   have:=hf h.2
   obtain⟨h1,h2,h3,h4⟩:=qy (cst (.mk k n b s nm (ks.map fold))).n (cst (.mk k n b s nm (ks.map fold))).b (cst (.mk k n b s nm (ks.map fold))).s (hf.U h.2) this.1 this.2.2
   refine⟨h1,h2,?_,fun _=>h4⟩
   rw [h3,←hco]
   rw [←h.2]
  ·rename_i h
   refine⟨hso,hwo,hco,fun he=>?_⟩
   rw [←hco]at he
   have hk1:k=1:=Classical.byContradiction fun hk1=>by
    apply h
    refine⟨?_,he⟩
    rw [kS]at he
    have he:(Cst.of k n b s (((ks.map fold).map cst).getD 0 ⟨0,0,false,0⟩) (((ks.map fold).map cst).getD 1 ⟨0,0,false,0⟩)).e=0:=he
    unfold Cst.of at he
    rw [if_neg hk1]at he
    split at he
    ·exact absurd he (by decide)
    rename_i hk5
    have hk5:5≤k∧k≤26:=by omega
    have all:∀y∈ks,(cst y).e=0:=by
     have ek:(ks.map fold).map cst=ks.map cst:=by
      rw [List.map_map];exact List.map_congr_left (fun y hy=>(IH y hy).2.2.1)
     rw [ek]at he
     rcases Int.lt_or_le k 9 with h9|h9
     ·obtain⟨y,hy⟩:=hs.one hk5.1 h9
      have hy:ks=[y]:=hy
      subst hy
      have e0:([y].map cst).getD 0 ⟨0,0,false,0⟩=cst y:=rfl
      rw [e0]at he
      intro z hz
      rw [List.mem_singleton]at hz;subst hz
      split at he
      ·rename_i h;exact he
      ·rename_i h;omega
     ·obtain⟨y,z,hy⟩:=hs.two h9
      have hy:ks=[y,z]:=hy
      subst hy
      have e0:([y,z].map cst).getD 0 ⟨0,0,false,0⟩=cst y:=rfl
      have e1:([y,z].map cst).getD 1 ⟨0,0,false,0⟩=cst z:=rfl
      rw [e0,e1]at he
      have hy0:(cst y).e=0:=by
       split at he
       ·exact he
       ·rename_i h;omega
      have hz0:(cst z).e=0:=by
       rw [if_neg (by omega),if_neg (by omega),if_neg (by omega)]at he
       split at he
       ·exact he
       ·rename_i h;omega
      intro q hq
      simp only [List.mem_cons,List.mem_singleton,List.not_mem_nil,or_false]at hq
      rcases hq with rfl|rfl
      ·exact hy0
      ·exact hz0
    rw [decide_eq_true hk5.1,Bool.true_and,List.all_eq_true]
    intro y hy
    obtain⟨z,hz,rfl⟩:=List.mem_map.1 hy
    exact(IH z hz).2.2.2 (all z hz)
   subst hk1
   rfl
end X
end
section
open Go.RowKit
namespace Ck
abbrev Nm:=List UInt8
structure Loc where
 nm:Nm
 b:Int
 s:Bool
 slot:Nat
structure Env where
 lv:List (List Loc)
 used:List Nm
 slots:List (Int×Bool)
 loops:Nat
structure Pl where
 b:Int
 s:Bool
 loc:Bool
 slot:Nat
 size:Int
def Env.jO(e:Env)(n:Nm):Option Loc:=(e.lv.flatten.reverse).find? (fun l=>l.nm==n)
def sQ(gs:List Gl)(n:Nm):Option (Nat×Gl):=(gs.zipIdx.find? (fun g=>g.1.nm.data.toList==n)).map fun g=>(g.2,g.1)
def find(P:Pg)(e:Env)(n:Nm):Option Pl:=
 match e.jO n with
 |some l=>some ⟨l.b,l.s,true,l.slot,0⟩
 |none=>(sQ P.gs n).map fun g=>⟨g.2.b,g.2.s,false,g.1,g.2.size⟩
def put:Nm:=[112,117,116]
def get:Nm:=[103,101,116]
def called(P:Pg)(n:Nm):Option ((Int×Bool)×List (Int×Bool)):=
 if n=put then some ((0,false),[(16,true)])else if n=get then some ((16,true),[])
 else(P.fs.find? (fun f=>f.nm.data.toList==n)).map fun f=>((f.b,f.s),f.ps.map fun p=>(p.b,p.s))
structure Ty where
 b:Int
 s:Bool
 e:Int
def Ty.val(t:Ty):Ty:=if t.e=0∧t.b=0 then⟨t.b,t.s,9⟩else t
def first:List Ty→Int
 |[]=>0
 |t::ts=>if t.e=0 then first ts else t.e
def jv(P:Pg)(e:Env)(k b:Int)(s:Bool)(n:Nm)(ts:List Ty):Ty:=
 if k=4 then
  match called P n with
  |none=>⟨0,false,7⟩
  |some (r,ps)=>if ps.length≠ts.length then⟨0,false,5⟩else if first ts≠0 then⟨0,false,first ts⟩else⟨r.1,r.2,0⟩
 else if first ts≠0 then⟨0,false,first ts⟩
 else if k=1∨k=5 then⟨b,s,0⟩
 else if k=2∨k=3 then
  match find P e n with
  |none=>⟨0,false,7⟩
  |some p=>if(decide (0<p.size))!=(k==3)then⟨0,false,9⟩else⟨p.b,p.s,0⟩
 else if k=6∨k=7 then⟨W.pb (ts.headD ⟨0,false,0⟩).b,W.ps (ts.headD ⟨0,false,0⟩).b (ts.headD ⟨0,false,0⟩).s,0⟩
 else if k=8∨k=25∨k=26 then⟨16,true,0⟩
 else⟨W.rb k (ts.getD 0 ⟨0,false,0⟩).b (ts.getD 1 ⟨0,false,0⟩).b,W.rs k (ts.getD 0 ⟨0,false,0⟩).b (ts.getD 0 ⟨0,false,0⟩).s (ts.getD 1 ⟨0,false,0⟩).b (ts.getD 1 ⟨0,false,0⟩).s,0⟩
mutual
def ty(P:Pg)(e:Env):X→Ty
 | .mk k _ b s nm ks=>jv P e k b s nm.data.toList (tys P e ks)
def tys(P:Pg)(e:Env):List X→List Ty
 |[]=>[]
 |x::xs=>(ty P e x).val::tys P e xs
end
def Env.open(e:Env):Env:={e with lv:=e.lv++[[]]}
def Env.close(e:Env):Env:={e with lv:=e.lv.dropLast}
def Env.declare(e:Env)(b:Int)(s:Bool)(n:Nm):Option Env:=
 if e.used.contains n then none else some {e with lv:=e.lv.dropLast++[(e.lv.getLastD [])++[⟨n,b,s,e.slots.length⟩]],used:=e.used++[n],slots:=e.slots++[(b,s)]}
def on(r:Int×Env)(f:Env→Int×Env):Int×Env:=if r.1=0 then f r.2 else r
def vals(P:Pg)(x:X)(e:Env):Int×Env:=((ty P e x).val.e,e)
def may(P:Pg)(has:Bool)(x:X)(e:Env):Int×Env:=if has=true then vals P x e else(0,e)
def shut(r:Int×Env):Int×Env:=(r.1,r.2.close)
def more(e:Env):Env:={e with loops:=e.loops+1}
def less(r:Int×Env):Int×Env:=(r.1,{r.2 with loops:=r.2.loops-1})
mutual
def stat(P:Pg)(rb:Int):S→Env→Int×Env
 | .mk k b s nm has x i l0 l1 l2 l3,e=>
   if k=2 then on (may P has x e) fun e=>match e.declare b s nm.data.toList with|none=>(7,e)|some e=>(0,e)
   else if k=3 then
    on (may P has i e) fun e=>match find P e nm.data.toList with
     |none=>(7,e)
     |some p=>if(decide (0<p.size))!=has then(9,e)else vals P x e
   else if k=4 then((ty P e x).e,e)
   else if k=8 then(if has !=(decide (0<rb))then(9,e)else may P has x e)
   else if k=9∨k=10 then(if e.loops=0 then 8 else 0,e)
   else if k=5 then on (vals P x e) fun e=>on (shut (stats P rb l2 e.open)) fun e=>shut (stats P rb l3 e.open)
   else if k=6 then on (vals P x e) fun e=>less (shut (stats P rb l2 (more e).open))
   else if k=7 then on (shut (stats P rb l0 e.open)) fun e=>on (may P has x e) fun e=>on (shut (stats P rb l1 e.open)) fun e=>less (shut (stats P rb l2 (more e).open))
   else if k=11 then shut (stats P rb l2 e.open)
   else(0,e)
def stats(P:Pg)(rb:Int):List S→Env→Int×Env
 |[],e=>(0,e)
 |x::xs,e=>on (stat P rb x e) fun e=>stats P rb xs e
end
def enter:List Pm→Env→Option Env
 |[],e=>some e
 |p::ps,e=>match e.declare p.b p.s p.nm.data.toList with|none=>none|some e=>enter ps e
def Env.new:Env:=⟨[[]],[],[],0⟩
def FM(b:Int):Int:=if b=8 then 1 else b/16
def words(l:List (Int×Bool)):Int:=(l.map fun t=>FM t.1).sum
def func(P:Pg)(f:Fn):Int:=match enter f.ps Env.new with
 |none=>7
 |some e=>if(stats P f.b f.body e.open).1≠0 then(stats P f.b f.body e.open).1 else if 200<words (stats P f.b f.body e.open).2.slots then 4 else 0
noncomputable def inits:List X→Int
 |[]=>0
 |x::xs=>if(X.cst x).e=0 then inits xs else(X.cst x).e
noncomputable def globs:Nat→List Nm→Int→List Gl→(Int×Nat)×List Nm
 |i,tk,all,[]=>((0,i),tk)
 |i,tk,all,g::gs=>
  if tk.contains g.nm.data.toList then((7,i),tk)
  else if 8000<all+(if g.size<1 then 1 else g.size)*FM g.b then((4,i),tk)
  else if inits g.ini≠0 then((inits g.ini,i),tk)
  else globs (i+1) (tk++[g.nm.data.toList]) (all+(if g.size<1 then 1 else g.size)*FM g.b) gs
def names:Nat→List Nm→List Fn→Int×Nat
 |i,tk,[]=>(0,i)
 |i,tk,f::fs=>if tk.contains f.nm.data.toList then(7,i)else names (i+1) (tk++[f.nm.data.toList]) fs
def funcs(P:Pg):Nat→List Fn→Int×Nat
 |i,[]=>(0,i)
 |i,f::fs=>if func P f=0 then funcs P (i+1) fs else(func P f,i)
def main:Nm:=[109,97,105,110]
def jw(P:Pg):Bool:=P.fs.any fun f=>f.nm.data.toList==main&&f.ps.isEmpty
noncomputable def check(P:Pg):Int×Nat:=
 if Pg.wrong P≠0 then(Pg.wrong P,0)
 else if(globs 0 [put,get] 0 P.gs).1.1≠0 then(globs 0 [put,get] 0 P.gs).1
 else if(names P.gs.length (globs 0 [put,get] 0 P.gs).2 P.fs).1≠0 then names P.gs.length (globs 0 [put,get] 0 P.gs).2 P.fs
 else if(funcs P P.gs.length P.fs).1≠0 then funcs P P.gs.length P.fs
 else if jw P=false then(6,P.gs.length+P.fs.length)
 else(0,0)
end Ck
end
section
open Go.RowKit
theorem X.dw{xs:List X}(ih:∀y∈xs,∀N d,N≤(X.cnt y N d).2):∀N d,N≤(X.cnts xs N d).2:=by
 induction xs with
 |nil=>intro N d;rw [X.cnts];exact Nat.le_refl _
 |cons x xs ih2=>
  intro N d
  rw [X.cnts]
  have h1:=ih x (List.mem_cons_self ..) N d
  split
  ·exact Nat.le_trans h1 (ih2 (fun z hz=>ih z (List.mem_cons_of_mem _ hz)) _ _)
  ·exact h1
theorem X.cnt_mono(x:X):∀N d,N≤(X.cnt x N d).2:=by
 induction x using X.up with
 |_ x ih=>
  intro N d
  rw [X.jP]
  split
  ·exact Nat.le_succ _
  ·split
   ·exact Nat.le_trans (Nat.le_succ _) (X.dw ih _ _)
   ·exact Nat.le_succ _
theorem mV{r:Int×Nat}{f:Nat→Int×Nat}{N:Nat}(hr:N≤r.2)(hf:∀M,M≤(f M).2):N≤(thn r f).2:=by
 unfold thn;split
 ·exact Nat.le_trans hr (hf _)
 ·exact hr
theorem S.dw{xs:List S}(ih:∀y∈xs,∀N d,N≤(S.cnt y N d).2):∀N d,N≤(S.cnts xs N d).2:=by
 induction xs with
 |nil=>intro N d;rw [S.cnts];exact Nat.le_refl _
 |cons x xs ih2=>
  intro N d
  rw [S.cnts]
  have h1:=ih x (List.mem_cons_self ..) N d
  split
  ·exact Nat.le_trans h1 (ih2 (fun z hz=>ih z (List.mem_cons_of_mem _ hz)) _ _)
  ·exact h1
theorem eX{c:Prop} [Decidable c]{r r':Int×Nat}{N:Nat}(h:N≤r.2)(h':N≤r'.2):N≤(if c then r else r').2:=by split<;>assumption
theorem S.rU(x:S):∀N d,N≤(S.cnt x N d).2∧((S.cnt x N d).1=0→N+1≤(S.cnt x N d).2):=by
 induction x using S.up with
 |_ x ih=>
  intro N d
  obtain⟨k,b,s,nm,has,x,i,l0,l1,l2,l3⟩:=x
  have i0:=S.dw (xs:=l0) fun y hy N d=>(ih y (.inl hy) N d).1
  have i1:=S.dw (xs:=l1) fun y hy N d=>(ih y (.inr (.inl hy)) N d).1
  have i2:=S.dw (xs:=l2) fun y hy N d=>(ih y (.inr (.inr (.inl hy))) N d).1
  have i3:=S.dw (xs:=l3) fun y hy N d=>(ih y (.inr (.inr (.inr hy))) N d).1
  have key:N+1≤(S.cnt (.mk k b s nm has x i l0 l1 l2 l3) N d).2:=by
   rw [S.cnt]
   refine eX (Nat.le_refl _) (eX (Nat.le_refl _) ?_)
   refine mV (eX (X.cnt_mono _ _ _) (Nat.le_refl _)) fun M=>?_
   refine mV (eX (eX (Nat.le_refl _) (i0 _ _)) (Nat.le_refl _)) fun M=>?_
   refine mV (eX (X.cnt_mono _ _ _) (Nat.le_refl _)) fun M=>?_
   refine mV (eX (eX (Nat.le_refl _) (i1 _ _)) (Nat.le_refl _)) fun M=>?_
   refine mV (eX (i2 _ _) (Nat.le_refl _)) fun M=>?_
   exact eX (i3 _ _) (Nat.le_refl _)
  exact⟨Nat.le_of_succ_le key,fun _=>key⟩
theorem S.fH(xs:List S):∀N d,N≤(S.cnts xs N d).2:=S.dw fun y _ N d=>(S.rU y N d).1
theorem bg{r:Int×Nat}{f:Nat→Int×Nat}(h:(thn r f).1=0):r.1=0∧thn r f=f r.2:=by
 unfold thn at*
 split at h
 ·rename_i h1;rw [if_pos h1];exact⟨h1,rfl⟩
 ·rename_i h1;exact absurd h h1
namespace Ck
theorem ni{r:Int×Env}{f:Env→Int×Env}(h:r.1≠0):on r f=r:=if_neg h
theorem zG{r:Int×Env}{f:Env→Int×Env}(h:r.1=0):on r f=f r.2:=if_pos h
def Kept(e e':Env):Prop:=e'.lv.length=e.lv.length∧e'.loops=e.loops∧e.slots.length≤e'.slots.length
theorem Kept.refl(e:Env):Kept e e:=⟨rfl,rfl,Nat.le_refl _⟩
theorem Kept.trans{a b c:Env}(h:Kept a b)(k:Kept b c):Kept a c:=⟨k.1.trans h.1,k.2.1.trans h.2.1,Nat.le_trans h.2.2 k.2.2⟩
theorem kQ{e:Env}{r:Int×Env}{f:Env→Int×Env}(hr:Kept e r.2)(hf:∀a,Kept e a→Kept e (f a).2):Kept e (on r f).2:=by
 unfold on;split
 ·exact hf _ hr
 ·exact hr
theorem jF{e a:Env}{r:Int×Env}(ha:Kept e a)(hr:Kept a.open r.2):Kept e (shut r).2:=by
 obtain⟨h1,h2,h3⟩:=hr
 refine ha.trans ⟨?_,h2,h3⟩
 show(r.2.lv.dropLast).length=_
 rw [List.length_dropLast,h1];simp [Env.open]
theorem yu{e a:Env}{r:Int×Env}(ha:Kept e a)(hr:Kept (more a).open r.2):Kept e (less (shut r)).2:=by
 obtain⟨h1,h2,h3⟩:=hr
 refine ha.trans ⟨?_,?_,h3⟩
 ·show(r.2.lv.dropLast).length=_
  rw [List.length_dropLast,h1];simp [Env.open,more]
 ·show r.2.loops-1=_
  rw [h2];simp [Env.open,more]
theorem dh(P:Pg)(has:Bool)(x:X)(e:Env):(may P has x e).2=e:=by unfold may vals;split<;>rfl
theorem jy{e e':Env}{b:Int}{s:Bool}{n:Nm}(h:e.declare b s n=some e')(h1:1≤e.lv.length):Kept e e'∧e'.slots.length=e.slots.length+1:=by
 unfold Env.declare at h
 split at h
 ·cases h
 ·injection h with h
  subst h
  refine⟨⟨?_,rfl,?_⟩,?_⟩
  ·show(e.lv.dropLast++[_]).length=_
   rw [List.length_append,List.length_dropLast];simp;omega
  ·show e.slots.length≤(e.slots++[_]).length;simp
  ·show(e.slots++[_]).length=_;simp
theorem gV{P:Pg}{rb:Int}{l:List S}(ih:∀y∈l,∀e,1≤e.lv.length→Kept e (stat P rb y e).2):∀e,1≤e.lv.length→Kept e (stats P rb l e).2:=by
 induction l with
 |nil=>intro e _;rw [stats];exact Kept.refl e
 |cons y l ih2=>
  intro e h1
  rw [stats]
  exact kQ (ih y (List.mem_cons_self ..) e h1) fun a ha=>ha.trans (ih2 (fun z hz=>ih z (List.mem_cons_of_mem _ hz)) a (by rw [ha.1];exact h1))
theorem aO(e:Env):1≤e.open.lv.length:=by simp [Env.open]
theorem rG(P:Pg)(rb:Int)(x:S):∀e,1≤e.lv.length→Kept e (stat P rb x e).2:=by
 induction x using S.up with
 |_ x ih=>
  intro e h1
  obtain⟨k,b,s,nm,has,x,i,l0,l1,l2,l3⟩:=x
  have i0:=gV (P:=P) (rb:=rb) (l:=l0) fun y hy e=>ih y (.inl hy) e
  have i1:=gV (P:=P) (rb:=rb) (l:=l1) fun y hy e=>ih y (.inr (.inl hy)) e
  have i2:=gV (P:=P) (rb:=rb) (l:=l2) fun y hy e=>ih y (.inr (.inr (.inl hy))) e
  have i3:=gV (P:=P) (rb:=rb) (l:=l3) fun y hy e=>ih y (.inr (.inr (.inr hy))) e
  rw [stat]
  have r0:=Kept.refl e
  have rm:∀x,Kept e (may P has x e).2:=fun x=>by rw [dh];exact r0
  have rv:Kept e (vals P x e).2:=r0
  split
  ·unfold on
   split
   ·rw [dh]
    try dsimp only
    cases hd:e.declare b s nm.data.toList with
    |none=>exact r0
    |some e'=>exact(jy hd h1).1
   ·exact rm x
  split
  ·refine kQ (rm i) fun a ha=>?_
   split
   ·exact ha
   ·split
    ·exact ha
    ·exact ha
  split
  ·exact r0
  split
  ·split
   ·exact r0
   ·exact rm x
  split
  ·exact r0
  split
  ·refine kQ rv fun a ha=>?_
   exact kQ (jF ha (i2 _ (aO a))) fun c hc=>jF hc (i3 _ (aO c))
  split
  ·exact kQ rv fun a ha=>yu ha (i2 _ (aO _))
  split
  ·refine kQ (jF r0 (i0 _ (aO e))) fun a ha=>?_
   refine kQ (by rw [dh];exact ha) fun c hc=>?_
   exact kQ (jF hc (i1 _ (aO c))) fun d hd=>yu hd (i2 _ (aO _))
  split
  ·exact jF r0 (i2 _ (aO e))
  ·exact r0
theorem oQ(P:Pg)(rb:Int)(l:List S):∀e,1≤e.lv.length→Kept e (stats P rb l e).2:=gV fun y _=>rG P rb y
def yL(r:Int×Env)(M:Nat):Prop:=r.2.slots.length≤M+8
theorem kC{r:Int×Env}{M:Nat}(h:yL r M):yL (shut r) M:=h
theorem Aj{r:Int×Env}{M:Nat}(h:yL r M):yL (less r) M:=h
theorem yL.mono{r:Int×Env}{M M':Nat}(h:yL r M)(hm:M≤M'):yL r M':=Nat.le_trans h (by omega)
theorem MZ{r:Int×Env}{f:Env→Int×Env}{M M':Nat}(hr:yL r M)(hm:M≤M')(hf:∀a,a.slots.length≤M+8→yL (f a) M'):yL (on r f) M':=by
 unfold on;split
 ·exact hf _ hr
 ·exact hr.mono hm
theorem yD{r:Int×Env}{f:Env→Int×Env}{M M':Nat}(hr:yL r M)(hm:M≤M')(hf:yL (f r.2) M'):yL (on r f) M':=by
 unfold on;split
 ·exact hf
 ·exact hr.mono hm
theorem iL{P:Pg}{rb:Int}{l:List S}(ih:∀y∈l,∀e N d,(S.cnt y N d).1=0→1≤e.lv.length→e.slots.length≤N+8→yL (stat P rb y e) (S.cnt y N d).2):
 ∀e N d,(S.cnts l N d).1=0→1≤e.lv.length→e.slots.length≤N+8→yL (stats P rb l e) (S.cnts l N d).2:=by
 induction l with
 |nil=>intro e N d _ _ h;rw [stats,S.cnts];exact h
 |cons y l ih2=>
  intro e N d h0 h1 h
  rw [S.cnts]at h0⊢
  rw [stats]
  by_cases hc:(S.cnt y N d).1=0
  ·rw [if_pos hc]at h0⊢
   have hy:=ih y (List.mem_cons_self ..) e N d hc h1 h
   unfold on
   split
   ·refine ih2 (fun z hz=>ih z (List.mem_cons_of_mem _ hz)) _ _ _ h0 ?_ hy
    have:=(rG P rb y e h1).1;omega
   ·exact hy.mono (S.fH _ _ _)
  ·rw [if_neg hc]at h0;exact absurd h0 hc
theorem NY(P:Pg)(rb:Int)(x:S):∀e N d,(S.cnt x N d).1=0→1≤e.lv.length→e.slots.length≤N+8→yL (stat P rb x e) (S.cnt x N d).2:=by
 induction x using S.up with
 |_ x ih=>
  intro e N d h0 h1 h
  obtain⟨k,b,s,nm,has,x,i,l0,l1,l2,l3⟩:=x
  have i0:=iL (P:=P) (rb:=rb) (l:=l0) fun y hy e=>ih y (.inl hy) e
  have i1:=iL (P:=P) (rb:=rb) (l:=l1) fun y hy e=>ih y (.inr (.inl hy)) e
  have i2:=iL (P:=P) (rb:=rb) (l:=l2) fun y hy e=>ih y (.inr (.inr (.inl hy))) e
  have i3:=iL (P:=P) (rb:=rb) (l:=l3) fun y hy e=>ih y (.inr (.inr (.inr hy))) e
  have hmono:=(S.rU (.mk k b s nm has x i l0 l1 l2 l3) N d).2 h0
  have es:∀{r:Int×Env},r.2.slots=e.slots→yL r (S.cnt (.mk k b s nm has x i l0 l1 l2 l3) N d).2:=fun{r}hr=>by unfold yL;rw [hr];omega
  obtain⟨M,hM⟩:∃M,M=(S.cnt (.mk k b s nm has x i l0 l1 l2 l3) N d).2:=⟨_,rfl⟩
  rw [←hM]at hmono es⊢
  rw [S.cnt]at h0 hM
  split at h0
  ·exact absurd h0 (by show¬(4:Int)=0;decide)
  rename_i c0
  rw [if_neg c0]at hM
  split at h0
  ·rename_i c1;exact absurd h0 c1
  rename_i c1
  rw [if_neg c1]at hM
  obtain⟨z1,t1⟩:=bg h0
  rw [t1]at h0 hM
  obtain⟨z2,t2⟩:=bg h0
  rw [t2]at h0 hM
  obtain⟨z3,t3⟩:=bg h0
  rw [t3]at h0 hM
  obtain⟨z4,t4⟩:=bg h0
  rw [t4]at h0 hM
  obtain⟨z5,t5⟩:=bg h0
  rw [t5]at h0 hM
  rw [stat]
  have ev:∀{x:X},(vals P x e).2.slots=e.slots:=rfl
  have em:∀{h:Bool}{x:X},(may P h x e).2.slots=e.slots:=fun{h x}=>by rw [dh]
  split
  ·refine yD (es em) (Nat.le_refl _) ?_
   rw [dh]
   try dsimp only
   cases hd:e.declare b s nm.data.toList with
   |none=>exact es rfl
   |some e'=>have:=(jy hd h1).2;show e'.slots.length≤M+8;omega
  rename_i k2
  split
  ·refine yD (es em) (Nat.le_refl _) ?_
   rw [dh]
   try dsimp only
   split
   ·exact es rfl
   ·split
    ·exact es rfl
    ·exact es ev
  rename_i k3
  split
  ·exact es rfl
  split
  ·split
   ·exact es rfl
   ·exact es em
  split
  ·exact es rfl
  have a1:(if k=3∧has=true then X.cnt i (N+1) (d+1)else(0,N+1))=(0,N+1):=if_neg (fun hh=>k3 hh.1)
  rw [a1]at t2 t3 t4 t5 h0 hM z2 z3 z4 z5
  simp only []at t2 t3 t4 t5 h0 hM z2 z3 z4 z5
  split
  ·rename_i k5
   have a2:(if k=7 then(if S.brk l0≠0 then(S.brk l0,N+1)else S.cnts l0 (N+1) (d+1))else(0,N+1))=(0,N+1):=if_neg (by omega)
   rw [a2]at t3 t4 t5 h0 hM z3 z4 z5
   simp only []at t3 t4 t5 h0 hM z3 z4 z5
   generalize hX:(if S.looks k has=true then X.cnt x (N+1) (d+1)else((0:Int),N+1))=RX at z3 z4 z5 h0 hM
   have hXm:N+1≤RX.2:=by rw [←hX];exact eX (X.cnt_mono _ _ _) (Nat.le_refl _)
   have a4:(if k=7 then(if S.brk l1≠0 then(S.brk l1,RX.2)else S.cnts l1 RX.2 (d+1))else(0,RX.2))=(0,RX.2):=if_neg (by omega)
   rw [a4]at z5 h0 hM
   simp only []at z5 h0 hM
   rw [if_pos (Or.inl k5)]at z5 h0 hM
   rw [if_pos k5]at h0 hM
   refine yD (es ev) (Nat.le_refl _) ?_
   have hs2:=i2 e.open RX.2 (d+1) z5 (aO e) (by show e.slots.length≤_;omega)
   rw [hM]
   refine yD (kC hs2) (S.fH _ _ _) ?_
   exact kC (i3 _ _ _ h0 (aO _) hs2)
  rename_i k5
  split
  ·rename_i k6
   have a2:(if k=7 then(if S.brk l0≠0 then(S.brk l0,N+1)else S.cnts l0 (N+1) (d+1))else(0,N+1))=(0,N+1):=if_neg (by omega)
   rw [a2]at t3 t4 t5 h0 hM z3 z4 z5
   simp only []at t3 t4 t5 h0 hM z3 z4 z5
   generalize hX:(if S.looks k has=true then X.cnt x (N+1) (d+1)else((0:Int),N+1))=RX at z3 z4 z5 h0 hM
   have hXm:N+1≤RX.2:=by rw [←hX];exact eX (X.cnt_mono _ _ _) (Nat.le_refl _)
   have a4:(if k=7 then(if S.brk l1≠0 then(S.brk l1,RX.2)else S.cnts l1 RX.2 (d+1))else(0,RX.2))=(0,RX.2):=if_neg (by omega)
   rw [a4]at z5 h0 hM
   simp only []at z5 h0 hM
   rw [if_pos (Or.inr (Or.inl k6))]at z5 h0 hM
   rw [if_neg k5]at h0 hM
   refine yD (es ev) (Nat.le_refl _) ?_
   rw [hM]
   exact Aj (kC (i2 _ _ _ z5 (aO _) (by show e.slots.length≤_;omega)))
  rename_i k6
  split
  ·rename_i k7
   simp only [if_pos k7]at z2 z3 z4 z5 h0 hM
   split at z2
   ·rename_i hb;exact absurd z2 hb
   rename_i hb
   rw [if_neg hb]at z3 z4 z5 h0 hM
   generalize hR0:S.cnts l0 (N+1) (d+1)=R0 at z2 z3 z4 z5 h0 hM
   have m0:N+1≤R0.2:=by rw [←hR0];exact S.fH _ _ _
   obtain⟨RX,hX⟩:∃RX,RX=(if S.looks k has=true then X.cnt x R0.2 (d+1)else((0:Int),R0.2)):=⟨_,rfl⟩
   rw [←hX]at z3 z4 z5 h0 hM
   have hXm:R0.2≤RX.2:=by rw [hX];exact eX (X.cnt_mono _ _ _) (Nat.le_refl _)
   split at z4
   ·rename_i hb;exact absurd z4 hb
   rename_i hb1
   rw [if_neg hb1]at z5 h0 hM
   generalize hR1:S.cnts l1 RX.2 (d+1)=R1 at z4 z5 h0 hM
   have m1:RX.2≤R1.2:=by rw [←hR1];exact S.fH _ _ _
   rw [if_pos (Or.inr (Or.inr (Or.inl k7)))]at z5 h0 hM
   rw [if_neg k5]at h0 hM
   have m2:R1.2≤M:=by rw [hM];exact S.fH _ _ _
   have hs0:=i0 e.open (N+1) (d+1) (by rw [hR0];exact z2) (aO e) (by show e.slots.length≤_;omega)
   rw [hR0]at hs0
   refine MZ (kC hs0) (by omega) fun a ha=>?_
   refine yD (M:=R0.2) (by show(may P has x a).2.slots.length≤_;rw [dh];exact ha) (by omega) ?_
   rw [dh]
   have hs1:=i1 a.open RX.2 (d+1) (by rw [hR1];exact z4) (aO a) (by show a.slots.length≤_;omega)
   rw [hR1]at hs1
   refine MZ (kC hs1) m2 fun c hc=>?_
   rw [hM]
   exact Aj (kC (i2 _ _ _ z5 (aO _) (by show c.slots.length≤_;omega)))
  rename_i k7
  have a2:(if k=7 then(if S.brk l0≠0 then(S.brk l0,N+1)else S.cnts l0 (N+1) (d+1))else(0,N+1))=(0,N+1):=if_neg (by omega)
  rw [a2]at t3 t4 t5 h0 hM z3 z4 z5
  simp only []at t3 t4 t5 h0 hM z3 z4 z5
  generalize hX:(if S.looks k has=true then X.cnt x (N+1) (d+1)else((0:Int),N+1))=RX at z3 z4 z5 h0 hM
  have hXm:N+1≤RX.2:=by rw [←hX];exact eX (X.cnt_mono _ _ _) (Nat.le_refl _)
  have a4:(if k=7 then(if S.brk l1≠0 then(S.brk l1,RX.2)else S.cnts l1 RX.2 (d+1))else(0,RX.2))=(0,RX.2):=if_neg (by omega)
  rw [a4]at z5 h0 hM
  simp only []at z5 h0 hM
  split
  ·rename_i k11
   rw [if_pos (Or.inr (Or.inr (Or.inr k11)))]at z5 h0 hM
   rw [if_neg k5]at h0 hM
   rw [hM]
   exact kC (i2 _ _ _ z5 (aO _) (by show e.slots.length≤_;omega))
  ·exact es rfl
theorem rF(P:Pg)(rb:Int)(l:List S):∀e N d,(S.cnts l N d).1=0→1≤e.lv.length→e.slots.length≤N+8→yL (stats P rb l e) (S.cnts l N d).2:=iL fun y _=>NY P rb y
theorem qJ{r:Int×Env}{f:Env→Int×Env}(h:(on r f).1=0):r.1=0∧on r f=f r.2:=by
 unfold on at*
 split at h
 ·rename_i h1;exact⟨h1,if_pos h1⟩
 ·rename_i h1;exact absurd h h1
theorem Dp(P:Pg)(rb:Int)(l:List S)(x:S):∀e,(stats P rb l e).1=0→stats P rb (l++[x]) e=stat P rb x (stats P rb l e).2:=by
 induction l with
 |nil=>
  intro e _
  rw [List.nil_append,stats,stats]
  unfold on
  split
  ·rename_i h;rw [Prod.ext_iff];exact⟨h.symm,rfl⟩
  ·rfl
 |cons y l ih=>
  intro e h
  rw [stats]at h
  rw [List.cons_append,stats,stats]
  obtain⟨h1,h2⟩:=qJ h
  rw [zG h1,zG h1]
  rw [h2]at h
  exact ih _ h
theorem Dt(P:Pg)(rb:Int)(l m:List S):∀e,(stats P rb l e).1≠0→stats P rb (l++m) e=stats P rb l e:=by
 induction l with
 |nil=>intro e h;rw [stats]at h;exact absurd rfl h
 |cons y l ih=>
  intro e h
  rw [stats]at h
  rw [List.cons_append,stats,stats]
  unfold on at*
  split at h
  ·rename_i h1;rw [if_pos h1,if_pos h1];exact ih _ h
  ·rename_i h1;rw [if_neg h1,if_neg h1]
end Ck
end
section
open Go.RowKit
namespace S
variable{k b:Int}{s:Bool}{nm:ByteArray}{has:Bool}{x i:X}{l0 l1 l2 l3:List S}{N:Nat}{d:Int}
structure Cnt(k b:Int)(nm:ByteArray)(has:Bool)(x i:X)(l0 l1 l2 l3:List S)(N:Nat)(d:Int)(N1 N2 N3 N4 N5:Nat):Prop where
 nn:N<20000
 dd:d≤100
 ow:S.own k b nm.data.toList=0
 c1:(if k=3∧has=true then X.cnt i (N+1) (d+1)else(0,N+1))=(0,N1)
 c2:(if k=7 then(if brk l0≠0 then(brk l0,N1)else cnts l0 N1 (d+1))else(0,N1))=(0,N2)
 c3:(if looks k has=true then X.cnt x N2 (d+1)else(0,N2))=(0,N3)
 c4:(if k=7 then(if brk l1≠0 then(brk l1,N3)else cnts l1 N3 (d+1))else(0,N3))=(0,N4)
 c5:(if k=5∨k=6∨k=7∨k=11 then cnts l2 N4 (d+1)else(0,N4))=(0,N5)
 c6:k=5→(cnts l3 N5 (d+1)).1=0
theorem nJ{r:Int×Nat}(h:r.1=0):r=(0,r.2):=by rw [Prod.ext_iff];exact⟨h,rfl⟩
theorem iJ(h:(S.cnt (.mk k b s nm has x i l0 l1 l2 l3) N d).1=0):∃N1 N2 N3 N4 N5,Cnt k b nm has x i l0 l1 l2 l3 N d N1 N2 N3 N4 N5:=by
 rw [S.cnt]at h
 split at h
 ·exact absurd h (by show¬(4:Int)=0;decide)
 rename_i h0
 split at h
 ·rename_i h1;exact absurd h h1
 rename_i h1
 obtain⟨z1,t1⟩:=bg h
 rw [t1]at h
 obtain⟨z2,t2⟩:=bg h
 rw [t2]at h
 obtain⟨z3,t3⟩:=bg h
 rw [t3]at h
 obtain⟨z4,t4⟩:=bg h
 rw [t4]at h
 obtain⟨z5,t5⟩:=bg h
 rw [t5]at h
 exact⟨_,_,_,_,_,by omega,by omega,Classical.not_not.1 h1,nJ z1,nJ z2,nJ z3,nJ z4,nJ z5,fun hk=>by rw [if_pos hk]at h;exact h⟩
section
variable{N1 N2 N3 N4 N5:Nat}(h:Cnt k b nm has x i l0 l1 l2 l3 N d N1 N2 N3 N4 N5)
include h
theorem Cnt.m1:N+1≤N1:=by
 have h0:=h.c1
 split at h0
 ·have:=X.cnt_mono i (N+1) (d+1);rw [h0]at this;exact this
 ·injection h0 with _ h0;omega
theorem Cnt.m2:N1≤N2:=by
 have h0:=h.c2
 split at h0
 ·split at h0
  ·injection h0 with _ h0;omega
  ·have:=S.fH l0 N1 (d+1);rw [h0]at this;exact this
 ·injection h0 with _ h0;omega
theorem Cnt.m3:N2≤N3:=by
 have h0:=h.c3
 split at h0
 ·have:=X.cnt_mono x N2 (d+1);rw [h0]at this;exact this
 ·injection h0 with _ h0;omega
theorem Cnt.m4:N3≤N4:=by
 have h0:=h.c4
 split at h0
 ·split at h0
  ·injection h0 with _ h0;omega
  ·have:=S.fH l1 N3 (d+1);rw [h0]at this;exact this
 ·injection h0 with _ h0;omega
theorem Cnt.m5:N4≤N5:=by
 have h0:=h.c5
 split at h0
 ·have:=S.fH l2 N4 (d+1);rw [h0]at this;exact this
 ·injection h0 with _ h0;omega
theorem Cnt.sH(hl:looks k has=true):X.gK x:=by
 have h0:=h.c3
 rw [if_pos hl]at h0
 exact X.nR x N2 (d+1) (by rw [h0])
theorem Cnt.Wy(hk:k=3)(hh:has=true):X.gK i:=by
 have h0:=h.c1
 rw [if_pos ⟨hk,hh⟩]at h0
 exact X.nR i (N+1) (d+1) (by rw [h0])
theorem Cnt.yH(hk:k=7):cnts l0 N1 (d+1)=(0,N2):=by
 have h0:=h.c2
 rw [if_pos hk]at h0
 split at h0
 ·rename_i hb;injection h0 with h0 _;exact absurd h0 hb
 ·exact h0
theorem Cnt.yI(hk:k=7):cnts l1 N3 (d+1)=(0,N4):=by
 have h0:=h.c4
 rw [if_pos hk]at h0
 split at h0
 ·rename_i hb;injection h0 with h0 _;exact absurd h0 hb
 ·exact h0
theorem Cnt.pR(hk:k=5∨k=6∨k=7∨k=11):cnts l2 N4 (d+1)=(0,N5):=by
 have h0:=h.c5
 rwa [if_pos hk]at h0
theorem Cnt.b1:N1≤20000:=by
 have h0:=h.c1
 split at h0
 ·have:=X.dQ i (N+1) (d+1) (by have:=h.nn;omega) (by rw [h0]);rw [h0]at this;exact this
 ·injection h0 with _ h0;have:=h.nn;omega
theorem Cnt.b2:N2≤20000:=by
 have h1:=h.b1
 have h0:=h.c2
 split at h0
 ·split at h0
  ·injection h0 with _ h0;omega
  ·have:=S.bF l0 N1 (d+1) h1 (by rw [h0]);rw [h0]at this;exact this
 ·injection h0 with _ h0;omega
theorem Cnt.b3:N3≤20000:=by
 have h1:=h.b2
 have h0:=h.c3
 split at h0
 ·have:=X.dQ x N2 (d+1) h1 (by rw [h0]);rw [h0]at this;exact this
 ·injection h0 with _ h0;omega
theorem Cnt.b4:N4≤20000:=by
 have h1:=h.b3
 have h0:=h.c4
 split at h0
 ·split at h0
  ·injection h0 with _ h0;omega
  ·have:=S.bF l1 N3 (d+1) h1 (by rw [h0]);rw [h0]at this;exact this
 ·injection h0 with _ h0;omega
theorem Cnt.b5:N5≤20000:=by
 have h1:=h.b4
 have h0:=h.c5
 split at h0
 ·have:=S.bF l2 N4 (d+1) h1 (by rw [h0]);rw [h0]at this;exact this
 ·injection h0 with _ h0;omega
end
end S
end
section
open Go.RowKit
namespace X
theorem NZ(n b:Int)(s:Bool)(hn:W.U n)(hb:W.ok b)(hlt:n<W.md b):fold (lit n b s)=lit n b s:=by
 have hg:=(qy n b s hn hb hlt).2.2.1
 have one:∀(n b:Int)(s:Bool),fold (.mk 1 n b s ⟨#[]⟩ [])= .mk 1 n b s ⟨#[]⟩ []:=fun n b s=>by
  rw [fold_eq]
  show bQ 1 n b s ⟨#[]⟩ []=_
  unfold bQ
  rw [if_neg (by simp)]
 by_cases h:W.lit n (!s)=(b,s,0)
 ·have e:lit n b s= .mk 1 n b s ⟨#[]⟩ []:=if_pos h
  rw [e];exact one n b s
 ·have e:lit n b s= .mk 5 0 b s ⟨#[]⟩ [.mk 1 n (W.lit n true).1 (W.lit n true).2.1 ⟨#[]⟩ []]:=if_neg h
  rw [e]at hg
  rw [e,fold_eq]
  show bQ 5 0 b s ⟨#[]⟩ [fold (.mk 1 n (W.lit n true).1 (W.lit n true).2.1 ⟨#[]⟩ [])]=_
  rw [one]
  unfold bQ
  rw [hg,if_pos ⟨rfl,rfl⟩]
  exact e
theorem iQ(x:X):gK x→Wf x→fold (fold x)=fold x:=by
 induction x using X.up with
 |_ x ih=>
  intro hs hw
  obtain⟨k,n,b,s,nm,ks⟩:=x
  have IH:∀y∈ks,gK (fold y)∧Wf (fold y)∧cst (fold y)=cst y∧((cst y).e=0→known (fold y)=true):=fun y hy=>dL y (hs.kid hy) (hw.kid hy)
  have hso:gK (.mk k n b s nm (ks.map fold)):=by
   refine .mk _ _ _ _ _ _ ?_ (fun y hy=>?_)
   ·rw [List.length_map];exact hs.own
   ·obtain⟨z,hz,rfl⟩:=List.mem_map.1 hy;exact(IH z hz).1
  have hwo:Wf (.mk k n b s nm (ks.map fold)):=by
   cases hw with|mk _ _ _ _ _ _ hk hn hb hs2 h=>
   refine .mk _ _ _ _ _ _ hk hn hb hs2 (fun y hy=>?_)
   obtain⟨z,hz,rfl⟩:=List.mem_map.1 hy;exact(IH z hz).2.1
  have hkk:(ks.map fold).map fold=ks.map fold:=by
   rw [List.map_map];exact List.map_congr_left fun y hy=>ih y hy (hs.kid hy) (hw.kid hy)
  rw [fold_eq (.mk k n b s nm ks)]
  show fold (bQ k n b s nm (ks.map fold))=bQ k n b s nm (ks.map fold)
  by_cases hc:(decide (5≤k)&&(ks.map fold).all known)=true∧(cst (.mk k n b s nm (ks.map fold))).e=0
  ·have e:bQ k n b s nm (ks.map fold)=lit (cst (.mk k n b s nm (ks.map fold))).n (cst (.mk k n b s nm (ks.map fold))).b (cst (.mk k n b s nm (ks.map fold))).s:=if_pos hc
   have hf:Cst.Fine (cst (.mk k n b s nm (ks.map fold))):=fD _ hso hwo
   have h3:=hf hc.2
   rw [e];exact NZ _ _ _ (hf.U hc.2) h3.1 h3.2.2
  ·have e:bQ k n b s nm (ks.map fold)= .mk k n b s nm (ks.map fold):=if_neg hc
   rw [e,fold_eq]
   show bQ k n b s nm ((ks.map fold).map fold)=_
   rw [hkk,e]
end X
namespace S
def blk(l:List S):S:= .mk 11 0 false ⟨#[]⟩ false X.zero X.zero [] [] l []
def none0:S:= .mk 1 0 false ⟨#[]⟩ false X.zero X.zero [] [] [] []
noncomputable def after:S→S
 | .mk k b s nm has x i l0 l1 l2 l3=>
   if k=5∧X.known x=true then blk (if(X.cst x).n≠0 then l2 else l3)
   else if k=6∧X.known x=true∧(X.cst x).n=0 then none0
   else .mk k b s nm has x i l0 l1 l2 l3
noncomputable def prt(k b:Int)(s:Bool)(nm:ByteArray)(has:Bool)(x i:X)(l0 l1 l2 l3 f0 f1 f2 f3:List S):S:=
 .mk k b s nm has (if looks k has=true then X.fold x else x) (if k=3∧has=true then X.fold i else i) (if k=7 then f0 else l0) (if k=7 then f1 else l1)
  (if k=5∨k=6∨k=7∨k=11 then f2 else l2) (if k=5 then f3 else if k=6∨k=7∨k=11 then[]else l3)
mutual
noncomputable def fold:S→S
 | .mk k b s nm has x i l0 l1 l2 l3=>after (prt k b s nm has x i l0 l1 l2 l3 (folds l0) (folds l1) (folds l2) (folds l3))
noncomputable def folds:List S→List S
 |[]=>[]
 |y::l=>fold y::folds l
end
theorem gQ(l:List S):folds l=l.map fold:=by
 induction l with
 |nil=>rw [folds];rfl
 |cons x xs ih=>rw [folds,ih];rfl
theorem MN(l:List S):fold (blk l)=blk (folds l):=by
 unfold blk
 rw [fold]
 unfold prt
 rw [show looks 11 false=false from rfl,if_neg (by decide),if_neg (by decide),if_neg (by decide),if_pos (by decide),if_neg (by decide),if_pos (by decide),after,if_neg (fun h=>absurd h.1 (by decide)),if_neg (fun h=>absurd h.1 (by decide))]
theorem IG:fold none0=none0:=by
 unfold none0
 rw [fold]
 unfold prt
 rw [show looks 1 false=false from rfl,if_neg (by decide),if_neg (by decide),if_neg (by decide),if_neg (by decide),if_neg (by decide),if_neg (by decide),after,if_neg (fun h=>absurd h.1 (by decide)),if_neg (fun h=>absurd h.1 (by decide))]
theorem Wf.x{k b:Int}{s:Bool}{nm:ByteArray}{has:Bool}{x i:X}{l0 l1 l2 l3:List S}(h:S.Wf (.mk k b s nm has x i l0 l1 l2 l3)):X.Wf x∧X.Wf i∧(∀y∈l0,S.Wf y)∧(∀y∈l1,S.Wf y)∧(∀y∈l2,S.Wf y)∧(∀y∈l3,S.Wf y):=by
 cases h with|mk _ _ _ _ _ _ _ _ _ _ _ hk hb hs hx hi h0 h1 h2 h3=>exact⟨hx,hi,h0,h1,h2,h3⟩
def Dz(l:List S):Prop:=folds (folds l)=folds l
theorem BX{l:List S}{N:Nat}{d:Int}(h:(cnts l N d).1=0):∀y∈l,∃M,(cnt y M d).1=0:=by
 induction l generalizing N with
 |nil=>intro y hy;simp at hy
 |cons x l ih=>
  rw [cnts]at h
  split at h
  ·rename_i h1
   intro y hy
   rcases List.mem_cons.1 hy with rfl|hy
   ·exact⟨N,h1⟩
   ·exact ih h y hy
  ·rename_i h1;exact absurd h h1
theorem pV{l:List S}{N:Nat}{d:Int}(h:(cnts l N d).1=0)(hw:∀y∈l,S.Wf y)(ih:∀y∈l,∀N d,(cnt y N d).1=0→S.Wf y→fold (fold y)=fold y):Dz l:=by
 unfold Dz
 rw [gQ,gQ,List.map_map]
 exact List.map_congr_left fun y hy=>by obtain⟨M,hM⟩:=BX h y hy;exact ih y hy M d hM (hw y hy)
theorem iQ(y:S):∀N d,(cnt y N d).1=0→S.Wf y→fold (fold y)=fold y:=by
 induction y using S.up with
 |_ y ih=>
  intro N d hc hw
  obtain⟨k,b,s,nm,has,x,i,l0,l1,l2,l3⟩:=y
  obtain⟨N1,N2,N3,N4,N5,C⟩:=iJ hc
  obtain⟨wx,wi,w0,w1,w2,w3⟩:=hw.x
  have s0:k=7→Dz l0:=fun hk=>pV (by rw [C.yH hk]) w0 (fun y hy=>ih y (.inl hy))
  have s1:k=7→Dz l1:=fun hk=>pV (by rw [C.yI hk]) w1 (fun y hy=>ih y (.inr (.inl hy)))
  have s2:k=5∨k=6∨k=7∨k=11→Dz l2:=fun hk=>pV (by rw [C.pR hk]) w2 (fun y hy=>ih y (.inr (.inr (.inl hy))))
  have s3:k=5→Dz l3:=fun hk=>pV (C.c6 hk) w3 (fun y hy=>ih y (.inr (.inr (.inr hy))))
  rw [fold]
  obtain⟨px,hpx⟩:∃px,px=(if looks k has=true then X.fold x else x):=⟨_,rfl⟩
  obtain⟨pi,hpi⟩:∃pi,pi=(if k=3∧has=true then X.fold i else i):=⟨_,rfl⟩
  obtain⟨p0,hp0⟩:∃p0,p0=(if k=7 then folds l0 else l0):=⟨_,rfl⟩
  obtain⟨p1,hp1⟩:∃p1,p1=(if k=7 then folds l1 else l1):=⟨_,rfl⟩
  obtain⟨p2,hp2⟩:∃p2,p2=(if k=5∨k=6∨k=7∨k=11 then folds l2 else l2):=⟨_,rfl⟩
  obtain⟨p3,hp3⟩:∃p3,p3=(if k=5 then folds l3 else if k=6∨k=7∨k=11 then[]else l3):=⟨_,rfl⟩
  have e:prt k b s nm has x i l0 l1 l2 l3 (folds l0) (folds l1) (folds l2) (folds l3)= .mk k b s nm has px pi p0 p1 p2 p3:=by rw [hpx,hpi,hp0,hp1,hp2,hp3];rfl
  have e2:prt k b s nm has px pi p0 p1 p2 p3 (folds p0) (folds p1) (folds p2) (folds p3)= .mk k b s nm has px pi p0 p1 p2 p3:=by
   unfold prt
   have x1:(if looks k has=true then X.fold px else px)=px:=by
    by_cases h:looks k has=true
    ·rw [if_pos h];rw [if_pos h]at hpx;rw [hpx];exact X.iQ x (C.sH h) wx
    ·rw [if_neg h]
   have x2:(if k=3∧has=true then X.fold pi else pi)=pi:=by
    by_cases h:k=3∧has=true
    ·rw [if_pos h];rw [if_pos h]at hpi;rw [hpi];exact X.iQ i (C.Wy h.1 h.2) wi
    ·rw [if_neg h]
   have x3:(if k=7 then folds p0 else p0)=p0:=by
    by_cases h:k=7
    ·rw [if_pos h];rw [if_pos h]at hp0;rw [hp0];exact s0 h
    ·rw [if_neg h]
   have x4:(if k=7 then folds p1 else p1)=p1:=by
    by_cases h:k=7
    ·rw [if_pos h];rw [if_pos h]at hp1;rw [hp1];exact s1 h
    ·rw [if_neg h]
   have x5:(if k=5∨k=6∨k=7∨k=11 then folds p2 else p2)=p2:=by
    by_cases h:k=5∨k=6∨k=7∨k=11
    ·rw [if_pos h];rw [if_pos h]at hp2;rw [hp2];exact s2 h
    ·rw [if_neg h]
   have x6:(if k=5 then folds p3 else if k=6∨k=7∨k=11 then[]else p3)=p3:=by
    by_cases h:k=5
    ·rw [if_pos h];rw [if_pos h]at hp3;rw [hp3];exact s3 h
    ·rw [if_neg h];rw [if_neg h]at hp3
     by_cases h2:k=6∨k=7∨k=11
     ·rw [if_pos h2];rw [if_pos h2]at hp3;exact hp3.symm
     ·rw [if_neg h2]
   rw [x1,x2,x3,x4,x5,x6]
  rw [e]
  rw [after]
  by_cases c1:k=5∧X.known px=true
  ·rw [if_pos c1,MN]
   have h5:=c1.1
   congr 1
   split
   ·rw [hp2,if_pos (.inl h5)];exact s2 (.inl h5)
   ·rw [hp3,if_pos h5];exact s3 h5
  rw [if_neg c1]
  by_cases c2:k=6∧X.known px=true∧(X.cst px).n=0
  ·rw [if_pos c2];exact IG
  rw [if_neg c2,fold,e2,after,if_neg c1,if_neg c2]
theorem stay{l:List S}{N:Nat}{d:Int}(h:(cnts l N d).1=0)(hw:∀y∈l,S.Wf y):Dz l:=pV h hw fun y _=>iQ y
end S
noncomputable def Gl.fold(g:Gl):Gl:={g with ini:=g.ini.map X.fold}
noncomputable def Fn.fold(f:Fn):Fn:={f with body:=S.folds f.body}
noncomputable def Pg.fold(P:Pg):Pg:=⟨P.gs.map Gl.fold,P.fs.map Fn.fold⟩
end
end Go.Proofs.Ythdckndjggljpaa
